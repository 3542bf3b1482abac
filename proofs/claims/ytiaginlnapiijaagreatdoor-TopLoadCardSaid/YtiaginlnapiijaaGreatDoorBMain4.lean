/- Ported (port.py) from LdG. -/
import Derived.Test.YtiaginlnapiijaaGreatDoorBMain3
import Derived.Test.YtiaginlnapiijaaGreatDoorRd
import Derived.Test.YtiaginlnapiijaaGreatDoorBSx1
import Derived.Test.YtiaginlnapiijaaGreatDoorTy
import Derived.Lib.LaidTab
import Derived.Stop.LaidErr

set_option linter.unusedVariables false
set_option linter.unusedSimpArgs false
set_option maxRecDepth 100000
set_option maxHeartbeats 4000000
namespace Go.Proofs.YtiaginlnapiijaaGreatDoor.L
open Sx
def cmpS (a b : List UInt8) : Int := if tlt a b then -1 else if tlt b a then 1 else 0
inductive S23a (A0 A1 A6 A7 A8 A26 A27 A28 : Value) : List Value → Prop
  | mk {r2 r3 r4 r5 r9 r10 r11 r12 r13 r14 r15 r16 r17 r18 r19 r20 r21 r22 r23 r24 r25 r29 r30 r31 r32 r33 r34 r35 r36 r37 r38 r39 r40 r41 r42 r43 r44 r45 r46 r47 r48 r49 r50 r51 r52 r53 r54 r55 r56 r57 r58 r59 r60 r61 r62 r63 r64 r65 r66 r67 r68 r69 r70 r71 r72 r73 r74 r75 r76 r77 r78 r79 r80 r81 r82 r83 r84 r85 r86 r87 r88 r89 r90 r91 r92 r93 r94 r95 r96 r97 r98 r99 r100 r101 r102 r103 r104 r105 : Value} : S23a A0 A1 A6 A7 A8 A26 A27 A28 [A0, A1, r2, r3, r4, r5, A6, A7, A8, r9, r10, r11, r12, r13, r14, r15, r16, r17, r18, r19, r20, r21, r22, r23, r24, r25, A26, A27, A28, r29, r30, r31, r32, r33, r34, r35, r36, r37, r38, r39, r40, r41, r42, r43, r44, r45, r46, r47, r48, r49, r50, r51, r52, r53, r54, r55, r56, r57, r58, r59, r60, r61, r62, r63, r64, r65, r66, r67, r68, r69, r70, r71, r72, r73, r74, r75, r76, r77, r78, r79, r80, r81, r82, r83, r84, r85, r86, r87, r88, r89, r90, r91, r92, r93, r94, r95, r96, r97, r98, r99, r100, r101, r102, r103, r104, r105]
inductive S23b (A0 A1 A7 A8 A12 : Value) : List Value → Prop
  | mk {r2 r3 r4 r5 r6 r9 r10 r11 r13 r14 r15 r16 r17 r18 r19 r20 r21 r22 r23 r24 r25 r26 r27 r28 r29 r30 r31 r32 r33 r34 r35 r36 r37 r38 r39 r40 r41 r42 r43 r44 r45 r46 r47 r48 r49 r50 r51 r52 r53 r54 r55 r56 r57 r58 r59 r60 r61 r62 r63 r64 r65 r66 r67 r68 r69 r70 r71 r72 r73 r74 r75 r76 r77 r78 r79 r80 r81 r82 r83 r84 r85 r86 r87 r88 r89 r90 r91 r92 r93 r94 r95 r96 r97 r98 r99 r100 r101 r102 r103 r104 r105 : Value} : S23b A0 A1 A7 A8 A12 [A0, A1, r2, r3, r4, r5, r6, A7, A8, r9, r10, r11, A12, r13, r14, r15, r16, r17, r18, r19, r20, r21, r22, r23, r24, r25, r26, r27, r28, r29, r30, r31, r32, r33, r34, r35, r36, r37, r38, r39, r40, r41, r42, r43, r44, r45, r46, r47, r48, r49, r50, r51, r52, r53, r54, r55, r56, r57, r58, r59, r60, r61, r62, r63, r64, r65, r66, r67, r68, r69, r70, r71, r72, r73, r74, r75, r76, r77, r78, r79, r80, r81, r82, r83, r84, r85, r86, r87, r88, r89, r90, r91, r92, r93, r94, r95, r96, r97, r98, r99, r100, r101, r102, r103, r104, r105]
inductive S23c (A0 A1 A7 A8 A12 A13 A75 A76 A77 : Value) : List Value → Prop
  | mk {r2 r3 r4 r5 r6 r9 r10 r11 r14 r15 r16 r17 r18 r19 r20 r21 r22 r23 r24 r25 r26 r27 r28 r29 r30 r31 r32 r33 r34 r35 r36 r37 r38 r39 r40 r41 r42 r43 r44 r45 r46 r47 r48 r49 r50 r51 r52 r53 r54 r55 r56 r57 r58 r59 r60 r61 r62 r63 r64 r65 r66 r67 r68 r69 r70 r71 r72 r73 r74 r78 r79 r80 r81 r82 r83 r84 r85 r86 r87 r88 r89 r90 r91 r92 r93 r94 r95 r96 r97 r98 r99 r100 r101 r102 r103 r104 r105 : Value} : S23c A0 A1 A7 A8 A12 A13 A75 A76 A77 [A0, A1, r2, r3, r4, r5, r6, A7, A8, r9, r10, r11, A12, A13, r14, r15, r16, r17, r18, r19, r20, r21, r22, r23, r24, r25, r26, r27, r28, r29, r30, r31, r32, r33, r34, r35, r36, r37, r38, r39, r40, r41, r42, r43, r44, r45, r46, r47, r48, r49, r50, r51, r52, r53, r54, r55, r56, r57, r58, r59, r60, r61, r62, r63, r64, r65, r66, r67, r68, r69, r70, r71, r72, r73, r74, A75, A76, A77, r78, r79, r80, r81, r82, r83, r84, r85, r86, r87, r88, r89, r90, r91, r92, r93, r94, r95, r96, r97, r98, r99, r100, r101, r102, r103, r104, r105]
theorem one5 (y : Msg) : ∀ u ∈ mC y, u.oneCell' = true := by
  intro u hu
  simp only [mC, List.mem_cons, List.not_mem_nil, or_false] at hu
  rcases hu with rfl | rfl | rfl | rfl | rfl <;> rfl
section
variable {K : Value → Heap → Prop} {H : Heap} {sv : Value} {L : List Msg} {m y : Msg}
theorem c43 {a b : List UInt8} (hK : K (.int .i64 (cmpS a b)) H) : SCalls Tryz.prog 43 [.string (strOf a), .string (strOf b)] H K := by
  refine enter43 ?_
  have h44 : ∀ a H (K2 : Value → Heap → Prop), K2 (.bool false) H → SCalls Tryz.prog 69 [.string (strOf a)] H K2 := by
    intro a H K2 hk
    refine enter69 ?_
    have : (!decide (strOf a = strOf a)) = false := by simp
    repeat' ((conv => whnf); (first | (rw [this]; exact Keep.all hk) | (show Keep _ fun H' => K2 (.bool (!decide (strOf a = strOf a))) H'; rw [this]; exact Keep.all hk) | refine New.mk (fun _ => ?_) | refine Look.at0 ?_ | refine Cell.row ?_ | refine Cell.buf ?_ | refine Cells.row rfl ?_ | refine Put.row rfl ?_ | refine Put.buf rfl ?_ | refine Look.at1 ?_ | refine Look.at2 ?_ | refine Look.at3 ?_ | refine Look.at4 ?_ | refine Look.at5 ?_ | refine Look.at6 ?_ | refine Look.at7 ?_ | refine Look.at8 ?_ | with_reducible refine Val.i64 (by omega) (by omega) ?_ | with_reducible refine Val.u8 (by omega) (by omega) ?_ | with_reducible refine Val.u32 (by omega) (by omega) ?_ | with_reducible refine Val.u64 (by omega) (by omega) ?_ | with_reducible refine Val.u8m ?_ | with_reducible refine Val.u32m ?_ | with_reducible refine Val.u64m ?_ | with_reducible refine Val.shr8 ?_ | with_reducible refine Val.shr16 (by decide) ?_ | with_reducible refine Val.shr24 (by decide) ?_ | with_reducible refine Val.raw ?_ | refine Branch.not ?_ | refine Branch.and ?_ | refine Branch.or ?_ | refine Branch.dt (by assumption) ?_ | refine Branch.df (by assumption) ?_ | refine Branch.dt rfl ?_ | refine Branch.dt (by omega) ?_ | refine Branch.df (by omega) ?_ | refine Branch.t rfl ?_ | refine Branch.f rfl ?_ | refine Branch.t (by assumption) ?_ | refine Branch.f (by assumption) ?_ | refine Branch.d (fun _ => ?_) (fun _ => ?_) | refine Branch.mk (fun _ => ?_) (fun _ => ?_) | refine Need.mk (by first | omega | decide | rfl) ?_ | refine Idx.nat (by omega) ?_ | refine Idx.auto (by first | omega | decide) (by first | omega | decide) ?_ | refine Cell.ro rfl ?_ | refine SDraw.all (by kernel_rfl) ?_ | refine Kept.k0 ?_ | refine Kept.k1 ?_ | refine Kept.k2 ?_ | refine Kept.k3 ?_ | refine Kept.k4 ?_))
  unfold cmpS at hK
  have h1 := strLt_of a b
  have h2 := strGt_of a b
  cases ha : tlt a b with
  | true =>
    rw [ha] at hK h1
    repeat' ((conv => whnf); (first | with_reducible refine h44 _ _ _ ?_ | refine Branch.t h1 ?_ | exact Keep.all hK | refine New.mk (fun _ => ?_) | refine Look.at0 ?_ | refine Cell.row ?_ | refine Cell.buf ?_ | refine Cells.row rfl ?_ | refine Put.row rfl ?_ | refine Put.buf rfl ?_ | refine Look.at1 ?_ | refine Look.at2 ?_ | refine Look.at3 ?_ | refine Look.at4 ?_ | refine Look.at5 ?_ | refine Look.at6 ?_ | refine Look.at7 ?_ | refine Look.at8 ?_ | with_reducible refine Val.i64 (by omega) (by omega) ?_ | with_reducible refine Val.u8 (by omega) (by omega) ?_ | with_reducible refine Val.u32 (by omega) (by omega) ?_ | with_reducible refine Val.u64 (by omega) (by omega) ?_ | with_reducible refine Val.u8m ?_ | with_reducible refine Val.u32m ?_ | with_reducible refine Val.u64m ?_ | with_reducible refine Val.shr8 ?_ | with_reducible refine Val.shr16 (by decide) ?_ | with_reducible refine Val.shr24 (by decide) ?_ | with_reducible refine Val.raw ?_ | refine Branch.not ?_ | refine Branch.and ?_ | refine Branch.or ?_ | refine Branch.dt (by assumption) ?_ | refine Branch.df (by assumption) ?_ | refine Branch.dt rfl ?_ | refine Branch.dt (by omega) ?_ | refine Branch.df (by omega) ?_ | refine Branch.t rfl ?_ | refine Branch.f rfl ?_ | refine Branch.t (by assumption) ?_ | refine Branch.f (by assumption) ?_ | refine Branch.d (fun _ => ?_) (fun _ => ?_) | refine Branch.mk (fun _ => ?_) (fun _ => ?_) | refine Need.mk (by first | omega | decide | rfl) ?_ | refine Idx.nat (by omega) ?_ | refine Idx.auto (by first | omega | decide) (by first | omega | decide) ?_ | refine Cell.ro rfl ?_ | refine SDraw.all (by kernel_rfl) ?_ | refine Kept.k0 ?_ | refine Kept.k1 ?_ | refine Kept.k2 ?_ | refine Kept.k3 ?_ | refine Kept.k4 ?_))
  | false =>
    rw [ha] at hK h1
    cases hb : tlt b a with
    | true =>
      rw [hb] at hK h2
      repeat' ((conv => whnf); (first | with_reducible refine h44 _ _ _ ?_ | refine Branch.f h1 ?_ | refine Branch.t h2 ?_ | exact Keep.all hK | refine New.mk (fun _ => ?_) | refine Look.at0 ?_ | refine Cell.row ?_ | refine Cell.buf ?_ | refine Cells.row rfl ?_ | refine Put.row rfl ?_ | refine Put.buf rfl ?_ | refine Look.at1 ?_ | refine Look.at2 ?_ | refine Look.at3 ?_ | refine Look.at4 ?_ | refine Look.at5 ?_ | refine Look.at6 ?_ | refine Look.at7 ?_ | refine Look.at8 ?_ | with_reducible refine Val.i64 (by omega) (by omega) ?_ | with_reducible refine Val.u8 (by omega) (by omega) ?_ | with_reducible refine Val.u32 (by omega) (by omega) ?_ | with_reducible refine Val.u64 (by omega) (by omega) ?_ | with_reducible refine Val.u8m ?_ | with_reducible refine Val.u32m ?_ | with_reducible refine Val.u64m ?_ | with_reducible refine Val.shr8 ?_ | with_reducible refine Val.shr16 (by decide) ?_ | with_reducible refine Val.shr24 (by decide) ?_ | with_reducible refine Val.raw ?_ | refine Branch.not ?_ | refine Branch.and ?_ | refine Branch.or ?_ | refine Branch.dt (by assumption) ?_ | refine Branch.df (by assumption) ?_ | refine Branch.dt rfl ?_ | refine Branch.dt (by omega) ?_ | refine Branch.df (by omega) ?_ | refine Branch.t rfl ?_ | refine Branch.f rfl ?_ | refine Branch.t (by assumption) ?_ | refine Branch.f (by assumption) ?_ | refine Branch.d (fun _ => ?_) (fun _ => ?_) | refine Branch.mk (fun _ => ?_) (fun _ => ?_) | refine Need.mk (by first | omega | decide | rfl) ?_ | refine Idx.nat (by omega) ?_ | refine Idx.auto (by first | omega | decide) (by first | omega | decide) ?_ | refine Cell.ro rfl ?_ | refine SDraw.all (by kernel_rfl) ?_ | refine Kept.k0 ?_ | refine Kept.k1 ?_ | refine Kept.k2 ?_ | refine Kept.k3 ?_ | refine Kept.k4 ?_))
    | false =>
      rw [hb] at hK h2
      repeat' ((conv => whnf); (first | with_reducible refine h44 _ _ _ ?_ | refine Branch.f h1 ?_ | refine Branch.f h2 ?_ | exact Keep.all hK | refine New.mk (fun _ => ?_) | refine Look.at0 ?_ | refine Cell.row ?_ | refine Cell.buf ?_ | refine Cells.row rfl ?_ | refine Put.row rfl ?_ | refine Put.buf rfl ?_ | refine Look.at1 ?_ | refine Look.at2 ?_ | refine Look.at3 ?_ | refine Look.at4 ?_ | refine Look.at5 ?_ | refine Look.at6 ?_ | refine Look.at7 ?_ | refine Look.at8 ?_ | with_reducible refine Val.i64 (by omega) (by omega) ?_ | with_reducible refine Val.u8 (by omega) (by omega) ?_ | with_reducible refine Val.u32 (by omega) (by omega) ?_ | with_reducible refine Val.u64 (by omega) (by omega) ?_ | with_reducible refine Val.u8m ?_ | with_reducible refine Val.u32m ?_ | with_reducible refine Val.u64m ?_ | with_reducible refine Val.shr8 ?_ | with_reducible refine Val.shr16 (by decide) ?_ | with_reducible refine Val.shr24 (by decide) ?_ | with_reducible refine Val.raw ?_ | refine Branch.not ?_ | refine Branch.and ?_ | refine Branch.or ?_ | refine Branch.dt (by assumption) ?_ | refine Branch.df (by assumption) ?_ | refine Branch.dt rfl ?_ | refine Branch.dt (by omega) ?_ | refine Branch.df (by omega) ?_ | refine Branch.t rfl ?_ | refine Branch.f rfl ?_ | refine Branch.t (by assumption) ?_ | refine Branch.f (by assumption) ?_ | refine Branch.d (fun _ => ?_) (fun _ => ?_) | refine Branch.mk (fun _ => ?_) (fun _ => ?_) | refine Need.mk (by first | omega | decide | rfl) ?_ | refine Idx.nat (by omega) ?_ | refine Idx.auto (by first | omega | decide) (by first | omega | decide) ?_ | refine Cell.ro rfl ?_ | refine SDraw.all (by kernel_rfl) ?_ | refine Kept.k0 ?_ | refine Kept.k1 ?_ | refine Kept.k2 ?_ | refine Kept.k3 ?_ | refine Kept.k4 ?_))
theorem t27 (h : Good y) (hK : K (.int .u64 (tm y : Int)) H) : SCalls Tryz.prog 42 [.agg ⟨mC y⟩] H K :=
  c42 h.n0 h.n8 (by rw [h.tm.2.2]; exact hK)
theorem t37 {w : Nat} (h : Good y) (hw : w ≤ 4294967296) (hK : K (.int .u64 (((w + y.j) / y.p + 1 : Nat) : Int)) H) : SCalls Tryz.prog 44 [.agg ⟨mC y⟩, .int .u64 (w : Int)] H K :=
  c44 h.p1 (by have := h.p2; have := h.j; omega) hK
def bK (L : List Msg) (m : Msg) (k : Nat) : Nat := (L.take k).foldl (fun b y => if tlt (fld m) (fld y) then max b (tm y) else b) (tm m)
def fK (L : List Msg) (m : Msg) (k : Nat) : List Msg := (L.take k).filter fun y => tlt (fld y) (fld m)
theorem bK_succ {k : Nat} (h : L.take (k + 1) = L.take k ++ [y]) : bK L m (k + 1) = if tlt (fld m) (fld y) then max (bK L m k) (tm y) else bK L m k := by
  unfold bK
  rw [h, List.foldl_append]; rfl
theorem fK_succ {k : Nat} (h : L.take (k + 1) = L.take k ++ [y]) : fK L m (k + 1) = if tlt (fld y) (fld m) then fK L m k ++ [y] else fK L m k := by
  unfold fK
  rw [h, List.filter_append]
  cases hq : tlt (fld y) (fld m) <;> simp [List.filter_cons, hq]
def I23a (sv : Value) (i : Nat) (L : List Msg) (m : Msg) (H : Heap) (k : Nat) (S : List Value) (H' : Heap) : Prop :=
  k ≤ L.length ∧ ∃ fv M, Grow mC 5 36 fv (fK L m k) M ∧ S23a sv (.int .i64 (i : Int)) (.string (strOf (fV m.id m.x m.n).1)) fv (.int .u64 (bK L m k : Int)) sv (.int .i64 (L.length : Int)) (.int .i64 (k : Int)) S ∧ H' = M ++ H
def I23b (sv fv : Value) (i : Nat) (L : List Msg) (m : Msg) (T : Nat × Bool) (H : Heap) (w : Nat) (S : List Value) (H' : Heap) : Prop :=
  w ≤ 140737488355328 ∧ w ≤ wStep L m w ∧ wIter L m (m.p + 1 - w) w = T ∧ S23b sv (.int .i64 (i : Int)) fv (.int .u64 (wB L m : Int)) (.int .u64 (w : Int)) S ∧ H' = H
def I23c (sv fv : Value) (i : Nat) (L : List Msg) (m : Msg) (w : Nat) (H : Heap) (k : Nat) (S : List Value) (H' : Heap) : Prop :=
  k ≤ (wF L m).length ∧ S23c sv (.int .i64 (i : Int)) fv (.int .u64 (wB L m : Int)) (.int .u64 ((((wF L m).take k).foldl (wAdd w) (wB L m) : Nat) : Int)) (.int .u64 (w : Int)) fv (.int .i64 ((wF L m).length : Int)) (.int .i64 (k : Int)) S ∧ H' = H
theorem c16 {i : Nat} (hD : Db H) (hin : InS mC 5 sv H L) (hG : Goods L) (hi : L[i]? = some m) (h : K (.tuple ⟨[.int .u64 ((worstS L m).1 : Int), .bool (worstS L m).2]⟩) H) : SCalls Tryz.prog 16 [sv, .int .i64 (i : Int)] H K := by
  have hm := List.mem_of_getElem? hi
  have hg := hG.good m hm
  have hlen := hG.len
  have hil : i < L.length := (List.getElem?_eq_some_iff.1 hi).1
  obtain ⟨r, o, c, b, rfl, hrb, hc⟩ := inS_at hin (fun _ => rfl) hi
  have hc3 := hc 3 _ rfl
  have hc4 := hc 4 _ rfl
  refine enter16 ?_
  repeat' ((conv => whnf); (first | refine Look.cells hrb rfl hc ?_ | refine c41 hg.id hD ?_ | refine t27 hg ?_ | refine New.mk (fun _ => ?_) | refine Look.at0 ?_ | refine Cell.row ?_ | refine Cell.buf ?_ | refine Cells.row rfl ?_ | refine Put.row rfl ?_ | refine Put.buf rfl ?_ | refine Look.at1 ?_ | refine Look.at2 ?_ | refine Look.at3 ?_ | refine Look.at4 ?_ | refine Look.at5 ?_ | refine Look.at6 ?_ | refine Look.at7 ?_ | refine Look.at8 ?_ | with_reducible refine Val.i64 (by omega) (by omega) ?_ | with_reducible refine Val.u8 (by omega) (by omega) ?_ | with_reducible refine Val.u32 (by omega) (by omega) ?_ | with_reducible refine Val.u64 (by omega) (by omega) ?_ | with_reducible refine Val.u8m ?_ | with_reducible refine Val.u32m ?_ | with_reducible refine Val.u64m ?_ | with_reducible refine Val.shr8 ?_ | with_reducible refine Val.shr16 (by decide) ?_ | with_reducible refine Val.shr24 (by decide) ?_ | with_reducible refine Val.raw ?_ | refine Branch.not ?_ | refine Branch.and ?_ | refine Branch.or ?_ | refine Branch.dt (by assumption) ?_ | refine Branch.df (by assumption) ?_ | refine Branch.dt rfl ?_ | refine Branch.dt (by omega) ?_ | refine Branch.df (by omega) ?_ | refine Branch.t rfl ?_ | refine Branch.f rfl ?_ | refine Branch.t (by assumption) ?_ | refine Branch.f (by assumption) ?_ | refine Branch.d (fun _ => ?_) (fun _ => ?_) | refine Branch.mk (fun _ => ?_) (fun _ => ?_) | refine Need.mk (by first | omega | decide | rfl) ?_ | refine Idx.nat (by omega) ?_ | refine Idx.auto (by first | omega | decide) (by first | omega | decide) ?_ | refine Cell.ro rfl ?_ | refine SDraw.all (by kernel_rfl) ?_ | refine Kept.k0 ?_ | refine Kept.k1 ?_ | refine Kept.k2 ?_ | refine Kept.k3 ?_ | refine Kept.k4 ?_))
  refine SLoop.invA (I23a (.slice (some ⟨r, o, none⟩) L.length c) i L m H) (fun k => L.length - k) 0 (Keep.all ⟨Nat.zero_le _, _, [], .nil, .mk, rfl⟩) ?_
  rintro k S H' ⟨hk, fv, M, hGr, hS, rfl⟩ R hR
  cases hS
  by_cases hlt : k < L.length
  · obtain ⟨y, hx, hdrop, htake⟩ := list_at hlt
    obtain ⟨r2, o2, c2, b2, e1, hrb2, hc2⟩ := inS_at hin (fun _ => rfl) hx
    injection e1 with e1 _ e3
    injection e1 with e1
    injection e1 with e4 e5
    subst e4 e5
    have hgy := hG.good y (List.mem_of_getElem? hx)
    have hD' : ∀ q : Nat × Blk, Db (q :: (M ++ H)) := fun q => hD.mono fun p hp => .tail _ (List.mem_append_right _ hp)
    have hM : (r, b2) ∈ M ++ H := List.mem_append_right _ hrb2
    have hb1 := bK_succ (m := m) htake
    have hf1 := fK_succ (m := m) htake
    have hbb : bK L m k ≤ 160 := wB_b hG.good hg (L.take k) (fun z hz => List.mem_of_mem_take hz) _ hg.tm.2.1
    have hbt := hgy.tm
    have hfl : (fK L m k).length ≤ 64 := Nat.le_trans (List.length_filter_le _ _) (Nat.le_trans (List.length_take_le _ _) (by omega))
    by_cases hki : k = i
    · subst hki
      rw [hi] at hx
      injection hx with hx
      subst hx
      rw [show tlt (fld m) (fld m) = false from Hp.bl_irr _] at hb1 hf1
      have hnext := fun S q (hS : S23a (.slice (some ⟨r, o, none⟩) L.length c) (.int .i64 (k : Int)) (.string (strOf (fV m.id m.x m.n).1)) fv (.int .u64 (bK L m k : Int)) (.slice (some ⟨r, o, none⟩) L.length c) (.int .i64 (L.length : Int)) (.int .i64 ((k + 1 : Nat) : Int)) S) => hR (k + 1) S (q :: (M ++ H)) (by omega) (Keep.d1 ⟨by omega, fv, M, by rw [hf1]; exact hGr, by rw [hb1]; exact hS, rfl⟩)
      clear hR
      repeat' ((conv => whnf); (first | refine Look.cells hM rfl hc2 ?_ | refine c41 hg.id (hD' _) ?_ | refine c43 ?_ | exact hnext _ _ .mk | refine New.mk (fun _ => ?_) | refine Look.at0 ?_ | refine Cell.row ?_ | refine Cell.buf ?_ | refine Cells.row rfl ?_ | refine Put.row rfl ?_ | refine Put.buf rfl ?_ | refine Look.at1 ?_ | refine Look.at2 ?_ | refine Look.at3 ?_ | refine Look.at4 ?_ | refine Look.at5 ?_ | refine Look.at6 ?_ | refine Look.at7 ?_ | refine Look.at8 ?_ | with_reducible refine Val.i64 (by omega) (by omega) ?_ | with_reducible refine Val.u8 (by omega) (by omega) ?_ | with_reducible refine Val.u32 (by omega) (by omega) ?_ | with_reducible refine Val.u64 (by omega) (by omega) ?_ | with_reducible refine Val.u8m ?_ | with_reducible refine Val.u32m ?_ | with_reducible refine Val.u64m ?_ | with_reducible refine Val.shr8 ?_ | with_reducible refine Val.shr16 (by decide) ?_ | with_reducible refine Val.shr24 (by decide) ?_ | with_reducible refine Val.raw ?_ | refine Branch.not ?_ | refine Branch.and ?_ | refine Branch.or ?_ | refine Branch.dt (by assumption) ?_ | refine Branch.df (by assumption) ?_ | refine Branch.dt rfl ?_ | refine Branch.dt (by omega) ?_ | refine Branch.df (by omega) ?_ | refine Branch.t rfl ?_ | refine Branch.f rfl ?_ | refine Branch.t (by assumption) ?_ | refine Branch.f (by assumption) ?_ | refine Branch.d (fun _ => ?_) (fun _ => ?_) | refine Branch.mk (fun _ => ?_) (fun _ => ?_) | refine Need.mk (by first | omega | decide | rfl) ?_ | refine Idx.nat (by omega) ?_ | refine Idx.auto (by first | omega | decide) (by first | omega | decide) ?_ | refine Cell.ro rfl ?_ | refine SDraw.all (by kernel_rfl) ?_ | refine Kept.k0 ?_ | refine Kept.k1 ?_ | refine Kept.k2 ?_ | refine Kept.k3 ?_ | refine Kept.k4 ?_))
    · have hne := hG.ne hx hi hki
      cases hlt2 : tlt (fld y) (fld m) with
      | true =>
        rw [hlt2] at hf1
        rw [show tlt (fld m) (fld y) = false from Hp.bl_asym hlt2] at hb1
        have hcmp1 : cmpS (fld y) (fld m) = -1 := by unfold cmpS; rw [hlt2]; rfl
        have hcmp : cmpS (fV y.id y.x y.n).1 (fV m.id m.x m.n).1 < 0 := by rw [show cmpS (fV y.id y.x y.n).1 (fV m.id m.x m.n).1 = -1 from hcmp1]; decide
        obtain ⟨fa, fc, rfl, _⟩ := hGr.sv
        have hnext := fun S fv' M' (q q2 : Nat × Blk) (hg2 : Grow mC 5 36 fv' (fK L m k ++ [y]) M') (hS : S23a (.slice (some ⟨r, o, none⟩) L.length c) (.int .i64 (i : Int)) (.string (strOf (fV m.id m.x m.n).1)) fv' (.int .u64 (bK L m k : Int)) (.slice (some ⟨r, o, none⟩) L.length c) (.int .i64 (L.length : Int)) (.int .i64 ((k + 1 : Nat) : Int)) S) => hR (k + 1) S (M' ++ ([q, q2] ++ H)) (by omega) (Keep.sub _ ((List.Sublist.refl M').append (List.sublist_append_right [q, q2] H)) ⟨by omega, fv', M', by rw [hf1]; exact hg2, by rw [hb1]; exact hS, rfl⟩)
        clear hR
        repeat' ((conv => whnf); (first | refine Look.cells hM rfl hc2 ?_ | refine c41 hgy.id (hD' _) ?_ | refine c43 ?_ | refine Branch.df (by omega) ?_ | refine Branch.dt (by omega) ?_ | refine RawV.grow1 (A := [_, _]) (x := y) (bytes := 32) hGr rfl (.head _) rfl (by kernel_rfl) (by decide) (fun _ => rfl) (one5 y) (by simp only [maxLen]; omega) (by omega) (fun fa' fc' M' hg2 => ?_) | exact hnext _ _ _ _ _ hg2 .mk | refine New.mk (fun _ => ?_) | refine Look.at0 ?_ | refine Cell.row ?_ | refine Cell.buf ?_ | refine Cells.row rfl ?_ | refine Put.row rfl ?_ | refine Put.buf rfl ?_ | refine Look.at1 ?_ | refine Look.at2 ?_ | refine Look.at3 ?_ | refine Look.at4 ?_ | refine Look.at5 ?_ | refine Look.at6 ?_ | refine Look.at7 ?_ | refine Look.at8 ?_ | with_reducible refine Val.i64 (by omega) (by omega) ?_ | with_reducible refine Val.u8 (by omega) (by omega) ?_ | with_reducible refine Val.u32 (by omega) (by omega) ?_ | with_reducible refine Val.u64 (by omega) (by omega) ?_ | with_reducible refine Val.u8m ?_ | with_reducible refine Val.u32m ?_ | with_reducible refine Val.u64m ?_ | with_reducible refine Val.shr8 ?_ | with_reducible refine Val.shr16 (by decide) ?_ | with_reducible refine Val.shr24 (by decide) ?_ | with_reducible refine Val.raw ?_ | refine Branch.not ?_ | refine Branch.and ?_ | refine Branch.or ?_ | refine Branch.dt (by assumption) ?_ | refine Branch.df (by assumption) ?_ | refine Branch.dt rfl ?_ | refine Branch.dt (by omega) ?_ | refine Branch.df (by omega) ?_ | refine Branch.t rfl ?_ | refine Branch.f rfl ?_ | refine Branch.t (by assumption) ?_ | refine Branch.f (by assumption) ?_ | refine Branch.d (fun _ => ?_) (fun _ => ?_) | refine Branch.mk (fun _ => ?_) (fun _ => ?_) | refine Need.mk (by first | omega | decide | rfl) ?_ | refine Idx.nat (by omega) ?_ | refine Idx.auto (by first | omega | decide) (by first | omega | decide) ?_ | refine Cell.ro rfl ?_ | refine SDraw.all (by kernel_rfl) ?_ | refine Kept.k0 ?_ | refine Kept.k1 ?_ | refine Kept.k2 ?_ | refine Kept.k3 ?_ | refine Kept.k4 ?_))
      | false =>
        rw [hlt2] at hf1
        have hlt3 : tlt (fld m) (fld y) = true := by
          cases h3 : tlt (fld m) (fld y) with
          | true => rfl
          | false => exact absurd (Hp.bl_tri _ _ hlt2 h3) hne
        rw [hlt3] at hb1
        have hcmp1 : cmpS (fld y) (fld m) = 1 := by unfold cmpS; rw [hlt2, hlt3]; rfl
        have hcmp : cmpS (fV y.id y.x y.n).1 (fV m.id m.x m.n).1 = 1 := hcmp1
        have hmax : (if (bK L m k : Int) < (tm y : Int) then (tm y : Int) else (bK L m k : Int)) = ((max (bK L m k) (tm y) : Nat) : Int) := by
          split <;> omega
        have hnext := fun S q (hS : S23a (.slice (some ⟨r, o, none⟩) L.length c) (.int .i64 (i : Int)) (.string (strOf (fV m.id m.x m.n).1)) fv (.int .u64 ((max (bK L m k) (tm y) : Nat) : Int)) (.slice (some ⟨r, o, none⟩) L.length c) (.int .i64 (L.length : Int)) (.int .i64 ((k + 1 : Nat) : Int)) S) => hR (k + 1) S (q :: (M ++ H)) (by omega) (Keep.d1 ⟨by omega, fv, M, by rw [hf1]; exact hGr, by rw [hb1]; exact hS, rfl⟩)
        clear hR
        repeat' ((conv => whnf); (first | refine Look.cells hM rfl hc2 ?_ | refine c41 hgy.id (hD' _) ?_ | refine c43 ?_ | refine Branch.df (by omega) ?_ | refine t27 hgy ?_ | refine RawV.max2 rfl hmax ?_ | exact hnext _ _ .mk | refine New.mk (fun _ => ?_) | refine Look.at0 ?_ | refine Cell.row ?_ | refine Cell.buf ?_ | refine Cells.row rfl ?_ | refine Put.row rfl ?_ | refine Put.buf rfl ?_ | refine Look.at1 ?_ | refine Look.at2 ?_ | refine Look.at3 ?_ | refine Look.at4 ?_ | refine Look.at5 ?_ | refine Look.at6 ?_ | refine Look.at7 ?_ | refine Look.at8 ?_ | with_reducible refine Val.i64 (by omega) (by omega) ?_ | with_reducible refine Val.u8 (by omega) (by omega) ?_ | with_reducible refine Val.u32 (by omega) (by omega) ?_ | with_reducible refine Val.u64 (by omega) (by omega) ?_ | with_reducible refine Val.u8m ?_ | with_reducible refine Val.u32m ?_ | with_reducible refine Val.u64m ?_ | with_reducible refine Val.shr8 ?_ | with_reducible refine Val.shr16 (by decide) ?_ | with_reducible refine Val.shr24 (by decide) ?_ | with_reducible refine Val.raw ?_ | refine Branch.not ?_ | refine Branch.and ?_ | refine Branch.or ?_ | refine Branch.dt (by assumption) ?_ | refine Branch.df (by assumption) ?_ | refine Branch.dt rfl ?_ | refine Branch.dt (by omega) ?_ | refine Branch.df (by omega) ?_ | refine Branch.t rfl ?_ | refine Branch.f rfl ?_ | refine Branch.t (by assumption) ?_ | refine Branch.f (by assumption) ?_ | refine Branch.d (fun _ => ?_) (fun _ => ?_) | refine Branch.mk (fun _ => ?_) (fun _ => ?_) | refine Need.mk (by first | omega | decide | rfl) ?_ | refine Idx.nat (by omega) ?_ | refine Idx.auto (by first | omega | decide) (by first | omega | decide) ?_ | refine Cell.ro rfl ?_ | refine SDraw.all (by kernel_rfl) ?_ | refine Kept.k0 ?_ | refine Kept.k1 ?_ | refine Kept.k2 ?_ | refine Kept.k3 ?_ | refine Kept.k4 ?_))
  · have e : k = L.length := by omega
    subst e
    clear hR
    have eb : bK L m L.length = wB L m := by unfold bK wB; rw [List.take_length]
    have ef : fK L m L.length = wF L m := by unfold fK wF; rw [List.take_length]
    rw [ef] at hGr
    rw [eb]
    have hbb : wB L m ≤ 160 := wB_b hG.good hg L (fun z hz => hz) _ hg.tm.2.1
    generalize hT : worstS L m = T at h
    have hM : (r, b) ∈ M ++ H := List.mem_append_right _ hrb
    have hfin := hGr.ins (fun _ => rfl) (H := M ++ H) (fun p hp => List.mem_append_left _ hp)
    obtain ⟨fa, fc, rfl, hml⟩ := hGr.sv
    have hml' : (wF L m).length ≤ 64 := Nat.le_trans (List.length_filter_le _ _) hlen
    have hgF : ∀ y ∈ wF L m, Good y := fun y hy => hG.good y (List.mem_filter.1 hy).1
    have h' : ∀ q : Heap, Keep (q ++ H) fun H' => K (.tuple ⟨[.int .u64 (T.1 : Int), .bool T.2]⟩) H' := fun q => Keep.sub _ (List.sublist_append_right q H) h
    have hgt := hg.tm
    have hp2 := hg.p2
    have hj := hg.j
    clear h
    repeat' ((conv => whnf); (first | refine New.mk (fun _ => ?_) | refine Look.at0 ?_ | refine Cell.row ?_ | refine Cell.buf ?_ | refine Cells.row rfl ?_ | refine Put.row rfl ?_ | refine Put.buf rfl ?_ | refine Look.at1 ?_ | refine Look.at2 ?_ | refine Look.at3 ?_ | refine Look.at4 ?_ | refine Look.at5 ?_ | refine Look.at6 ?_ | refine Look.at7 ?_ | refine Look.at8 ?_ | with_reducible refine Val.i64 (by omega) (by omega) ?_ | with_reducible refine Val.u8 (by omega) (by omega) ?_ | with_reducible refine Val.u32 (by omega) (by omega) ?_ | with_reducible refine Val.u64 (by omega) (by omega) ?_ | with_reducible refine Val.u8m ?_ | with_reducible refine Val.u32m ?_ | with_reducible refine Val.u64m ?_ | with_reducible refine Val.shr8 ?_ | with_reducible refine Val.shr16 (by decide) ?_ | with_reducible refine Val.shr24 (by decide) ?_ | with_reducible refine Val.raw ?_ | refine Branch.not ?_ | refine Branch.and ?_ | refine Branch.or ?_ | refine Branch.dt (by assumption) ?_ | refine Branch.df (by assumption) ?_ | refine Branch.dt rfl ?_ | refine Branch.dt (by omega) ?_ | refine Branch.df (by omega) ?_ | refine Branch.t rfl ?_ | refine Branch.f rfl ?_ | refine Branch.t (by assumption) ?_ | refine Branch.f (by assumption) ?_ | refine Branch.d (fun _ => ?_) (fun _ => ?_) | refine Branch.mk (fun _ => ?_) (fun _ => ?_) | refine Need.mk (by first | omega | decide | rfl) ?_ | refine Idx.nat (by omega) ?_ | refine Idx.auto (by first | omega | decide) (by first | omega | decide) ?_ | refine Cell.ro rfl ?_ | refine SDraw.all (by kernel_rfl) ?_ | refine Kept.k0 ?_ | refine Kept.k1 ?_ | refine Kept.k2 ?_ | refine Kept.k3 ?_ | refine Kept.k4 ?_))
    refine SLoop.invA (I23b (.slice (some ⟨r, o, none⟩) L.length c) (.slice fa (wF L m).length fc) i L m T (M ++ H)) (fun w => m.p + 1 - w) (wB L m) (Keep.all ⟨by omega, wB_le _ _ _, by rw [← hT]; exact wIter_fuel _ _ _ _ _ (by omega) (by omega) (wB_le _ _ _), .mk, rfl⟩) ?_
    rintro w S H' ⟨hwb, hw, hgo, hS, rfl⟩ R hR
    cases hS
    by_cases hp : m.p < m.j + w + tm m
    · have e : T = (0, false) := by
        rw [← hgo]
        cases hf : m.p + 1 - w with
        | zero => rfl
        | succ f => rw [wIter, if_pos hp]
      subst e
      clear hR
      repeat' ((conv => whnf); (first | refine Look.cell hM hc4 ?_ | refine Look.cell hM hc3 ?_ | refine Look.cells hM rfl hc ?_ | refine t27 hg ?_ | refine Branch.dt (by omega) ?_ | exact h' _ | refine New.mk (fun _ => ?_) | refine Look.at0 ?_ | refine Cell.row ?_ | refine Cell.buf ?_ | refine Cells.row rfl ?_ | refine Put.row rfl ?_ | refine Put.buf rfl ?_ | refine Look.at1 ?_ | refine Look.at2 ?_ | refine Look.at3 ?_ | refine Look.at4 ?_ | refine Look.at5 ?_ | refine Look.at6 ?_ | refine Look.at7 ?_ | refine Look.at8 ?_ | with_reducible refine Val.i64 (by omega) (by omega) ?_ | with_reducible refine Val.u8 (by omega) (by omega) ?_ | with_reducible refine Val.u32 (by omega) (by omega) ?_ | with_reducible refine Val.u64 (by omega) (by omega) ?_ | with_reducible refine Val.u8m ?_ | with_reducible refine Val.u32m ?_ | with_reducible refine Val.u64m ?_ | with_reducible refine Val.shr8 ?_ | with_reducible refine Val.shr16 (by decide) ?_ | with_reducible refine Val.shr24 (by decide) ?_ | with_reducible refine Val.raw ?_ | refine Branch.not ?_ | refine Branch.and ?_ | refine Branch.or ?_ | refine Branch.dt (by assumption) ?_ | refine Branch.df (by assumption) ?_ | refine Branch.dt rfl ?_ | refine Branch.dt (by omega) ?_ | refine Branch.df (by omega) ?_ | refine Branch.t rfl ?_ | refine Branch.f rfl ?_ | refine Branch.t (by assumption) ?_ | refine Branch.f (by assumption) ?_ | refine Branch.d (fun _ => ?_) (fun _ => ?_) | refine Branch.mk (fun _ => ?_) (fun _ => ?_) | refine Need.mk (by first | omega | decide | rfl) ?_ | refine Idx.nat (by omega) ?_ | refine Idx.auto (by first | omega | decide) (by first | omega | decide) ?_ | refine Cell.ro rfl ?_ | refine SDraw.all (by kernel_rfl) ?_ | refine Kept.k0 ?_ | refine Kept.k1 ?_ | refine Kept.k2 ?_ | refine Kept.k3 ?_ | refine Kept.k4 ?_))
    · obtain ⟨f, hf⟩ : ∃ f, m.p + 1 - w = f + 1 := ⟨m.p - w, by omega⟩
      rw [hf, wIter, if_neg hp] at hgo
      repeat' ((conv => whnf); (first | refine Look.cell hM hc4 ?_ | refine Look.cell hM hc3 ?_ | refine Look.cells hM rfl hc ?_ | refine t27 hg ?_ | refine Branch.df (by omega) ?_ | refine New.mk (fun _ => ?_) | refine Look.at0 ?_ | refine Cell.row ?_ | refine Cell.buf ?_ | refine Cells.row rfl ?_ | refine Put.row rfl ?_ | refine Put.buf rfl ?_ | refine Look.at1 ?_ | refine Look.at2 ?_ | refine Look.at3 ?_ | refine Look.at4 ?_ | refine Look.at5 ?_ | refine Look.at6 ?_ | refine Look.at7 ?_ | refine Look.at8 ?_ | with_reducible refine Val.i64 (by omega) (by omega) ?_ | with_reducible refine Val.u8 (by omega) (by omega) ?_ | with_reducible refine Val.u32 (by omega) (by omega) ?_ | with_reducible refine Val.u64 (by omega) (by omega) ?_ | with_reducible refine Val.u8m ?_ | with_reducible refine Val.u32m ?_ | with_reducible refine Val.u64m ?_ | with_reducible refine Val.shr8 ?_ | with_reducible refine Val.shr16 (by decide) ?_ | with_reducible refine Val.shr24 (by decide) ?_ | with_reducible refine Val.raw ?_ | refine Branch.not ?_ | refine Branch.and ?_ | refine Branch.or ?_ | refine Branch.dt (by assumption) ?_ | refine Branch.df (by assumption) ?_ | refine Branch.dt rfl ?_ | refine Branch.dt (by omega) ?_ | refine Branch.df (by omega) ?_ | refine Branch.t rfl ?_ | refine Branch.f rfl ?_ | refine Branch.t (by assumption) ?_ | refine Branch.f (by assumption) ?_ | refine Branch.d (fun _ => ?_) (fun _ => ?_) | refine Branch.mk (fun _ => ?_) (fun _ => ?_) | refine Need.mk (by first | omega | decide | rfl) ?_ | refine Idx.nat (by omega) ?_ | refine Idx.auto (by first | omega | decide) (by first | omega | decide) ?_ | refine Cell.ro rfl ?_ | refine SDraw.all (by kernel_rfl) ?_ | refine Kept.k0 ?_ | refine Kept.k1 ?_ | refine Kept.k2 ?_ | refine Kept.k3 ?_ | refine Kept.k4 ?_))
      refine SLoop.invA (I23c (.slice (some ⟨r, o, none⟩) L.length c) (.slice fa (wF L m).length fc) i L m w (M ++ H)) (fun k => (wF L m).length - k) 0 (Keep.all ⟨Nat.zero_le _, .mk, rfl⟩) ?_
      rintro k S H' ⟨hk, hS, rfl⟩ R2 hR2
      cases hS
      have hw32 : w ≤ 4294967296 := by omega
      have hsum := wSum_b hw32 ((wF L m).take k) (wB L m) (fun z hz => hgF z (List.mem_of_mem_take hz))
      have hlk : ((wF L m).take k).length ≤ 64 := Nat.le_trans (List.length_take_le _ _) (by omega)
      have hlk2 : ((wF L m).take k).length * 1374389534880 ≤ 64 * 1374389534880 := Nat.mul_le_mul_right _ hlk
      by_cases hlt : k < (wF L m).length
      · obtain ⟨y, hx, hdrop, htake⟩ := list_at hlt
        obtain ⟨r2, o2, c2, b2, e1, hrb2, hc2⟩ := inS_at hfin (fun _ => rfl) hx
        injection e1 with e1 _ e3
        subst e1
        have hgy := hgF y (List.mem_of_getElem? hx)
        have hv := wAdd_b hgy hw32
        generalize hacc : ((wF L m).take k).foldl (wAdd w) (wB L m) = acc at *
        have hacc2 : ((wF L m).take (k + 1)).foldl (wAdd w) (wB L m) = wAdd w acc y := by
          rw [htake, List.foldl_append, hacc]; rfl
        have hv1 : IntKind.u64.wrap ((tm y : Int) * (((w + y.j) / y.p + 1 : Nat) : Int)) = ((tm y * ((w + y.j) / y.p + 1) : Nat) : Int) := by
          rw [← Int.natCast_mul]; exact wrap_nat rfl (by show _ < 18446744073709551616; omega)
        have hv2 : IntKind.u64.wrap ((acc : Int) + ((tm y * ((w + y.j) / y.p + 1) : Nat) : Int)) = ((wAdd w acc y : Nat) : Int) := by
          rw [← Int.natCast_add]; exact wrap_nat rfl (by show _ < 18446744073709551616; omega)
        have hnext := fun S q (hS : S23c (.slice (some ⟨r, o, none⟩) L.length c) (.int .i64 (i : Int)) (.slice (some ⟨r2, o2, none⟩) (wF L m).length fc) (.int .u64 (wB L m : Int)) (.int .u64 ((wAdd w acc y : Nat) : Int)) (.int .u64 (w : Int)) (.slice (some ⟨r2, o2, none⟩) (wF L m).length fc) (.int .i64 ((wF L m).length : Int)) (.int .i64 ((k + 1 : Nat) : Int)) S) => hR2 (k + 1) S (q :: (M ++ H)) (by omega) (Keep.d1 ⟨by omega, by rw [hacc2]; exact hS, rfl⟩)
        clear hR hR2
        repeat' ((conv => whnf); (first | refine Look.cells hrb2 rfl hc2 ?_ | refine t27 hgy ?_ | refine t37 hgy hw32 ?_ | with_reducible refine Val.to _ hv1 ?_ | with_reducible refine Val.to _ hv2 ?_ | exact hnext _ _ .mk | refine New.mk (fun _ => ?_) | refine Look.at0 ?_ | refine Cell.row ?_ | refine Cell.buf ?_ | refine Cells.row rfl ?_ | refine Put.row rfl ?_ | refine Put.buf rfl ?_ | refine Look.at1 ?_ | refine Look.at2 ?_ | refine Look.at3 ?_ | refine Look.at4 ?_ | refine Look.at5 ?_ | refine Look.at6 ?_ | refine Look.at7 ?_ | refine Look.at8 ?_ | with_reducible refine Val.i64 (by omega) (by omega) ?_ | with_reducible refine Val.u8 (by omega) (by omega) ?_ | with_reducible refine Val.u32 (by omega) (by omega) ?_ | with_reducible refine Val.u64 (by omega) (by omega) ?_ | with_reducible refine Val.u8m ?_ | with_reducible refine Val.u32m ?_ | with_reducible refine Val.u64m ?_ | with_reducible refine Val.shr8 ?_ | with_reducible refine Val.shr16 (by decide) ?_ | with_reducible refine Val.shr24 (by decide) ?_ | with_reducible refine Val.raw ?_ | refine Branch.not ?_ | refine Branch.and ?_ | refine Branch.or ?_ | refine Branch.dt (by assumption) ?_ | refine Branch.df (by assumption) ?_ | refine Branch.dt rfl ?_ | refine Branch.dt (by omega) ?_ | refine Branch.df (by omega) ?_ | refine Branch.t rfl ?_ | refine Branch.f rfl ?_ | refine Branch.t (by assumption) ?_ | refine Branch.f (by assumption) ?_ | refine Branch.d (fun _ => ?_) (fun _ => ?_) | refine Branch.mk (fun _ => ?_) (fun _ => ?_) | refine Need.mk (by first | omega | decide | rfl) ?_ | refine Idx.nat (by omega) ?_ | refine Idx.auto (by first | omega | decide) (by first | omega | decide) ?_ | refine Cell.ro rfl ?_ | refine SDraw.all (by kernel_rfl) ?_ | refine Kept.k0 ?_ | refine Kept.k1 ?_ | refine Kept.k2 ?_ | refine Kept.k3 ?_ | refine Kept.k4 ?_))
      · have e : k = (wF L m).length := by omega
        subst e
        have es : ((wF L m).take (wF L m).length).foldl (wAdd w) (wB L m) = wStep L m w := by rw [List.take_length]; rfl
        rw [es] at hsum
        rw [es]
        generalize hS' : wStep L m w = n at *
        have hmono : w ≤ n → n ≤ wStep L m n := fun hh => by
          have := wStep_mono L m hh
          rw [hS'] at this; exact this
        clear hR2 es
        by_cases he : n = w
        · subst he
          rw [if_pos rfl] at hgo
          subst hgo
          clear hR
          have hk' : Keep (M ++ H) fun H' => K (.tuple ⟨[.int .u64 ((m.j : Int) + (n : Int) + (tm m : Int)), .bool true]⟩) H' := h' M
          repeat' ((conv => whnf); (first | refine Look.cell hM hc4 ?_ | refine Look.cell hM hc3 ?_ | refine Look.cells hM rfl hc ?_ | refine t27 hg ?_ | exact hk' | refine New.mk (fun _ => ?_) | refine Look.at0 ?_ | refine Cell.row ?_ | refine Cell.buf ?_ | refine Cells.row rfl ?_ | refine Put.row rfl ?_ | refine Put.buf rfl ?_ | refine Look.at1 ?_ | refine Look.at2 ?_ | refine Look.at3 ?_ | refine Look.at4 ?_ | refine Look.at5 ?_ | refine Look.at6 ?_ | refine Look.at7 ?_ | refine Look.at8 ?_ | with_reducible refine Val.i64 (by omega) (by omega) ?_ | with_reducible refine Val.u8 (by omega) (by omega) ?_ | with_reducible refine Val.u32 (by omega) (by omega) ?_ | with_reducible refine Val.u64 (by omega) (by omega) ?_ | with_reducible refine Val.u8m ?_ | with_reducible refine Val.u32m ?_ | with_reducible refine Val.u64m ?_ | with_reducible refine Val.shr8 ?_ | with_reducible refine Val.shr16 (by decide) ?_ | with_reducible refine Val.shr24 (by decide) ?_ | with_reducible refine Val.raw ?_ | refine Branch.not ?_ | refine Branch.and ?_ | refine Branch.or ?_ | refine Branch.dt (by assumption) ?_ | refine Branch.df (by assumption) ?_ | refine Branch.dt rfl ?_ | refine Branch.dt (by omega) ?_ | refine Branch.df (by omega) ?_ | refine Branch.t rfl ?_ | refine Branch.f rfl ?_ | refine Branch.t (by assumption) ?_ | refine Branch.f (by assumption) ?_ | refine Branch.d (fun _ => ?_) (fun _ => ?_) | refine Branch.mk (fun _ => ?_) (fun _ => ?_) | refine Need.mk (by first | omega | decide | rfl) ?_ | refine Idx.nat (by omega) ?_ | refine Idx.auto (by first | omega | decide) (by first | omega | decide) ?_ | refine Cell.ro rfl ?_ | refine SDraw.all (by kernel_rfl) ?_ | refine Kept.k0 ?_ | refine Kept.k1 ?_ | refine Kept.k2 ?_ | refine Kept.k3 ?_ | refine Kept.k4 ?_))
        · rw [if_neg he] at hgo
          have hnext := fun S (hS : S23b (.slice (some ⟨r, o, none⟩) L.length c) (.int .i64 (i : Int)) (.slice fa (wF L m).length fc) (.int .u64 (wB L m : Int)) (.int .u64 (n : Int)) S) => hR n S (M ++ H) (by omega) (Keep.all ⟨by omega, hmono hw, by rw [← hgo]; exact wIter_fuel _ _ _ _ _ (by omega) (by omega) (hmono hw), hS, rfl⟩)
          clear hR
          repeat' ((conv => whnf); (first | refine Branch.df (by omega) ?_ | exact hnext _ .mk | refine New.mk (fun _ => ?_) | refine Look.at0 ?_ | refine Cell.row ?_ | refine Cell.buf ?_ | refine Cells.row rfl ?_ | refine Put.row rfl ?_ | refine Put.buf rfl ?_ | refine Look.at1 ?_ | refine Look.at2 ?_ | refine Look.at3 ?_ | refine Look.at4 ?_ | refine Look.at5 ?_ | refine Look.at6 ?_ | refine Look.at7 ?_ | refine Look.at8 ?_ | with_reducible refine Val.i64 (by omega) (by omega) ?_ | with_reducible refine Val.u8 (by omega) (by omega) ?_ | with_reducible refine Val.u32 (by omega) (by omega) ?_ | with_reducible refine Val.u64 (by omega) (by omega) ?_ | with_reducible refine Val.u8m ?_ | with_reducible refine Val.u32m ?_ | with_reducible refine Val.u64m ?_ | with_reducible refine Val.shr8 ?_ | with_reducible refine Val.shr16 (by decide) ?_ | with_reducible refine Val.shr24 (by decide) ?_ | with_reducible refine Val.raw ?_ | refine Branch.not ?_ | refine Branch.and ?_ | refine Branch.or ?_ | refine Branch.dt (by assumption) ?_ | refine Branch.df (by assumption) ?_ | refine Branch.dt rfl ?_ | refine Branch.dt (by omega) ?_ | refine Branch.df (by omega) ?_ | refine Branch.t rfl ?_ | refine Branch.f rfl ?_ | refine Branch.t (by assumption) ?_ | refine Branch.f (by assumption) ?_ | refine Branch.d (fun _ => ?_) (fun _ => ?_) | refine Branch.mk (fun _ => ?_) (fun _ => ?_) | refine Need.mk (by first | omega | decide | rfl) ?_ | refine Idx.nat (by omega) ?_ | refine Idx.auto (by first | omega | decide) (by first | omega | decide) ?_ | refine Cell.ro rfl ?_ | refine SDraw.all (by kernel_rfl) ?_ | refine Kept.k0 ?_ | refine Kept.k1 ?_ | refine Kept.k2 ?_ | refine Kept.k3 ?_ | refine Kept.k4 ?_))
end
end Go.Proofs.YtiaginlnapiijaaGreatDoor.L


/- Ported (port.py) from LdI. -/
set_option linter.unusedVariables false
set_option linter.unusedSimpArgs false
set_option maxRecDepth 100000
set_option maxHeartbeats 4000000
namespace Go.Proofs.YtiaginlnapiijaaGreatDoor.L
open Sx
def fitsS (L : List Msg) : Bool := L.all fun m => (worstS L m).2
inductive S6 (A0 A13 A14 A15 : Value) : List Value → Prop
  | mk {r1 r2 r3 r4 r5 r6 r7 r8 r9 r10 r11 r12 r16 r17 r18 r19 r20 r21 r22 r23 r24 r25 r26 : Value} : S6 A0 A13 A14 A15 [A0, r1, r2, r3, r4, r5, r6, r7, r8, r9, r10, r11, r12, A13, A14, A15, r16, r17, r18, r19, r20, r21, r22, r23, r24, r25, r26]
section
variable {K : Value → Heap → Prop} {H : Heap} {sv : Value} {L : List Msg} {m y : Msg}
theorem c5 (hD : Db H) (hin : InS mC 5 sv H L) (hwf : ∀ m ∈ L, m.wf) (h : K (.int .i64 (chk L)) H) : SCalls Tryz.prog 5 [sv] H K := by
  obtain ⟨sa, sc, rfl, hml⟩ := hin.sv
  refine enter5 ?_
  repeat' ((conv => whnf); (first | refine c15 hD hin hwf ?_ | exact Keep.all h | refine New.mk (fun _ => ?_) | refine Look.at0 ?_ | refine Cell.row ?_ | refine Cell.buf ?_ | refine Cells.row rfl ?_ | refine Put.row rfl ?_ | refine Put.buf rfl ?_ | refine Look.at1 ?_ | refine Look.at2 ?_ | refine Look.at3 ?_ | refine Look.at4 ?_ | refine Look.at5 ?_ | refine Look.at6 ?_ | refine Look.at7 ?_ | refine Look.at8 ?_ | with_reducible refine Val.i64 (by omega) (by omega) ?_ | with_reducible refine Val.u8 (by omega) (by omega) ?_ | with_reducible refine Val.u32 (by omega) (by omega) ?_ | with_reducible refine Val.u64 (by omega) (by omega) ?_ | with_reducible refine Val.u8m ?_ | with_reducible refine Val.u32m ?_ | with_reducible refine Val.u64m ?_ | with_reducible refine Val.shr8 ?_ | with_reducible refine Val.shr16 (by decide) ?_ | with_reducible refine Val.shr24 (by decide) ?_ | with_reducible refine Val.raw ?_ | refine Branch.not ?_ | refine Branch.and ?_ | refine Branch.or ?_ | refine Branch.dt (by assumption) ?_ | refine Branch.df (by assumption) ?_ | refine Branch.dt rfl ?_ | refine Branch.dt (by omega) ?_ | refine Branch.df (by omega) ?_ | refine Branch.t rfl ?_ | refine Branch.f rfl ?_ | refine Branch.t (by assumption) ?_ | refine Branch.f (by assumption) ?_ | refine Branch.d (fun _ => ?_) (fun _ => ?_) | refine Branch.mk (fun _ => ?_) (fun _ => ?_) | refine Need.mk (by first | omega | decide | rfl) ?_ | refine Idx.nat (by omega) ?_ | refine Idx.auto (by first | omega | decide) (by first | omega | decide) ?_ | refine Cell.ro rfl ?_ | refine SDraw.all (by kernel_rfl) ?_ | refine Kept.k0 ?_ | refine Kept.k1 ?_ | refine Kept.k2 ?_ | refine Kept.k3 ?_ | refine Kept.k4 ?_))
theorem Good.wf (h : Good m) : m.wf := by
  have := h.id; have := h.n0; have := h.n8; have := h.p2; have := h.j
  exact ⟨by omega, by omega, by omega, by omega, by omega⟩
theorem c11 {i : Nat} (hD : Db H) (hin : InS mC 5 sv H L) (hG : Goods L) (hwf : ∀ m ∈ L, m.wf) (hc : chk L = 0) (hi : L[i]? = some m) (h : K (.tuple ⟨[.int .u64 ((worstS L m).1 : Int), .bool (worstS L m).2, .int .i64 0]⟩) H) : SCalls Tryz.prog 11 [sv, .int .i64 (i : Int)] H K := by
  obtain ⟨sa, sc, rfl, hml⟩ := hin.sv
  have hil : i < L.length := (List.getElem?_eq_some_iff.1 hi).1
  have h22 := fun (K : Value → Heap → Prop) hk => c15 (K := K) hD hin hwf hk
  rw [hc] at h22
  refine enter11 ?_
  repeat' ((conv => whnf); (first | refine h22 _ ?_ | refine Branch.f rfl ?_ | refine c16 hD hin hG hi ?_ | exact Keep.all h | refine New.mk (fun _ => ?_) | refine Look.at0 ?_ | refine Cell.row ?_ | refine Cell.buf ?_ | refine Cells.row rfl ?_ | refine Put.row rfl ?_ | refine Put.buf rfl ?_ | refine Look.at1 ?_ | refine Look.at2 ?_ | refine Look.at3 ?_ | refine Look.at4 ?_ | refine Look.at5 ?_ | refine Look.at6 ?_ | refine Look.at7 ?_ | refine Look.at8 ?_ | with_reducible refine Val.i64 (by omega) (by omega) ?_ | with_reducible refine Val.u8 (by omega) (by omega) ?_ | with_reducible refine Val.u32 (by omega) (by omega) ?_ | with_reducible refine Val.u64 (by omega) (by omega) ?_ | with_reducible refine Val.u8m ?_ | with_reducible refine Val.u32m ?_ | with_reducible refine Val.u64m ?_ | with_reducible refine Val.shr8 ?_ | with_reducible refine Val.shr16 (by decide) ?_ | with_reducible refine Val.shr24 (by decide) ?_ | with_reducible refine Val.raw ?_ | refine Branch.not ?_ | refine Branch.and ?_ | refine Branch.or ?_ | refine Branch.dt (by assumption) ?_ | refine Branch.df (by assumption) ?_ | refine Branch.dt rfl ?_ | refine Branch.dt (by omega) ?_ | refine Branch.df (by omega) ?_ | refine Branch.t rfl ?_ | refine Branch.f rfl ?_ | refine Branch.t (by assumption) ?_ | refine Branch.f (by assumption) ?_ | refine Branch.d (fun _ => ?_) (fun _ => ?_) | refine Branch.mk (fun _ => ?_) (fun _ => ?_) | refine Need.mk (by first | omega | decide | rfl) ?_ | refine Idx.nat (by omega) ?_ | refine Idx.auto (by first | omega | decide) (by first | omega | decide) ?_ | refine Cell.ro rfl ?_ | refine SDraw.all (by kernel_rfl) ?_ | refine Kept.k0 ?_ | refine Kept.k1 ?_ | refine Kept.k2 ?_ | refine Kept.k3 ?_ | refine Kept.k4 ?_))
def I19 (sv : Value) (L : List Msg) (H : Heap) (k : Nat) (S : List Value) (H' : Heap) : Prop :=
  k ≤ L.length ∧ (L.take k).all (fun m => (worstS L m).2) = true ∧ S6 sv sv (.int .i64 (L.length : Int)) (.int .i64 (k : Int)) S ∧ H' = H
theorem c6 (hD : Db H) (hin : InS mC 5 sv H L) (hG : Goods L) (hwf : ∀ m ∈ L, m.wf) (hc : chk L = 0) (h : K (.tuple ⟨[.bool (fitsS L), .int .i64 0]⟩) H) : SCalls Tryz.prog 6 [sv] H K := by
  obtain ⟨sa, sc, rfl, hml⟩ := hin.sv
  have hlen := hG.len
  have h22 := fun (K : Value → Heap → Prop) hk => c15 (K := K) hD hin hwf hk
  rw [hc] at h22
  refine enter6 ?_
  repeat' ((conv => whnf); (first | refine h22 _ ?_ | refine Branch.f rfl ?_ | refine New.mk (fun _ => ?_) | refine Look.at0 ?_ | refine Cell.row ?_ | refine Cell.buf ?_ | refine Cells.row rfl ?_ | refine Put.row rfl ?_ | refine Put.buf rfl ?_ | refine Look.at1 ?_ | refine Look.at2 ?_ | refine Look.at3 ?_ | refine Look.at4 ?_ | refine Look.at5 ?_ | refine Look.at6 ?_ | refine Look.at7 ?_ | refine Look.at8 ?_ | with_reducible refine Val.i64 (by omega) (by omega) ?_ | with_reducible refine Val.u8 (by omega) (by omega) ?_ | with_reducible refine Val.u32 (by omega) (by omega) ?_ | with_reducible refine Val.u64 (by omega) (by omega) ?_ | with_reducible refine Val.u8m ?_ | with_reducible refine Val.u32m ?_ | with_reducible refine Val.u64m ?_ | with_reducible refine Val.shr8 ?_ | with_reducible refine Val.shr16 (by decide) ?_ | with_reducible refine Val.shr24 (by decide) ?_ | with_reducible refine Val.raw ?_ | refine Branch.not ?_ | refine Branch.and ?_ | refine Branch.or ?_ | refine Branch.dt (by assumption) ?_ | refine Branch.df (by assumption) ?_ | refine Branch.dt rfl ?_ | refine Branch.dt (by omega) ?_ | refine Branch.df (by omega) ?_ | refine Branch.t rfl ?_ | refine Branch.f rfl ?_ | refine Branch.t (by assumption) ?_ | refine Branch.f (by assumption) ?_ | refine Branch.d (fun _ => ?_) (fun _ => ?_) | refine Branch.mk (fun _ => ?_) (fun _ => ?_) | refine Need.mk (by first | omega | decide | rfl) ?_ | refine Idx.nat (by omega) ?_ | refine Idx.auto (by first | omega | decide) (by first | omega | decide) ?_ | refine Cell.ro rfl ?_ | refine SDraw.all (by kernel_rfl) ?_ | refine Kept.k0 ?_ | refine Kept.k1 ?_ | refine Kept.k2 ?_ | refine Kept.k3 ?_ | refine Kept.k4 ?_))
  refine SLoop.invA (I19 (.slice sa L.length sc) L H) (fun k => L.length - k) 0 (Keep.all ⟨Nat.zero_le _, by simp, .mk, rfl⟩) ?_
  rintro k S H' ⟨hk, ha, hS, rfl⟩ R hR
  cases hS
  by_cases hlt : k < L.length
  · obtain ⟨y, hx, hdrop, htake⟩ := list_at hlt
    have h23 := fun (K : Value → Heap → Prop) hk => c16 (K := K) hD hin hG hx hk
    have hnext := fun S (hb : (worstS L y).2 = true) (hS : S6 (.slice sa L.length sc) (.slice sa L.length sc) (.int .i64 (L.length : Int)) (.int .i64 ((k + 1 : Nat) : Int)) S) => hR (k + 1) S H' (by omega) (Keep.all ⟨by omega, by rw [htake, List.all_append, ha]; simpa using hb, hS, rfl⟩)
    have hno : (worstS L y).2 = false → fitsS L = false := fun hb => by
      unfold fitsS
      rw [List.all_eq_false]
      exact ⟨y, List.mem_of_getElem? hx, by rw [hb]; decide⟩
    clear hR
    cases hb : (worstS L y).2 with
    | true =>
      rw [hb] at h23
      repeat' ((conv => whnf); (first | refine h23 _ ?_ | exact hnext _ hb .mk | refine New.mk (fun _ => ?_) | refine Look.at0 ?_ | refine Cell.row ?_ | refine Cell.buf ?_ | refine Cells.row rfl ?_ | refine Put.row rfl ?_ | refine Put.buf rfl ?_ | refine Look.at1 ?_ | refine Look.at2 ?_ | refine Look.at3 ?_ | refine Look.at4 ?_ | refine Look.at5 ?_ | refine Look.at6 ?_ | refine Look.at7 ?_ | refine Look.at8 ?_ | with_reducible refine Val.i64 (by omega) (by omega) ?_ | with_reducible refine Val.u8 (by omega) (by omega) ?_ | with_reducible refine Val.u32 (by omega) (by omega) ?_ | with_reducible refine Val.u64 (by omega) (by omega) ?_ | with_reducible refine Val.u8m ?_ | with_reducible refine Val.u32m ?_ | with_reducible refine Val.u64m ?_ | with_reducible refine Val.shr8 ?_ | with_reducible refine Val.shr16 (by decide) ?_ | with_reducible refine Val.shr24 (by decide) ?_ | with_reducible refine Val.raw ?_ | refine Branch.not ?_ | refine Branch.and ?_ | refine Branch.or ?_ | refine Branch.dt (by assumption) ?_ | refine Branch.df (by assumption) ?_ | refine Branch.dt rfl ?_ | refine Branch.dt (by omega) ?_ | refine Branch.df (by omega) ?_ | refine Branch.t rfl ?_ | refine Branch.f rfl ?_ | refine Branch.t (by assumption) ?_ | refine Branch.f (by assumption) ?_ | refine Branch.d (fun _ => ?_) (fun _ => ?_) | refine Branch.mk (fun _ => ?_) (fun _ => ?_) | refine Need.mk (by first | omega | decide | rfl) ?_ | refine Idx.nat (by omega) ?_ | refine Idx.auto (by first | omega | decide) (by first | omega | decide) ?_ | refine Cell.ro rfl ?_ | refine SDraw.all (by kernel_rfl) ?_ | refine Kept.k0 ?_ | refine Kept.k1 ?_ | refine Kept.k2 ?_ | refine Kept.k3 ?_ | refine Kept.k4 ?_))
    | false =>
      rw [hb] at h23
      rw [hno hb] at h
      repeat' ((conv => whnf); (first | refine h23 _ ?_ | exact Keep.all h | refine New.mk (fun _ => ?_) | refine Look.at0 ?_ | refine Cell.row ?_ | refine Cell.buf ?_ | refine Cells.row rfl ?_ | refine Put.row rfl ?_ | refine Put.buf rfl ?_ | refine Look.at1 ?_ | refine Look.at2 ?_ | refine Look.at3 ?_ | refine Look.at4 ?_ | refine Look.at5 ?_ | refine Look.at6 ?_ | refine Look.at7 ?_ | refine Look.at8 ?_ | with_reducible refine Val.i64 (by omega) (by omega) ?_ | with_reducible refine Val.u8 (by omega) (by omega) ?_ | with_reducible refine Val.u32 (by omega) (by omega) ?_ | with_reducible refine Val.u64 (by omega) (by omega) ?_ | with_reducible refine Val.u8m ?_ | with_reducible refine Val.u32m ?_ | with_reducible refine Val.u64m ?_ | with_reducible refine Val.shr8 ?_ | with_reducible refine Val.shr16 (by decide) ?_ | with_reducible refine Val.shr24 (by decide) ?_ | with_reducible refine Val.raw ?_ | refine Branch.not ?_ | refine Branch.and ?_ | refine Branch.or ?_ | refine Branch.dt (by assumption) ?_ | refine Branch.df (by assumption) ?_ | refine Branch.dt rfl ?_ | refine Branch.dt (by omega) ?_ | refine Branch.df (by omega) ?_ | refine Branch.t rfl ?_ | refine Branch.f rfl ?_ | refine Branch.t (by assumption) ?_ | refine Branch.f (by assumption) ?_ | refine Branch.d (fun _ => ?_) (fun _ => ?_) | refine Branch.mk (fun _ => ?_) (fun _ => ?_) | refine Need.mk (by first | omega | decide | rfl) ?_ | refine Idx.nat (by omega) ?_ | refine Idx.auto (by first | omega | decide) (by first | omega | decide) ?_ | refine Cell.ro rfl ?_ | refine SDraw.all (by kernel_rfl) ?_ | refine Kept.k0 ?_ | refine Kept.k1 ?_ | refine Kept.k2 ?_ | refine Kept.k3 ?_ | refine Kept.k4 ?_))
  · obtain rfl : k = L.length := by omega
    rw [List.take_length] at ha
    rw [show fitsS L = true from ha] at h
    clear hR
    repeat' ((conv => whnf); (first | exact Keep.all h | refine New.mk (fun _ => ?_) | refine Look.at0 ?_ | refine Cell.row ?_ | refine Cell.buf ?_ | refine Cells.row rfl ?_ | refine Put.row rfl ?_ | refine Put.buf rfl ?_ | refine Look.at1 ?_ | refine Look.at2 ?_ | refine Look.at3 ?_ | refine Look.at4 ?_ | refine Look.at5 ?_ | refine Look.at6 ?_ | refine Look.at7 ?_ | refine Look.at8 ?_ | with_reducible refine Val.i64 (by omega) (by omega) ?_ | with_reducible refine Val.u8 (by omega) (by omega) ?_ | with_reducible refine Val.u32 (by omega) (by omega) ?_ | with_reducible refine Val.u64 (by omega) (by omega) ?_ | with_reducible refine Val.u8m ?_ | with_reducible refine Val.u32m ?_ | with_reducible refine Val.u64m ?_ | with_reducible refine Val.shr8 ?_ | with_reducible refine Val.shr16 (by decide) ?_ | with_reducible refine Val.shr24 (by decide) ?_ | with_reducible refine Val.raw ?_ | refine Branch.not ?_ | refine Branch.and ?_ | refine Branch.or ?_ | refine Branch.dt (by assumption) ?_ | refine Branch.df (by assumption) ?_ | refine Branch.dt rfl ?_ | refine Branch.dt (by omega) ?_ | refine Branch.df (by omega) ?_ | refine Branch.t rfl ?_ | refine Branch.f rfl ?_ | refine Branch.t (by assumption) ?_ | refine Branch.f (by assumption) ?_ | refine Branch.d (fun _ => ?_) (fun _ => ?_) | refine Branch.mk (fun _ => ?_) (fun _ => ?_) | refine Need.mk (by first | omega | decide | rfl) ?_ | refine Idx.nat (by omega) ?_ | refine Idx.auto (by first | omega | decide) (by first | omega | decide) ?_ | refine Cell.ro rfl ?_ | refine SDraw.all (by kernel_rfl) ?_ | refine Kept.k0 ?_ | refine Kept.k1 ?_ | refine Kept.k2 ?_ | refine Kept.k3 ?_ | refine Kept.k4 ?_))
end
end Go.Proofs.YtiaginlnapiijaaGreatDoor.L


/- Messages on a bus, all at once: plain. -/
set_option linter.unusedVariables false
set_option linter.unusedSimpArgs false
set_option maxRecDepth 100000
set_option maxHeartbeats 4000000
namespace Go.Proofs.YtiaginlnapiijaaGreatDoor
open Sx
/-- Of those that wait the one of the least field is sent; how long that takes. -/
theorem calm_step2 {s : Bs} (hc : AllC s.ns) (hw : BsW s) (h2 : 2 ≤ s.ns.length) {j : Nat} {y : Nd} {g : Fm} (hy : s.ns[j]? = some y) (hg : y.box = some g) :
    ∃ (w : Nat) (x : Nd) (f : Fm), s.ns[w]? = some x ∧ x.box = some f ∧ okF f = true ∧ (s.rd []).e = 0 ∧ (s.rd []).o.win = (w : Int) ∧ (s.rd []).o.sent = true ∧ (s.rd []).o.bits = (encN f : Int) + 3 ∧ (s.step []).ns = s.ns.mapIdx (calmN w f) ∧
      ∀ (j : Nat) (y : Nd) (g : Fm), s.ns[j]? = some y → y.box = some g → tlt (fld g) (fld f) = false := by
  have hlen : s.snd.length = s.ns.length := sndN_len _ _
  have hup : ∀ sn ∈ s.snd, sn.up = true := snd_up hc
  have hn2 := hw.n2
  have hch : chkX s.snd.length [] = 0 := by unfold chkX; rw [if_neg (by rw [hlen]; simp; omega)]; rfl
  obtain ⟨i0, f0, hm0, _⟩ := cand_box hc j y g hy hg
  have hne : cand 0 s.snd ≠ [] := by intro e; rw [show sndN [] s.ns = s.snd from rfl, e] at hm0; cases hm0
  have hnd := (cand_nodup s.ns [] 0).1
  have hnd : (((cand 0 s.snd).map (·.2)).map fld).Nodup := by rw [List.map_map]; exact hnd
  have hall : ((cand 0 s.snd).map (·.2)).all okF = true := by
    rw [List.all_eq_true]
    intro f hf
    obtain ⟨⟨i, f'⟩, hf1, rfl⟩ := List.mem_map.1 hf
    obtain ⟨_, sn, k1, _, _, rfl⟩ := cand_mem hf1
    exact sndN_ok _ _ hw.w sn (List.mem_of_getElem? k1)
  have hfv : (firstV ((cand 0 s.snd).map (·.2))).2 = 0 := by
    unfold firstV
    rw [if_neg (by simpa using hne), if_neg (by rw [hall]; decide), if_pos hnd]
  have he : (s.rd []).e = 0 := by
    unfold Bs.rd roundV
    rw [if_pos hch]
    unfold winV
    dsimp only
    rw [if_neg hne, if_pos hfv]
  rcases (round_cases (l := s.snd) (fl := []) he).2 with ⟨hC, _⟩ | ⟨k, w, f, sn, k1, k2, k3, k4, k5, k6, k7⟩
  · exact absurd hC hne
  · have hr : s.rd [] = ⟨0, -1, ⟨w, (encN f : Int) + 3, true, List.replicate s.snd.length 0, gotE s.snd w⟩⟩ := by
      show roundV s.snd [] = _
      rw [k7]
      show Rd.mk 0 (-1) (comesV s.snd (encN f) w ⟨false, 0, 0, false⟩) = _
      unfold comesV
      rw [if_neg (show ¬ false = true by decide), upN_all hup, hlen, if_neg (by omega), if_neg (show ¬ false = true by decide)]
    have hwl : w < s.ns.length := by rw [← hlen]; exact (List.getElem?_eq_some_iff.1 k3).1
    obtain ⟨x, hx, _⟩ := list_at hwl
    have hsx := sndN_at s.ns [] w x hx
    rw [List.nil_append] at hsx
    have hsx : s.snd[w]? = some (snd1 (s.ns.take w) x) := hsx
    rw [k3] at hsx
    injection hsx with hsx
    have hbx : x.box = some f := by
      unfold snd1 at hsx
      cases hb : x.box with
      | none => rw [hb] at hsx; rw [hsx] at k5; cases k5
      | some f' => rw [hb] at hsx; rw [← k6, hsx]
    refine ⟨w, x, f, hx, hbx, ?_, he, by rw [hr], by rw [hr], by rw [hr], ?_, fun j y g hy hg => ?_⟩
    · exact (hw.w x (List.mem_of_getElem? hx)).ok f hbx |>.1
    · unfold Bs.step
      rw [if_pos he, hr]
      unfold stlN
      dsimp only
      apply List.ext_getElem?
      intro i
      rw [List.getElem?_mapIdx, List.getElem?_mapIdx]
      by_cases hi : i < s.ns.length
      · obtain ⟨z, hz, _⟩ := list_at hi
        rw [hz, Option.map_some, Option.map_some]
        congr 1
        obtain ⟨h3, h4⟩ := hc z (List.mem_of_getElem? hz)
        have hzu := hc.up (List.mem_of_getElem? hz)
        have hbx2 : boxAt s.ns (w : Int) = f := by
          unfold boxAt
          rw [if_neg (by omega), Int.toNat_natCast, List.getD_eq_getElem?_getD, hx]
          show x.box.getD z0 = f
          rw [hbx]; rfl
        have hsn : s.snd[i]? = some (snd1 (s.ns.take i) z) := by
          have := sndN_at s.ns [] i z hz
          rwa [List.nil_append] at this
        have hgot : (gotE s.snd w).getD i false = !decide (i = w) := by
          unfold gotE
          rw [List.getD_eq_getElem?_getD, List.getElem?_mapIdx, hsn]
          show ((snd1 (s.ns.take i) z).up && !decide (i = w)) = _
          rw [hup _ (List.mem_of_getElem? hsn)]; rfl
        obtain ⟨on, u, box, inn⟩ := z
        dsimp only at h3 h4
        subst h3 h4
        unfold stl calmN
        dsimp only
        rw [hzu, hgot, hbx2]
        have hw0 : ¬ ((w : Int) < 0) := by omega
        by_cases hiw : i = w
        · subst hiw
          simp [u0, Un.idl, Un.sent, hw0]
        · have : ¬ ((i : Int) = (w : Int)) := by omega
          simp only [this, hiw, if_false, decide_false, Bool.not_false, if_true]
          simp [u0, Un.idl, Un.recv, hw0]
      · rw [List.getElem?_eq_none (by omega)]; rfl
    · obtain ⟨i, h, m1, m2⟩ := cand_box hc j y g hy hg
      obtain ⟨q, hq⟩ := List.getElem?_of_mem m1
      have hq : (cand 0 s.snd)[q]? = some (i, h) := hq
      have hql := (List.getElem?_eq_some_iff.1 hq).1
      obtain ⟨_, _, _, k8, k9⟩ := firstV_ok hfv
      rw [k1] at k8
      injection k8 with k8 _
      have := bstN_min (((cand 0 s.snd).map (·.2)).map fld) ((cand 0 s.snd).map (·.2)).length (by simp) q (by simpa using hql)
      rw [← k8, getD_map (f := h) (by rw [List.getElem?_map, hq]; rfl), getD_map (f := f) (by rw [List.getElem?_map, k2]; rfl), m2] at this
      exact this

/- WHAT IS RECKONED -/
namespace L
theorem iter_true {L : List Msg} {m : Msg} : ∀ (f w : Nat), w ≤ wStep L m w → (wIter L m f w).2 = true → ∃ ws, w ≤ ws ∧ wStep L m ws = ws ∧ (wIter L m f w).1 = m.j + ws + tm m
  | 0, w, _, h => by cases h
  | f + 1, w, hw, h => by
    rw [wIter] at h ⊢
    by_cases hp : m.p < m.j + w + tm m
    · rw [if_pos hp] at h; cases h
    · rw [if_neg hp] at h ⊢
      by_cases he : wStep L m w = w
      · rw [if_pos he]
        exact ⟨w, Nat.le_refl _, he, rfl⟩
      · rw [if_neg he] at h ⊢
        obtain ⟨ws, h1, h2⟩ := iter_true f _ (wStep_mono L m hw) h
        exact ⟨ws, Nat.le_trans hw h1, h2⟩
theorem fold_ge (w : Nat) : ∀ (F : List Msg) (a : Nat), a + (F.map tm).sum ≤ F.foldl (wAdd w) a
  | [], a => Nat.le_refl a
  | y :: F, a => by
    rw [List.foldl_cons, List.map_cons, List.sum_cons]
    have h1 := fold_ge w F (wAdd w a y)
    have h2 : a + tm y ≤ wAdd w a y := by
      unfold wAdd
      have : tm y * 1 ≤ tm y * ((w + y.j) / y.p + 1) := Nat.mul_le_mul_left _ (Nat.le_add_left 1 _)
      omega
    omega
theorem worst_ge {L : List Msg} {m : Msg} (h : (worstS L m).2 = true) : ((wF L m).map tm).sum + tm m ≤ (worstS L m).1 := by
  obtain ⟨ws, _, h2, h3⟩ := iter_true (m.p + 1) (wB L m) (wB_le L m _) h
  have h4 := fold_ge ws (wF L m) (wB L m)
  unfold wStep at h2
  unfold worstS
  rw [h3]
  omega
/-- The time of those of some numbers. -/
def sumI : List Msg → Nat → (Nat → Bool) → Nat
  | [], _, _ => 0
  | m :: L, k, d => (if d k then tm m else 0) + sumI L (k + 1) d
theorem sumI_zero : ∀ (L : List Msg) (k : Nat), sumI L k (fun _ => false) = 0
  | [], _ => rfl
  | m :: L, k => by rw [sumI, sumI_zero L (k + 1)]; rfl
theorem sumI_same : ∀ (L : List Msg) (k w : Nat) (d : Nat → Bool), w < k → sumI L k (fun i => d i || i == w) = sumI L k d
  | [], _, _, _, _ => rfl
  | m :: L, k, w, d, h => by
    rw [sumI, sumI, sumI_same L (k + 1) w d (by omega)]
    have : (k == w) = false := by rw [beq_eq_false_iff_ne]; omega
    simp only [this, Bool.or_false]
theorem sumI_add : ∀ (L : List Msg) (k w : Nat) (d : Nat → Bool) (m : Msg), L[w]? = some m → d (k + w) = false → sumI L k (fun i => d i || i == k + w) = sumI L k d + tm m
  | [], k, w, d, m, h, _ => by simp at h
  | y :: L, k, 0, d, m, h, hd => by
    injection h with h
    subst h
    rw [sumI, sumI, sumI_same L (k + 1) (k + 0) d (by omega)]
    simp only [Nat.add_zero] at hd ⊢
    simp only [hd, Bool.false_or, beq_self_eq_true, if_true, Bool.false_eq_true, if_false]
    omega
  | y :: L, k, w + 1, d, m, h, hd => by
    have ih := sumI_add L (k + 1) w d m (by simpa using h) (by rw [show k + 1 + w = k + (w + 1) by omega]; exact hd)
    rw [sumI, sumI, show k + (w + 1) = k + 1 + w by omega, ih]
    have : (k == k + 1 + w) = false := by rw [beq_eq_false_iff_ne]; omega
    simp only [this, Bool.or_false]
    omega
theorem sumI_le (q : Msg → Bool) : ∀ (L : List Msg) (k : Nat) (d : Nat → Bool), (∀ i m, L[i]? = some m → d (k + i) = true → q m = true) → sumI L k d ≤ ((L.filter q).map tm).sum
  | [], _, _, _ => Nat.le_refl 0
  | m :: L, k, d, h => by
    have ih := sumI_le q L (k + 1) d fun i y hi hd => h (i + 1) y (by simpa using hi) (by rw [show k + (i + 1) = k + 1 + i by omega]; exact hd)
    rw [sumI]
    cases hk : d k with
    | true =>
      have hq := h 0 m rfl hk
      rw [List.filter_cons_of_pos hq, List.map_cons, List.sum_cons]
      simp only [if_true]
      omega
    | false =>
      simp only [Bool.false_eq_true, if_false, Nat.zero_add]
      by_cases hq : q m = true
      · rw [List.filter_cons_of_pos hq, List.map_cons, List.sum_cons]; omega
      · rw [List.filter_cons_of_neg hq]; exact ih
end L
/-- A message's frame. -/
def frm (m : L.Msg) : Fm := ⟨m.id, m.x, false, m.n, 0, 0, 0, 0, 0, 0, 0, 0⟩
theorem frm_ok {m : L.Msg} (h : L.Good m) : okF (frm m) = true := h.ok
theorem frm_fld {m : L.Msg} (h : L.Good m) : fld (frm m) = L.fld m := by
  show fldB m.id m.x false = (L.fV m.id m.x m.n).1
  unfold L.fV
  rw [if_pos h.ok]
  rfl
theorem frm_pl (m : L.Msg) : plF (frm m) = frm m := by
  unfold plF zs frm
  congr 1 <;> (split <;> rfl)
theorem frm_tm {m : L.Msg} (h : L.Good m) : encN (frm m) + 3 ≤ L.tm m := by
  have hn : nb (frm m) = m.n.toNat := by
    show (if false = true then 0 else min m.n.toNat 8) = _
    rw [if_neg (by decide)]
    have := h.n8
    omega
  have h2 := body_len (frm m)
  rw [hn] at h2
  have hx : (frm m).x = m.x := rfl
  rw [hx] at h2
  have h0 := h.n0
  have hne : bodyB (frm m) ≠ [] := fun e => by
    rw [e] at h2
    unfold lonM at h2
    simp at h2
    split at h2 <;> omega
  obtain ⟨h3, h4⟩ := stf_put (bodyB (frm m)) hne
  rw [h2] at h4
  unfold encN L.tm L.lng
  unfold lonM at h4
  cases hb : m.x with
  | true =>
    rw [hb] at h4
    simp only [if_true] at h4 ⊢
    omega
  | false =>
    rw [hb] at h4
    simp only [Bool.false_eq_true, if_false] at h4 ⊢
    omega
/-- A bus on which those of some numbers were sent. -/
structure TL (Z : List L.Msg) (d : Nat → Bool) (k : Nat) (s : Bs) : Prop where
  c : AllC s.ns
  w : BsW s
  l : s.ns.length = Z.length + 1
  t : ∃ x, s.ns[Z.length]? = some x ∧ x.box = none
  b : ∀ i m, Z[i]? = some m → ∃ x, s.ns[i]? = some x ∧ x.box = if d i then none else some (frm m)
  o : ∀ i m j y, Z[i]? = some m → Z[j]? = some y → d i = true → d j = false → tlt (L.fld m) (L.fld y) = true
  n : L.sumI Z 0 d + s.time ≤ L.sumI Z 0 d + L.sumI Z 0 d
  z : ∀ i, d i = true → i < Z.length
  k : (List.range Z.length).countP d = k
theorem cnt_free : ∀ (n : Nat) (d : Nat → Bool), (List.range n).countP d < n → ∃ i, i < n ∧ d i = false
  | 0, d, h => absurd h (Nat.not_lt_zero _)
  | n + 1, d, h => by
    cases hd : d n with
    | false => exact ⟨n, by omega, hd⟩
    | true =>
      rw [List.range_succ, List.countP_append, List.countP_cons, List.countP_nil, hd] at h
      obtain ⟨i, h1, h2⟩ := cnt_free n d (by simpa using h)
      exact ⟨i, by omega, h2⟩
theorem cnt_add (n w : Nat) (d : Nat → Bool) (hw : w < n) (hd : d w = false) : (List.range n).countP (fun i => d i || i == w) = (List.range n).countP d + 1 := by
  have e : ∀ (l : List Nat), l.Nodup → l.countP (fun i => d i || i == w) = l.countP d + if w ∈ l then 1 else 0 := by
    intro l
    induction l with
    | nil => intro _; rfl
    | cons x l ih =>
      intro hn
      obtain ⟨h1, h2⟩ := List.nodup_cons.1 hn
      rw [List.countP_cons, List.countP_cons, ih h2]
      by_cases hx : x = w
      · subst hx
        simp [h1, hd]
      · have : ¬ w = x := fun e => hx e.symm
        simp only [List.mem_cons, this, false_or]
        have hb : (x == w) = false := by rw [beq_eq_false_iff_ne]; exact hx
        rw [hb, Bool.or_false]
        omega
  rw [e _ List.nodup_range, if_pos (List.mem_range.2 hw)]
theorem tl_step {Z : List L.Msg} {d : Nat → Bool} {k : Nat} {s : Bs} (hG : L.Goods Z) (h : TL Z d k s) (hk : k < Z.length) (hlen : Z.length ≤ 20) :
    ∃ (w : Nat) (m : L.Msg), Z[w]? = some m ∧ (s.rd []).e = 0 ∧ (s.rd []).o.win = (w : Int) ∧ (s.rd []).o.sent = true ∧ TL Z (fun i => d i || i == w) (k + 1) (s.step []) ∧ (s.step []).time ≤ ((L.wF Z m).map L.tm).sum + L.tm m := by
  obtain ⟨i, hi, hdi⟩ := cnt_free Z.length d (by rw [h.k]; exact hk)
  have hmi := List.getElem?_eq_getElem hi
  obtain ⟨y, hy, hyb⟩ := h.b i _ hmi
  rw [hdi] at hyb
  obtain ⟨w, x, f, hx, hbx, hok, he, hwin, hsent, hbits, hns, hmin⟩ := calm_step2 h.c h.w (by rw [h.l]; omega) hy hyb
  have hwl : w < Z.length := by
    have h1 := (List.getElem?_eq_some_iff.1 hx).1
    rw [h.l] at h1
    by_cases hwn : w = Z.length
    · subst hwn
      obtain ⟨x', hx', hb'⟩ := h.t
      rw [hx] at hx'
      injection hx' with hx'
      subst hx'
      rw [hbx] at hb'; cases hb'
    · omega
  obtain ⟨m, hm⟩ : ∃ m, Z[w]? = some m := ⟨_, List.getElem?_eq_getElem hwl⟩
  obtain ⟨x', hx', hb'⟩ := h.b w m hm
  rw [hx] at hx'
  injection hx' with hx'
  subst hx'
  have hdw : d w = false := by
    cases hd : d w with
    | false => rfl
    | true => rw [hd, hbx] at hb'; cases hb'
  rw [hdw, hbx] at hb'
  have hf : f = frm m := by injection hb'
  subst hf
  have hgm := hG.good m (List.mem_of_getElem? hm)
  have htm := frm_tm hgm
  have hst : (s.step []).time = (s.time + ((encN (frm m) : Int) + 3).toNat) % 18446744073709551616 := by
    unfold Bs.step
    rw [if_pos he, hbits]
  have htime := h.n
  have hsum : L.sumI Z 0 d ≤ ((L.wF Z m).map L.tm).sum := by
    refine L.sumI_le _ Z 0 d fun i y hi hd => ?_
    rw [Nat.zero_add] at hd
    exact h.o i y w m hi hm hd hdw
  have hadd := L.sumI_add Z 0 w d m hm (by rw [Nat.zero_add]; exact hdw)
  rw [Nat.zero_add] at hadd
  have ht2 : (s.step []).time ≤ L.sumI Z 0 d + L.tm m := by
    rw [hst]
    have : ((encN (frm m) : Int) + 3).toNat = encN (frm m) + 3 := by omega
    rw [this]
    have := Nat.mod_le (s.time + (encN (frm m) + 3)) 18446744073709551616
    omega
  have hbat : ∀ i, (s.step []).ns[i]? = (s.ns[i]?).map (calmN w (frm m) i) := fun i => by rw [hns, List.getElem?_mapIdx]
  refine ⟨w, m, hm, he, hwin, hsent, ⟨?_, h.w.step, by rw [hns, List.length_mapIdx, h.l], ?_, ?_, ?_, by rw [hadd]; omega, ?_, ?_⟩, by omega⟩
  · intro z hz
    rw [hns] at hz
    obtain ⟨i, hi2⟩ := List.getElem?_of_mem hz
    rw [List.getElem?_mapIdx] at hi2
    obtain ⟨y, _, rfl⟩ := Option.map_eq_some_iff.1 hi2
    unfold calmN
    split <;> exact ⟨rfl, rfl⟩
  · obtain ⟨x', hx', hb'⟩ := h.t
    refine ⟨_, by rw [hbat, hx']; rfl, ?_⟩
    unfold calmN
    split
    · rfl
    · exact hb'
  · intro i y hi
    obtain ⟨x', hx', hb'⟩ := h.b i y hi
    refine ⟨_, by rw [hbat, hx']; rfl, ?_⟩
    unfold calmN
    by_cases hiw : i = w
    · subst hiw
      rw [if_pos rfl]
      simp
    · rw [if_neg hiw]
      have : (i == w) = false := by rw [beq_eq_false_iff_ne]; exact hiw
      simp only [this, Bool.or_false]
      exact hb'
  · intro i a j y hi hj hdi hdj
    rw [Bool.or_eq_false_iff] at hdj
    obtain ⟨hdj, hjw⟩ := hdj
    rw [beq_eq_false_iff_ne] at hjw
    rcases Bool.or_eq_true_iff.1 hdi with hdi | hiw
    · exact h.o i a j y hi hj hdi hdj
    · have hiw : i = w := by simpa using hiw
      subst hiw
      rw [hm] at hi
      injection hi with hi
      subst hi
      obtain ⟨y', hy', hyb'⟩ := h.b j y hj
      rw [hdj] at hyb'
      have h1 := hmin j y' (frm y) hy' hyb'
      have hgy := hG.good y (List.mem_of_getElem? hj)
      rw [frm_fld hgy, frm_fld hgm] at h1
      have hne := hG.ne hj hm hjw
      cases h2 : tlt (L.fld m) (L.fld y) with
      | true => rfl
      | false => exact absurd (Hp.bl_tri _ _ h1 h2) hne
  · intro i hi
    rcases Bool.or_eq_true_iff.1 hi with hi | hi
    · exact h.z i hi
    · have : i = w := by simpa using hi
      omega
  · rw [cnt_add _ _ _ hwl hdw, h.k]
end Go.Proofs.YtiaginlnapiijaaGreatDoor


/- Messages on a bus, all at once: the law, by walks. -/
set_option linter.unusedVariables false
set_option linter.unusedSimpArgs false
set_option maxRecDepth 100000
set_option maxHeartbeats 4000000
namespace Go.Proofs.YtiaginlnapiijaaGreatDoor
open Sx
def f5 : Fm := ⟨5, false, false, 1, 7, 0, 0, 0, 0, 0, 0, 0⟩
/-- Nodes with the frames of the first k messages. -/
def bxN (Z : List L.Msg) (k : Nat) : List Nd := (Z.take k).map (fun m => ⟨true, u0, some (frm m), []⟩) ++ List.replicate (Z.length + 1 - k) pN
theorem bxN_zero (Z : List L.Msg) : bxN Z 0 = List.replicate (Z.length + 1) pN := by simp [bxN]
theorem bxN_len {Z : List L.Msg} {k : Nat} (h : k ≤ Z.length) : (bxN Z k).length = Z.length + 1 := by simp [bxN]; omega
theorem bx_step {Z : List L.Msg} {k t : Nat} {m : L.Msg} (hm : Z[k]? = some m) (hg : L.Good m) : (⟨t, bxN Z k⟩ : Bs).submit (k : Int) (frm m) = (⟨t, bxN Z (k + 1)⟩, 0) := by
  have h := (List.getElem?_eq_some_iff.1 hm).1
  have hi : (⟨t, bxN Z k⟩ : Bs).is (k : Int) := by
    unfold Bs.is
    show 0 ≤ (k : Int) ∧ (k : Int) < ((bxN Z k).length : Int)
    rw [bxN_len (by omega)]; omega
  have hx : bxN Z k = (Z.take k).map (fun m => (⟨true, u0, some (frm m), []⟩ : Nd)) ++ pN :: List.replicate (Z.length + 1 - (k + 1)) pN := by
    unfold bxN
    rw [show Z.length + 1 - k = (Z.length + 1 - (k + 1)) + 1 by omega, List.replicate_succ]
  have hl : ((Z.take k).map (fun m => (⟨true, u0, some (frm m), []⟩ : Nd))).length = k := by simp; omega
  have hat : (⟨t, bxN Z k⟩ : Bs).at (k : Int) = pN := by
    unfold Bs.at
    dsimp only
    rw [Int.toNat_natCast, hx, List.getD_eq_getElem?_getD, List.getElem?_append_right (by omega), hl]
    simp
  unfold Bs.submit
  rw [if_pos hi, if_pos (frm_ok hg), hat, if_pos (show pN.up = true from rfl), if_neg (show ¬ pN.box.isSome = true by decide), frm_pl]
  unfold Bs.put
  dsimp only
  rw [Int.toNat_natCast, hx, List.set_append_right _ _ (by omega), hl, Nat.sub_self, List.set_cons_zero]
  congr 2
  unfold bxN
  rw [List.take_add_one, hm, List.map_append, List.append_assoc]
  rfl
theorem tl_zero {Z : List L.Msg} (hG : L.Goods Z) (hl : Z.length ≤ 20) : TL Z (fun _ => false) 0 ⟨0, bxN Z Z.length⟩ := by
  have hx : bxN Z Z.length = Z.map (fun m => (⟨true, u0, some (frm m), []⟩ : Nd)) ++ [pN] := by
    unfold bxN
    rw [List.take_length, show Z.length + 1 - Z.length = 1 by omega]; rfl
  have hmem : ∀ x ∈ bxN Z Z.length, (∃ m ∈ Z, x = ⟨true, u0, some (frm m), []⟩) ∨ x = pN := by
    intro x hx2
    rw [hx] at hx2
    rcases List.mem_append.1 hx2 with h | h
    · obtain ⟨m, hm, rfl⟩ := List.mem_map.1 h
      exact .inl ⟨m, hm, rfl⟩
    · exact .inr (List.mem_singleton.1 h)
  refine ⟨fun x hx2 => ?_, ⟨?_, ?_, fun x hx2 => ?_, by simp⟩, bxN_len (Nat.le_refl _), ⟨pN, ?_, rfl⟩, fun i m hi => ⟨⟨true, u0, some (frm m), []⟩, ?_, rfl⟩, fun i m j y _ _ h => (nomatch h), ?_, fun i h => (nomatch h), ?_⟩
  · rcases hmem x hx2 with ⟨m, _, rfl⟩ | rfl <;> exact ⟨rfl, rfl⟩
  · show 1 ≤ (bxN Z Z.length).length
    rw [bxN_len (Nat.le_refl _)]; omega
  · show (bxN Z Z.length).length ≤ 127
    rw [bxN_len (Nat.le_refl _)]; omega
  · rcases hmem x hx2 with ⟨m, hm, rfl⟩ | rfl
    · have h0 : NdW pN := .new
      refine ⟨h0.u, (fun h => nomatch h), (fun f hf => ?_), (show (0 : Nat) ≤ 64 by decide)⟩
      injection hf with hf
      subst hf
      exact ⟨frm_ok (hG.good m hm), frm_pl m⟩
    · exact .new
  · show (bxN Z Z.length)[Z.length]? = some pN
    rw [hx, List.getElem?_append_right (by simp)]
    simp
  · show (bxN Z Z.length)[i]? = _
    have := (List.getElem?_eq_some_iff.1 hi).1
    rw [hx, List.getElem?_append_left (by simpa using this), List.getElem?_map, hi]
    rfl
  · rw [L.sumI_zero]; exact Nat.le_refl _
  · simp
inductive S3a (A0 A3 A5 A7 : Value) : List Value → Prop
  | mk {r1 r2 r4 r6 r8 r9 r10 r11 r12 r13 r14 r15 r16 r17 r18 r19 r20 r21 r22 r23 r24 r25 r26 r27 r28 r29 r30 r31 r32 r33 r34 r35 r36 r37 r38 r39 r40 r41 r42 r43 r44 r45 r46 r47 r48 r49 r50 r51 r52 r53 r54 r55 r56 r57 r58 r59 r60 r61 r62 r63 r64 r65 r66 r67 r68 r69 r70 r71 r72 r73 r74 r75 r76 r77 r78 r79 r80 r81 r82 r83 r84 r85 r86 r87 r88 r89 r90 r91 r92 r93 r94 r95 r96 r97 r98 r99 r100 r101 r102 r103 r104 r105 r106 r107 r108 r109 r110 r111 r112 r113 r114 r115 r116 r117 r118 r119 r120 : Value} : S3a A0 A3 A5 A7 [A0, r1, r2, A3, r4, A5, r6, A7, r8, r9, r10, r11, r12, r13, r14, r15, r16, r17, r18, r19, r20, r21, r22, r23, r24, r25, r26, r27, r28, r29, r30, r31, r32, r33, r34, r35, r36, r37, r38, r39, r40, r41, r42, r43, r44, r45, r46, r47, r48, r49, r50, r51, r52, r53, r54, r55, r56, r57, r58, r59, r60, r61, r62, r63, r64, r65, r66, r67, r68, r69, r70, r71, r72, r73, r74, r75, r76, r77, r78, r79, r80, r81, r82, r83, r84, r85, r86, r87, r88, r89, r90, r91, r92, r93, r94, r95, r96, r97, r98, r99, r100, r101, r102, r103, r104, r105, r106, r107, r108, r109, r110, r111, r112, r113, r114, r115, r116, r117, r118, r119, r120]
inductive S3b (A0 A3 A5 A8 : Value) : List Value → Prop
  | mk {r1 r2 r4 r6 r7 r9 r10 r11 r12 r13 r14 r15 r16 r17 r18 r19 r20 r21 r22 r23 r24 r25 r26 r27 r28 r29 r30 r31 r32 r33 r34 r35 r36 r37 r38 r39 r40 r41 r42 r43 r44 r45 r46 r47 r48 r49 r50 r51 r52 r53 r54 r55 r56 r57 r58 r59 r60 r61 r62 r63 r64 r65 r66 r67 r68 r69 r70 r71 r72 r73 r74 r75 r76 r77 r78 r79 r80 r81 r82 r83 r84 r85 r86 r87 r88 r89 r90 r91 r92 r93 r94 r95 r96 r97 r98 r99 r100 r101 r102 r103 r104 r105 r106 r107 r108 r109 r110 r111 r112 r113 r114 r115 r116 r117 r118 r119 r120 : Value} : S3b A0 A3 A5 A8 [A0, r1, r2, A3, r4, A5, r6, r7, A8, r9, r10, r11, r12, r13, r14, r15, r16, r17, r18, r19, r20, r21, r22, r23, r24, r25, r26, r27, r28, r29, r30, r31, r32, r33, r34, r35, r36, r37, r38, r39, r40, r41, r42, r43, r44, r45, r46, r47, r48, r49, r50, r51, r52, r53, r54, r55, r56, r57, r58, r59, r60, r61, r62, r63, r64, r65, r66, r67, r68, r69, r70, r71, r72, r73, r74, r75, r76, r77, r78, r79, r80, r81, r82, r83, r84, r85, r86, r87, r88, r89, r90, r91, r92, r93, r94, r95, r96, r97, r98, r99, r100, r101, r102, r103, r104, r105, r106, r107, r108, r109, r110, r111, r112, r113, r114, r115, r116, r117, r118, r119, r120]
inductive S3c (A0 A3 A5 A9 : Value) : List Value → Prop
  | mk {r1 r2 r4 r6 r7 r8 r10 r11 r12 r13 r14 r15 r16 r17 r18 r19 r20 r21 r22 r23 r24 r25 r26 r27 r28 r29 r30 r31 r32 r33 r34 r35 r36 r37 r38 r39 r40 r41 r42 r43 r44 r45 r46 r47 r48 r49 r50 r51 r52 r53 r54 r55 r56 r57 r58 r59 r60 r61 r62 r63 r64 r65 r66 r67 r68 r69 r70 r71 r72 r73 r74 r75 r76 r77 r78 r79 r80 r81 r82 r83 r84 r85 r86 r87 r88 r89 r90 r91 r92 r93 r94 r95 r96 r97 r98 r99 r100 r101 r102 r103 r104 r105 r106 r107 r108 r109 r110 r111 r112 r113 r114 r115 r116 r117 r118 r119 r120 : Value} : S3c A0 A3 A5 A9 [A0, r1, r2, A3, r4, A5, r6, r7, r8, A9, r10, r11, r12, r13, r14, r15, r16, r17, r18, r19, r20, r21, r22, r23, r24, r25, r26, r27, r28, r29, r30, r31, r32, r33, r34, r35, r36, r37, r38, r39, r40, r41, r42, r43, r44, r45, r46, r47, r48, r49, r50, r51, r52, r53, r54, r55, r56, r57, r58, r59, r60, r61, r62, r63, r64, r65, r66, r67, r68, r69, r70, r71, r72, r73, r74, r75, r76, r77, r78, r79, r80, r81, r82, r83, r84, r85, r86, r87, r88, r89, r90, r91, r92, r93, r94, r95, r96, r97, r98, r99, r100, r101, r102, r103, r104, r105, r106, r107, r108, r109, r110, r111, r112, r113, r114, r115, r116, r117, r118, r119, r120]
section
variable {K : Value → Heap → Prop} {R H : Heap} {Z : List L.Msg} {la : Option Addr} {lc p : Nat} {ft : Bool}
theorem c4 (hD : Db H) (hK : K (.bool true) H) : SCalls Tryz.prog 4 [] H K := by
  have h7 : ∀ (K2 : Value → Heap → Prop), K2 (.tuple ⟨[.string (strOf (encB f5 true)), .int .i64 0]⟩) H → SCalls Tryz.prog 13 [.agg ⟨[.int .u32 5, .bool false, .bool false, .int .i64 1, .int .u8 7, .int .u8 0, .int .u8 0, .int .u8 0, .int .u8 0, .int .u8 0, .int .u8 0, .int .u8 0]⟩, .bool true] H K2 :=
    fun K2 hk => c13 (f := f5) rfl hD hk
  have h8 : ∀ H (K2 : Value → Heap → Prop), K2 (.tuple ⟨[.agg ⟨[.int .u32 5, .bool false, .bool false, .int .i64 1, .int .u8 7, .int .u8 0, .int .u8 0, .int .u8 0, .int .u8 0, .int .u8 0, .int .u8 0, .int .u8 0]⟩, .int .i64 (encN f5 : Int), .int .i64 0]⟩) H → SCalls Tryz.prog 14 [.string (strOf (encB f5 true))] H K2 :=
    fun H K2 hk => c10t (f := f5) rfl hk
  generalize encB f5 true = s at *
  generalize encN f5 = n at *
  refine enter4 (_u := undef) ?_
  repeat' ((conv => whnf); (first | with_reducible refine h7 _ ?_ | with_reducible refine h8 _ _ ?_ | exact Keep.d1 hK | refine New.mk (fun _ => ?_) | refine Look.at0 ?_ | refine Cell.row ?_ | refine Cell.buf ?_ | refine Cells.row rfl ?_ | refine Put.row rfl ?_ | refine Put.buf rfl ?_ | refine Look.at1 ?_ | refine Look.at2 ?_ | refine Look.at3 ?_ | refine Look.at4 ?_ | refine Look.at5 ?_ | refine Look.at6 ?_ | refine Look.at7 ?_ | refine Look.at8 ?_ | with_reducible refine Val.i64 (by omega) (by omega) ?_ | with_reducible refine Val.u8 (by omega) (by omega) ?_ | with_reducible refine Val.u32 (by omega) (by omega) ?_ | with_reducible refine Val.u64 (by omega) (by omega) ?_ | with_reducible refine Val.u8m ?_ | with_reducible refine Val.u32m ?_ | with_reducible refine Val.u64m ?_ | with_reducible refine Val.shr8 ?_ | with_reducible refine Val.shr16 (by decide) ?_ | with_reducible refine Val.shr24 (by decide) ?_ | with_reducible refine Val.raw ?_ | refine Branch.not ?_ | refine Branch.and ?_ | refine Branch.or ?_ | refine Branch.dt (by assumption) ?_ | refine Branch.df (by assumption) ?_ | refine Branch.dt rfl ?_ | refine Branch.dt (by omega) ?_ | refine Branch.df (by omega) ?_ | refine Branch.t rfl ?_ | refine Branch.f rfl ?_ | refine Branch.t (by assumption) ?_ | refine Branch.f (by assumption) ?_ | refine Branch.d (fun _ => ?_) (fun _ => ?_) | refine Branch.mk (fun _ => ?_) (fun _ => ?_) | refine Need.mk (by first | omega | decide | rfl) ?_ | refine Idx.nat (by omega) ?_ | refine Idx.auto (by first | omega | decide) (by first | omega | decide) ?_ | refine Cell.ro rfl ?_ | refine SDraw.all (by kernel_rfl) ?_ | refine Kept.k0 ?_ | refine Kept.k1 ?_ | refine Kept.k2 ?_ | refine Kept.k3 ?_ | refine Kept.k4 ?_))
theorem l3a {n : Nat} {Q : Post} {S0 : List Value} (hn : n ≤ 20) (hB : Own (BusO p ⟨0, List.replicate (n + 1) n0⟩) NoB R H) (hS : S3a (.slice la n lc) (.bool ft) (ptr p) (zi 0) S0)
    (hQ : ∀ S H', S3a (.slice la n lc) (.bool ft) (ptr p) (zi ((n + 1 : Nat) : Int)) S → Own (BusO p ⟨0, List.replicate (n + 1) pN⟩) NoB R H' → Q (.exit 0) S H') : SLoop Tryz.prog X3_l2 Q S0 H := by
  rw [← pwN_zero] at hB
  refine SLoop.invA (fun (k : Nat) S H' => k ≤ n + 1 ∧ S3a (.slice la n lc) (.bool ft) (ptr p) (zi (k : Int)) S ∧ Own (BusO p ⟨0, pwN (n + 1) k⟩) NoB R H') (fun k => n + 1 - k) 0 (Keep.all ⟨Nat.zero_le _, hS, hB⟩) ?_
  clear hS hB
  rintro k S H' ⟨hk, hS, hB⟩ R2 hR
  by_cases hlt : k < n + 1
  · have hh : ∀ K2 : Value → Heap → Prop, (∀ H', Own (BusO p ⟨0, pwN (n + 1) (k + 1)⟩) NoB R H' → K2 (zi 0) H') → SCalls Tryz.prog 8 [ptr p, zi (k : Int), .bool true] H' K2 := fun K2 hk2 => h10 hB fun H2 h2 => by
      rw [pw_step hlt] at h2 ⊢
      exact hk2 H2 h2
    have hnext : ∀ S H2, S3a (.slice la n lc) (.bool ft) (ptr p) (zi ((k + 1 : Nat) : Int)) S → Own (BusO p ⟨0, pwN (n + 1) (k + 1)⟩) NoB R H2 → R2 S H2 := fun S H2 g1 g2 => hR (k + 1) S H2 (by omega) (Keep.all ⟨hlt, g1, g2⟩)
    clear hR hQ hB
    cases hS
    repeat' ((conv => whnf); (first | refine Branch.dt (show (k : Int) ≤ (n : Int) by omega) ?_ | with_reducible refine hh _ (fun H2 h2 => ?_) | exact hnext _ _ .mk h2 | refine New.mk (fun _ => ?_) | refine Look.at0 ?_ | refine Cell.row ?_ | refine Cell.buf ?_ | refine Cells.row rfl ?_ | refine Put.row rfl ?_ | refine Put.buf rfl ?_ | refine Look.at1 ?_ | refine Look.at2 ?_ | refine Look.at3 ?_ | refine Look.at4 ?_ | refine Look.at5 ?_ | refine Look.at6 ?_ | refine Look.at7 ?_ | refine Look.at8 ?_ | with_reducible refine Val.i64 (by omega) (by omega) ?_ | with_reducible refine Val.u8 (by omega) (by omega) ?_ | with_reducible refine Val.u32 (by omega) (by omega) ?_ | with_reducible refine Val.u64 (by omega) (by omega) ?_ | with_reducible refine Val.u8m ?_ | with_reducible refine Val.u32m ?_ | with_reducible refine Val.u64m ?_ | with_reducible refine Val.shr8 ?_ | with_reducible refine Val.shr16 (by decide) ?_ | with_reducible refine Val.shr24 (by decide) ?_ | with_reducible refine Val.raw ?_ | refine Branch.not ?_ | refine Branch.and ?_ | refine Branch.or ?_ | refine Branch.dt (by assumption) ?_ | refine Branch.df (by assumption) ?_ | refine Branch.dt rfl ?_ | refine Branch.dt (by omega) ?_ | refine Branch.df (by omega) ?_ | refine Branch.t rfl ?_ | refine Branch.f rfl ?_ | refine Branch.t (by assumption) ?_ | refine Branch.f (by assumption) ?_ | refine Branch.d (fun _ => ?_) (fun _ => ?_) | refine Branch.mk (fun _ => ?_) (fun _ => ?_) | refine Need.mk (by first | omega | decide | rfl) ?_ | refine Idx.nat (by omega) ?_ | refine Idx.auto (by first | omega | decide) (by first | omega | decide) ?_ | refine Cell.ro rfl ?_ | refine SDraw.all (by kernel_rfl) ?_ | refine Kept.k0 ?_ | refine Kept.k1 ?_ | refine Kept.k2 ?_ | refine Kept.k3 ?_ | refine Kept.k4 ?_))
  · obtain rfl : k = n + 1 := by omega
    rw [pwN_all] at hB
    have hq := fun S h => hQ S _ h hB
    clear hR hQ hB
    cases hS
    repeat' ((conv => whnf); (first | refine Branch.df (show ¬ ((n + 1 : Nat) : Int) ≤ (n : Int) by omega) ?_ | exact hq _ .mk | refine New.mk (fun _ => ?_) | refine Look.at0 ?_ | refine Cell.row ?_ | refine Cell.buf ?_ | refine Cells.row rfl ?_ | refine Put.row rfl ?_ | refine Put.buf rfl ?_ | refine Look.at1 ?_ | refine Look.at2 ?_ | refine Look.at3 ?_ | refine Look.at4 ?_ | refine Look.at5 ?_ | refine Look.at6 ?_ | refine Look.at7 ?_ | refine Look.at8 ?_ | with_reducible refine Val.i64 (by omega) (by omega) ?_ | with_reducible refine Val.u8 (by omega) (by omega) ?_ | with_reducible refine Val.u32 (by omega) (by omega) ?_ | with_reducible refine Val.u64 (by omega) (by omega) ?_ | with_reducible refine Val.u8m ?_ | with_reducible refine Val.u32m ?_ | with_reducible refine Val.u64m ?_ | with_reducible refine Val.shr8 ?_ | with_reducible refine Val.shr16 (by decide) ?_ | with_reducible refine Val.shr24 (by decide) ?_ | with_reducible refine Val.raw ?_ | refine Branch.not ?_ | refine Branch.and ?_ | refine Branch.or ?_ | refine Branch.dt (by assumption) ?_ | refine Branch.df (by assumption) ?_ | refine Branch.dt rfl ?_ | refine Branch.dt (by omega) ?_ | refine Branch.df (by omega) ?_ | refine Branch.t rfl ?_ | refine Branch.f rfl ?_ | refine Branch.t (by assumption) ?_ | refine Branch.f (by assumption) ?_ | refine Branch.d (fun _ => ?_) (fun _ => ?_) | refine Branch.mk (fun _ => ?_) (fun _ => ?_) | refine Need.mk (by first | omega | decide | rfl) ?_ | refine Idx.nat (by omega) ?_ | refine Idx.auto (by first | omega | decide) (by first | omega | decide) ?_ | refine Cell.ro rfl ?_ | refine SDraw.all (by kernel_rfl) ?_ | refine Kept.k0 ?_ | refine Kept.k1 ?_ | refine Kept.k2 ?_ | refine Kept.k3 ?_ | refine Kept.k4 ?_))
theorem l3b {Q : Post} {S0 : List Value} (hl : InS L.mC 5 (.slice la Z.length lc) R Z) (hG : L.Goods Z) (hn : Z.length ≤ 20) (hB : Own (BusO p ⟨0, List.replicate (Z.length + 1) pN⟩) NoB R H) (hS : S3b (.slice la Z.length lc) (.bool ft) (ptr p) (zi 0) S0)
    (hQ : ∀ S H', S3b (.slice la Z.length lc) (.bool ft) (ptr p) (zi (Z.length : Int)) S → Own (BusO p ⟨0, bxN Z Z.length⟩) NoB R H' → Q (.exit 2) S H') : SLoop Tryz.prog X3_l1 Q S0 H := by
  rw [← bxN_zero] at hB
  refine SLoop.invA (fun (k : Nat) S H' => k ≤ Z.length ∧ S3b (.slice la Z.length lc) (.bool ft) (ptr p) (zi (k : Int)) S ∧ Own (BusO p ⟨0, bxN Z k⟩) NoB R H') (fun k => Z.length - k) 0 (Keep.all ⟨Nat.zero_le _, hS, hB⟩) ?_
  clear hS hB
  rintro k S H' ⟨hk, hS, hB⟩ R2 hR
  by_cases hlt : k < Z.length
  · obtain ⟨m, hm, _, _⟩ := list_at hlt
    have hg := hG.good m (List.mem_of_getElem? hm)
    obtain ⟨lr, lo, lc2, lb, e1, hlb, hlcc⟩ := inS_at hl (fun m => rfl) hm
    injection e1 with e1 _ e3
    subst e1 e3
    have h0 := hlcc 0 _ rfl
    have h1 := hlcc 1 _ rfl
    have h2 := hlcc 2 _ rfl
    have hmem := hB.mem _ hlb
    have hh : ∀ K2 : Value → Heap → Prop, (∀ H', Own (BusO p ⟨0, bxN Z (k + 1)⟩) NoB R H' → K2 (zi 0) H') → SCalls Tryz.prog 9 [ptr p, zi (k : Int), .agg ⟨[.int .u32 (m.id : Int), .bool m.x, .bool false, .int .i64 m.n, .int .u8 0, .int .u8 0, .int .u8 0, .int .u8 0, .int .u8 0, .int .u8 0, .int .u8 0, .int .u8 0]⟩] H' K2 := fun K2 hk2 =>
      h11 (f := frm m) hB hg.id fun H2 h2 => by
        rw [bx_step hm hg] at h2 ⊢
        exact hk2 H2 h2
    have hnext : ∀ S H2, S3b (.slice (some ⟨lr, lo, none⟩) Z.length lc) (.bool ft) (ptr p) (zi ((k + 1 : Nat) : Int)) S → Own (BusO p ⟨0, bxN Z (k + 1)⟩) NoB R H2 → R2 S H2 := fun S H2 g1 g2 => hR (k + 1) S H2 (by omega) (Keep.all ⟨hlt, g1, g2⟩)
    clear hR hQ hB
    cases hS
    repeat' ((conv => whnf); (first | refine Branch.dt (by omega) ?_ | refine Idx.nat hlt ?_ | refine Look.cell hmem h0 ?_ | refine Look.cell hmem h1 ?_ | refine Look.cell hmem h2 ?_ | with_reducible refine hh _ (fun H2 g2 => ?_) | exact hnext _ _ .mk g2 | refine New.mk (fun _ => ?_) | refine Look.at0 ?_ | refine Cell.row ?_ | refine Cell.buf ?_ | refine Cells.row rfl ?_ | refine Put.row rfl ?_ | refine Put.buf rfl ?_ | refine Look.at1 ?_ | refine Look.at2 ?_ | refine Look.at3 ?_ | refine Look.at4 ?_ | refine Look.at5 ?_ | refine Look.at6 ?_ | refine Look.at7 ?_ | refine Look.at8 ?_ | with_reducible refine Val.i64 (by omega) (by omega) ?_ | with_reducible refine Val.u8 (by omega) (by omega) ?_ | with_reducible refine Val.u32 (by omega) (by omega) ?_ | with_reducible refine Val.u64 (by omega) (by omega) ?_ | with_reducible refine Val.u8m ?_ | with_reducible refine Val.u32m ?_ | with_reducible refine Val.u64m ?_ | with_reducible refine Val.shr8 ?_ | with_reducible refine Val.shr16 (by decide) ?_ | with_reducible refine Val.shr24 (by decide) ?_ | with_reducible refine Val.raw ?_ | refine Branch.not ?_ | refine Branch.and ?_ | refine Branch.or ?_ | refine Branch.dt (by assumption) ?_ | refine Branch.df (by assumption) ?_ | refine Branch.dt rfl ?_ | refine Branch.dt (by omega) ?_ | refine Branch.df (by omega) ?_ | refine Branch.t rfl ?_ | refine Branch.f rfl ?_ | refine Branch.t (by assumption) ?_ | refine Branch.f (by assumption) ?_ | refine Branch.d (fun _ => ?_) (fun _ => ?_) | refine Branch.mk (fun _ => ?_) (fun _ => ?_) | refine Need.mk (by first | omega | decide | rfl) ?_ | refine Idx.nat (by omega) ?_ | refine Idx.auto (by first | omega | decide) (by first | omega | decide) ?_ | refine Cell.ro rfl ?_ | refine SDraw.all (by kernel_rfl) ?_ | refine Kept.k0 ?_ | refine Kept.k1 ?_ | refine Kept.k2 ?_ | refine Kept.k3 ?_ | refine Kept.k4 ?_))
  · obtain rfl : k = Z.length := by omega
    have hq := fun S h => hQ S _ h hB
    clear hR hQ hB
    cases hS
    repeat' ((conv => whnf); (first | refine Branch.df (by omega) ?_ | exact hq _ .mk | refine New.mk (fun _ => ?_) | refine Look.at0 ?_ | refine Cell.row ?_ | refine Cell.buf ?_ | refine Cells.row rfl ?_ | refine Put.row rfl ?_ | refine Put.buf rfl ?_ | refine Look.at1 ?_ | refine Look.at2 ?_ | refine Look.at3 ?_ | refine Look.at4 ?_ | refine Look.at5 ?_ | refine Look.at6 ?_ | refine Look.at7 ?_ | refine Look.at8 ?_ | with_reducible refine Val.i64 (by omega) (by omega) ?_ | with_reducible refine Val.u8 (by omega) (by omega) ?_ | with_reducible refine Val.u32 (by omega) (by omega) ?_ | with_reducible refine Val.u64 (by omega) (by omega) ?_ | with_reducible refine Val.u8m ?_ | with_reducible refine Val.u32m ?_ | with_reducible refine Val.u64m ?_ | with_reducible refine Val.shr8 ?_ | with_reducible refine Val.shr16 (by decide) ?_ | with_reducible refine Val.shr24 (by decide) ?_ | with_reducible refine Val.raw ?_ | refine Branch.not ?_ | refine Branch.and ?_ | refine Branch.or ?_ | refine Branch.dt (by assumption) ?_ | refine Branch.df (by assumption) ?_ | refine Branch.dt rfl ?_ | refine Branch.dt (by omega) ?_ | refine Branch.df (by omega) ?_ | refine Branch.t rfl ?_ | refine Branch.f rfl ?_ | refine Branch.t (by assumption) ?_ | refine Branch.f (by assumption) ?_ | refine Branch.d (fun _ => ?_) (fun _ => ?_) | refine Branch.mk (fun _ => ?_) (fun _ => ?_) | refine Need.mk (by first | omega | decide | rfl) ?_ | refine Idx.nat (by omega) ?_ | refine Idx.auto (by first | omega | decide) (by first | omega | decide) ?_ | refine Cell.ro rfl ?_ | refine SDraw.all (by kernel_rfl) ?_ | refine Kept.k0 ?_ | refine Kept.k1 ?_ | refine Kept.k2 ?_ | refine Kept.k3 ?_ | refine Kept.k4 ?_))
theorem l3c {Q : Post} {S0 : List Value} (hD : Db R) (hl : InS L.mC 5 (.slice la Z.length lc) R Z) (hG : L.Goods Z) (hwf : ∀ m ∈ Z, m.wf) (hc : L.chk Z = 0) (hn : Z.length ≤ 20) (hft : ft = L.fitsS Z) (hB : Own (BusO p ⟨0, bxN Z Z.length⟩) NoB R H)
    (hS : S3c (.slice la Z.length lc) (.bool ft) (ptr p) (zi 0) S0) (hQ : ∀ S H' k, S3c (.slice la Z.length lc) (.bool ft) (ptr p) (zi k) S → Q (.exit 4) S H') : SLoop Tryz.prog X3_l0 Q S0 H := by
  refine SLoop.invA (fun (w : Nat × (Nat → Bool) × Bs) S H' => w.1 ≤ Z.length ∧ TL Z w.2.1 w.1 w.2.2 ∧ S3c (.slice la Z.length lc) (.bool ft) (ptr p) (zi (w.1 : Int)) S ∧ Own (BusO p w.2.2) NoB R H') (fun w => Z.length - w.1) (0, fun _ => false, ⟨0, bxN Z Z.length⟩) (Keep.all ⟨Nat.zero_le _, tl_zero hG hn, hS, hB⟩) ?_
  clear hS hB
  rintro ⟨k, d, s⟩ S H' ⟨hk, hT, hS, hB⟩ R2 hR
  dsimp only at hk hT hS hB hR ⊢
  by_cases hlt : k < Z.length
  · obtain ⟨w, m, hm, he, hwin, hsent, hT2, htime⟩ := tl_step hG hT hlt hn
    have hk13 : ∀ K2 : Value → Heap → Prop, (∀ ea n1 ec ga n2 gc H2 bits, Own (BusO p (s.step [])) NoB R H2 → K2 (.tuple ⟨[.agg ⟨[zi (w : Int), zi bits, .bool true, .slice ea n1 ec, .slice ga n2 gc]⟩, zi 0]⟩) H2) → SCalls Tryz.prog 10 [ptr p, .slice none 0 0] H' K2 := fun K2 hk2 =>
      h13 (fl := []) hB hT.w hD .nil fun ea ec ga gc N H2 h2 _ => by
        rw [he, hwin, hsent]
        exact hk2 _ _ _ _ _ _ H2 _ (h2.less fun z hz => List.mem_append_right _ hz)
    have hcp : ∀ p0 H2 (o : Oper) (xs xx : Operand) (K2 : Value → Heap → Prop), (∀ z ∈ R, z ∈ H2) → o.op = .call { callee := .builtin .append, args := #[xs, xx], argTypes := #[22, 22] } → (∀ q c, K2 (.slice (some ⟨q, 0, none⟩) Z.length c) ((q, .buf 36 (Z.flatMap L.mC) (c * 5)) :: H2)) → RawV Tryz.prog o [.slice (some ⟨p0, 0, none⟩) 0 0, .slice la Z.length lc] ((p0, .row 36 [] (0, 0)) :: H2) K2 :=
      fun p0 H2 o xs xx K2 hm ho hk => RawV.copyS (bytes := 32) (hl.mono hm) ho (by kernel_rfl) (by decide) (fun m => rfl) L.one5 (by omega) (fun q c _ _ => hk q c)
    have h11 : ∀ q c H2 (K2 : Value → Heap → Prop), (∀ z ∈ R, z ∈ H2) → K2 (.tuple ⟨[.int .u64 ((L.worstS Z m).1 : Int), .bool (L.worstS Z m).2, .int .i64 0]⟩) ((q, .buf 36 (Z.flatMap L.mC) (c * 5)) :: H2) → SCalls Tryz.prog 11 [.slice (some ⟨q, 0, none⟩) Z.length c, zi (w : Int)] ((q, .buf 36 (Z.flatMap L.mC) (c * 5)) :: H2) K2 :=
      fun q c H2 K2 hm2 hk => L.c11 (hD.mono fun z hz => .tail _ (hm2 z hz)) (InS.buf (.head _) rfl (fun m => rfl) (by simp only [maxLen]; omega)) hG hwf hc hm hk
    have hmm : ∀ (t : Nat × Blk) H2, Own (BusO p (s.step [])) NoB R H2 → ∀ z ∈ R, z ∈ t :: H2 := fun t H2 h z hz => .tail _ (h.mem z hz)
    have h24 : ∀ (t u : Nat × Blk) H2 (K2 : Value → Heap → Prop), Own (BusO p (s.step [])) NoB R H2 → K2 (.int .u64 ((s.step []).time : Int)) (t :: u :: H2) → SCalls Tryz.prog 12 [ptr p] (t :: u :: H2) K2 := fun t u H2 K2 h hk => h24 (h.skip.skip) hk
    have hnext : ∀ S (t u : Nat × Blk) H2, S3c (.slice la Z.length lc) (.bool ft) (ptr p) (zi ((k + 1 : Nat) : Int)) S → Own (BusO p (s.step [])) NoB R H2 → R2 S (t :: u :: H2) := fun S t u H2 g1 g2 => hR (k + 1, _, s.step []) S _ (by show Z.length - (k + 1) < Z.length - k; omega) (Keep.all ⟨hlt, hT2, g1, g2.skip.skip⟩)
    cases hf : L.fitsS Z with
    | false =>
      rw [hf] at hft
      subst hft
      generalize (L.worstS Z m).1 = w1 at *
      generalize (L.worstS Z m).2 = w2 at *
      clear hR hQ hB hT hT2 hsent he hwin
      cases hS
      repeat' ((conv => whnf); (first | refine Branch.dt (by omega) ?_ | with_reducible refine hk13 _ (fun ea n1 ec ga n2 gc H2 bits g2 => ?_) | refine SDraw.held (by kernel_rfl) [_] (.same (.head _) .nil) ?_ | refine Kept.sub (List.Sublist.cons _ (List.Sublist.cons_cons _ (List.nil_sublist _))) ?_ | refine hcp _ _ _ _ _ _ (hmm _ _ g2) rfl (fun q c => ?_) | with_reducible refine h11 _ _ _ _ (hmm _ _ g2) ?_ | exact hnext _ _ _ _ .mk g2 | refine New.mk (fun _ => ?_) | refine Look.at0 ?_ | refine Cell.row ?_ | refine Cell.buf ?_ | refine Cells.row rfl ?_ | refine Put.row rfl ?_ | refine Put.buf rfl ?_ | refine Look.at1 ?_ | refine Look.at2 ?_ | refine Look.at3 ?_ | refine Look.at4 ?_ | refine Look.at5 ?_ | refine Look.at6 ?_ | refine Look.at7 ?_ | refine Look.at8 ?_ | with_reducible refine Val.i64 (by omega) (by omega) ?_ | with_reducible refine Val.u8 (by omega) (by omega) ?_ | with_reducible refine Val.u32 (by omega) (by omega) ?_ | with_reducible refine Val.u64 (by omega) (by omega) ?_ | with_reducible refine Val.u8m ?_ | with_reducible refine Val.u32m ?_ | with_reducible refine Val.u64m ?_ | with_reducible refine Val.shr8 ?_ | with_reducible refine Val.shr16 (by decide) ?_ | with_reducible refine Val.shr24 (by decide) ?_ | with_reducible refine Val.raw ?_ | refine Branch.not ?_ | refine Branch.and ?_ | refine Branch.or ?_ | refine Branch.dt (by assumption) ?_ | refine Branch.df (by assumption) ?_ | refine Branch.dt rfl ?_ | refine Branch.dt (by omega) ?_ | refine Branch.df (by omega) ?_ | refine Branch.t rfl ?_ | refine Branch.f rfl ?_ | refine Branch.t (by assumption) ?_ | refine Branch.f (by assumption) ?_ | refine Branch.d (fun _ => ?_) (fun _ => ?_) | refine Branch.mk (fun _ => ?_) (fun _ => ?_) | refine Need.mk (by first | omega | decide | rfl) ?_ | refine Idx.nat (by omega) ?_ | refine Idx.auto (by first | omega | decide) (by first | omega | decide) ?_ | refine Cell.ro rfl ?_ | refine SDraw.all (by kernel_rfl) ?_ | refine Kept.k0 ?_ | refine Kept.k1 ?_ | refine Kept.k2 ?_ | refine Kept.k3 ?_ | refine Kept.k4 ?_))
    | true =>
      have hin : (L.worstS Z m).2 = true := List.all_eq_true.1 hf m (List.mem_of_getElem? hm)
      have hle := L.worst_ge hin
      rw [hf] at hft
      subst hft
      rw [hin] at h11
      have htl : ¬ ((L.worstS Z m).1 : Int) < ((s.step []).time : Int) := by omega
      generalize (L.worstS Z m).1 = w1 at *
      clear hR hQ hB hT hT2 hsent he hwin hle htime hin
      cases hS
      repeat' ((conv => whnf); (first | refine Branch.dt (by omega) ?_ | with_reducible refine hk13 _ (fun ea n1 ec ga n2 gc H2 bits g2 => ?_) | refine SDraw.held (by kernel_rfl) [_] (.same (.head _) .nil) ?_ | refine Kept.sub (List.Sublist.cons _ (List.Sublist.cons_cons _ (List.nil_sublist _))) ?_ | refine hcp _ _ _ _ _ _ (hmm _ _ g2) rfl (fun q c => ?_) | with_reducible refine h11 _ _ _ _ (hmm _ _ g2) ?_ | with_reducible refine h24 _ _ _ _ g2 ?_ | refine Branch.df htl ?_ | exact hnext _ _ _ _ .mk g2 | refine New.mk (fun _ => ?_) | refine Look.at0 ?_ | refine Cell.row ?_ | refine Cell.buf ?_ | refine Cells.row rfl ?_ | refine Put.row rfl ?_ | refine Put.buf rfl ?_ | refine Look.at1 ?_ | refine Look.at2 ?_ | refine Look.at3 ?_ | refine Look.at4 ?_ | refine Look.at5 ?_ | refine Look.at6 ?_ | refine Look.at7 ?_ | refine Look.at8 ?_ | with_reducible refine Val.i64 (by omega) (by omega) ?_ | with_reducible refine Val.u8 (by omega) (by omega) ?_ | with_reducible refine Val.u32 (by omega) (by omega) ?_ | with_reducible refine Val.u64 (by omega) (by omega) ?_ | with_reducible refine Val.u8m ?_ | with_reducible refine Val.u32m ?_ | with_reducible refine Val.u64m ?_ | with_reducible refine Val.shr8 ?_ | with_reducible refine Val.shr16 (by decide) ?_ | with_reducible refine Val.shr24 (by decide) ?_ | with_reducible refine Val.raw ?_ | refine Branch.not ?_ | refine Branch.and ?_ | refine Branch.or ?_ | refine Branch.dt (by assumption) ?_ | refine Branch.df (by assumption) ?_ | refine Branch.dt rfl ?_ | refine Branch.dt (by omega) ?_ | refine Branch.df (by omega) ?_ | refine Branch.t rfl ?_ | refine Branch.f rfl ?_ | refine Branch.t (by assumption) ?_ | refine Branch.f (by assumption) ?_ | refine Branch.d (fun _ => ?_) (fun _ => ?_) | refine Branch.mk (fun _ => ?_) (fun _ => ?_) | refine Need.mk (by first | omega | decide | rfl) ?_ | refine Idx.nat (by omega) ?_ | refine Idx.auto (by first | omega | decide) (by first | omega | decide) ?_ | refine Cell.ro rfl ?_ | refine SDraw.all (by kernel_rfl) ?_ | refine Kept.k0 ?_ | refine Kept.k1 ?_ | refine Kept.k2 ?_ | refine Kept.k3 ?_ | refine Kept.k4 ?_))
  · have hq := hQ
    clear hR hQ hB
    cases hS
    repeat' ((conv => whnf); (first | refine Branch.df (by omega) ?_ | exact hq _ _ _ .mk | refine New.mk (fun _ => ?_) | refine Look.at0 ?_ | refine Cell.row ?_ | refine Cell.buf ?_ | refine Cells.row rfl ?_ | refine Put.row rfl ?_ | refine Put.buf rfl ?_ | refine Look.at1 ?_ | refine Look.at2 ?_ | refine Look.at3 ?_ | refine Look.at4 ?_ | refine Look.at5 ?_ | refine Look.at6 ?_ | refine Look.at7 ?_ | refine Look.at8 ?_ | with_reducible refine Val.i64 (by omega) (by omega) ?_ | with_reducible refine Val.u8 (by omega) (by omega) ?_ | with_reducible refine Val.u32 (by omega) (by omega) ?_ | with_reducible refine Val.u64 (by omega) (by omega) ?_ | with_reducible refine Val.u8m ?_ | with_reducible refine Val.u32m ?_ | with_reducible refine Val.u64m ?_ | with_reducible refine Val.shr8 ?_ | with_reducible refine Val.shr16 (by decide) ?_ | with_reducible refine Val.shr24 (by decide) ?_ | with_reducible refine Val.raw ?_ | refine Branch.not ?_ | refine Branch.and ?_ | refine Branch.or ?_ | refine Branch.dt (by assumption) ?_ | refine Branch.df (by assumption) ?_ | refine Branch.dt rfl ?_ | refine Branch.dt (by omega) ?_ | refine Branch.df (by omega) ?_ | refine Branch.t rfl ?_ | refine Branch.f rfl ?_ | refine Branch.t (by assumption) ?_ | refine Branch.f (by assumption) ?_ | refine Branch.d (fun _ => ?_) (fun _ => ?_) | refine Branch.mk (fun _ => ?_) (fun _ => ?_) | refine Need.mk (by first | omega | decide | rfl) ?_ | refine Idx.nat (by omega) ?_ | refine Idx.auto (by first | omega | decide) (by first | omega | decide) ?_ | refine Cell.ro rfl ?_ | refine SDraw.all (by kernel_rfl) ?_ | refine Kept.k0 ?_ | refine Kept.k1 ?_ | refine Kept.k2 ?_ | refine Kept.k3 ?_ | refine Kept.k4 ?_))
theorem load_c {sv : Value} (hD : Db H) (hin : InS L.mC 5 sv H Z) (hwf : ∀ m ∈ Z, m.wf) (hb : Z.length * 32 ≤ 140737488355328) : SCalls Tryz.prog 3 [sv] H fun v _ => v = .bool true := by
  obtain ⟨sa, sc, rfl, hml⟩ := hin.sv
  have hml' : Z.length ≤ 9223372036854775807 := by simp only [maxLen] at hml; omega
  have hD' : ∀ q : Nat × Blk, Db (q :: H) := fun q => hD.mono fun p hp => .tail _ hp
  have hcp : ∀ p H2 (o : Oper) (xs xx : Operand) (K2 : Value → Heap → Prop), (∀ z ∈ H, z ∈ H2) → o.op = .call { callee := .builtin .append, args := #[xs, xx], argTypes := #[22, 22] } → (∀ q c, K2 (.slice (some ⟨q, 0, none⟩) Z.length c) ((q, .buf 36 (Z.flatMap L.mC) (c * 5)) :: H2)) → RawV Tryz.prog o [.slice (some ⟨p, 0, none⟩) 0 0, .slice sa Z.length sc] ((p, .row 36 [] (0, 0)) :: H2) K2 :=
    fun p H2 o xs xx K2 hm ho hk => RawV.copyS (bytes := 32) (hin.mono hm) ho (by kernel_rfl) (by decide) (fun m => rfl) L.one5 hb (fun q c _ _ => hk q c)
  have h5 : ∀ q c H2 (K2 : Value → Heap → Prop), (∀ z ∈ H, z ∈ H2) → K2 (.int .i64 (L.chk Z)) ((q, .buf 36 (Z.flatMap L.mC) (c * 5)) :: H2) → SCalls Tryz.prog 5 [.slice (some ⟨q, 0, none⟩) Z.length c] ((q, .buf 36 (Z.flatMap L.mC) (c * 5)) :: H2) K2 := fun q c H2 K2 hm hk =>
    L.c5 (hD.mono fun z hz => .tail _ (hm z hz)) (InS.buf (.head _) rfl (fun m => rfl) hml) hwf hk
  have hm1 : ∀ q : Nat × Blk, ∀ z ∈ H, z ∈ q :: H := fun q z hz => .tail _ hz
  refine enter3 ?_
  by_cases hc : L.chk Z = 0
  · rw [hc] at h5
    by_cases hl : 20 < Z.length
    · repeat' ((conv => whnf); (first | refine c4 hD ?_ | refine hcp _ _ _ _ _ _ (fun z hz => hz) rfl (fun q c => ?_) | with_reducible refine h5 _ _ _ _ (fun z hz => hz) ?_ | refine Branch.dt (show (20 : Int) < (Z.length : Int) by omega) ?_ | exact Keep.all rfl | refine New.mk (fun _ => ?_) | refine Look.at0 ?_ | refine Cell.row ?_ | refine Cell.buf ?_ | refine Cells.row rfl ?_ | refine Put.row rfl ?_ | refine Put.buf rfl ?_ | refine Look.at1 ?_ | refine Look.at2 ?_ | refine Look.at3 ?_ | refine Look.at4 ?_ | refine Look.at5 ?_ | refine Look.at6 ?_ | refine Look.at7 ?_ | refine Look.at8 ?_ | with_reducible refine Val.i64 (by omega) (by omega) ?_ | with_reducible refine Val.u8 (by omega) (by omega) ?_ | with_reducible refine Val.u32 (by omega) (by omega) ?_ | with_reducible refine Val.u64 (by omega) (by omega) ?_ | with_reducible refine Val.u8m ?_ | with_reducible refine Val.u32m ?_ | with_reducible refine Val.u64m ?_ | with_reducible refine Val.shr8 ?_ | with_reducible refine Val.shr16 (by decide) ?_ | with_reducible refine Val.shr24 (by decide) ?_ | with_reducible refine Val.raw ?_ | refine Branch.not ?_ | refine Branch.and ?_ | refine Branch.or ?_ | refine Branch.dt (by assumption) ?_ | refine Branch.df (by assumption) ?_ | refine Branch.dt rfl ?_ | refine Branch.dt (by omega) ?_ | refine Branch.df (by omega) ?_ | refine Branch.t rfl ?_ | refine Branch.f rfl ?_ | refine Branch.t (by assumption) ?_ | refine Branch.f (by assumption) ?_ | refine Branch.d (fun _ => ?_) (fun _ => ?_) | refine Branch.mk (fun _ => ?_) (fun _ => ?_) | refine Need.mk (by first | omega | decide | rfl) ?_ | refine Idx.nat (by omega) ?_ | refine Idx.auto (by first | omega | decide) (by first | omega | decide) ?_ | refine Cell.ro rfl ?_ | refine SDraw.all (by kernel_rfl) ?_ | refine Kept.k0 ?_ | refine Kept.k1 ?_ | refine Kept.k2 ?_ | refine Kept.k3 ?_ | refine Kept.k4 ?_))
    · have hG := L.goods_of hwf hc
      have h6 : ∀ q c H2 (K2 : Value → Heap → Prop), (∀ z ∈ H, z ∈ H2) → K2 (.tuple ⟨[.bool (L.fitsS Z), .int .i64 0]⟩) ((q, .buf 36 (Z.flatMap L.mC) (c * 5)) :: H2) → SCalls Tryz.prog 6 [.slice (some ⟨q, 0, none⟩) Z.length c] ((q, .buf 36 (Z.flatMap L.mC) (c * 5)) :: H2) K2 := fun q c H2 K2 hm hk =>
        L.c6 (hD.mono fun z hz => .tail _ (hm z hz)) (InS.buf (.head _) rfl (fun m => rfl) hml) hG hwf hc hk
      have h7 : ∀ (q t : Nat × Blk) (K2 : Value → Heap → Prop), (∀ p H', Own (BusO p ⟨0, List.replicate (Z.length + 1) n0⟩) NoB H H' → K2 (.tuple ⟨[ptr p, zi 0]⟩) H') → SCalls Tryz.prog 7 [zi ((Z.length : Int) + 1)] (q :: t :: H) K2 := fun q t K2 hk => by
        have e : ((Z.length : Int) + 1) = ((Z.length + 1 : Nat) : Int) := rfl
        rw [e]
        exact h9 (Own.none fun z hz => .tail _ (.tail _ hz)) (by omega) (by omega) hk
      repeat' ((conv => whnf); (first | refine c4 hD ?_ | refine hcp _ _ _ _ _ _ (fun z hz => hz) rfl (fun q c => ?_) | with_reducible refine h5 _ _ _ _ (fun z hz => hz) ?_ | refine Branch.df (show ¬ (20 : Int) < (Z.length : Int) by omega) ?_ | refine hcp _ _ _ _ _ _ (hm1 _) rfl (fun q c => ?_) | with_reducible refine h6 _ _ _ _ (hm1 _) ?_ | with_reducible refine h7 _ _ _ (fun p H1 g1 => ?_) | (refine l3a (n := Z.length) (by omega) g1 .mk (fun S H2 hS g2 => ?_); cases hS) | (refine l3b hin hG (by omega) g2 .mk (fun S H3 hS g3 => ?_); cases hS) | (refine l3c hD hin hG hwf hc (by omega) rfl g3 .mk (fun S H4 k hS => ?_); cases hS) | exact Keep.all rfl | refine New.mk (fun _ => ?_) | refine Look.at0 ?_ | refine Cell.row ?_ | refine Cell.buf ?_ | refine Cells.row rfl ?_ | refine Put.row rfl ?_ | refine Put.buf rfl ?_ | refine Look.at1 ?_ | refine Look.at2 ?_ | refine Look.at3 ?_ | refine Look.at4 ?_ | refine Look.at5 ?_ | refine Look.at6 ?_ | refine Look.at7 ?_ | refine Look.at8 ?_ | with_reducible refine Val.i64 (by omega) (by omega) ?_ | with_reducible refine Val.u8 (by omega) (by omega) ?_ | with_reducible refine Val.u32 (by omega) (by omega) ?_ | with_reducible refine Val.u64 (by omega) (by omega) ?_ | with_reducible refine Val.u8m ?_ | with_reducible refine Val.u32m ?_ | with_reducible refine Val.u64m ?_ | with_reducible refine Val.shr8 ?_ | with_reducible refine Val.shr16 (by decide) ?_ | with_reducible refine Val.shr24 (by decide) ?_ | with_reducible refine Val.raw ?_ | refine Branch.not ?_ | refine Branch.and ?_ | refine Branch.or ?_ | refine Branch.dt (by assumption) ?_ | refine Branch.df (by assumption) ?_ | refine Branch.dt rfl ?_ | refine Branch.dt (by omega) ?_ | refine Branch.df (by omega) ?_ | refine Branch.t rfl ?_ | refine Branch.f rfl ?_ | refine Branch.t (by assumption) ?_ | refine Branch.f (by assumption) ?_ | refine Branch.d (fun _ => ?_) (fun _ => ?_) | refine Branch.mk (fun _ => ?_) (fun _ => ?_) | refine Need.mk (by first | omega | decide | rfl) ?_ | refine Idx.nat (by omega) ?_ | refine Idx.auto (by first | omega | decide) (by first | omega | decide) ?_ | refine Cell.ro rfl ?_ | refine SDraw.all (by kernel_rfl) ?_ | refine Kept.k0 ?_ | refine Kept.k1 ?_ | refine Kept.k2 ?_ | refine Kept.k3 ?_ | refine Kept.k4 ?_))
  · generalize L.chk Z = e at *
    repeat' ((conv => whnf); (first | refine c4 hD ?_ | refine hcp _ _ _ _ _ _ (fun z hz => hz) rfl (fun q c => ?_) | with_reducible refine h5 _ _ _ _ (fun z hz => hz) ?_ | refine Branch.df hc ?_ | exact Keep.all rfl | refine New.mk (fun _ => ?_) | refine Look.at0 ?_ | refine Cell.row ?_ | refine Cell.buf ?_ | refine Cells.row rfl ?_ | refine Put.row rfl ?_ | refine Put.buf rfl ?_ | refine Look.at1 ?_ | refine Look.at2 ?_ | refine Look.at3 ?_ | refine Look.at4 ?_ | refine Look.at5 ?_ | refine Look.at6 ?_ | refine Look.at7 ?_ | refine Look.at8 ?_ | with_reducible refine Val.i64 (by omega) (by omega) ?_ | with_reducible refine Val.u8 (by omega) (by omega) ?_ | with_reducible refine Val.u32 (by omega) (by omega) ?_ | with_reducible refine Val.u64 (by omega) (by omega) ?_ | with_reducible refine Val.u8m ?_ | with_reducible refine Val.u32m ?_ | with_reducible refine Val.u64m ?_ | with_reducible refine Val.shr8 ?_ | with_reducible refine Val.shr16 (by decide) ?_ | with_reducible refine Val.shr24 (by decide) ?_ | with_reducible refine Val.raw ?_ | refine Branch.not ?_ | refine Branch.and ?_ | refine Branch.or ?_ | refine Branch.dt (by assumption) ?_ | refine Branch.df (by assumption) ?_ | refine Branch.dt rfl ?_ | refine Branch.dt (by omega) ?_ | refine Branch.df (by omega) ?_ | refine Branch.t rfl ?_ | refine Branch.f rfl ?_ | refine Branch.t (by assumption) ?_ | refine Branch.f (by assumption) ?_ | refine Branch.d (fun _ => ?_) (fun _ => ?_) | refine Branch.mk (fun _ => ?_) (fun _ => ?_) | refine Need.mk (by first | omega | decide | rfl) ?_ | refine Idx.nat (by omega) ?_ | refine Idx.auto (by first | omega | decide) (by first | omega | decide) ?_ | refine Cell.ro rfl ?_ | refine SDraw.all (by kernel_rfl) ?_ | refine Kept.k0 ?_ | refine Kept.k1 ?_ | refine Kept.k2 ?_ | refine Kept.k3 ?_ | refine Kept.k4 ?_))
end
end Go.Proofs.YtiaginlnapiijaaGreatDoor


/- Input slices: from what the row tells of one to what a walk knows of it. -/
set_option linter.unusedVariables false
set_option linter.unusedSimpArgs false
namespace Go.Proofs.YtiaginlnapiijaaGreatDoor
open Sx
theorem inS_of {α : Type} {f : α → List Value} {k B : Nat} {R : World → List Value → Prop} {Good : α → Prop} {w : World} {a : Option Addr} {n c : Nat} (h : SliceAt k B R w a n c) (hk0 : 0 < k) (hk : ∀ x, (f x).length = k) (hR : ∀ cs, R w cs → ∃ x, cs = f x ∧ Good x) :
    ∃ H L, L.length = n ∧ InS f k (.slice a L.length c) H L ∧ (∀ x ∈ L, Good x) ∧ Holds w H ∧ ∀ p ∈ H, p.2.excl = false := by
  have hml : n ≤ maxLen := Nat.le_trans h.1 h.2.1
  by_cases hl : 0 < n
  · obtain ⟨b, o, rfl, hb, hc⟩ := h.plain hk0 hl
    obtain ⟨L, h1, h2⟩ := list_of (P := fun j (m : α) => Good m ∧ ∀ i v, (f m)[i]? = some v → w.cell? ⟨b, o + j * k + i, none⟩ = some v) n fun j hj => by
      obtain ⟨cs, hlc, hcell, hr⟩ := hc j hj
      obtain ⟨x, rfl, hg⟩ := hR cs hr
      refine ⟨x, hg, fun i v hi => ?_⟩
      have hik : i < k := by rw [← hk x]; exact (List.getElem?_eq_some_iff.1 hi).1
      exact (hcell i hik).trans hi
    refine ⟨[(b, .ro fun j => w.cell? ⟨b, j, none⟩)], L, h1, ⟨_, c, rfl, by omega, .inr ⟨b, o, _, rfl, .head _, fun j x i v hj hv hi => (h2 j x hj).2 i v hv⟩⟩, fun x hx => ?_, ⟨fun p hp => ?_, List.pairwise_singleton _ _⟩, fun p hp => ?_⟩
    · obtain ⟨j, hlt, rfl⟩ := List.getElem_of_mem hx
      exact (h2 j _ (List.getElem?_eq_getElem hlt)).1
    · obtain rfl := List.mem_singleton.1 hp
      exact ⟨hb, fun _ _ h => h⟩
    · obtain rfl := List.mem_singleton.1 hp
      rfl
  · obtain rfl : n = 0 := by omega
    exact ⟨[], [], rfl, ⟨a, c, rfl, by simp, .inl rfl⟩, fun x hx => (by cases hx), Holds.empty w, fun p hp => by cases hp⟩
/-- Two inputs, side by side. -/
theorem Holds.join {w : World} {H G : Heap} (h1 : Holds w H) (h2 : Holds w G) (x1 : ∀ p ∈ H, p.2.excl = false) (x2 : ∀ p ∈ G, p.2.excl = false) : Holds w (H ++ G) := by
  refine ⟨fun p hp => ?_, List.pairwise_append.2 ⟨h1.sep, h2.sep, fun p hp q hq hx => ?_⟩⟩
  · rcases List.mem_append.1 hp with hp | hp
    · exact h1.at_ p hp
    · exact h2.at_ p hp
  · rw [x1 p hp, x2 q hq] at hx
    rcases hx with hx | hx <;> cases hx
theorem excl_join {H G : Heap} (x1 : ∀ p ∈ H, p.2.excl = false) (x2 : ∀ p ∈ G, p.2.excl = false) : ∀ p ∈ H ++ G, p.2.excl = false := fun p hp => by
  rcases List.mem_append.1 hp with hp | hp
  · exact x1 p hp
  · exact x2 p hp
end Go.Proofs.YtiaginlnapiijaaGreatDoor


/- What comes in; the law on messages on a bus. -/
set_option linter.unusedVariables false
set_option linter.unusedSimpArgs false
set_option maxRecDepth 100000
set_option maxHeartbeats 4000000
namespace Go.Proofs.YtiaginlnapiijaaGreatDoor
open Sx
theorem g5 : Tryz.prog.globalNamed "math/bits.deBruijn64tab" = some 5 := by kernel_rfl
theorem g5t : ∃ t, (Tryz.prog.globals[5]?).map (·.type) = some t ∧ Tryz.prog.underlying t = some (.array 64 5) ∧ Tryz.prog.cellsOf t = 64 := ⟨197, by kernel_rfl, by kernel_rfl, by kernel_rfl⟩
theorem db_of {W : World} {d : DataW Unit} {rest : List (String × DataW Unit)} (h : laidMet Tryz.prog (("math/bits.deBruijn32tab", d) :: ("math/bits.deBruijn64tab", Rows.laid_math_bits_deBruijn64tab) :: rest) W) :
    Db [(5, .ro fun j => if j = 1 then some (.int .u8 1) else none)] ∧ Holds W [(5, .ro fun j => if j = 1 then some (.int .u8 1) else none)] ∧ ∀ p ∈ [((5 : Nat), Blk.ro fun j => if j = 1 then some (.int .u8 1) else none)], p.2.excl = false := by
  obtain ⟨t, h1, h2, h3⟩ := g5t
  have hT := Lib.tabIs_of_head (k := .u8) (zs := [0, 1, 56, 2, 57, 49, 28, 3, 61, 58, 42, 50, 38, 29, 17, 4, 62, 47, 59, 36, 45, 43, 51, 22, 53, 39, 33, 30, 24, 18, 12, 5, 63, 55, 48, 27, 60, 41, 37, 16, 46, 35, 44, 21, 52, 32, 23, 11, 54, 26, 40, 15, 34, 20, 31, 10, 25, 14, 19, 9, 13, 8, 7, 6]) g5 h1 h2 (show Tryz.prog.underlying 5 = some (.int .u8) by kernel_rfl) (by kernel_rfl) h3 h.tail
  have hc : W.cell? ⟨5, 1, none⟩ = some (.int .u8 1) := hT.cell g5 1 (by decide)
  refine ⟨⟨_, .head _, rfl⟩, ⟨fun p hp => ?_, List.pairwise_singleton _ _⟩, fun p hp => ?_⟩
  · obtain rfl := List.mem_singleton.1 hp
    refine ⟨World.block_lt_of_cell? W _ hc, fun j v hj => ?_⟩
    by_cases h : j = 1
    · subst h
      injection hj with hj
      subst hj
      exact hc
    · simp only [h, if_false] at hj
      cases hj
  · obtain rfl := List.mem_singleton.1 hp
    rfl
theorem msg_of {w : World} {cs : List Value} (h : R36 w cs) : ∃ m : L.Msg, cs = L.mC m ∧ m.wf := by
  obtain ⟨x0, x1, x2, x3, x4, rfl, h0, h2, h3, h4⟩ := h
  have e0 := wf_u32 h0
  have e2 := wf_i64 h2
  have e3 := wf_u64 h3
  have e4 := wf_u64 h4
  obtain ⟨n0, rfl⟩ : ∃ n : Nat, x0 = (n : Int) := ⟨x0.toNat, by omega⟩
  obtain ⟨n3, rfl⟩ : ∃ n : Nat, x3 = (n : Int) := ⟨x3.toNat, by omega⟩
  obtain ⟨n4, rfl⟩ : ∃ n : Nat, x4 = (n : Int) := ⟨x4.toNat, by omega⟩
  exact ⟨⟨n0, x1, x2, n3, n4⟩, rfl, by show n0 < 4294967296; omega, e2.1, e2.2, by show n3 < 18446744073709551616; omega, by show n4 < 18446744073709551616; omega⟩
/-- Messages that come in. -/
theorem msgs_of {w : World} {a : Option Addr} {n c : Nat} (h : SliceAt 5 B36 R36 w a n c) : ∃ H Z, Z.length = n ∧ InS L.mC 5 (.slice a Z.length c) H Z ∧ (∀ x ∈ Z, x.wf) ∧ Holds w H ∧ (∀ p ∈ H, p.2.excl = false) ∧ Z.length * 32 ≤ 140737488355328 := by
  obtain ⟨H, Z, e, hin, hwf, hw, hx⟩ := inS_of (f := L.mC) (Good := L.Msg.wf) h (by decide) (fun _ => rfl) (fun cs hc => msg_of hc)
  have hb := h.2.2.1
  simp only [reachBytes, B36] at hb
  exact ⟨H, Z, e, hin, hwf, hw, hx, by omega⟩
theorem TopLoadW (a0a : Option Addr) (a0l : Nat) (a0c : Nat) (w : World) (h0_0 : SliceAt 5 B36 R36 w a0a a0l a0c)
    (hL : laidMet Tryz.prog Rows.topLoadRow.laid w) :
    Calls Tryz.prog 3 #[.slice a0a a0l a0c] w fun e w' => e = .returned (.bool true) ∧ Go.RowKit.Below w.heap.size w w' := by
  obtain ⟨hD, hw, hx⟩ := db_of hL
  obtain ⟨H, Z, rfl, hin, hwf, hw2, x2, hb⟩ := msgs_of h0_0
  exact (load_c (hD.mono fun p hp => List.mem_append_left _ hp) (hin.mono fun p hp => List.mem_append_right _ hp) hwf hb).fin w (Holds.join hw hw2 hx x2) (excl_join hx x2)
end Go.Proofs.YtiaginlnapiijaaGreatDoor


