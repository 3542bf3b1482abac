/- Layer 25: LoadMore: a further message makes no longest time less. -/
import Derived.Test.YtjleekdidedhaaaDoorBMain2

set_option linter.unusedVariables false
set_option linter.unusedSimpArgs false
set_option maxRecDepth 100000
set_option maxHeartbeats 4000000
namespace Go.Proofs.YtjleekdidedhaaaDoor
open Sx
theorem fold_max (m : Msg) (c : Nat) : ∀ (L : List Msg) (b : Nat), L.foldl (fun b y => if tlt (fld m) (fld y) then max b (tm y) else b) (max b c) = max (L.foldl (fun b y => if tlt (fld m) (fld y) then max b (tm y) else b) b) c
  | [], b => rfl
  | y :: L, b => by
    rw [List.foldl_cons, List.foldl_cons]
    by_cases h : tlt (fld m) (fld y) = true
    · rw [if_pos h, if_pos h, ← fold_max m c L]
      congr 1
      omega
    · rw [if_neg h, if_neg h]
      exact fold_max m c L b
theorem wB_cons (x m : Msg) (L : List Msg) : wB (x :: L) m = if tlt (fld m) (fld x) then max (wB L m) (tm x) else wB L m := by
  unfold wB
  rw [List.foldl_cons]
  by_cases h : tlt (fld m) (fld x) = true
  · rw [if_pos h, if_pos h, fold_max]
  · rw [if_neg h, if_neg h]
theorem wF_cons (x m : Msg) (L : List Msg) : wF (x :: L) m = if tlt (fld x) (fld m) then x :: wF L m else wF L m := by
  unfold wF
  rw [List.filter_cons]
theorem fold_ge (m : Msg) : ∀ (L : List Msg) (b : Nat), b ≤ L.foldl (fun b y => if tlt (fld m) (fld y) then max b (tm y) else b) b
  | [], b => Nat.le_refl _
  | y :: L, b => by
    rw [List.foldl_cons]
    refine Nat.le_trans ?_ (fold_ge m L _)
    split <;> omega
theorem wB_mem {m y : Msg} (h : tlt (fld m) (fld y) = true) : ∀ {L : List Msg}, y ∈ L → tm y ≤ wB L m
  | x :: L, hy => by
    rw [wB_cons]
    rcases List.mem_cons.1 hy with rfl | hy
    · rw [if_pos h]; omega
    · have := wB_mem h hy
      split <;> omega
theorem wStep_cons_le (x m : Msg) (L : List Msg) (w : Nat) : wStep L m w ≤ wStep (x :: L) m w := by
  have hB : wB L m ≤ wB (x :: L) m := by rw [wB_cons]; split <;> omega
  unfold wStep
  rw [wF_cons]
  by_cases h : tlt (fld x) (fld m) = true
  · rw [if_pos h, List.foldl_cons]
    refine wAdd_mono (Nat.le_refl w) _ (Nat.le_trans hB ?_)
    unfold wAdd
    omega
  · rw [if_neg h]
    exact wAdd_mono (Nat.le_refl w) _ hB
theorem iter_true {L : List Msg} {m : Msg} : ∀ (f w : Nat), w ≤ wStep L m w → (wIter L m f w).2 = true → ∃ ws, w ≤ ws ∧ wStep L m ws = ws ∧ (wIter L m f w).1 = m.j + ws + tm m ∧ ¬ m.p < m.j + ws + tm m
  | 0, w, _, h => by cases h
  | f + 1, w, hw, h => by
    rw [wIter] at h ⊢
    by_cases hp : m.p < m.j + w + tm m
    · rw [if_pos hp] at h; cases h
    · rw [if_neg hp] at h ⊢
      by_cases he : wStep L m w = w
      · rw [if_pos he]
        exact ⟨w, Nat.le_refl _, he, rfl, hp⟩
      · rw [if_neg he] at h ⊢
        obtain ⟨ws, h1, h2⟩ := iter_true f _ (wStep_mono L m hw) h
        exact ⟨ws, Nat.le_trans hw h1, h2⟩
theorem iter_below {L : List Msg} {m : Msg} {ws : Nat} (hs : wStep L m ws ≤ ws) (hp : ¬ m.p < m.j + ws + tm m) : ∀ (f w : Nat), w ≤ ws → w ≤ wStep L m w → m.p + 1 ≤ f + w → ∃ w', wIter L m f w = (m.j + w' + tm m, true) ∧ w' ≤ ws
  | 0, w, h1, _, h3 => by omega
  | f + 1, w, h1, h2, h3 => by
    rw [wIter, if_neg (by omega)]
    by_cases he : wStep L m w = w
    · rw [if_pos he]
      exact ⟨w, rfl, h1⟩
    · rw [if_neg he]
      exact iter_below hs hp f _ (Nat.le_trans (wStep_mono L m h1) hs) (wStep_mono L m h2) (by omega)
/-- One more makes nothing less. -/
theorem more_le {L : List Msg} {x m : Msg} (h : (worstS (x :: L) m).2 = true) : (worstS L m).2 = true ∧ (worstS L m).1 ≤ (worstS (x :: L) m).1 := by
  obtain ⟨ws, h1, h2, h3, h4⟩ := iter_true _ _ (wB_le _ _ _) h
  have hB : wB L m ≤ wB (x :: L) m := by rw [wB_cons]; split <;> omega
  obtain ⟨w', g1, g2⟩ := iter_below (L := L) (ws := ws) (Nat.le_trans (wStep_cons_le x m L ws) (Nat.le_of_eq h2)) h4 (m.p + 1) (wB L m) (Nat.le_trans hB h1) (wB_le _ _ _) (by omega)
  unfold worstS
  rw [g1]
  refine ⟨rfl, ?_⟩
  rw [h3]
  show m.j + w' + tm m ≤ _
  omega
/-- One that comes behind, and is not the longest, plays no part. -/
theorem more_eq {L : List Msg} {x m : Msg} (h : tlt (fld m) (fld x) = true) (hl : tm x ≤ tm m ∨ ∃ y ∈ L, tlt (fld m) (fld y) = true ∧ tm x ≤ tm y) : worstS (x :: L) m = worstS L m := by
  have hle : tm x ≤ wB L m := by
    rcases hl with hl | ⟨y, h1, h2, h3⟩
    · exact Nat.le_trans hl (fold_ge m L _)
    · exact Nat.le_trans h3 (wB_mem h2 h1)
  have hB : wB (x :: L) m = wB L m := by rw [wB_cons, if_pos h]; omega
  have hF : wF (x :: L) m = wF L m := by
    rw [wF_cons, if_neg]
    rw [show tlt (fld x) (fld m) = false from Hp.bl_asym h]; decide
  have hS : ∀ w, wStep (x :: L) m w = wStep L m w := fun w => by unfold wStep; rw [hB, hF]
  have hI : ∀ f w, wIter (x :: L) m f w = wIter L m f w := by
    intro f
    induction f with
    | zero => exact fun w => rfl
    | succ f ih => intro w; rw [wIter, wIter, hS, ih]
  unfold worstS
  rw [hB, hI]
theorem ers_succ {L : List Msg} {j k : Nat} {y : Msg} (hj : j < L.length) (h : L.take (j + 1) = L.take j ++ [y]) : (L.take (j + 1)).eraseIdx k = if j = k then (L.take j).eraseIdx k else (L.take j).eraseIdx k ++ [y] := by
  have hl : (L.take j).length = j := by simp; omega
  rw [h]
  rcases Nat.lt_trichotomy j k with hlt | rfl | hgt
  · rw [if_neg (by omega), List.eraseIdx_of_length_le (by simp; omega), List.eraseIdx_of_length_le (by omega)]
  · rw [if_pos rfl, List.eraseIdx_append_of_length_le (by omega), hl, Nat.sub_self, List.eraseIdx_of_length_le (l := L.take j) (by omega)]
    simp
  · rw [if_neg (by omega), List.eraseIdx_append_of_lt_length (by omega)]
theorem Goods.erase {L : List Msg} (h : Goods L) (k : Nat) : Goods (L.eraseIdx k) := by
  have hs := List.eraseIdx_sublist L k
  exact ⟨Nat.le_trans hs.length_le h.len, fun m hm => h.good m (hs.subset hm), (hs.map fld).nodup h.one⟩
def lgr (L : List Msg) (x m : Msg) : Bool := decide (tm m < tm x) && L.all fun y => !(tlt (fld m) (fld y) && decide (tm x ≤ tm y))
theorem lgr_false {L : List Msg} {x m : Msg} (h : lgr L x m = false) : tm x ≤ tm m ∨ ∃ y ∈ L, tlt (fld m) (fld y) = true ∧ tm x ≤ tm y := by
  unfold lgr at h
  rw [Bool.and_eq_false_iff] at h
  rcases h with h | h
  · exact .inl (by simpa using h)
  · rw [List.all_eq_false] at h
    obtain ⟨y, h1, h2⟩ := h
    simp only [Bool.not_eq_true', Bool.not_eq_false', Bool.and_eq_true, decide_eq_true_eq, Bool.not_eq_true, Bool.not_eq_false] at h2
    exact .inr ⟨y, h1, by simpa using h2⟩
inductive S3a (A0 A1 A2 A7 A8 A9 : Value) : List Value → Prop
  | mk {r3 r4 r5 r6 r10 r11 r12 r13 r14 r15 r16 r17 r18 r19 r20 r21 r22 r23 r24 r25 r26 r27 r28 r29 r30 r31 r32 r33 r34 r35 r36 r37 r38 r39 r40 r41 r42 r43 r44 r45 r46 r47 r48 r49 r50 r51 r52 r53 r54 r55 r56 r57 r58 r59 r60 r61 r62 r63 r64 r65 r66 r67 r68 r69 r70 r71 r72 r73 r74 r75 r76 r77 r78 r79 r80 r81 r82 r83 r84 r85 r86 r87 r88 r89 r90 r91 r92 r93 r94 r95 r96 r97 r98 r99 r100 r101 r102 r103 r104 r105 r106 r107 r108 r109 r110 r111 r112 r113 r114 r115 r116 r117 r118 r119 r120 r121 r122 r123 r124 r125 r126 r127 r128 r129 r130 r131 r132 r133 r134 r135 r136 r137 r138 r139 r140 r141 r142 r143 r144 r145 r146 r147 r148 r149 r150 r151 r152 r153 r154 r155 r156 r157 r158 r159 r160 r161 r162 r163 r164 r165 r166 r167 r168 r169 r170 : Value} : S3a A0 A1 A2 A7 A8 A9 [A0, A1, A2, r3, r4, r5, r6, A7, A8, A9, r10, r11, r12, r13, r14, r15, r16, r17, r18, r19, r20, r21, r22, r23, r24, r25, r26, r27, r28, r29, r30, r31, r32, r33, r34, r35, r36, r37, r38, r39, r40, r41, r42, r43, r44, r45, r46, r47, r48, r49, r50, r51, r52, r53, r54, r55, r56, r57, r58, r59, r60, r61, r62, r63, r64, r65, r66, r67, r68, r69, r70, r71, r72, r73, r74, r75, r76, r77, r78, r79, r80, r81, r82, r83, r84, r85, r86, r87, r88, r89, r90, r91, r92, r93, r94, r95, r96, r97, r98, r99, r100, r101, r102, r103, r104, r105, r106, r107, r108, r109, r110, r111, r112, r113, r114, r115, r116, r117, r118, r119, r120, r121, r122, r123, r124, r125, r126, r127, r128, r129, r130, r131, r132, r133, r134, r135, r136, r137, r138, r139, r140, r141, r142, r143, r144, r145, r146, r147, r148, r149, r150, r151, r152, r153, r154, r155, r156, r157, r158, r159, r160, r161, r162, r163, r164, r165, r166, r167, r168, r169, r170]
inductive S3b (A0 A1 A2 A7 A10 A11 A13 A14 A16 A17 : Value) : List Value → Prop
  | mk {r3 r4 r5 r6 r8 r9 r12 r15 r18 r19 r20 r21 r22 r23 r24 r25 r26 r27 r28 r29 r30 r31 r32 r33 r34 r35 r36 r37 r38 r39 r40 r41 r42 r43 r44 r45 r46 r47 r48 r49 r50 r51 r52 r53 r54 r55 r56 r57 r58 r59 r60 r61 r62 r63 r64 r65 r66 r67 r68 r69 r70 r71 r72 r73 r74 r75 r76 r77 r78 r79 r80 r81 r82 r83 r84 r85 r86 r87 r88 r89 r90 r91 r92 r93 r94 r95 r96 r97 r98 r99 r100 r101 r102 r103 r104 r105 r106 r107 r108 r109 r110 r111 r112 r113 r114 r115 r116 r117 r118 r119 r120 r121 r122 r123 r124 r125 r126 r127 r128 r129 r130 r131 r132 r133 r134 r135 r136 r137 r138 r139 r140 r141 r142 r143 r144 r145 r146 r147 r148 r149 r150 r151 r152 r153 r154 r155 r156 r157 r158 r159 r160 r161 r162 r163 r164 r165 r166 r167 r168 r169 r170 : Value} : S3b A0 A1 A2 A7 A10 A11 A13 A14 A16 A17 [A0, A1, A2, r3, r4, r5, r6, A7, r8, r9, A10, A11, r12, A13, A14, r15, A16, A17, r18, r19, r20, r21, r22, r23, r24, r25, r26, r27, r28, r29, r30, r31, r32, r33, r34, r35, r36, r37, r38, r39, r40, r41, r42, r43, r44, r45, r46, r47, r48, r49, r50, r51, r52, r53, r54, r55, r56, r57, r58, r59, r60, r61, r62, r63, r64, r65, r66, r67, r68, r69, r70, r71, r72, r73, r74, r75, r76, r77, r78, r79, r80, r81, r82, r83, r84, r85, r86, r87, r88, r89, r90, r91, r92, r93, r94, r95, r96, r97, r98, r99, r100, r101, r102, r103, r104, r105, r106, r107, r108, r109, r110, r111, r112, r113, r114, r115, r116, r117, r118, r119, r120, r121, r122, r123, r124, r125, r126, r127, r128, r129, r130, r131, r132, r133, r134, r135, r136, r137, r138, r139, r140, r141, r142, r143, r144, r145, r146, r147, r148, r149, r150, r151, r152, r153, r154, r155, r156, r157, r158, r159, r160, r161, r162, r163, r164, r165, r166, r167, r168, r169, r170]
section
variable {K : Value → Heap → Prop} {H : Heap} {sv : Value} {L : List Msg}
def I3a (sv : Value) (i k : Nat) (L : List Msg) (H : Heap) (j : Nat) (S : List Value) (H' : Heap) : Prop :=
  j ≤ L.length ∧ ∃ (a : Option Addr) (n c : Nat) (M : Heap), n = ((L.take j).eraseIdx k).length ∧ Grow mC 5 30 (.slice a n c) ((L.take j).eraseIdx k) M ∧ S3a sv (.int .i64 (i : Int)) (.int .i64 (k : Int)) (.slice a n c) (.int .i64 (i : Int)) (.int .i64 (j : Int)) S ∧ M ++ H = H'
def I3b (sv lv : Value) (i k : Nat) (v1 u1 : Int) (b1 b2 : Bool) (Le : List Msg) (x m : Msg) (H : Heap) (j : Nat) (S : List Value) (H' : Heap) : Prop :=
  j ≤ Le.length ∧ S3b sv (.int .i64 (i : Int)) (.int .i64 (k : Int)) lv (.int .u64 v1) (.bool b1) (.int .u64 u1) (.bool b2) (.bool (lgr (Le.take j) x m)) (.int .i64 (j : Int)) S ∧ H' = H
theorem more_c {i k : Int} (hD : Db H) (hin : InS mC 5 sv H L) (hb : L.length * 32 ≤ 140737488355328) (hwf : ∀ m ∈ L, m.wf) : SCalls Tryd.prog 3 [sv, .int .i64 i, .int .i64 k] H fun v _ => v = .bool true := by
  obtain ⟨sa, sc, rfl, hml⟩ := hin.sv
  have hml2 : L.length ≤ 4398046511104 := by omega
  have h8 : ∀ (q c : Nat) (X : Heap) (K2 : Value → Heap → Prop), Db X → K2 (.int .i64 (chk L)) (bufR q c L :: X) → SCalls Tryd.prog 8 [.slice (some ⟨q, 0, none⟩) L.length c] (bufR q c L :: X) K2 := fun q c X K2 h1 h2 => c8 (h1.mono fun _ hz => .tail _ hz) (buf_in hml) hwf h2
  by_cases hc : chk L = 0
  · rw [hc] at h8
    by_cases g1 : i < 0
    · refine enter3 ?_
      repeat' ((conv => whnf); (first | refine c9 (hin.mono fun z hz => by simp only [List.mem_cons, hz, or_true]) hb (fun q c k1 k2 => ?_) | refine h8 _ _ _ _ (hD.mono fun z hz => by simp only [List.mem_cons, hz, or_true]) ?_ | refine Branch.df (by omega) ?_ | refine Branch.dt (by omega) ?_ | refine Branch.f rfl ?_ | refine c10 (hD.mono fun z hz => by simp only [List.mem_cons, hz, or_true]) ?_ | exact Keep.all rfl | refine New.mk (fun _ => ?_) | refine Look.at0 ?_ | refine Cell.row ?_ | refine Cell.buf ?_ | refine Cells.row rfl ?_ | refine Put.row rfl ?_ | refine Put.buf rfl ?_ | refine Look.at1 ?_ | refine Look.at2 ?_ | refine Look.at3 ?_ | refine Look.at4 ?_ | refine Look.at5 ?_ | refine Look.at6 ?_ | refine Look.at7 ?_ | refine Look.at8 ?_ | with_reducible refine Val.i64 (by omega) (by omega) ?_ | with_reducible refine Val.u8 (by omega) (by omega) ?_ | with_reducible refine Val.u32 (by omega) (by omega) ?_ | with_reducible refine Val.u64 (by omega) (by omega) ?_ | with_reducible refine Val.u8m ?_ | with_reducible refine Val.u32m ?_ | with_reducible refine Val.u64m ?_ | with_reducible refine Val.shr8 ?_ | with_reducible refine Val.shr16 (by decide) ?_ | with_reducible refine Val.shr24 (by decide) ?_ | with_reducible refine Val.raw ?_ | refine Branch.not ?_ | refine Branch.and ?_ | refine Branch.or ?_ | refine Branch.dt (by assumption) ?_ | refine Branch.df (by assumption) ?_ | refine Branch.dt rfl ?_ | refine Branch.dt (by omega) ?_ | refine Branch.df (by omega) ?_ | refine Branch.t rfl ?_ | refine Branch.f rfl ?_ | refine Branch.t (by assumption) ?_ | refine Branch.f (by assumption) ?_ | refine Branch.d (fun _ => ?_) (fun _ => ?_) | refine Branch.mk (fun _ => ?_) (fun _ => ?_) | refine Need.mk (by first | omega | decide | rfl) ?_ | refine Idx.nat (by omega) ?_ | refine Idx.auto (by first | omega | decide) (by first | omega | decide) ?_ | refine Cell.ro rfl ?_ | refine SDraw.all (by kernel_rfl) ?_ | refine Kept.k0 ?_ | refine Kept.k1 ?_ | refine Kept.k2 ?_ | refine Kept.k3 ?_ | refine Kept.k4 ?_))
    by_cases g2 : (L.length : Int) ≤ i
    · refine enter3 ?_
      repeat' ((conv => whnf); (first | refine c9 (hin.mono fun z hz => by simp only [List.mem_cons, hz, or_true]) hb (fun q c k1 k2 => ?_) | refine h8 _ _ _ _ (hD.mono fun z hz => by simp only [List.mem_cons, hz, or_true]) ?_ | refine Branch.df (by omega) ?_ | refine Branch.dt (by omega) ?_ | refine Branch.f rfl ?_ | refine c10 (hD.mono fun z hz => by simp only [List.mem_cons, hz, or_true]) ?_ | exact Keep.all rfl | refine New.mk (fun _ => ?_) | refine Look.at0 ?_ | refine Cell.row ?_ | refine Cell.buf ?_ | refine Cells.row rfl ?_ | refine Put.row rfl ?_ | refine Put.buf rfl ?_ | refine Look.at1 ?_ | refine Look.at2 ?_ | refine Look.at3 ?_ | refine Look.at4 ?_ | refine Look.at5 ?_ | refine Look.at6 ?_ | refine Look.at7 ?_ | refine Look.at8 ?_ | with_reducible refine Val.i64 (by omega) (by omega) ?_ | with_reducible refine Val.u8 (by omega) (by omega) ?_ | with_reducible refine Val.u32 (by omega) (by omega) ?_ | with_reducible refine Val.u64 (by omega) (by omega) ?_ | with_reducible refine Val.u8m ?_ | with_reducible refine Val.u32m ?_ | with_reducible refine Val.u64m ?_ | with_reducible refine Val.shr8 ?_ | with_reducible refine Val.shr16 (by decide) ?_ | with_reducible refine Val.shr24 (by decide) ?_ | with_reducible refine Val.raw ?_ | refine Branch.not ?_ | refine Branch.and ?_ | refine Branch.or ?_ | refine Branch.dt (by assumption) ?_ | refine Branch.df (by assumption) ?_ | refine Branch.dt rfl ?_ | refine Branch.dt (by omega) ?_ | refine Branch.df (by omega) ?_ | refine Branch.t rfl ?_ | refine Branch.f rfl ?_ | refine Branch.t (by assumption) ?_ | refine Branch.f (by assumption) ?_ | refine Branch.d (fun _ => ?_) (fun _ => ?_) | refine Branch.mk (fun _ => ?_) (fun _ => ?_) | refine Need.mk (by first | omega | decide | rfl) ?_ | refine Idx.nat (by omega) ?_ | refine Idx.auto (by first | omega | decide) (by first | omega | decide) ?_ | refine Cell.ro rfl ?_ | refine SDraw.all (by kernel_rfl) ?_ | refine Kept.k0 ?_ | refine Kept.k1 ?_ | refine Kept.k2 ?_ | refine Kept.k3 ?_ | refine Kept.k4 ?_))
    by_cases g3 : k < 0
    · refine enter3 ?_
      repeat' ((conv => whnf); (first | refine c9 (hin.mono fun z hz => by simp only [List.mem_cons, hz, or_true]) hb (fun q c k1 k2 => ?_) | refine h8 _ _ _ _ (hD.mono fun z hz => by simp only [List.mem_cons, hz, or_true]) ?_ | refine Branch.df (by omega) ?_ | refine Branch.dt (by omega) ?_ | refine Branch.f rfl ?_ | refine c10 (hD.mono fun z hz => by simp only [List.mem_cons, hz, or_true]) ?_ | exact Keep.all rfl | refine New.mk (fun _ => ?_) | refine Look.at0 ?_ | refine Cell.row ?_ | refine Cell.buf ?_ | refine Cells.row rfl ?_ | refine Put.row rfl ?_ | refine Put.buf rfl ?_ | refine Look.at1 ?_ | refine Look.at2 ?_ | refine Look.at3 ?_ | refine Look.at4 ?_ | refine Look.at5 ?_ | refine Look.at6 ?_ | refine Look.at7 ?_ | refine Look.at8 ?_ | with_reducible refine Val.i64 (by omega) (by omega) ?_ | with_reducible refine Val.u8 (by omega) (by omega) ?_ | with_reducible refine Val.u32 (by omega) (by omega) ?_ | with_reducible refine Val.u64 (by omega) (by omega) ?_ | with_reducible refine Val.u8m ?_ | with_reducible refine Val.u32m ?_ | with_reducible refine Val.u64m ?_ | with_reducible refine Val.shr8 ?_ | with_reducible refine Val.shr16 (by decide) ?_ | with_reducible refine Val.shr24 (by decide) ?_ | with_reducible refine Val.raw ?_ | refine Branch.not ?_ | refine Branch.and ?_ | refine Branch.or ?_ | refine Branch.dt (by assumption) ?_ | refine Branch.df (by assumption) ?_ | refine Branch.dt rfl ?_ | refine Branch.dt (by omega) ?_ | refine Branch.df (by omega) ?_ | refine Branch.t rfl ?_ | refine Branch.f rfl ?_ | refine Branch.t (by assumption) ?_ | refine Branch.f (by assumption) ?_ | refine Branch.d (fun _ => ?_) (fun _ => ?_) | refine Branch.mk (fun _ => ?_) (fun _ => ?_) | refine Need.mk (by first | omega | decide | rfl) ?_ | refine Idx.nat (by omega) ?_ | refine Idx.auto (by first | omega | decide) (by first | omega | decide) ?_ | refine Cell.ro rfl ?_ | refine SDraw.all (by kernel_rfl) ?_ | refine Kept.k0 ?_ | refine Kept.k1 ?_ | refine Kept.k2 ?_ | refine Kept.k3 ?_ | refine Kept.k4 ?_))
    by_cases g4 : (L.length : Int) ≤ k
    · refine enter3 ?_
      repeat' ((conv => whnf); (first | refine c9 (hin.mono fun z hz => by simp only [List.mem_cons, hz, or_true]) hb (fun q c k1 k2 => ?_) | refine h8 _ _ _ _ (hD.mono fun z hz => by simp only [List.mem_cons, hz, or_true]) ?_ | refine Branch.df (by omega) ?_ | refine Branch.dt (by omega) ?_ | refine Branch.f rfl ?_ | refine c10 (hD.mono fun z hz => by simp only [List.mem_cons, hz, or_true]) ?_ | exact Keep.all rfl | refine New.mk (fun _ => ?_) | refine Look.at0 ?_ | refine Cell.row ?_ | refine Cell.buf ?_ | refine Cells.row rfl ?_ | refine Put.row rfl ?_ | refine Put.buf rfl ?_ | refine Look.at1 ?_ | refine Look.at2 ?_ | refine Look.at3 ?_ | refine Look.at4 ?_ | refine Look.at5 ?_ | refine Look.at6 ?_ | refine Look.at7 ?_ | refine Look.at8 ?_ | with_reducible refine Val.i64 (by omega) (by omega) ?_ | with_reducible refine Val.u8 (by omega) (by omega) ?_ | with_reducible refine Val.u32 (by omega) (by omega) ?_ | with_reducible refine Val.u64 (by omega) (by omega) ?_ | with_reducible refine Val.u8m ?_ | with_reducible refine Val.u32m ?_ | with_reducible refine Val.u64m ?_ | with_reducible refine Val.shr8 ?_ | with_reducible refine Val.shr16 (by decide) ?_ | with_reducible refine Val.shr24 (by decide) ?_ | with_reducible refine Val.raw ?_ | refine Branch.not ?_ | refine Branch.and ?_ | refine Branch.or ?_ | refine Branch.dt (by assumption) ?_ | refine Branch.df (by assumption) ?_ | refine Branch.dt rfl ?_ | refine Branch.dt (by omega) ?_ | refine Branch.df (by omega) ?_ | refine Branch.t rfl ?_ | refine Branch.f rfl ?_ | refine Branch.t (by assumption) ?_ | refine Branch.f (by assumption) ?_ | refine Branch.d (fun _ => ?_) (fun _ => ?_) | refine Branch.mk (fun _ => ?_) (fun _ => ?_) | refine Need.mk (by first | omega | decide | rfl) ?_ | refine Idx.nat (by omega) ?_ | refine Idx.auto (by first | omega | decide) (by first | omega | decide) ?_ | refine Cell.ro rfl ?_ | refine SDraw.all (by kernel_rfl) ?_ | refine Kept.k0 ?_ | refine Kept.k1 ?_ | refine Kept.k2 ?_ | refine Kept.k3 ?_ | refine Kept.k4 ?_))
    by_cases g5 : i = k
    · refine enter3 ?_
      repeat' ((conv => whnf); (first | refine c9 (hin.mono fun z hz => by simp only [List.mem_cons, hz, or_true]) hb (fun q c k1 k2 => ?_) | refine h8 _ _ _ _ (hD.mono fun z hz => by simp only [List.mem_cons, hz, or_true]) ?_ | refine Branch.df (by omega) ?_ | refine Branch.dt (by omega) ?_ | refine Branch.f rfl ?_ | refine c10 (hD.mono fun z hz => by simp only [List.mem_cons, hz, or_true]) ?_ | exact Keep.all rfl | refine New.mk (fun _ => ?_) | refine Look.at0 ?_ | refine Cell.row ?_ | refine Cell.buf ?_ | refine Cells.row rfl ?_ | refine Put.row rfl ?_ | refine Put.buf rfl ?_ | refine Look.at1 ?_ | refine Look.at2 ?_ | refine Look.at3 ?_ | refine Look.at4 ?_ | refine Look.at5 ?_ | refine Look.at6 ?_ | refine Look.at7 ?_ | refine Look.at8 ?_ | with_reducible refine Val.i64 (by omega) (by omega) ?_ | with_reducible refine Val.u8 (by omega) (by omega) ?_ | with_reducible refine Val.u32 (by omega) (by omega) ?_ | with_reducible refine Val.u64 (by omega) (by omega) ?_ | with_reducible refine Val.u8m ?_ | with_reducible refine Val.u32m ?_ | with_reducible refine Val.u64m ?_ | with_reducible refine Val.shr8 ?_ | with_reducible refine Val.shr16 (by decide) ?_ | with_reducible refine Val.shr24 (by decide) ?_ | with_reducible refine Val.raw ?_ | refine Branch.not ?_ | refine Branch.and ?_ | refine Branch.or ?_ | refine Branch.dt (by assumption) ?_ | refine Branch.df (by assumption) ?_ | refine Branch.dt rfl ?_ | refine Branch.dt (by omega) ?_ | refine Branch.df (by omega) ?_ | refine Branch.t rfl ?_ | refine Branch.f rfl ?_ | refine Branch.t (by assumption) ?_ | refine Branch.f (by assumption) ?_ | refine Branch.d (fun _ => ?_) (fun _ => ?_) | refine Branch.mk (fun _ => ?_) (fun _ => ?_) | refine Need.mk (by first | omega | decide | rfl) ?_ | refine Idx.nat (by omega) ?_ | refine Idx.auto (by first | omega | decide) (by first | omega | decide) ?_ | refine Cell.ro rfl ?_ | refine SDraw.all (by kernel_rfl) ?_ | refine Kept.k0 ?_ | refine Kept.k1 ?_ | refine Kept.k2 ?_ | refine Kept.k3 ?_ | refine Kept.k4 ?_))
    obtain ⟨i, rfl⟩ : ∃ n : Nat, i = (n : Int) := ⟨i.toNat, by omega⟩
    obtain ⟨k, rfl⟩ : ∃ n : Nat, k = (n : Int) := ⟨k.toNat, by omega⟩
    have hG := goods_of hwf hc
    have h64 := hG.len
    have hik : i ≠ k := by omega
    obtain ⟨m, hm⟩ : ∃ m, L[i]? = some m := ⟨_, List.getElem?_eq_getElem (by omega)⟩
    obtain ⟨x, hx⟩ : ∃ x, L[k]? = some x := ⟨_, List.getElem?_eq_getElem (by omega)⟩
    have hgm := hG.good m (List.mem_of_getElem? hm)
    have hgx := hG.good x (List.mem_of_getElem? hx)
    obtain ⟨mr, mo, mc, mb, e1, hmb, hmc⟩ := inS_at hin (fun _ => rfl) hm
    injection e1 with e1 _ e3
    subst e1
    obtain ⟨xr, xo, xc, xb, e1, hxb, hxc⟩ := inS_at hin (fun _ => rfl) hx
    injection e1 with e1 _ e3
    injection e1 with e1
    injection e1 with e4 e5
    subst e4 e5
    have hle : (L.eraseIdx k).length = L.length - 1 := by rw [List.length_eraseIdx_of_lt (by omega)]
    have hat : (L.eraseIdx k)[if k < i then i - 1 else i]? = some m := by
      rw [List.getElem?_eraseIdx]
      by_cases hki : k < i
      · rw [if_pos hki, if_neg (by omega), show i - 1 + 1 = i by omega]; exact hm
      · rw [if_neg hki, if_pos (by omega)]; exact hm
    have hperm : L.Perm (x :: L.eraseIdx k) := by
      obtain ⟨hlt, e⟩ := List.getElem?_eq_some_iff.1 hx
      rw [← e]
      exact perm_erase hlt
    refine enter3 ?_
    repeat' ((conv => whnf); (first | refine c9 (hin.mono fun z hz => by simp only [List.mem_cons, hz, or_true]) hb (fun q c k1 k2 => ?_) | refine h8 _ _ _ _ (hD.mono fun z hz => by simp only [List.mem_cons, hz, or_true]) ?_ | refine Branch.f rfl ?_ | refine Branch.df (by omega) ?_ | refine New.mk (fun _ => ?_) | refine Look.at0 ?_ | refine Cell.row ?_ | refine Cell.buf ?_ | refine Cells.row rfl ?_ | refine Put.row rfl ?_ | refine Put.buf rfl ?_ | refine Look.at1 ?_ | refine Look.at2 ?_ | refine Look.at3 ?_ | refine Look.at4 ?_ | refine Look.at5 ?_ | refine Look.at6 ?_ | refine Look.at7 ?_ | refine Look.at8 ?_ | with_reducible refine Val.i64 (by omega) (by omega) ?_ | with_reducible refine Val.u8 (by omega) (by omega) ?_ | with_reducible refine Val.u32 (by omega) (by omega) ?_ | with_reducible refine Val.u64 (by omega) (by omega) ?_ | with_reducible refine Val.u8m ?_ | with_reducible refine Val.u32m ?_ | with_reducible refine Val.u64m ?_ | with_reducible refine Val.shr8 ?_ | with_reducible refine Val.shr16 (by decide) ?_ | with_reducible refine Val.shr24 (by decide) ?_ | with_reducible refine Val.raw ?_ | refine Branch.not ?_ | refine Branch.and ?_ | refine Branch.or ?_ | refine Branch.dt (by assumption) ?_ | refine Branch.df (by assumption) ?_ | refine Branch.dt rfl ?_ | refine Branch.dt (by omega) ?_ | refine Branch.df (by omega) ?_ | refine Branch.t rfl ?_ | refine Branch.f rfl ?_ | refine Branch.t (by assumption) ?_ | refine Branch.f (by assumption) ?_ | refine Branch.d (fun _ => ?_) (fun _ => ?_) | refine Branch.mk (fun _ => ?_) (fun _ => ?_) | refine Need.mk (by first | omega | decide | rfl) ?_ | refine Idx.nat (by omega) ?_ | refine Idx.auto (by first | omega | decide) (by first | omega | decide) ?_ | refine Cell.ro rfl ?_ | refine SDraw.all (by kernel_rfl) ?_ | refine Kept.k0 ?_ | refine Kept.k1 ?_ | refine Kept.k2 ?_ | refine Kept.k3 ?_ | refine Kept.k4 ?_))
    rename_i p
    refine SLoop.toBuf (A := []) (SLoop.invA (I3a (.slice (some ⟨mr, mo, none⟩) L.length sc) i k L H) (fun j => L.length - j) 0 (Keep.glue [[(p, .buf 30 [] (0 * 5))], [bufR q c L], H] [0, 1, 2] [0, 2] [1] (by decide) rfl ⟨Nat.zero_le _, some ⟨p, 0, none⟩, 0, 0, [(p, .buf 30 [] (0 * 5))], by simp, by simpa using (Grow.zero (f := mC) (k := 5) (e := 30) (q := p)), .mk, rfl⟩) ?_)
    rintro j S H' ⟨hj, a, n, c', M, hn, hGr, hS, rfl⟩ R hR
    cases hS
    by_cases hlt : j < L.length
    · obtain ⟨y, hy, hdrop, htake⟩ := list_at hlt
      obtain ⟨r2, o2, c2, b2, e1, hrb2, hc2⟩ := inS_at hin (fun _ => rfl) hy
      injection e1 with e1 _ e3
      injection e1 with e1
      injection e1 with e4 e5
      subst e4 e5
      have hM : (mr, b2) ∈ M ++ H := List.mem_append_right _ hrb2
      have hers := ers_succ (k := k) hlt htake
      have hnl : n ≤ 64 := by
        have := (List.eraseIdx_sublist (L.take j) k).length_le
        have := List.length_take_le j L
        omega
      by_cases hjk : j = k
      · rw [if_pos hjk] at hers
        have hnext : ∀ S, S3a (.slice (some ⟨mr, mo, none⟩) L.length sc) (.int .i64 (i : Int)) (.int .i64 (k : Int)) (.slice a n c') (.int .i64 (i : Int)) (.int .i64 ((j + 1 : Nat) : Int)) S → R S (M ++ H) := fun S h1 =>
          hR (j + 1) S _ (by omega) (Keep.all ⟨by omega, a, n, c', M, by rw [hers]; exact hn, by rw [hers]; exact hGr, h1, rfl⟩)
        have hjk' : (!decide ((j : Int) = (k : Int))) = false := by simp [hjk]
        clear hR
        repeat' ((conv => whnf); (first | refine Branch.f hjk' ?_ | exact hnext _ .mk | refine New.mk (fun _ => ?_) | refine Look.at0 ?_ | refine Cell.row ?_ | refine Cell.buf ?_ | refine Cells.row rfl ?_ | refine Put.row rfl ?_ | refine Put.buf rfl ?_ | refine Look.at1 ?_ | refine Look.at2 ?_ | refine Look.at3 ?_ | refine Look.at4 ?_ | refine Look.at5 ?_ | refine Look.at6 ?_ | refine Look.at7 ?_ | refine Look.at8 ?_ | with_reducible refine Val.i64 (by omega) (by omega) ?_ | with_reducible refine Val.u8 (by omega) (by omega) ?_ | with_reducible refine Val.u32 (by omega) (by omega) ?_ | with_reducible refine Val.u64 (by omega) (by omega) ?_ | with_reducible refine Val.u8m ?_ | with_reducible refine Val.u32m ?_ | with_reducible refine Val.u64m ?_ | with_reducible refine Val.shr8 ?_ | with_reducible refine Val.shr16 (by decide) ?_ | with_reducible refine Val.shr24 (by decide) ?_ | with_reducible refine Val.raw ?_ | refine Branch.not ?_ | refine Branch.and ?_ | refine Branch.or ?_ | refine Branch.dt (by assumption) ?_ | refine Branch.df (by assumption) ?_ | refine Branch.dt rfl ?_ | refine Branch.dt (by omega) ?_ | refine Branch.df (by omega) ?_ | refine Branch.t rfl ?_ | refine Branch.f rfl ?_ | refine Branch.t (by assumption) ?_ | refine Branch.f (by assumption) ?_ | refine Branch.d (fun _ => ?_) (fun _ => ?_) | refine Branch.mk (fun _ => ?_) (fun _ => ?_) | refine Need.mk (by first | omega | decide | rfl) ?_ | refine Idx.nat (by omega) ?_ | refine Idx.auto (by first | omega | decide) (by first | omega | decide) ?_ | refine Cell.ro rfl ?_ | refine SDraw.all (by kernel_rfl) ?_ | refine Kept.k0 ?_ | refine Kept.k1 ?_ | refine Kept.k2 ?_ | refine Kept.k3 ?_ | refine Kept.k4 ?_))
      · rw [if_neg hjk] at hers
        subst hn
        have hnext : ∀ S a' c'' M' (z : Nat × Blk), Grow mC 5 30 (.slice a' (((L.take j).eraseIdx k).length + 1) c'') ((L.take j).eraseIdx k ++ [y]) M' → S3a (.slice (some ⟨mr, mo, none⟩) L.length sc) (.int .i64 (i : Int)) (.int .i64 (k : Int)) (.slice a' (((L.take j).eraseIdx k).length + 1) c'') (.int .i64 (i : Int)) (.int .i64 ((j + 1 : Nat) : Int)) S → R S (M' ++ ([z] ++ H)) := fun S a' c'' M' z h1 h2 =>
          hR (j + 1) S _ (by omega) (Keep.sub (M' ++ H) ((List.Sublist.refl M').append (List.sublist_append_right [z] H)) ⟨by omega, a', _, c'', M', by rw [hers]; simp, by rw [hers]; exact h1, h2, rfl⟩)
        have hjk' : (!decide ((j : Int) = (k : Int))) = true := by simp; omega
        clear hR
        repeat' ((conv => whnf); (first | refine Branch.t hjk' ?_ | refine Look.cells hM rfl hc2 ?_ | refine RawV.grow1 (A := [_]) (x := y) (bytes := 32) hGr rfl (.head _) rfl (by kernel_rfl) (by decide) (fun _ => rfl) (one5 y) (by simp only [maxLen]; omega) (by omega) (fun a' c'' M' hg2 => ?_) | exact hnext _ _ _ _ _ hg2 .mk | refine New.mk (fun _ => ?_) | refine Look.at0 ?_ | refine Cell.row ?_ | refine Cell.buf ?_ | refine Cells.row rfl ?_ | refine Put.row rfl ?_ | refine Put.buf rfl ?_ | refine Look.at1 ?_ | refine Look.at2 ?_ | refine Look.at3 ?_ | refine Look.at4 ?_ | refine Look.at5 ?_ | refine Look.at6 ?_ | refine Look.at7 ?_ | refine Look.at8 ?_ | with_reducible refine Val.i64 (by omega) (by omega) ?_ | with_reducible refine Val.u8 (by omega) (by omega) ?_ | with_reducible refine Val.u32 (by omega) (by omega) ?_ | with_reducible refine Val.u64 (by omega) (by omega) ?_ | with_reducible refine Val.u8m ?_ | with_reducible refine Val.u32m ?_ | with_reducible refine Val.u64m ?_ | with_reducible refine Val.shr8 ?_ | with_reducible refine Val.shr16 (by decide) ?_ | with_reducible refine Val.shr24 (by decide) ?_ | with_reducible refine Val.raw ?_ | refine Branch.not ?_ | refine Branch.and ?_ | refine Branch.or ?_ | refine Branch.dt (by assumption) ?_ | refine Branch.df (by assumption) ?_ | refine Branch.dt rfl ?_ | refine Branch.dt (by omega) ?_ | refine Branch.df (by omega) ?_ | refine Branch.t rfl ?_ | refine Branch.f rfl ?_ | refine Branch.t (by assumption) ?_ | refine Branch.f (by assumption) ?_ | refine Branch.d (fun _ => ?_) (fun _ => ?_) | refine Branch.mk (fun _ => ?_) (fun _ => ?_) | refine Need.mk (by first | omega | decide | rfl) ?_ | refine Idx.nat (by omega) ?_ | refine Idx.auto (by first | omega | decide) (by first | omega | decide) ?_ | refine Cell.ro rfl ?_ | refine SDraw.all (by kernel_rfl) ?_ | refine Kept.k0 ?_ | refine Kept.k1 ?_ | refine Kept.k2 ?_ | refine Kept.k3 ?_ | refine Kept.k4 ?_))
    · obtain rfl : j = L.length := by omega
      rw [List.take_length] at hn hGr
      clear hR
      rw [hle] at hn
      subst hn
      have hGe := hG.erase k
      have hce := hGe.chk
      have hwfe : ∀ m ∈ L.eraseIdx k, m.wf := fun m hm => hwf m ((List.eraseIdx_sublist L k).subset hm)
      have hinl := hGr.ins (fun _ => rfl) (H := M ++ H) (fun z hz => List.mem_append_left _ hz)
      have hDM : Db (M ++ H) := hD.mono fun z hz => List.mem_append_right _ hz
      have hinM : InS mC 5 (.slice (some ⟨mr, mo, none⟩) L.length sc) (M ++ H) L := hin.mono fun z hz => List.mem_append_right _ hz
      have own1 : ∀ (X : Heap) (K2 : Value → Heap → Prop), (∀ z ∈ M ++ H, z ∈ X) → (∀ q c, K2 (.slice (some ⟨q, 0, none⟩) L.length c) (bufR q c L :: X)) → SCalls Tryd.prog 9 [.slice (some ⟨mr, mo, none⟩) L.length sc] X K2 := fun X K2 h1 h2 => c9 (hinM.mono h1) hb (fun q c _ _ => h2 q c)
      have hA := more_le (L := L.eraseIdx k) (x := x) (m := m)
      have hB := more_eq (L := L.eraseIdx k) (x := x) (m := m)
      rw [← worstS_perm hperm m] at hA hB
      have h11 : ∀ (q c : Nat) (X : Heap) (K2 : Value → Heap → Prop), (∀ z ∈ M ++ H, z ∈ X) → K2 (.tuple ⟨[.int .u64 ((worstS L m).1 : Int), .bool (worstS L m).2, .int .i64 0]⟩) (bufR q c L :: X) → SCalls Tryd.prog 11 [.slice (some ⟨q, 0, none⟩) L.length c, .int .i64 (i : Int)] (bufR q c L :: X) K2 := fun q c X K2 h1 h2 => c11 (hDM.mono fun _ hz => .tail _ (h1 _ hz)) (buf_in hml) hG hwf hc hm h2
      have h11b : ∀ (X : Heap) (K2 : Value → Heap → Prop), (∀ z ∈ M ++ H, z ∈ X) → K2 (.tuple ⟨[.int .u64 ((worstS (L.eraseIdx k) m).1 : Int), .bool (worstS (L.eraseIdx k) m).2, .int .i64 0]⟩) X → SCalls Tryd.prog 11 [.slice a (L.length - 1) c', .int .i64 ((if k < i then i - 1 else i : Nat) : Int)] X K2 := fun X K2 h1 h2 => c11 (L := L.eraseIdx k) (hDM.mono h1) (by have := hinl.mono h1; exact this) hGe hwfe hce hat h2
      generalize worstS L m = W at *
      generalize worstS (L.eraseIdx k) m = U at *
      obtain ⟨v1, b1⟩ := W
      obtain ⟨u1, b2⟩ := U
      dsimp only at hA hB h11 h11b
      have hcomb : (b1 = true ∧ b2 = true ∧ u1 ≤ v1) ∨ (b1 = false ∧ b2 = true) ∨ (b1 = false ∧ b2 = false) := by
        cases b1 with
        | true => exact .inl ⟨rfl, hA rfl⟩
        | false => cases b2 with
          | true => exact .inr (.inl ⟨rfl, rfl⟩)
          | false => exact .inr (.inr ⟨rfl, rfl⟩)
      have hgxt := hgx.tm
      have hgmt := hgm.tm
      have hmM : (mr, mb) ∈ M ++ H := List.mem_append_right _ hmb
      have hxM : (mr, xb) ∈ M ++ H := List.mem_append_right _ hxb
      have hl0 : lgr ((L.eraseIdx k).take 0) x m = decide ((tm m : Int) < (tm x : Int)) := by
        unfold lgr
        simp
      generalize hLe : L.eraseIdx k = Le at *
      have hlel : Le.length = L.length - 1 := hle
      rw [← hlel] at hinl h11b ⊢
      by_cases hki : k < i
      · rw [if_pos hki] at h11b
        rcases hcomb with ⟨rfl, rfl, huv⟩ | ⟨rfl, rfl⟩ | ⟨rfl, rfl⟩
        · skip
          repeat' ((conv => whnf); (first | refine own1 _ _ (fun z hz => by simp only [List.mem_cons, hz, or_true]) (fun q c => ?_) | refine h11 _ _ _ _ (fun z hz => by simp only [List.mem_cons, hz, or_true]) ?_ | refine h11b _ _ (fun z hz => by simp only [List.mem_cons, hz, or_true]) ?_ | refine Look.cells (.tail _ hmM) rfl hmc ?_ | refine Look.cells (.tail _ hxM) rfl hxc ?_ | refine t12 hgx ?_ | refine t12 hgm ?_ | refine Branch.f rfl ?_ | with_reducible refine Val.to ((i - 1 : Nat) : Int) (by rw [wrap_i64 (by omega) (by omega)]; omega) ?_ | refine New.mk (fun _ => ?_) | refine Look.at0 ?_ | refine Cell.row ?_ | refine Cell.buf ?_ | refine Cells.row rfl ?_ | refine Put.row rfl ?_ | refine Put.buf rfl ?_ | refine Look.at1 ?_ | refine Look.at2 ?_ | refine Look.at3 ?_ | refine Look.at4 ?_ | refine Look.at5 ?_ | refine Look.at6 ?_ | refine Look.at7 ?_ | refine Look.at8 ?_ | with_reducible refine Val.i64 (by omega) (by omega) ?_ | with_reducible refine Val.u8 (by omega) (by omega) ?_ | with_reducible refine Val.u32 (by omega) (by omega) ?_ | with_reducible refine Val.u64 (by omega) (by omega) ?_ | with_reducible refine Val.u8m ?_ | with_reducible refine Val.u32m ?_ | with_reducible refine Val.u64m ?_ | with_reducible refine Val.shr8 ?_ | with_reducible refine Val.shr16 (by decide) ?_ | with_reducible refine Val.shr24 (by decide) ?_ | with_reducible refine Val.raw ?_ | refine Branch.not ?_ | refine Branch.and ?_ | refine Branch.or ?_ | refine Branch.dt (by assumption) ?_ | refine Branch.df (by assumption) ?_ | refine Branch.dt rfl ?_ | refine Branch.dt (by omega) ?_ | refine Branch.df (by omega) ?_ | refine Branch.t rfl ?_ | refine Branch.f rfl ?_ | refine Branch.t (by assumption) ?_ | refine Branch.f (by assumption) ?_ | refine Branch.d (fun _ => ?_) (fun _ => ?_) | refine Branch.mk (fun _ => ?_) (fun _ => ?_) | refine Need.mk (by first | omega | decide | rfl) ?_ | refine Idx.nat (by omega) ?_ | refine Idx.auto (by first | omega | decide) (by first | omega | decide) ?_ | refine Cell.ro rfl ?_ | refine SDraw.all (by kernel_rfl) ?_ | refine Kept.k0 ?_ | refine Kept.k1 ?_ | refine Kept.k2 ?_ | refine Kept.k3 ?_ | refine Kept.k4 ?_))
          (conv => whnf)
          rw [← hl0]
          refine SLoop.invA (I3b (.slice (some ⟨mr, mo, none⟩) L.length sc) (.slice a Le.length c') i k v1 u1 _ _ Le x m (M ++ H)) (fun j => Le.length - j) 0 (Keep.d1 ⟨Nat.zero_le _, .mk, rfl⟩) ?_
          rintro j S H' ⟨hj, hS, rfl⟩ R hR
          cases hS
          by_cases hlt : j < Le.length
          · obtain ⟨y, hy, hdrop, htake⟩ := list_at hlt
            obtain ⟨r2, o2, c2, b2, e1, hrb2, hc2⟩ := inS_at hinl (fun _ => rfl) hy
            injection e1 with e1 _ e3
            subst e1
            have hgy := hGe.good y (List.mem_of_getElem? hy)
            have hgyt := hgy.tm
            have hgtr := strGt_of (fV y.id y.x y.n).1 (fV m.id m.x m.n).1
            have hlg : lgr (Le.take (j + 1)) x m = (lgr (Le.take j) x m && !(tlt (fld m) (fld y) && decide (tm x ≤ tm y))) := by
              unfold lgr
              rw [htake, List.all_append, Bool.and_assoc]
              simp
            have hnext : ∀ S b, lgr (Le.take (j + 1)) x m = b → S3b (.slice (some ⟨mr, mo, none⟩) L.length sc) (.int .i64 (i : Int)) (.int .i64 (k : Int)) (.slice (some ⟨r2, o2, none⟩) Le.length c') (.int .u64 v1) _ (.int .u64 u1) _ (.bool b) (.int .i64 ((j + 1 : Nat) : Int)) S → R S (M ++ H) := fun S b h1 h2 =>
              hR (j + 1) S _ (by omega) (Keep.all ⟨by omega, by rw [h1]; exact h2, rfl⟩)
            clear hR
            rw [hlg] at hnext
            cases hlt2 : tlt (fld m) (fld y) with
            | false =>
              rw [show tlt (fV m.id m.x m.n).1 (fV y.id y.x y.n).1 = false from hlt2] at hgtr
              rw [hlt2, Bool.false_and, Bool.not_false, Bool.and_true] at hnext
              repeat' ((conv => whnf); (first | refine Look.cells hrb2 rfl hc2 ?_ | refine Look.cells hmM rfl hmc ?_ | refine Look.cells hxM rfl hxc ?_ | refine c13 ?_ | refine Branch.f hgtr ?_ | exact hnext _ _ rfl .mk | refine New.mk (fun _ => ?_) | refine Look.at0 ?_ | refine Cell.row ?_ | refine Cell.buf ?_ | refine Cells.row rfl ?_ | refine Put.row rfl ?_ | refine Put.buf rfl ?_ | refine Look.at1 ?_ | refine Look.at2 ?_ | refine Look.at3 ?_ | refine Look.at4 ?_ | refine Look.at5 ?_ | refine Look.at6 ?_ | refine Look.at7 ?_ | refine Look.at8 ?_ | with_reducible refine Val.i64 (by omega) (by omega) ?_ | with_reducible refine Val.u8 (by omega) (by omega) ?_ | with_reducible refine Val.u32 (by omega) (by omega) ?_ | with_reducible refine Val.u64 (by omega) (by omega) ?_ | with_reducible refine Val.u8m ?_ | with_reducible refine Val.u32m ?_ | with_reducible refine Val.u64m ?_ | with_reducible refine Val.shr8 ?_ | with_reducible refine Val.shr16 (by decide) ?_ | with_reducible refine Val.shr24 (by decide) ?_ | with_reducible refine Val.raw ?_ | refine Branch.not ?_ | refine Branch.and ?_ | refine Branch.or ?_ | refine Branch.dt (by assumption) ?_ | refine Branch.df (by assumption) ?_ | refine Branch.dt rfl ?_ | refine Branch.dt (by omega) ?_ | refine Branch.df (by omega) ?_ | refine Branch.t rfl ?_ | refine Branch.f rfl ?_ | refine Branch.t (by assumption) ?_ | refine Branch.f (by assumption) ?_ | refine Branch.d (fun _ => ?_) (fun _ => ?_) | refine Branch.mk (fun _ => ?_) (fun _ => ?_) | refine Need.mk (by first | omega | decide | rfl) ?_ | refine Idx.nat (by omega) ?_ | refine Idx.auto (by first | omega | decide) (by first | omega | decide) ?_ | refine Cell.ro rfl ?_ | refine SDraw.all (by kernel_rfl) ?_ | refine Kept.k0 ?_ | refine Kept.k1 ?_ | refine Kept.k2 ?_ | refine Kept.k3 ?_ | refine Kept.k4 ?_))
            | true =>
              rw [show tlt (fV m.id m.x m.n).1 (fV y.id y.x y.n).1 = true from hlt2] at hgtr
              rw [hlt2, Bool.true_and] at hnext
              by_cases hxy : tm x ≤ tm y
              · rw [decide_eq_true hxy, Bool.not_true, Bool.and_false] at hnext
                repeat' ((conv => whnf); (first | refine Look.cells hrb2 rfl hc2 ?_ | refine Look.cells hmM rfl hmc ?_ | refine Look.cells hxM rfl hxc ?_ | refine c13 ?_ | refine t12 hgx ?_ | refine t12 hgy ?_ | refine Branch.t hgtr ?_ | refine Branch.dt (by omega) ?_ | exact hnext _ _ rfl .mk | refine New.mk (fun _ => ?_) | refine Look.at0 ?_ | refine Cell.row ?_ | refine Cell.buf ?_ | refine Cells.row rfl ?_ | refine Put.row rfl ?_ | refine Put.buf rfl ?_ | refine Look.at1 ?_ | refine Look.at2 ?_ | refine Look.at3 ?_ | refine Look.at4 ?_ | refine Look.at5 ?_ | refine Look.at6 ?_ | refine Look.at7 ?_ | refine Look.at8 ?_ | with_reducible refine Val.i64 (by omega) (by omega) ?_ | with_reducible refine Val.u8 (by omega) (by omega) ?_ | with_reducible refine Val.u32 (by omega) (by omega) ?_ | with_reducible refine Val.u64 (by omega) (by omega) ?_ | with_reducible refine Val.u8m ?_ | with_reducible refine Val.u32m ?_ | with_reducible refine Val.u64m ?_ | with_reducible refine Val.shr8 ?_ | with_reducible refine Val.shr16 (by decide) ?_ | with_reducible refine Val.shr24 (by decide) ?_ | with_reducible refine Val.raw ?_ | refine Branch.not ?_ | refine Branch.and ?_ | refine Branch.or ?_ | refine Branch.dt (by assumption) ?_ | refine Branch.df (by assumption) ?_ | refine Branch.dt rfl ?_ | refine Branch.dt (by omega) ?_ | refine Branch.df (by omega) ?_ | refine Branch.t rfl ?_ | refine Branch.f rfl ?_ | refine Branch.t (by assumption) ?_ | refine Branch.f (by assumption) ?_ | refine Branch.d (fun _ => ?_) (fun _ => ?_) | refine Branch.mk (fun _ => ?_) (fun _ => ?_) | refine Need.mk (by first | omega | decide | rfl) ?_ | refine Idx.nat (by omega) ?_ | refine Idx.auto (by first | omega | decide) (by first | omega | decide) ?_ | refine Cell.ro rfl ?_ | refine SDraw.all (by kernel_rfl) ?_ | refine Kept.k0 ?_ | refine Kept.k1 ?_ | refine Kept.k2 ?_ | refine Kept.k3 ?_ | refine Kept.k4 ?_))
              · rw [decide_eq_false hxy, Bool.not_false, Bool.and_true] at hnext
                repeat' ((conv => whnf); (first | refine Look.cells hrb2 rfl hc2 ?_ | refine Look.cells hmM rfl hmc ?_ | refine Look.cells hxM rfl hxc ?_ | refine c13 ?_ | refine t12 hgx ?_ | refine t12 hgy ?_ | refine Branch.t hgtr ?_ | refine Branch.df (by omega) ?_ | exact hnext _ _ rfl .mk | refine New.mk (fun _ => ?_) | refine Look.at0 ?_ | refine Cell.row ?_ | refine Cell.buf ?_ | refine Cells.row rfl ?_ | refine Put.row rfl ?_ | refine Put.buf rfl ?_ | refine Look.at1 ?_ | refine Look.at2 ?_ | refine Look.at3 ?_ | refine Look.at4 ?_ | refine Look.at5 ?_ | refine Look.at6 ?_ | refine Look.at7 ?_ | refine Look.at8 ?_ | with_reducible refine Val.i64 (by omega) (by omega) ?_ | with_reducible refine Val.u8 (by omega) (by omega) ?_ | with_reducible refine Val.u32 (by omega) (by omega) ?_ | with_reducible refine Val.u64 (by omega) (by omega) ?_ | with_reducible refine Val.u8m ?_ | with_reducible refine Val.u32m ?_ | with_reducible refine Val.u64m ?_ | with_reducible refine Val.shr8 ?_ | with_reducible refine Val.shr16 (by decide) ?_ | with_reducible refine Val.shr24 (by decide) ?_ | with_reducible refine Val.raw ?_ | refine Branch.not ?_ | refine Branch.and ?_ | refine Branch.or ?_ | refine Branch.dt (by assumption) ?_ | refine Branch.df (by assumption) ?_ | refine Branch.dt rfl ?_ | refine Branch.dt (by omega) ?_ | refine Branch.df (by omega) ?_ | refine Branch.t rfl ?_ | refine Branch.f rfl ?_ | refine Branch.t (by assumption) ?_ | refine Branch.f (by assumption) ?_ | refine Branch.d (fun _ => ?_) (fun _ => ?_) | refine Branch.mk (fun _ => ?_) (fun _ => ?_) | refine Need.mk (by first | omega | decide | rfl) ?_ | refine Idx.nat (by omega) ?_ | refine Idx.auto (by first | omega | decide) (by first | omega | decide) ?_ | refine Cell.ro rfl ?_ | refine SDraw.all (by kernel_rfl) ?_ | refine Kept.k0 ?_ | refine Kept.k1 ?_ | refine Kept.k2 ?_ | refine Kept.k3 ?_ | refine Kept.k4 ?_))
          · obtain rfl : j = Le.length := by omega
            rw [List.take_length]
            clear hR
            have hgtr := strGt_of (fV x.id x.x x.n).1 (fV m.id m.x m.n).1
            cases hlt2 : tlt (fld m) (fld x) with
            | false =>
              rw [show tlt (fV m.id m.x m.n).1 (fV x.id x.x x.n).1 = false from hlt2] at hgtr
              repeat' ((conv => whnf); (first | refine Look.cells hmM rfl hmc ?_ | refine Look.cells hxM rfl hxc ?_ | refine c13 ?_ | refine Branch.f hgtr ?_ | refine c10 hDM ?_ | exact Keep.all rfl | refine New.mk (fun _ => ?_) | refine Look.at0 ?_ | refine Cell.row ?_ | refine Cell.buf ?_ | refine Cells.row rfl ?_ | refine Put.row rfl ?_ | refine Put.buf rfl ?_ | refine Look.at1 ?_ | refine Look.at2 ?_ | refine Look.at3 ?_ | refine Look.at4 ?_ | refine Look.at5 ?_ | refine Look.at6 ?_ | refine Look.at7 ?_ | refine Look.at8 ?_ | with_reducible refine Val.i64 (by omega) (by omega) ?_ | with_reducible refine Val.u8 (by omega) (by omega) ?_ | with_reducible refine Val.u32 (by omega) (by omega) ?_ | with_reducible refine Val.u64 (by omega) (by omega) ?_ | with_reducible refine Val.u8m ?_ | with_reducible refine Val.u32m ?_ | with_reducible refine Val.u64m ?_ | with_reducible refine Val.shr8 ?_ | with_reducible refine Val.shr16 (by decide) ?_ | with_reducible refine Val.shr24 (by decide) ?_ | with_reducible refine Val.raw ?_ | refine Branch.not ?_ | refine Branch.and ?_ | refine Branch.or ?_ | refine Branch.dt (by assumption) ?_ | refine Branch.df (by assumption) ?_ | refine Branch.dt rfl ?_ | refine Branch.dt (by omega) ?_ | refine Branch.df (by omega) ?_ | refine Branch.t rfl ?_ | refine Branch.f rfl ?_ | refine Branch.t (by assumption) ?_ | refine Branch.f (by assumption) ?_ | refine Branch.d (fun _ => ?_) (fun _ => ?_) | refine Branch.mk (fun _ => ?_) (fun _ => ?_) | refine Need.mk (by first | omega | decide | rfl) ?_ | refine Idx.nat (by omega) ?_ | refine Idx.auto (by first | omega | decide) (by first | omega | decide) ?_ | refine Cell.ro rfl ?_ | refine SDraw.all (by kernel_rfl) ?_ | refine Kept.k0 ?_ | refine Kept.k1 ?_ | refine Kept.k2 ?_ | refine Kept.k3 ?_ | refine Kept.k4 ?_))
            | true =>
              rw [show tlt (fV m.id m.x m.n).1 (fV x.id x.x x.n).1 = true from hlt2] at hgtr
              cases hlo : lgr Le x m with
              | true =>
                repeat' ((conv => whnf); (first | refine Look.cells hmM rfl hmc ?_ | refine Look.cells hxM rfl hxc ?_ | refine c13 ?_ | refine Branch.t hgtr ?_ | refine Branch.f rfl ?_ | refine c10 hDM ?_ | exact Keep.all rfl | refine New.mk (fun _ => ?_) | refine Look.at0 ?_ | refine Cell.row ?_ | refine Cell.buf ?_ | refine Cells.row rfl ?_ | refine Put.row rfl ?_ | refine Put.buf rfl ?_ | refine Look.at1 ?_ | refine Look.at2 ?_ | refine Look.at3 ?_ | refine Look.at4 ?_ | refine Look.at5 ?_ | refine Look.at6 ?_ | refine Look.at7 ?_ | refine Look.at8 ?_ | with_reducible refine Val.i64 (by omega) (by omega) ?_ | with_reducible refine Val.u8 (by omega) (by omega) ?_ | with_reducible refine Val.u32 (by omega) (by omega) ?_ | with_reducible refine Val.u64 (by omega) (by omega) ?_ | with_reducible refine Val.u8m ?_ | with_reducible refine Val.u32m ?_ | with_reducible refine Val.u64m ?_ | with_reducible refine Val.shr8 ?_ | with_reducible refine Val.shr16 (by decide) ?_ | with_reducible refine Val.shr24 (by decide) ?_ | with_reducible refine Val.raw ?_ | refine Branch.not ?_ | refine Branch.and ?_ | refine Branch.or ?_ | refine Branch.dt (by assumption) ?_ | refine Branch.df (by assumption) ?_ | refine Branch.dt rfl ?_ | refine Branch.dt (by omega) ?_ | refine Branch.df (by omega) ?_ | refine Branch.t rfl ?_ | refine Branch.f rfl ?_ | refine Branch.t (by assumption) ?_ | refine Branch.f (by assumption) ?_ | refine Branch.d (fun _ => ?_) (fun _ => ?_) | refine Branch.mk (fun _ => ?_) (fun _ => ?_) | refine Need.mk (by first | omega | decide | rfl) ?_ | refine Idx.nat (by omega) ?_ | refine Idx.auto (by first | omega | decide) (by first | omega | decide) ?_ | refine Cell.ro rfl ?_ | refine SDraw.all (by kernel_rfl) ?_ | refine Kept.k0 ?_ | refine Kept.k1 ?_ | refine Kept.k2 ?_ | refine Kept.k3 ?_ | refine Kept.k4 ?_))
              | false =>
                have hq := hB hlt2 (lgr_false hlo)
                injection hq with hq1 hq2
                have hvv : (!decide ((v1 : Int) = (u1 : Int))) = false := by simp [hq1]
                repeat' ((conv => whnf); (first | refine Look.cells hmM rfl hmc ?_ | refine Look.cells hxM rfl hxc ?_ | refine c13 ?_ | refine Branch.t hgtr ?_ | refine Branch.f hvv ?_ | refine Branch.f rfl ?_ | refine c10 hDM ?_ | exact Keep.all rfl | refine New.mk (fun _ => ?_) | refine Look.at0 ?_ | refine Cell.row ?_ | refine Cell.buf ?_ | refine Cells.row rfl ?_ | refine Put.row rfl ?_ | refine Put.buf rfl ?_ | refine Look.at1 ?_ | refine Look.at2 ?_ | refine Look.at3 ?_ | refine Look.at4 ?_ | refine Look.at5 ?_ | refine Look.at6 ?_ | refine Look.at7 ?_ | refine Look.at8 ?_ | with_reducible refine Val.i64 (by omega) (by omega) ?_ | with_reducible refine Val.u8 (by omega) (by omega) ?_ | with_reducible refine Val.u32 (by omega) (by omega) ?_ | with_reducible refine Val.u64 (by omega) (by omega) ?_ | with_reducible refine Val.u8m ?_ | with_reducible refine Val.u32m ?_ | with_reducible refine Val.u64m ?_ | with_reducible refine Val.shr8 ?_ | with_reducible refine Val.shr16 (by decide) ?_ | with_reducible refine Val.shr24 (by decide) ?_ | with_reducible refine Val.raw ?_ | refine Branch.not ?_ | refine Branch.and ?_ | refine Branch.or ?_ | refine Branch.dt (by assumption) ?_ | refine Branch.df (by assumption) ?_ | refine Branch.dt rfl ?_ | refine Branch.dt (by omega) ?_ | refine Branch.df (by omega) ?_ | refine Branch.t rfl ?_ | refine Branch.f rfl ?_ | refine Branch.t (by assumption) ?_ | refine Branch.f (by assumption) ?_ | refine Branch.d (fun _ => ?_) (fun _ => ?_) | refine Branch.mk (fun _ => ?_) (fun _ => ?_) | refine Need.mk (by first | omega | decide | rfl) ?_ | refine Idx.nat (by omega) ?_ | refine Idx.auto (by first | omega | decide) (by first | omega | decide) ?_ | refine Cell.ro rfl ?_ | refine SDraw.all (by kernel_rfl) ?_ | refine Kept.k0 ?_ | refine Kept.k1 ?_ | refine Kept.k2 ?_ | refine Kept.k3 ?_ | refine Kept.k4 ?_))
        · skip
          repeat' ((conv => whnf); (first | refine own1 _ _ (fun z hz => by simp only [List.mem_cons, hz, or_true]) (fun q c => ?_) | refine h11 _ _ _ _ (fun z hz => by simp only [List.mem_cons, hz, or_true]) ?_ | refine h11b _ _ (fun z hz => by simp only [List.mem_cons, hz, or_true]) ?_ | refine Look.cells (.tail _ hmM) rfl hmc ?_ | refine Look.cells (.tail _ hxM) rfl hxc ?_ | refine t12 hgx ?_ | refine t12 hgm ?_ | refine Branch.f rfl ?_ | with_reducible refine Val.to ((i - 1 : Nat) : Int) (by rw [wrap_i64 (by omega) (by omega)]; omega) ?_ | refine New.mk (fun _ => ?_) | refine Look.at0 ?_ | refine Cell.row ?_ | refine Cell.buf ?_ | refine Cells.row rfl ?_ | refine Put.row rfl ?_ | refine Put.buf rfl ?_ | refine Look.at1 ?_ | refine Look.at2 ?_ | refine Look.at3 ?_ | refine Look.at4 ?_ | refine Look.at5 ?_ | refine Look.at6 ?_ | refine Look.at7 ?_ | refine Look.at8 ?_ | with_reducible refine Val.i64 (by omega) (by omega) ?_ | with_reducible refine Val.u8 (by omega) (by omega) ?_ | with_reducible refine Val.u32 (by omega) (by omega) ?_ | with_reducible refine Val.u64 (by omega) (by omega) ?_ | with_reducible refine Val.u8m ?_ | with_reducible refine Val.u32m ?_ | with_reducible refine Val.u64m ?_ | with_reducible refine Val.shr8 ?_ | with_reducible refine Val.shr16 (by decide) ?_ | with_reducible refine Val.shr24 (by decide) ?_ | with_reducible refine Val.raw ?_ | refine Branch.not ?_ | refine Branch.and ?_ | refine Branch.or ?_ | refine Branch.dt (by assumption) ?_ | refine Branch.df (by assumption) ?_ | refine Branch.dt rfl ?_ | refine Branch.dt (by omega) ?_ | refine Branch.df (by omega) ?_ | refine Branch.t rfl ?_ | refine Branch.f rfl ?_ | refine Branch.t (by assumption) ?_ | refine Branch.f (by assumption) ?_ | refine Branch.d (fun _ => ?_) (fun _ => ?_) | refine Branch.mk (fun _ => ?_) (fun _ => ?_) | refine Need.mk (by first | omega | decide | rfl) ?_ | refine Idx.nat (by omega) ?_ | refine Idx.auto (by first | omega | decide) (by first | omega | decide) ?_ | refine Cell.ro rfl ?_ | refine SDraw.all (by kernel_rfl) ?_ | refine Kept.k0 ?_ | refine Kept.k1 ?_ | refine Kept.k2 ?_ | refine Kept.k3 ?_ | refine Kept.k4 ?_))
          (conv => whnf)
          rw [← hl0]
          refine SLoop.invA (I3b (.slice (some ⟨mr, mo, none⟩) L.length sc) (.slice a Le.length c') i k v1 u1 _ _ Le x m (M ++ H)) (fun j => Le.length - j) 0 (Keep.d1 ⟨Nat.zero_le _, .mk, rfl⟩) ?_
          rintro j S H' ⟨hj, hS, rfl⟩ R hR
          cases hS
          by_cases hlt : j < Le.length
          · obtain ⟨y, hy, hdrop, htake⟩ := list_at hlt
            obtain ⟨r2, o2, c2, b2, e1, hrb2, hc2⟩ := inS_at hinl (fun _ => rfl) hy
            injection e1 with e1 _ e3
            subst e1
            have hgy := hGe.good y (List.mem_of_getElem? hy)
            have hgyt := hgy.tm
            have hgtr := strGt_of (fV y.id y.x y.n).1 (fV m.id m.x m.n).1
            have hlg : lgr (Le.take (j + 1)) x m = (lgr (Le.take j) x m && !(tlt (fld m) (fld y) && decide (tm x ≤ tm y))) := by
              unfold lgr
              rw [htake, List.all_append, Bool.and_assoc]
              simp
            have hnext : ∀ S b, lgr (Le.take (j + 1)) x m = b → S3b (.slice (some ⟨mr, mo, none⟩) L.length sc) (.int .i64 (i : Int)) (.int .i64 (k : Int)) (.slice (some ⟨r2, o2, none⟩) Le.length c') (.int .u64 v1) _ (.int .u64 u1) _ (.bool b) (.int .i64 ((j + 1 : Nat) : Int)) S → R S (M ++ H) := fun S b h1 h2 =>
              hR (j + 1) S _ (by omega) (Keep.all ⟨by omega, by rw [h1]; exact h2, rfl⟩)
            clear hR
            rw [hlg] at hnext
            cases hlt2 : tlt (fld m) (fld y) with
            | false =>
              rw [show tlt (fV m.id m.x m.n).1 (fV y.id y.x y.n).1 = false from hlt2] at hgtr
              rw [hlt2, Bool.false_and, Bool.not_false, Bool.and_true] at hnext
              repeat' ((conv => whnf); (first | refine Look.cells hrb2 rfl hc2 ?_ | refine Look.cells hmM rfl hmc ?_ | refine Look.cells hxM rfl hxc ?_ | refine c13 ?_ | refine Branch.f hgtr ?_ | exact hnext _ _ rfl .mk | refine New.mk (fun _ => ?_) | refine Look.at0 ?_ | refine Cell.row ?_ | refine Cell.buf ?_ | refine Cells.row rfl ?_ | refine Put.row rfl ?_ | refine Put.buf rfl ?_ | refine Look.at1 ?_ | refine Look.at2 ?_ | refine Look.at3 ?_ | refine Look.at4 ?_ | refine Look.at5 ?_ | refine Look.at6 ?_ | refine Look.at7 ?_ | refine Look.at8 ?_ | with_reducible refine Val.i64 (by omega) (by omega) ?_ | with_reducible refine Val.u8 (by omega) (by omega) ?_ | with_reducible refine Val.u32 (by omega) (by omega) ?_ | with_reducible refine Val.u64 (by omega) (by omega) ?_ | with_reducible refine Val.u8m ?_ | with_reducible refine Val.u32m ?_ | with_reducible refine Val.u64m ?_ | with_reducible refine Val.shr8 ?_ | with_reducible refine Val.shr16 (by decide) ?_ | with_reducible refine Val.shr24 (by decide) ?_ | with_reducible refine Val.raw ?_ | refine Branch.not ?_ | refine Branch.and ?_ | refine Branch.or ?_ | refine Branch.dt (by assumption) ?_ | refine Branch.df (by assumption) ?_ | refine Branch.dt rfl ?_ | refine Branch.dt (by omega) ?_ | refine Branch.df (by omega) ?_ | refine Branch.t rfl ?_ | refine Branch.f rfl ?_ | refine Branch.t (by assumption) ?_ | refine Branch.f (by assumption) ?_ | refine Branch.d (fun _ => ?_) (fun _ => ?_) | refine Branch.mk (fun _ => ?_) (fun _ => ?_) | refine Need.mk (by first | omega | decide | rfl) ?_ | refine Idx.nat (by omega) ?_ | refine Idx.auto (by first | omega | decide) (by first | omega | decide) ?_ | refine Cell.ro rfl ?_ | refine SDraw.all (by kernel_rfl) ?_ | refine Kept.k0 ?_ | refine Kept.k1 ?_ | refine Kept.k2 ?_ | refine Kept.k3 ?_ | refine Kept.k4 ?_))
            | true =>
              rw [show tlt (fV m.id m.x m.n).1 (fV y.id y.x y.n).1 = true from hlt2] at hgtr
              rw [hlt2, Bool.true_and] at hnext
              by_cases hxy : tm x ≤ tm y
              · rw [decide_eq_true hxy, Bool.not_true, Bool.and_false] at hnext
                repeat' ((conv => whnf); (first | refine Look.cells hrb2 rfl hc2 ?_ | refine Look.cells hmM rfl hmc ?_ | refine Look.cells hxM rfl hxc ?_ | refine c13 ?_ | refine t12 hgx ?_ | refine t12 hgy ?_ | refine Branch.t hgtr ?_ | refine Branch.dt (by omega) ?_ | exact hnext _ _ rfl .mk | refine New.mk (fun _ => ?_) | refine Look.at0 ?_ | refine Cell.row ?_ | refine Cell.buf ?_ | refine Cells.row rfl ?_ | refine Put.row rfl ?_ | refine Put.buf rfl ?_ | refine Look.at1 ?_ | refine Look.at2 ?_ | refine Look.at3 ?_ | refine Look.at4 ?_ | refine Look.at5 ?_ | refine Look.at6 ?_ | refine Look.at7 ?_ | refine Look.at8 ?_ | with_reducible refine Val.i64 (by omega) (by omega) ?_ | with_reducible refine Val.u8 (by omega) (by omega) ?_ | with_reducible refine Val.u32 (by omega) (by omega) ?_ | with_reducible refine Val.u64 (by omega) (by omega) ?_ | with_reducible refine Val.u8m ?_ | with_reducible refine Val.u32m ?_ | with_reducible refine Val.u64m ?_ | with_reducible refine Val.shr8 ?_ | with_reducible refine Val.shr16 (by decide) ?_ | with_reducible refine Val.shr24 (by decide) ?_ | with_reducible refine Val.raw ?_ | refine Branch.not ?_ | refine Branch.and ?_ | refine Branch.or ?_ | refine Branch.dt (by assumption) ?_ | refine Branch.df (by assumption) ?_ | refine Branch.dt rfl ?_ | refine Branch.dt (by omega) ?_ | refine Branch.df (by omega) ?_ | refine Branch.t rfl ?_ | refine Branch.f rfl ?_ | refine Branch.t (by assumption) ?_ | refine Branch.f (by assumption) ?_ | refine Branch.d (fun _ => ?_) (fun _ => ?_) | refine Branch.mk (fun _ => ?_) (fun _ => ?_) | refine Need.mk (by first | omega | decide | rfl) ?_ | refine Idx.nat (by omega) ?_ | refine Idx.auto (by first | omega | decide) (by first | omega | decide) ?_ | refine Cell.ro rfl ?_ | refine SDraw.all (by kernel_rfl) ?_ | refine Kept.k0 ?_ | refine Kept.k1 ?_ | refine Kept.k2 ?_ | refine Kept.k3 ?_ | refine Kept.k4 ?_))
              · rw [decide_eq_false hxy, Bool.not_false, Bool.and_true] at hnext
                repeat' ((conv => whnf); (first | refine Look.cells hrb2 rfl hc2 ?_ | refine Look.cells hmM rfl hmc ?_ | refine Look.cells hxM rfl hxc ?_ | refine c13 ?_ | refine t12 hgx ?_ | refine t12 hgy ?_ | refine Branch.t hgtr ?_ | refine Branch.df (by omega) ?_ | exact hnext _ _ rfl .mk | refine New.mk (fun _ => ?_) | refine Look.at0 ?_ | refine Cell.row ?_ | refine Cell.buf ?_ | refine Cells.row rfl ?_ | refine Put.row rfl ?_ | refine Put.buf rfl ?_ | refine Look.at1 ?_ | refine Look.at2 ?_ | refine Look.at3 ?_ | refine Look.at4 ?_ | refine Look.at5 ?_ | refine Look.at6 ?_ | refine Look.at7 ?_ | refine Look.at8 ?_ | with_reducible refine Val.i64 (by omega) (by omega) ?_ | with_reducible refine Val.u8 (by omega) (by omega) ?_ | with_reducible refine Val.u32 (by omega) (by omega) ?_ | with_reducible refine Val.u64 (by omega) (by omega) ?_ | with_reducible refine Val.u8m ?_ | with_reducible refine Val.u32m ?_ | with_reducible refine Val.u64m ?_ | with_reducible refine Val.shr8 ?_ | with_reducible refine Val.shr16 (by decide) ?_ | with_reducible refine Val.shr24 (by decide) ?_ | with_reducible refine Val.raw ?_ | refine Branch.not ?_ | refine Branch.and ?_ | refine Branch.or ?_ | refine Branch.dt (by assumption) ?_ | refine Branch.df (by assumption) ?_ | refine Branch.dt rfl ?_ | refine Branch.dt (by omega) ?_ | refine Branch.df (by omega) ?_ | refine Branch.t rfl ?_ | refine Branch.f rfl ?_ | refine Branch.t (by assumption) ?_ | refine Branch.f (by assumption) ?_ | refine Branch.d (fun _ => ?_) (fun _ => ?_) | refine Branch.mk (fun _ => ?_) (fun _ => ?_) | refine Need.mk (by first | omega | decide | rfl) ?_ | refine Idx.nat (by omega) ?_ | refine Idx.auto (by first | omega | decide) (by first | omega | decide) ?_ | refine Cell.ro rfl ?_ | refine SDraw.all (by kernel_rfl) ?_ | refine Kept.k0 ?_ | refine Kept.k1 ?_ | refine Kept.k2 ?_ | refine Kept.k3 ?_ | refine Kept.k4 ?_))
          · obtain rfl : j = Le.length := by omega
            rw [List.take_length]
            clear hR
            have hgtr := strGt_of (fV x.id x.x x.n).1 (fV m.id m.x m.n).1
            cases hlt2 : tlt (fld m) (fld x) with
            | false =>
              rw [show tlt (fV m.id m.x m.n).1 (fV x.id x.x x.n).1 = false from hlt2] at hgtr
              repeat' ((conv => whnf); (first | refine Look.cells hmM rfl hmc ?_ | refine Look.cells hxM rfl hxc ?_ | refine c13 ?_ | refine Branch.f hgtr ?_ | refine c10 hDM ?_ | exact Keep.all rfl | refine New.mk (fun _ => ?_) | refine Look.at0 ?_ | refine Cell.row ?_ | refine Cell.buf ?_ | refine Cells.row rfl ?_ | refine Put.row rfl ?_ | refine Put.buf rfl ?_ | refine Look.at1 ?_ | refine Look.at2 ?_ | refine Look.at3 ?_ | refine Look.at4 ?_ | refine Look.at5 ?_ | refine Look.at6 ?_ | refine Look.at7 ?_ | refine Look.at8 ?_ | with_reducible refine Val.i64 (by omega) (by omega) ?_ | with_reducible refine Val.u8 (by omega) (by omega) ?_ | with_reducible refine Val.u32 (by omega) (by omega) ?_ | with_reducible refine Val.u64 (by omega) (by omega) ?_ | with_reducible refine Val.u8m ?_ | with_reducible refine Val.u32m ?_ | with_reducible refine Val.u64m ?_ | with_reducible refine Val.shr8 ?_ | with_reducible refine Val.shr16 (by decide) ?_ | with_reducible refine Val.shr24 (by decide) ?_ | with_reducible refine Val.raw ?_ | refine Branch.not ?_ | refine Branch.and ?_ | refine Branch.or ?_ | refine Branch.dt (by assumption) ?_ | refine Branch.df (by assumption) ?_ | refine Branch.dt rfl ?_ | refine Branch.dt (by omega) ?_ | refine Branch.df (by omega) ?_ | refine Branch.t rfl ?_ | refine Branch.f rfl ?_ | refine Branch.t (by assumption) ?_ | refine Branch.f (by assumption) ?_ | refine Branch.d (fun _ => ?_) (fun _ => ?_) | refine Branch.mk (fun _ => ?_) (fun _ => ?_) | refine Need.mk (by first | omega | decide | rfl) ?_ | refine Idx.nat (by omega) ?_ | refine Idx.auto (by first | omega | decide) (by first | omega | decide) ?_ | refine Cell.ro rfl ?_ | refine SDraw.all (by kernel_rfl) ?_ | refine Kept.k0 ?_ | refine Kept.k1 ?_ | refine Kept.k2 ?_ | refine Kept.k3 ?_ | refine Kept.k4 ?_))
            | true =>
              rw [show tlt (fV m.id m.x m.n).1 (fV x.id x.x x.n).1 = true from hlt2] at hgtr
              cases hlo : lgr Le x m with
              | true =>
                repeat' ((conv => whnf); (first | refine Look.cells hmM rfl hmc ?_ | refine Look.cells hxM rfl hxc ?_ | refine c13 ?_ | refine Branch.t hgtr ?_ | refine Branch.f rfl ?_ | refine c10 hDM ?_ | exact Keep.all rfl | refine New.mk (fun _ => ?_) | refine Look.at0 ?_ | refine Cell.row ?_ | refine Cell.buf ?_ | refine Cells.row rfl ?_ | refine Put.row rfl ?_ | refine Put.buf rfl ?_ | refine Look.at1 ?_ | refine Look.at2 ?_ | refine Look.at3 ?_ | refine Look.at4 ?_ | refine Look.at5 ?_ | refine Look.at6 ?_ | refine Look.at7 ?_ | refine Look.at8 ?_ | with_reducible refine Val.i64 (by omega) (by omega) ?_ | with_reducible refine Val.u8 (by omega) (by omega) ?_ | with_reducible refine Val.u32 (by omega) (by omega) ?_ | with_reducible refine Val.u64 (by omega) (by omega) ?_ | with_reducible refine Val.u8m ?_ | with_reducible refine Val.u32m ?_ | with_reducible refine Val.u64m ?_ | with_reducible refine Val.shr8 ?_ | with_reducible refine Val.shr16 (by decide) ?_ | with_reducible refine Val.shr24 (by decide) ?_ | with_reducible refine Val.raw ?_ | refine Branch.not ?_ | refine Branch.and ?_ | refine Branch.or ?_ | refine Branch.dt (by assumption) ?_ | refine Branch.df (by assumption) ?_ | refine Branch.dt rfl ?_ | refine Branch.dt (by omega) ?_ | refine Branch.df (by omega) ?_ | refine Branch.t rfl ?_ | refine Branch.f rfl ?_ | refine Branch.t (by assumption) ?_ | refine Branch.f (by assumption) ?_ | refine Branch.d (fun _ => ?_) (fun _ => ?_) | refine Branch.mk (fun _ => ?_) (fun _ => ?_) | refine Need.mk (by first | omega | decide | rfl) ?_ | refine Idx.nat (by omega) ?_ | refine Idx.auto (by first | omega | decide) (by first | omega | decide) ?_ | refine Cell.ro rfl ?_ | refine SDraw.all (by kernel_rfl) ?_ | refine Kept.k0 ?_ | refine Kept.k1 ?_ | refine Kept.k2 ?_ | refine Kept.k3 ?_ | refine Kept.k4 ?_))
              | false =>
                have hq := hB hlt2 (lgr_false hlo)
                injection hq with hq1 hq2
                cases hq2
        · skip
          repeat' ((conv => whnf); (first | refine own1 _ _ (fun z hz => by simp only [List.mem_cons, hz, or_true]) (fun q c => ?_) | refine h11 _ _ _ _ (fun z hz => by simp only [List.mem_cons, hz, or_true]) ?_ | refine h11b _ _ (fun z hz => by simp only [List.mem_cons, hz, or_true]) ?_ | refine Look.cells (.tail _ hmM) rfl hmc ?_ | refine Look.cells (.tail _ hxM) rfl hxc ?_ | refine t12 hgx ?_ | refine t12 hgm ?_ | refine Branch.f rfl ?_ | with_reducible refine Val.to ((i - 1 : Nat) : Int) (by rw [wrap_i64 (by omega) (by omega)]; omega) ?_ | refine New.mk (fun _ => ?_) | refine Look.at0 ?_ | refine Cell.row ?_ | refine Cell.buf ?_ | refine Cells.row rfl ?_ | refine Put.row rfl ?_ | refine Put.buf rfl ?_ | refine Look.at1 ?_ | refine Look.at2 ?_ | refine Look.at3 ?_ | refine Look.at4 ?_ | refine Look.at5 ?_ | refine Look.at6 ?_ | refine Look.at7 ?_ | refine Look.at8 ?_ | with_reducible refine Val.i64 (by omega) (by omega) ?_ | with_reducible refine Val.u8 (by omega) (by omega) ?_ | with_reducible refine Val.u32 (by omega) (by omega) ?_ | with_reducible refine Val.u64 (by omega) (by omega) ?_ | with_reducible refine Val.u8m ?_ | with_reducible refine Val.u32m ?_ | with_reducible refine Val.u64m ?_ | with_reducible refine Val.shr8 ?_ | with_reducible refine Val.shr16 (by decide) ?_ | with_reducible refine Val.shr24 (by decide) ?_ | with_reducible refine Val.raw ?_ | refine Branch.not ?_ | refine Branch.and ?_ | refine Branch.or ?_ | refine Branch.dt (by assumption) ?_ | refine Branch.df (by assumption) ?_ | refine Branch.dt rfl ?_ | refine Branch.dt (by omega) ?_ | refine Branch.df (by omega) ?_ | refine Branch.t rfl ?_ | refine Branch.f rfl ?_ | refine Branch.t (by assumption) ?_ | refine Branch.f (by assumption) ?_ | refine Branch.d (fun _ => ?_) (fun _ => ?_) | refine Branch.mk (fun _ => ?_) (fun _ => ?_) | refine Need.mk (by first | omega | decide | rfl) ?_ | refine Idx.nat (by omega) ?_ | refine Idx.auto (by first | omega | decide) (by first | omega | decide) ?_ | refine Cell.ro rfl ?_ | refine SDraw.all (by kernel_rfl) ?_ | refine Kept.k0 ?_ | refine Kept.k1 ?_ | refine Kept.k2 ?_ | refine Kept.k3 ?_ | refine Kept.k4 ?_))
          (conv => whnf)
          rw [← hl0]
          refine SLoop.invA (I3b (.slice (some ⟨mr, mo, none⟩) L.length sc) (.slice a Le.length c') i k v1 u1 _ _ Le x m (M ++ H)) (fun j => Le.length - j) 0 (Keep.d1 ⟨Nat.zero_le _, .mk, rfl⟩) ?_
          rintro j S H' ⟨hj, hS, rfl⟩ R hR
          cases hS
          by_cases hlt : j < Le.length
          · obtain ⟨y, hy, hdrop, htake⟩ := list_at hlt
            obtain ⟨r2, o2, c2, b2, e1, hrb2, hc2⟩ := inS_at hinl (fun _ => rfl) hy
            injection e1 with e1 _ e3
            subst e1
            have hgy := hGe.good y (List.mem_of_getElem? hy)
            have hgyt := hgy.tm
            have hgtr := strGt_of (fV y.id y.x y.n).1 (fV m.id m.x m.n).1
            have hlg : lgr (Le.take (j + 1)) x m = (lgr (Le.take j) x m && !(tlt (fld m) (fld y) && decide (tm x ≤ tm y))) := by
              unfold lgr
              rw [htake, List.all_append, Bool.and_assoc]
              simp
            have hnext : ∀ S b, lgr (Le.take (j + 1)) x m = b → S3b (.slice (some ⟨mr, mo, none⟩) L.length sc) (.int .i64 (i : Int)) (.int .i64 (k : Int)) (.slice (some ⟨r2, o2, none⟩) Le.length c') (.int .u64 v1) _ (.int .u64 u1) _ (.bool b) (.int .i64 ((j + 1 : Nat) : Int)) S → R S (M ++ H) := fun S b h1 h2 =>
              hR (j + 1) S _ (by omega) (Keep.all ⟨by omega, by rw [h1]; exact h2, rfl⟩)
            clear hR
            rw [hlg] at hnext
            cases hlt2 : tlt (fld m) (fld y) with
            | false =>
              rw [show tlt (fV m.id m.x m.n).1 (fV y.id y.x y.n).1 = false from hlt2] at hgtr
              rw [hlt2, Bool.false_and, Bool.not_false, Bool.and_true] at hnext
              repeat' ((conv => whnf); (first | refine Look.cells hrb2 rfl hc2 ?_ | refine Look.cells hmM rfl hmc ?_ | refine Look.cells hxM rfl hxc ?_ | refine c13 ?_ | refine Branch.f hgtr ?_ | exact hnext _ _ rfl .mk | refine New.mk (fun _ => ?_) | refine Look.at0 ?_ | refine Cell.row ?_ | refine Cell.buf ?_ | refine Cells.row rfl ?_ | refine Put.row rfl ?_ | refine Put.buf rfl ?_ | refine Look.at1 ?_ | refine Look.at2 ?_ | refine Look.at3 ?_ | refine Look.at4 ?_ | refine Look.at5 ?_ | refine Look.at6 ?_ | refine Look.at7 ?_ | refine Look.at8 ?_ | with_reducible refine Val.i64 (by omega) (by omega) ?_ | with_reducible refine Val.u8 (by omega) (by omega) ?_ | with_reducible refine Val.u32 (by omega) (by omega) ?_ | with_reducible refine Val.u64 (by omega) (by omega) ?_ | with_reducible refine Val.u8m ?_ | with_reducible refine Val.u32m ?_ | with_reducible refine Val.u64m ?_ | with_reducible refine Val.shr8 ?_ | with_reducible refine Val.shr16 (by decide) ?_ | with_reducible refine Val.shr24 (by decide) ?_ | with_reducible refine Val.raw ?_ | refine Branch.not ?_ | refine Branch.and ?_ | refine Branch.or ?_ | refine Branch.dt (by assumption) ?_ | refine Branch.df (by assumption) ?_ | refine Branch.dt rfl ?_ | refine Branch.dt (by omega) ?_ | refine Branch.df (by omega) ?_ | refine Branch.t rfl ?_ | refine Branch.f rfl ?_ | refine Branch.t (by assumption) ?_ | refine Branch.f (by assumption) ?_ | refine Branch.d (fun _ => ?_) (fun _ => ?_) | refine Branch.mk (fun _ => ?_) (fun _ => ?_) | refine Need.mk (by first | omega | decide | rfl) ?_ | refine Idx.nat (by omega) ?_ | refine Idx.auto (by first | omega | decide) (by first | omega | decide) ?_ | refine Cell.ro rfl ?_ | refine SDraw.all (by kernel_rfl) ?_ | refine Kept.k0 ?_ | refine Kept.k1 ?_ | refine Kept.k2 ?_ | refine Kept.k3 ?_ | refine Kept.k4 ?_))
            | true =>
              rw [show tlt (fV m.id m.x m.n).1 (fV y.id y.x y.n).1 = true from hlt2] at hgtr
              rw [hlt2, Bool.true_and] at hnext
              by_cases hxy : tm x ≤ tm y
              · rw [decide_eq_true hxy, Bool.not_true, Bool.and_false] at hnext
                repeat' ((conv => whnf); (first | refine Look.cells hrb2 rfl hc2 ?_ | refine Look.cells hmM rfl hmc ?_ | refine Look.cells hxM rfl hxc ?_ | refine c13 ?_ | refine t12 hgx ?_ | refine t12 hgy ?_ | refine Branch.t hgtr ?_ | refine Branch.dt (by omega) ?_ | exact hnext _ _ rfl .mk | refine New.mk (fun _ => ?_) | refine Look.at0 ?_ | refine Cell.row ?_ | refine Cell.buf ?_ | refine Cells.row rfl ?_ | refine Put.row rfl ?_ | refine Put.buf rfl ?_ | refine Look.at1 ?_ | refine Look.at2 ?_ | refine Look.at3 ?_ | refine Look.at4 ?_ | refine Look.at5 ?_ | refine Look.at6 ?_ | refine Look.at7 ?_ | refine Look.at8 ?_ | with_reducible refine Val.i64 (by omega) (by omega) ?_ | with_reducible refine Val.u8 (by omega) (by omega) ?_ | with_reducible refine Val.u32 (by omega) (by omega) ?_ | with_reducible refine Val.u64 (by omega) (by omega) ?_ | with_reducible refine Val.u8m ?_ | with_reducible refine Val.u32m ?_ | with_reducible refine Val.u64m ?_ | with_reducible refine Val.shr8 ?_ | with_reducible refine Val.shr16 (by decide) ?_ | with_reducible refine Val.shr24 (by decide) ?_ | with_reducible refine Val.raw ?_ | refine Branch.not ?_ | refine Branch.and ?_ | refine Branch.or ?_ | refine Branch.dt (by assumption) ?_ | refine Branch.df (by assumption) ?_ | refine Branch.dt rfl ?_ | refine Branch.dt (by omega) ?_ | refine Branch.df (by omega) ?_ | refine Branch.t rfl ?_ | refine Branch.f rfl ?_ | refine Branch.t (by assumption) ?_ | refine Branch.f (by assumption) ?_ | refine Branch.d (fun _ => ?_) (fun _ => ?_) | refine Branch.mk (fun _ => ?_) (fun _ => ?_) | refine Need.mk (by first | omega | decide | rfl) ?_ | refine Idx.nat (by omega) ?_ | refine Idx.auto (by first | omega | decide) (by first | omega | decide) ?_ | refine Cell.ro rfl ?_ | refine SDraw.all (by kernel_rfl) ?_ | refine Kept.k0 ?_ | refine Kept.k1 ?_ | refine Kept.k2 ?_ | refine Kept.k3 ?_ | refine Kept.k4 ?_))
              · rw [decide_eq_false hxy, Bool.not_false, Bool.and_true] at hnext
                repeat' ((conv => whnf); (first | refine Look.cells hrb2 rfl hc2 ?_ | refine Look.cells hmM rfl hmc ?_ | refine Look.cells hxM rfl hxc ?_ | refine c13 ?_ | refine t12 hgx ?_ | refine t12 hgy ?_ | refine Branch.t hgtr ?_ | refine Branch.df (by omega) ?_ | exact hnext _ _ rfl .mk | refine New.mk (fun _ => ?_) | refine Look.at0 ?_ | refine Cell.row ?_ | refine Cell.buf ?_ | refine Cells.row rfl ?_ | refine Put.row rfl ?_ | refine Put.buf rfl ?_ | refine Look.at1 ?_ | refine Look.at2 ?_ | refine Look.at3 ?_ | refine Look.at4 ?_ | refine Look.at5 ?_ | refine Look.at6 ?_ | refine Look.at7 ?_ | refine Look.at8 ?_ | with_reducible refine Val.i64 (by omega) (by omega) ?_ | with_reducible refine Val.u8 (by omega) (by omega) ?_ | with_reducible refine Val.u32 (by omega) (by omega) ?_ | with_reducible refine Val.u64 (by omega) (by omega) ?_ | with_reducible refine Val.u8m ?_ | with_reducible refine Val.u32m ?_ | with_reducible refine Val.u64m ?_ | with_reducible refine Val.shr8 ?_ | with_reducible refine Val.shr16 (by decide) ?_ | with_reducible refine Val.shr24 (by decide) ?_ | with_reducible refine Val.raw ?_ | refine Branch.not ?_ | refine Branch.and ?_ | refine Branch.or ?_ | refine Branch.dt (by assumption) ?_ | refine Branch.df (by assumption) ?_ | refine Branch.dt rfl ?_ | refine Branch.dt (by omega) ?_ | refine Branch.df (by omega) ?_ | refine Branch.t rfl ?_ | refine Branch.f rfl ?_ | refine Branch.t (by assumption) ?_ | refine Branch.f (by assumption) ?_ | refine Branch.d (fun _ => ?_) (fun _ => ?_) | refine Branch.mk (fun _ => ?_) (fun _ => ?_) | refine Need.mk (by first | omega | decide | rfl) ?_ | refine Idx.nat (by omega) ?_ | refine Idx.auto (by first | omega | decide) (by first | omega | decide) ?_ | refine Cell.ro rfl ?_ | refine SDraw.all (by kernel_rfl) ?_ | refine Kept.k0 ?_ | refine Kept.k1 ?_ | refine Kept.k2 ?_ | refine Kept.k3 ?_ | refine Kept.k4 ?_))
          · obtain rfl : j = Le.length := by omega
            rw [List.take_length]
            clear hR
            have hgtr := strGt_of (fV x.id x.x x.n).1 (fV m.id m.x m.n).1
            cases hlt2 : tlt (fld m) (fld x) with
            | false =>
              rw [show tlt (fV m.id m.x m.n).1 (fV x.id x.x x.n).1 = false from hlt2] at hgtr
              repeat' ((conv => whnf); (first | refine Look.cells hmM rfl hmc ?_ | refine Look.cells hxM rfl hxc ?_ | refine c13 ?_ | refine Branch.f hgtr ?_ | refine c10 hDM ?_ | exact Keep.all rfl | refine New.mk (fun _ => ?_) | refine Look.at0 ?_ | refine Cell.row ?_ | refine Cell.buf ?_ | refine Cells.row rfl ?_ | refine Put.row rfl ?_ | refine Put.buf rfl ?_ | refine Look.at1 ?_ | refine Look.at2 ?_ | refine Look.at3 ?_ | refine Look.at4 ?_ | refine Look.at5 ?_ | refine Look.at6 ?_ | refine Look.at7 ?_ | refine Look.at8 ?_ | with_reducible refine Val.i64 (by omega) (by omega) ?_ | with_reducible refine Val.u8 (by omega) (by omega) ?_ | with_reducible refine Val.u32 (by omega) (by omega) ?_ | with_reducible refine Val.u64 (by omega) (by omega) ?_ | with_reducible refine Val.u8m ?_ | with_reducible refine Val.u32m ?_ | with_reducible refine Val.u64m ?_ | with_reducible refine Val.shr8 ?_ | with_reducible refine Val.shr16 (by decide) ?_ | with_reducible refine Val.shr24 (by decide) ?_ | with_reducible refine Val.raw ?_ | refine Branch.not ?_ | refine Branch.and ?_ | refine Branch.or ?_ | refine Branch.dt (by assumption) ?_ | refine Branch.df (by assumption) ?_ | refine Branch.dt rfl ?_ | refine Branch.dt (by omega) ?_ | refine Branch.df (by omega) ?_ | refine Branch.t rfl ?_ | refine Branch.f rfl ?_ | refine Branch.t (by assumption) ?_ | refine Branch.f (by assumption) ?_ | refine Branch.d (fun _ => ?_) (fun _ => ?_) | refine Branch.mk (fun _ => ?_) (fun _ => ?_) | refine Need.mk (by first | omega | decide | rfl) ?_ | refine Idx.nat (by omega) ?_ | refine Idx.auto (by first | omega | decide) (by first | omega | decide) ?_ | refine Cell.ro rfl ?_ | refine SDraw.all (by kernel_rfl) ?_ | refine Kept.k0 ?_ | refine Kept.k1 ?_ | refine Kept.k2 ?_ | refine Kept.k3 ?_ | refine Kept.k4 ?_))
            | true =>
              rw [show tlt (fV m.id m.x m.n).1 (fV x.id x.x x.n).1 = true from hlt2] at hgtr
              cases hlo : lgr Le x m with
              | true =>
                repeat' ((conv => whnf); (first | refine Look.cells hmM rfl hmc ?_ | refine Look.cells hxM rfl hxc ?_ | refine c13 ?_ | refine Branch.t hgtr ?_ | refine Branch.f rfl ?_ | refine c10 hDM ?_ | exact Keep.all rfl | refine New.mk (fun _ => ?_) | refine Look.at0 ?_ | refine Cell.row ?_ | refine Cell.buf ?_ | refine Cells.row rfl ?_ | refine Put.row rfl ?_ | refine Put.buf rfl ?_ | refine Look.at1 ?_ | refine Look.at2 ?_ | refine Look.at3 ?_ | refine Look.at4 ?_ | refine Look.at5 ?_ | refine Look.at6 ?_ | refine Look.at7 ?_ | refine Look.at8 ?_ | with_reducible refine Val.i64 (by omega) (by omega) ?_ | with_reducible refine Val.u8 (by omega) (by omega) ?_ | with_reducible refine Val.u32 (by omega) (by omega) ?_ | with_reducible refine Val.u64 (by omega) (by omega) ?_ | with_reducible refine Val.u8m ?_ | with_reducible refine Val.u32m ?_ | with_reducible refine Val.u64m ?_ | with_reducible refine Val.shr8 ?_ | with_reducible refine Val.shr16 (by decide) ?_ | with_reducible refine Val.shr24 (by decide) ?_ | with_reducible refine Val.raw ?_ | refine Branch.not ?_ | refine Branch.and ?_ | refine Branch.or ?_ | refine Branch.dt (by assumption) ?_ | refine Branch.df (by assumption) ?_ | refine Branch.dt rfl ?_ | refine Branch.dt (by omega) ?_ | refine Branch.df (by omega) ?_ | refine Branch.t rfl ?_ | refine Branch.f rfl ?_ | refine Branch.t (by assumption) ?_ | refine Branch.f (by assumption) ?_ | refine Branch.d (fun _ => ?_) (fun _ => ?_) | refine Branch.mk (fun _ => ?_) (fun _ => ?_) | refine Need.mk (by first | omega | decide | rfl) ?_ | refine Idx.nat (by omega) ?_ | refine Idx.auto (by first | omega | decide) (by first | omega | decide) ?_ | refine Cell.ro rfl ?_ | refine SDraw.all (by kernel_rfl) ?_ | refine Kept.k0 ?_ | refine Kept.k1 ?_ | refine Kept.k2 ?_ | refine Kept.k3 ?_ | refine Kept.k4 ?_))
              | false =>
                have hq := hB hlt2 (lgr_false hlo)
                injection hq with hq1 hq2
                have hvv : (!decide ((v1 : Int) = (u1 : Int))) = false := by simp [hq1]
                repeat' ((conv => whnf); (first | refine Look.cells hmM rfl hmc ?_ | refine Look.cells hxM rfl hxc ?_ | refine c13 ?_ | refine Branch.t hgtr ?_ | refine Branch.f hvv ?_ | refine Branch.f rfl ?_ | refine c10 hDM ?_ | exact Keep.all rfl | refine New.mk (fun _ => ?_) | refine Look.at0 ?_ | refine Cell.row ?_ | refine Cell.buf ?_ | refine Cells.row rfl ?_ | refine Put.row rfl ?_ | refine Put.buf rfl ?_ | refine Look.at1 ?_ | refine Look.at2 ?_ | refine Look.at3 ?_ | refine Look.at4 ?_ | refine Look.at5 ?_ | refine Look.at6 ?_ | refine Look.at7 ?_ | refine Look.at8 ?_ | with_reducible refine Val.i64 (by omega) (by omega) ?_ | with_reducible refine Val.u8 (by omega) (by omega) ?_ | with_reducible refine Val.u32 (by omega) (by omega) ?_ | with_reducible refine Val.u64 (by omega) (by omega) ?_ | with_reducible refine Val.u8m ?_ | with_reducible refine Val.u32m ?_ | with_reducible refine Val.u64m ?_ | with_reducible refine Val.shr8 ?_ | with_reducible refine Val.shr16 (by decide) ?_ | with_reducible refine Val.shr24 (by decide) ?_ | with_reducible refine Val.raw ?_ | refine Branch.not ?_ | refine Branch.and ?_ | refine Branch.or ?_ | refine Branch.dt (by assumption) ?_ | refine Branch.df (by assumption) ?_ | refine Branch.dt rfl ?_ | refine Branch.dt (by omega) ?_ | refine Branch.df (by omega) ?_ | refine Branch.t rfl ?_ | refine Branch.f rfl ?_ | refine Branch.t (by assumption) ?_ | refine Branch.f (by assumption) ?_ | refine Branch.d (fun _ => ?_) (fun _ => ?_) | refine Branch.mk (fun _ => ?_) (fun _ => ?_) | refine Need.mk (by first | omega | decide | rfl) ?_ | refine Idx.nat (by omega) ?_ | refine Idx.auto (by first | omega | decide) (by first | omega | decide) ?_ | refine Cell.ro rfl ?_ | refine SDraw.all (by kernel_rfl) ?_ | refine Kept.k0 ?_ | refine Kept.k1 ?_ | refine Kept.k2 ?_ | refine Kept.k3 ?_ | refine Kept.k4 ?_))
      · rw [if_neg hki] at h11b
        rcases hcomb with ⟨rfl, rfl, huv⟩ | ⟨rfl, rfl⟩ | ⟨rfl, rfl⟩
        · skip
          repeat' ((conv => whnf); (first | refine own1 _ _ (fun z hz => by simp only [List.mem_cons, hz, or_true]) (fun q c => ?_) | refine h11 _ _ _ _ (fun z hz => by simp only [List.mem_cons, hz, or_true]) ?_ | refine h11b _ _ (fun z hz => by simp only [List.mem_cons, hz, or_true]) ?_ | refine Look.cells (.tail _ hmM) rfl hmc ?_ | refine Look.cells (.tail _ hxM) rfl hxc ?_ | refine t12 hgx ?_ | refine t12 hgm ?_ | refine Branch.f rfl ?_ | with_reducible refine Val.to ((i - 1 : Nat) : Int) (by rw [wrap_i64 (by omega) (by omega)]; omega) ?_ | refine New.mk (fun _ => ?_) | refine Look.at0 ?_ | refine Cell.row ?_ | refine Cell.buf ?_ | refine Cells.row rfl ?_ | refine Put.row rfl ?_ | refine Put.buf rfl ?_ | refine Look.at1 ?_ | refine Look.at2 ?_ | refine Look.at3 ?_ | refine Look.at4 ?_ | refine Look.at5 ?_ | refine Look.at6 ?_ | refine Look.at7 ?_ | refine Look.at8 ?_ | with_reducible refine Val.i64 (by omega) (by omega) ?_ | with_reducible refine Val.u8 (by omega) (by omega) ?_ | with_reducible refine Val.u32 (by omega) (by omega) ?_ | with_reducible refine Val.u64 (by omega) (by omega) ?_ | with_reducible refine Val.u8m ?_ | with_reducible refine Val.u32m ?_ | with_reducible refine Val.u64m ?_ | with_reducible refine Val.shr8 ?_ | with_reducible refine Val.shr16 (by decide) ?_ | with_reducible refine Val.shr24 (by decide) ?_ | with_reducible refine Val.raw ?_ | refine Branch.not ?_ | refine Branch.and ?_ | refine Branch.or ?_ | refine Branch.dt (by assumption) ?_ | refine Branch.df (by assumption) ?_ | refine Branch.dt rfl ?_ | refine Branch.dt (by omega) ?_ | refine Branch.df (by omega) ?_ | refine Branch.t rfl ?_ | refine Branch.f rfl ?_ | refine Branch.t (by assumption) ?_ | refine Branch.f (by assumption) ?_ | refine Branch.d (fun _ => ?_) (fun _ => ?_) | refine Branch.mk (fun _ => ?_) (fun _ => ?_) | refine Need.mk (by first | omega | decide | rfl) ?_ | refine Idx.nat (by omega) ?_ | refine Idx.auto (by first | omega | decide) (by first | omega | decide) ?_ | refine Cell.ro rfl ?_ | refine SDraw.all (by kernel_rfl) ?_ | refine Kept.k0 ?_ | refine Kept.k1 ?_ | refine Kept.k2 ?_ | refine Kept.k3 ?_ | refine Kept.k4 ?_))
          (conv => whnf)
          rw [← hl0]
          refine SLoop.invA (I3b (.slice (some ⟨mr, mo, none⟩) L.length sc) (.slice a Le.length c') i k v1 u1 _ _ Le x m (M ++ H)) (fun j => Le.length - j) 0 (Keep.d1 ⟨Nat.zero_le _, .mk, rfl⟩) ?_
          rintro j S H' ⟨hj, hS, rfl⟩ R hR
          cases hS
          by_cases hlt : j < Le.length
          · obtain ⟨y, hy, hdrop, htake⟩ := list_at hlt
            obtain ⟨r2, o2, c2, b2, e1, hrb2, hc2⟩ := inS_at hinl (fun _ => rfl) hy
            injection e1 with e1 _ e3
            subst e1
            have hgy := hGe.good y (List.mem_of_getElem? hy)
            have hgyt := hgy.tm
            have hgtr := strGt_of (fV y.id y.x y.n).1 (fV m.id m.x m.n).1
            have hlg : lgr (Le.take (j + 1)) x m = (lgr (Le.take j) x m && !(tlt (fld m) (fld y) && decide (tm x ≤ tm y))) := by
              unfold lgr
              rw [htake, List.all_append, Bool.and_assoc]
              simp
            have hnext : ∀ S b, lgr (Le.take (j + 1)) x m = b → S3b (.slice (some ⟨mr, mo, none⟩) L.length sc) (.int .i64 (i : Int)) (.int .i64 (k : Int)) (.slice (some ⟨r2, o2, none⟩) Le.length c') (.int .u64 v1) _ (.int .u64 u1) _ (.bool b) (.int .i64 ((j + 1 : Nat) : Int)) S → R S (M ++ H) := fun S b h1 h2 =>
              hR (j + 1) S _ (by omega) (Keep.all ⟨by omega, by rw [h1]; exact h2, rfl⟩)
            clear hR
            rw [hlg] at hnext
            cases hlt2 : tlt (fld m) (fld y) with
            | false =>
              rw [show tlt (fV m.id m.x m.n).1 (fV y.id y.x y.n).1 = false from hlt2] at hgtr
              rw [hlt2, Bool.false_and, Bool.not_false, Bool.and_true] at hnext
              repeat' ((conv => whnf); (first | refine Look.cells hrb2 rfl hc2 ?_ | refine Look.cells hmM rfl hmc ?_ | refine Look.cells hxM rfl hxc ?_ | refine c13 ?_ | refine Branch.f hgtr ?_ | exact hnext _ _ rfl .mk | refine New.mk (fun _ => ?_) | refine Look.at0 ?_ | refine Cell.row ?_ | refine Cell.buf ?_ | refine Cells.row rfl ?_ | refine Put.row rfl ?_ | refine Put.buf rfl ?_ | refine Look.at1 ?_ | refine Look.at2 ?_ | refine Look.at3 ?_ | refine Look.at4 ?_ | refine Look.at5 ?_ | refine Look.at6 ?_ | refine Look.at7 ?_ | refine Look.at8 ?_ | with_reducible refine Val.i64 (by omega) (by omega) ?_ | with_reducible refine Val.u8 (by omega) (by omega) ?_ | with_reducible refine Val.u32 (by omega) (by omega) ?_ | with_reducible refine Val.u64 (by omega) (by omega) ?_ | with_reducible refine Val.u8m ?_ | with_reducible refine Val.u32m ?_ | with_reducible refine Val.u64m ?_ | with_reducible refine Val.shr8 ?_ | with_reducible refine Val.shr16 (by decide) ?_ | with_reducible refine Val.shr24 (by decide) ?_ | with_reducible refine Val.raw ?_ | refine Branch.not ?_ | refine Branch.and ?_ | refine Branch.or ?_ | refine Branch.dt (by assumption) ?_ | refine Branch.df (by assumption) ?_ | refine Branch.dt rfl ?_ | refine Branch.dt (by omega) ?_ | refine Branch.df (by omega) ?_ | refine Branch.t rfl ?_ | refine Branch.f rfl ?_ | refine Branch.t (by assumption) ?_ | refine Branch.f (by assumption) ?_ | refine Branch.d (fun _ => ?_) (fun _ => ?_) | refine Branch.mk (fun _ => ?_) (fun _ => ?_) | refine Need.mk (by first | omega | decide | rfl) ?_ | refine Idx.nat (by omega) ?_ | refine Idx.auto (by first | omega | decide) (by first | omega | decide) ?_ | refine Cell.ro rfl ?_ | refine SDraw.all (by kernel_rfl) ?_ | refine Kept.k0 ?_ | refine Kept.k1 ?_ | refine Kept.k2 ?_ | refine Kept.k3 ?_ | refine Kept.k4 ?_))
            | true =>
              rw [show tlt (fV m.id m.x m.n).1 (fV y.id y.x y.n).1 = true from hlt2] at hgtr
              rw [hlt2, Bool.true_and] at hnext
              by_cases hxy : tm x ≤ tm y
              · rw [decide_eq_true hxy, Bool.not_true, Bool.and_false] at hnext
                repeat' ((conv => whnf); (first | refine Look.cells hrb2 rfl hc2 ?_ | refine Look.cells hmM rfl hmc ?_ | refine Look.cells hxM rfl hxc ?_ | refine c13 ?_ | refine t12 hgx ?_ | refine t12 hgy ?_ | refine Branch.t hgtr ?_ | refine Branch.dt (by omega) ?_ | exact hnext _ _ rfl .mk | refine New.mk (fun _ => ?_) | refine Look.at0 ?_ | refine Cell.row ?_ | refine Cell.buf ?_ | refine Cells.row rfl ?_ | refine Put.row rfl ?_ | refine Put.buf rfl ?_ | refine Look.at1 ?_ | refine Look.at2 ?_ | refine Look.at3 ?_ | refine Look.at4 ?_ | refine Look.at5 ?_ | refine Look.at6 ?_ | refine Look.at7 ?_ | refine Look.at8 ?_ | with_reducible refine Val.i64 (by omega) (by omega) ?_ | with_reducible refine Val.u8 (by omega) (by omega) ?_ | with_reducible refine Val.u32 (by omega) (by omega) ?_ | with_reducible refine Val.u64 (by omega) (by omega) ?_ | with_reducible refine Val.u8m ?_ | with_reducible refine Val.u32m ?_ | with_reducible refine Val.u64m ?_ | with_reducible refine Val.shr8 ?_ | with_reducible refine Val.shr16 (by decide) ?_ | with_reducible refine Val.shr24 (by decide) ?_ | with_reducible refine Val.raw ?_ | refine Branch.not ?_ | refine Branch.and ?_ | refine Branch.or ?_ | refine Branch.dt (by assumption) ?_ | refine Branch.df (by assumption) ?_ | refine Branch.dt rfl ?_ | refine Branch.dt (by omega) ?_ | refine Branch.df (by omega) ?_ | refine Branch.t rfl ?_ | refine Branch.f rfl ?_ | refine Branch.t (by assumption) ?_ | refine Branch.f (by assumption) ?_ | refine Branch.d (fun _ => ?_) (fun _ => ?_) | refine Branch.mk (fun _ => ?_) (fun _ => ?_) | refine Need.mk (by first | omega | decide | rfl) ?_ | refine Idx.nat (by omega) ?_ | refine Idx.auto (by first | omega | decide) (by first | omega | decide) ?_ | refine Cell.ro rfl ?_ | refine SDraw.all (by kernel_rfl) ?_ | refine Kept.k0 ?_ | refine Kept.k1 ?_ | refine Kept.k2 ?_ | refine Kept.k3 ?_ | refine Kept.k4 ?_))
              · rw [decide_eq_false hxy, Bool.not_false, Bool.and_true] at hnext
                repeat' ((conv => whnf); (first | refine Look.cells hrb2 rfl hc2 ?_ | refine Look.cells hmM rfl hmc ?_ | refine Look.cells hxM rfl hxc ?_ | refine c13 ?_ | refine t12 hgx ?_ | refine t12 hgy ?_ | refine Branch.t hgtr ?_ | refine Branch.df (by omega) ?_ | exact hnext _ _ rfl .mk | refine New.mk (fun _ => ?_) | refine Look.at0 ?_ | refine Cell.row ?_ | refine Cell.buf ?_ | refine Cells.row rfl ?_ | refine Put.row rfl ?_ | refine Put.buf rfl ?_ | refine Look.at1 ?_ | refine Look.at2 ?_ | refine Look.at3 ?_ | refine Look.at4 ?_ | refine Look.at5 ?_ | refine Look.at6 ?_ | refine Look.at7 ?_ | refine Look.at8 ?_ | with_reducible refine Val.i64 (by omega) (by omega) ?_ | with_reducible refine Val.u8 (by omega) (by omega) ?_ | with_reducible refine Val.u32 (by omega) (by omega) ?_ | with_reducible refine Val.u64 (by omega) (by omega) ?_ | with_reducible refine Val.u8m ?_ | with_reducible refine Val.u32m ?_ | with_reducible refine Val.u64m ?_ | with_reducible refine Val.shr8 ?_ | with_reducible refine Val.shr16 (by decide) ?_ | with_reducible refine Val.shr24 (by decide) ?_ | with_reducible refine Val.raw ?_ | refine Branch.not ?_ | refine Branch.and ?_ | refine Branch.or ?_ | refine Branch.dt (by assumption) ?_ | refine Branch.df (by assumption) ?_ | refine Branch.dt rfl ?_ | refine Branch.dt (by omega) ?_ | refine Branch.df (by omega) ?_ | refine Branch.t rfl ?_ | refine Branch.f rfl ?_ | refine Branch.t (by assumption) ?_ | refine Branch.f (by assumption) ?_ | refine Branch.d (fun _ => ?_) (fun _ => ?_) | refine Branch.mk (fun _ => ?_) (fun _ => ?_) | refine Need.mk (by first | omega | decide | rfl) ?_ | refine Idx.nat (by omega) ?_ | refine Idx.auto (by first | omega | decide) (by first | omega | decide) ?_ | refine Cell.ro rfl ?_ | refine SDraw.all (by kernel_rfl) ?_ | refine Kept.k0 ?_ | refine Kept.k1 ?_ | refine Kept.k2 ?_ | refine Kept.k3 ?_ | refine Kept.k4 ?_))
          · obtain rfl : j = Le.length := by omega
            rw [List.take_length]
            clear hR
            have hgtr := strGt_of (fV x.id x.x x.n).1 (fV m.id m.x m.n).1
            cases hlt2 : tlt (fld m) (fld x) with
            | false =>
              rw [show tlt (fV m.id m.x m.n).1 (fV x.id x.x x.n).1 = false from hlt2] at hgtr
              repeat' ((conv => whnf); (first | refine Look.cells hmM rfl hmc ?_ | refine Look.cells hxM rfl hxc ?_ | refine c13 ?_ | refine Branch.f hgtr ?_ | refine c10 hDM ?_ | exact Keep.all rfl | refine New.mk (fun _ => ?_) | refine Look.at0 ?_ | refine Cell.row ?_ | refine Cell.buf ?_ | refine Cells.row rfl ?_ | refine Put.row rfl ?_ | refine Put.buf rfl ?_ | refine Look.at1 ?_ | refine Look.at2 ?_ | refine Look.at3 ?_ | refine Look.at4 ?_ | refine Look.at5 ?_ | refine Look.at6 ?_ | refine Look.at7 ?_ | refine Look.at8 ?_ | with_reducible refine Val.i64 (by omega) (by omega) ?_ | with_reducible refine Val.u8 (by omega) (by omega) ?_ | with_reducible refine Val.u32 (by omega) (by omega) ?_ | with_reducible refine Val.u64 (by omega) (by omega) ?_ | with_reducible refine Val.u8m ?_ | with_reducible refine Val.u32m ?_ | with_reducible refine Val.u64m ?_ | with_reducible refine Val.shr8 ?_ | with_reducible refine Val.shr16 (by decide) ?_ | with_reducible refine Val.shr24 (by decide) ?_ | with_reducible refine Val.raw ?_ | refine Branch.not ?_ | refine Branch.and ?_ | refine Branch.or ?_ | refine Branch.dt (by assumption) ?_ | refine Branch.df (by assumption) ?_ | refine Branch.dt rfl ?_ | refine Branch.dt (by omega) ?_ | refine Branch.df (by omega) ?_ | refine Branch.t rfl ?_ | refine Branch.f rfl ?_ | refine Branch.t (by assumption) ?_ | refine Branch.f (by assumption) ?_ | refine Branch.d (fun _ => ?_) (fun _ => ?_) | refine Branch.mk (fun _ => ?_) (fun _ => ?_) | refine Need.mk (by first | omega | decide | rfl) ?_ | refine Idx.nat (by omega) ?_ | refine Idx.auto (by first | omega | decide) (by first | omega | decide) ?_ | refine Cell.ro rfl ?_ | refine SDraw.all (by kernel_rfl) ?_ | refine Kept.k0 ?_ | refine Kept.k1 ?_ | refine Kept.k2 ?_ | refine Kept.k3 ?_ | refine Kept.k4 ?_))
            | true =>
              rw [show tlt (fV m.id m.x m.n).1 (fV x.id x.x x.n).1 = true from hlt2] at hgtr
              cases hlo : lgr Le x m with
              | true =>
                repeat' ((conv => whnf); (first | refine Look.cells hmM rfl hmc ?_ | refine Look.cells hxM rfl hxc ?_ | refine c13 ?_ | refine Branch.t hgtr ?_ | refine Branch.f rfl ?_ | refine c10 hDM ?_ | exact Keep.all rfl | refine New.mk (fun _ => ?_) | refine Look.at0 ?_ | refine Cell.row ?_ | refine Cell.buf ?_ | refine Cells.row rfl ?_ | refine Put.row rfl ?_ | refine Put.buf rfl ?_ | refine Look.at1 ?_ | refine Look.at2 ?_ | refine Look.at3 ?_ | refine Look.at4 ?_ | refine Look.at5 ?_ | refine Look.at6 ?_ | refine Look.at7 ?_ | refine Look.at8 ?_ | with_reducible refine Val.i64 (by omega) (by omega) ?_ | with_reducible refine Val.u8 (by omega) (by omega) ?_ | with_reducible refine Val.u32 (by omega) (by omega) ?_ | with_reducible refine Val.u64 (by omega) (by omega) ?_ | with_reducible refine Val.u8m ?_ | with_reducible refine Val.u32m ?_ | with_reducible refine Val.u64m ?_ | with_reducible refine Val.shr8 ?_ | with_reducible refine Val.shr16 (by decide) ?_ | with_reducible refine Val.shr24 (by decide) ?_ | with_reducible refine Val.raw ?_ | refine Branch.not ?_ | refine Branch.and ?_ | refine Branch.or ?_ | refine Branch.dt (by assumption) ?_ | refine Branch.df (by assumption) ?_ | refine Branch.dt rfl ?_ | refine Branch.dt (by omega) ?_ | refine Branch.df (by omega) ?_ | refine Branch.t rfl ?_ | refine Branch.f rfl ?_ | refine Branch.t (by assumption) ?_ | refine Branch.f (by assumption) ?_ | refine Branch.d (fun _ => ?_) (fun _ => ?_) | refine Branch.mk (fun _ => ?_) (fun _ => ?_) | refine Need.mk (by first | omega | decide | rfl) ?_ | refine Idx.nat (by omega) ?_ | refine Idx.auto (by first | omega | decide) (by first | omega | decide) ?_ | refine Cell.ro rfl ?_ | refine SDraw.all (by kernel_rfl) ?_ | refine Kept.k0 ?_ | refine Kept.k1 ?_ | refine Kept.k2 ?_ | refine Kept.k3 ?_ | refine Kept.k4 ?_))
              | false =>
                have hq := hB hlt2 (lgr_false hlo)
                injection hq with hq1 hq2
                have hvv : (!decide ((v1 : Int) = (u1 : Int))) = false := by simp [hq1]
                repeat' ((conv => whnf); (first | refine Look.cells hmM rfl hmc ?_ | refine Look.cells hxM rfl hxc ?_ | refine c13 ?_ | refine Branch.t hgtr ?_ | refine Branch.f hvv ?_ | refine Branch.f rfl ?_ | refine c10 hDM ?_ | exact Keep.all rfl | refine New.mk (fun _ => ?_) | refine Look.at0 ?_ | refine Cell.row ?_ | refine Cell.buf ?_ | refine Cells.row rfl ?_ | refine Put.row rfl ?_ | refine Put.buf rfl ?_ | refine Look.at1 ?_ | refine Look.at2 ?_ | refine Look.at3 ?_ | refine Look.at4 ?_ | refine Look.at5 ?_ | refine Look.at6 ?_ | refine Look.at7 ?_ | refine Look.at8 ?_ | with_reducible refine Val.i64 (by omega) (by omega) ?_ | with_reducible refine Val.u8 (by omega) (by omega) ?_ | with_reducible refine Val.u32 (by omega) (by omega) ?_ | with_reducible refine Val.u64 (by omega) (by omega) ?_ | with_reducible refine Val.u8m ?_ | with_reducible refine Val.u32m ?_ | with_reducible refine Val.u64m ?_ | with_reducible refine Val.shr8 ?_ | with_reducible refine Val.shr16 (by decide) ?_ | with_reducible refine Val.shr24 (by decide) ?_ | with_reducible refine Val.raw ?_ | refine Branch.not ?_ | refine Branch.and ?_ | refine Branch.or ?_ | refine Branch.dt (by assumption) ?_ | refine Branch.df (by assumption) ?_ | refine Branch.dt rfl ?_ | refine Branch.dt (by omega) ?_ | refine Branch.df (by omega) ?_ | refine Branch.t rfl ?_ | refine Branch.f rfl ?_ | refine Branch.t (by assumption) ?_ | refine Branch.f (by assumption) ?_ | refine Branch.d (fun _ => ?_) (fun _ => ?_) | refine Branch.mk (fun _ => ?_) (fun _ => ?_) | refine Need.mk (by first | omega | decide | rfl) ?_ | refine Idx.nat (by omega) ?_ | refine Idx.auto (by first | omega | decide) (by first | omega | decide) ?_ | refine Cell.ro rfl ?_ | refine SDraw.all (by kernel_rfl) ?_ | refine Kept.k0 ?_ | refine Kept.k1 ?_ | refine Kept.k2 ?_ | refine Kept.k3 ?_ | refine Kept.k4 ?_))
        · skip
          repeat' ((conv => whnf); (first | refine own1 _ _ (fun z hz => by simp only [List.mem_cons, hz, or_true]) (fun q c => ?_) | refine h11 _ _ _ _ (fun z hz => by simp only [List.mem_cons, hz, or_true]) ?_ | refine h11b _ _ (fun z hz => by simp only [List.mem_cons, hz, or_true]) ?_ | refine Look.cells (.tail _ hmM) rfl hmc ?_ | refine Look.cells (.tail _ hxM) rfl hxc ?_ | refine t12 hgx ?_ | refine t12 hgm ?_ | refine Branch.f rfl ?_ | with_reducible refine Val.to ((i - 1 : Nat) : Int) (by rw [wrap_i64 (by omega) (by omega)]; omega) ?_ | refine New.mk (fun _ => ?_) | refine Look.at0 ?_ | refine Cell.row ?_ | refine Cell.buf ?_ | refine Cells.row rfl ?_ | refine Put.row rfl ?_ | refine Put.buf rfl ?_ | refine Look.at1 ?_ | refine Look.at2 ?_ | refine Look.at3 ?_ | refine Look.at4 ?_ | refine Look.at5 ?_ | refine Look.at6 ?_ | refine Look.at7 ?_ | refine Look.at8 ?_ | with_reducible refine Val.i64 (by omega) (by omega) ?_ | with_reducible refine Val.u8 (by omega) (by omega) ?_ | with_reducible refine Val.u32 (by omega) (by omega) ?_ | with_reducible refine Val.u64 (by omega) (by omega) ?_ | with_reducible refine Val.u8m ?_ | with_reducible refine Val.u32m ?_ | with_reducible refine Val.u64m ?_ | with_reducible refine Val.shr8 ?_ | with_reducible refine Val.shr16 (by decide) ?_ | with_reducible refine Val.shr24 (by decide) ?_ | with_reducible refine Val.raw ?_ | refine Branch.not ?_ | refine Branch.and ?_ | refine Branch.or ?_ | refine Branch.dt (by assumption) ?_ | refine Branch.df (by assumption) ?_ | refine Branch.dt rfl ?_ | refine Branch.dt (by omega) ?_ | refine Branch.df (by omega) ?_ | refine Branch.t rfl ?_ | refine Branch.f rfl ?_ | refine Branch.t (by assumption) ?_ | refine Branch.f (by assumption) ?_ | refine Branch.d (fun _ => ?_) (fun _ => ?_) | refine Branch.mk (fun _ => ?_) (fun _ => ?_) | refine Need.mk (by first | omega | decide | rfl) ?_ | refine Idx.nat (by omega) ?_ | refine Idx.auto (by first | omega | decide) (by first | omega | decide) ?_ | refine Cell.ro rfl ?_ | refine SDraw.all (by kernel_rfl) ?_ | refine Kept.k0 ?_ | refine Kept.k1 ?_ | refine Kept.k2 ?_ | refine Kept.k3 ?_ | refine Kept.k4 ?_))
          (conv => whnf)
          rw [← hl0]
          refine SLoop.invA (I3b (.slice (some ⟨mr, mo, none⟩) L.length sc) (.slice a Le.length c') i k v1 u1 _ _ Le x m (M ++ H)) (fun j => Le.length - j) 0 (Keep.d1 ⟨Nat.zero_le _, .mk, rfl⟩) ?_
          rintro j S H' ⟨hj, hS, rfl⟩ R hR
          cases hS
          by_cases hlt : j < Le.length
          · obtain ⟨y, hy, hdrop, htake⟩ := list_at hlt
            obtain ⟨r2, o2, c2, b2, e1, hrb2, hc2⟩ := inS_at hinl (fun _ => rfl) hy
            injection e1 with e1 _ e3
            subst e1
            have hgy := hGe.good y (List.mem_of_getElem? hy)
            have hgyt := hgy.tm
            have hgtr := strGt_of (fV y.id y.x y.n).1 (fV m.id m.x m.n).1
            have hlg : lgr (Le.take (j + 1)) x m = (lgr (Le.take j) x m && !(tlt (fld m) (fld y) && decide (tm x ≤ tm y))) := by
              unfold lgr
              rw [htake, List.all_append, Bool.and_assoc]
              simp
            have hnext : ∀ S b, lgr (Le.take (j + 1)) x m = b → S3b (.slice (some ⟨mr, mo, none⟩) L.length sc) (.int .i64 (i : Int)) (.int .i64 (k : Int)) (.slice (some ⟨r2, o2, none⟩) Le.length c') (.int .u64 v1) _ (.int .u64 u1) _ (.bool b) (.int .i64 ((j + 1 : Nat) : Int)) S → R S (M ++ H) := fun S b h1 h2 =>
              hR (j + 1) S _ (by omega) (Keep.all ⟨by omega, by rw [h1]; exact h2, rfl⟩)
            clear hR
            rw [hlg] at hnext
            cases hlt2 : tlt (fld m) (fld y) with
            | false =>
              rw [show tlt (fV m.id m.x m.n).1 (fV y.id y.x y.n).1 = false from hlt2] at hgtr
              rw [hlt2, Bool.false_and, Bool.not_false, Bool.and_true] at hnext
              repeat' ((conv => whnf); (first | refine Look.cells hrb2 rfl hc2 ?_ | refine Look.cells hmM rfl hmc ?_ | refine Look.cells hxM rfl hxc ?_ | refine c13 ?_ | refine Branch.f hgtr ?_ | exact hnext _ _ rfl .mk | refine New.mk (fun _ => ?_) | refine Look.at0 ?_ | refine Cell.row ?_ | refine Cell.buf ?_ | refine Cells.row rfl ?_ | refine Put.row rfl ?_ | refine Put.buf rfl ?_ | refine Look.at1 ?_ | refine Look.at2 ?_ | refine Look.at3 ?_ | refine Look.at4 ?_ | refine Look.at5 ?_ | refine Look.at6 ?_ | refine Look.at7 ?_ | refine Look.at8 ?_ | with_reducible refine Val.i64 (by omega) (by omega) ?_ | with_reducible refine Val.u8 (by omega) (by omega) ?_ | with_reducible refine Val.u32 (by omega) (by omega) ?_ | with_reducible refine Val.u64 (by omega) (by omega) ?_ | with_reducible refine Val.u8m ?_ | with_reducible refine Val.u32m ?_ | with_reducible refine Val.u64m ?_ | with_reducible refine Val.shr8 ?_ | with_reducible refine Val.shr16 (by decide) ?_ | with_reducible refine Val.shr24 (by decide) ?_ | with_reducible refine Val.raw ?_ | refine Branch.not ?_ | refine Branch.and ?_ | refine Branch.or ?_ | refine Branch.dt (by assumption) ?_ | refine Branch.df (by assumption) ?_ | refine Branch.dt rfl ?_ | refine Branch.dt (by omega) ?_ | refine Branch.df (by omega) ?_ | refine Branch.t rfl ?_ | refine Branch.f rfl ?_ | refine Branch.t (by assumption) ?_ | refine Branch.f (by assumption) ?_ | refine Branch.d (fun _ => ?_) (fun _ => ?_) | refine Branch.mk (fun _ => ?_) (fun _ => ?_) | refine Need.mk (by first | omega | decide | rfl) ?_ | refine Idx.nat (by omega) ?_ | refine Idx.auto (by first | omega | decide) (by first | omega | decide) ?_ | refine Cell.ro rfl ?_ | refine SDraw.all (by kernel_rfl) ?_ | refine Kept.k0 ?_ | refine Kept.k1 ?_ | refine Kept.k2 ?_ | refine Kept.k3 ?_ | refine Kept.k4 ?_))
            | true =>
              rw [show tlt (fV m.id m.x m.n).1 (fV y.id y.x y.n).1 = true from hlt2] at hgtr
              rw [hlt2, Bool.true_and] at hnext
              by_cases hxy : tm x ≤ tm y
              · rw [decide_eq_true hxy, Bool.not_true, Bool.and_false] at hnext
                repeat' ((conv => whnf); (first | refine Look.cells hrb2 rfl hc2 ?_ | refine Look.cells hmM rfl hmc ?_ | refine Look.cells hxM rfl hxc ?_ | refine c13 ?_ | refine t12 hgx ?_ | refine t12 hgy ?_ | refine Branch.t hgtr ?_ | refine Branch.dt (by omega) ?_ | exact hnext _ _ rfl .mk | refine New.mk (fun _ => ?_) | refine Look.at0 ?_ | refine Cell.row ?_ | refine Cell.buf ?_ | refine Cells.row rfl ?_ | refine Put.row rfl ?_ | refine Put.buf rfl ?_ | refine Look.at1 ?_ | refine Look.at2 ?_ | refine Look.at3 ?_ | refine Look.at4 ?_ | refine Look.at5 ?_ | refine Look.at6 ?_ | refine Look.at7 ?_ | refine Look.at8 ?_ | with_reducible refine Val.i64 (by omega) (by omega) ?_ | with_reducible refine Val.u8 (by omega) (by omega) ?_ | with_reducible refine Val.u32 (by omega) (by omega) ?_ | with_reducible refine Val.u64 (by omega) (by omega) ?_ | with_reducible refine Val.u8m ?_ | with_reducible refine Val.u32m ?_ | with_reducible refine Val.u64m ?_ | with_reducible refine Val.shr8 ?_ | with_reducible refine Val.shr16 (by decide) ?_ | with_reducible refine Val.shr24 (by decide) ?_ | with_reducible refine Val.raw ?_ | refine Branch.not ?_ | refine Branch.and ?_ | refine Branch.or ?_ | refine Branch.dt (by assumption) ?_ | refine Branch.df (by assumption) ?_ | refine Branch.dt rfl ?_ | refine Branch.dt (by omega) ?_ | refine Branch.df (by omega) ?_ | refine Branch.t rfl ?_ | refine Branch.f rfl ?_ | refine Branch.t (by assumption) ?_ | refine Branch.f (by assumption) ?_ | refine Branch.d (fun _ => ?_) (fun _ => ?_) | refine Branch.mk (fun _ => ?_) (fun _ => ?_) | refine Need.mk (by first | omega | decide | rfl) ?_ | refine Idx.nat (by omega) ?_ | refine Idx.auto (by first | omega | decide) (by first | omega | decide) ?_ | refine Cell.ro rfl ?_ | refine SDraw.all (by kernel_rfl) ?_ | refine Kept.k0 ?_ | refine Kept.k1 ?_ | refine Kept.k2 ?_ | refine Kept.k3 ?_ | refine Kept.k4 ?_))
              · rw [decide_eq_false hxy, Bool.not_false, Bool.and_true] at hnext
                repeat' ((conv => whnf); (first | refine Look.cells hrb2 rfl hc2 ?_ | refine Look.cells hmM rfl hmc ?_ | refine Look.cells hxM rfl hxc ?_ | refine c13 ?_ | refine t12 hgx ?_ | refine t12 hgy ?_ | refine Branch.t hgtr ?_ | refine Branch.df (by omega) ?_ | exact hnext _ _ rfl .mk | refine New.mk (fun _ => ?_) | refine Look.at0 ?_ | refine Cell.row ?_ | refine Cell.buf ?_ | refine Cells.row rfl ?_ | refine Put.row rfl ?_ | refine Put.buf rfl ?_ | refine Look.at1 ?_ | refine Look.at2 ?_ | refine Look.at3 ?_ | refine Look.at4 ?_ | refine Look.at5 ?_ | refine Look.at6 ?_ | refine Look.at7 ?_ | refine Look.at8 ?_ | with_reducible refine Val.i64 (by omega) (by omega) ?_ | with_reducible refine Val.u8 (by omega) (by omega) ?_ | with_reducible refine Val.u32 (by omega) (by omega) ?_ | with_reducible refine Val.u64 (by omega) (by omega) ?_ | with_reducible refine Val.u8m ?_ | with_reducible refine Val.u32m ?_ | with_reducible refine Val.u64m ?_ | with_reducible refine Val.shr8 ?_ | with_reducible refine Val.shr16 (by decide) ?_ | with_reducible refine Val.shr24 (by decide) ?_ | with_reducible refine Val.raw ?_ | refine Branch.not ?_ | refine Branch.and ?_ | refine Branch.or ?_ | refine Branch.dt (by assumption) ?_ | refine Branch.df (by assumption) ?_ | refine Branch.dt rfl ?_ | refine Branch.dt (by omega) ?_ | refine Branch.df (by omega) ?_ | refine Branch.t rfl ?_ | refine Branch.f rfl ?_ | refine Branch.t (by assumption) ?_ | refine Branch.f (by assumption) ?_ | refine Branch.d (fun _ => ?_) (fun _ => ?_) | refine Branch.mk (fun _ => ?_) (fun _ => ?_) | refine Need.mk (by first | omega | decide | rfl) ?_ | refine Idx.nat (by omega) ?_ | refine Idx.auto (by first | omega | decide) (by first | omega | decide) ?_ | refine Cell.ro rfl ?_ | refine SDraw.all (by kernel_rfl) ?_ | refine Kept.k0 ?_ | refine Kept.k1 ?_ | refine Kept.k2 ?_ | refine Kept.k3 ?_ | refine Kept.k4 ?_))
          · obtain rfl : j = Le.length := by omega
            rw [List.take_length]
            clear hR
            have hgtr := strGt_of (fV x.id x.x x.n).1 (fV m.id m.x m.n).1
            cases hlt2 : tlt (fld m) (fld x) with
            | false =>
              rw [show tlt (fV m.id m.x m.n).1 (fV x.id x.x x.n).1 = false from hlt2] at hgtr
              repeat' ((conv => whnf); (first | refine Look.cells hmM rfl hmc ?_ | refine Look.cells hxM rfl hxc ?_ | refine c13 ?_ | refine Branch.f hgtr ?_ | refine c10 hDM ?_ | exact Keep.all rfl | refine New.mk (fun _ => ?_) | refine Look.at0 ?_ | refine Cell.row ?_ | refine Cell.buf ?_ | refine Cells.row rfl ?_ | refine Put.row rfl ?_ | refine Put.buf rfl ?_ | refine Look.at1 ?_ | refine Look.at2 ?_ | refine Look.at3 ?_ | refine Look.at4 ?_ | refine Look.at5 ?_ | refine Look.at6 ?_ | refine Look.at7 ?_ | refine Look.at8 ?_ | with_reducible refine Val.i64 (by omega) (by omega) ?_ | with_reducible refine Val.u8 (by omega) (by omega) ?_ | with_reducible refine Val.u32 (by omega) (by omega) ?_ | with_reducible refine Val.u64 (by omega) (by omega) ?_ | with_reducible refine Val.u8m ?_ | with_reducible refine Val.u32m ?_ | with_reducible refine Val.u64m ?_ | with_reducible refine Val.shr8 ?_ | with_reducible refine Val.shr16 (by decide) ?_ | with_reducible refine Val.shr24 (by decide) ?_ | with_reducible refine Val.raw ?_ | refine Branch.not ?_ | refine Branch.and ?_ | refine Branch.or ?_ | refine Branch.dt (by assumption) ?_ | refine Branch.df (by assumption) ?_ | refine Branch.dt rfl ?_ | refine Branch.dt (by omega) ?_ | refine Branch.df (by omega) ?_ | refine Branch.t rfl ?_ | refine Branch.f rfl ?_ | refine Branch.t (by assumption) ?_ | refine Branch.f (by assumption) ?_ | refine Branch.d (fun _ => ?_) (fun _ => ?_) | refine Branch.mk (fun _ => ?_) (fun _ => ?_) | refine Need.mk (by first | omega | decide | rfl) ?_ | refine Idx.nat (by omega) ?_ | refine Idx.auto (by first | omega | decide) (by first | omega | decide) ?_ | refine Cell.ro rfl ?_ | refine SDraw.all (by kernel_rfl) ?_ | refine Kept.k0 ?_ | refine Kept.k1 ?_ | refine Kept.k2 ?_ | refine Kept.k3 ?_ | refine Kept.k4 ?_))
            | true =>
              rw [show tlt (fV m.id m.x m.n).1 (fV x.id x.x x.n).1 = true from hlt2] at hgtr
              cases hlo : lgr Le x m with
              | true =>
                repeat' ((conv => whnf); (first | refine Look.cells hmM rfl hmc ?_ | refine Look.cells hxM rfl hxc ?_ | refine c13 ?_ | refine Branch.t hgtr ?_ | refine Branch.f rfl ?_ | refine c10 hDM ?_ | exact Keep.all rfl | refine New.mk (fun _ => ?_) | refine Look.at0 ?_ | refine Cell.row ?_ | refine Cell.buf ?_ | refine Cells.row rfl ?_ | refine Put.row rfl ?_ | refine Put.buf rfl ?_ | refine Look.at1 ?_ | refine Look.at2 ?_ | refine Look.at3 ?_ | refine Look.at4 ?_ | refine Look.at5 ?_ | refine Look.at6 ?_ | refine Look.at7 ?_ | refine Look.at8 ?_ | with_reducible refine Val.i64 (by omega) (by omega) ?_ | with_reducible refine Val.u8 (by omega) (by omega) ?_ | with_reducible refine Val.u32 (by omega) (by omega) ?_ | with_reducible refine Val.u64 (by omega) (by omega) ?_ | with_reducible refine Val.u8m ?_ | with_reducible refine Val.u32m ?_ | with_reducible refine Val.u64m ?_ | with_reducible refine Val.shr8 ?_ | with_reducible refine Val.shr16 (by decide) ?_ | with_reducible refine Val.shr24 (by decide) ?_ | with_reducible refine Val.raw ?_ | refine Branch.not ?_ | refine Branch.and ?_ | refine Branch.or ?_ | refine Branch.dt (by assumption) ?_ | refine Branch.df (by assumption) ?_ | refine Branch.dt rfl ?_ | refine Branch.dt (by omega) ?_ | refine Branch.df (by omega) ?_ | refine Branch.t rfl ?_ | refine Branch.f rfl ?_ | refine Branch.t (by assumption) ?_ | refine Branch.f (by assumption) ?_ | refine Branch.d (fun _ => ?_) (fun _ => ?_) | refine Branch.mk (fun _ => ?_) (fun _ => ?_) | refine Need.mk (by first | omega | decide | rfl) ?_ | refine Idx.nat (by omega) ?_ | refine Idx.auto (by first | omega | decide) (by first | omega | decide) ?_ | refine Cell.ro rfl ?_ | refine SDraw.all (by kernel_rfl) ?_ | refine Kept.k0 ?_ | refine Kept.k1 ?_ | refine Kept.k2 ?_ | refine Kept.k3 ?_ | refine Kept.k4 ?_))
              | false =>
                have hq := hB hlt2 (lgr_false hlo)
                injection hq with hq1 hq2
                cases hq2
        · skip
          repeat' ((conv => whnf); (first | refine own1 _ _ (fun z hz => by simp only [List.mem_cons, hz, or_true]) (fun q c => ?_) | refine h11 _ _ _ _ (fun z hz => by simp only [List.mem_cons, hz, or_true]) ?_ | refine h11b _ _ (fun z hz => by simp only [List.mem_cons, hz, or_true]) ?_ | refine Look.cells (.tail _ hmM) rfl hmc ?_ | refine Look.cells (.tail _ hxM) rfl hxc ?_ | refine t12 hgx ?_ | refine t12 hgm ?_ | refine Branch.f rfl ?_ | with_reducible refine Val.to ((i - 1 : Nat) : Int) (by rw [wrap_i64 (by omega) (by omega)]; omega) ?_ | refine New.mk (fun _ => ?_) | refine Look.at0 ?_ | refine Cell.row ?_ | refine Cell.buf ?_ | refine Cells.row rfl ?_ | refine Put.row rfl ?_ | refine Put.buf rfl ?_ | refine Look.at1 ?_ | refine Look.at2 ?_ | refine Look.at3 ?_ | refine Look.at4 ?_ | refine Look.at5 ?_ | refine Look.at6 ?_ | refine Look.at7 ?_ | refine Look.at8 ?_ | with_reducible refine Val.i64 (by omega) (by omega) ?_ | with_reducible refine Val.u8 (by omega) (by omega) ?_ | with_reducible refine Val.u32 (by omega) (by omega) ?_ | with_reducible refine Val.u64 (by omega) (by omega) ?_ | with_reducible refine Val.u8m ?_ | with_reducible refine Val.u32m ?_ | with_reducible refine Val.u64m ?_ | with_reducible refine Val.shr8 ?_ | with_reducible refine Val.shr16 (by decide) ?_ | with_reducible refine Val.shr24 (by decide) ?_ | with_reducible refine Val.raw ?_ | refine Branch.not ?_ | refine Branch.and ?_ | refine Branch.or ?_ | refine Branch.dt (by assumption) ?_ | refine Branch.df (by assumption) ?_ | refine Branch.dt rfl ?_ | refine Branch.dt (by omega) ?_ | refine Branch.df (by omega) ?_ | refine Branch.t rfl ?_ | refine Branch.f rfl ?_ | refine Branch.t (by assumption) ?_ | refine Branch.f (by assumption) ?_ | refine Branch.d (fun _ => ?_) (fun _ => ?_) | refine Branch.mk (fun _ => ?_) (fun _ => ?_) | refine Need.mk (by first | omega | decide | rfl) ?_ | refine Idx.nat (by omega) ?_ | refine Idx.auto (by first | omega | decide) (by first | omega | decide) ?_ | refine Cell.ro rfl ?_ | refine SDraw.all (by kernel_rfl) ?_ | refine Kept.k0 ?_ | refine Kept.k1 ?_ | refine Kept.k2 ?_ | refine Kept.k3 ?_ | refine Kept.k4 ?_))
          (conv => whnf)
          rw [← hl0]
          refine SLoop.invA (I3b (.slice (some ⟨mr, mo, none⟩) L.length sc) (.slice a Le.length c') i k v1 u1 _ _ Le x m (M ++ H)) (fun j => Le.length - j) 0 (Keep.d1 ⟨Nat.zero_le _, .mk, rfl⟩) ?_
          rintro j S H' ⟨hj, hS, rfl⟩ R hR
          cases hS
          by_cases hlt : j < Le.length
          · obtain ⟨y, hy, hdrop, htake⟩ := list_at hlt
            obtain ⟨r2, o2, c2, b2, e1, hrb2, hc2⟩ := inS_at hinl (fun _ => rfl) hy
            injection e1 with e1 _ e3
            subst e1
            have hgy := hGe.good y (List.mem_of_getElem? hy)
            have hgyt := hgy.tm
            have hgtr := strGt_of (fV y.id y.x y.n).1 (fV m.id m.x m.n).1
            have hlg : lgr (Le.take (j + 1)) x m = (lgr (Le.take j) x m && !(tlt (fld m) (fld y) && decide (tm x ≤ tm y))) := by
              unfold lgr
              rw [htake, List.all_append, Bool.and_assoc]
              simp
            have hnext : ∀ S b, lgr (Le.take (j + 1)) x m = b → S3b (.slice (some ⟨mr, mo, none⟩) L.length sc) (.int .i64 (i : Int)) (.int .i64 (k : Int)) (.slice (some ⟨r2, o2, none⟩) Le.length c') (.int .u64 v1) _ (.int .u64 u1) _ (.bool b) (.int .i64 ((j + 1 : Nat) : Int)) S → R S (M ++ H) := fun S b h1 h2 =>
              hR (j + 1) S _ (by omega) (Keep.all ⟨by omega, by rw [h1]; exact h2, rfl⟩)
            clear hR
            rw [hlg] at hnext
            cases hlt2 : tlt (fld m) (fld y) with
            | false =>
              rw [show tlt (fV m.id m.x m.n).1 (fV y.id y.x y.n).1 = false from hlt2] at hgtr
              rw [hlt2, Bool.false_and, Bool.not_false, Bool.and_true] at hnext
              repeat' ((conv => whnf); (first | refine Look.cells hrb2 rfl hc2 ?_ | refine Look.cells hmM rfl hmc ?_ | refine Look.cells hxM rfl hxc ?_ | refine c13 ?_ | refine Branch.f hgtr ?_ | exact hnext _ _ rfl .mk | refine New.mk (fun _ => ?_) | refine Look.at0 ?_ | refine Cell.row ?_ | refine Cell.buf ?_ | refine Cells.row rfl ?_ | refine Put.row rfl ?_ | refine Put.buf rfl ?_ | refine Look.at1 ?_ | refine Look.at2 ?_ | refine Look.at3 ?_ | refine Look.at4 ?_ | refine Look.at5 ?_ | refine Look.at6 ?_ | refine Look.at7 ?_ | refine Look.at8 ?_ | with_reducible refine Val.i64 (by omega) (by omega) ?_ | with_reducible refine Val.u8 (by omega) (by omega) ?_ | with_reducible refine Val.u32 (by omega) (by omega) ?_ | with_reducible refine Val.u64 (by omega) (by omega) ?_ | with_reducible refine Val.u8m ?_ | with_reducible refine Val.u32m ?_ | with_reducible refine Val.u64m ?_ | with_reducible refine Val.shr8 ?_ | with_reducible refine Val.shr16 (by decide) ?_ | with_reducible refine Val.shr24 (by decide) ?_ | with_reducible refine Val.raw ?_ | refine Branch.not ?_ | refine Branch.and ?_ | refine Branch.or ?_ | refine Branch.dt (by assumption) ?_ | refine Branch.df (by assumption) ?_ | refine Branch.dt rfl ?_ | refine Branch.dt (by omega) ?_ | refine Branch.df (by omega) ?_ | refine Branch.t rfl ?_ | refine Branch.f rfl ?_ | refine Branch.t (by assumption) ?_ | refine Branch.f (by assumption) ?_ | refine Branch.d (fun _ => ?_) (fun _ => ?_) | refine Branch.mk (fun _ => ?_) (fun _ => ?_) | refine Need.mk (by first | omega | decide | rfl) ?_ | refine Idx.nat (by omega) ?_ | refine Idx.auto (by first | omega | decide) (by first | omega | decide) ?_ | refine Cell.ro rfl ?_ | refine SDraw.all (by kernel_rfl) ?_ | refine Kept.k0 ?_ | refine Kept.k1 ?_ | refine Kept.k2 ?_ | refine Kept.k3 ?_ | refine Kept.k4 ?_))
            | true =>
              rw [show tlt (fV m.id m.x m.n).1 (fV y.id y.x y.n).1 = true from hlt2] at hgtr
              rw [hlt2, Bool.true_and] at hnext
              by_cases hxy : tm x ≤ tm y
              · rw [decide_eq_true hxy, Bool.not_true, Bool.and_false] at hnext
                repeat' ((conv => whnf); (first | refine Look.cells hrb2 rfl hc2 ?_ | refine Look.cells hmM rfl hmc ?_ | refine Look.cells hxM rfl hxc ?_ | refine c13 ?_ | refine t12 hgx ?_ | refine t12 hgy ?_ | refine Branch.t hgtr ?_ | refine Branch.dt (by omega) ?_ | exact hnext _ _ rfl .mk | refine New.mk (fun _ => ?_) | refine Look.at0 ?_ | refine Cell.row ?_ | refine Cell.buf ?_ | refine Cells.row rfl ?_ | refine Put.row rfl ?_ | refine Put.buf rfl ?_ | refine Look.at1 ?_ | refine Look.at2 ?_ | refine Look.at3 ?_ | refine Look.at4 ?_ | refine Look.at5 ?_ | refine Look.at6 ?_ | refine Look.at7 ?_ | refine Look.at8 ?_ | with_reducible refine Val.i64 (by omega) (by omega) ?_ | with_reducible refine Val.u8 (by omega) (by omega) ?_ | with_reducible refine Val.u32 (by omega) (by omega) ?_ | with_reducible refine Val.u64 (by omega) (by omega) ?_ | with_reducible refine Val.u8m ?_ | with_reducible refine Val.u32m ?_ | with_reducible refine Val.u64m ?_ | with_reducible refine Val.shr8 ?_ | with_reducible refine Val.shr16 (by decide) ?_ | with_reducible refine Val.shr24 (by decide) ?_ | with_reducible refine Val.raw ?_ | refine Branch.not ?_ | refine Branch.and ?_ | refine Branch.or ?_ | refine Branch.dt (by assumption) ?_ | refine Branch.df (by assumption) ?_ | refine Branch.dt rfl ?_ | refine Branch.dt (by omega) ?_ | refine Branch.df (by omega) ?_ | refine Branch.t rfl ?_ | refine Branch.f rfl ?_ | refine Branch.t (by assumption) ?_ | refine Branch.f (by assumption) ?_ | refine Branch.d (fun _ => ?_) (fun _ => ?_) | refine Branch.mk (fun _ => ?_) (fun _ => ?_) | refine Need.mk (by first | omega | decide | rfl) ?_ | refine Idx.nat (by omega) ?_ | refine Idx.auto (by first | omega | decide) (by first | omega | decide) ?_ | refine Cell.ro rfl ?_ | refine SDraw.all (by kernel_rfl) ?_ | refine Kept.k0 ?_ | refine Kept.k1 ?_ | refine Kept.k2 ?_ | refine Kept.k3 ?_ | refine Kept.k4 ?_))
              · rw [decide_eq_false hxy, Bool.not_false, Bool.and_true] at hnext
                repeat' ((conv => whnf); (first | refine Look.cells hrb2 rfl hc2 ?_ | refine Look.cells hmM rfl hmc ?_ | refine Look.cells hxM rfl hxc ?_ | refine c13 ?_ | refine t12 hgx ?_ | refine t12 hgy ?_ | refine Branch.t hgtr ?_ | refine Branch.df (by omega) ?_ | exact hnext _ _ rfl .mk | refine New.mk (fun _ => ?_) | refine Look.at0 ?_ | refine Cell.row ?_ | refine Cell.buf ?_ | refine Cells.row rfl ?_ | refine Put.row rfl ?_ | refine Put.buf rfl ?_ | refine Look.at1 ?_ | refine Look.at2 ?_ | refine Look.at3 ?_ | refine Look.at4 ?_ | refine Look.at5 ?_ | refine Look.at6 ?_ | refine Look.at7 ?_ | refine Look.at8 ?_ | with_reducible refine Val.i64 (by omega) (by omega) ?_ | with_reducible refine Val.u8 (by omega) (by omega) ?_ | with_reducible refine Val.u32 (by omega) (by omega) ?_ | with_reducible refine Val.u64 (by omega) (by omega) ?_ | with_reducible refine Val.u8m ?_ | with_reducible refine Val.u32m ?_ | with_reducible refine Val.u64m ?_ | with_reducible refine Val.shr8 ?_ | with_reducible refine Val.shr16 (by decide) ?_ | with_reducible refine Val.shr24 (by decide) ?_ | with_reducible refine Val.raw ?_ | refine Branch.not ?_ | refine Branch.and ?_ | refine Branch.or ?_ | refine Branch.dt (by assumption) ?_ | refine Branch.df (by assumption) ?_ | refine Branch.dt rfl ?_ | refine Branch.dt (by omega) ?_ | refine Branch.df (by omega) ?_ | refine Branch.t rfl ?_ | refine Branch.f rfl ?_ | refine Branch.t (by assumption) ?_ | refine Branch.f (by assumption) ?_ | refine Branch.d (fun _ => ?_) (fun _ => ?_) | refine Branch.mk (fun _ => ?_) (fun _ => ?_) | refine Need.mk (by first | omega | decide | rfl) ?_ | refine Idx.nat (by omega) ?_ | refine Idx.auto (by first | omega | decide) (by first | omega | decide) ?_ | refine Cell.ro rfl ?_ | refine SDraw.all (by kernel_rfl) ?_ | refine Kept.k0 ?_ | refine Kept.k1 ?_ | refine Kept.k2 ?_ | refine Kept.k3 ?_ | refine Kept.k4 ?_))
          · obtain rfl : j = Le.length := by omega
            rw [List.take_length]
            clear hR
            have hgtr := strGt_of (fV x.id x.x x.n).1 (fV m.id m.x m.n).1
            cases hlt2 : tlt (fld m) (fld x) with
            | false =>
              rw [show tlt (fV m.id m.x m.n).1 (fV x.id x.x x.n).1 = false from hlt2] at hgtr
              repeat' ((conv => whnf); (first | refine Look.cells hmM rfl hmc ?_ | refine Look.cells hxM rfl hxc ?_ | refine c13 ?_ | refine Branch.f hgtr ?_ | refine c10 hDM ?_ | exact Keep.all rfl | refine New.mk (fun _ => ?_) | refine Look.at0 ?_ | refine Cell.row ?_ | refine Cell.buf ?_ | refine Cells.row rfl ?_ | refine Put.row rfl ?_ | refine Put.buf rfl ?_ | refine Look.at1 ?_ | refine Look.at2 ?_ | refine Look.at3 ?_ | refine Look.at4 ?_ | refine Look.at5 ?_ | refine Look.at6 ?_ | refine Look.at7 ?_ | refine Look.at8 ?_ | with_reducible refine Val.i64 (by omega) (by omega) ?_ | with_reducible refine Val.u8 (by omega) (by omega) ?_ | with_reducible refine Val.u32 (by omega) (by omega) ?_ | with_reducible refine Val.u64 (by omega) (by omega) ?_ | with_reducible refine Val.u8m ?_ | with_reducible refine Val.u32m ?_ | with_reducible refine Val.u64m ?_ | with_reducible refine Val.shr8 ?_ | with_reducible refine Val.shr16 (by decide) ?_ | with_reducible refine Val.shr24 (by decide) ?_ | with_reducible refine Val.raw ?_ | refine Branch.not ?_ | refine Branch.and ?_ | refine Branch.or ?_ | refine Branch.dt (by assumption) ?_ | refine Branch.df (by assumption) ?_ | refine Branch.dt rfl ?_ | refine Branch.dt (by omega) ?_ | refine Branch.df (by omega) ?_ | refine Branch.t rfl ?_ | refine Branch.f rfl ?_ | refine Branch.t (by assumption) ?_ | refine Branch.f (by assumption) ?_ | refine Branch.d (fun _ => ?_) (fun _ => ?_) | refine Branch.mk (fun _ => ?_) (fun _ => ?_) | refine Need.mk (by first | omega | decide | rfl) ?_ | refine Idx.nat (by omega) ?_ | refine Idx.auto (by first | omega | decide) (by first | omega | decide) ?_ | refine Cell.ro rfl ?_ | refine SDraw.all (by kernel_rfl) ?_ | refine Kept.k0 ?_ | refine Kept.k1 ?_ | refine Kept.k2 ?_ | refine Kept.k3 ?_ | refine Kept.k4 ?_))
            | true =>
              rw [show tlt (fV m.id m.x m.n).1 (fV x.id x.x x.n).1 = true from hlt2] at hgtr
              cases hlo : lgr Le x m with
              | true =>
                repeat' ((conv => whnf); (first | refine Look.cells hmM rfl hmc ?_ | refine Look.cells hxM rfl hxc ?_ | refine c13 ?_ | refine Branch.t hgtr ?_ | refine Branch.f rfl ?_ | refine c10 hDM ?_ | exact Keep.all rfl | refine New.mk (fun _ => ?_) | refine Look.at0 ?_ | refine Cell.row ?_ | refine Cell.buf ?_ | refine Cells.row rfl ?_ | refine Put.row rfl ?_ | refine Put.buf rfl ?_ | refine Look.at1 ?_ | refine Look.at2 ?_ | refine Look.at3 ?_ | refine Look.at4 ?_ | refine Look.at5 ?_ | refine Look.at6 ?_ | refine Look.at7 ?_ | refine Look.at8 ?_ | with_reducible refine Val.i64 (by omega) (by omega) ?_ | with_reducible refine Val.u8 (by omega) (by omega) ?_ | with_reducible refine Val.u32 (by omega) (by omega) ?_ | with_reducible refine Val.u64 (by omega) (by omega) ?_ | with_reducible refine Val.u8m ?_ | with_reducible refine Val.u32m ?_ | with_reducible refine Val.u64m ?_ | with_reducible refine Val.shr8 ?_ | with_reducible refine Val.shr16 (by decide) ?_ | with_reducible refine Val.shr24 (by decide) ?_ | with_reducible refine Val.raw ?_ | refine Branch.not ?_ | refine Branch.and ?_ | refine Branch.or ?_ | refine Branch.dt (by assumption) ?_ | refine Branch.df (by assumption) ?_ | refine Branch.dt rfl ?_ | refine Branch.dt (by omega) ?_ | refine Branch.df (by omega) ?_ | refine Branch.t rfl ?_ | refine Branch.f rfl ?_ | refine Branch.t (by assumption) ?_ | refine Branch.f (by assumption) ?_ | refine Branch.d (fun _ => ?_) (fun _ => ?_) | refine Branch.mk (fun _ => ?_) (fun _ => ?_) | refine Need.mk (by first | omega | decide | rfl) ?_ | refine Idx.nat (by omega) ?_ | refine Idx.auto (by first | omega | decide) (by first | omega | decide) ?_ | refine Cell.ro rfl ?_ | refine SDraw.all (by kernel_rfl) ?_ | refine Kept.k0 ?_ | refine Kept.k1 ?_ | refine Kept.k2 ?_ | refine Kept.k3 ?_ | refine Kept.k4 ?_))
              | false =>
                have hq := hB hlt2 (lgr_false hlo)
                injection hq with hq1 hq2
                have hvv : (!decide ((v1 : Int) = (u1 : Int))) = false := by simp [hq1]
                repeat' ((conv => whnf); (first | refine Look.cells hmM rfl hmc ?_ | refine Look.cells hxM rfl hxc ?_ | refine c13 ?_ | refine Branch.t hgtr ?_ | refine Branch.f hvv ?_ | refine Branch.f rfl ?_ | refine c10 hDM ?_ | exact Keep.all rfl | refine New.mk (fun _ => ?_) | refine Look.at0 ?_ | refine Cell.row ?_ | refine Cell.buf ?_ | refine Cells.row rfl ?_ | refine Put.row rfl ?_ | refine Put.buf rfl ?_ | refine Look.at1 ?_ | refine Look.at2 ?_ | refine Look.at3 ?_ | refine Look.at4 ?_ | refine Look.at5 ?_ | refine Look.at6 ?_ | refine Look.at7 ?_ | refine Look.at8 ?_ | with_reducible refine Val.i64 (by omega) (by omega) ?_ | with_reducible refine Val.u8 (by omega) (by omega) ?_ | with_reducible refine Val.u32 (by omega) (by omega) ?_ | with_reducible refine Val.u64 (by omega) (by omega) ?_ | with_reducible refine Val.u8m ?_ | with_reducible refine Val.u32m ?_ | with_reducible refine Val.u64m ?_ | with_reducible refine Val.shr8 ?_ | with_reducible refine Val.shr16 (by decide) ?_ | with_reducible refine Val.shr24 (by decide) ?_ | with_reducible refine Val.raw ?_ | refine Branch.not ?_ | refine Branch.and ?_ | refine Branch.or ?_ | refine Branch.dt (by assumption) ?_ | refine Branch.df (by assumption) ?_ | refine Branch.dt rfl ?_ | refine Branch.dt (by omega) ?_ | refine Branch.df (by omega) ?_ | refine Branch.t rfl ?_ | refine Branch.f rfl ?_ | refine Branch.t (by assumption) ?_ | refine Branch.f (by assumption) ?_ | refine Branch.d (fun _ => ?_) (fun _ => ?_) | refine Branch.mk (fun _ => ?_) (fun _ => ?_) | refine Need.mk (by first | omega | decide | rfl) ?_ | refine Idx.nat (by omega) ?_ | refine Idx.auto (by first | omega | decide) (by first | omega | decide) ?_ | refine Cell.ro rfl ?_ | refine SDraw.all (by kernel_rfl) ?_ | refine Kept.k0 ?_ | refine Kept.k1 ?_ | refine Kept.k2 ?_ | refine Kept.k3 ?_ | refine Kept.k4 ?_))
  · have hE0 : (!decide (chk L = 0)) = true := by simp [hc]
    refine enter3 ?_
    repeat' ((conv => whnf); (first | refine c9 (hin.mono fun z hz => by simp only [List.mem_cons, hz, or_true]) hb (fun q c k1 k2 => ?_) | refine h8 _ _ _ _ (hD.mono fun z hz => by simp only [List.mem_cons, hz, or_true]) ?_ | refine Branch.t hE0 ?_ | refine c10 (hD.mono fun z hz => by simp only [List.mem_cons, hz, or_true]) ?_ | exact Keep.all rfl | refine New.mk (fun _ => ?_) | refine Look.at0 ?_ | refine Cell.row ?_ | refine Cell.buf ?_ | refine Cells.row rfl ?_ | refine Put.row rfl ?_ | refine Put.buf rfl ?_ | refine Look.at1 ?_ | refine Look.at2 ?_ | refine Look.at3 ?_ | refine Look.at4 ?_ | refine Look.at5 ?_ | refine Look.at6 ?_ | refine Look.at7 ?_ | refine Look.at8 ?_ | with_reducible refine Val.i64 (by omega) (by omega) ?_ | with_reducible refine Val.u8 (by omega) (by omega) ?_ | with_reducible refine Val.u32 (by omega) (by omega) ?_ | with_reducible refine Val.u64 (by omega) (by omega) ?_ | with_reducible refine Val.u8m ?_ | with_reducible refine Val.u32m ?_ | with_reducible refine Val.u64m ?_ | with_reducible refine Val.shr8 ?_ | with_reducible refine Val.shr16 (by decide) ?_ | with_reducible refine Val.shr24 (by decide) ?_ | with_reducible refine Val.raw ?_ | refine Branch.not ?_ | refine Branch.and ?_ | refine Branch.or ?_ | refine Branch.dt (by assumption) ?_ | refine Branch.df (by assumption) ?_ | refine Branch.dt rfl ?_ | refine Branch.dt (by omega) ?_ | refine Branch.df (by omega) ?_ | refine Branch.t rfl ?_ | refine Branch.f rfl ?_ | refine Branch.t (by assumption) ?_ | refine Branch.f (by assumption) ?_ | refine Branch.d (fun _ => ?_) (fun _ => ?_) | refine Branch.mk (fun _ => ?_) (fun _ => ?_) | refine Need.mk (by first | omega | decide | rfl) ?_ | refine Idx.nat (by omega) ?_ | refine Idx.auto (by first | omega | decide) (by first | omega | decide) ?_ | refine Cell.ro rfl ?_ | refine SDraw.all (by kernel_rfl) ?_ | refine Kept.k0 ?_ | refine Kept.k1 ?_ | refine Kept.k2 ?_ | refine Kept.k3 ?_ | refine Kept.k4 ?_))
end
end Go.Proofs.YtjleekdidedhaaaDoor

/- Layer 25: LoadLeast: no message takes less than its time. -/
set_option linter.unusedVariables false
set_option linter.unusedSimpArgs false
set_option maxRecDepth 100000
set_option maxHeartbeats 4000000
namespace Go.Proofs.YtjleekdidedhaaaDoor
open Sx
/-- What holds of what is told of one (v), that was to be queued at o first. -/
def ZOk (un : Nat) (s : Sr) (o v : Nat) (pend : Prop) : Prop :=
  (o < un → tm s.m ≤ v ∨ s.q < un ∨ pend) ∧ (un ≤ o → v = 0 ∧ un ≤ s.q ∧ ¬ pend) ∧ (v = 0 ∨ tm s.m ≤ v)
def Z (un : Nat) (offs : List Nat) (ss : List Sr) (Q : List Wn) (out : List Nat) : Prop :=
  ∀ (i : Nat) (s : Sr) (o v : Nat), ss[i]? = some s → offs[i]? = some o → out[i]? = some v → ZOk un s o v (∃ x ∈ Q, x.who = i)
theorem Z.takes {un : Nat} {L : List Msg} {offs : List Nat} {ss : List Sr} {Q : List Wn} {now : Nat} {out : List Nat} (hI : PInv un L ss Q now out) (h : Z un offs ss Q out) : Z un offs (ss.map (drS un now)) (Q ++ wants un now 0 ss) out := by
  intro i s o v hs ho hv
  rw [List.getElem?_map] at hs
  cases hs1 : ss[i]? with
  | none => rw [hs1] at hs; cases hs
  | some s1 =>
    rw [hs1] at hs
    injection hs with hs
    subst hs
    obtain ⟨h1, h2, h3⟩ := h i s1 o v hs1 ho hv
    have hw : ∀ a, a ∈ (dr un now s1).1 → (⟨i, fld s1.m, a⟩ : Wn) ∈ wants un now 0 ss := by
      intro a ha
      obtain ⟨hlt, e⟩ := List.getElem?_eq_some_iff.1 hs1
      have hsp : ss = ss.take i ++ s1 :: ss.drop (i + 1) := list_split hs1
      rw [hsp, wants_app]
      refine List.mem_append_right _ (List.mem_append_left _ ?_)
      have : (ss.take i).length = i := by simp; omega
      rw [this, Nat.zero_add]
      exact List.mem_map.2 ⟨a, ha, rfl⟩
    refine ⟨fun ho1 => ?_, fun ho1 => ?_, h3⟩
    · rcases h1 ho1 with h1 | h1 | ⟨x, hx, hxi⟩
      · exact .inl h1
      · by_cases hn : s1.q ≤ now
        · refine .inr (.inr ⟨⟨i, fld s1.m, s1.a⟩, List.mem_append_right _ (hw s1.a ?_), rfl⟩)
          show s1.a ∈ (drF s1.m.p un now (un + 1) s1.a s1.q).1
          rw [drF, if_pos ⟨hn, h1⟩]
          exact .head _
        · refine .inr (.inl ?_)
          show (drF s1.m.p un now (un + 1) s1.a s1.q).2.2 < un
          rw [drF, if_neg (fun h => hn h.1)]
          exact h1
      · exact .inr (.inr ⟨x, List.mem_append_left _ hx, hxi⟩)
    · obtain ⟨g1, g2, g3⟩ := h2 ho1
      have hd : drF s1.m.p un now (un + 1) s1.a s1.q = ([], s1.a, s1.q) := by rw [drF, if_neg (fun h => by have := h.2; omega)]
      refine ⟨g1, ?_, ?_⟩
      · show un ≤ (drF s1.m.p un now (un + 1) s1.a s1.q).2.2
        rw [hd]; exact g2
      · rintro ⟨x, hx, hxi⟩
        rcases List.mem_append.1 hx with hx | hx
        · exact g3 ⟨x, hx, hxi⟩
        · obtain ⟨j, s', e1, e2, _, e4⟩ := mem_wants ss 0 hx
          have hji : j = i := by omega
          subst hji
          rw [hs1] at e1
          injection e1 with e1
          subst e1
          rw [show (dr un now s1).1 = [] from congrArg Prod.fst hd] at e4
          cases e4
theorem Z.runs {un : Nat} {L : List Msg} {offs : List Nat} {ss : List Sr} {Q : List Wn} {now : Nat} {out r : List Nat} (hr : Runs un ss Q now out r) : PInv un L ss Q now out → Z un offs ss Q out →
    r.length = L.length ∧ (∀ v ∈ r, v ≤ 20000000000) ∧ ∀ (i : Nat) (m : Msg) (o v : Nat), L[i]? = some m → offs[i]? = some o → r[i]? = some v → (o < un → tm m ≤ v) ∧ (un ≤ o → v = 0) ∧ (v = 0 ∨ tm m ≤ v) := by
  induction hr with
  | @halt ss Q now out h1 h2 =>
    intro hI hZ
    have hZ1 := hZ.takes hI
    have hI1 := hI.takes
    rw [h1] at hZ1 hI1
    refine ⟨hI.outl, hI.outb, fun i m o v hm ho hv => ?_⟩
    have hms := hI1.ms
    have hx : (ss.map (drS un now))[i]?.map Sr.m = some m := by rw [← List.getElem?_map, hms, hm]
    cases hs : (ss.map (drS un now))[i]? with
    | none => rw [hs] at hx; cases hx
    | some s =>
      rw [hs] at hx
      injection hx with hx
      subst hx
      obtain ⟨g1, g2, g3⟩ := hZ1 i s o v hs ho hv
      refine ⟨fun h => ?_, fun h => (g2 h).1, g3⟩
      rcases g1 h with g1 | g1 | ⟨x, hx, _⟩
      · exact g1
      · exfalso
        have key : ∀ (l : List Sr) (rr : Nat × Bool), (l.foldl (nxtK un) rr).2 = false → rr.2 = false ∧ ∀ s ∈ l, ¬ s.q < un := by
          intro l
          induction l with
          | nil => exact fun rr h => ⟨h, fun s hs => by cases hs⟩
          | cons s l ih =>
            intro rr h
            rw [List.foldl_cons] at h
            obtain ⟨k1, k2⟩ := ih _ h
            unfold nxtK at k1
            by_cases hc : s.q < un ∧ (rr.2 = false ∨ s.q < rr.1)
            · rw [if_pos hc] at k1; cases k1
            · rw [if_neg hc] at k1
              refine ⟨k1, fun s' hs' => ?_⟩
              rcases List.mem_cons.1 hs' with rfl | hs'
              · exact fun h => hc ⟨h, .inl k1⟩
              · exact k2 s' hs'
        exact (key _ _ h2).2 s (List.mem_of_getElem? hs) g1
      · cases hx
  | @wait ss Q now t out r h1 h2 h3 ih =>
    intro hI hZ
    have hZ1 := hZ.takes hI
    have hI1 := hI.takes
    rw [h1] at hZ1 hI1
    exact ih (hI1.wait h2).1 hZ1
  | @go ss Q now out r w s h1 h2 h3 ih =>
    intro hI hZ
    have hZ1 := hZ.takes hI
    have hI1 := hI.takes
    have h2' : (ss.map (drS un now))[w.who]? = some (drS un now s) := by rw [List.getElem?_map, h2]; rfl
    obtain ⟨k1, k2, _⟩ := hI1.go (s := drS un now s) h1 h2'
    refine ih k2 ?_
    intro i s' o v hs ho hv
    have hsub := List.eraseIdx_sublist (Q ++ wants un now 0 ss) (best (Q ++ wants un now 0 ss))
    have hlt := (List.getElem?_eq_some_iff.1 h1).1
    have hpm : (Q ++ wants un now 0 ss).Perm (w :: (Q ++ wants un now 0 ss).eraseIdx (best (Q ++ wants un now 0 ss))) := by
      obtain ⟨hlt, e⟩ := List.getElem?_eq_some_iff.1 h1
      have := perm_erase hlt
      rw [e] at this
      exact this
    by_cases hi : w.who = i
    · subst hi
      rw [h2'] at hs
      injection hs with hs
      subst hs
      have hl2 : w.who < out.length := by
        have := (List.getElem?_eq_some_iff.1 hv).1
        unfold upd at this
        rwa [List.length_set] at this
      have hv0 := List.getElem?_eq_getElem hl2
      generalize out[w.who] = v0 at hv0
      obtain ⟨g1, g2, g3⟩ := hZ1 w.who _ o v0 h2' ho hv0
      have hvv : v = max v0 (now + tm s.m - w.ask) := by
        unfold upd at hv
        rw [List.getElem?_set_self hl2, List.getD_eq_getElem?_getD, hv0] at hv
        injection hv with hv
        exact hv.symm
      have hge : tm s.m ≤ v := by omega
      refine ⟨fun _ => .inl hge, fun h => ?_, .inr hge⟩
      exact absurd ⟨w, List.mem_of_getElem? h1, rfl⟩ (g2 h).2.2
    · have hv1 : out[i]? = some v := by
        unfold upd at hv
        rw [List.getElem?_set_ne hi] at hv
        exact hv
      obtain ⟨g1, g2, g3⟩ := hZ1 i s' o v hs ho hv1
      refine ⟨fun h => ?_, fun h => ⟨(g2 h).1, (g2 h).2.1, fun ⟨x, hx, hxi⟩ => (g2 h).2.2 ⟨x, hsub.subset hx, hxi⟩⟩, g3⟩
      rcases g1 h with g1 | g1 | ⟨x, hx, hxi⟩
      · exact .inl g1
      · exact .inr (.inl g1)
      · refine .inr (.inr ⟨x, ?_, hxi⟩)
        rcases List.mem_cons.1 (hpm.subset hx) with rfl | hx
        · exact absurd hxi hi
        · exact hx
theorem least_play {L : List Msg} {offs r : List Nat} (hG : Goods L) (hlen : offs.length = L.length) (hoff : ∀ (j : Nat) (m : Msg) (o : Nat), L[j]? = some m → offs[j]? = some o → o ≤ m.j) (hr : Runs 1 (start L offs) [] 0 (List.replicate L.length 0) r) :
    r.length = L.length ∧ (∀ v ∈ r, v ≤ 20000000000) ∧ ∀ (i : Nat) (m : Msg) (o v : Nat), L[i]? = some m → offs[i]? = some o → r[i]? = some v → (o < 1 → tm m ≤ v) ∧ (1 ≤ o → v = 0) ∧ (v = 0 ∨ tm m ≤ v) := by
  refine Z.runs hr (start_inv hG hlen (by decide) hoff) (fun i s o v hs ho hv => ?_)
  have hv0 : v = 0 := by
    have := List.mem_of_getElem? hv
    exact List.eq_of_mem_replicate this
  have hq : s.q = o := by
    unfold start at hs
    rw [List.getElem?_zipWith] at hs
    rw [ho] at hs
    cases hm : L[i]? with
    | none => rw [hm] at hs; cases hs
    | some m =>
      rw [hm] at hs
      injection hs with hs
      subst hs
      rfl
  refine ⟨fun h => .inr (.inl (by omega)), fun h => ⟨hv0, by omega, fun ⟨x, hx, _⟩ => by cases hx⟩, .inl hv0⟩
theorem worst_ge {L : List Msg} {m : Msg} (h : (worstS L m).2 = true) : 2 * tm m + m.j ≤ (worstS L m).1 ∧ (worstS L m).1 ≤ m.p := by
  obtain ⟨ws, h1, _, h3, h4⟩ := iter_true _ _ (wB_le _ _ _) h
  have := fold_ge m L (tm m)
  have h5 : tm m ≤ wB L m := this
  unfold worstS
  rw [h3]
  omega
inductive S4a (A0 A1 A5 : Value) : List Value → Prop
  | mk {r2 r3 r4 r6 r7 r8 r9 r10 r11 r12 r13 r14 r15 r16 r17 r18 r19 r20 r21 r22 r23 r24 r25 r26 r27 r28 r29 r30 r31 r32 r33 r34 r35 r36 r37 r38 r39 r40 r41 r42 r43 r44 r45 r46 r47 r48 r49 r50 r51 r52 r53 r54 r55 r56 r57 r58 r59 r60 r61 r62 r63 r64 r65 r66 r67 r68 r69 r70 r71 r72 r73 r74 r75 r76 r77 r78 r79 r80 r81 r82 r83 r84 r85 r86 r87 r88 r89 r90 r91 r92 r93 r94 r95 r96 r97 r98 r99 r100 r101 r102 r103 r104 r105 r106 r107 r108 r109 r110 r111 r112 r113 r114 r115 r116 r117 r118 r119 r120 r121 r122 r123 r124 r125 : Value} : S4a A0 A1 A5 [A0, A1, r2, r3, r4, A5, r6, r7, r8, r9, r10, r11, r12, r13, r14, r15, r16, r17, r18, r19, r20, r21, r22, r23, r24, r25, r26, r27, r28, r29, r30, r31, r32, r33, r34, r35, r36, r37, r38, r39, r40, r41, r42, r43, r44, r45, r46, r47, r48, r49, r50, r51, r52, r53, r54, r55, r56, r57, r58, r59, r60, r61, r62, r63, r64, r65, r66, r67, r68, r69, r70, r71, r72, r73, r74, r75, r76, r77, r78, r79, r80, r81, r82, r83, r84, r85, r86, r87, r88, r89, r90, r91, r92, r93, r94, r95, r96, r97, r98, r99, r100, r101, r102, r103, r104, r105, r106, r107, r108, r109, r110, r111, r112, r113, r114, r115, r116, r117, r118, r119, r120, r121, r122, r123, r124, r125]
inductive S4b (A0 A1 A11 A13 : Value) : List Value → Prop
  | mk {r2 r3 r4 r5 r6 r7 r8 r9 r10 r12 r14 r15 r16 r17 r18 r19 r20 r21 r22 r23 r24 r25 r26 r27 r28 r29 r30 r31 r32 r33 r34 r35 r36 r37 r38 r39 r40 r41 r42 r43 r44 r45 r46 r47 r48 r49 r50 r51 r52 r53 r54 r55 r56 r57 r58 r59 r60 r61 r62 r63 r64 r65 r66 r67 r68 r69 r70 r71 r72 r73 r74 r75 r76 r77 r78 r79 r80 r81 r82 r83 r84 r85 r86 r87 r88 r89 r90 r91 r92 r93 r94 r95 r96 r97 r98 r99 r100 r101 r102 r103 r104 r105 r106 r107 r108 r109 r110 r111 r112 r113 r114 r115 r116 r117 r118 r119 r120 r121 r122 r123 r124 r125 : Value} : S4b A0 A1 A11 A13 [A0, A1, r2, r3, r4, r5, r6, r7, r8, r9, r10, A11, r12, A13, r14, r15, r16, r17, r18, r19, r20, r21, r22, r23, r24, r25, r26, r27, r28, r29, r30, r31, r32, r33, r34, r35, r36, r37, r38, r39, r40, r41, r42, r43, r44, r45, r46, r47, r48, r49, r50, r51, r52, r53, r54, r55, r56, r57, r58, r59, r60, r61, r62, r63, r64, r65, r66, r67, r68, r69, r70, r71, r72, r73, r74, r75, r76, r77, r78, r79, r80, r81, r82, r83, r84, r85, r86, r87, r88, r89, r90, r91, r92, r93, r94, r95, r96, r97, r98, r99, r100, r101, r102, r103, r104, r105, r106, r107, r108, r109, r110, r111, r112, r113, r114, r115, r116, r117, r118, r119, r120, r121, r122, r123, r124, r125]
section
variable {K : Value → Heap → Prop} {H : Heap} {sv ov : Value} {L : List Msg} {offs : List Nat}
def I4a (sv ov : Value) (L : List Msg) (H : Heap) (k : Nat) (S : List Value) (H' : Heap) : Prop :=
  k ≤ L.length ∧ S4a sv ov (.int .i64 (k : Int)) S ∧ H' = H
def I4b (sv ov pv : Value) (L : List Msg) (H : Heap) (k : Nat) (S : List Value) (H' : Heap) : Prop :=
  k ≤ L.length ∧ S4b sv ov pv (.int .i64 (k : Int)) S ∧ H' = H
theorem least_c (hD : Db H) (hin : InS mC 5 sv H L) (hb : L.length * 32 ≤ 140737488355328) (hwf : ∀ m ∈ L, m.wf) (hof : InS fU 1 ov H offs) (hbo : offs.length * 8 ≤ 140737488355328) : SCalls Tryd.prog 4 [sv, ov] H fun v _ => v = .bool true := by
  obtain ⟨sa, sc, rfl, hml⟩ := hin.sv
  obtain ⟨oa, oc, rfl, hol⟩ := hof.sv
  have hml2 : L.length ≤ 4398046511104 := by omega
  have h8 : ∀ (q c : Nat) (X : Heap) (K2 : Value → Heap → Prop), Db X → K2 (.int .i64 (chk L)) (bufR q c L :: X) → SCalls Tryd.prog 8 [.slice (some ⟨q, 0, none⟩) L.length c] (bufR q c L :: X) K2 := fun q c X K2 h1 h2 => c8 (h1.mono fun _ hz => .tail _ hz) (buf_in hml) hwf h2
  by_cases hc : chk L = 0
  · rw [hc] at h8
    have hG := goods_of hwf hc
    have h64 := hG.len
    by_cases hl0 : L.length = 0
    · refine enter4 ?_
      repeat' ((conv => whnf); (first | refine c9 (hin.mono fun z hz => by simp only [List.mem_cons, hz, or_true]) hb (fun q c k1 k2 => ?_) | refine h8 _ _ _ _ (hD.mono fun z hz => by simp only [List.mem_cons, hz, or_true]) ?_ | refine Branch.f rfl ?_ | refine Branch.dt (by omega) ?_ | refine c10 (hD.mono fun z hz => by simp only [List.mem_cons, hz, or_true]) ?_ | exact Keep.all rfl | refine New.mk (fun _ => ?_) | refine Look.at0 ?_ | refine Cell.row ?_ | refine Cell.buf ?_ | refine Cells.row rfl ?_ | refine Put.row rfl ?_ | refine Put.buf rfl ?_ | refine Look.at1 ?_ | refine Look.at2 ?_ | refine Look.at3 ?_ | refine Look.at4 ?_ | refine Look.at5 ?_ | refine Look.at6 ?_ | refine Look.at7 ?_ | refine Look.at8 ?_ | with_reducible refine Val.i64 (by omega) (by omega) ?_ | with_reducible refine Val.u8 (by omega) (by omega) ?_ | with_reducible refine Val.u32 (by omega) (by omega) ?_ | with_reducible refine Val.u64 (by omega) (by omega) ?_ | with_reducible refine Val.u8m ?_ | with_reducible refine Val.u32m ?_ | with_reducible refine Val.u64m ?_ | with_reducible refine Val.shr8 ?_ | with_reducible refine Val.shr16 (by decide) ?_ | with_reducible refine Val.shr24 (by decide) ?_ | with_reducible refine Val.raw ?_ | refine Branch.not ?_ | refine Branch.and ?_ | refine Branch.or ?_ | refine Branch.dt (by assumption) ?_ | refine Branch.df (by assumption) ?_ | refine Branch.dt rfl ?_ | refine Branch.dt (by omega) ?_ | refine Branch.df (by omega) ?_ | refine Branch.t rfl ?_ | refine Branch.f rfl ?_ | refine Branch.t (by assumption) ?_ | refine Branch.f (by assumption) ?_ | refine Branch.d (fun _ => ?_) (fun _ => ?_) | refine Branch.mk (fun _ => ?_) (fun _ => ?_) | refine Need.mk (by first | omega | decide | rfl) ?_ | refine Idx.nat (by omega) ?_ | refine Idx.auto (by first | omega | decide) (by first | omega | decide) ?_ | refine Cell.ro rfl ?_ | refine SDraw.all (by kernel_rfl) ?_ | refine Kept.k0 ?_ | refine Kept.k1 ?_ | refine Kept.k2 ?_ | refine Kept.k3 ?_ | refine Kept.k4 ?_))
    · have hl0' : ¬ (L.length : Int) = 0 := by omega
      refine enter4 ?_
      repeat' ((conv => whnf); (first | refine c9 (hin.mono fun z hz => by simp only [List.mem_cons, hz, or_true]) hb (fun q c k1 k2 => ?_) | refine h8 _ _ _ _ (hD.mono fun z hz => by simp only [List.mem_cons, hz, or_true]) ?_ | refine Branch.f rfl ?_ | refine Branch.df hl0' ?_ | refine New.mk (fun _ => ?_) | refine Look.at0 ?_ | refine Cell.row ?_ | refine Cell.buf ?_ | refine Cells.row rfl ?_ | refine Put.row rfl ?_ | refine Put.buf rfl ?_ | refine Look.at1 ?_ | refine Look.at2 ?_ | refine Look.at3 ?_ | refine Look.at4 ?_ | refine Look.at5 ?_ | refine Look.at6 ?_ | refine Look.at7 ?_ | refine Look.at8 ?_ | with_reducible refine Val.i64 (by omega) (by omega) ?_ | with_reducible refine Val.u8 (by omega) (by omega) ?_ | with_reducible refine Val.u32 (by omega) (by omega) ?_ | with_reducible refine Val.u64 (by omega) (by omega) ?_ | with_reducible refine Val.u8m ?_ | with_reducible refine Val.u32m ?_ | with_reducible refine Val.u64m ?_ | with_reducible refine Val.shr8 ?_ | with_reducible refine Val.shr16 (by decide) ?_ | with_reducible refine Val.shr24 (by decide) ?_ | with_reducible refine Val.raw ?_ | refine Branch.not ?_ | refine Branch.and ?_ | refine Branch.or ?_ | refine Branch.dt (by assumption) ?_ | refine Branch.df (by assumption) ?_ | refine Branch.dt rfl ?_ | refine Branch.dt (by omega) ?_ | refine Branch.df (by omega) ?_ | refine Branch.t rfl ?_ | refine Branch.f rfl ?_ | refine Branch.t (by assumption) ?_ | refine Branch.f (by assumption) ?_ | refine Branch.d (fun _ => ?_) (fun _ => ?_) | refine Branch.mk (fun _ => ?_) (fun _ => ?_) | refine Need.mk (by first | omega | decide | rfl) ?_ | refine Idx.nat (by omega) ?_ | refine Idx.auto (by first | omega | decide) (by first | omega | decide) ?_ | refine Cell.ro rfl ?_ | refine SDraw.all (by kernel_rfl) ?_ | refine Kept.k0 ?_ | refine Kept.k1 ?_ | refine Kept.k2 ?_ | refine Kept.k3 ?_ | refine Kept.k4 ?_))
      refine SLoop.invA (I4a (.slice sa L.length sc) (.slice oa offs.length oc) L H) (fun k => L.length - k) 0 (Keep.d1 ⟨Nat.zero_le _, .mk, rfl⟩) ?_
      rintro k S H' ⟨hk, hS, rfl⟩ R hR
      cases hS
      by_cases hlt : k < L.length
      · obtain ⟨y, hx, hdrop, htake⟩ := list_at hlt
        obtain ⟨r2, o2, c2, b2, e1, hrb2, hc2⟩ := inS_at hin (fun _ => rfl) hx
        injection e1 with e1 _ e3
        subst e1
        have hgy := hG.good y (List.mem_of_getElem? hx)
        have hyt := hgy.tm
        have hyj := hgy.j
        have hyp2 := hgy.p2
        have hd4 := hc2 4 _ rfl
        have hwg := worst_ge (L := L) (m := y)
        have h11 : ∀ (q c : Nat) (X : Heap) (K2 : Value → Heap → Prop), (∀ z ∈ H', z ∈ X) → K2 (.tuple ⟨[.int .u64 ((worstS L y).1 : Int), .bool (worstS L y).2, .int .i64 0]⟩) (bufR q c L :: X) → SCalls Tryd.prog 11 [.slice (some ⟨q, 0, none⟩) L.length c, .int .i64 (k : Int)] (bufR q c L :: X) K2 := fun q c X K2 h1 h2 => c11 (hD.mono fun _ hz => .tail _ (h1 _ hz)) (buf_in hml) hG hwf hc hx h2
        have hnext := fun S (z1 : Nat × Blk) (hS : S4a (.slice (some ⟨r2, o2, none⟩) L.length sc) (.slice oa offs.length oc) (.int .i64 ((k + 1 : Nat) : Int)) S) => hR (k + 1) S (z1 :: H') (by omega) (Keep.d1 ⟨by omega, hS, rfl⟩)
        clear hR
        generalize worstS L y = W at *
        obtain ⟨v1, b1⟩ := W
        dsimp only at hwg h11
        cases b1 with
        | true =>
          have hw := (hwg rfl).1
          repeat' ((conv => whnf); (first | refine Look.cells hrb2 rfl hc2 ?_ | refine Look.cell (.tail _ hrb2) hd4 ?_ | refine c14 hD hgy ?_ | refine c9 hin hb (fun q c k1 k2 => ?_) | refine h11 _ _ _ _ (fun z hz => hz) ?_ | refine Branch.df (by omega) ?_ | exact hnext _ _ .mk | refine New.mk (fun _ => ?_) | refine Look.at0 ?_ | refine Cell.row ?_ | refine Cell.buf ?_ | refine Cells.row rfl ?_ | refine Put.row rfl ?_ | refine Put.buf rfl ?_ | refine Look.at1 ?_ | refine Look.at2 ?_ | refine Look.at3 ?_ | refine Look.at4 ?_ | refine Look.at5 ?_ | refine Look.at6 ?_ | refine Look.at7 ?_ | refine Look.at8 ?_ | with_reducible refine Val.i64 (by omega) (by omega) ?_ | with_reducible refine Val.u8 (by omega) (by omega) ?_ | with_reducible refine Val.u32 (by omega) (by omega) ?_ | with_reducible refine Val.u64 (by omega) (by omega) ?_ | with_reducible refine Val.u8m ?_ | with_reducible refine Val.u32m ?_ | with_reducible refine Val.u64m ?_ | with_reducible refine Val.shr8 ?_ | with_reducible refine Val.shr16 (by decide) ?_ | with_reducible refine Val.shr24 (by decide) ?_ | with_reducible refine Val.raw ?_ | refine Branch.not ?_ | refine Branch.and ?_ | refine Branch.or ?_ | refine Branch.dt (by assumption) ?_ | refine Branch.df (by assumption) ?_ | refine Branch.dt rfl ?_ | refine Branch.dt (by omega) ?_ | refine Branch.df (by omega) ?_ | refine Branch.t rfl ?_ | refine Branch.f rfl ?_ | refine Branch.t (by assumption) ?_ | refine Branch.f (by assumption) ?_ | refine Branch.d (fun _ => ?_) (fun _ => ?_) | refine Branch.mk (fun _ => ?_) (fun _ => ?_) | refine Need.mk (by first | omega | decide | rfl) ?_ | refine Idx.nat (by omega) ?_ | refine Idx.auto (by first | omega | decide) (by first | omega | decide) ?_ | refine Cell.ro rfl ?_ | refine SDraw.all (by kernel_rfl) ?_ | refine Kept.k0 ?_ | refine Kept.k1 ?_ | refine Kept.k2 ?_ | refine Kept.k3 ?_ | refine Kept.k4 ?_))
        | false =>
          repeat' ((conv => whnf); (first | refine Look.cells hrb2 rfl hc2 ?_ | refine Look.cell (.tail _ hrb2) hd4 ?_ | refine c14 hD hgy ?_ | refine c9 hin hb (fun q c k1 k2 => ?_) | refine h11 _ _ _ _ (fun z hz => hz) ?_ | refine Branch.df (by omega) ?_ | exact hnext _ _ .mk | refine New.mk (fun _ => ?_) | refine Look.at0 ?_ | refine Cell.row ?_ | refine Cell.buf ?_ | refine Cells.row rfl ?_ | refine Put.row rfl ?_ | refine Put.buf rfl ?_ | refine Look.at1 ?_ | refine Look.at2 ?_ | refine Look.at3 ?_ | refine Look.at4 ?_ | refine Look.at5 ?_ | refine Look.at6 ?_ | refine Look.at7 ?_ | refine Look.at8 ?_ | with_reducible refine Val.i64 (by omega) (by omega) ?_ | with_reducible refine Val.u8 (by omega) (by omega) ?_ | with_reducible refine Val.u32 (by omega) (by omega) ?_ | with_reducible refine Val.u64 (by omega) (by omega) ?_ | with_reducible refine Val.u8m ?_ | with_reducible refine Val.u32m ?_ | with_reducible refine Val.u64m ?_ | with_reducible refine Val.shr8 ?_ | with_reducible refine Val.shr16 (by decide) ?_ | with_reducible refine Val.shr24 (by decide) ?_ | with_reducible refine Val.raw ?_ | refine Branch.not ?_ | refine Branch.and ?_ | refine Branch.or ?_ | refine Branch.dt (by assumption) ?_ | refine Branch.df (by assumption) ?_ | refine Branch.dt rfl ?_ | refine Branch.dt (by omega) ?_ | refine Branch.df (by omega) ?_ | refine Branch.t rfl ?_ | refine Branch.f rfl ?_ | refine Branch.t (by assumption) ?_ | refine Branch.f (by assumption) ?_ | refine Branch.d (fun _ => ?_) (fun _ => ?_) | refine Branch.mk (fun _ => ?_) (fun _ => ?_) | refine Need.mk (by first | omega | decide | rfl) ?_ | refine Idx.nat (by omega) ?_ | refine Idx.auto (by first | omega | decide) (by first | omega | decide) ?_ | refine Cell.ro rfl ?_ | refine SDraw.all (by kernel_rfl) ?_ | refine Kept.k0 ?_ | refine Kept.k1 ?_ | refine Kept.k2 ?_ | refine Kept.k3 ?_ | refine Kept.k4 ?_))
      · obtain rfl : k = L.length := by omega
        clear hR
        have hcp : ∀ p q c (o : Oper) (xs xx : Operand) (K2 : Value → Heap → Prop), o.op = .call { callee := .builtin .append, args := #[xs, xx], argTypes := #[36, 36] } → (∀ q2 c2, K2 (.slice (some ⟨q2, 0, none⟩) offs.length c2) ((q2, .buf 28 (offs.flatMap fU) (c2 * 1)) :: bufR q c L :: H')) → RawV Tryd.prog o [.slice (some ⟨p, 0, none⟩) 0 0, .slice oa offs.length oc] ((p, .row 28 [] (0, 0)) :: bufR q c L :: H') K2 :=
          fun p q c o xs xx K2 ho hk => RawV.copyS (bytes := 8) (hof.mono fun z hz => .tail _ hz) ho (by kernel_rfl) (by decide) (fun _ => rfl) (fun x u hu => by obtain rfl := List.mem_singleton.1 hu; rfl) hbo (fun q2 c2 _ _ => hk q2 c2)
        have hofb : ∀ q2 c2 (X : Heap), InS fU 1 (.slice (some ⟨q2, 0, none⟩) offs.length c2) ((q2, .buf 28 (offs.flatMap fU) (c2 * 1)) :: X) offs := fun q2 c2 X => InS.buf (.head _) rfl (fun _ => rfl) hol
        have herr : (offs.length ≠ L.length ∨ ∃ (j : Nat) (m : Msg) (o : Nat), L[j]? = some m ∧ offs[j]? = some o ∧ m.j < o) → ∀ q c q2 c2 (K2 : Value → Heap → Prop), K2 (.tuple ⟨[.slice none 0 0, .int .i64 1]⟩) ((q2, .buf 28 (offs.flatMap fU) (c2 * 1)) :: bufR q c L :: H') → SCalls Tryd.prog 15 [.slice (some ⟨q, 0, none⟩) L.length c, .slice (some ⟨q2, 0, none⟩) offs.length c2, .int .u64 1] ((q2, .buf 28 (offs.flatMap fU) (c2 * 1)) :: bufR q c L :: H') K2 := by
          intro hbad q c q2 c2 K2 hk
          by_cases hl : offs.length = L.length
          · refine c15 (un := 1) (L := L) (offs := offs) (hD.mono fun z hz => .tail _ (.tail _ hz)) ((buf_in hml).mono fun z hz => .tail _ hz) hG hwf hc (hofb _ _ _) hl (by decide) (fun hall => ?_) (fun _ => hk)
            rcases hbad with h | ⟨j, m, o, h1, h2, h3⟩
            · exact absurd hl h
            · have := hall j m o h1 h2
              omega
          · exact c15l (un := 1) (L := L) (offs := offs) (hD.mono fun z hz => .tail _ (.tail _ hz)) ((buf_in hml).mono fun z hz => .tail _ hz) hwf hc (hofb _ _ _) (.inl hl) hk
        by_cases hbad : offs.length ≠ L.length ∨ ∃ (j : Nat) (m : Msg) (o : Nat), L[j]? = some m ∧ offs[j]? = some o ∧ m.j < o
        · have h15 := herr hbad
          clear herr
          repeat' ((conv => whnf); (first | refine c9 hin hb (fun q c k1 k2 => ?_) | refine hcp _ _ _ _ _ _ _ rfl (fun q2 c2 => ?_) | refine h15 _ _ _ _ _ ?_ | refine Branch.t rfl ?_ | refine c10 (hD.mono fun z hz => by simp only [List.mem_cons, hz, or_true]) ?_ | exact Keep.all rfl | refine New.mk (fun _ => ?_) | refine Look.at0 ?_ | refine Cell.row ?_ | refine Cell.buf ?_ | refine Cells.row rfl ?_ | refine Put.row rfl ?_ | refine Put.buf rfl ?_ | refine Look.at1 ?_ | refine Look.at2 ?_ | refine Look.at3 ?_ | refine Look.at4 ?_ | refine Look.at5 ?_ | refine Look.at6 ?_ | refine Look.at7 ?_ | refine Look.at8 ?_ | with_reducible refine Val.i64 (by omega) (by omega) ?_ | with_reducible refine Val.u8 (by omega) (by omega) ?_ | with_reducible refine Val.u32 (by omega) (by omega) ?_ | with_reducible refine Val.u64 (by omega) (by omega) ?_ | with_reducible refine Val.u8m ?_ | with_reducible refine Val.u32m ?_ | with_reducible refine Val.u64m ?_ | with_reducible refine Val.shr8 ?_ | with_reducible refine Val.shr16 (by decide) ?_ | with_reducible refine Val.shr24 (by decide) ?_ | with_reducible refine Val.raw ?_ | refine Branch.not ?_ | refine Branch.and ?_ | refine Branch.or ?_ | refine Branch.dt (by assumption) ?_ | refine Branch.df (by assumption) ?_ | refine Branch.dt rfl ?_ | refine Branch.dt (by omega) ?_ | refine Branch.df (by omega) ?_ | refine Branch.t rfl ?_ | refine Branch.f rfl ?_ | refine Branch.t (by assumption) ?_ | refine Branch.f (by assumption) ?_ | refine Branch.d (fun _ => ?_) (fun _ => ?_) | refine Branch.mk (fun _ => ?_) (fun _ => ?_) | refine Need.mk (by first | omega | decide | rfl) ?_ | refine Idx.nat (by omega) ?_ | refine Idx.auto (by first | omega | decide) (by first | omega | decide) ?_ | refine Cell.ro rfl ?_ | refine SDraw.all (by kernel_rfl) ?_ | refine Kept.k0 ?_ | refine Kept.k1 ?_ | refine Kept.k2 ?_ | refine Kept.k3 ?_ | refine Kept.k4 ?_))
        · clear herr
          have hlen : offs.length = L.length := Classical.byContradiction fun h => hbad (.inl h)
          have hall : ∀ (j : Nat) (m : Msg) (o : Nat), L[j]? = some m → offs[j]? = some o → o ≤ m.j := fun j m o h1 h2 => Nat.le_of_not_lt fun h => hbad (.inr ⟨j, m, o, h1, h2, h⟩)
          have h15 : ∀ q c q2 c2 (K2 : Value → Heap → Prop), (∀ r ob, Runs 1 (start L offs) [] 0 (List.replicate L.length 0) r → K2 (.tuple ⟨[.slice (some ⟨ob, 0, none⟩) L.length L.length, .int .i64 0]⟩) ((ob, .buf 28 (r.map u64) L.length) :: (q2, .buf 28 (offs.flatMap fU) (c2 * 1)) :: bufR q c L :: H')) → SCalls Tryd.prog 15 [.slice (some ⟨q, 0, none⟩) L.length c, .slice (some ⟨q2, 0, none⟩) offs.length c2, .int .u64 1] ((q2, .buf 28 (offs.flatMap fU) (c2 * 1)) :: bufR q c L :: H') K2 :=
            fun q c q2 c2 K2 hk => c15 (un := 1) (L := L) (offs := offs) (hD.mono fun z hz => .tail _ (.tail _ hz)) ((buf_in hml).mono fun z hz => .tail _ hz) hG hwf hc (hofb _ _ _) hlen (by decide) (fun _ r ob hr => hk r ob hr) (fun ⟨j, m, o, h1, h2, h3⟩ => absurd (hall j m o h1 h2) (by omega))
          have hll : (!decide ((L.length : Int) = (L.length : Int))) = false := by simp
          repeat' ((conv => whnf); (first | refine c9 hin hb (fun q c k1 k2 => ?_) | refine hcp _ _ _ _ _ _ _ rfl (fun q2 c2 => ?_) | refine h15 _ _ _ _ _ (fun r ob hr => ?_) | refine Branch.f rfl ?_ | refine Branch.f hll ?_ | refine Branch.not (Branch.dt (by omega) ?_) | refine New.mk (fun _ => ?_) | refine Look.at0 ?_ | refine Cell.row ?_ | refine Cell.buf ?_ | refine Cells.row rfl ?_ | refine Put.row rfl ?_ | refine Put.buf rfl ?_ | refine Look.at1 ?_ | refine Look.at2 ?_ | refine Look.at3 ?_ | refine Look.at4 ?_ | refine Look.at5 ?_ | refine Look.at6 ?_ | refine Look.at7 ?_ | refine Look.at8 ?_ | with_reducible refine Val.i64 (by omega) (by omega) ?_ | with_reducible refine Val.u8 (by omega) (by omega) ?_ | with_reducible refine Val.u32 (by omega) (by omega) ?_ | with_reducible refine Val.u64 (by omega) (by omega) ?_ | with_reducible refine Val.u8m ?_ | with_reducible refine Val.u32m ?_ | with_reducible refine Val.u64m ?_ | with_reducible refine Val.shr8 ?_ | with_reducible refine Val.shr16 (by decide) ?_ | with_reducible refine Val.shr24 (by decide) ?_ | with_reducible refine Val.raw ?_ | refine Branch.not ?_ | refine Branch.and ?_ | refine Branch.or ?_ | refine Branch.dt (by assumption) ?_ | refine Branch.df (by assumption) ?_ | refine Branch.dt rfl ?_ | refine Branch.dt (by omega) ?_ | refine Branch.df (by omega) ?_ | refine Branch.t rfl ?_ | refine Branch.f rfl ?_ | refine Branch.t (by assumption) ?_ | refine Branch.f (by assumption) ?_ | refine Branch.d (fun _ => ?_) (fun _ => ?_) | refine Branch.mk (fun _ => ?_) (fun _ => ?_) | refine Need.mk (by first | omega | decide | rfl) ?_ | refine Idx.nat (by omega) ?_ | refine Idx.auto (by first | omega | decide) (by first | omega | decide) ?_ | refine Cell.ro rfl ?_ | refine SDraw.all (by kernel_rfl) ?_ | refine Kept.k0 ?_ | refine Kept.k1 ?_ | refine Kept.k2 ?_ | refine Kept.k3 ?_ | refine Kept.k4 ?_))
          rename_i r ob hr
          obtain ⟨hrl, hrb, hres⟩ := least_play hG hlen hall hr
          refine SLoop.keep (Keep.glue [[(ob, .buf 28 (r.map u64) L.length)], [_, _], H'] [0, 1, 2] [0, 2] [1] (by decide) rfl ?_)
          show SLoop Tryd.prog _ _ _ ((ob, .buf 28 (r.map u64) L.length) :: H')
          refine SLoop.invA (I4b (.slice sa L.length sc) (.slice oa offs.length oc) (.slice (some ⟨ob, 0, none⟩) L.length L.length) L ((ob, .buf 28 (r.map u64) L.length) :: H')) (fun k => L.length - k) 0 (Keep.all ⟨Nat.zero_le _, .mk, rfl⟩) ?_
          rintro k S H2 ⟨hk, hS, rfl⟩ R hR
          cases hS
          by_cases hlt : k < L.length
          · obtain ⟨y, hx, hdrop, htake⟩ := list_at hlt
            obtain ⟨r2, o2, c2, b2, e1, hrb2, hc2⟩ := inS_at hin (fun _ => rfl) hx
            injection e1 with e1 _ e3
            subst e1
            obtain ⟨of, hof1⟩ : ∃ of, offs[k]? = some of := ⟨_, List.getElem?_eq_getElem (by omega)⟩
            obtain ⟨o3, oo, c3, b3, e2, hob, hoc⟩ := hof.at1 hof1 rfl
            injection e2 with e2 _ e4
            subst e2
            obtain ⟨v, hv⟩ : ∃ v, r[k]? = some v := ⟨_, List.getElem?_eq_getElem (by omega)⟩
            have hgy := hG.good y (List.mem_of_getElem? hx)
            have hyt := hgy.tm
            obtain ⟨z1, z2, z3⟩ := hres k y of v hx hof1 hv
            have hvb := hrb v (List.mem_of_getElem? hv)
            have hvc : (Blk.buf 28 (r.map u64) L.length).cell (0 + k * 1) = some (.int .u64 (v : Int)) := by
              show (r.map u64)[0 + k * 1]? = _
              rw [Nat.zero_add, Nat.mul_one, List.getElem?_map, hv]; rfl
            have hD2 : Db ((ob, .buf 28 (r.map u64) L.length) :: H') := hD.mono fun z hz => .tail _ hz
            have hnext := fun S (hS : S4b (.slice (some ⟨r2, o2, none⟩) L.length sc) (.slice (some ⟨o3, oo, none⟩) offs.length oc) (.slice (some ⟨ob, 0, none⟩) L.length L.length) (.int .i64 ((k + 1 : Nat) : Int)) S) => hR (k + 1) S _ (by omega) (Keep.all ⟨by omega, hS, rfl⟩)
            clear hR
            by_cases ho : of = 0
            · have hge := z1 (by omega)
              subst ho
              have hee : decide (((0 : Nat) : Int) = 0) = decide (0 < (v : Int)) := by
                rw [decide_eq_true (show ((0 : Nat) : Int) = 0 from rfl), decide_eq_true (show 0 < (v : Int) by omega)]
              repeat' ((conv => whnf); (first | refine Branch.dt hee ?_ | refine Look.cells (.tail _ hrb2) rfl hc2 ?_ | refine Look.cell (.tail _ hob) hoc ?_ | refine Look.cell (.head _) hvc ?_ | refine c14 hD2 hgy ?_ | refine Branch.dt (by omega) ?_ | refine Branch.df (by omega) ?_ | exact hnext _ .mk | refine New.mk (fun _ => ?_) | refine Look.at0 ?_ | refine Cell.row ?_ | refine Cell.buf ?_ | refine Cells.row rfl ?_ | refine Put.row rfl ?_ | refine Put.buf rfl ?_ | refine Look.at1 ?_ | refine Look.at2 ?_ | refine Look.at3 ?_ | refine Look.at4 ?_ | refine Look.at5 ?_ | refine Look.at6 ?_ | refine Look.at7 ?_ | refine Look.at8 ?_ | with_reducible refine Val.i64 (by omega) (by omega) ?_ | with_reducible refine Val.u8 (by omega) (by omega) ?_ | with_reducible refine Val.u32 (by omega) (by omega) ?_ | with_reducible refine Val.u64 (by omega) (by omega) ?_ | with_reducible refine Val.u8m ?_ | with_reducible refine Val.u32m ?_ | with_reducible refine Val.u64m ?_ | with_reducible refine Val.shr8 ?_ | with_reducible refine Val.shr16 (by decide) ?_ | with_reducible refine Val.shr24 (by decide) ?_ | with_reducible refine Val.raw ?_ | refine Branch.not ?_ | refine Branch.and ?_ | refine Branch.or ?_ | refine Branch.dt (by assumption) ?_ | refine Branch.df (by assumption) ?_ | refine Branch.dt rfl ?_ | refine Branch.dt (by omega) ?_ | refine Branch.df (by omega) ?_ | refine Branch.t rfl ?_ | refine Branch.f rfl ?_ | refine Branch.t (by assumption) ?_ | refine Branch.f (by assumption) ?_ | refine Branch.d (fun _ => ?_) (fun _ => ?_) | refine Branch.mk (fun _ => ?_) (fun _ => ?_) | refine Need.mk (by first | omega | decide | rfl) ?_ | refine Idx.nat (by omega) ?_ | refine Idx.auto (by first | omega | decide) (by first | omega | decide) ?_ | refine Cell.ro rfl ?_ | refine SDraw.all (by kernel_rfl) ?_ | refine Kept.k0 ?_ | refine Kept.k1 ?_ | refine Kept.k2 ?_ | refine Kept.k3 ?_ | refine Kept.k4 ?_))
            · obtain rfl := z2 (by omega)
              have ho' : ¬ (of : Int) = 0 := by omega
              have hee : decide ((of : Int) = 0) = decide (0 < ((0 : Nat) : Int)) := by
                rw [decide_eq_false ho', decide_eq_false (show ¬ 0 < ((0 : Nat) : Int) by omega)]
              repeat' ((conv => whnf); (first | refine Branch.dt hee ?_ | refine Look.cells (.tail _ hrb2) rfl hc2 ?_ | refine Look.cell (.tail _ hob) hoc ?_ | refine Look.cell (.head _) hvc ?_ | refine c14 hD2 hgy ?_ | refine Branch.df (by omega) ?_ | refine Branch.dt (by omega) ?_ | exact hnext _ .mk | refine New.mk (fun _ => ?_) | refine Look.at0 ?_ | refine Cell.row ?_ | refine Cell.buf ?_ | refine Cells.row rfl ?_ | refine Put.row rfl ?_ | refine Put.buf rfl ?_ | refine Look.at1 ?_ | refine Look.at2 ?_ | refine Look.at3 ?_ | refine Look.at4 ?_ | refine Look.at5 ?_ | refine Look.at6 ?_ | refine Look.at7 ?_ | refine Look.at8 ?_ | with_reducible refine Val.i64 (by omega) (by omega) ?_ | with_reducible refine Val.u8 (by omega) (by omega) ?_ | with_reducible refine Val.u32 (by omega) (by omega) ?_ | with_reducible refine Val.u64 (by omega) (by omega) ?_ | with_reducible refine Val.u8m ?_ | with_reducible refine Val.u32m ?_ | with_reducible refine Val.u64m ?_ | with_reducible refine Val.shr8 ?_ | with_reducible refine Val.shr16 (by decide) ?_ | with_reducible refine Val.shr24 (by decide) ?_ | with_reducible refine Val.raw ?_ | refine Branch.not ?_ | refine Branch.and ?_ | refine Branch.or ?_ | refine Branch.dt (by assumption) ?_ | refine Branch.df (by assumption) ?_ | refine Branch.dt rfl ?_ | refine Branch.dt (by omega) ?_ | refine Branch.df (by omega) ?_ | refine Branch.t rfl ?_ | refine Branch.f rfl ?_ | refine Branch.t (by assumption) ?_ | refine Branch.f (by assumption) ?_ | refine Branch.d (fun _ => ?_) (fun _ => ?_) | refine Branch.mk (fun _ => ?_) (fun _ => ?_) | refine Need.mk (by first | omega | decide | rfl) ?_ | refine Idx.nat (by omega) ?_ | refine Idx.auto (by first | omega | decide) (by first | omega | decide) ?_ | refine Cell.ro rfl ?_ | refine SDraw.all (by kernel_rfl) ?_ | refine Kept.k0 ?_ | refine Kept.k1 ?_ | refine Kept.k2 ?_ | refine Kept.k3 ?_ | refine Kept.k4 ?_))
          · clear hR
            repeat' ((conv => whnf); (first | refine c10 (hD.mono fun z hz => .tail _ hz) ?_ | exact Keep.all rfl | refine New.mk (fun _ => ?_) | refine Look.at0 ?_ | refine Cell.row ?_ | refine Cell.buf ?_ | refine Cells.row rfl ?_ | refine Put.row rfl ?_ | refine Put.buf rfl ?_ | refine Look.at1 ?_ | refine Look.at2 ?_ | refine Look.at3 ?_ | refine Look.at4 ?_ | refine Look.at5 ?_ | refine Look.at6 ?_ | refine Look.at7 ?_ | refine Look.at8 ?_ | with_reducible refine Val.i64 (by omega) (by omega) ?_ | with_reducible refine Val.u8 (by omega) (by omega) ?_ | with_reducible refine Val.u32 (by omega) (by omega) ?_ | with_reducible refine Val.u64 (by omega) (by omega) ?_ | with_reducible refine Val.u8m ?_ | with_reducible refine Val.u32m ?_ | with_reducible refine Val.u64m ?_ | with_reducible refine Val.shr8 ?_ | with_reducible refine Val.shr16 (by decide) ?_ | with_reducible refine Val.shr24 (by decide) ?_ | with_reducible refine Val.raw ?_ | refine Branch.not ?_ | refine Branch.and ?_ | refine Branch.or ?_ | refine Branch.dt (by assumption) ?_ | refine Branch.df (by assumption) ?_ | refine Branch.dt rfl ?_ | refine Branch.dt (by omega) ?_ | refine Branch.df (by omega) ?_ | refine Branch.t rfl ?_ | refine Branch.f rfl ?_ | refine Branch.t (by assumption) ?_ | refine Branch.f (by assumption) ?_ | refine Branch.d (fun _ => ?_) (fun _ => ?_) | refine Branch.mk (fun _ => ?_) (fun _ => ?_) | refine Need.mk (by first | omega | decide | rfl) ?_ | refine Idx.nat (by omega) ?_ | refine Idx.auto (by first | omega | decide) (by first | omega | decide) ?_ | refine Cell.ro rfl ?_ | refine SDraw.all (by kernel_rfl) ?_ | refine Kept.k0 ?_ | refine Kept.k1 ?_ | refine Kept.k2 ?_ | refine Kept.k3 ?_ | refine Kept.k4 ?_))
  · have hE0 : (!decide (chk L = 0)) = true := by simp [hc]
    refine enter4 ?_
    repeat' ((conv => whnf); (first | refine c9 (hin.mono fun z hz => by simp only [List.mem_cons, hz, or_true]) hb (fun q c k1 k2 => ?_) | refine h8 _ _ _ _ (hD.mono fun z hz => by simp only [List.mem_cons, hz, or_true]) ?_ | refine Branch.t hE0 ?_ | refine c10 (hD.mono fun z hz => by simp only [List.mem_cons, hz, or_true]) ?_ | exact Keep.all rfl | refine New.mk (fun _ => ?_) | refine Look.at0 ?_ | refine Cell.row ?_ | refine Cell.buf ?_ | refine Cells.row rfl ?_ | refine Put.row rfl ?_ | refine Put.buf rfl ?_ | refine Look.at1 ?_ | refine Look.at2 ?_ | refine Look.at3 ?_ | refine Look.at4 ?_ | refine Look.at5 ?_ | refine Look.at6 ?_ | refine Look.at7 ?_ | refine Look.at8 ?_ | with_reducible refine Val.i64 (by omega) (by omega) ?_ | with_reducible refine Val.u8 (by omega) (by omega) ?_ | with_reducible refine Val.u32 (by omega) (by omega) ?_ | with_reducible refine Val.u64 (by omega) (by omega) ?_ | with_reducible refine Val.u8m ?_ | with_reducible refine Val.u32m ?_ | with_reducible refine Val.u64m ?_ | with_reducible refine Val.shr8 ?_ | with_reducible refine Val.shr16 (by decide) ?_ | with_reducible refine Val.shr24 (by decide) ?_ | with_reducible refine Val.raw ?_ | refine Branch.not ?_ | refine Branch.and ?_ | refine Branch.or ?_ | refine Branch.dt (by assumption) ?_ | refine Branch.df (by assumption) ?_ | refine Branch.dt rfl ?_ | refine Branch.dt (by omega) ?_ | refine Branch.df (by omega) ?_ | refine Branch.t rfl ?_ | refine Branch.f rfl ?_ | refine Branch.t (by assumption) ?_ | refine Branch.f (by assumption) ?_ | refine Branch.d (fun _ => ?_) (fun _ => ?_) | refine Branch.mk (fun _ => ?_) (fun _ => ?_) | refine Need.mk (by first | omega | decide | rfl) ?_ | refine Idx.nat (by omega) ?_ | refine Idx.auto (by first | omega | decide) (by first | omega | decide) ?_ | refine Cell.ro rfl ?_ | refine SDraw.all (by kernel_rfl) ?_ | refine Kept.k0 ?_ | refine Kept.k1 ?_ | refine Kept.k2 ?_ | refine Kept.k3 ?_ | refine Kept.k4 ?_))
end
end Go.Proofs.YtjleekdidedhaaaDoor

/- Layer 25: LoadMore and LoadLeast, out of the row's words. -/
set_option linter.unusedVariables false
set_option linter.unusedSimpArgs false
namespace Go.Proofs.YtjleekdidedhaaaDoor
open Sx
theorem LoadMoreW (a0a : Option Addr) (a0l : Nat) (a0c : Nat) (a1 : Int) (a2 : Int) (w : World) (h0_0 : SliceAt 5 B30 R30 w a0a a0l a0c) (h1_0 : (Lit.int .i64 a1).wf = true) (h2_0 : (Lit.int .i64 a2).wf = true) (hL : laidMet Tryd.prog Rows.loadMoreRow.laid w) :
    Calls Tryd.prog 3 #[.slice a0a a0l a0c, .int .i64 a1, .int .i64 a2] w fun e w' => e = .returned (.bool true) ∧ Go.RowKit.Below w.heap.size w w' := by
  obtain ⟨hD, hw, hx⟩ := db_of hL
  obtain ⟨H, L, rfl, hin, hwf, hw2, x2, hb⟩ := msgs_of h0_0
  exact (more_c (i := a1) (k := a2) (hD.mono fun p hp => List.mem_append_left _ hp) (hin.mono fun p hp => List.mem_append_right _ hp) hb hwf).fin w (Holds.join hw hw2 hx x2) (excl_join hx x2)
theorem num_of {w : World} {cs : List Value} (h : R28 w cs) : ∃ n : Nat, cs = fU n ∧ True := by
  obtain ⟨x, rfl, h0⟩ := h
  have e0 := wf_u64 h0
  exact ⟨x.toNat, by show [Value.int .u64 x] = [.int .u64 (x.toNat : Int)]; rw [Int.toNat_of_nonneg e0.1], trivial⟩
theorem LoadLeastW (a0a : Option Addr) (a0l : Nat) (a0c : Nat) (a1a : Option Addr) (a1l : Nat) (a1c : Nat) (w : World) (h0_0 : SliceAt 5 B30 R30 w a0a a0l a0c) (h1_0 : SliceAt 1 B28 R28 w a1a a1l a1c) (hL : laidMet Tryd.prog Rows.loadLeastRow.laid w) :
    Calls Tryd.prog 4 #[.slice a0a a0l a0c, .slice a1a a1l a1c] w fun e w' => e = .returned (.bool true) ∧ Go.RowKit.Below w.heap.size w w' := by
  obtain ⟨hD, hw, hx⟩ := db_of hL
  obtain ⟨H, L, rfl, hin, hwf, hw2, x2, hb⟩ := msgs_of h0_0
  obtain ⟨G, offs, rfl, hof, _, hw3, x3⟩ := inS_of (f := fU) (Good := fun _ => True) h1_0 (by decide) (fun _ => rfl) (fun cs hc => num_of hc)
  have hbo := h1_0.2.2.1
  simp only [reachBytes, B28] at hbo
  have hj := Holds.join (Holds.join hw hw2 hx x2) hw3 (excl_join hx x2) x3
  exact (least_c (offs := offs) (hD.mono fun p hp => List.mem_append_left _ (List.mem_append_left _ hp)) (hin.mono fun p hp => List.mem_append_left _ (List.mem_append_right _ hp)) hb hwf (hof.mono fun p hp => List.mem_append_right _ hp) (by omega)).fin w hj (excl_join (excl_join hx x2) x3)
end Go.Proofs.YtjleekdidedhaaaDoor

