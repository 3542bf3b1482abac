/- Layer 24: a tick: by walks. -/
import Derived.Test.YtmakaofdpoiaaaaFlB
set_option linter.unusedVariables false
set_option linter.unusedSimpArgs false
set_option maxRecDepth 100000
set_option maxHeartbeats 4000000
namespace Go.Proofs.Ytmakaofdpoiaaaa
open Sx
/-- What a tick does to each, first. -/
def t1 (x : PM) : PM := if x.2.is = 1 then (x.1, { x.2 with left := (x.2.left - 1) % 18446744073709551616 }) else if x.2.is = 3 then (x.1, { x.2 with mute := (x.2.mute + 1) % 18446744073709551616 }) else x
theorem t1_1 {x : PM} (h : x.2.is = 1) : t1 x = (x.1, { x.2 with left := (x.2.left - 1) % 18446744073709551616 }) := if_pos h
theorem t1_3 {x : PM} (h : x.2.is = 3) : t1 x = (x.1, { x.2 with mute := (x.2.mute + 1) % 18446744073709551616 }) := by unfold t1; rw [if_neg (by omega), if_pos h]
theorem t1_no {x : PM} (h1 : ¬ x.2.is = 1) (h3 : ¬ x.2.is = 3) : t1 x = x := by unfold t1; rw [if_neg h1, if_neg h3]
theorem t1_fst (x : PM) : (t1 x).1 = x.1 := by unfold t1; (repeat' split) <;> rfl
theorem t1_node (x : PM) : (t1 x).2.node = x.2.node := by unfold t1; (repeat' split) <;> rfl
theorem t1_prio (x : PM) : (t1 x).2.prio = x.2.prio := by unfold t1; (repeat' split) <;> rfl
theorem t1_on (x : PM) : (t1 x).2.on = x.2.on := by unfold t1; (repeat' split) <;> rfl
theorem t1_is (x : PM) : (t1 x).2.is = x.2.is := by unfold t1; (repeat' split) <;> rfl
theorem map_fst {f : PM → PM} (hf : ∀ x, (f x).1 = x.1) (ms : List PM) : (ms.map f).map Prod.fst = ms.map Prod.fst := by simp [Function.comp_def, hf]
theorem map_pr {ms ms' : List PM} (h : ms'.map Prod.fst = ms.map Prod.fst) : ms'.map pr = ms.map pr := by
  have : ∀ l : List PM, l.map pr = (l.map Prod.fst).map fun r => Value.pointer (some ⟨r, 0, none⟩) := fun l => by simp [pr, Function.comp_def]
  rw [this, this, h]
inductive S12a (A0 A12 A13 A14 : Value) : List Value → Prop
  | mk {r1 r2 r3 r4 r5 r6 r7 r8 r9 r10 r11 r15 r16 r17 r18 r19 r20 r21 r22 r23 r24 r25 r26 r27 r28 r29 r30 r31 r32 r33 r34 r35 r36 r37 r38 r39 r40 r41 r42 r43 r44 r45 r46 r47 r48 r49 r50 r51 r52 r53 r54 r55 r56 r57 r58 r59 r60 r61 r62 r63 r64 r65 r66 r67 r68 r69 r70 r71 r72 r73 r74 r75 r76 r77 r78 r79 r80 r81 r82 r83 r84 r85 r86 r87 r88 r89 r90 r91 r92 r93 r94 r95 r96 r97 r98 r99 r100 r101 r102 r103 r104 r105 r106 r107 r108 r109 r110 r111 r112 r113 r114 r115 r116 r117 r118 r119 r120 : Value} : S12a A0 A12 A13 A14 [A0, r1, r2, r3, r4, r5, r6, r7, r8, r9, r10, r11, A12, A13, A14, r15, r16, r17, r18, r19, r20, r21, r22, r23, r24, r25, r26, r27, r28, r29, r30, r31, r32, r33, r34, r35, r36, r37, r38, r39, r40, r41, r42, r43, r44, r45, r46, r47, r48, r49, r50, r51, r52, r53, r54, r55, r56, r57, r58, r59, r60, r61, r62, r63, r64, r65, r66, r67, r68, r69, r70, r71, r72, r73, r74, r75, r76, r77, r78, r79, r80, r81, r82, r83, r84, r85, r86, r87, r88, r89, r90, r91, r92, r93, r94, r95, r96, r97, r98, r99, r100, r101, r102, r103, r104, r105, r106, r107, r108, r109, r110, r111, r112, r113, r114, r115, r116, r117, r118, r119, r120]
inductive S12b (A0 A5 A6 A67 A68 A69 : Value) : List Value → Prop
  | mk {r1 r2 r3 r4 r7 r8 r9 r10 r11 r12 r13 r14 r15 r16 r17 r18 r19 r20 r21 r22 r23 r24 r25 r26 r27 r28 r29 r30 r31 r32 r33 r34 r35 r36 r37 r38 r39 r40 r41 r42 r43 r44 r45 r46 r47 r48 r49 r50 r51 r52 r53 r54 r55 r56 r57 r58 r59 r60 r61 r62 r63 r64 r65 r66 r70 r71 r72 r73 r74 r75 r76 r77 r78 r79 r80 r81 r82 r83 r84 r85 r86 r87 r88 r89 r90 r91 r92 r93 r94 r95 r96 r97 r98 r99 r100 r101 r102 r103 r104 r105 r106 r107 r108 r109 r110 r111 r112 r113 r114 r115 r116 r117 r118 r119 r120 : Value} : S12b A0 A5 A6 A67 A68 A69 [A0, r1, r2, r3, r4, A5, A6, r7, r8, r9, r10, r11, r12, r13, r14, r15, r16, r17, r18, r19, r20, r21, r22, r23, r24, r25, r26, r27, r28, r29, r30, r31, r32, r33, r34, r35, r36, r37, r38, r39, r40, r41, r42, r43, r44, r45, r46, r47, r48, r49, r50, r51, r52, r53, r54, r55, r56, r57, r58, r59, r60, r61, r62, r63, r64, r65, r66, A67, A68, A69, r70, r71, r72, r73, r74, r75, r76, r77, r78, r79, r80, r81, r82, r83, r84, r85, r86, r87, r88, r89, r90, r91, r92, r93, r94, r95, r96, r97, r98, r99, r100, r101, r102, r103, r104, r105, r106, r107, r108, r109, r110, r111, r112, r113, r114, r115, r116, r117, r118, r119, r120]
section
variable {K : Value → Heap → Prop} {g r cap : Nat} {slot lost : Int} {ms : List PM} {Q : Post}
def hp (g r cap n : Nat) (slot lost : Int) (ms : List PM) : Heap := netR g (some ⟨r, 0, none⟩) n cap slot lost :: (r, .buf 61 (ms.map pr) (cap * 1)) :: ms.map rw_
def hpu (g r cap : Nat) (slot lost : Int) (ms ms' : List PM) : Heap := netR g (some ⟨r, 0, none⟩) ms.length cap slot lost :: (r, .buf 61 (ms.map pr) (cap * 1)) :: ms'.map rw_
def I12a (g r cap : Nat) (slot lost : Int) (ms : List PM) (l : List Value) (H : Heap) : Prop :=
  ∃ j : Nat, j ≤ ms.length ∧ S12a (.pointer (some ⟨g, 0, none⟩)) (.slice (some ⟨r, 0, none⟩) ms.length cap) (.int .i64 (ms.length : Int)) (.int .i64 (j : Int)) l ∧ H = hpu g r cap slot lost ms (updTo t1 j ms)
noncomputable def M12a (n : Nat) (l : List Value) (_ : Heap) : Nat := n - (match getL l 14 with | .int _ i => i.toNat | _ => 0)
theorem l12a (hlen : ms.length ≤ 8) (l : List Value) (hS : S12a (.pointer (some ⟨g, 0, none⟩)) (.slice (some ⟨r, 0, none⟩) ms.length cap) (.int .i64 (ms.length : Int)) (.int .i64 0) l)
    (hQ : ∀ l v, S12a (.pointer (some ⟨g, 0, none⟩)) (.slice (some ⟨r, 0, none⟩) ms.length cap) (.int .i64 (ms.length : Int)) v l → Q (.exit 0) l (hpu g r cap slot lost ms (ms.map t1))) :
    SLoop Try.prog X12_l1 Q l (hpu g r cap slot lost ms ms) := by
  refine SLoop.inv (I12a g r cap slot lost ms) (M12a ms.length) (Keep.all ⟨0, by omega, hS, by rw [updTo_zero]⟩) ?_
  clear hS l
  rintro S H ⟨j, hj, hS, rfl⟩ R hR
  by_cases hlt : j < ms.length
  · cases hS
    obtain ⟨x, hx⟩ : ∃ x, ms[j]? = some x := ⟨_, List.getElem?_eq_getElem hlt⟩
    have fin : ∀ (l : List Value) (ms' : List PM), ms' = updTo t1 (j + 1) ms → S12a (.pointer (some ⟨g, 0, none⟩)) (.slice (some ⟨r, 0, none⟩) ms.length cap) (.int .i64 (ms.length : Int)) (.int .i64 ((j + 1 : Nat) : Int)) l → (match getL l 14 with | .int _ i => i.toNat | _ => 0) = j + 1 → R l (hpu g r cap slot lost ms ms') := by
      rintro l ms' rfl e2 e3
      refine hR _ _ (Keep.all ⟨⟨j + 1, by omega, e2, rfl⟩, ?_⟩)
      unfold M12a
      rw [e3]
      show ms.length - (j + 1) < ms.length - Int.toNat (j : Int)
      omega
    unfold hpu at fin ⊢
    repeat' ((conv => whnf); (first
        | refine Cell.nth hx ?_
        | refine Look.skip (Look.at0 ?_)
        | refine Look.skip (Look.skip (Look.nth (updTo_nth hx) rfl ?_))
        | refine appK_set (x.1, { x.2 with left := (x.2.left - 1) % 18446744073709551616 }) (updTo_nth hx) rfl ?_
        | refine appK_set (x.1, { x.2 with mute := (x.2.mute + 1) % 18446744073709551616 }) (updTo_nth hx) rfl ?_
        | unfold M.row M.cells
        | refine New.mk (fun _ => ?_)
        | refine Look.at0 ?_
        | refine Cell.row ?_
        | refine Cell.buf ?_
        | refine Cells.row rfl ?_
        | refine Put.row rfl ?_
        | refine Put.buf rfl ?_
        | refine Look.at1 ?_
        | refine Look.at2 ?_
        | refine Look.at3 ?_
        | refine Look.at4 ?_
        | refine Look.at5 ?_
        | refine Look.at6 ?_
        | refine Look.at7 ?_
        | refine Look.at8 ?_
        | with_reducible refine Val.i64 (by omega) (by omega) ?_
        | with_reducible refine Val.u8 (by omega) (by omega) ?_
        | with_reducible refine Val.u32 (by omega) (by omega) ?_
        | with_reducible refine Val.u64 (by omega) (by omega) ?_
        | with_reducible refine Val.u8m ?_
        | with_reducible refine Val.u32m ?_
        | with_reducible refine Val.u64m ?_
        | with_reducible refine Val.shr8 ?_
        | with_reducible refine Val.shr16 (by decide) ?_
        | with_reducible refine Val.shr24 (by decide) ?_
        | with_reducible refine Val.raw ?_
        | refine Branch.not ?_
        | refine Branch.and ?_
        | refine Branch.or ?_
        | refine Branch.dt (by assumption) ?_
        | refine Branch.df (by assumption) ?_
        | refine Branch.dt rfl ?_
        | refine Branch.dt (by omega) ?_
        | refine Branch.df (by omega) ?_
        | refine Branch.t rfl ?_
        | refine Branch.f rfl ?_
        | refine Branch.t (by assumption) ?_
        | refine Branch.f (by assumption) ?_
        | refine Branch.d (fun _ => ?_) (fun _ => ?_)
        | refine Branch.mk (fun _ => ?_) (fun _ => ?_)
        | refine Need.mk (by first | omega | decide | rfl) ?_
        | refine Idx.nat (by omega) ?_
        | refine Idx.auto (by first | omega | decide) (by first | omega | decide) ?_
        | refine Cell.ro rfl ?_
        | refine SDraw.all (by kernel_rfl) ?_
        | refine Kept.k0 ?_
        | refine Kept.k1 ?_
        | refine Kept.k2 ?_
        | refine Kept.k3 ?_
        | refine Kept.k4 ?_))
    all_goals (conv => whnf)
    all_goals first
      | exact fin _ _ (by rw [← updTo_set hx, t1_1 ‹_›]) .mk rfl
      | exact fin _ _ (by rw [← updTo_set hx, t1_3 ‹_›]) .mk rfl
      | exact fin _ _ (updTo_same hx (t1_no ‹_› ‹_›)) .mk rfl
      | trace_state
  · rw [updTo_all (by omega)]
    cases hS
    repeat' ((conv => whnf); (first
        | refine New.mk (fun _ => ?_)
        | refine Look.at0 ?_
        | refine Cell.row ?_
        | refine Cell.buf ?_
        | refine Cells.row rfl ?_
        | refine Put.row rfl ?_
        | refine Put.buf rfl ?_
        | refine Look.at1 ?_
        | refine Look.at2 ?_
        | refine Look.at3 ?_
        | refine Look.at4 ?_
        | refine Look.at5 ?_
        | refine Look.at6 ?_
        | refine Look.at7 ?_
        | refine Look.at8 ?_
        | with_reducible refine Val.i64 (by omega) (by omega) ?_
        | with_reducible refine Val.u8 (by omega) (by omega) ?_
        | with_reducible refine Val.u32 (by omega) (by omega) ?_
        | with_reducible refine Val.u64 (by omega) (by omega) ?_
        | with_reducible refine Val.u8m ?_
        | with_reducible refine Val.u32m ?_
        | with_reducible refine Val.u64m ?_
        | with_reducible refine Val.shr8 ?_
        | with_reducible refine Val.shr16 (by decide) ?_
        | with_reducible refine Val.shr24 (by decide) ?_
        | with_reducible refine Val.raw ?_
        | refine Branch.not ?_
        | refine Branch.and ?_
        | refine Branch.or ?_
        | refine Branch.dt (by assumption) ?_
        | refine Branch.df (by assumption) ?_
        | refine Branch.dt rfl ?_
        | refine Branch.dt (by omega) ?_
        | refine Branch.df (by omega) ?_
        | refine Branch.t rfl ?_
        | refine Branch.f rfl ?_
        | refine Branch.t (by assumption) ?_
        | refine Branch.f (by assumption) ?_
        | refine Branch.d (fun _ => ?_) (fun _ => ?_)
        | refine Branch.mk (fun _ => ?_) (fun _ => ?_)
        | refine Need.mk (by first | omega | decide | rfl) ?_
        | refine Idx.nat (by omega) ?_
        | refine Idx.auto (by first | omega | decide) (by first | omega | decide) ?_
        | refine Cell.ro rfl ?_
        | refine SDraw.all (by kernel_rfl) ?_
        | refine Kept.k0 ?_
        | refine Kept.k1 ?_
        | refine Kept.k2 ?_
        | refine Kept.k3 ?_
        | refine Kept.k4 ?_))
    all_goals (conv => whnf)
    exact hQ _ _ .mk
/-- One follows a master; one that is lost. -/
def folM (top : PM) (x : PM) : PM := if x.2.is = 0 ∨ x.1 = top.1 then x else (x.1, { x.2 with is := 3, left := 0, of_ := top.2.node, mute := 0 })
def lostM (slot lost : Int) (x : PM) : PM := if x.2.is = 3 ∧ lost ≤ x.2.mute then (x.1, begM slot x.2) else x
theorem folM_no {top x : PM} (h : x.2.is = 0 ∨ x.1 = top.1) : folM top x = x := if_pos h
theorem folM_yes {top x : PM} (h1 : ¬ x.2.is = 0) (h2 : ¬ x.1 = top.1) : folM top x = (x.1, { x.2 with is := 3, left := 0, of_ := top.2.node, mute := 0 }) := if_neg (fun h => h.elim h1 h2)
theorem lostM_yes {x : PM} (h1 : x.2.is = 3) (h2 : lost ≤ x.2.mute) : lostM slot lost x = (x.1, begM slot x.2) := if_pos ⟨h1, h2⟩
theorem lostM_no {x : PM} (h : ¬ (x.2.is = 3 ∧ lost ≤ x.2.mute)) : lostM slot lost x = x := if_neg h
def I12b (g r cap : Nat) (slot lost : Int) (f : PM → PM) (told tv : Value) (ms : List PM) (l : List Value) (H : Heap) : Prop :=
  ∃ j : Nat, j ≤ ms.length ∧ S12b (.pointer (some ⟨g, 0, none⟩)) told tv (.slice (some ⟨r, 0, none⟩) ms.length cap) (.int .i64 (ms.length : Int)) (.int .i64 (j : Int)) l ∧ H = hpu g r cap slot lost ms (updTo f j ms)
noncomputable def M12b (n : Nat) (l : List Value) (_ : Heap) : Nat := n - (match getL l 69 with | .int _ i => i.toNat | _ => 0)
theorem l12t {top : PM} {i : Nat} (hlen : ms.length ≤ 8) (htop : ms[i]? = some top) (hnd : (ms.map Prod.fst).Nodup) (told : Value) (l : List Value) (hS : S12b (.pointer (some ⟨g, 0, none⟩)) told (pr top) (.slice (some ⟨r, 0, none⟩) ms.length cap) (.int .i64 (ms.length : Int)) (.int .i64 0) l)
    (hQ : ∀ l v, S12b (.pointer (some ⟨g, 0, none⟩)) told (pr top) (.slice (some ⟨r, 0, none⟩) ms.length cap) (.int .i64 (ms.length : Int)) v l → Q (.exit 3) l (hpu g r cap slot lost ms (ms.map (folM top)))) :
    SLoop Try.prog X12_l0 Q l (hpu g r cap slot lost ms ms) := by
  refine SLoop.inv (I12b g r cap slot lost (folM top) told (pr top) ms) (M12b ms.length) (Keep.all ⟨0, by omega, hS, by rw [updTo_zero]⟩) ?_
  clear hS l
  rintro S H ⟨j, hj, hS, rfl⟩ R hR
  by_cases hlt : j < ms.length
  · cases hS
    obtain ⟨x, hx⟩ : ∃ x, ms[j]? = some x := ⟨_, List.getElem?_eq_getElem hlt⟩
    have htu : (updTo (folM top) j ms)[i]? = some top := by
      unfold updTo
      by_cases hij : i < j
      · rw [List.getElem?_append_left (by simp; omega), List.getElem?_map, List.getElem?_take_of_lt hij, htop]
        exact congrArg some (folM_no (.inr rfl))
      · rw [List.getElem?_append_right (by simp; omega)]
        simp only [List.length_map, List.length_take, List.getElem?_drop]
        rw [show j + (i - min j ms.length) = i by omega]
        exact htop
    have fin : ∀ (l : List Value) (ms' : List PM), ms' = updTo (folM top) (j + 1) ms → S12b (.pointer (some ⟨g, 0, none⟩)) told (pr top) (.slice (some ⟨r, 0, none⟩) ms.length cap) (.int .i64 (ms.length : Int)) (.int .i64 ((j + 1 : Nat) : Int)) l → (match getL l 69 with | .int _ i => i.toNat | _ => 0) = j + 1 → R l (hpu g r cap slot lost ms ms') := by
      rintro l ms' rfl e2 e3
      refine hR _ _ (Keep.all ⟨⟨j + 1, by omega, e2, rfl⟩, ?_⟩)
      unfold M12b
      rw [e3]
      show ms.length - (j + 1) < ms.length - Int.toNat (j : Int)
      omega
    unfold hpu at fin ⊢
    have hpx : plainAt (netR g (some ⟨r, 0, none⟩) ms.length cap slot lost :: (r, .buf 61 (ms.map pr) (cap * 1)) :: (updTo (folM top) j ms).map rw_) x.1 := ⟨x.2.row, in_net (Bh := [_]) (updTo_nth hx), rfl⟩
    have hpt : plainAt (netR g (some ⟨r, 0, none⟩) ms.length cap slot lost :: (r, .buf 61 (ms.map pr) (cap * 1)) :: (updTo (folM top) j ms).map rw_) top.1 := ⟨top.2.row, in_net (Bh := [_]) htu, rfl⟩
    by_cases hxt : x.1 = top.1
    · repeat' ((conv => whnf); (first
          | refine Cell.nth hx ?_
          | refine Look.skip (Look.at0 ?_)
          | refine Look.skip (Look.skip (Look.nth (updTo_nth hx) rfl ?_))
          | refine PEq.same hxt ?_
          | refine Branch.dt (by rw [hxt]) ?_
          | unfold M.row M.cells
          | refine New.mk (fun _ => ?_)
          | refine Look.at0 ?_
          | refine Cell.row ?_
          | refine Cell.buf ?_
          | refine Cells.row rfl ?_
          | refine Put.row rfl ?_
          | refine Put.buf rfl ?_
          | refine Look.at1 ?_
          | refine Look.at2 ?_
          | refine Look.at3 ?_
          | refine Look.at4 ?_
          | refine Look.at5 ?_
          | refine Look.at6 ?_
          | refine Look.at7 ?_
          | refine Look.at8 ?_
          | with_reducible refine Val.i64 (by omega) (by omega) ?_
          | with_reducible refine Val.u8 (by omega) (by omega) ?_
          | with_reducible refine Val.u32 (by omega) (by omega) ?_
          | with_reducible refine Val.u64 (by omega) (by omega) ?_
          | with_reducible refine Val.u8m ?_
          | with_reducible refine Val.u32m ?_
          | with_reducible refine Val.u64m ?_
          | with_reducible refine Val.shr8 ?_
          | with_reducible refine Val.shr16 (by decide) ?_
          | with_reducible refine Val.shr24 (by decide) ?_
          | with_reducible refine Val.raw ?_
          | refine Branch.not ?_
          | refine Branch.and ?_
          | refine Branch.or ?_
          | refine Branch.dt (by assumption) ?_
          | refine Branch.df (by assumption) ?_
          | refine Branch.dt rfl ?_
          | refine Branch.dt (by omega) ?_
          | refine Branch.df (by omega) ?_
          | refine Branch.t rfl ?_
          | refine Branch.f rfl ?_
          | refine Branch.t (by assumption) ?_
          | refine Branch.f (by assumption) ?_
          | refine Branch.d (fun _ => ?_) (fun _ => ?_)
          | refine Branch.mk (fun _ => ?_) (fun _ => ?_)
          | refine Need.mk (by first | omega | decide | rfl) ?_
          | refine Idx.nat (by omega) ?_
          | refine Idx.auto (by first | omega | decide) (by first | omega | decide) ?_
          | refine Cell.ro rfl ?_
          | refine SDraw.all (by kernel_rfl) ?_
          | refine Kept.k0 ?_
          | refine Kept.k1 ?_
          | refine Kept.k2 ?_
          | refine Kept.k3 ?_
          | refine Kept.k4 ?_))
      all_goals (conv => whnf)
      all_goals first
        | exact fin _ _ (updTo_same hx (folM_no (.inr hxt))) .mk rfl
        | trace_state
    · repeat' ((conv => whnf); (first
          | refine Cell.nth hx ?_
          | refine Look.skip (Look.at0 ?_)
          | refine Look.skip (Look.skip (Look.nth (updTo_nth hx) rfl ?_))
          | refine Look.skip (Look.skip (Look.nth htu rfl ?_))
          | refine PEq.other hxt hpx hpt ?_
          | refine appK_set (x.1, { x.2 with is := 3, left := 0, of_ := top.2.node, mute := 0 }) (updTo_nth hx) rfl ?_
          | unfold M.row M.cells
          | refine New.mk (fun _ => ?_)
          | refine Look.at0 ?_
          | refine Cell.row ?_
          | refine Cell.buf ?_
          | refine Cells.row rfl ?_
          | refine Put.row rfl ?_
          | refine Put.buf rfl ?_
          | refine Look.at1 ?_
          | refine Look.at2 ?_
          | refine Look.at3 ?_
          | refine Look.at4 ?_
          | refine Look.at5 ?_
          | refine Look.at6 ?_
          | refine Look.at7 ?_
          | refine Look.at8 ?_
          | with_reducible refine Val.i64 (by omega) (by omega) ?_
          | with_reducible refine Val.u8 (by omega) (by omega) ?_
          | with_reducible refine Val.u32 (by omega) (by omega) ?_
          | with_reducible refine Val.u64 (by omega) (by omega) ?_
          | with_reducible refine Val.u8m ?_
          | with_reducible refine Val.u32m ?_
          | with_reducible refine Val.u64m ?_
          | with_reducible refine Val.shr8 ?_
          | with_reducible refine Val.shr16 (by decide) ?_
          | with_reducible refine Val.shr24 (by decide) ?_
          | with_reducible refine Val.raw ?_
          | refine Branch.not ?_
          | refine Branch.and ?_
          | refine Branch.or ?_
          | refine Branch.dt (by assumption) ?_
          | refine Branch.df (by assumption) ?_
          | refine Branch.dt rfl ?_
          | refine Branch.dt (by omega) ?_
          | refine Branch.df (by omega) ?_
          | refine Branch.t rfl ?_
          | refine Branch.f rfl ?_
          | refine Branch.t (by assumption) ?_
          | refine Branch.f (by assumption) ?_
          | refine Branch.d (fun _ => ?_) (fun _ => ?_)
          | refine Branch.mk (fun _ => ?_) (fun _ => ?_)
          | refine Need.mk (by first | omega | decide | rfl) ?_
          | refine Idx.nat (by omega) ?_
          | refine Idx.auto (by first | omega | decide) (by first | omega | decide) ?_
          | refine Cell.ro rfl ?_
          | refine SDraw.all (by kernel_rfl) ?_
          | refine Kept.k0 ?_
          | refine Kept.k1 ?_
          | refine Kept.k2 ?_
          | refine Kept.k3 ?_
          | refine Kept.k4 ?_))
      all_goals (conv => whnf)
      all_goals first
        | exact fin _ _ (by rw [← updTo_set hx, folM_yes ‹_› hxt]) .mk rfl
        | exact fin _ _ (updTo_same hx (folM_no (.inl ‹_›))) .mk rfl
        | trace_state
  · rw [updTo_all (by omega)]
    cases hS
    repeat' ((conv => whnf); (first
        | refine New.mk (fun _ => ?_)
        | refine Look.at0 ?_
        | refine Cell.row ?_
        | refine Cell.buf ?_
        | refine Cells.row rfl ?_
        | refine Put.row rfl ?_
        | refine Put.buf rfl ?_
        | refine Look.at1 ?_
        | refine Look.at2 ?_
        | refine Look.at3 ?_
        | refine Look.at4 ?_
        | refine Look.at5 ?_
        | refine Look.at6 ?_
        | refine Look.at7 ?_
        | refine Look.at8 ?_
        | with_reducible refine Val.i64 (by omega) (by omega) ?_
        | with_reducible refine Val.u8 (by omega) (by omega) ?_
        | with_reducible refine Val.u32 (by omega) (by omega) ?_
        | with_reducible refine Val.u64 (by omega) (by omega) ?_
        | with_reducible refine Val.u8m ?_
        | with_reducible refine Val.u32m ?_
        | with_reducible refine Val.u64m ?_
        | with_reducible refine Val.shr8 ?_
        | with_reducible refine Val.shr16 (by decide) ?_
        | with_reducible refine Val.shr24 (by decide) ?_
        | with_reducible refine Val.raw ?_
        | refine Branch.not ?_
        | refine Branch.and ?_
        | refine Branch.or ?_
        | refine Branch.dt (by assumption) ?_
        | refine Branch.df (by assumption) ?_
        | refine Branch.dt rfl ?_
        | refine Branch.dt (by omega) ?_
        | refine Branch.df (by omega) ?_
        | refine Branch.t rfl ?_
        | refine Branch.f rfl ?_
        | refine Branch.t (by assumption) ?_
        | refine Branch.f (by assumption) ?_
        | refine Branch.d (fun _ => ?_) (fun _ => ?_)
        | refine Branch.mk (fun _ => ?_) (fun _ => ?_)
        | refine Need.mk (by first | omega | decide | rfl) ?_
        | refine Idx.nat (by omega) ?_
        | refine Idx.auto (by first | omega | decide) (by first | omega | decide) ?_
        | refine Cell.ro rfl ?_
        | refine SDraw.all (by kernel_rfl) ?_
        | refine Kept.k0 ?_
        | refine Kept.k1 ?_
        | refine Kept.k2 ?_
        | refine Kept.k3 ?_
        | refine Kept.k4 ?_))
    all_goals (conv => whnf)
    exact hQ _ _ .mk
theorem l12n (hlen : ms.length ≤ 8) (hOk : ∀ x ∈ ms, x.2.Ok) (told : Value) (l : List Value) (hS : S12b (.pointer (some ⟨g, 0, none⟩)) told (.pointer none) (.slice (some ⟨r, 0, none⟩) ms.length cap) (.int .i64 (ms.length : Int)) (.int .i64 0) l)
    (hQ : ∀ l v, S12b (.pointer (some ⟨g, 0, none⟩)) told (.pointer none) (.slice (some ⟨r, 0, none⟩) ms.length cap) (.int .i64 (ms.length : Int)) v l → Q (.exit 3) l (hpu g r cap slot lost ms (ms.map (lostM slot lost)))) :
    SLoop Try.prog X12_l0 Q l (hpu g r cap slot lost ms ms) := by
  refine SLoop.inv (I12b g r cap slot lost (lostM slot lost) told (.pointer none) ms) (M12b ms.length) (Keep.all ⟨0, by omega, hS, by rw [updTo_zero]⟩) ?_
  clear hS l
  rintro S H ⟨j, hj, hS, rfl⟩ R hR
  by_cases hlt : j < ms.length
  · cases hS
    obtain ⟨x, hx⟩ : ∃ x, ms[j]? = some x := ⟨_, List.getElem?_eq_getElem hlt⟩
    have hxo := hOk x (List.mem_of_getElem? hx)
    have fin : ∀ (l : List Value) (ms' : List PM), ms' = updTo (lostM slot lost) (j + 1) ms → S12b (.pointer (some ⟨g, 0, none⟩)) told (.pointer none) (.slice (some ⟨r, 0, none⟩) ms.length cap) (.int .i64 (ms.length : Int)) (.int .i64 ((j + 1 : Nat) : Int)) l → (match getL l 69 with | .int _ i => i.toNat | _ => 0) = j + 1 → R l (hpu g r cap slot lost ms ms') := by
      rintro l ms' rfl e2 e3
      refine hR _ _ (Keep.all ⟨⟨j + 1, by omega, e2, rfl⟩, ?_⟩)
      unfold M12b
      rw [e3]
      show ms.length - (j + 1) < ms.length - Int.toNat (j : Int)
      omega
    unfold hpu at fin ⊢
    have key : ∀ K : Value → Heap → Prop, K (.tuple ⟨[]⟩) (netR g (some ⟨r, 0, none⟩) ms.length cap slot lost :: (r, .buf 61 (ms.map pr) (cap * 1)) :: ((updTo (lostM slot lost) j ms).set j (x.1, begM slot x.2)).map rw_) →
        SCalls Try.prog 28 [.pointer (some ⟨g, 0, none⟩), .pointer (some ⟨x.1, 0, none⟩)] (netR g (some ⟨r, 0, none⟩) ms.length cap slot lost :: (r, .buf 61 (ms.map pr) (cap * 1)) :: (updTo (lostM slot lost) j ms).map rw_) K := fun K hk =>
      SCalls.upd (H1 := [netR g (some ⟨r, 0, none⟩) ms.length cap slot lost, rw_ x]) (H1' := [netR g (some ⟨r, 0, none⟩) ms.length cap slot lost, rw_ (x.1, begM slot x.2)]) (R := (r, .buf 61 (ms.map pr) (cap * 1)) :: ((updTo (lostM slot lost) j ms).take j ++ (updTo (lostM slot lost) j ms).drop (j + 1)).map rw_)
        (.cons _ ((List.Perm.cons _ (perm_nth (updTo_nth hx))).trans (.swap _ _ _)))
        (.cons _ ((List.Perm.swap _ _ _).trans (List.Perm.cons _ (perm_set (updTo_nth hx)))))
        (fun K hk => c28g (n := 0) (a0 := 0) _ _ hxo hk) hk
    repeat' ((conv => whnf); (first
        | refine Cell.nth hx ?_
        | refine Look.skip (Look.at0 ?_)
        | refine Look.skip (Look.skip (Look.nth (updTo_nth hx) rfl ?_))
        | refine key _ ?_
        | unfold M.row M.cells
        | refine New.mk (fun _ => ?_)
        | refine Look.at0 ?_
        | refine Cell.row ?_
        | refine Cell.buf ?_
        | refine Cells.row rfl ?_
        | refine Put.row rfl ?_
        | refine Put.buf rfl ?_
        | refine Look.at1 ?_
        | refine Look.at2 ?_
        | refine Look.at3 ?_
        | refine Look.at4 ?_
        | refine Look.at5 ?_
        | refine Look.at6 ?_
        | refine Look.at7 ?_
        | refine Look.at8 ?_
        | with_reducible refine Val.i64 (by omega) (by omega) ?_
        | with_reducible refine Val.u8 (by omega) (by omega) ?_
        | with_reducible refine Val.u32 (by omega) (by omega) ?_
        | with_reducible refine Val.u64 (by omega) (by omega) ?_
        | with_reducible refine Val.u8m ?_
        | with_reducible refine Val.u32m ?_
        | with_reducible refine Val.u64m ?_
        | with_reducible refine Val.shr8 ?_
        | with_reducible refine Val.shr16 (by decide) ?_
        | with_reducible refine Val.shr24 (by decide) ?_
        | with_reducible refine Val.raw ?_
        | refine Branch.not ?_
        | refine Branch.and ?_
        | refine Branch.or ?_
        | refine Branch.dt (by assumption) ?_
        | refine Branch.df (by assumption) ?_
        | refine Branch.dt rfl ?_
        | refine Branch.dt (by omega) ?_
        | refine Branch.df (by omega) ?_
        | refine Branch.t rfl ?_
        | refine Branch.f rfl ?_
        | refine Branch.t (by assumption) ?_
        | refine Branch.f (by assumption) ?_
        | refine Branch.d (fun _ => ?_) (fun _ => ?_)
        | refine Branch.mk (fun _ => ?_) (fun _ => ?_)
        | refine Need.mk (by first | omega | decide | rfl) ?_
        | refine Idx.nat (by omega) ?_
        | refine Idx.auto (by first | omega | decide) (by first | omega | decide) ?_
        | refine Cell.ro rfl ?_
        | refine SDraw.all (by kernel_rfl) ?_
        | refine Kept.k0 ?_
        | refine Kept.k1 ?_
        | refine Kept.k2 ?_
        | refine Kept.k3 ?_
        | refine Kept.k4 ?_))
    all_goals (conv => whnf)
    all_goals first
      | exact fin _ _ (by rw [← updTo_set hx, lostM_yes ‹_› ‹_›]) .mk rfl
      | exact fin _ _ (updTo_same hx (lostM_no (by omega))) .mk rfl
      | trace_state
  · rw [updTo_all (by omega)]
    cases hS
    repeat' ((conv => whnf); (first
        | refine New.mk (fun _ => ?_)
        | refine Look.at0 ?_
        | refine Cell.row ?_
        | refine Cell.buf ?_
        | refine Cells.row rfl ?_
        | refine Put.row rfl ?_
        | refine Put.buf rfl ?_
        | refine Look.at1 ?_
        | refine Look.at2 ?_
        | refine Look.at3 ?_
        | refine Look.at4 ?_
        | refine Look.at5 ?_
        | refine Look.at6 ?_
        | refine Look.at7 ?_
        | refine Look.at8 ?_
        | with_reducible refine Val.i64 (by omega) (by omega) ?_
        | with_reducible refine Val.u8 (by omega) (by omega) ?_
        | with_reducible refine Val.u32 (by omega) (by omega) ?_
        | with_reducible refine Val.u64 (by omega) (by omega) ?_
        | with_reducible refine Val.u8m ?_
        | with_reducible refine Val.u32m ?_
        | with_reducible refine Val.u64m ?_
        | with_reducible refine Val.shr8 ?_
        | with_reducible refine Val.shr16 (by decide) ?_
        | with_reducible refine Val.shr24 (by decide) ?_
        | with_reducible refine Val.raw ?_
        | refine Branch.not ?_
        | refine Branch.and ?_
        | refine Branch.or ?_
        | refine Branch.dt (by assumption) ?_
        | refine Branch.df (by assumption) ?_
        | refine Branch.dt rfl ?_
        | refine Branch.dt (by omega) ?_
        | refine Branch.df (by omega) ?_
        | refine Branch.t rfl ?_
        | refine Branch.f rfl ?_
        | refine Branch.t (by assumption) ?_
        | refine Branch.f (by assumption) ?_
        | refine Branch.d (fun _ => ?_) (fun _ => ?_)
        | refine Branch.mk (fun _ => ?_) (fun _ => ?_)
        | refine Need.mk (by first | omega | decide | rfl) ?_
        | refine Idx.nat (by omega) ?_
        | refine Idx.auto (by first | omega | decide) (by first | omega | decide) ?_
        | refine Cell.ro rfl ?_
        | refine SDraw.all (by kernel_rfl) ?_
        | refine Kept.k0 ?_
        | refine Kept.k1 ?_
        | refine Kept.k2 ?_
        | refine Kept.k3 ?_
        | refine Kept.k4 ?_))
    all_goals (conv => whnf)
    exact hQ _ _ .mk
end
end Go.Proofs.Ytmakaofdpoiaaaa
