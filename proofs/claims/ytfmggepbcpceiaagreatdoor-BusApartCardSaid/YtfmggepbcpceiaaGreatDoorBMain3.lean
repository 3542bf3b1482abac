/- Layer 4: a node without power changes nothing: the law, by walks. -/
import Derived.Test.YtfmggepbcpceiaaGreatDoorBMain2

set_option linter.unusedVariables false
set_option linter.unusedSimpArgs false
set_option maxRecDepth 100000
set_option maxHeartbeats 4000000
namespace Go.Proofs.YtfmggepbcpceiaaGreatDoor
open Sx
inductive S4a (A0 A2 A7 A8 A10 A12 A13 : Value) : List Value → Prop
  | mk {r1 r3 r4 r5 r6 r9 r11 r14 r15 r16 r17 r18 r19 r20 r21 r22 r23 r24 r25 r26 r27 r28 r29 r30 r31 r32 r33 r34 r35 r36 r37 r38 r39 r40 r41 r42 r43 r44 r45 r46 r47 r48 r49 r50 r51 r52 r53 r54 r55 r56 r57 r58 r59 r60 r61 r62 r63 r64 r65 r66 r67 r68 r69 r70 r71 r72 r73 r74 r75 r76 r77 r78 r79 r80 r81 r82 r83 r84 r85 r86 r87 r88 r89 r90 r91 r92 r93 r94 r95 r96 r97 r98 r99 r100 r101 r102 r103 r104 r105 r106 r107 r108 r109 r110 r111 r112 r113 r114 r115 r116 r117 r118 r119 r120 r121 r122 r123 r124 r125 r126 r127 r128 r129 r130 r131 r132 r133 r134 r135 r136 r137 r138 r139 r140 r141 r142 r143 r144 r145 r146 r147 r148 r149 r150 r151 r152 r153 r154 r155 r156 r157 r158 r159 r160 r161 r162 r163 r164 r165 r166 r167 r168 r169 r170 r171 r172 r173 r174 r175 r176 r177 r178 r179 r180 r181 r182 r183 r184 r185 r186 r187 r188 r189 r190 r191 r192 r193 r194 r195 r196 r197 r198 r199 r200 r201 r202 r203 r204 r205 r206 r207 r208 r209 : Value} : S4a A0 A2 A7 A8 A10 A12 A13 [A0, r1, A2, r3, r4, r5, r6, A7, A8, r9, A10, r11, A12, A13, r14, r15, r16, r17, r18, r19, r20, r21, r22, r23, r24, r25, r26, r27, r28, r29, r30, r31, r32, r33, r34, r35, r36, r37, r38, r39, r40, r41, r42, r43, r44, r45, r46, r47, r48, r49, r50, r51, r52, r53, r54, r55, r56, r57, r58, r59, r60, r61, r62, r63, r64, r65, r66, r67, r68, r69, r70, r71, r72, r73, r74, r75, r76, r77, r78, r79, r80, r81, r82, r83, r84, r85, r86, r87, r88, r89, r90, r91, r92, r93, r94, r95, r96, r97, r98, r99, r100, r101, r102, r103, r104, r105, r106, r107, r108, r109, r110, r111, r112, r113, r114, r115, r116, r117, r118, r119, r120, r121, r122, r123, r124, r125, r126, r127, r128, r129, r130, r131, r132, r133, r134, r135, r136, r137, r138, r139, r140, r141, r142, r143, r144, r145, r146, r147, r148, r149, r150, r151, r152, r153, r154, r155, r156, r157, r158, r159, r160, r161, r162, r163, r164, r165, r166, r167, r168, r169, r170, r171, r172, r173, r174, r175, r176, r177, r178, r179, r180, r181, r182, r183, r184, r185, r186, r187, r188, r189, r190, r191, r192, r193, r194, r195, r196, r197, r198, r199, r200, r201, r202, r203, r204, r205, r206, r207, r208, r209]
inductive S4b (A0 A2 A7 A8 A10 A12 A14 A15 A16 : Value) : List Value → Prop
  | mk {r1 r3 r4 r5 r6 r9 r11 r13 r17 r18 r19 r20 r21 r22 r23 r24 r25 r26 r27 r28 r29 r30 r31 r32 r33 r34 r35 r36 r37 r38 r39 r40 r41 r42 r43 r44 r45 r46 r47 r48 r49 r50 r51 r52 r53 r54 r55 r56 r57 r58 r59 r60 r61 r62 r63 r64 r65 r66 r67 r68 r69 r70 r71 r72 r73 r74 r75 r76 r77 r78 r79 r80 r81 r82 r83 r84 r85 r86 r87 r88 r89 r90 r91 r92 r93 r94 r95 r96 r97 r98 r99 r100 r101 r102 r103 r104 r105 r106 r107 r108 r109 r110 r111 r112 r113 r114 r115 r116 r117 r118 r119 r120 r121 r122 r123 r124 r125 r126 r127 r128 r129 r130 r131 r132 r133 r134 r135 r136 r137 r138 r139 r140 r141 r142 r143 r144 r145 r146 r147 r148 r149 r150 r151 r152 r153 r154 r155 r156 r157 r158 r159 r160 r161 r162 r163 r164 r165 r166 r167 r168 r169 r170 r171 r172 r173 r174 r175 r176 r177 r178 r179 r180 r181 r182 r183 r184 r185 r186 r187 r188 r189 r190 r191 r192 r193 r194 r195 r196 r197 r198 r199 r200 r201 r202 r203 r204 r205 r206 r207 r208 r209 : Value} : S4b A0 A2 A7 A8 A10 A12 A14 A15 A16 [A0, r1, A2, r3, r4, r5, r6, A7, A8, r9, A10, r11, A12, r13, A14, A15, A16, r17, r18, r19, r20, r21, r22, r23, r24, r25, r26, r27, r28, r29, r30, r31, r32, r33, r34, r35, r36, r37, r38, r39, r40, r41, r42, r43, r44, r45, r46, r47, r48, r49, r50, r51, r52, r53, r54, r55, r56, r57, r58, r59, r60, r61, r62, r63, r64, r65, r66, r67, r68, r69, r70, r71, r72, r73, r74, r75, r76, r77, r78, r79, r80, r81, r82, r83, r84, r85, r86, r87, r88, r89, r90, r91, r92, r93, r94, r95, r96, r97, r98, r99, r100, r101, r102, r103, r104, r105, r106, r107, r108, r109, r110, r111, r112, r113, r114, r115, r116, r117, r118, r119, r120, r121, r122, r123, r124, r125, r126, r127, r128, r129, r130, r131, r132, r133, r134, r135, r136, r137, r138, r139, r140, r141, r142, r143, r144, r145, r146, r147, r148, r149, r150, r151, r152, r153, r154, r155, r156, r157, r158, r159, r160, r161, r162, r163, r164, r165, r166, r167, r168, r169, r170, r171, r172, r173, r174, r175, r176, r177, r178, r179, r180, r181, r182, r183, r184, r185, r186, r187, r188, r189, r190, r191, r192, r193, r194, r195, r196, r197, r198, r199, r200, r201, r202, r203, r204, r205, r206, r207, r208, r209]
inductive S4c (A0 A7 A8 A10 A12 A14 A15 A17 : Value) : List Value → Prop
  | mk {r1 r2 r3 r4 r5 r6 r9 r11 r13 r16 r18 r19 r20 r21 r22 r23 r24 r25 r26 r27 r28 r29 r30 r31 r32 r33 r34 r35 r36 r37 r38 r39 r40 r41 r42 r43 r44 r45 r46 r47 r48 r49 r50 r51 r52 r53 r54 r55 r56 r57 r58 r59 r60 r61 r62 r63 r64 r65 r66 r67 r68 r69 r70 r71 r72 r73 r74 r75 r76 r77 r78 r79 r80 r81 r82 r83 r84 r85 r86 r87 r88 r89 r90 r91 r92 r93 r94 r95 r96 r97 r98 r99 r100 r101 r102 r103 r104 r105 r106 r107 r108 r109 r110 r111 r112 r113 r114 r115 r116 r117 r118 r119 r120 r121 r122 r123 r124 r125 r126 r127 r128 r129 r130 r131 r132 r133 r134 r135 r136 r137 r138 r139 r140 r141 r142 r143 r144 r145 r146 r147 r148 r149 r150 r151 r152 r153 r154 r155 r156 r157 r158 r159 r160 r161 r162 r163 r164 r165 r166 r167 r168 r169 r170 r171 r172 r173 r174 r175 r176 r177 r178 r179 r180 r181 r182 r183 r184 r185 r186 r187 r188 r189 r190 r191 r192 r193 r194 r195 r196 r197 r198 r199 r200 r201 r202 r203 r204 r205 r206 r207 r208 r209 : Value} : S4c A0 A7 A8 A10 A12 A14 A15 A17 [A0, r1, r2, r3, r4, r5, r6, A7, A8, r9, A10, r11, A12, r13, A14, A15, r16, A17, r18, r19, r20, r21, r22, r23, r24, r25, r26, r27, r28, r29, r30, r31, r32, r33, r34, r35, r36, r37, r38, r39, r40, r41, r42, r43, r44, r45, r46, r47, r48, r49, r50, r51, r52, r53, r54, r55, r56, r57, r58, r59, r60, r61, r62, r63, r64, r65, r66, r67, r68, r69, r70, r71, r72, r73, r74, r75, r76, r77, r78, r79, r80, r81, r82, r83, r84, r85, r86, r87, r88, r89, r90, r91, r92, r93, r94, r95, r96, r97, r98, r99, r100, r101, r102, r103, r104, r105, r106, r107, r108, r109, r110, r111, r112, r113, r114, r115, r116, r117, r118, r119, r120, r121, r122, r123, r124, r125, r126, r127, r128, r129, r130, r131, r132, r133, r134, r135, r136, r137, r138, r139, r140, r141, r142, r143, r144, r145, r146, r147, r148, r149, r150, r151, r152, r153, r154, r155, r156, r157, r158, r159, r160, r161, r162, r163, r164, r165, r166, r167, r168, r169, r170, r171, r172, r173, r174, r175, r176, r177, r178, r179, r180, r181, r182, r183, r184, r185, r186, r187, r188, r189, r190, r191, r192, r193, r194, r195, r196, r197, r198, r199, r200, r201, r202, r203, r204, r205, r206, r207, r208, r209]
abbrev gapB (t7 g : Nat) : Nat × Blk := (t7, .row 3 [zi (g : Int)] (0, 0))
abbrev fV17 (t7 : Nat) : Value := .func (.func 17) ⟨[]⟩ ⟨[ptr t7]⟩
section
variable {K : Value → Heap → Prop} {R H : Heap} {p q t7 g : Nat} {a : Bs} {i : Int}
theorem c17 (hm : gapB t7 g ∈ H) (h0 : -1 ≤ i) (h1 : i ≤ 1000) (hg : g ≤ 100) (hK : K (zi (toZ g i)) H) : SCalls Tryz.prog 17 [zi i, ptr t7] H K := by
  unfold toZ at hK
  have g0 : (Blk.row 3 [zi (g : Int)] (0, 0)).cell 0 = some (zi (g : Int)) := rfl
  refine enter17 ?_
  by_cases h : (g : Int) ≤ i
  · rw [if_pos h] at hK
    repeat' ((conv => whnf); (first | refine Look.cell hm g0 ?_ | refine Branch.dt h ?_ | exact Keep.all hK | with_reducible refine Val.i64 (by omega) (by omega) ?_))
  · rw [if_neg h] at hK
    repeat' ((conv => whnf); (first | refine Look.cell hm g0 ?_ | refine Branch.df h ?_ | exact Keep.all hK))
theorem l4a {Q : Post} {S0 : List Value} {n : Nat} {la fa : Option Addr} {lc fc fn : Nat} {l : List Fm} (hln : l.length = n) (hn : n ≤ 20) (hg : g ≤ n) (hl : InS frC 12 (.slice la n lc) R l) (hwf : ∀ x ∈ l, x.id < 4294967296) (hm : gapB t7 g ∈ R)
    (hB : Own (BusO p ⟨0, List.replicate (n + 1) n0⟩) (BusO q (insB g ⟨0, List.replicate (n + 1) n0⟩)) R H) (hS : S4a (.slice la n lc) (.slice fa fn fc) (ptr t7) (ptr p) (ptr q) (fV17 t7) (zi 0) S0)
    (hQ : ∀ S H' a, S4a (.slice la n lc) (.slice fa fn fc) (ptr t7) (ptr p) (ptr q) (fV17 t7) (zi ((n + 1 : Nat) : Int)) S → Own (BusO p a) (BusO q (insB g a)) R H' → BsW a → a.ns.length = n + 1 → Q (.exit 0) S H') : SLoop Tryz.prog X4_l2 Q S0 H := by
  refine SLoop.invA (fun (k : Nat) S H' => k ≤ n + 1 ∧ S4a (.slice la n lc) (.slice fa fn fc) (ptr t7) (ptr p) (ptr q) (fV17 t7) (zi (k : Int)) S ∧ ∃ a, Own (BusO p a) (BusO q (insB g a)) R H' ∧ BsW a ∧ a.ns.length = n + 1) (fun k => n + 1 - k) 0
    (Keep.all ⟨Nat.zero_le _, hS, _, hB, BsW.init (by omega) (by omega), by simp⟩) ?_
  clear hS hB
  rintro k S H' ⟨hk, hS, a, hB, hw, hal⟩ R2 hR
  by_cases hlt : k < n + 1
  · have hi : a.is (k : Int) := by unfold Bs.is; rw [hal]; omega
    have hg1 : g ≤ a.ns.length := by omega
    have hA : ∀ K2 : Value → Heap → Prop, (∀ H2, Own (BusO p (a.power (k : Int) true).1) (BusO q (insB g a)) R H2 → K2 (zi (a.power (k : Int) true).2) H2) → SCalls Tryz.prog 10 [ptr p, zi (k : Int), .bool true] H' K2 := fun K2 hk2 => h10 hB hk2
    have hBq : ∀ H2, Own (BusO p (a.power (k : Int) true).1) (BusO q (insB g a)) R H2 → ∀ K2 : Value → Heap → Prop, (∀ H3, Own (BusO p (a.power (k : Int) true).1) (BusO q (insB g (a.power (k : Int) true).1)) R H3 → K2 (zi (a.power (k : Int) true).2) H3) → SCalls Tryz.prog 10 [ptr q, zi (toZ g (k : Int)), .bool true] H2 K2 := fun H2 h2 K2 hk2 => h10 h2.swap fun H3 h3 => by
      rw [insB_power hg1 hi] at h3 ⊢
      exact hk2 H3 h3.swap
    have h17 : ∀ (A B : Heap → Prop) X, Own A B R X → ∀ K2 : Value → Heap → Prop, K2 (zi (toZ g (k : Int))) X → SCalls Tryz.prog 17 [zi (k : Int), ptr t7] X K2 := fun A B X h K2 hk2 => c17 (h.mem _ hm) (by omega) (by omega) (by omega) hk2
    have hw1 : BsW (a.power (k : Int) true).1 := hw.power
    have hl1 : (a.power (k : Int) true).1.ns.length = n + 1 := power_len.trans hal
    have hi1 : (a.power (k : Int) true).1.is (k : Int) := by unfold Bs.is; rw [hl1]; omega
    generalize hb : (a.power (k : Int) true).1 = b at *
    generalize (a.power (k : Int) true).2 = e at *
    have hg2 : g ≤ b.ns.length := by omega
    have hnext : ∀ S H2 b2, S4a (.slice la n lc) (.slice fa fn fc) (ptr t7) (ptr p) (ptr q) (fV17 t7) (zi ((k + 1 : Nat) : Int)) S → Own (BusO p b2) (BusO q (insB g b2)) R H2 → BsW b2 → b2.ns.length = n + 1 → R2 S H2 := fun S H2 b2 g1 g2 g3 g4 => hR (k + 1) S H2 (by omega) (Keep.all ⟨hlt, g1, b2, g2, g3, g4⟩)
    clear hR hQ hB
    by_cases hkn : k < n
    · obtain ⟨f, hf, _, _⟩ := list_at (show k < l.length by omega)
      have hid := hwf f (List.mem_of_getElem? hf)
      obtain ⟨lr, lo, lc2, lb, e1, hlb, hlcc⟩ := inS_at hl frC_len hf
      rw [hln] at e1
      injection e1 with e1 _ e3
      subst e1 e3
      have h11a : ∀ B H2, Own (BusO p b) B R H2 → ∀ K2 : Value → Heap → Prop, (∀ H3, Own (BusO p (b.submit (k : Int) f).1) B R H3 → K2 (zi (b.submit (k : Int) f).2) H3) → SCalls Tryz.prog 11 [ptr p, zi (k : Int), frV f] H2 K2 := fun B H2 h2 K2 hk2 => h11 h2 hid hk2
      have h11b : ∀ H2, Own (BusO p (b.submit (k : Int) f).1) (BusO q (insB g b)) R H2 → ∀ K2 : Value → Heap → Prop, (∀ H3, Own (BusO p (b.submit (k : Int) f).1) (BusO q (insB g (b.submit (k : Int) f).1)) R H3 → K2 (zi (b.submit (k : Int) f).2) H3) → SCalls Tryz.prog 11 [ptr q, zi (toZ g (k : Int)), frV f] H2 K2 := fun H2 h2 K2 hk2 => h11 h2.swap hid fun H3 h3 => by
        rw [insB_submit hg2 hi1] at h3 ⊢
        exact hk2 H3 h3.swap
      have hw2 : BsW (b.submit (k : Int) f).1 := hw1.submit (pl_pl f)
      have hl2 : (b.submit (k : Int) f).1.ns.length = n + 1 := submit_len.trans hl1
      generalize (b.submit (k : Int) f).1 = b2 at *
      generalize (b.submit (k : Int) f).2 = e2 at *
      have hee : (!decide (e2 = e2)) = false := by simp
      have hn2 := hnext
      cases hS
      repeat' ((conv => whnf); (first | refine Branch.dt (show (k : Int) ≤ (n : Int) by omega) ?_ | with_reducible refine hA _ (fun H1 h1 => ?_) | with_reducible refine h17 _ _ _ h1 _ ?_ | with_reducible refine hBq _ h1 _ (fun H2 h2 => ?_) | refine SDraw.held (by kernel_rfl) [(lr, lb)] (.same (h2.mem _ hlb) .nil) ?_ | refine Branch.dt (show (k : Int) < (n : Int) by omega) ?_ | refine Idx.nat hkn ?_ | refine Look.cells (.head _) rfl hlcc ?_ | with_reducible refine h11a _ _ h2 _ (fun H3 h3 => ?_) | with_reducible refine h17 _ _ _ h2 _ ?_ | with_reducible refine h17 _ _ _ h3 _ ?_ | refine Kept.mk (.same (h3.mem _ hlb) .nil) ?_ | refine Kept.mk (.same (h2.mem _ hlb) .nil) ?_ | refine And.intro ?_ ?_ | with_reducible refine h11b _ h3 _ (fun H4 h4 => ?_) | refine Branch.f hee ?_ | exact hn2 _ _ _ .mk h4 hw2 hl2 | with_reducible refine Val.i64 (by omega) (by omega) ?_))
    · have hn2 := hnext
      cases hS
      repeat' ((conv => whnf); (first | refine Branch.dt (show (k : Int) ≤ (n : Int) by omega) ?_ | with_reducible refine hA _ (fun H1 h1 => ?_) | with_reducible refine h17 _ _ _ h1 _ ?_ | with_reducible refine hBq _ h1 _ (fun H2 h2 => ?_) | refine SDraw.held (by kernel_rfl) [] .nil ?_ | refine Branch.df (show ¬ (k : Int) < (n : Int) by omega) ?_ | refine Kept.mk .nil ?_ | refine And.intro ?_ ?_ | exact hn2 _ _ _ .mk h2 hw1 hl1 | with_reducible refine Val.i64 (by omega) (by omega) ?_ | refine Branch.f rfl ?_))
  · obtain rfl : k = n + 1 := by omega
    have hq := fun S h => hQ S _ a h hB hw hal
    clear hR hQ hB
    cases hS
    repeat' ((conv => whnf); (first | refine Branch.df (show ¬ ((n + 1 : Nat) : Int) ≤ (n : Int) by omega) ?_ | exact hq _ .mk))
abbrev okX (n : Nat) (x : Int × Int) : Bool := decide (0 ≤ x.1) && decide (x.1 ≤ (n : Int))
theorem l4b {Q : Post} {S0 : List Value} {n q14 q15 : Nat} {la fa : Option Addr} {lc fc : Nat} {fl : List (Int × Int)} {Y : Heap} (hn : n ≤ 20) (hg : g ≤ n) (hf : InS xC 2 (.slice fa fl.length fc) Y fl) (hbf : fl.length * 16 ≤ 140737488355328) (hm : gapB t7 g ∈ Y)
    (hS : S4b (.slice la n lc) (.slice fa fl.length fc) (ptr t7) (ptr p) (ptr q) (fV17 t7) (.slice (some ⟨q14, 0, none⟩) 0 0) (.slice (some ⟨q15, 0, none⟩) 0 0) (zi 0) S0)
    (hQ : ∀ S a1 c1 M1 a2 c2 M2 L, L = fl.filter (okX n) → Grow xC 2 49 (.slice a1 L.length c1) L M1 → Grow xC 2 49 (.slice a2 L.length c2) (L.map (insX g)) M2 →
      S4b (.slice la n lc) (.slice fa fl.length fc) (ptr t7) (ptr p) (ptr q) (fV17 t7) (.slice a1 L.length c1) (.slice a2 L.length c2) (zi (fl.length : Int)) S → Q (.exit 2) S (M2 ++ (M1 ++ Y))) :
    SLoop Tryz.prog X4_l1 Q S0 ((q15, .row 49 [] (0, 0)) :: (q14, .row 49 [] (0, 0)) :: Y) := by
  refine SLoop.toBuf (A := []) (SLoop.toBuf (A := [_]) ?_)
  refine SLoop.invA (fun (k : Nat) S H' => k ≤ fl.length ∧ ∃ a1 c1 M1 a2 c2 M2 L, L = (fl.take k).filter (okX n) ∧ Grow xC 2 49 (.slice a1 L.length c1) L M1 ∧ Grow xC 2 49 (.slice a2 L.length c2) (L.map (insX g)) M2 ∧
    S4b (.slice la n lc) (.slice fa fl.length fc) (ptr t7) (ptr p) (ptr q) (fV17 t7) (.slice a1 L.length c1) (.slice a2 L.length c2) (zi (k : Int)) S ∧ H' = M2 ++ (M1 ++ Y)) (fun k => fl.length - k) 0
    (Keep.all ⟨Nat.zero_le _, _, 0, _, _, 0, _, [], rfl, .zero, .zero, hS, rfl⟩) ?_
  clear hS
  rintro k S H' ⟨hk, a1, c1, M1, a2, c2, M2, L, hL, hG1, hG2, hS, rfl⟩ R2 hR
  have hfl : fl.length ≤ maxLen := by obtain ⟨_, _, _, h⟩ := hf.sv; exact h
  have hLk : L.length ≤ k := by
    rw [hL]
    refine Nat.le_trans (List.length_filter_le _ _) ?_
    rw [List.length_take]; omega
  by_cases hlt : k < fl.length
  · obtain ⟨x, hx, _, htk⟩ := list_at hlt
    obtain ⟨fr, fo, fc2, fbk, e1, hfb, hfcc⟩ := inS_at hf xC_len hx
    injection e1 with e1 _ e3
    subst e1 e3
    have h0 := hfcc 0 _ rfl
    have h1 := hfcc 1 _ rfl
    have hL1 : (fl.take (k + 1)).filter (okX n) = if okX n x then L ++ [x] else L := by
      rw [htk, List.filter_append, ← hL]
      by_cases ho : okX n x = true
      · rw [if_pos ho, List.filter_cons_of_pos ho]; rfl
      · rw [if_neg ho, List.filter_cons_of_neg ho]; simp
    have hml : (L.map (insX g)).length = L.length := by simp
    have happ1 : ∀ r (o : Oper) (xs xx : Operand) (K2 : Value → Heap → Prop), o.op = .call { callee := .builtin .append, args := #[xs, xx], argTypes := #[46, 46] } → (∀ a' c' M', Grow xC 2 49 (.slice a' (L.length + 1) c') (L ++ [x]) M' → K2 (.slice a' (L.length + 1) c') (M' ++ ((r, .row 49 [zi x.1, zi x.2] (0, 0)) :: (M2 ++ Y)))) →
        RawV Tryz.prog o [.slice a1 L.length c1, .slice (some ⟨r, 0, none⟩) 1 1] ((r, .row 49 [zi x.1, zi x.2] (0, 0)) :: (M2 ++ (M1 ++ Y))) K2 := by
      intro r o xs xx K2 ho hk2
      refine RawV.grow1 (A := (r, .row 49 (xC x) (0, 0)) :: M2) (B := Y) (x := x) (bytes := 16) hG1 (by simp) (.head _) ho (by kernel_rfl) (by decide) xC_len (xC_one _) (by omega) (by omega) (fun a' c' M' g1 => ?_)
      exact hk2 a' c' M' g1
    have happ2 : ∀ r y M1' (o : Oper) (xs xx : Operand) (K2 : Value → Heap → Prop), o.op = .call { callee := .builtin .append, args := #[xs, xx], argTypes := #[46, 46] } → (∀ a' c' M', Grow xC 2 49 (.slice a' (L.length + 1) c') (L.map (insX g) ++ [insX g x]) M' → K2 (.slice a' (L.length + 1) c') (M' ++ ((r, .row 49 [zi (toZ g x.1), zi x.2] (0, 0)) :: (M1' ++ (y :: Y))))) →
        RawV Tryz.prog o [.slice a2 L.length c2, .slice (some ⟨r, 0, none⟩) 1 1] ((r, .row 49 [zi (toZ g x.1), zi x.2] (0, 0)) :: (M1' ++ (y :: (M2 ++ Y)))) K2 := by
      intro r y M1' o xs xx K2 ho hk2
      refine RawV.perm (H2 := [(r, .row 49 [zi (toZ g x.1), zi x.2] (0, 0))] ++ (M2 ++ (M1' ++ (y :: Y)))) (perm_glue' (ls := [[(r, .row 49 [zi (toZ g x.1), zi x.2] (0, 0))], M1', [y], M2, Y]) (p := [0, 1, 2, 3, 4]) (q := [0, 3, 1, 2, 4]) (by decide) (by simp [glue]) (by simp [glue])) ?_
      refine RawV.grow1 (A := [(r, .row 49 (xC (insX g x)) (0, 0))]) (B := M1' ++ (y :: Y)) (x := insX g x) (bytes := 16) hG2 rfl (.head _) ho (by kernel_rfl) (by decide) xC_len (xC_one _) (by rw [hml]; omega) (by rw [hml]; omega) (fun a' c' M' g1 => ?_)
      rw [hml] at g1 ⊢
      exact hk2 a' c' M' g1
    have hn0 : okX n x = false → ∀ S, S4b (.slice la n lc) (.slice (some ⟨fr, fo, none⟩) fl.length fc) (ptr t7) (ptr p) (ptr q) (fV17 t7) (.slice a1 L.length c1) (.slice a2 L.length c2) (zi ((k + 1 : Nat) : Int)) S → R2 S (M2 ++ (M1 ++ Y)) := fun ho S g1 =>
      hR (k + 1) S _ (by omega) (Keep.all ⟨hlt, a1, c1, M1, a2, c2, M2, L, by rw [hL1, ho]; rfl, hG1, hG2, g1, rfl⟩)
    have hn1 : okX n x = true → ∀ S a1' c1' M1' a2' c2' M2' y r, Grow xC 2 49 (.slice a1' (L.length + 1) c1') (L ++ [x]) M1' → Grow xC 2 49 (.slice a2' (L.length + 1) c2') (L.map (insX g) ++ [insX g x]) M2' →
        S4b (.slice la n lc) (.slice (some ⟨fr, fo, none⟩) fl.length fc) (ptr t7) (ptr p) (ptr q) (fV17 t7) (.slice a1' (L.length + 1) c1') (.slice a2' (L.length + 1) c2') (zi ((k + 1 : Nat) : Int)) S → R2 S (M2' ++ (r :: (M1' ++ (y :: Y)))) := fun ho S a1' c1' M1' a2' c2' M2' y r g1 g2 g3 => by
      have e : (L ++ [x]).length = L.length + 1 := by simp
      refine hR (k + 1) S _ (by omega) (Keep.glue [M2', [r], M1', [y], Y] [0, 1, 2, 3, 4] [0, 2, 4] [1, 3] (by decide) (by simp [glue]) ⟨hlt, a1', c1', M1', a2', c2', M2', L ++ [x], by rw [hL1, ho]; rfl, by rw [e]; exact g1, by rw [e, List.map_append]; exact g2, by rw [e]; exact g3, by simp [glue]⟩)
    have hfm : ∀ X1 X2 : Heap, (fr, fbk) ∈ X1 ++ (X2 ++ Y) := fun X1 X2 => List.mem_append_right _ (List.mem_append_right _ hfb)
    have hfm1 : ∀ (X1 : Heap) (y : Nat × Blk) (X2 : Heap), (fr, fbk) ∈ X1 ++ (y :: (X2 ++ Y)) := fun X1 y X2 => List.mem_append_right _ (.tail _ (List.mem_append_right _ hfb))
    have hgm : ∀ (X1 : Heap) (y : Nat × Blk) (X2 : Heap), gapB t7 g ∈ X1 ++ (y :: (X2 ++ Y)) := fun X1 y X2 => List.mem_append_right _ (.tail _ (List.mem_append_right _ hm))
    obtain ⟨xa, xb⟩ := x
    dsimp only at h0 h1 happ1 happ2 hn0 hn1
    clear hR hQ hL1 hG1 hG2
    by_cases hx0 : 0 ≤ xa
    · by_cases hx1 : xa ≤ (n : Int)
      · have ho : okX n (xa, xb) = true := by simp [okX, hx0, hx1]
        have hn2 := hn1 ho
        have h17 : ∀ X, gapB t7 g ∈ X → ∀ K2 : Value → Heap → Prop, K2 (zi (toZ g xa)) X → SCalls Tryz.prog 17 [zi xa, ptr t7] X K2 := fun X hX K2 hk2 => c17 hX (by omega) (by omega) (by omega) hk2
        clear hn0 hn1
        cases hS
        repeat' ((conv => whnf); (first | refine Branch.dt (show (k : Int) < (fl.length : Int) by omega) ?_ | refine Idx.nat hlt ?_ | refine Look.cell (hfm _ _) h0 ?_ | refine Branch.dt hx0 ?_ | refine Branch.dt hx1 ?_ | refine Look.cells (hfm _ _) rfl hfcc ?_ | with_reducible refine happ1 _ _ _ _ _ rfl (fun a1' c1' M1' g1 => ?_) | refine SDraw.held (by kernel_rfl) [(fr, fbk)] (.same (hfm1 _ _ _) .nil) ?_ | refine Look.cell (.head _) h0 ?_ | refine Look.cell (.head _) h1 ?_ | with_reducible refine h17 _ (hgm _ _ _) _ ?_ | refine Kept.mk (.same (hfm1 _ _ _) .nil) ?_ | refine Kept.mk (.same (.tail _ (hfm1 _ _ _)) .nil) ?_ | with_reducible refine happ2 _ _ _ _ _ _ _ rfl (fun a2' c2' M2' g2 => ?_) | exact hn2 _ _ _ _ _ _ _ _ _ g1 g2 .mk | refine New.mk (fun _ => ?_) | with_reducible refine Val.i64 (by omega) (by omega) ?_))
      · have ho : okX n (xa, xb) = false := by simp [okX, hx1]
        have hn2 := hn0 ho
        clear hn0 hn1
        cases hS
        repeat' ((conv => whnf); (first | refine Branch.dt (show (k : Int) < (fl.length : Int) by omega) ?_ | refine Idx.nat hlt ?_ | refine Look.cell (hfm _ _) h0 ?_ | refine Branch.dt hx0 ?_ | refine Branch.df hx1 ?_ | exact hn2 _ .mk | with_reducible refine Val.i64 (by omega) (by omega) ?_))
    · have ho : okX n (xa, xb) = false := by simp [okX, hx0]
      have hn2 := hn0 ho
      clear hn0 hn1
      cases hS
      repeat' ((conv => whnf); (first | refine Branch.dt (show (k : Int) < (fl.length : Int) by omega) ?_ | refine Idx.nat hlt ?_ | refine Look.cell (hfm _ _) h0 ?_ | refine Branch.df hx0 ?_ | exact hn2 _ .mk | with_reducible refine Val.i64 (by omega) (by omega) ?_ | refine Branch.f rfl ?_))
  · obtain rfl : k = fl.length := by omega
    rw [List.take_length] at hL
    have hq := fun S h => hQ S a1 c1 M1 a2 c2 M2 L hL hG1 hG2 h
    clear hR hQ
    cases hS
    repeat' ((conv => whnf); (first | refine Branch.df (by omega) ?_ | exact hq _ .mk))
end
end Go.Proofs.YtfmggepbcpceiaaGreatDoor


/- Layer 4: a node without power changes nothing: the law. -/
set_option linter.unusedVariables false
set_option linter.unusedSimpArgs false
set_option maxRecDepth 100000
set_option maxHeartbeats 4000000
namespace Go.Proofs.YtfmggepbcpceiaaGreatDoor
open Sx
theorem round_high {l : List Sn} {fl : List (Int × Int)} (he : (roundV l fl).e = 0) : (roundV l fl).o.win < 127 := by
  obtain ⟨hc, hr⟩ := round_cases he
  obtain ⟨h127, _⟩ := chkX_ok hc
  rcases hr with ⟨_, e⟩ | ⟨k, w, f, s, _, _, h3, _, _, _, e⟩
  · rw [e]; show (-1 : Int) < 127; decide
  · rw [e]
    obtain ⟨_, _, h4⟩ := comesV_len l (encN f) w (frF l (encN f) w fl)
    have := (List.getElem?_eq_some_iff.1 h3).1
    rw [h4]; omega
section
variable {R H : Heap} {p q t7 g : Nat}
theorem l4c {Q : Post} {S0 : List Value} {n : Nat} {la a1 a2 : Option Addr} {lc c1 c2 : Nat} {L : List (Int × Int)} {a : Bs} (hn : n ≤ 20) (hg : g ≤ n) (hD : Db R) (hm : gapB t7 g ∈ R) (hf1 : InS xC 2 (.slice a1 L.length c1) R L) (hf2 : InS xC 2 (.slice a2 L.length c2) R (L.map (insX g)))
    (hL : ∀ x ∈ L, 0 ≤ x.1 ∧ x.1 ≤ (n : Int)) (hB : Own (BusO p a) (BusO q (insB g a)) R H) (hw : BsW a) (hal : a.ns.length = n + 1)
    (hS : S4c (.slice la n lc) (ptr t7) (ptr p) (ptr q) (fV17 t7) (.slice a1 L.length c1) (.slice a2 L.length c2) (zi 0) S0)
    (hQ : ∀ S H' a, S4c (.slice la n lc) (ptr t7) (ptr p) (ptr q) (fV17 t7) (.slice a1 L.length c1) (.slice a2 L.length c2) (zi 12) S → Own (BusO p a) (BusO q (insB g a)) R H' → Q (.exit 4) S H') : SLoop Tryz.prog X4_l0 Q S0 H := by
  refine SLoop.invA (fun (k : Nat) S H' => k ≤ 12 ∧ S4c (.slice la n lc) (ptr t7) (ptr p) (ptr q) (fV17 t7) (.slice a1 L.length c1) (.slice a2 L.length c2) (zi (k : Int)) S ∧ ∃ a, Own (BusO p a) (BusO q (insB g a)) R H' ∧ BsW a ∧ a.ns.length = n + 1) (fun k => 12 - k) 0
    (Keep.all ⟨Nat.zero_le _, hS, a, hB, hw, hal⟩) ?_
  clear hS hB hw hal
  rintro k S H' ⟨hk, hS, a, hB, hw, hal⟩ R2 hR
  by_cases hlt : k < 12
  · have hg1 : g ≤ a.ns.length := by omega
    have hwb := insB_wf hw hg1 (by omega)
    have hfl : ∀ x ∈ L, 0 ≤ x.1 ∧ x.1 < (a.ns.length : Int) := fun x hx => by have := hL x hx; rw [hal]; omega
    obtain ⟨r1, r2⟩ := insB_rd hg1 (by omega) hfl
    have r3 := insB_step hg1 (by omega) hfl
    have hws : BsW (a.step L) := hw.step
    have hls : (a.step L).ns.length = n + 1 := step_len.trans hal
    have rlo := fun he => round_lows (l := a.snd) (fl := L) he
    have rhi := fun he => round_high (l := a.snd) (fl := L) he
    have h13a : ∀ K2 : Value → Heap → Prop, (∀ ea n1 ec ga n2 gc N H2, Own (BusO p (a.step L)) (BusO q (insB g a)) (N ++ R) H2 → K2 (.tuple ⟨[.agg ⟨[zi (a.rd L).o.win, zi (a.rd L).o.bits, .bool (a.rd L).o.sent, .slice ea n1 ec, .slice ga n2 gc]⟩, zi (a.rd L).e]⟩) H2) → SCalls Tryz.prog 13 [ptr p, .slice a1 L.length c1] H' K2 := fun K2 hk2 =>
      h13 hB hw hD hf1 fun ea ec ga gc N H2 h2 _ => hk2 _ _ _ _ _ _ N H2 h2
    have h13b : ∀ (t : Nat × Blk) N H2, Own (BusO p (a.step L)) (BusO q (insB g a)) (N ++ R) H2 → ∀ K2 : Value → Heap → Prop, (∀ ea n1 ec ga n2 gc N2 H3, Own (BusO p (a.step L)) (BusO q (insB g (a.step L))) (N2 ++ (t :: (N ++ R))) H3 → K2 (.tuple ⟨[.agg ⟨[zi ((insB g a).rd (L.map (insX g))).o.win, zi ((insB g a).rd (L.map (insX g))).o.bits, .bool ((insB g a).rd (L.map (insX g))).o.sent, .slice ea n1 ec, .slice ga n2 gc]⟩, zi (a.rd L).e]⟩) H3) →
        SCalls Tryz.prog 13 [ptr q, .slice a2 L.length c2] (t :: H2) K2 := fun t N H2 h2 K2 hk2 =>
      h13 (h2.cons (z := t)).swap hwb (hD.mono fun z hz => .tail _ (List.mem_append_right _ hz)) (hf2.mono fun z hz => .tail _ (List.mem_append_right _ hz)) fun ea ec ga gc N2 H3 h3 _ => by
        rw [r3] at h3
        rw [r1]
        exact hk2 _ _ _ _ _ _ N2 H3 h3.swap
    have hnext : ∀ S H2 (X : Heap), S4c (.slice la n lc) (ptr t7) (ptr p) (ptr q) (fV17 t7) (.slice a1 L.length c1) (.slice a2 L.length c2) (zi ((k + 1 : Nat) : Int)) S → (∀ z ∈ R, z ∈ X) → Own (BusO p (a.step L)) (BusO q (insB g (a.step L))) X H2 → R2 S H2 := fun S H2 X g1 gX g2 => hR (k + 1) S H2 (by omega) (Keep.all ⟨hlt, g1, _, g2.less gX, hws, hls⟩)
    have hX : ∀ (N2 N : Heap) (t : Nat × Blk), ∀ z ∈ R, z ∈ N2 ++ (t :: (N ++ R)) := fun N2 N t z hz => List.mem_append_right _ (.tail _ (List.mem_append_right _ hz))
    have rlo : (a.rd L).e = 0 → -1 ≤ (a.rd L).o.win ∧ -1 ≤ (a.rd L).bt := rlo
    have rhi : (a.rd L).e = 0 → (a.rd L).o.win < 127 := rhi
    generalize (insB g a).rd (L.map (insX g)) = rd' at *
    generalize a.rd L = rd at *
    obtain ⟨e, bt, ⟨win, bits, sent, errs, got⟩⟩ := rd
    obtain ⟨e', bt', ⟨win', bits', sent', errs', got'⟩⟩ := rd'
    dsimp only at r1 r2 rlo rhi h13a h13b
    clear hR hQ hB hws hls hw hwb
    by_cases he : e = 0
    · subst he
      obtain ⟨_, r5⟩ := r2 rfl
      unfold insO at r5
      injection r5 with e1 e2 e3 _ _
      dsimp only at e1 e2 e3
      subst e1 e2 e3
      obtain ⟨w1, _⟩ := rlo rfl
      have w2 := rhi rfl
      have d3 : (decide (0 ≤ win) == decide (0 ≤ toZ g win)) = true := by
        have : (0 ≤ win) ↔ (0 ≤ toZ g win) := by unfold toZ; split <;> omega
        rw [decide_eq_decide.2 this]; exact beq_self_eq_true _
      have h17 : ∀ X, gapB t7 g ∈ X → ∀ K2 : Value → Heap → Prop, K2 (zi (toZ g win)) X → SCalls Tryz.prog 17 [zi win, ptr t7] X K2 := fun X hX K2 hk2 => c17 hX w1 (by omega) (by omega) hk2
      have hs2 : ∀ (t18 t20 : Nat × Blk) N2 N H3, Own (BusO p (a.step L)) (BusO q (insB g (a.step L))) (N2 ++ (t18 :: (N ++ R))) H3 → Seen (t20 :: H3) [t18, t20] := fun t18 t20 N2 N H3 h => .same (.tail _ (h.mem _ (List.mem_append_right _ (.head _)))) (.same (.head _) .nil)
      have hgm : ∀ (t18 t20 : Nat × Blk) N2 N H3, Own (BusO p (a.step L)) (BusO q (insB g (a.step L))) (N2 ++ (t18 :: (N ++ R))) H3 → gapB t7 g ∈ t20 :: H3 := fun t18 t20 N2 N H3 h => .tail _ (h.mem _ (List.mem_append_right _ (.tail _ (List.mem_append_right _ hm))))
      by_cases hw0 : 0 ≤ win
      · cases hS
        repeat' ((conv => whnf); (first | refine Branch.dt (show (k : Int) < 12 by omega) ?_ | with_reducible refine h13a _ (fun ea n1 ec ga n2 gc N H2 h2 => ?_) | with_reducible refine h13b _ _ _ h2 _ (fun ea' n1' ec' ga' n2' gc' N2 H3 h3 => ?_) | refine SDraw.held (by kernel_rfl) [_, _] (hs2 _ _ _ _ _ h3) ?_ | refine Branch.t d3 ?_ | refine Branch.t (beq_self_eq_true _) ?_ | refine Branch.dt hw0 ?_ | refine h17 _ (hgm _ _ _ _ _ h3) _ ?_ | refine Kept.mk (hs2 _ _ _ _ _ h3) ?_ | exact hnext _ _ _ .mk (hX _ _ _) h3.skip | refine New.mk (fun _ => ?_) | refine Look.at0 ?_ | refine Cell.row ?_ | refine Put.row rfl ?_ | refine Look.at1 ?_ | with_reducible refine Val.i64 (by omega) (by omega) ?_ | refine Branch.not ?_ | refine Branch.dt rfl ?_))
      · cases hS
        repeat' ((conv => whnf); (first | refine Branch.dt (show (k : Int) < 12 by omega) ?_ | with_reducible refine h13a _ (fun ea n1 ec ga n2 gc N H2 h2 => ?_) | with_reducible refine h13b _ _ _ h2 _ (fun ea' n1' ec' ga' n2' gc' N2 H3 h3 => ?_) | refine SDraw.held (by kernel_rfl) [_, _] (hs2 _ _ _ _ _ h3) ?_ | refine Branch.t d3 ?_ | refine Branch.t (beq_self_eq_true _) ?_ | refine Branch.df hw0 ?_ | refine Kept.mk (hs2 _ _ _ _ _ h3) ?_ | exact hnext _ _ _ .mk (hX _ _ _) h3.skip | refine New.mk (fun _ => ?_) | refine Look.at0 ?_ | refine Cell.row ?_ | refine Put.row rfl ?_ | refine Look.at1 ?_ | with_reducible refine Val.i64 (by omega) (by omega) ?_ | refine Branch.not ?_ | refine Branch.dt rfl ?_ | refine Branch.f rfl ?_))
    · cases hS
      repeat' ((conv => whnf); (first | refine Branch.dt (show (k : Int) < 12 by omega) ?_ | with_reducible refine h13a _ (fun ea n1 ec ga n2 gc N H2 h2 => ?_) | with_reducible refine h13b _ _ _ h2 _ (fun ea' n1' ec' ga' n2' gc' N2 H3 h3 => ?_) | refine Branch.df he ?_ | exact hnext _ _ _ .mk (hX _ _ _) h3.skip | refine New.mk (fun _ => ?_) | refine Look.at0 ?_ | refine Put.row rfl ?_ | with_reducible refine Val.i64 (by omega) (by omega) ?_ | refine Branch.not ?_ | refine Branch.dt rfl ?_))
  · obtain rfl : k = 12 := by omega
    have hq := fun S h => hQ S _ a h hB
    clear hR hQ hB
    cases hS
    repeat' ((conv => whnf); (first | refine Branch.df (by decide) ?_ | exact hq _ .mk))
theorem apart_c {la : Option Addr} {lc b : Nat} {l : List Fm} {fv : Value} {fl : List (Int × Int)} (hD : Db H) (hl : InS frC 12 (.slice la l.length lc) H l) (hcap : l.length ≤ lc) (hwf : ∀ x ∈ l, x.id < 4294967296) (hb : b ≤ 255) (hf : InS xC 2 fv H fl) (hbf : fl.length * 16 ≤ 140737488355328) :
    SCalls Tryz.prog 4 [.slice la l.length lc, .int .u8 (b : Int), fv] H fun v _ => v = .bool true := by
  obtain ⟨fa, fc, rfl, _⟩ := hf.sv
  have hk9 : ∀ (n g t7 : Nat), n ≤ 20 → ∀ K2 : Value → Heap → Prop, (∀ p H', Own (BusO p ⟨0, List.replicate (n + 1) n0⟩) NoB (gapB t7 g :: H) H' → K2 (.tuple ⟨[ptr p, zi 0]⟩) H') → SCalls Tryz.prog 9 [zi ((n : Int) + 1)] (gapB t7 g :: H) K2 := fun n g t7 hn K2 hk => by
    have e : ((n : Int) + 1) = ((n + 1 : Nat) : Int) := rfl
    rw [e]
    exact h9 (Own.none fun z hz => hz) (by omega) (by omega) hk
  have hk9b : ∀ (n g t7 p : Nat) H1, n ≤ 20 → g ≤ n → Own (BusO p ⟨0, List.replicate (n + 1) n0⟩) NoB (gapB t7 g :: H) H1 → ∀ K2 : Value → Heap → Prop, (∀ q H', Own (BusO p ⟨0, List.replicate (n + 1) n0⟩) (BusO q (insB g ⟨0, List.replicate (n + 1) n0⟩)) (gapB t7 g :: H) H' → K2 (.tuple ⟨[ptr q, zi 0]⟩) H') → SCalls Tryz.prog 9 [zi ((n : Int) + 2)] H1 K2 := fun n g t7 p H1 hn hg h K2 hk => by
    have e : ((n : Int) + 2) = ((n + 2 : Nat) : Int) := rfl
    rw [e]
    refine h9 h.swap (by omega) (by omega) fun q H' h' => hk q H' ?_
    have e2 : insB g ⟨0, List.replicate (n + 1) n0⟩ = ⟨0, List.replicate (n + 2) n0⟩ := by
      unfold insB
      dsimp only
      rw [← ins_rep (y := n0) (by omega)]
    rw [e2]
    exact h'.swap
  have hmod : ∀ n : Nat, (b : Int).tmod ((n : Int) + 1) = ((b % (n + 1) : Nat) : Int) := fun n => rfl
  have hgl : ∀ n : Nat, b % (n + 1) ≤ n := fun n => by have := Nat.mod_lt b (show 0 < n + 1 by omega); omega
  have hgt : ∀ z : Nat × Blk, ∀ w ∈ H, w ∈ z :: H := fun z w hw => .tail _ hw
  have hk16 : ∀ (A B : Heap → Prop) (R X : Heap), Own A B R X → (∀ z ∈ H, z ∈ R) → ∀ K2 : Value → Heap → Prop, K2 (.bool true) X → SCalls Tryz.prog 16 [] X K2 := fun A B R X h hs K2 hk => h16 h (hD.mono hs) hk
  have hflt : ∀ n : Nat, ∀ x ∈ fl.filter (okX n), 0 ≤ x.1 ∧ x.1 ≤ (n : Int) := fun n x hx => by
    have := (List.mem_filter.1 hx).2
    simpa [okX] using this
  have hR : ∀ (M1 M2 : Heap) (z : Nat × Blk), ∀ w ∈ H, w ∈ M2 ++ (M1 ++ (z :: H)) := fun M1 M2 z w hw => List.mem_append_right _ (List.mem_append_right _ (.tail _ hw))
  have hR7 : ∀ (M1 M2 : Heap) (z : Nat × Blk), z ∈ M2 ++ (M1 ++ (z :: H)) := fun M1 M2 z => List.mem_append_right _ (List.mem_append_right _ (.head _))
  have hM1 : ∀ (M1 M2 X : Heap), ∀ z ∈ M1, z ∈ M2 ++ (M1 ++ X) := fun M1 M2 X z hz => List.mem_append_right _ (List.mem_append_left _ hz)
  have hM2 : ∀ (M1 M2 X : Heap), ∀ z ∈ M2, z ∈ M2 ++ (M1 ++ X) := fun M1 M2 X z hz => List.mem_append_left _ hz
  refine enter4 ?_
  by_cases hlt : 20 < l.length
  · have hl2 := InS.take (n := 20) hl (by omega)
    have hln : (l.take 20).length = 20 := by simp; omega
    have hwf2 : ∀ x ∈ l.take 20, x.id < 4294967296 := fun x hx => hwf x (List.mem_of_mem_take hx)
    generalize l.take 20 = L at *
    have hm20 := hmod 20
    have hg20 := hgl 20
    have hc9 := hk9 20
    have hc9b := hk9b 20
    have hfl20 := hflt 20
    clear hl hwf hmod hgl hk9 hk9b hflt
    repeat' ((conv => whnf); (first | refine Branch.dt (show (20 : Int) < (l.length : Int) by omega) ?_ | refine Idx.of 20 rfl (by omega) ?_ | refine Val.to _ hm20 ?_ | refine hc9 _ _ (by decide) _ (fun p H1 h1 => ?_) | refine hc9b _ _ _ _ (by decide) hg20 h1 _ (fun q H2 h2 => ?_) | (refine l4a (n := 20) hln (by decide) hg20 (hl2.mono (hgt _)) hwf2 (.head _) h2 .mk (fun S H3 a hS h3 hw hal => ?_); cases hS) | (refine l4b (n := 20) (by decide) hg20 (hf.mono fun z hz => h3.mem _ (.tail _ hz)) hbf (h3.mem _ (.head _)) .mk (fun S a1 c1 M1 a2 c2 M2 L2 hL2 hG1 hG2 hS => ?_); cases hS) | (refine l4c (n := 20) (by decide) hg20 (hD.mono (hR M1 M2 _)) (hR7 M1 M2 _) (hG1.ins xC_len (hM1 _ _ _)) (hG2.ins xC_len (hM2 _ _ _)) (by rw [hL2]; exact hfl20) h3.app.app hw hal .mk (fun S H5 a' hS h5 => ?_); cases hS) | refine hk16 _ _ _ _ h5 (hR _ _ _) _ ?_ | exact Keep.all rfl | refine New.mk (fun _ => ?_) | refine Look.at0 ?_ | refine Put.row rfl ?_ | with_reducible refine Val.i64 (by omega) (by omega) ?_ | refine Branch.not ?_ | refine Branch.dt rfl ?_ | refine Branch.f rfl ?_ | refine Need.mk (by first | omega | decide | rfl) ?_))
  · have hn : l.length ≤ 20 := by omega
    have hm20 := hmod l.length
    have hg20 := hgl l.length
    have hc9 := hk9 l.length
    have hc9b := hk9b l.length
    have hfl20 := hflt l.length
    clear hmod hgl hk9 hk9b hflt
    repeat' ((conv => whnf); (first | refine Branch.df (show ¬ (20 : Int) < (l.length : Int) by omega) ?_ | refine Val.to _ hm20 ?_ | refine hc9 _ _ hn _ (fun p H1 h1 => ?_) | refine hc9b _ _ _ _ hn hg20 h1 _ (fun q H2 h2 => ?_) | (refine l4a (n := l.length) rfl hn hg20 (hl.mono (hgt _)) hwf (.head _) h2 .mk (fun S H3 a hS h3 hw hal => ?_); cases hS) | (refine l4b (n := l.length) hn hg20 (hf.mono fun z hz => h3.mem _ (.tail _ hz)) hbf (h3.mem _ (.head _)) .mk (fun S a1 c1 M1 a2 c2 M2 L2 hL2 hG1 hG2 hS => ?_); cases hS) | (refine l4c (n := l.length) hn hg20 (hD.mono (hR M1 M2 _)) (hR7 M1 M2 _) (hG1.ins xC_len (hM1 _ _ _)) (hG2.ins xC_len (hM2 _ _ _)) (by rw [hL2]; exact hfl20) h3.app.app hw hal .mk (fun S H5 a' hS h5 => ?_); cases hS) | refine hk16 _ _ _ _ h5 (hR _ _ _) _ ?_ | exact Keep.all rfl | refine New.mk (fun _ => ?_) | refine Look.at0 ?_ | refine Put.row rfl ?_ | with_reducible refine Val.i64 (by omega) (by omega) ?_ | refine Branch.not ?_ | refine Branch.dt rfl ?_ | refine Branch.f rfl ?_ | refine Need.mk (by first | omega | decide | rfl) ?_))
end
end Go.Proofs.YtfmggepbcpceiaaGreatDoor


/- Layer 4: the document's bus in memory: one node of it: by walks. -/
set_option linter.unusedVariables false
set_option linter.unusedSimpArgs false
set_option maxRecDepth 100000
set_option maxHeartbeats 4000000
namespace Go.Proofs.YtfmggepbcpceiaaGreatDoor
open Sx
section
variable {t : TypeId} {pre c post vs : List Value} {N O j k : Nat} {v : Value} {K : Blk → Prop}
theorem Put.o (hO : O = pre.length) (hj : Nat.ble (j + vs.length) c.length = true) (h : K (.buf t (pre ++ ((c.take j ++ vs ++ c.drop (j + vs.length)) ++ post)) N)) : Put (.buf t (pre ++ (c ++ post)) N) (O + j) vs K := by
  subst hO
  have hj := Nat.le_of_ble_eq_true hj
  refine ⟨_, PutOk.buf (cs' := pre ++ ((c.take j ++ vs ++ c.drop (j + vs.length)) ++ post)) ?_ ?_, h⟩
  · simp; omega
  · rw [List.take_append, List.drop_append, List.take_of_length_le (by omega), List.drop_of_length_le (by omega), show pre.length + j - pre.length = j by omega, show pre.length + j + vs.length - pre.length = j + vs.length by omega, List.take_append_of_le_length (by omega), List.drop_append_of_le_length hj]
    simp
end
/-- A node of the document's. -/
abbrev dC (x : Nd) (iv : Value) : List Value := .bool x.on :: (uC x.u ++ (.bool x.box.isSome :: (frC (x.box.getD z0) ++ [iv])))
structure Dn where
  (x : Nd) (iv : Value)
def dnC (d : Dn) : List Value := dC d.x d.iv
theorem dnC_len (d : Dn) : (dnC d).length = 19 := rfl
abbrev dR (q b n c t : Nat) : Nat × Blk := (q, .row 116 [.slice (some ⟨b, 0, none⟩) n c, .int .u64 (t : Int)] (0, 0))
inductive DocO (q : Nat) (s : Bs) : Heap → Prop
  | mk {b c : Nat} {ds : List Dn} {G : Heap} : ds.map (·.x) = s.ns → (∀ d ∈ ds, InS frC 12 d.iv G d.x.inn) → DocO q s (dR q b s.ns.length c s.time :: (b, .buf 126 (ds.flatMap dnC) (c * 19)) :: G)
theorem DocO.focus {q : Nat} {s : Bs} {F : Heap} {i : Int} (h : DocO q s F) (hi : s.is i) :
    ∃ b c pre post iv N G, F = dR q b s.ns.length c s.time :: (b, .buf 126 (pre ++ (dC (s.at i) iv ++ post)) N) :: G ∧ 0 + i.toNat * 19 = pre.length ∧ InS frC 12 iv G (s.at i).inn ∧ i.toNat < s.ns.length ∧
      ∀ x' iv' X t, InS frC 12 iv' (X ++ G) x'.inn → DocO q ⟨t, s.ns.set i.toNat x'⟩ (dR q b s.ns.length c t :: (b, .buf 126 (pre ++ (dC x' iv' ++ post)) N) :: (X ++ G)) := by
  obtain ⟨hi0, hi1⟩ := hi
  have hil : i.toNat < s.ns.length := by omega
  cases h with
  | @mk b c ds G h1 h2 =>
    have hdl : ds.length = s.ns.length := by rw [← h1, List.length_map]
    obtain ⟨d, hd, _, _⟩ := list_at (show i.toNat < ds.length by omega)
    have hat : s.at i = d.x := by
      unfold Bs.at
      rw [List.getD_eq_getElem?_getD, ← h1, List.getElem?_map, hd]; rfl
    have hsp := list_split hd
    have hcs : ds.flatMap dnC = (ds.take i.toNat).flatMap dnC ++ (dnC d ++ (ds.drop (i.toNat + 1)).flatMap dnC) := by
      conv => lhs; rw [hsp]
      rw [List.flatMap_append, List.flatMap_cons]
    refine ⟨b, c, (ds.take i.toNat).flatMap dnC, (ds.drop (i.toNat + 1)).flatMap dnC, d.iv, c * 19, G, by rw [hcs, hat]; rfl, ?_, by rw [hat]; exact h2 d (List.mem_of_getElem? hd), hil, fun x' iv' X t hin => ?_⟩
    · rw [flat_len dnC_len, List.length_take, Nat.zero_add]
      congr 1; omega
    · have hset := list_set (x' := (⟨x', iv'⟩ : Dn)) hd
      have hcs' : (ds.set i.toNat ⟨x', iv'⟩).flatMap dnC = (ds.take i.toNat).flatMap dnC ++ (dC x' iv' ++ (ds.drop (i.toNat + 1)).flatMap dnC) := by
        rw [hset, List.flatMap_append, List.flatMap_cons]; rfl
      have := DocO.mk (q := q) (s := ⟨t, s.ns.set i.toNat x'⟩) (b := b) (c := c) (ds := ds.set i.toNat ⟨x', iv'⟩) (G := X ++ G) (by rw [List.map_set, h1]) (fun e he => by
        rcases List.mem_or_eq_of_mem_set he with he | rfl
        · exact (h2 e he).mono fun z hz => List.mem_append_right _ hz
        · exact hin)
      rw [hcs'] at this
      simpa using this
theorem DocO.row {q : Nat} {s : Bs} {F : Heap} (h : DocO q s F) : ∃ b c, dR q b s.ns.length c s.time ∈ F := by
  cases h with
  | mk h1 h2 => exact ⟨_, _, .head _⟩
section
variable {K : Value → Heap → Prop} {F H : Heap} {q b n c t : Nat} {s : Bs} {i : Int} {on : Bool} {f : Fm}
end
end Go.Proofs.YtfmggepbcpceiaaGreatDoor


/- Layer 4: the document's bus: frames in, back, and out: by walks. -/
set_option linter.unusedVariables false
set_option linter.unusedSimpArgs false
set_option maxRecDepth 100000
set_option maxHeartbeats 4000000
namespace Go.Proofs.YtfmggepbcpceiaaGreatDoor
open Sx
section
variable {K : Value → Heap → Prop} {F H : Heap} {q : Nat} {s : Bs} {i : Int} {f : Fm}
end
end Go.Proofs.YtfmggepbcpceiaaGreatDoor


/- Layer 4: a new bus, the document's: by walks. -/
set_option linter.unusedVariables false
set_option linter.unusedSimpArgs false
set_option maxRecDepth 100000
set_option maxHeartbeats 4000000
namespace Go.Proofs.YtfmggepbcpceiaaGreatDoor
open Sx Go.RowKit
section
variable {K : Value → Heap → Prop} {H : Heap}
end
end Go.Proofs.YtfmggepbcpceiaaGreatDoor


/- Layer 4: the document's nodes as they go into a round: by walks. -/
set_option linter.unusedVariables false
set_option linter.unusedSimpArgs false
set_option maxRecDepth 100000
set_option maxHeartbeats 4000000
namespace Go.Proofs.YtfmggepbcpceiaaGreatDoor
open Sx
section
variable {K : Value → Heap → Prop} {H HH : Heap} {q b n c t : Nat}
end
end Go.Proofs.YtfmggepbcpceiaaGreatDoor


/- Layer 4: what came of a round is taken in, the document's loop: by walks. -/
set_option linter.unusedVariables false
set_option linter.unusedSimpArgs false
set_option maxRecDepth 100000
set_option maxHeartbeats 4000000
namespace Go.Proofs.YtfmggepbcpceiaaGreatDoor
open Sx
section
variable {K : Value → Heap → Prop} {P Y : Heap} {b N O : Nat} {u : Un} {pre post rest : List Value} {on : Bool}
end
end Go.Proofs.YtfmggepbcpceiaaGreatDoor


/- Layer 4: what came of a round is taken in, the document's loop: by walks. -/
set_option linter.unusedVariables false
set_option linter.unusedSimpArgs false
set_option maxRecDepth 100000
set_option maxHeartbeats 4000000
namespace Go.Proofs.YtfmggepbcpceiaaGreatDoor
open Sx
theorem PutOk.o {t : TypeId} {pre c post vs : List Value} {N O j : Nat} (hO : O = pre.length) (hj : Nat.ble (j + vs.length) c.length = true) : PutOk (.buf t (pre ++ (c ++ post)) N) (O + j) vs (.buf t (pre ++ ((c.take j ++ vs ++ c.drop (j + vs.length)) ++ post)) N) := by
  subst hO
  have hj := Nat.le_of_ble_eq_true hj
  refine PutOk.buf ?_ ?_
  · simp; omega
  · rw [List.take_append, List.drop_append, List.take_of_length_le (by omega), List.drop_of_length_le (by omega), show pre.length + j - pre.length = j by omega, show pre.length + j + vs.length - pre.length = j + vs.length by omega, List.take_append_of_le_length (by omega), List.drop_append_of_le_length hj]
    simp
section
variable {X : Heap} {q t7 T : Nat} {ns : List Nd} {o : Out} {bt : Int} {la ea ga : Option Addr} {lc ec gc : Nat}
end
end Go.Proofs.YtfmggepbcpceiaaGreatDoor


/- Layer 4: a round of the document's bus: by walks. -/
set_option linter.unusedVariables false
set_option linter.unusedSimpArgs false
set_option maxRecDepth 100000
set_option maxHeartbeats 4000000
namespace Go.Proofs.YtfmggepbcpceiaaGreatDoor
open Sx
section
variable {K : Value → Heap → Prop} {F H : Heap} {q : Nat} {s : Bs} {lv fv : Value} {fl : List (Int × Int)} {l : List Sn}
end
end Go.Proofs.YtfmggepbcpceiaaGreatDoor


/- Layer 4: what happens on a bus, the program's and the document's: by walks. -/
set_option linter.unusedVariables false
set_option linter.unusedSimpArgs false
set_option maxRecDepth 100000
set_option maxHeartbeats 4000000
namespace Go.Proofs.YtfmggepbcpceiaaGreatDoor
open Sx
section
variable {B : Heap → Prop} {R H : Heap} {K : Value → Heap → Prop} {q : Nat} {s : Bs} {i : Int} {on : Bool} {f : Fm} {fl : List (Int × Int)} {fv : Value}
end
section
variable {K : Value → Heap → Prop} {H : Heap}
end
/-- Something that happens on a bus. -/
structure Ac where
  (kind node : Int) (on : Bool) (f : Fm) (fl : List (Int × Int)) (fa : Option Addr) (fc : Nat) (times : Nat)
abbrev Ac.cells (a : Ac) : List Value := [zi a.kind, zi a.node, .bool a.on, .int .u32 (a.f.id : Int), .bool a.f.x, .bool a.f.r, .int .i64 a.f.n, b8 a.f.d0, b8 a.f.d1, b8 a.f.d2, b8 a.f.d3, b8 a.f.d4, b8 a.f.d5, b8 a.f.d6, b8 a.f.d7, .slice a.fa a.fl.length a.fc, .int .u8 (a.times : Int)]
def Bs.act (s : Bs) (a : Ac) : Bs :=
  if a.kind = 0 then (s.power a.node a.on).1 else if a.kind = 1 then (s.submit a.node a.f).1 else if a.kind = 2 then (s.cancel a.node).1 else if a.kind = 3 then s.step a.fl else if a.kind = 4 then (s.fetch a.node).1 else s
theorem BsW.act {s : Bs} (h : BsW s) (a : Ac) : BsW (s.act a) := by
  unfold Bs.act
  split
  · exact h.power
  · split
    · exact h.submit (pl_pl _)
    · split
      · exact h.cancel
      · split
        · exact h.step
        · split
          · exact h.fetch
          · exact h
end Go.Proofs.YtfmggepbcpceiaaGreatDoor


/- Layer 4: something happens, to the program's bus and to the document's: by walks. -/
set_option linter.unusedVariables false
set_option linter.unusedSimpArgs false
set_option maxRecDepth 100000
set_option maxHeartbeats 4000000
namespace Go.Proofs.YtfmggepbcpceiaaGreatDoor
open Sx
section
variable {R H : Heap} {K : Value → Heap → Prop} {p q : Nat} {s : Bs} {a : Ac}
end
end Go.Proofs.YtfmggepbcpceiaaGreatDoor


/- Layer 4: whether a bus is the document's: by walks. -/
set_option linter.unusedVariables false
set_option linter.unusedSimpArgs false
set_option maxRecDepth 100000
set_option maxHeartbeats 4000000
namespace Go.Proofs.YtfmggepbcpceiaaGreatDoor
open Sx
section
variable {B : Heap → Prop} {R H : Heap} {K : Value → Heap → Prop} {p q : Nat} {s : Bs} {i : Int}
end
end Go.Proofs.YtfmggepbcpceiaaGreatDoor


/- Layer 4: whatever happens, a bus is the document's: the law, by walks. -/
set_option linter.unusedVariables false
set_option linter.unusedSimpArgs false
set_option maxRecDepth 100000
set_option maxHeartbeats 4000000
namespace Go.Proofs.YtfmggepbcpceiaaGreatDoor
open Sx
/-- What is asked of what happens. -/
structure AcOk (a : Ac) (H : Heap) : Prop where
  f : InS xC 2 (.slice a.fa a.fl.length a.fc) H a.fl
  b : a.fl.length * 16 ≤ 140737488355328
  i : a.f.id < 4294967296
  t : a.times ≤ 255
theorem AcOk.mono {a : Ac} {H H' : Heap} (h : AcOk a H) (hs : ∀ z ∈ H, z ∈ H') : AcOk a H' := ⟨h.f.mono hs, h.b, h.i, h.t⟩
section
variable {R H : Heap} {p q : Nat}
end
end Go.Proofs.YtfmggepbcpceiaaGreatDoor


/- Layer 4: the laws, of what the rows tell. -/
set_option linter.unusedVariables false
set_option linter.unusedSimpArgs false
set_option maxRecDepth 100000
set_option maxHeartbeats 4000000
namespace Go.Proofs.YtfmggepbcpceiaaGreatDoor
open Sx
theorem BusTurnedW (a0a : Option Addr) (a0l : Nat) (a0c : Nat) (a1a : Option Addr) (a1l : Nat) (a1c : Nat) (w : World) (h0_0 : SliceAt 14 B57 R57 w a0a a0l a0c) (h1_0 : SliceAt 2 B49 R49 w a1a a1l a1c) (hL : laidMet Tryz.prog Rows.busTurnedRow.laid w) :
    Calls Tryz.prog 6 #[.slice a0a a0l a0c, .slice a1a a1l a1c] w fun e w' => e = .returned (.bool true) ∧ Go.RowKit.Below w.heap.size w w' := by
  obtain ⟨hD, hw, hx⟩ := db_of hL
  obtain ⟨H, L, rfl, hin, hwf, hw2, x2, hb⟩ := senders_of h0_0
  obtain ⟨G, M, rfl, hac, haw, hw3, x3, hb3⟩ := flips_of h1_0
  have hj := Holds.join (Holds.join hw hw2 hx x2) hw3 (excl_join hx x2) x3
  exact (turned_c (hD.mono fun p hp => List.mem_append_left _ (List.mem_append_left _ hp)) (hin.mono fun p hp => List.mem_append_left _ (List.mem_append_right _ hp)) hwf hb (hac.mono fun p hp => List.mem_append_right _ hp) hb3).fin w hj (excl_join (excl_join hx x2) x3)
theorem BusTwiceW (a0x0 : Int) (a0x1 : Bool) (a0x2 : Bool) (a0x3 : Int) (a0x4_0 : Int) (a0x4_1 : Int) (a0x4_2 : Int) (a0x4_3 : Int) (a0x4_4 : Int) (a0x4_5 : Int) (a0x4_6 : Int) (a0x4_7 : Int) (a1 : Int) (w : World) (h0_0 : (Lit.int .u32 a0x0).wf = true) (h0_1 : (Lit.int .i64 a0x3).wf = true) (h0_2 : (Lit.int .u8 a0x4_0).wf = true) (h0_3 : (Lit.int .u8 a0x4_1).wf = true) (h0_4 : (Lit.int .u8 a0x4_2).wf = true) (h0_5 : (Lit.int .u8 a0x4_3).wf = true) (h0_6 : (Lit.int .u8 a0x4_4).wf = true) (h0_7 : (Lit.int .u8 a0x4_5).wf = true) (h0_8 : (Lit.int .u8 a0x4_6).wf = true) (h0_9 : (Lit.int .u8 a0x4_7).wf = true) (h1_0 : (Lit.int .u8 a1).wf = true) (hL : laidMet Tryz.prog Rows.busTwiceRow.laid w) :
    Calls Tryz.prog 7 #[.agg #[.int .u32 a0x0, .bool a0x1, .bool a0x2, .int .i64 a0x3, .int .u8 a0x4_0, .int .u8 a0x4_1, .int .u8 a0x4_2, .int .u8 a0x4_3, .int .u8 a0x4_4, .int .u8 a0x4_5, .int .u8 a0x4_6, .int .u8 a0x4_7], .int .u8 a1] w fun e w' => e = .returned (.bool true) ∧ Go.RowKit.Below w.heap.size w w' := by
  obtain ⟨hD, hw, hx⟩ := db_of hL
  obtain ⟨f, hf, hfw⟩ := frame_of (x := a0x1) (r := a0x2) h0_0 h0_1 h0_2 h0_3 h0_4 h0_5 h0_6 h0_7 h0_8 h0_9
  have hf2 : Value.agg #[.int .u32 a0x0, .bool a0x1, .bool a0x2, .int .i64 a0x3, .int .u8 a0x4_0, .int .u8 a0x4_1, .int .u8 a0x4_2, .int .u8 a0x4_3, .int .u8 a0x4_4, .int .u8 a0x4_5, .int .u8 a0x4_6, .int .u8 a0x4_7] = frV f := congrArg (fun l => Value.agg ⟨l⟩) hf
  rw [hf2]
  have hb := wf_u8 h1_0
  obtain ⟨b, rfl⟩ : ∃ b : Nat, a1 = (b : Int) := ⟨a1.toNat, by omega⟩
  exact (twice_c hD hfw.1 (by omega)).fin w hw hx
theorem BusEndsW (a0a : Option Addr) (a0l : Nat) (a0c : Nat) (w : World) (h0_0 : SliceAt 12 B32 R32 w a0a a0l a0c) (hL : laidMet Tryz.prog Rows.busEndsRow.laid w) :
    Calls Tryz.prog 3 #[.slice a0a a0l a0c] w fun e w' => e = .returned (.bool true) ∧ Go.RowKit.Below w.heap.size w w' := by
  obtain ⟨hD, hw, hx⟩ := db_of hL
  have hcap := h0_0.1
  obtain ⟨H, L, rfl, hin, hwf, hw2, x2, hb⟩ := frames_of h0_0
  exact (ends_c (hD.mono fun p hp => List.mem_append_left _ hp) (hin.mono fun p hp => List.mem_append_right _ hp) hcap (fun x hx => (hwf x hx).1)).fin w (Holds.join hw hw2 hx x2) (excl_join hx x2)
theorem BusApartW (a0a : Option Addr) (a0l : Nat) (a0c : Nat) (a1 : Int) (a2a : Option Addr) (a2l : Nat) (a2c : Nat) (w : World) (h0_0 : SliceAt 12 B32 R32 w a0a a0l a0c) (h1_0 : (Lit.int .u8 a1).wf = true) (h2_0 : SliceAt 2 B49 R49 w a2a a2l a2c) (hL : laidMet Tryz.prog Rows.busApartRow.laid w) :
    Calls Tryz.prog 4 #[.slice a0a a0l a0c, .int .u8 a1, .slice a2a a2l a2c] w fun e w' => e = .returned (.bool true) ∧ Go.RowKit.Below w.heap.size w w' := by
  obtain ⟨hD, hw, hx⟩ := db_of hL
  have hcap := h0_0.1
  obtain ⟨H, L, rfl, hin, hwf, hw2, x2, hb⟩ := frames_of h0_0
  obtain ⟨G, M, rfl, hac, haw, hw3, x3, hb3⟩ := flips_of h2_0
  have hb := wf_u8 h1_0
  obtain ⟨b, rfl⟩ : ∃ b : Nat, a1 = (b : Int) := ⟨a1.toNat, by omega⟩
  have hj := Holds.join (Holds.join hw hw2 hx x2) hw3 (excl_join hx x2) x3
  exact (apart_c (hD.mono fun p hp => List.mem_append_left _ (List.mem_append_left _ hp)) (hin.mono fun p hp => List.mem_append_left _ (List.mem_append_right _ hp)) hcap (fun x hx => (hwf x hx).1) (by omega) (hac.mono fun p hp => List.mem_append_right _ hp) hb3).fin w hj (excl_join (excl_join hx x2) x3)
structure AcJ where
  (kind node : Int) (on : Bool) (f : Fm) (fa : Option Addr) (fn fc : Nat) (times : Nat)
abbrev AcJ.cells (a : AcJ) : List Value := [zi a.kind, zi a.node, .bool a.on, .int .u32 (a.f.id : Int), .bool a.f.x, .bool a.f.r, .int .i64 a.f.n, b8 a.f.d0, b8 a.f.d1, b8 a.f.d2, b8 a.f.d3, b8 a.f.d4, b8 a.f.d5, b8 a.f.d6, b8 a.f.d7, .slice a.fa a.fn a.fc, .int .u8 (a.times : Int)]
end Go.Proofs.YtfmggepbcpceiaaGreatDoor


