/- Layer 24: the document's tick: by walks. -/
import Derived.Test.YtmakaofdpoiaaaaFlS
set_option linter.unusedVariables false
set_option linter.unusedSimpArgs false
set_option maxRecDepth 100000
set_option maxHeartbeats 4000000
namespace Go.Proofs.Ytmakaofdpoiaaaa
open Sx
section
variable {α β : Type} {f : α → α} {p : α → β} {l : List α} {j : Nat} {x : α} {v : β}
theorem upI (hx : l[j]? = some x) (e : p (f x) = v) : ((updTo f j l).map p).set j v = (updTo f (j + 1) l).map p := by
  rw [← e, ← List.map_set, updTo_set hx]
theorem sameI (hx : l[j]? = some x) (e : p (f x) = p x) : (updTo f j l).map p = (updTo f (j + 1) l).map p := by
  rw [← updTo_set hx]
  exact (map_set_same (updTo_nth hx) e).symm
theorem nthI (hx : l[j]? = some x) : ((updTo f j l).map p)[j]? = some (p x) := by
  rw [List.getElem?_map, updTo_nth hx]; rfl
end
/-- How long one waits, or did not hear. -/
def tOf (m : M) : Int := if m.is = 3 then m.mute else m.left
theorem tOf_3 {m : M} (h : m.is = 3) : tOf m = m.mute := if_pos h
theorem tOf_n {m : M} (h : ¬ m.is = 3) : tOf m = m.left := if_neg h
/-- What an elder state leaves. -/
structure Canon (m : M) : Prop where
  r : 0 ≤ m.is ∧ m.is ≤ 3
  a0 : m.is = 0 → m.left = 0 ∧ m.mute = 0 ∧ m.of_ = 0
  a1 : m.is = 1 → m.mute = 0 ∧ m.of_ = 0
  a2 : m.is = 2 → m.left = 0 ∧ m.mute = 0 ∧ m.of_ = 0
  a3 : m.is = 3 → m.left = 0
theorem t1M_is' (x : M) : (t1M x).is = x.is := by unfold t1M; (repeat' split) <;> rfl
theorem tOf_t1 {x : M} (h : x.is = 1) : tOf (t1M x) = (tOf x - 1) % 18446744073709551616 := by
  rw [tOf_n (by rw [t1M_is']; omega), tOf_n (by omega)]; unfold t1M; rw [if_pos h]
theorem tOf_t3 {x : M} (h : x.is = 3) : tOf (t1M x) = (tOf x + 1) % 18446744073709551616 := by
  rw [tOf_3 (by rw [t1M_is']; omega), tOf_3 h]; unfold t1M; rw [if_neg (by omega), if_pos h]
theorem tOf_tn {x : M} (h1 : ¬ x.is = 1) (h3 : ¬ x.is = 3) : tOf (t1M x) = tOf x := by
  unfold t1M; rw [if_neg h1, if_neg h3]
/-- The ref net of some masters. -/
def rM (d r1 r2 r3 r4 n c N : Nat) (slot lost : Int) (L : List Mas) (l : List M) : Heap := rh d r1 r2 r3 r4 n c N slot lost L (l.map M.is) (l.map tOf) (l.map M.of_)
/-- The last one that leads. -/
def Lead (t : Int) (j : Nat) (l : List M) : Prop := (t = -1 ∧ ∀ (i : Nat) x, i < j → l[i]? = some x → x.is ≠ 2) ∨ ∃ k x, k < j ∧ t = ((k : Nat) : Int) ∧ l[k]? = some x ∧ x.is = 2
inductive S25a (A0 A3 A4 A5 : Value) : List Value → Prop
  | mk {r1 r2 r6 r7 r8 r9 r10 r11 r12 r13 r14 r15 r16 r17 r18 r19 r20 r21 r22 r23 r24 r25 r26 r27 r28 r29 r30 r31 r32 r33 r34 r35 r36 r37 r38 r39 r40 r41 r42 r43 r44 r45 r46 r47 r48 r49 r50 r51 r52 r53 r54 r55 r56 r57 r58 r59 r60 r61 r62 r63 r64 r65 r66 r67 r68 r69 r70 r71 r72 r73 r74 r75 r76 r77 r78 r79 r80 r81 r82 r83 r84 r85 r86 r87 r88 r89 r90 r91 r92 r93 r94 r95 r96 r97 r98 r99 r100 r101 r102 r103 r104 r105 r106 r107 r108 r109 r110 r111 r112 r113 r114 r115 r116 r117 r118 r119 r120 r121 r122 r123 r124 r125 r126 r127 r128 r129 r130 r131 r132 r133 r134 r135 r136 r137 r138 r139 r140 r141 r142 r143 r144 r145 r146 r147 r148 r149 r150 r151 r152 r153 r154 r155 r156 r157 r158 r159 r160 r161 r162 r163 r164 r165 r166 r167 r168 r169 r170 r171 r172 r173 r174 r175 r176 r177 r178 r179 r180 r181 r182 r183 r184 r185 r186 r187 r188 r189 r190 r191 r192 r193 r194 r195 r196 r197 r198 r199 r200 r201 r202 r203 r204 r205 r206 r207 r208 : Value} : S25a A0 A3 A4 A5 [A0, r1, r2, A3, A4, A5, r6, r7, r8, r9, r10, r11, r12, r13, r14, r15, r16, r17, r18, r19, r20, r21, r22, r23, r24, r25, r26, r27, r28, r29, r30, r31, r32, r33, r34, r35, r36, r37, r38, r39, r40, r41, r42, r43, r44, r45, r46, r47, r48, r49, r50, r51, r52, r53, r54, r55, r56, r57, r58, r59, r60, r61, r62, r63, r64, r65, r66, r67, r68, r69, r70, r71, r72, r73, r74, r75, r76, r77, r78, r79, r80, r81, r82, r83, r84, r85, r86, r87, r88, r89, r90, r91, r92, r93, r94, r95, r96, r97, r98, r99, r100, r101, r102, r103, r104, r105, r106, r107, r108, r109, r110, r111, r112, r113, r114, r115, r116, r117, r118, r119, r120, r121, r122, r123, r124, r125, r126, r127, r128, r129, r130, r131, r132, r133, r134, r135, r136, r137, r138, r139, r140, r141, r142, r143, r144, r145, r146, r147, r148, r149, r150, r151, r152, r153, r154, r155, r156, r157, r158, r159, r160, r161, r162, r163, r164, r165, r166, r167, r168, r169, r170, r171, r172, r173, r174, r175, r176, r177, r178, r179, r180, r181, r182, r183, r184, r185, r186, r187, r188, r189, r190, r191, r192, r193, r194, r195, r196, r197, r198, r199, r200, r201, r202, r203, r204, r205, r206, r207, r208]
inductive S25b (A0 A3 A4 A6 : Value) : List Value → Prop
  | mk {r1 r2 r5 r7 r8 r9 r10 r11 r12 r13 r14 r15 r16 r17 r18 r19 r20 r21 r22 r23 r24 r25 r26 r27 r28 r29 r30 r31 r32 r33 r34 r35 r36 r37 r38 r39 r40 r41 r42 r43 r44 r45 r46 r47 r48 r49 r50 r51 r52 r53 r54 r55 r56 r57 r58 r59 r60 r61 r62 r63 r64 r65 r66 r67 r68 r69 r70 r71 r72 r73 r74 r75 r76 r77 r78 r79 r80 r81 r82 r83 r84 r85 r86 r87 r88 r89 r90 r91 r92 r93 r94 r95 r96 r97 r98 r99 r100 r101 r102 r103 r104 r105 r106 r107 r108 r109 r110 r111 r112 r113 r114 r115 r116 r117 r118 r119 r120 r121 r122 r123 r124 r125 r126 r127 r128 r129 r130 r131 r132 r133 r134 r135 r136 r137 r138 r139 r140 r141 r142 r143 r144 r145 r146 r147 r148 r149 r150 r151 r152 r153 r154 r155 r156 r157 r158 r159 r160 r161 r162 r163 r164 r165 r166 r167 r168 r169 r170 r171 r172 r173 r174 r175 r176 r177 r178 r179 r180 r181 r182 r183 r184 r185 r186 r187 r188 r189 r190 r191 r192 r193 r194 r195 r196 r197 r198 r199 r200 r201 r202 r203 r204 r205 r206 r207 r208 : Value} : S25b A0 A3 A4 A6 [A0, r1, r2, A3, A4, r5, A6, r7, r8, r9, r10, r11, r12, r13, r14, r15, r16, r17, r18, r19, r20, r21, r22, r23, r24, r25, r26, r27, r28, r29, r30, r31, r32, r33, r34, r35, r36, r37, r38, r39, r40, r41, r42, r43, r44, r45, r46, r47, r48, r49, r50, r51, r52, r53, r54, r55, r56, r57, r58, r59, r60, r61, r62, r63, r64, r65, r66, r67, r68, r69, r70, r71, r72, r73, r74, r75, r76, r77, r78, r79, r80, r81, r82, r83, r84, r85, r86, r87, r88, r89, r90, r91, r92, r93, r94, r95, r96, r97, r98, r99, r100, r101, r102, r103, r104, r105, r106, r107, r108, r109, r110, r111, r112, r113, r114, r115, r116, r117, r118, r119, r120, r121, r122, r123, r124, r125, r126, r127, r128, r129, r130, r131, r132, r133, r134, r135, r136, r137, r138, r139, r140, r141, r142, r143, r144, r145, r146, r147, r148, r149, r150, r151, r152, r153, r154, r155, r156, r157, r158, r159, r160, r161, r162, r163, r164, r165, r166, r167, r168, r169, r170, r171, r172, r173, r174, r175, r176, r177, r178, r179, r180, r181, r182, r183, r184, r185, r186, r187, r188, r189, r190, r191, r192, r193, r194, r195, r196, r197, r198, r199, r200, r201, r202, r203, r204, r205, r206, r207, r208]
inductive S25c (A0 A3 A4 A7 : Value) : List Value → Prop
  | mk {r1 r2 r5 r6 r8 r9 r10 r11 r12 r13 r14 r15 r16 r17 r18 r19 r20 r21 r22 r23 r24 r25 r26 r27 r28 r29 r30 r31 r32 r33 r34 r35 r36 r37 r38 r39 r40 r41 r42 r43 r44 r45 r46 r47 r48 r49 r50 r51 r52 r53 r54 r55 r56 r57 r58 r59 r60 r61 r62 r63 r64 r65 r66 r67 r68 r69 r70 r71 r72 r73 r74 r75 r76 r77 r78 r79 r80 r81 r82 r83 r84 r85 r86 r87 r88 r89 r90 r91 r92 r93 r94 r95 r96 r97 r98 r99 r100 r101 r102 r103 r104 r105 r106 r107 r108 r109 r110 r111 r112 r113 r114 r115 r116 r117 r118 r119 r120 r121 r122 r123 r124 r125 r126 r127 r128 r129 r130 r131 r132 r133 r134 r135 r136 r137 r138 r139 r140 r141 r142 r143 r144 r145 r146 r147 r148 r149 r150 r151 r152 r153 r154 r155 r156 r157 r158 r159 r160 r161 r162 r163 r164 r165 r166 r167 r168 r169 r170 r171 r172 r173 r174 r175 r176 r177 r178 r179 r180 r181 r182 r183 r184 r185 r186 r187 r188 r189 r190 r191 r192 r193 r194 r195 r196 r197 r198 r199 r200 r201 r202 r203 r204 r205 r206 r207 r208 : Value} : S25c A0 A3 A4 A7 [A0, r1, r2, A3, A4, r5, r6, A7, r8, r9, r10, r11, r12, r13, r14, r15, r16, r17, r18, r19, r20, r21, r22, r23, r24, r25, r26, r27, r28, r29, r30, r31, r32, r33, r34, r35, r36, r37, r38, r39, r40, r41, r42, r43, r44, r45, r46, r47, r48, r49, r50, r51, r52, r53, r54, r55, r56, r57, r58, r59, r60, r61, r62, r63, r64, r65, r66, r67, r68, r69, r70, r71, r72, r73, r74, r75, r76, r77, r78, r79, r80, r81, r82, r83, r84, r85, r86, r87, r88, r89, r90, r91, r92, r93, r94, r95, r96, r97, r98, r99, r100, r101, r102, r103, r104, r105, r106, r107, r108, r109, r110, r111, r112, r113, r114, r115, r116, r117, r118, r119, r120, r121, r122, r123, r124, r125, r126, r127, r128, r129, r130, r131, r132, r133, r134, r135, r136, r137, r138, r139, r140, r141, r142, r143, r144, r145, r146, r147, r148, r149, r150, r151, r152, r153, r154, r155, r156, r157, r158, r159, r160, r161, r162, r163, r164, r165, r166, r167, r168, r169, r170, r171, r172, r173, r174, r175, r176, r177, r178, r179, r180, r181, r182, r183, r184, r185, r186, r187, r188, r189, r190, r191, r192, r193, r194, r195, r196, r197, r198, r199, r200, r201, r202, r203, r204, r205, r206, r207, r208]
section
variable {K : Value → Heap → Prop} {d r1 r2 r3 r4 n c N : Nat} {slot lost : Int} {L : List Mas} {l : List M} {Q : Post}
theorem Lead.no {t : Int} {j : Nat} {x : M} (h : Lead t j l) (hx : l[j]? = some x) (h2 : ¬ x.is = 2) : Lead t (j + 1) l := by
  rcases h with ⟨rfl, h⟩ | ⟨k, y, hk, ht, hy, h3⟩
  · refine .inl ⟨rfl, fun i y hi hy => ?_⟩
    by_cases e : i = j
    · subst e; rw [hx] at hy; injection hy with hy; subst hy; exact h2
    · exact h i y (by omega) hy
  · exact .inr ⟨k, y, by omega, ht, hy, h3⟩
theorem Lead.yes {j : Nat} {x : M} (hx : l[j]? = some x) (h2 : x.is = 2) : Lead (j : Int) (j + 1) l := .inr ⟨j, x, by omega, rfl, hx, h2⟩
def I25a (d r1 r2 r3 r4 n c N : Nat) (slot lost : Int) (L : List Mas) (l : List M) (S : List Value) (H : Heap) : Prop :=
  ∃ (j : Nat) (t : Int), j ≤ n ∧ Lead t j l ∧ S25a (.pointer (some ⟨d, 0, none⟩)) (.int .i64 t) (.int .i64 0) (.int .i64 (j : Int)) S ∧ H = rh d r1 r2 r3 r4 n c N slot lost L (l.map M.is) ((updTo t1M j l).map tOf) (l.map M.of_)
noncomputable def atN (l : List Value) (i : Nat) : Nat := match getL l i with | .int _ i => i.toNat | _ => 0
noncomputable def M25 (i n : Nat) (l : List Value) (_ : Heap) : Nat := n - atN l i
theorem l25a (hn : n = l.length) (hL : L.length = n) (hlen : l.length ≤ 8) (S : List Value) (hS : S25a (.pointer (some ⟨d, 0, none⟩)) (.int .i64 (-1)) (.int .i64 0) (.int .i64 0) S)
    (hQ : ∀ S t v, Lead t n l → S25a (.pointer (some ⟨d, 0, none⟩)) (.int .i64 t) (.int .i64 0) v S → Q (.exit 0) S (rh d r1 r2 r3 r4 n c N slot lost L (l.map M.is) ((l.map t1M).map tOf) (l.map M.of_))) :
    SLoop Try.prog X25_l2 Q S (rM d r1 r2 r3 r4 n c N slot lost L l) := by
  refine SLoop.inv (I25a d r1 r2 r3 r4 n c N slot lost L l) (M25 5 n) (Keep.all ⟨0, -1, by omega, .inl ⟨rfl, fun i x hi => by omega⟩, hS, by rw [updTo_zero]; rfl⟩) ?_
  clear hS S
  rintro S H ⟨j, t, hj, ht, hS, rfl⟩ R hR
  by_cases hlt : j < n
  · cases hS
    obtain ⟨x, hx⟩ : ∃ x, l[j]? = some x := ⟨_, List.getElem?_eq_getElem (by omega)⟩
    have fin : ∀ (S : List Value) (t : Int) (ts : List Int), Lead t (j + 1) l → ts = (updTo t1M (j + 1) l).map tOf → S25a (.pointer (some ⟨d, 0, none⟩)) (.int .i64 t) (.int .i64 0) (.int .i64 ((j + 1 : Nat) : Int)) S → atN S 5 = j + 1 → R S (rh d r1 r2 r3 r4 n c N slot lost L (l.map M.is) ts (l.map M.of_)) := by
      rintro S t ts e1 rfl e2 e3
      refine hR _ _ (Keep.all ⟨⟨j + 1, t, by omega, e1, e2, rfl⟩, ?_⟩)
      unfold M25
      rw [e3]
      show n - (j + 1) < n - Int.toNat (j : Int)
      omega
    have hI : (l.map M.is)[j]? = some x.is := by rw [List.getElem?_map, hx]; rfl
    have hT := nthI (f := t1M) (p := tOf) hx
    have hTl : j < ((updTo t1M j l).map tOf).length := (List.getElem?_eq_some_iff.1 hT).1
    unfold rh at fin ⊢
    repeat' ((conv => whnf); (first
        | refine Cell.nthI hI ?_
        | refine Cell.nthI hT ?_
        | refine Put.nthI hTl ?_
        | refine New.mk (fun _ => ?_)
        | refine Look.at0 ?_
        | refine Cell.row ?_
        | refine Cell.buf ?_
        | refine Cells.row rfl ?_
        | refine Put.row rfl ?_
        | refine Put.buf rfl ?_
        | refine Look.at1 ?_
        | refine Look.at2 ?_
        | refine Look.at3 ?_
        | refine Look.at4 ?_
        | refine Look.at5 ?_
        | refine Look.at6 ?_
        | refine Look.at7 ?_
        | refine Look.at8 ?_
        | with_reducible refine Val.i64 (by omega) (by omega) ?_
        | with_reducible refine Val.u8 (by omega) (by omega) ?_
        | with_reducible refine Val.u32 (by omega) (by omega) ?_
        | with_reducible refine Val.u64 (by omega) (by omega) ?_
        | with_reducible refine Val.u8m ?_
        | with_reducible refine Val.u32m ?_
        | with_reducible refine Val.u64m ?_
        | with_reducible refine Val.shr8 ?_
        | with_reducible refine Val.shr16 (by decide) ?_
        | with_reducible refine Val.shr24 (by decide) ?_
        | with_reducible refine Val.raw ?_
        | refine Branch.not ?_
        | refine Branch.and ?_
        | refine Branch.or ?_
        | refine Branch.dt (by assumption) ?_
        | refine Branch.df (by assumption) ?_
        | refine Branch.dt rfl ?_
        | refine Branch.dt (by omega) ?_
        | refine Branch.df (by omega) ?_
        | refine Branch.t rfl ?_
        | refine Branch.f rfl ?_
        | refine Branch.t (by assumption) ?_
        | refine Branch.f (by assumption) ?_
        | refine Branch.d (fun _ => ?_) (fun _ => ?_)
        | refine Branch.mk (fun _ => ?_) (fun _ => ?_)
        | refine Need.mk (by first | omega | decide | rfl) ?_
        | refine Idx.nat (by omega) ?_
        | refine Idx.auto (by first | omega | decide) (by first | omega | decide) ?_
        | refine Cell.ro rfl ?_
        | refine SDraw.all (by kernel_rfl) ?_
        | refine Kept.k0 ?_
        | refine Kept.k1 ?_
        | refine Kept.k2 ?_
        | refine Kept.k3 ?_
        | refine Kept.k4 ?_))
    all_goals (conv => whnf)
    all_goals first
      | exact fin _ _ _ (ht.no hx (by omega)) (upI hx (tOf_t1 (by omega))) .mk rfl
      | exact fin _ _ _ (ht.no hx (by omega)) (upI hx (tOf_t3 (by omega))) .mk rfl
      | exact fin _ _ _ (.yes hx (by omega)) (sameI hx (tOf_tn (by omega) (by omega))) .mk rfl
      | exact fin _ _ _ (ht.no hx (by omega)) (sameI hx (tOf_tn (by omega) (by omega))) .mk rfl
      | trace_state
  · have e : j = n := by omega
    subst e
    rw [updTo_all (by omega)]
    cases hS
    unfold rh at hQ ⊢
    repeat' ((conv => whnf); (first
        | refine New.mk (fun _ => ?_)
        | refine Look.at0 ?_
        | refine Cell.row ?_
        | refine Cell.buf ?_
        | refine Cells.row rfl ?_
        | refine Put.row rfl ?_
        | refine Put.buf rfl ?_
        | refine Look.at1 ?_
        | refine Look.at2 ?_
        | refine Look.at3 ?_
        | refine Look.at4 ?_
        | refine Look.at5 ?_
        | refine Look.at6 ?_
        | refine Look.at7 ?_
        | refine Look.at8 ?_
        | with_reducible refine Val.i64 (by omega) (by omega) ?_
        | with_reducible refine Val.u8 (by omega) (by omega) ?_
        | with_reducible refine Val.u32 (by omega) (by omega) ?_
        | with_reducible refine Val.u64 (by omega) (by omega) ?_
        | with_reducible refine Val.u8m ?_
        | with_reducible refine Val.u32m ?_
        | with_reducible refine Val.u64m ?_
        | with_reducible refine Val.shr8 ?_
        | with_reducible refine Val.shr16 (by decide) ?_
        | with_reducible refine Val.shr24 (by decide) ?_
        | with_reducible refine Val.raw ?_
        | refine Branch.not ?_
        | refine Branch.and ?_
        | refine Branch.or ?_
        | refine Branch.dt (by assumption) ?_
        | refine Branch.df (by assumption) ?_
        | refine Branch.dt rfl ?_
        | refine Branch.dt (by omega) ?_
        | refine Branch.df (by omega) ?_
        | refine Branch.t rfl ?_
        | refine Branch.f rfl ?_
        | refine Branch.t (by assumption) ?_
        | refine Branch.f (by assumption) ?_
        | refine Branch.d (fun _ => ?_) (fun _ => ?_)
        | refine Branch.mk (fun _ => ?_) (fun _ => ?_)
        | refine Need.mk (by first | omega | decide | rfl) ?_
        | refine Idx.nat (by omega) ?_
        | refine Idx.auto (by first | omega | decide) (by first | omega | decide) ?_
        | refine Cell.ro rfl ?_
        | refine SDraw.all (by kernel_rfl) ?_
        | refine Kept.k0 ?_
        | refine Kept.k1 ?_
        | refine Kept.k2 ?_
        | refine Kept.k3 ?_
        | refine Kept.k4 ?_))
    all_goals (conv => whnf)
    exact hQ _ _ _ ht .mk
/-- The best of those that claim. -/
def Best (t : Int) (j : Nat) (l : List M) : Prop := (t = -1 ∧ claimM (l.take j) = none) ∨ ∃ k x, t = ((k : Nat) : Int) ∧ l[k]? = some x ∧ claimM (l.take j) = some x
theorem claim_succ {j : Nat} {x : M} (hx : l[j]? = some x) : claimM (l.take (j + 1)) = stepM (claimM (l.take j)) x := by
  obtain ⟨hlt, rfl⟩ := List.getElem?_eq_some_iff.1 hx
  rw [List.take_succ_eq_append_getElem hlt]
  unfold claimM
  rw [List.foldl_append]; rfl
theorem Best.no {t : Int} {j : Nat} {x : M} (h : Best t j l) (hx : l[j]? = some x) (h2 : ¬ (x.is = 1 ∧ x.left = 0)) : Best t (j + 1) l := by
  have e : claimM (l.take (j + 1)) = claimM (l.take j) := by rw [claim_succ hx]; unfold stepM; rw [if_neg h2]
  unfold Best
  rw [e]; exact h
theorem Best.first {j : Nat} {x : M} (h : claimM (l.take j) = none) (hx : l[j]? = some x) (h2 : x.is = 1) (h3 : x.left = 0) : Best (j : Int) (j + 1) l := by
  refine .inr ⟨j, x, rfl, hx, ?_⟩
  rw [claim_succ hx, h]; unfold stepM; rw [if_pos ⟨h2, h3⟩]
theorem ahead_ord (x y : M) : aheadB (masOf x) (masOf y) = decide (ord x.prio x.node y.prio y.node < 0) := by
  unfold aheadB ord masOf
  by_cases h1 : x.prio < y.prio
  · simp [h1]
  · by_cases h2 : y.prio < x.prio
    · have h3 : ¬ x.prio = y.prio := by omega
      simp [h1, h2, h3]
    · have h3 : x.prio = y.prio := by omega
      by_cases h4 : x.node < y.node
      · simp [h3, h4]
      · by_cases h5 : y.node < x.node <;> simp [h3, h4, h5]
theorem ahead1 {x y : Mas} (h : x.prio < y.prio) : aheadB x y = true := by simp [aheadB, h]
theorem ahead2 {x y : Mas} (h : x.prio = y.prio) (h2 : x.node < y.node) : aheadB x y = true := by simp [aheadB, h, h2]
theorem ahead3 {x y : Mas} (h : ¬ x.prio < y.prio) (h2 : ¬ x.prio = y.prio) : aheadB x y = false := by simp [aheadB, h, h2]
theorem ahead4 {x y : Mas} (h : ¬ x.prio < y.prio) (h2 : ¬ x.node < y.node) : aheadB x y = false := by simp only [aheadB, h, h2, decide_false, Bool.and_false, Bool.or_false]
theorem Best.ahead {j : Nat} {x y : M} (h : claimM (l.take j) = some y) (hx : l[j]? = some x) (h2 : x.is = 1) (h3 : x.left = 0) (ha : aheadB (masOf x) (masOf y) = true) : Best (j : Int) (j + 1) l := by
  refine .inr ⟨j, x, rfl, hx, ?_⟩
  rw [ahead_ord] at ha
  rw [claim_succ hx, h]; unfold stepM; rw [if_pos ⟨h2, h3⟩]
  exact if_pos (of_decide_eq_true ha)
theorem Best.behind {j k : Nat} {x y : M} (h : claimM (l.take j) = some y) (hx : l[j]? = some x) (hk : l[k]? = some y) (ha : aheadB (masOf x) (masOf y) = false) : Best (k : Int) (j + 1) l := by
  refine .inr ⟨k, y, rfl, hk, ?_⟩
  rw [ahead_ord] at ha
  rw [claim_succ hx, h]; unfold stepM
  split
  · exact if_neg (of_decide_eq_false ha)
  · rfl
def I25b (d n : Nat) (l : List M) (H0 : Heap) (S : List Value) (H : Heap) : Prop :=
  ∃ (j : Nat) (t : Int), j ≤ n ∧ Best t j l ∧ S25b (.pointer (some ⟨d, 0, none⟩)) (.int .i64 t) (.int .i64 0) (.int .i64 (j : Int)) S ∧ H = H0
theorem l25b (hn : n = l.length) (hL : L = l.map masOf) (hlen : l.length ≤ 8) (S : List Value) (hS : S25b (.pointer (some ⟨d, 0, none⟩)) (.int .i64 (-1)) (.int .i64 0) (.int .i64 0) S)
    (hQ : ∀ S t v, Best t n l → S25b (.pointer (some ⟨d, 0, none⟩)) (.int .i64 t) (.int .i64 0) v S → Q (.exit 2) S (rM d r1 r2 r3 r4 n c N slot lost L l)) :
    SLoop Try.prog X25_l1 Q S (rM d r1 r2 r3 r4 n c N slot lost L l) := by
  refine SLoop.inv (I25b d n l (rM d r1 r2 r3 r4 n c N slot lost L l)) (M25 6 n) (Keep.all ⟨0, -1, by omega, .inl ⟨rfl, rfl⟩, hS, rfl⟩) ?_
  clear hS S
  rintro S H ⟨j, t, hj, ht, hS, rfl⟩ R hR
  have hLn : L.length = n := by rw [hL, List.length_map, hn]
  by_cases hlt : j < n
  · cases hS
    obtain ⟨x, hx⟩ : ∃ x, l[j]? = some x := ⟨_, List.getElem?_eq_getElem (by omega)⟩
    have fin : ∀ (S : List Value) (t : Int), Best t (j + 1) l → S25b (.pointer (some ⟨d, 0, none⟩)) (.int .i64 t) (.int .i64 0) (.int .i64 ((j + 1 : Nat) : Int)) S → atN S 6 = j + 1 → R S (rM d r1 r2 r3 r4 n c N slot lost L l) := by
      rintro S t e1 e2 e3
      refine hR _ _ (Keep.all ⟨⟨j + 1, t, by omega, e1, e2, rfl⟩, ?_⟩)
      unfold M25
      rw [e3]
      show n - (j + 1) < n - Int.toNat (j : Int)
      omega
    have hI : (l.map M.is)[j]? = some x.is := by rw [List.getElem?_map, hx]; rfl
    have hT : (l.map tOf)[j]? = some (tOf x) := by rw [List.getElem?_map, hx]; rfl
    have hLx : L[j]? = some (masOf x) := by rw [hL, List.getElem?_map, hx]; rfl
    have tl : x.is = 1 → tOf x = x.left := fun h => tOf_n (by omega)
    unfold rM rh at fin ⊢
    rcases ht with ⟨rfl, ht⟩ | ⟨k, y, rfl, hy, ht⟩
    · repeat' ((conv => whnf); (first
          | refine Cell.nthI hI ?_
          | refine Cell.nthI hT ?_
          | refine New.mk (fun _ => ?_)
          | refine Look.at0 ?_
          | refine Cell.row ?_
          | refine Cell.buf ?_
          | refine Cells.row rfl ?_
          | refine Put.row rfl ?_
          | refine Put.buf rfl ?_
          | refine Look.at1 ?_
          | refine Look.at2 ?_
          | refine Look.at3 ?_
          | refine Look.at4 ?_
          | refine Look.at5 ?_
          | refine Look.at6 ?_
          | refine Look.at7 ?_
          | refine Look.at8 ?_
          | with_reducible refine Val.i64 (by omega) (by omega) ?_
          | with_reducible refine Val.u8 (by omega) (by omega) ?_
          | with_reducible refine Val.u32 (by omega) (by omega) ?_
          | with_reducible refine Val.u64 (by omega) (by omega) ?_
          | with_reducible refine Val.u8m ?_
          | with_reducible refine Val.u32m ?_
          | with_reducible refine Val.u64m ?_
          | with_reducible refine Val.shr8 ?_
          | with_reducible refine Val.shr16 (by decide) ?_
          | with_reducible refine Val.shr24 (by decide) ?_
          | with_reducible refine Val.raw ?_
          | refine Branch.not ?_
          | refine Branch.and ?_
          | refine Branch.or ?_
          | refine Branch.dt (by assumption) ?_
          | refine Branch.df (by assumption) ?_
          | refine Branch.dt rfl ?_
          | refine Branch.dt (by omega) ?_
          | refine Branch.df (by omega) ?_
          | refine Branch.t rfl ?_
          | refine Branch.f rfl ?_
          | refine Branch.t (by assumption) ?_
          | refine Branch.f (by assumption) ?_
          | refine Branch.d (fun _ => ?_) (fun _ => ?_)
          | refine Branch.mk (fun _ => ?_) (fun _ => ?_)
          | refine Need.mk (by first | omega | decide | rfl) ?_
          | refine Idx.nat (by omega) ?_
          | refine Idx.auto (by first | omega | decide) (by first | omega | decide) ?_
          | refine Cell.ro rfl ?_
          | refine SDraw.all (by kernel_rfl) ?_
          | refine Kept.k0 ?_
          | refine Kept.k1 ?_
          | refine Kept.k2 ?_
          | refine Kept.k3 ?_
          | refine Kept.k4 ?_))
      all_goals (conv => whnf)
      all_goals first
        | exact fin _ _ (Best.first ht hx (by omega) (by rw [← tl (by omega)]; assumption)) .mk rfl
        | exact fin _ _ (Best.no (.inl ⟨rfl, ht⟩) hx (fun h => by have := tl h.1; omega)) .mk rfl
        | trace_state
    · have hkn := (List.getElem?_eq_some_iff.1 hy).1
      have hLy : L[k]? = some (masOf y) := by rw [hL, List.getElem?_map, hy]; rfl
      repeat' ((conv => whnf); (first
          | refine Cell.nthI hI ?_
          | refine Cell.nthI hT ?_
          | refine Cells.flat Mas.len hLx ?_
          | refine Cells.flat Mas.len hLy ?_
          | refine c39 (masOf x) (masOf y) ?_
          | refine New.mk (fun _ => ?_)
          | refine Look.at0 ?_
          | refine Cell.row ?_
          | refine Cell.buf ?_
          | refine Cells.row rfl ?_
          | refine Put.row rfl ?_
          | refine Put.buf rfl ?_
          | refine Look.at1 ?_
          | refine Look.at2 ?_
          | refine Look.at3 ?_
          | refine Look.at4 ?_
          | refine Look.at5 ?_
          | refine Look.at6 ?_
          | refine Look.at7 ?_
          | refine Look.at8 ?_
          | with_reducible refine Val.i64 (by omega) (by omega) ?_
          | with_reducible refine Val.u8 (by omega) (by omega) ?_
          | with_reducible refine Val.u32 (by omega) (by omega) ?_
          | with_reducible refine Val.u64 (by omega) (by omega) ?_
          | with_reducible refine Val.u8m ?_
          | with_reducible refine Val.u32m ?_
          | with_reducible refine Val.u64m ?_
          | with_reducible refine Val.shr8 ?_
          | with_reducible refine Val.shr16 (by decide) ?_
          | with_reducible refine Val.shr24 (by decide) ?_
          | with_reducible refine Val.raw ?_
          | refine Branch.not ?_
          | refine Branch.and ?_
          | refine Branch.or ?_
          | refine Branch.dt (by assumption) ?_
          | refine Branch.df (by assumption) ?_
          | refine Branch.dt rfl ?_
          | refine Branch.dt (by omega) ?_
          | refine Branch.df (by omega) ?_
          | refine Branch.t rfl ?_
          | refine Branch.f rfl ?_
          | refine Branch.t (by assumption) ?_
          | refine Branch.f (by assumption) ?_
          | refine Branch.d (fun _ => ?_) (fun _ => ?_)
          | refine Branch.mk (fun _ => ?_) (fun _ => ?_)
          | refine Need.mk (by first | omega | decide | rfl) ?_
          | refine Idx.nat (by omega) ?_
          | refine Idx.auto (by first | omega | decide) (by first | omega | decide) ?_
          | refine Cell.ro rfl ?_
          | refine SDraw.all (by kernel_rfl) ?_
          | refine Kept.k0 ?_
          | refine Kept.k1 ?_
          | refine Kept.k2 ?_
          | refine Kept.k3 ?_
          | refine Kept.k4 ?_))
      all_goals (conv => whnf)
      all_goals first
        | exact fin _ _ (Best.ahead ht hx (by omega) (by rw [← tl (by omega)]; assumption) (ahead1 ‹_›)) .mk rfl
        | exact fin _ _ (Best.ahead ht hx (by omega) (by rw [← tl (by omega)]; assumption) (ahead2 ‹_› ‹_›)) .mk rfl
        | exact fin _ _ (Best.behind ht hx hy (ahead3 ‹_› ‹_›)) .mk rfl
        | exact fin _ _ (Best.behind ht hx hy (ahead4 ‹_› ‹_›)) .mk rfl
        | exact fin _ _ (Best.no (.inr ⟨k, y, rfl, hy, ht⟩) hx (fun h => by have := tl h.1; omega)) .mk rfl
        | trace_state
  · have e : j = n := by omega
    subst e
    cases hS
    unfold rM rh at hQ ⊢
    repeat' ((conv => whnf); (first
        | refine New.mk (fun _ => ?_)
        | refine Look.at0 ?_
        | refine Cell.row ?_
        | refine Cell.buf ?_
        | refine Cells.row rfl ?_
        | refine Put.row rfl ?_
        | refine Put.buf rfl ?_
        | refine Look.at1 ?_
        | refine Look.at2 ?_
        | refine Look.at3 ?_
        | refine Look.at4 ?_
        | refine Look.at5 ?_
        | refine Look.at6 ?_
        | refine Look.at7 ?_
        | refine Look.at8 ?_
        | with_reducible refine Val.i64 (by omega) (by omega) ?_
        | with_reducible refine Val.u8 (by omega) (by omega) ?_
        | with_reducible refine Val.u32 (by omega) (by omega) ?_
        | with_reducible refine Val.u64 (by omega) (by omega) ?_
        | with_reducible refine Val.u8m ?_
        | with_reducible refine Val.u32m ?_
        | with_reducible refine Val.u64m ?_
        | with_reducible refine Val.shr8 ?_
        | with_reducible refine Val.shr16 (by decide) ?_
        | with_reducible refine Val.shr24 (by decide) ?_
        | with_reducible refine Val.raw ?_
        | refine Branch.not ?_
        | refine Branch.and ?_
        | refine Branch.or ?_
        | refine Branch.dt (by assumption) ?_
        | refine Branch.df (by assumption) ?_
        | refine Branch.dt rfl ?_
        | refine Branch.dt (by omega) ?_
        | refine Branch.df (by omega) ?_
        | refine Branch.t rfl ?_
        | refine Branch.f rfl ?_
        | refine Branch.t (by assumption) ?_
        | refine Branch.f (by assumption) ?_
        | refine Branch.d (fun _ => ?_) (fun _ => ?_)
        | refine Branch.mk (fun _ => ?_) (fun _ => ?_)
        | refine Need.mk (by first | omega | decide | rfl) ?_
        | refine Idx.nat (by omega) ?_
        | refine Idx.auto (by first | omega | decide) (by first | omega | decide) ?_
        | refine Cell.ro rfl ?_
        | refine SDraw.all (by kernel_rfl) ?_
        | refine Kept.k0 ?_
        | refine Kept.k1 ?_
        | refine Kept.k2 ?_
        | refine Kept.k3 ?_
        | refine Kept.k4 ?_))
    all_goals (conv => whnf)
    exact hQ _ _ _ ht .mk
end
end Go.Proofs.Ytmakaofdpoiaaaa
