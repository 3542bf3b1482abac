/- Layer 24: the document's new net: its loops. -/
import Derived.Test.YtmakaofdpoiaaaaFlV
set_option linter.unusedVariables false
set_option linter.unusedSimpArgs false
set_option maxRecDepth 100000
set_option maxHeartbeats 4000000
namespace Go.Proofs.Ytmakaofdpoiaaaa
open Sx
/-- What is wanted of what is known, in any order. -/
def Gets (l T : Heap) : Prop := ∃ H1, l.Perm H1 ∧ T.Sublist H1
theorem perm_erase {α : Type} : ∀ {l : List α} {i : Nat} {x : α}, l[i]? = some x → l.Perm (x :: l.eraseIdx i)
  | y :: l, 0, x, h => by injection h with h; subst h; exact .refl _
  | y :: l, i + 1, x, h => ((perm_erase (l := l) (i := i) (by simpa using h)).cons y).trans (List.Perm.swap x y _)
theorem Gets.pick {l r : Heap} {x : Nat × Blk} (i : Nat) (h : l[i]? = some x) (hp : Gets (l.eraseIdx i) r) : Gets l (x :: r) := by
  obtain ⟨H1, h1, h2⟩ := hp
  exact ⟨x :: H1, (perm_erase h).trans (h1.cons _), .cons_cons _ h2⟩
theorem Gets.d0 {l : Heap} : Gets l l := ⟨l, .refl _, .refl _⟩
theorem Gets.d1 {l : Heap} {x : Nat × Blk} : Gets (x :: l) l := ⟨x :: l, .refl _, List.sublist_cons_self _ _⟩
theorem Gets.d2 {l : Heap} {x y : Nat × Blk} : Gets (x :: y :: l) l := ⟨x :: y :: l, .refl _, List.sublist_append_right [x, y] l⟩
theorem Keep.gets {l T : Heap} {K : Heap → Prop} (h : Gets l T) (hk : K T) : Keep l K := by
  obtain ⟨H1, h1, h2⟩ := h
  exact ⟨H1, T, h1, h2, hk⟩
inductive S21r (A6 A7 : Value) : List Value → Prop
  | mk {r0 r1 r2 r3 r4 r5 r8 r9 r10 r11 r12 r13 r14 r15 r16 r17 r18 r19 r20 r21 r22 r23 r24 r25 r26 r27 r28 r29 r30 r31 r32 r33 r34 r35 r36 r37 r38 r39 r40 r41 r42 r43 r44 r45 r46 r47 r48 r49 r50 r51 r52 r53 r54 r55 r56 r57 r58 r59 r60 r61 r62 r63 r64 r65 r66 r67 r68 r69 r70 r71 r72 r73 r74 r75 r76 r77 r78 r79 r80 r81 r82 r83 r84 r85 r86 r87 r88 r89 r90 r91 r92 r93 r94 r95 r96 r97 r98 r99 r100 r101 r102 r103 r104 r105 r106 r107 r108 r109 r110 r111 : Value} : S21r A6 A7 [r0, r1, r2, r3, r4, r5, A6, A7, r8, r9, r10, r11, r12, r13, r14, r15, r16, r17, r18, r19, r20, r21, r22, r23, r24, r25, r26, r27, r28, r29, r30, r31, r32, r33, r34, r35, r36, r37, r38, r39, r40, r41, r42, r43, r44, r45, r46, r47, r48, r49, r50, r51, r52, r53, r54, r55, r56, r57, r58, r59, r60, r61, r62, r63, r64, r65, r66, r67, r68, r69, r70, r71, r72, r73, r74, r75, r76, r77, r78, r79, r80, r81, r82, r83, r84, r85, r86, r87, r88, r89, r90, r91, r92, r93, r94, r95, r96, r97, r98, r99, r100, r101, r102, r103, r104, r105, r106, r107, r108, r109, r110, r111]
inductive S21a (A0 A1 A2 A8 : Value) : List Value → Prop
  | mk {r3 r4 r5 r6 r7 r9 r10 r11 r12 r13 r14 r15 r16 r17 r18 r19 r20 r21 r22 r23 r24 r25 r26 r27 r28 r29 r30 r31 r32 r33 r34 r35 r36 r37 r38 r39 r40 r41 r42 r43 r44 r45 r46 r47 r48 r49 r50 r51 r52 r53 r54 r55 r56 r57 r58 r59 r60 r61 r62 r63 r64 r65 r66 r67 r68 r69 r70 r71 r72 r73 r74 r75 r76 r77 r78 r79 r80 r81 r82 r83 r84 r85 r86 r87 r88 r89 r90 r91 r92 r93 r94 r95 r96 r97 r98 r99 r100 r101 r102 r103 r104 r105 r106 r107 r108 r109 r110 r111 : Value} : S21a A0 A1 A2 A8 [A0, A1, A2, r3, r4, r5, r6, r7, A8, r9, r10, r11, r12, r13, r14, r15, r16, r17, r18, r19, r20, r21, r22, r23, r24, r25, r26, r27, r28, r29, r30, r31, r32, r33, r34, r35, r36, r37, r38, r39, r40, r41, r42, r43, r44, r45, r46, r47, r48, r49, r50, r51, r52, r53, r54, r55, r56, r57, r58, r59, r60, r61, r62, r63, r64, r65, r66, r67, r68, r69, r70, r71, r72, r73, r74, r75, r76, r77, r78, r79, r80, r81, r82, r83, r84, r85, r86, r87, r88, r89, r90, r91, r92, r93, r94, r95, r96, r97, r98, r99, r100, r101, r102, r103, r104, r105, r106, r107, r108, r109, r110, r111]
inductive S21b (A0 A1 A2 A8 A9 : Value) : List Value → Prop
  | mk {r3 r4 r5 r6 r7 r10 r11 r12 r13 r14 r15 r16 r17 r18 r19 r20 r21 r22 r23 r24 r25 r26 r27 r28 r29 r30 r31 r32 r33 r34 r35 r36 r37 r38 r39 r40 r41 r42 r43 r44 r45 r46 r47 r48 r49 r50 r51 r52 r53 r54 r55 r56 r57 r58 r59 r60 r61 r62 r63 r64 r65 r66 r67 r68 r69 r70 r71 r72 r73 r74 r75 r76 r77 r78 r79 r80 r81 r82 r83 r84 r85 r86 r87 r88 r89 r90 r91 r92 r93 r94 r95 r96 r97 r98 r99 r100 r101 r102 r103 r104 r105 r106 r107 r108 r109 r110 r111 : Value} : S21b A0 A1 A2 A8 A9 [A0, A1, A2, r3, r4, r5, r6, r7, A8, A9, r10, r11, r12, r13, r14, r15, r16, r17, r18, r19, r20, r21, r22, r23, r24, r25, r26, r27, r28, r29, r30, r31, r32, r33, r34, r35, r36, r37, r38, r39, r40, r41, r42, r43, r44, r45, r46, r47, r48, r49, r50, r51, r52, r53, r54, r55, r56, r57, r58, r59, r60, r61, r62, r63, r64, r65, r66, r67, r68, r69, r70, r71, r72, r73, r74, r75, r76, r77, r78, r79, r80, r81, r82, r83, r84, r85, r86, r87, r88, r89, r90, r91, r92, r93, r94, r95, r96, r97, r98, r99, r100, r101, r102, r103, r104, r105, r106, r107, r108, r109, r110, r111]
inductive S21c (A0 A10 A11 : Value) : List Value → Prop
  | mk {r1 r2 r3 r4 r5 r6 r7 r8 r9 r12 r13 r14 r15 r16 r17 r18 r19 r20 r21 r22 r23 r24 r25 r26 r27 r28 r29 r30 r31 r32 r33 r34 r35 r36 r37 r38 r39 r40 r41 r42 r43 r44 r45 r46 r47 r48 r49 r50 r51 r52 r53 r54 r55 r56 r57 r58 r59 r60 r61 r62 r63 r64 r65 r66 r67 r68 r69 r70 r71 r72 r73 r74 r75 r76 r77 r78 r79 r80 r81 r82 r83 r84 r85 r86 r87 r88 r89 r90 r91 r92 r93 r94 r95 r96 r97 r98 r99 r100 r101 r102 r103 r104 r105 r106 r107 r108 r109 r110 r111 : Value} : S21c A0 A10 A11 [A0, r1, r2, r3, r4, r5, r6, r7, r8, r9, A10, A11, r12, r13, r14, r15, r16, r17, r18, r19, r20, r21, r22, r23, r24, r25, r26, r27, r28, r29, r30, r31, r32, r33, r34, r35, r36, r37, r38, r39, r40, r41, r42, r43, r44, r45, r46, r47, r48, r49, r50, r51, r52, r53, r54, r55, r56, r57, r58, r59, r60, r61, r62, r63, r64, r65, r66, r67, r68, r69, r70, r71, r72, r73, r74, r75, r76, r77, r78, r79, r80, r81, r82, r83, r84, r85, r86, r87, r88, r89, r90, r91, r92, r93, r94, r95, r96, r97, r98, r99, r100, r101, r102, r103, r104, r105, r106, r107, r108, r109, r110, r111]
section
variable {K : Value → Heap → Prop} {d r1 r2 r3 r4 n c N : Nat} {slot lost : Int} {L : List Mas} {l l' : List M} {Q : Post}
def I21b (b o c j : Nat) (slot lost : Int) (L : List Mas) (x : Mas) (H0 : Heap) (S : List Value) (H : Heap) : Prop :=
  ∃ k : Nat, k ≤ j ∧ (∀ (i : Nat) y, i < k → L[i]? = some y → y.node ≠ x.node) ∧ S21b (.slice (some ⟨b, o, none⟩) L.length c) (.int .u64 slot) (.int .u64 lost) (.int .i64 (j : Int)) (.int .i64 (k : Int)) S ∧ H = H0
noncomputable def MM (i n : Nat) (l : List Value) (_ : Heap) : Nat := n - atN l i
theorem l21b {b o j : Nat} {f : Nat → Option Value} {x : Mas} (hc : ∀ (j : Nat) m, L[j]? = some m → ∀ i v, m.cells[i]? = some v → f (o + j * 3 + i) = some v) (hL : L.length ≤ 8) (hx : L[j]? = some x) (S : List Value)
    (hS : S21b (.slice (some ⟨b, o, none⟩) L.length c) (.int .u64 slot) (.int .u64 lost) (.int .i64 (j : Int)) (.int .i64 0) S)
    (hE : ∀ S k y, k < j → L[k]? = some y → y.node = x.node → S21r (.pointer none) (.int .i64 5) S → Q .ret S [(b, .ro f)])
    (hQ : ∀ S v, (∀ (i : Nat) y, i < j → L[i]? = some y → y.node ≠ x.node) → S21b (.slice (some ⟨b, o, none⟩) L.length c) (.int .u64 slot) (.int .u64 lost) (.int .i64 (j : Int)) v S → Q (.exit 2) S [(b, .ro f)]) :
    SLoop Try.prog X21_l1 Q S [(b, .ro f)] := by
  have hjl := (List.getElem?_eq_some_iff.1 hx).1
  refine SLoop.inv (I21b b o c j slot lost L x [(b, .ro f)]) (MM 9 j) (Keep.all ⟨0, by omega, fun i y hi => by omega, hS, rfl⟩) ?_
  clear hS S
  rintro S H ⟨k, hk, hno, hS, rfl⟩ R hR
  cases hS
  by_cases hlt : k < j
  · obtain ⟨y, hy⟩ : ∃ y, L[k]? = some y := ⟨_, List.getElem?_eq_getElem (by omega)⟩
    have fx : f (o + j * 3 + 0) = some (.int .i64 x.node) := hc j x hx 0 _ rfl
    have fy : f (o + k * 3 + 0) = some (.int .i64 y.node) := hc k y hy 0 _ rfl
    have fin : ∀ S : List Value, (¬ y.node = x.node) → S21b (.slice (some ⟨b, o, none⟩) L.length c) (.int .u64 slot) (.int .u64 lost) (.int .i64 (j : Int)) (.int .i64 ((k + 1 : Nat) : Int)) S → atN S 9 = k + 1 → R S [(b, .ro f)] := by
      rintro S e1 e2 e3
      refine hR _ _ (Keep.all ⟨⟨k + 1, by omega, fun i z hi hz => ?_, e2, rfl⟩, ?_⟩)
      · by_cases e : i = k
        · subst e; rw [hy] at hz; injection hz with hz; subst hz; exact e1
        · exact hno i z (by omega) hz
      · unfold MM
        rw [e3]
        show j - (k + 1) < j - Int.toNat (k : Int)
        omega
    repeat' ((conv => whnf); (first
        | refine Cell.ro fx ?_
        | refine Cell.ro fy ?_
        | refine New.mk (fun _ => ?_)
        | refine Look.at0 ?_
        | refine Cell.row ?_
        | refine Cell.buf ?_
        | refine Cells.row rfl ?_
        | refine Put.row rfl ?_
        | refine Put.buf rfl ?_
        | refine Look.at1 ?_
        | refine Look.at2 ?_
        | refine Look.at3 ?_
        | refine Look.at4 ?_
        | refine Look.at5 ?_
        | refine Look.at6 ?_
        | refine Look.at7 ?_
        | refine Look.at8 ?_
        | with_reducible refine Val.i64 (by omega) (by omega) ?_
        | with_reducible refine Val.u8 (by omega) (by omega) ?_
        | with_reducible refine Val.u32 (by omega) (by omega) ?_
        | with_reducible refine Val.u64 (by omega) (by omega) ?_
        | with_reducible refine Val.u8m ?_
        | with_reducible refine Val.u32m ?_
        | with_reducible refine Val.u64m ?_
        | with_reducible refine Val.shr8 ?_
        | with_reducible refine Val.shr16 (by decide) ?_
        | with_reducible refine Val.shr24 (by decide) ?_
        | with_reducible refine Val.raw ?_
        | refine Branch.not ?_
        | refine Branch.and ?_
        | refine Branch.or ?_
        | refine Branch.dt (by assumption) ?_
        | refine Branch.df (by assumption) ?_
        | refine Branch.dt rfl ?_
        | refine Branch.dt (by omega) ?_
        | refine Branch.df (by omega) ?_
        | refine Branch.t rfl ?_
        | refine Branch.f rfl ?_
        | refine Branch.t (by assumption) ?_
        | refine Branch.f (by assumption) ?_
        | refine Branch.d (fun _ => ?_) (fun _ => ?_)
        | refine Branch.mk (fun _ => ?_) (fun _ => ?_)
        | refine Need.mk (by first | omega | decide | rfl) ?_
        | refine Idx.nat (by omega) ?_
        | refine Idx.auto (by first | omega | decide) (by first | omega | decide) ?_
        | refine Cell.ro rfl ?_
        | refine SDraw.all (by kernel_rfl) ?_
        | refine Kept.k0 ?_
        | refine Kept.k1 ?_
        | refine Kept.k2 ?_
        | refine Kept.k3 ?_
        | refine Kept.k4 ?_))
    all_goals (conv => whnf)
    · exact hE _ k y hlt hy (by assumption) .mk
    · exact fin _ ‹_› .mk rfl
  · have e : k = j := by omega
    subst e
    repeat' ((conv => whnf); (first
        | refine New.mk (fun _ => ?_)
        | refine Look.at0 ?_
        | refine Cell.row ?_
        | refine Cell.buf ?_
        | refine Cells.row rfl ?_
        | refine Put.row rfl ?_
        | refine Put.buf rfl ?_
        | refine Look.at1 ?_
        | refine Look.at2 ?_
        | refine Look.at3 ?_
        | refine Look.at4 ?_
        | refine Look.at5 ?_
        | refine Look.at6 ?_
        | refine Look.at7 ?_
        | refine Look.at8 ?_
        | with_reducible refine Val.i64 (by omega) (by omega) ?_
        | with_reducible refine Val.u8 (by omega) (by omega) ?_
        | with_reducible refine Val.u32 (by omega) (by omega) ?_
        | with_reducible refine Val.u64 (by omega) (by omega) ?_
        | with_reducible refine Val.u8m ?_
        | with_reducible refine Val.u32m ?_
        | with_reducible refine Val.u64m ?_
        | with_reducible refine Val.shr8 ?_
        | with_reducible refine Val.shr16 (by decide) ?_
        | with_reducible refine Val.shr24 (by decide) ?_
        | with_reducible refine Val.raw ?_
        | refine Branch.not ?_
        | refine Branch.and ?_
        | refine Branch.or ?_
        | refine Branch.dt (by assumption) ?_
        | refine Branch.df (by assumption) ?_
        | refine Branch.dt rfl ?_
        | refine Branch.dt (by omega) ?_
        | refine Branch.df (by omega) ?_
        | refine Branch.t rfl ?_
        | refine Branch.f rfl ?_
        | refine Branch.t (by assumption) ?_
        | refine Branch.f (by assumption) ?_
        | refine Branch.d (fun _ => ?_) (fun _ => ?_)
        | refine Branch.mk (fun _ => ?_) (fun _ => ?_)
        | refine Need.mk (by first | omega | decide | rfl) ?_
        | refine Idx.nat (by omega) ?_
        | refine Idx.auto (by first | omega | decide) (by first | omega | decide) ?_
        | refine Cell.ro rfl ?_
        | refine SDraw.all (by kernel_rfl) ?_
        | refine Kept.k0 ?_
        | refine Kept.k1 ?_
        | refine Kept.k2 ?_
        | refine Kept.k3 ?_
        | refine Kept.k4 ?_))
    all_goals (conv => whnf)
    exact hQ _ _ hno .mk
def I21a (sv : Value) (slot lost : Int) (L : List Mas) (H0 : Heap) (S : List Value) (H : Heap) : Prop :=
  ∃ (j : Nat) (acc : List M), j ≤ L.length ∧ newGo slot L [] = newGo slot (L.drop j) acc ∧ acc.map M.node = (L.take j).map Mas.node ∧ S21a sv (.int .u64 slot) (.int .u64 lost) (.int .i64 (j : Int)) S ∧ H = H0
theorem l21a {sv : Value} {H : Heap} (hin : InL sv H L) (hL : L.length ≤ 8) (S : List Value) (hS : S21a sv (.int .u64 slot) (.int .u64 lost) (.int .i64 0) S)
    (hE : ∀ S e, newGo slot L [] = .error e → S21r (.pointer none) (.int .i64 e) S → Q .ret S H)
    (hQ : ∀ S v acc, newGo slot L [] = .ok acc → S21a sv (.int .u64 slot) (.int .u64 lost) v S → Q (.exit 0) S H) :
    SLoop Try.prog X21_l2 Q S H := by
  obtain ⟨a, c, rfl, hb, hs⟩ := hin
  refine SLoop.inv (I21a _ slot lost L H) (MM 8 L.length) (Keep.all ⟨0, [], by omega, rfl, rfl, hS, rfl⟩) ?_
  clear hS S
  rintro S H1 ⟨j, acc, hj, hgo, hnd, hS, rfl⟩ R hR
  cases hS
  rw [hgo] at hE hQ
  by_cases hlt : j < L.length
  · obtain ⟨b, o, f, rfl, rfl, hc⟩ := hs (by omega)
    obtain ⟨x, hx⟩ : ∃ x, L[j]? = some x := ⟨_, List.getElem?_eq_getElem hlt⟩
    have f0 : f (o + j * 3 + 0) = some (.int .i64 x.node) := hc j x hx 0 _ rfl
    have f1 : f (o + j * 3 + 1) = some (.int .i64 x.prio) := hc j x hx 1 _ rfl
    have hdrop : L.drop j = x :: L.drop (j + 1) := by
      obtain ⟨_, rfl⟩ := List.getElem?_eq_some_iff.1 hx
      exact List.drop_eq_getElem_cons hlt
    rw [hdrop] at hE hQ hgo
    have fin : ∀ S : List Value, ¬ Bad x → (∀ (i : Nat) y, i < j → L[i]? = some y → y.node ≠ x.node) → S21a (.slice (some ⟨b, o, none⟩) L.length c) (.int .u64 slot) (.int .u64 lost) (.int .i64 ((j + 1 : Nat) : Int)) S → atN S 8 = j + 1 → R S [(b, .ro f)] := by
      rintro S e0 e1 e2 e3
      refine hR _ _ (Keep.all ⟨⟨j + 1, acc ++ [mkM slot x], by omega, ?_, ?_, e2, rfl⟩, ?_⟩)
      · rw [hgo, newGo_ok e0 (by
          rw [List.any_eq_false]
          intro m hm
          have hm2 : m.node ∈ acc.map M.node := List.mem_map_of_mem hm
          rw [hnd] at hm2
          obtain ⟨y, hy, e⟩ := List.mem_map.1 hm2
          obtain ⟨i, hi, rfl⟩ := List.getElem_of_mem hy
          rw [List.length_take] at hi
          have hi2 : L[i]? = some (L.take j)[i] := by rw [List.getElem_take]; exact List.getElem?_eq_getElem (by omega)
          have := e1 i _ (by omega) hi2
          rw [← e]; simpa using this)]
      · have hn : (mkM slot x).node = x.node := by unfold mkM; split <;> rfl
        obtain ⟨_, rfl⟩ := List.getElem?_eq_some_iff.1 hx
        rw [List.map_append, hnd, List.take_succ_eq_append_getElem hlt, List.map_append]
        show _ ++ [(mkM slot L[j]).node] = _ ++ [L[j].node]
        rw [hn]
      · unfold MM
        rw [e3]
        show L.length - (j + 1) < L.length - Int.toNat (j : Int)
        omega
    unfold Bad at fin
    have bad : x.node < 1 ∨ 127 < x.node ∨ x.prio < 0 ∨ 3 ≤ x.prio → newGo slot (x :: L.drop (j + 1)) acc = .error 1 := fun h => newGo_bad h
    have dup : (¬ (x.node < 1 ∨ 127 < x.node ∨ x.prio < 0 ∨ 3 ≤ x.prio)) → ∀ (k : Nat) y, k < j → L[k]? = some y → y.node = x.node → newGo slot (x :: L.drop (j + 1)) acc = .error 5 := by
      intro h k y hk hy e
      refine newGo_dup h (List.any_eq_true.2 ?_)
      have hm : y.node ∈ acc.map M.node := by
        rw [hnd]
        refine List.mem_map_of_mem (List.mem_of_getElem? (i := k) ?_)
        rw [List.getElem?_take, if_pos hk]; exact hy
      obtain ⟨m, hm, e2⟩ := List.mem_map.1 hm
      exact ⟨m, hm, by simp [e2, e]⟩
    repeat' ((conv => whnf); (first
        | refine Cell.ro f0 ?_
        | refine Cell.ro f1 ?_
        | refine l21b hc hL hx _ .mk (fun S k y hk hy e hS => ?_) (fun S v hno hS => ?_)
        | refine New.mk (fun _ => ?_)
        | refine Look.at0 ?_
        | refine Cell.row ?_
        | refine Cell.buf ?_
        | refine Cells.row rfl ?_
        | refine Put.row rfl ?_
        | refine Put.buf rfl ?_
        | refine Look.at1 ?_
        | refine Look.at2 ?_
        | refine Look.at3 ?_
        | refine Look.at4 ?_
        | refine Look.at5 ?_
        | refine Look.at6 ?_
        | refine Look.at7 ?_
        | refine Look.at8 ?_
        | with_reducible refine Val.i64 (by omega) (by omega) ?_
        | with_reducible refine Val.u8 (by omega) (by omega) ?_
        | with_reducible refine Val.u32 (by omega) (by omega) ?_
        | with_reducible refine Val.u64 (by omega) (by omega) ?_
        | with_reducible refine Val.u8m ?_
        | with_reducible refine Val.u32m ?_
        | with_reducible refine Val.u64m ?_
        | with_reducible refine Val.shr8 ?_
        | with_reducible refine Val.shr16 (by decide) ?_
        | with_reducible refine Val.shr24 (by decide) ?_
        | with_reducible refine Val.raw ?_
        | refine Branch.not ?_
        | refine Branch.and ?_
        | refine Branch.or ?_
        | refine Branch.dt (by assumption) ?_
        | refine Branch.df (by assumption) ?_
        | refine Branch.dt rfl ?_
        | refine Branch.dt (by omega) ?_
        | refine Branch.df (by omega) ?_
        | refine Branch.t rfl ?_
        | refine Branch.f rfl ?_
        | refine Branch.t (by assumption) ?_
        | refine Branch.f (by assumption) ?_
        | refine Branch.d (fun _ => ?_) (fun _ => ?_)
        | refine Branch.mk (fun _ => ?_) (fun _ => ?_)
        | refine Need.mk (by first | omega | decide | rfl) ?_
        | refine Idx.nat (by omega) ?_
        | refine Idx.auto (by first | omega | decide) (by first | omega | decide) ?_
        | refine Cell.ro rfl ?_
        | refine SDraw.all (by kernel_rfl) ?_
        | refine Kept.k0 ?_
        | refine Kept.k1 ?_
        | refine Kept.k2 ?_
        | refine Kept.k3 ?_
        | refine Kept.k4 ?_))
    all_goals (conv => whnf)
    all_goals first
      | exact hE _ 1 (bad (by omega)) .mk
      | exact hE _ 5 (dup (by omega) k y hk hy e) hS
      | (cases hS
         repeat' ((conv => whnf); (first
             | refine New.mk (fun _ => ?_)
             | refine Look.at0 ?_
             | refine Cell.row ?_
             | refine Cell.buf ?_
             | refine Cells.row rfl ?_
             | refine Put.row rfl ?_
             | refine Put.buf rfl ?_
             | refine Look.at1 ?_
             | refine Look.at2 ?_
             | refine Look.at3 ?_
             | refine Look.at4 ?_
             | refine Look.at5 ?_
             | refine Look.at6 ?_
             | refine Look.at7 ?_
             | refine Look.at8 ?_
             | with_reducible refine Val.i64 (by omega) (by omega) ?_
             | with_reducible refine Val.u8 (by omega) (by omega) ?_
             | with_reducible refine Val.u32 (by omega) (by omega) ?_
             | with_reducible refine Val.u64 (by omega) (by omega) ?_
             | with_reducible refine Val.u8m ?_
             | with_reducible refine Val.u32m ?_
             | with_reducible refine Val.u64m ?_
             | with_reducible refine Val.shr8 ?_
             | with_reducible refine Val.shr16 (by decide) ?_
             | with_reducible refine Val.shr24 (by decide) ?_
             | with_reducible refine Val.raw ?_
             | refine Branch.not ?_
             | refine Branch.and ?_
             | refine Branch.or ?_
             | refine Branch.dt (by assumption) ?_
             | refine Branch.df (by assumption) ?_
             | refine Branch.dt rfl ?_
             | refine Branch.dt (by omega) ?_
             | refine Branch.df (by omega) ?_
             | refine Branch.t rfl ?_
             | refine Branch.f rfl ?_
             | refine Branch.t (by assumption) ?_
             | refine Branch.f (by assumption) ?_
             | refine Branch.d (fun _ => ?_) (fun _ => ?_)
             | refine Branch.mk (fun _ => ?_) (fun _ => ?_)
             | refine Need.mk (by first | omega | decide | rfl) ?_
             | refine Idx.nat (by omega) ?_
             | refine Idx.auto (by first | omega | decide) (by first | omega | decide) ?_
             | refine Cell.ro rfl ?_
             | refine SDraw.all (by kernel_rfl) ?_
             | refine Kept.k0 ?_
             | refine Kept.k1 ?_
             | refine Kept.k2 ?_
             | refine Kept.k3 ?_
             | refine Kept.k4 ?_))
         all_goals (conv => whnf)
         all_goals exact fin _ (by omega) hno .mk rfl)
      | trace_state
  · have e : j = L.length := by omega
    subst e
    rw [List.drop_length] at hQ
    repeat' ((conv => whnf); (first
        | refine New.mk (fun _ => ?_)
        | refine Look.at0 ?_
        | refine Cell.row ?_
        | refine Cell.buf ?_
        | refine Cells.row rfl ?_
        | refine Put.row rfl ?_
        | refine Put.buf rfl ?_
        | refine Look.at1 ?_
        | refine Look.at2 ?_
        | refine Look.at3 ?_
        | refine Look.at4 ?_
        | refine Look.at5 ?_
        | refine Look.at6 ?_
        | refine Look.at7 ?_
        | refine Look.at8 ?_
        | with_reducible refine Val.i64 (by omega) (by omega) ?_
        | with_reducible refine Val.u8 (by omega) (by omega) ?_
        | with_reducible refine Val.u32 (by omega) (by omega) ?_
        | with_reducible refine Val.u64 (by omega) (by omega) ?_
        | with_reducible refine Val.u8m ?_
        | with_reducible refine Val.u32m ?_
        | with_reducible refine Val.u64m ?_
        | with_reducible refine Val.shr8 ?_
        | with_reducible refine Val.shr16 (by decide) ?_
        | with_reducible refine Val.shr24 (by decide) ?_
        | with_reducible refine Val.raw ?_
        | refine Branch.not ?_
        | refine Branch.and ?_
        | refine Branch.or ?_
        | refine Branch.dt (by assumption) ?_
        | refine Branch.df (by assumption) ?_
        | refine Branch.dt rfl ?_
        | refine Branch.dt (by omega) ?_
        | refine Branch.df (by omega) ?_
        | refine Branch.t rfl ?_
        | refine Branch.f rfl ?_
        | refine Branch.t (by assumption) ?_
        | refine Branch.f (by assumption) ?_
        | refine Branch.d (fun _ => ?_) (fun _ => ?_)
        | refine Branch.mk (fun _ => ?_) (fun _ => ?_)
        | refine Need.mk (by first | omega | decide | rfl) ?_
        | refine Idx.nat (by omega) ?_
        | refine Idx.auto (by first | omega | decide) (by first | omega | decide) ?_
        | refine Cell.ro rfl ?_
        | refine SDraw.all (by kernel_rfl) ?_
        | refine Kept.k0 ?_
        | refine Kept.k1 ?_
        | refine Kept.k2 ?_
        | refine Kept.k3 ?_
        | refine Kept.k4 ?_))
    all_goals (conv => whnf)
    exact hQ _ _ acc rfl .mk
end
end Go.Proofs.Ytmakaofdpoiaaaa
