/- Layer 24: where the master loses its power: the walk's loops. -/
import Derived.Test.YtmakaofdpoiaaaaFlO
set_option linter.unusedVariables false
set_option linter.unusedSimpArgs false
set_option maxRecDepth 100000
set_option maxHeartbeats 4000000
namespace Go.Proofs.Ytmakaofdpoiaaaa
open Sx
structure ActR where
  (node : Int)
  (on : Bool)
  (ticks : Int)
def ActR.cells (a : ActR) : List Value := [.int .i64 a.node, .bool a.on, .int .u16 a.ticks]
def InA (sv : Value) (H : Heap) (A : List ActR) : Prop :=
  ∃ (a : Option Addr) (c : Nat), sv = .slice a A.length c ∧ A.length * 16 ≤ 140737488355328 ∧ (∀ x ∈ A, 0 ≤ x.ticks ∧ x.ticks ≤ 65535) ∧
    (0 < A.length → ∃ b o f, a = some ⟨b, o, none⟩ ∧ H = [(b, .ro f)] ∧ ∀ (j : Nat) m, A[j]? = some m → ∀ i v, m.cells[i]? = some v → f (o + j * 3 + i) = some v)
theorem inA_of {w : World} {a : Option Addr} {n c : Nat} (h : SliceAt 3 B50 R50 w a n c) : ∃ H A, A.length = n ∧ InA (.slice a A.length c) H A ∧ Holds w H ∧ ∀ p ∈ H, p.2.excl = false := by
  by_cases hl : 0 < n
  · obtain ⟨b, o, rfl, hb, hc⟩ := h.plain (by decide) hl
    have hlen : n * 16 ≤ 140737488355328 := by
      have h3 := h.2.2.1
      unfold B50 reachBytes at h3
      omega
    obtain ⟨L, h1, h2⟩ := list_of (P := fun j (m : ActR) => (0 ≤ m.ticks ∧ m.ticks ≤ 65535) ∧ ∀ i v, m.cells[i]? = some v → w.cell? ⟨b, o + j * 3 + i, none⟩ = some v) n fun j hj => by
      obtain ⟨cs, hlc, hcell, x0, x1, x2, rfl, _, hx2⟩ := hc j hj
      refine ⟨⟨x0, x1, x2⟩, wf_u16 hx2, fun i v hi => ?_⟩
      have hi3 : i < 3 := (List.getElem?_eq_some_iff.1 hi).1
      exact (hcell i hi3).trans hi
    refine ⟨[(b, .ro fun j => w.cell? ⟨b, j, none⟩)], L, h1, ⟨_, c, rfl, by omega, fun x hx => ?_, fun _ => ⟨b, o, _, rfl, rfl, fun j m hj i v hv => (h2 j m hj).2 i v hv⟩⟩, ⟨fun p hp => ?_, List.pairwise_singleton _ _⟩, fun p hp => ?_⟩
    · obtain ⟨i, hi, rfl⟩ := List.getElem_of_mem hx
      exact (h2 i _ (List.getElem?_eq_getElem hi)).1
    · obtain rfl := List.mem_singleton.1 hp
      exact ⟨hb, fun _ _ h => h⟩
    · obtain rfl := List.mem_singleton.1 hp
      rfl
  · obtain rfl : n = 0 := by omega
    exact ⟨[], [], rfl, ⟨a, c, rfl, by simp, fun x hx => (by cases hx), fun h => by simp at h⟩, Holds.empty w, fun p hp => by cases hp⟩
theorem Holds.app_ro {w : World} {H1 H2 : Heap} (h1 : Holds w H1) (h2 : Holds w H2) (x1 : ∀ p ∈ H1, p.2.excl = false) (x2 : ∀ p ∈ H2, p.2.excl = false) : Holds w (H1 ++ H2) := by
  refine ⟨fun p hp => ?_, List.pairwise_append.2 ⟨h1.sep, h2.sep, fun p hp q hq h => ?_⟩⟩
  · rcases List.mem_append.1 hp with hp | hp
    · exact h1.at_ p hp
    · exact h2.at_ p hp
  · rw [x1 p hp, x2 q hq] at h
    rcases h with h | h <;> cases h
section
variable {K : Value → Heap → Prop} {g cap : Nat} {a : Option Addr} {Bh : Heap} {slot lost : Int} {ms : List PM} {l l' : List M}
/-- Who leads, told in front. -/
theorem c13A (A : Heap) (hn : Net a cap Bh ms l) (h0 : leadL l = none → K (.slice none 0 0) (A ++ netH g a cap Bh slot lost ms)) (h1 : ∀ q m, leadL l = some m → K (.slice (some ⟨q, 0, none⟩) 1 1) ((q, .row 3 [.int .i64 m.node] (0, 0)) :: (A ++ netH g a cap Bh slot lost ms))) :
    SCalls Try.prog 13 [.pointer (some ⟨g, 0, none⟩)] (A ++ netH g a cap Bh slot lost ms) K :=
  SCalls.keep (SCalls.under A (c13N hn (fun e => Keep.all (h0 e)) fun q m e => Keep.glue [A, [(q, .row 3 [.int .i64 m.node] (0, 0))], netH g a cap Bh slot lost ms] [0, 1, 2] [1, 0, 2] [] (by decide) rfl (h1 q m e)))
theorem c13Y {n : Int} (A : Heap) (hn : Net a cap Bh ms l) (hst : St slot lost l) (hl : LeadBy n l) (h1 : ∀ q, K (.slice (some ⟨q, 0, none⟩) 1 1) ((q, .row 3 [.int .i64 n] (0, 0)) :: (A ++ netH g a cap Bh slot lost ms))) :
    SCalls Try.prog 13 [.pointer (some ⟨g, 0, none⟩)] (A ++ netH g a cap Bh slot lost ms) K := by
  obtain ⟨t, ht, hL, ht2, ht3⟩ := lead_of hl hst.one
  refine c13A A hn (fun e => by rw [hL] at e; cases e) fun q m e => ?_
  rw [hL] at e
  injection e with e
  rw [← e, ht3]; exact h1 q
theorem c13Z (A : Heap) (hn : Net a cap Bh ms l) (hl : NoLead l) (h0 : K (.slice none 0 0) (A ++ netH g a cap Bh slot lost ms)) :
    SCalls Try.prog 13 [.pointer (some ⟨g, 0, none⟩)] (A ++ netH g a cap Bh slot lost ms) K :=
  c13A A hn (fun _ => h0) fun q m e => by rw [lead_none hl] at e; cases e
theorem c12A {t : Option Int} (A : Heap) (hn : Net a cap Bh ms l) (he : tickM slot lost l = (l', t)) (h : ∀ q c ms', Net a cap Bh ms' l' → K (toldV q c t) (A ++ netH g a cap Bh slot lost ms')) :
    SCalls Try.prog 12 [.pointer (some ⟨g, 0, none⟩)] (A ++ netH g a cap Bh slot lost ms) K := SCalls.under A (c12L hn he h)
end
def leftV : Option (Nat × Int) → Value | none => .slice none 0 0 | some x => .slice (some ⟨x.1, 0, none⟩) 1 1
def leftH : Option (Nat × Int) → Heap | none => [] | some x => [(x.1, .row 3 [.int .i64 x.2] (0, 0))]
def LeftOk (lf : Option (Nat × Int)) (l : List M) : Prop := match lf with | none => NoLead l | some x => LeadBy x.2 l
inductive S6n (A1 A2 A5 A7 A8 A9 A10 : Value) : List Value → Prop
  | mk {r0 r3 r4 r6 r11 r12 r13 r14 r15 r16 r17 r18 r19 r20 r21 r22 r23 r24 r25 r26 r27 r28 r29 r30 r31 r32 r33 r34 r35 r36 r37 r38 r39 r40 r41 r42 r43 r44 r45 r46 r47 r48 r49 r50 r51 r52 r53 r54 r55 r56 r57 r58 r59 r60 r61 r62 r63 r64 r65 r66 r67 r68 r69 r70 r71 r72 r73 r74 r75 r76 r77 r78 r79 r80 r81 r82 r83 r84 r85 r86 r87 r88 r89 r90 r91 r92 r93 r94 r95 r96 r97 r98 r99 r100 r101 r102 r103 r104 r105 r106 r107 r108 r109 r110 r111 r112 r113 r114 r115 r116 r117 r118 r119 r120 r121 r122 r123 r124 r125 r126 r127 r128 r129 r130 r131 r132 r133 r134 r135 r136 r137 r138 r139 r140 r141 r142 r143 r144 r145 r146 r147 r148 r149 r150 r151 r152 r153 r154 r155 r156 r157 r158 r159 r160 r161 r162 r163 r164 r165 r166 r167 r168 r169 r170 r171 r172 r173 r174 r175 r176 r177 r178 r179 r180 r181 r182 r183 r184 r185 r186 r187 r188 r189 r190 r191 r192 r193 r194 r195 r196 r197 r198 r199 r200 r201 r202 r203 r204 r205 r206 r207 r208 r209 r210 r211 r212 r213 r214 r215 r216 r217 r218 r219 r220 r221 r222 r223 r224 r225 r226 r227 r228 r229 r230 r231 r232 r233 r234 r235 r236 r237 r238 r239 r240 r241 r242 r243 r244 r245 : Value} : S6n A1 A2 A5 A7 A8 A9 A10 [r0, A1, A2, r3, r4, A5, r6, A7, A8, A9, A10, r11, r12, r13, r14, r15, r16, r17, r18, r19, r20, r21, r22, r23, r24, r25, r26, r27, r28, r29, r30, r31, r32, r33, r34, r35, r36, r37, r38, r39, r40, r41, r42, r43, r44, r45, r46, r47, r48, r49, r50, r51, r52, r53, r54, r55, r56, r57, r58, r59, r60, r61, r62, r63, r64, r65, r66, r67, r68, r69, r70, r71, r72, r73, r74, r75, r76, r77, r78, r79, r80, r81, r82, r83, r84, r85, r86, r87, r88, r89, r90, r91, r92, r93, r94, r95, r96, r97, r98, r99, r100, r101, r102, r103, r104, r105, r106, r107, r108, r109, r110, r111, r112, r113, r114, r115, r116, r117, r118, r119, r120, r121, r122, r123, r124, r125, r126, r127, r128, r129, r130, r131, r132, r133, r134, r135, r136, r137, r138, r139, r140, r141, r142, r143, r144, r145, r146, r147, r148, r149, r150, r151, r152, r153, r154, r155, r156, r157, r158, r159, r160, r161, r162, r163, r164, r165, r166, r167, r168, r169, r170, r171, r172, r173, r174, r175, r176, r177, r178, r179, r180, r181, r182, r183, r184, r185, r186, r187, r188, r189, r190, r191, r192, r193, r194, r195, r196, r197, r198, r199, r200, r201, r202, r203, r204, r205, r206, r207, r208, r209, r210, r211, r212, r213, r214, r215, r216, r217, r218, r219, r220, r221, r222, r223, r224, r225, r226, r227, r228, r229, r230, r231, r232, r233, r234, r235, r236, r237, r238, r239, r240, r241, r242, r243, r244, r245]
section
variable {Q : Post} {p2 qn c N cA ba oa g i : Nat} {F : Blk} {fa : Nat → Option Value} {LH NH : Heap} {lv : Value} {nA : Nat} {x : ActR}
/-- The loop that turns the list of masters. -/
def I6n (p2 qn c N cA ba oa g i nA : Nat) (F : Blk) (fa : Nat → Option Value) (LH NH : Heap) (lv : Value) (x : ActR) (L : List Mas) (l : List Value) (H : Heap) : Prop :=
  ∃ j : Nat, j ≤ L.length ∧ S6n (.slice (some ⟨ba, oa, none⟩) nA cA) (.pointer (some ⟨p2, 0, none⟩)) (.pointer (some ⟨g, 0, none⟩)) (.slice (some ⟨qn, 0, none⟩) L.length c) lv (.int .i64 (i : Int)) (.int .i64 (j : Int)) l ∧
    H = (p2, F) :: (qn, .buf 30 ((updTo (setOn x.node x.on) j L).flatMap Mas.cells) N) :: (LH ++ (ba, .ro fa) :: NH)
noncomputable def M6n (n : Nat) (l : List Value) (_ : Heap) : Nat := n - (match getL l 10 with | .int _ i => i.toNat | _ => 0)
theorem l6n {L : List Mas} (hlen : L.length ≤ 140737488355328) (hi : i < nA) (hA : nA ≤ 140737488355328) (hcx : ∀ k v, x.cells[k]? = some v → fa (oa + i * 3 + k) = some v) (l : List Value)
    (hS : S6n (.slice (some ⟨ba, oa, none⟩) nA cA) (.pointer (some ⟨p2, 0, none⟩)) (.pointer (some ⟨g, 0, none⟩)) (.slice (some ⟨qn, 0, none⟩) L.length c) lv (.int .i64 (i : Int)) (.int .i64 0) l)
    (hQ : ∀ l v, S6n (.slice (some ⟨ba, oa, none⟩) nA cA) (.pointer (some ⟨p2, 0, none⟩)) (.pointer (some ⟨g, 0, none⟩)) (.slice (some ⟨qn, 0, none⟩) L.length c) lv (.int .i64 (i : Int)) v l →
      Q (.exit 2) l ((p2, F) :: (qn, .buf 30 ((L.map (setOn x.node x.on)).flatMap Mas.cells) N) :: (LH ++ (ba, .ro fa) :: NH))) :
    SLoop Try.prog X6_l4 Q l ((p2, F) :: (qn, .buf 30 (L.flatMap Mas.cells) N) :: (LH ++ (ba, .ro fa) :: NH)) := by
  refine SLoop.inv (I6n p2 qn c N cA ba oa g i nA F fa LH NH lv x L) (M6n L.length) (Keep.all ⟨0, by omega, hS, by rw [updTo_zero]⟩) ?_
  clear hS l
  rintro S H ⟨j, hj, hS, rfl⟩ R hR
  by_cases hlt : j < L.length
  · cases hS
    obtain ⟨y, hy⟩ : ∃ y, L[j]? = some y := ⟨_, List.getElem?_eq_getElem hlt⟩
    have h0 : fa (oa + i * 3 + 0) = some (.int .i64 x.node) := hcx 0 _ rfl
    have h1 : fa (oa + i * 3 + 1) = some (.bool x.on) := hcx 1 _ rfl
    repeat' ((conv => whnf); (first
        | refine Look.skip (Look.at0 ?_)
        | refine Look.skip (Look.skip (Look.mk LH _ NH rfl ?_))
        | refine Cell.ro h0 ?_
        | refine Cell.ro h1 ?_
        | refine Cell.flat Mas.len (i := 0) (updTo_nth hy) (by decide) rfl ?_
        | refine Put.flat Mas.len (⟨y.node, y.prio, x.on⟩ : Mas) (updTo_nth hy) (by decide) rfl ?_
        | refine Kept.sub (List.Sublist.refl _) ?_
        | refine New.mk (fun _ => ?_)
        | refine Look.at0 ?_
        | refine Cell.row ?_
        | refine Cell.buf ?_
        | refine Cells.row rfl ?_
        | refine Put.row rfl ?_
        | refine Put.buf rfl ?_
        | refine Look.at1 ?_
        | refine Look.at2 ?_
        | refine Look.at3 ?_
        | refine Look.at4 ?_
        | refine Look.at5 ?_
        | refine Look.at6 ?_
        | refine Look.at7 ?_
        | refine Look.at8 ?_
        | with_reducible refine Val.i64 (by omega) (by omega) ?_
        | with_reducible refine Val.u8 (by omega) (by omega) ?_
        | with_reducible refine Val.u32 (by omega) (by omega) ?_
        | with_reducible refine Val.u64 (by omega) (by omega) ?_
        | with_reducible refine Val.u8m ?_
        | with_reducible refine Val.u32m ?_
        | with_reducible refine Val.u64m ?_
        | with_reducible refine Val.shr8 ?_
        | with_reducible refine Val.shr16 (by decide) ?_
        | with_reducible refine Val.shr24 (by decide) ?_
        | with_reducible refine Val.raw ?_
        | refine Branch.not ?_
        | refine Branch.and ?_
        | refine Branch.or ?_
        | refine Branch.dt (by assumption) ?_
        | refine Branch.df (by assumption) ?_
        | refine Branch.dt rfl ?_
        | refine Branch.dt (by omega) ?_
        | refine Branch.df (by omega) ?_
        | refine Branch.t rfl ?_
        | refine Branch.f rfl ?_
        | refine Branch.t (by assumption) ?_
        | refine Branch.f (by assumption) ?_
        | refine Branch.d (fun _ => ?_) (fun _ => ?_)
        | refine Branch.mk (fun _ => ?_) (fun _ => ?_)
        | refine Need.mk (by first | omega | decide | rfl) ?_
        | refine Idx.nat (by omega) ?_
        | refine Idx.auto (by first | omega | decide) (by first | omega | decide) ?_
        | refine Cell.ro rfl ?_
        | refine SDraw.all (by kernel_rfl) ?_
        | refine Kept.k0 ?_
        | refine Kept.k1 ?_
        | refine Kept.k2 ?_
        | refine Kept.k3 ?_
        | refine Kept.k4 ?_))
    all_goals (conv => whnf)
    all_goals first
      | (refine hR _ _ (Keep.all ⟨⟨j + 1, by omega, .mk, by rw [← updTo_set hy, show setOn x.node x.on y = ⟨y.node, y.prio, x.on⟩ from if_pos ‹_›]⟩, ?_⟩)
         show L.length - Int.toNat ((j : Int) + 1) < L.length - Int.toNat (j : Int); omega)
      | (refine hR _ _ (Keep.all ⟨⟨j + 1, by omega, .mk, by rw [← updTo_same hy (show setOn x.node x.on y = y from if_neg ‹_›)]⟩, ?_⟩)
         show L.length - Int.toNat ((j : Int) + 1) < L.length - Int.toNat (j : Int); omega)
      | trace_state
  · rw [updTo_all (by omega)]
    cases hS
    repeat' ((conv => whnf); (first
        | refine New.mk (fun _ => ?_)
        | refine Look.at0 ?_
        | refine Cell.row ?_
        | refine Cell.buf ?_
        | refine Cells.row rfl ?_
        | refine Put.row rfl ?_
        | refine Put.buf rfl ?_
        | refine Look.at1 ?_
        | refine Look.at2 ?_
        | refine Look.at3 ?_
        | refine Look.at4 ?_
        | refine Look.at5 ?_
        | refine Look.at6 ?_
        | refine Look.at7 ?_
        | refine Look.at8 ?_
        | with_reducible refine Val.i64 (by omega) (by omega) ?_
        | with_reducible refine Val.u8 (by omega) (by omega) ?_
        | with_reducible refine Val.u32 (by omega) (by omega) ?_
        | with_reducible refine Val.u64 (by omega) (by omega) ?_
        | with_reducible refine Val.u8m ?_
        | with_reducible refine Val.u32m ?_
        | with_reducible refine Val.u64m ?_
        | with_reducible refine Val.shr8 ?_
        | with_reducible refine Val.shr16 (by decide) ?_
        | with_reducible refine Val.shr24 (by decide) ?_
        | with_reducible refine Val.raw ?_
        | refine Branch.not ?_
        | refine Branch.and ?_
        | refine Branch.or ?_
        | refine Branch.dt (by assumption) ?_
        | refine Branch.df (by assumption) ?_
        | refine Branch.dt rfl ?_
        | refine Branch.dt (by omega) ?_
        | refine Branch.df (by omega) ?_
        | refine Branch.t rfl ?_
        | refine Branch.f rfl ?_
        | refine Branch.t (by assumption) ?_
        | refine Branch.f (by assumption) ?_
        | refine Branch.d (fun _ => ?_) (fun _ => ?_)
        | refine Branch.mk (fun _ => ?_) (fun _ => ?_)
        | refine Need.mk (by first | omega | decide | rfl) ?_
        | refine Idx.nat (by omega) ?_
        | refine Idx.auto (by first | omega | decide) (by first | omega | decide) ?_
        | refine Cell.ro rfl ?_
        | refine SDraw.all (by kernel_rfl) ?_
        | refine Kept.k0 ?_
        | refine Kept.k1 ?_
        | refine Kept.k2 ?_
        | refine Kept.k3 ?_
        | refine Kept.k4 ?_))
    all_goals (conv => whnf)
    exact hQ _ _ .mk
end
inductive S6t (A1 A2 A5 A7 A8 A9 A11 : Value) : List Value → Prop
  | mk {r0 r3 r4 r6 r10 r12 r13 r14 r15 r16 r17 r18 r19 r20 r21 r22 r23 r24 r25 r26 r27 r28 r29 r30 r31 r32 r33 r34 r35 r36 r37 r38 r39 r40 r41 r42 r43 r44 r45 r46 r47 r48 r49 r50 r51 r52 r53 r54 r55 r56 r57 r58 r59 r60 r61 r62 r63 r64 r65 r66 r67 r68 r69 r70 r71 r72 r73 r74 r75 r76 r77 r78 r79 r80 r81 r82 r83 r84 r85 r86 r87 r88 r89 r90 r91 r92 r93 r94 r95 r96 r97 r98 r99 r100 r101 r102 r103 r104 r105 r106 r107 r108 r109 r110 r111 r112 r113 r114 r115 r116 r117 r118 r119 r120 r121 r122 r123 r124 r125 r126 r127 r128 r129 r130 r131 r132 r133 r134 r135 r136 r137 r138 r139 r140 r141 r142 r143 r144 r145 r146 r147 r148 r149 r150 r151 r152 r153 r154 r155 r156 r157 r158 r159 r160 r161 r162 r163 r164 r165 r166 r167 r168 r169 r170 r171 r172 r173 r174 r175 r176 r177 r178 r179 r180 r181 r182 r183 r184 r185 r186 r187 r188 r189 r190 r191 r192 r193 r194 r195 r196 r197 r198 r199 r200 r201 r202 r203 r204 r205 r206 r207 r208 r209 r210 r211 r212 r213 r214 r215 r216 r217 r218 r219 r220 r221 r222 r223 r224 r225 r226 r227 r228 r229 r230 r231 r232 r233 r234 r235 r236 r237 r238 r239 r240 r241 r242 r243 r244 r245 : Value} : S6t A1 A2 A5 A7 A8 A9 A11 [r0, A1, A2, r3, r4, A5, r6, A7, A8, A9, r10, A11, r12, r13, r14, r15, r16, r17, r18, r19, r20, r21, r22, r23, r24, r25, r26, r27, r28, r29, r30, r31, r32, r33, r34, r35, r36, r37, r38, r39, r40, r41, r42, r43, r44, r45, r46, r47, r48, r49, r50, r51, r52, r53, r54, r55, r56, r57, r58, r59, r60, r61, r62, r63, r64, r65, r66, r67, r68, r69, r70, r71, r72, r73, r74, r75, r76, r77, r78, r79, r80, r81, r82, r83, r84, r85, r86, r87, r88, r89, r90, r91, r92, r93, r94, r95, r96, r97, r98, r99, r100, r101, r102, r103, r104, r105, r106, r107, r108, r109, r110, r111, r112, r113, r114, r115, r116, r117, r118, r119, r120, r121, r122, r123, r124, r125, r126, r127, r128, r129, r130, r131, r132, r133, r134, r135, r136, r137, r138, r139, r140, r141, r142, r143, r144, r145, r146, r147, r148, r149, r150, r151, r152, r153, r154, r155, r156, r157, r158, r159, r160, r161, r162, r163, r164, r165, r166, r167, r168, r169, r170, r171, r172, r173, r174, r175, r176, r177, r178, r179, r180, r181, r182, r183, r184, r185, r186, r187, r188, r189, r190, r191, r192, r193, r194, r195, r196, r197, r198, r199, r200, r201, r202, r203, r204, r205, r206, r207, r208, r209, r210, r211, r212, r213, r214, r215, r216, r217, r218, r219, r220, r221, r222, r223, r224, r225, r226, r227, r228, r229, r230, r231, r232, r233, r234, r235, r236, r237, r238, r239, r240, r241, r242, r243, r244, r245]
section
variable {Q : Post} {p2 qn c cA ba oa g i cap nL : Nat} {F B : Blk} {fa : Nat → Option Value} {nA : Nat} {x : ActR} {a : Option Addr} {Bh : Heap} {slot lost : Int}
/-- The loop of ticks. -/
def I6t (p2 qn c cA ba oa g i nA nL : Nat) (F B : Blk) (fa : Nat → Option Value) (x : ActR) (a : Option Addr) (cap : Nat) (Bh : Heap) (slot lost : Int) (Ln : List Mas) (l : List Value) (H : Heap) : Prop :=
  ∃ (k : Nat) (la : List M) (ms : List PM) (lf : Option (Nat × Int)), (k : Int) ≤ x.ticks % 600 ∧ Net a cap Bh ms la ∧ St slot lost la ∧ LeftOk lf la ∧ la.map masOf = Ln ∧
    S6t (.slice (some ⟨ba, oa, none⟩) nA cA) (.pointer (some ⟨p2, 0, none⟩)) (.pointer (some ⟨g, 0, none⟩)) (.slice (some ⟨qn, 0, none⟩) nL c) (leftV lf) (.int .i64 (i : Int)) (.int .i64 (k : Int)) l ∧
    H = (p2, F) :: (qn, B) :: (leftH lf ++ (ba, .ro fa) :: netH g a cap Bh slot lost ms)
noncomputable def M6t (l : List Value) (_ : Heap) : Nat := 600 - (match getL l 11 with | .int _ i => i.toNat | _ => 0)
theorem l6t {Ln : List Mas} (hs : 1 ≤ slot ∧ slot ≤ 3) (hlo : 1 ≤ lost ∧ lost ≤ 9) (hi : i < nA) (hA : nA ≤ 140737488355328) (hcx : ∀ k v, x.cells[k]? = some v → fa (oa + i * 3 + k) = some v) (hxt : 0 ≤ x.ticks ∧ x.ticks ≤ 65535) {la : List M} {ms : List PM} {lf : Option (Nat × Int)}
    (hn : Net a cap Bh ms la) (hst : St slot lost la) (hlf : LeftOk lf la) (hma : la.map masOf = Ln) (l : List Value)
    (hS : S6t (.slice (some ⟨ba, oa, none⟩) nA cA) (.pointer (some ⟨p2, 0, none⟩)) (.pointer (some ⟨g, 0, none⟩)) (.slice (some ⟨qn, 0, none⟩) nL c) (leftV lf) (.int .i64 (i : Int)) (.int .i64 0) l)
    (hQ : ∀ l v la ms lf, Net a cap Bh ms la → St slot lost la → LeftOk lf la → la.map masOf = Ln → S6t (.slice (some ⟨ba, oa, none⟩) nA cA) (.pointer (some ⟨p2, 0, none⟩)) (.pointer (some ⟨g, 0, none⟩)) (.slice (some ⟨qn, 0, none⟩) nL c) (leftV lf) (.int .i64 (i : Int)) v l →
      Q (.exit 4) l ((p2, F) :: (qn, B) :: (leftH lf ++ (ba, .ro fa) :: netH g a cap Bh slot lost ms))) :
    SLoop Try.prog X6_l3 Q l ((p2, F) :: (qn, B) :: (leftH lf ++ (ba, .ro fa) :: netH g a cap Bh slot lost ms)) := by
  refine SLoop.inv (I6t p2 qn c cA ba oa g i nA nL F B fa x a cap Bh slot lost Ln) M6t (Keep.all ⟨0, la, ms, lf, by omega, hn, hst, hlf, hma, hS, rfl⟩) ?_
  clear hS l hn hst hlf hma la ms lf
  rintro S H ⟨k, la, ms, lf, hk, hn, hst, hlf, hma, hS, rfl⟩ R hR
  have h2 : fa (oa + i * 3 + 2) = some (.int .u16 x.ticks) := hcx 2 _ rfl
  by_cases hlt : (k : Int) < x.ticks % 600
  · have fin : ∀ (l : List Value) (la' : List M) (ms' : List PM) (lf' : Option (Nat × Int)), Net a cap Bh ms' la' → St slot lost la' → LeftOk lf' la' → la'.map masOf = Ln →
        S6t (.slice (some ⟨ba, oa, none⟩) nA cA) (.pointer (some ⟨p2, 0, none⟩)) (.pointer (some ⟨g, 0, none⟩)) (.slice (some ⟨qn, 0, none⟩) nL c) (leftV lf') (.int .i64 (i : Int)) (.int .i64 ((k + 1 : Nat) : Int)) l → (match getL l 11 with | .int _ i => i.toNat | _ => 0) = k + 1 →
        ∀ H, (Keep H fun H' => H' = (p2, F) :: (qn, B) :: (leftH lf' ++ (ba, .ro fa) :: netH g a cap Bh slot lost ms')) → R l H := by
      intro l la' ms' lf' e1 e2 e3 e4 e5 e6 H hH
      refine hR _ _ (hH.mono fun H' e => ⟨⟨k + 1, la', ms', lf', by omega, e1, e2, e3, e4, e5, e⟩, ?_⟩)
      unfold M6t
      cases hS
      rw [e6]
      show 600 - (k + 1) < 600 - Int.toNat (k : Int)
      omega
    have hmt := tick_mas slot lost la
    cases lf with
    | none =>
      cases hS
      rcases tick_free hst hs hlo hlf with ⟨l', n, g1, g2, g3⟩ | ⟨l', g1, g2, g3, _⟩
      · rw [g1] at hmt
        repeat' ((conv => whnf); (first
            | refine Cell.ro h2 ?_
            | with_reducible refine Val.tmod (by omega) ?_
            | refine c12A [_, _, _] hn g1 (fun _ _ ms' hn' => ?_)
            | refine SDraw.held (by kernel_rfl) [] .nil ?_
            | refine Kept.sub (List.nil_sublist _) ?_
            | refine c13Y [_, _, _] hn' g2 g3.top (fun q => ?_)
            | refine New.mk (fun _ => ?_)
            | refine Look.at0 ?_
            | refine Cell.row ?_
            | refine Cell.buf ?_
            | refine Cells.row rfl ?_
            | refine Put.row rfl ?_
            | refine Put.buf rfl ?_
            | refine Look.at1 ?_
            | refine Look.at2 ?_
            | refine Look.at3 ?_
            | refine Look.at4 ?_
            | refine Look.at5 ?_
            | refine Look.at6 ?_
            | refine Look.at7 ?_
            | refine Look.at8 ?_
            | with_reducible refine Val.i64 (by omega) (by omega) ?_
            | with_reducible refine Val.u8 (by omega) (by omega) ?_
            | with_reducible refine Val.u32 (by omega) (by omega) ?_
            | with_reducible refine Val.u64 (by omega) (by omega) ?_
            | with_reducible refine Val.u8m ?_
            | with_reducible refine Val.u32m ?_
            | with_reducible refine Val.u64m ?_
            | with_reducible refine Val.shr8 ?_
            | with_reducible refine Val.shr16 (by decide) ?_
            | with_reducible refine Val.shr24 (by decide) ?_
            | with_reducible refine Val.raw ?_
            | refine Branch.not ?_
            | refine Branch.and ?_
            | refine Branch.or ?_
            | refine Branch.dt (by assumption) ?_
            | refine Branch.df (by assumption) ?_
            | refine Branch.dt rfl ?_
            | refine Branch.dt (by omega) ?_
            | refine Branch.df (by omega) ?_
            | refine Branch.t rfl ?_
            | refine Branch.f rfl ?_
            | refine Branch.t (by assumption) ?_
            | refine Branch.f (by assumption) ?_
            | refine Branch.d (fun _ => ?_) (fun _ => ?_)
            | refine Branch.mk (fun _ => ?_) (fun _ => ?_)
            | refine Need.mk (by first | omega | decide | rfl) ?_
            | refine Idx.nat (by omega) ?_
            | refine Idx.auto (by first | omega | decide) (by first | omega | decide) ?_
            | refine Cell.ro rfl ?_
            | refine SDraw.all (by kernel_rfl) ?_
            | refine Kept.k0 ?_
            | refine Kept.k1 ?_
            | refine Kept.k2 ?_
            | refine Kept.k3 ?_
            | refine Kept.k4 ?_))
        all_goals (conv => whnf)
        all_goals first
          | exact fin _ l' ms' (some (_, n)) hn' g2 g3.top (hmt.trans hma) .mk rfl _ (Keep.glue [[_], [_], [_], [_], netH g a cap Bh slot lost ms'] [0, 1, 2, 3, 4] [1, 2, 0, 3, 4] [] (by decide) rfl rfl)
          | trace_state
      · rw [g1] at hmt
        repeat' ((conv => whnf); (first
            | refine Cell.ro h2 ?_
            | with_reducible refine Val.tmod (by omega) ?_
            | refine c12A [_, _, _] hn g1 (fun _ _ ms' hn' => ?_)
            | refine SDraw.held (by kernel_rfl) [] .nil ?_
            | refine Kept.sub (List.nil_sublist _) ?_
            | refine c13Z [_, _, _] hn' g3 ?_
            | refine New.mk (fun _ => ?_)
            | refine Look.at0 ?_
            | refine Cell.row ?_
            | refine Cell.buf ?_
            | refine Cells.row rfl ?_
            | refine Put.row rfl ?_
            | refine Put.buf rfl ?_
            | refine Look.at1 ?_
            | refine Look.at2 ?_
            | refine Look.at3 ?_
            | refine Look.at4 ?_
            | refine Look.at5 ?_
            | refine Look.at6 ?_
            | refine Look.at7 ?_
            | refine Look.at8 ?_
            | with_reducible refine Val.i64 (by omega) (by omega) ?_
            | with_reducible refine Val.u8 (by omega) (by omega) ?_
            | with_reducible refine Val.u32 (by omega) (by omega) ?_
            | with_reducible refine Val.u64 (by omega) (by omega) ?_
            | with_reducible refine Val.u8m ?_
            | with_reducible refine Val.u32m ?_
            | with_reducible refine Val.u64m ?_
            | with_reducible refine Val.shr8 ?_
            | with_reducible refine Val.shr16 (by decide) ?_
            | with_reducible refine Val.shr24 (by decide) ?_
            | with_reducible refine Val.raw ?_
            | refine Branch.not ?_
            | refine Branch.and ?_
            | refine Branch.or ?_
            | refine Branch.dt (by assumption) ?_
            | refine Branch.df (by assumption) ?_
            | refine Branch.dt rfl ?_
            | refine Branch.dt (by omega) ?_
            | refine Branch.df (by omega) ?_
            | refine Branch.t rfl ?_
            | refine Branch.f rfl ?_
            | refine Branch.t (by assumption) ?_
            | refine Branch.f (by assumption) ?_
            | refine Branch.d (fun _ => ?_) (fun _ => ?_)
            | refine Branch.mk (fun _ => ?_) (fun _ => ?_)
            | refine Need.mk (by first | omega | decide | rfl) ?_
            | refine Idx.nat (by omega) ?_
            | refine Idx.auto (by first | omega | decide) (by first | omega | decide) ?_
            | refine Cell.ro rfl ?_
            | refine SDraw.all (by kernel_rfl) ?_
            | refine Kept.k0 ?_
            | refine Kept.k1 ?_
            | refine Kept.k2 ?_
            | refine Kept.k3 ?_
            | refine Kept.k4 ?_))
        all_goals (conv => whnf)
        all_goals first
          | exact fin _ l' ms' none hn' g2 g3 (hmt.trans hma) .mk rfl _ (Keep.all rfl)
          | trace_state
    | some qx =>
      obtain ⟨q, n⟩ := qx
      cases hS
      obtain ⟨l', g1, g2, g3⟩ := tick_led hst hlo.1 hlf
      have hn0 : ¬ n = 0 := by
        obtain ⟨m, hm, _, e⟩ := hlf
        have := (hst.ok.ok m hm).node
        dsimp only at e; omega
      rw [g1] at hmt
      repeat' ((conv => whnf); (first
          | refine Cell.ro h2 ?_
          | with_reducible refine Val.tmod (by omega) ?_
          | refine c12A [_, _, _, _] hn g1 (fun _ _ ms' hn' => ?_)
          | refine SDraw.held (by kernel_rfl) [(q, .row 3 [.int .i64 n] (0, 0))] (.same (.tail _ (.tail _ (.head _))) .nil) ?_
          | refine c13Y [_, _, _, _] hn' g2 g3.top (fun q => ?_)
          | refine c13Y [_, _, _, _, _] hn' g2 g3.top (fun q => ?_)
          | refine Kept.sub (List.Sublist.cons _ (List.Sublist.cons _ (List.Sublist.cons _ (List.Sublist.cons_cons _ (List.nil_sublist _))))) ?_
          | refine Kept.sub (List.Sublist.cons _ (List.Sublist.cons _ (List.Sublist.cons_cons _ (List.nil_sublist _)))) ?_
          | refine enter19 ?_
          | refine Keep.all ?_
          | refine New.mk (fun _ => ?_)
          | refine Look.at0 ?_
          | refine Cell.row ?_
          | refine Cell.buf ?_
          | refine Cells.row rfl ?_
          | refine Put.row rfl ?_
          | refine Put.buf rfl ?_
          | refine Look.at1 ?_
          | refine Look.at2 ?_
          | refine Look.at3 ?_
          | refine Look.at4 ?_
          | refine Look.at5 ?_
          | refine Look.at6 ?_
          | refine Look.at7 ?_
          | refine Look.at8 ?_
          | with_reducible refine Val.i64 (by omega) (by omega) ?_
          | with_reducible refine Val.u8 (by omega) (by omega) ?_
          | with_reducible refine Val.u32 (by omega) (by omega) ?_
          | with_reducible refine Val.u64 (by omega) (by omega) ?_
          | with_reducible refine Val.u8m ?_
          | with_reducible refine Val.u32m ?_
          | with_reducible refine Val.u64m ?_
          | with_reducible refine Val.shr8 ?_
          | with_reducible refine Val.shr16 (by decide) ?_
          | with_reducible refine Val.shr24 (by decide) ?_
          | with_reducible refine Val.raw ?_
          | refine Branch.not ?_
          | refine Branch.and ?_
          | refine Branch.or ?_
          | refine Branch.dt (by assumption) ?_
          | refine Branch.df (by assumption) ?_
          | refine Branch.dt rfl ?_
          | refine Branch.dt (by omega) ?_
          | refine Branch.df (by omega) ?_
          | refine Branch.t rfl ?_
          | refine Branch.f rfl ?_
          | refine Branch.t (by assumption) ?_
          | refine Branch.f (by assumption) ?_
          | refine Branch.d (fun _ => ?_) (fun _ => ?_)
          | refine Branch.mk (fun _ => ?_) (fun _ => ?_)
          | refine Need.mk (by first | omega | decide | rfl) ?_
          | refine Idx.nat (by omega) ?_
          | refine Idx.auto (by first | omega | decide) (by first | omega | decide) ?_
          | refine Cell.ro rfl ?_
          | refine SDraw.all (by kernel_rfl) ?_
          | refine Kept.k0 ?_
          | refine Kept.k1 ?_
          | refine Kept.k2 ?_
          | refine Kept.k3 ?_
          | refine Kept.k4 ?_))
      all_goals (conv => whnf)
      all_goals first
        | exact fin _ l' ms' (some (_, n)) hn' g2 g3.top (hmt.trans hma) .mk rfl _ (Keep.glue [[_], [_], [_], [_], [_], [_], netH g a cap Bh slot lost ms'] [0, 1, 2, 3, 4, 5, 6] [2, 3, 0, 5, 6] [1, 4] (by decide) rfl rfl)
        | exact fin _ l' ms' (some (q, n)) hn' g2 g3.top (hmt.trans hma) .mk rfl _ (Keep.glue [[_], [_], [_], [_], [_], [_], netH g a cap Bh slot lost ms'] [0, 1, 2, 3, 4, 5, 6] [2, 3, 0, 5, 6] [1, 4] (by decide) rfl rfl)
  · cases hS
    cases lf with
    | none =>
      repeat' ((conv => whnf); (first
          | refine Cell.ro h2 ?_
          | with_reducible refine Val.tmod (by omega) ?_
          | refine New.mk (fun _ => ?_)
          | refine Look.at0 ?_
          | refine Cell.row ?_
          | refine Cell.buf ?_
          | refine Cells.row rfl ?_
          | refine Put.row rfl ?_
          | refine Put.buf rfl ?_
          | refine Look.at1 ?_
          | refine Look.at2 ?_
          | refine Look.at3 ?_
          | refine Look.at4 ?_
          | refine Look.at5 ?_
          | refine Look.at6 ?_
          | refine Look.at7 ?_
          | refine Look.at8 ?_
          | with_reducible refine Val.i64 (by omega) (by omega) ?_
          | with_reducible refine Val.u8 (by omega) (by omega) ?_
          | with_reducible refine Val.u32 (by omega) (by omega) ?_
          | with_reducible refine Val.u64 (by omega) (by omega) ?_
          | with_reducible refine Val.u8m ?_
          | with_reducible refine Val.u32m ?_
          | with_reducible refine Val.u64m ?_
          | with_reducible refine Val.shr8 ?_
          | with_reducible refine Val.shr16 (by decide) ?_
          | with_reducible refine Val.shr24 (by decide) ?_
          | with_reducible refine Val.raw ?_
          | refine Branch.not ?_
          | refine Branch.and ?_
          | refine Branch.or ?_
          | refine Branch.dt (by assumption) ?_
          | refine Branch.df (by assumption) ?_
          | refine Branch.dt rfl ?_
          | refine Branch.dt (by omega) ?_
          | refine Branch.df (by omega) ?_
          | refine Branch.t rfl ?_
          | refine Branch.f rfl ?_
          | refine Branch.t (by assumption) ?_
          | refine Branch.f (by assumption) ?_
          | refine Branch.d (fun _ => ?_) (fun _ => ?_)
          | refine Branch.mk (fun _ => ?_) (fun _ => ?_)
          | refine Need.mk (by first | omega | decide | rfl) ?_
          | refine Idx.nat (by omega) ?_
          | refine Idx.auto (by first | omega | decide) (by first | omega | decide) ?_
          | refine Cell.ro rfl ?_
          | refine SDraw.all (by kernel_rfl) ?_
          | refine Kept.k0 ?_
          | refine Kept.k1 ?_
          | refine Kept.k2 ?_
          | refine Kept.k3 ?_
          | refine Kept.k4 ?_))
      all_goals (conv => whnf)
      exact hQ _ _ la ms none hn hst hlf hma .mk
    | some qx =>
      repeat' ((conv => whnf); (first
          | refine Cell.ro h2 ?_
          | with_reducible refine Val.tmod (by omega) ?_
          | refine New.mk (fun _ => ?_)
          | refine Look.at0 ?_
          | refine Cell.row ?_
          | refine Cell.buf ?_
          | refine Cells.row rfl ?_
          | refine Put.row rfl ?_
          | refine Put.buf rfl ?_
          | refine Look.at1 ?_
          | refine Look.at2 ?_
          | refine Look.at3 ?_
          | refine Look.at4 ?_
          | refine Look.at5 ?_
          | refine Look.at6 ?_
          | refine Look.at7 ?_
          | refine Look.at8 ?_
          | with_reducible refine Val.i64 (by omega) (by omega) ?_
          | with_reducible refine Val.u8 (by omega) (by omega) ?_
          | with_reducible refine Val.u32 (by omega) (by omega) ?_
          | with_reducible refine Val.u64 (by omega) (by omega) ?_
          | with_reducible refine Val.u8m ?_
          | with_reducible refine Val.u32m ?_
          | with_reducible refine Val.u64m ?_
          | with_reducible refine Val.shr8 ?_
          | with_reducible refine Val.shr16 (by decide) ?_
          | with_reducible refine Val.shr24 (by decide) ?_
          | with_reducible refine Val.raw ?_
          | refine Branch.not ?_
          | refine Branch.and ?_
          | refine Branch.or ?_
          | refine Branch.dt (by assumption) ?_
          | refine Branch.df (by assumption) ?_
          | refine Branch.dt rfl ?_
          | refine Branch.dt (by omega) ?_
          | refine Branch.df (by omega) ?_
          | refine Branch.t rfl ?_
          | refine Branch.f rfl ?_
          | refine Branch.t (by assumption) ?_
          | refine Branch.f (by assumption) ?_
          | refine Branch.d (fun _ => ?_) (fun _ => ?_)
          | refine Branch.mk (fun _ => ?_) (fun _ => ?_)
          | refine Need.mk (by first | omega | decide | rfl) ?_
          | refine Idx.nat (by omega) ?_
          | refine Idx.auto (by first | omega | decide) (by first | omega | decide) ?_
          | refine Cell.ro rfl ?_
          | refine SDraw.all (by kernel_rfl) ?_
          | refine Kept.k0 ?_
          | refine Kept.k1 ?_
          | refine Kept.k2 ?_
          | refine Kept.k3 ?_
          | refine Kept.k4 ?_))
      all_goals (conv => whnf)
      exact hQ _ _ la ms (some qx) hn hst hlf hma .mk
end
end Go.Proofs.Ytmakaofdpoiaaaa
