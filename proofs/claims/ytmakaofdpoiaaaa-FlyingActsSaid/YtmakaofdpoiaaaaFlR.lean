/- Layer 24: where the master loses its power, the first of the others becomes master: the walk. -/
import Derived.Test.YtmakaofdpoiaaaaFlQ
set_option linter.unusedVariables false
set_option linter.unusedSimpArgs false
set_option maxRecDepth 100000
set_option maxHeartbeats 4000000
namespace Go.Proofs.Ytmakaofdpoiaaaa
open Sx
section
variable {K : Value → Heap → Prop} {g cap : Nat} {a : Option Addr} {Bh : Heap} {slot lost : Int} {ms : List PM} {l l' : List M}
theorem c13W {n : Int} (A : Heap) (hn : Net a cap Bh ms l) (hl : ∃ m, leadL l = some m ∧ m.node = n) (h1 : ∀ q, K (.slice (some ⟨q, 0, none⟩) 1 1) ((q, .row 3 [.int .i64 n] (0, 0)) :: (A ++ netH g a cap Bh slot lost ms))) :
    SCalls Try.prog 13 [.pointer (some ⟨g, 0, none⟩)] (A ++ netH g a cap Bh slot lost ms) K := by
  obtain ⟨t, hL, ht⟩ := hl
  refine c13A A hn (fun e => by rw [hL] at e; cases e) fun q m e => ?_
  rw [hL] at e
  injection e with e
  rw [← e, ht]; exact h1 q
theorem c13V (A : Heap) (hn : Net a cap Bh ms l) (hl : leadL l = none) (h0 : K (.slice none 0 0) (A ++ netH g a cap Bh slot lost ms)) :
    SCalls Try.prog 13 [.pointer (some ⟨g, 0, none⟩)] (A ++ netH g a cap Bh slot lost ms) K :=
  c13A A hn (fun _ => h0) fun q m e => by rw [hl] at e; cases e
theorem c12AT {t : Option Int} (A : Heap) (hn : Net a cap Bh ms l) (he : tickM slot lost l = (l', t)) (h : ∀ q c ms', 1 ≤ c → Net a cap Bh ms' l' → K (toldV q c t) (toldH q c t ++ (A ++ netH g a cap Bh slot lost ms'))) :
    SCalls Try.prog 12 [.pointer (some ⟨g, 0, none⟩)] (A ++ netH g a cap Bh slot lost ms) K :=
  SCalls.keep (SCalls.under A (c12E hn he fun q c ms' hq hn' => Keep.glue [A, toldH q c t, netH g a cap Bh slot lost ms'] [0, 1, 2] [1, 0, 2] [] (by decide) rfl (h q c ms' hq hn')))
theorem c20E {n : Int} {on : Bool} {code : Int} (hn : Net a cap Bh ms l) (he : powL slot l n on = (code, l')) (h : ∀ ms', Net a cap Bh ms' l' → K (.int .i64 code) (netH g a cap Bh slot lost ms')) :
    SCalls Try.prog 20 [.pointer (some ⟨g, 0, none⟩), .int .i64 n, .bool on] (netH g a cap Bh slot lost ms) K :=
  c20N hn n on fun ms' hn' => by rw [he] at hn' ⊢; exact h ms' hn'
/-- A net out of a copy, beside two inputs. -/
theorem c10SA {q c N : Nat} {L : List Mas} {x0 : Nat × Blk} {R1 R2 : Heap} (hsl : 0 ≤ slot ∧ slot ≤ 18446744073709551615)
    (hE : ∀ e, newF slot lost L = .error e → K (.tuple ⟨[.pointer none, .int .i64 e]⟩) (x0 :: (R1 ++ R2)))
    (hN : ∀ ms g a cap Bh l, newF slot lost L = .ok l → Net a cap Bh ms l → K (.tuple ⟨[.pointer (some ⟨g, 0, none⟩), .int .i64 0]⟩) (x0 :: (R1 ++ (R2 ++ netH g a cap Bh slot lost ms)))) :
    SCalls Try.prog 10 [.slice (some ⟨q, 0, none⟩) L.length c, .int .u64 slot, .int .u64 lost] (x0 :: (q, .buf 30 (L.flatMap Mas.cells) N) :: (R1 ++ R2)) K :=
  c10S hsl hE fun ms g a cap Bh l he hn => by rw [List.append_assoc]; exact hN ms g a cap Bh l he hn
/-- The master's power is taken. -/
theorem pow_off {n : Int} (h : St slot lost l) (hc : Calm n l) : ∃ l', powL slot l n false = (0, l') ∧ NetOk l' ∧ l'.map masOf = (l.map masOf).map (setOn n false) ∧ (∀ m ∈ l', m.on = false → m.is = 0) ∧ (∀ m ∈ l', m.on = true → m.is = 3 ∧ m.mute = 0) := by
  have hok := h.ok.pow slot n false
  have hmas := pow_mas h.ok slot n false
  obtain ⟨t, ht, ht2, ht3⟩ := hc.top
  have hf : findL n l = some t := by
    cases hf : findL n l with
    | none =>
      have := List.find?_eq_none.1 hf t ht
      simp [ht3] at this
    | some x =>
      have hx := List.mem_of_find?_eq_some hf
      have hxn : x.node = n := by simpa using List.find?_some hf
      rw [node_inj h.ok.nd hx ht (hxn.trans ht3.symm)]
  have hton : ¬ t.on = false := fun z => by have := h.off t ht z; omega
  have e : powL slot l n false = (0, l.map fun y => if y.node = n then powM slot false y else y) := by
    unfold powL
    rw [hf]
    exact if_neg hton
  rw [e] at hok hmas
  refine ⟨_, e, hok, hmas, ?_, ?_⟩
  · intro m hm ho
    obtain ⟨y, hy, rfl⟩ := List.mem_map.1 hm
    by_cases z : y.node = n
    · rw [if_pos z]; rfl
    · rw [if_neg z] at ho ⊢; exact h.off y hy ho
  · intro m hm ho
    obtain ⟨y, hy, rfl⟩ := List.mem_map.1 hm
    by_cases z : y.node = n
    · rw [if_pos z] at ho; cases ho
    · rw [if_neg z] at ho ⊢
      rcases hc.rest y hy z with q | q
      · rcases h.on y hy ho with w | w | w <;> omega
      · exact q
end
inductive S6s (A2 A5 A7 A12 : Value) : List Value → Prop
  | mk {r0 r1 r3 r4 r6 r8 r9 r10 r11 r13 r14 r15 r16 r17 r18 r19 r20 r21 r22 r23 r24 r25 r26 r27 r28 r29 r30 r31 r32 r33 r34 r35 r36 r37 r38 r39 r40 r41 r42 r43 r44 r45 r46 r47 r48 r49 r50 r51 r52 r53 r54 r55 r56 r57 r58 r59 r60 r61 r62 r63 r64 r65 r66 r67 r68 r69 r70 r71 r72 r73 r74 r75 r76 r77 r78 r79 r80 r81 r82 r83 r84 r85 r86 r87 r88 r89 r90 r91 r92 r93 r94 r95 r96 r97 r98 r99 r100 r101 r102 r103 r104 r105 r106 r107 r108 r109 r110 r111 r112 r113 r114 r115 r116 r117 r118 r119 r120 r121 r122 r123 r124 r125 r126 r127 r128 r129 r130 r131 r132 r133 r134 r135 r136 r137 r138 r139 r140 r141 r142 r143 r144 r145 r146 r147 r148 r149 r150 r151 r152 r153 r154 r155 r156 r157 r158 r159 r160 r161 r162 r163 r164 r165 r166 r167 r168 r169 r170 r171 r172 r173 r174 r175 r176 r177 r178 r179 r180 r181 r182 r183 r184 r185 r186 r187 r188 r189 r190 r191 r192 r193 r194 r195 r196 r197 r198 r199 r200 r201 r202 r203 r204 r205 r206 r207 r208 r209 r210 r211 r212 r213 r214 r215 r216 r217 r218 r219 r220 r221 r222 r223 r224 r225 r226 r227 r228 r229 r230 r231 r232 r233 r234 r235 r236 r237 r238 r239 r240 r241 r242 r243 r244 r245 : Value} : S6s A2 A5 A7 A12 [r0, r1, A2, r3, r4, A5, r6, A7, r8, r9, r10, r11, A12, r13, r14, r15, r16, r17, r18, r19, r20, r21, r22, r23, r24, r25, r26, r27, r28, r29, r30, r31, r32, r33, r34, r35, r36, r37, r38, r39, r40, r41, r42, r43, r44, r45, r46, r47, r48, r49, r50, r51, r52, r53, r54, r55, r56, r57, r58, r59, r60, r61, r62, r63, r64, r65, r66, r67, r68, r69, r70, r71, r72, r73, r74, r75, r76, r77, r78, r79, r80, r81, r82, r83, r84, r85, r86, r87, r88, r89, r90, r91, r92, r93, r94, r95, r96, r97, r98, r99, r100, r101, r102, r103, r104, r105, r106, r107, r108, r109, r110, r111, r112, r113, r114, r115, r116, r117, r118, r119, r120, r121, r122, r123, r124, r125, r126, r127, r128, r129, r130, r131, r132, r133, r134, r135, r136, r137, r138, r139, r140, r141, r142, r143, r144, r145, r146, r147, r148, r149, r150, r151, r152, r153, r154, r155, r156, r157, r158, r159, r160, r161, r162, r163, r164, r165, r166, r167, r168, r169, r170, r171, r172, r173, r174, r175, r176, r177, r178, r179, r180, r181, r182, r183, r184, r185, r186, r187, r188, r189, r190, r191, r192, r193, r194, r195, r196, r197, r198, r199, r200, r201, r202, r203, r204, r205, r206, r207, r208, r209, r210, r211, r212, r213, r214, r215, r216, r217, r218, r219, r220, r221, r222, r223, r224, r225, r226, r227, r228, r229, r230, r231, r232, r233, r234, r235, r236, r237, r238, r239, r240, r241, r242, r243, r244, r245]
inductive S6o (A2 A5 A7 A8 A15 : Value) : List Value → Prop
  | mk {r0 r1 r3 r4 r6 r9 r10 r11 r12 r13 r14 r16 r17 r18 r19 r20 r21 r22 r23 r24 r25 r26 r27 r28 r29 r30 r31 r32 r33 r34 r35 r36 r37 r38 r39 r40 r41 r42 r43 r44 r45 r46 r47 r48 r49 r50 r51 r52 r53 r54 r55 r56 r57 r58 r59 r60 r61 r62 r63 r64 r65 r66 r67 r68 r69 r70 r71 r72 r73 r74 r75 r76 r77 r78 r79 r80 r81 r82 r83 r84 r85 r86 r87 r88 r89 r90 r91 r92 r93 r94 r95 r96 r97 r98 r99 r100 r101 r102 r103 r104 r105 r106 r107 r108 r109 r110 r111 r112 r113 r114 r115 r116 r117 r118 r119 r120 r121 r122 r123 r124 r125 r126 r127 r128 r129 r130 r131 r132 r133 r134 r135 r136 r137 r138 r139 r140 r141 r142 r143 r144 r145 r146 r147 r148 r149 r150 r151 r152 r153 r154 r155 r156 r157 r158 r159 r160 r161 r162 r163 r164 r165 r166 r167 r168 r169 r170 r171 r172 r173 r174 r175 r176 r177 r178 r179 r180 r181 r182 r183 r184 r185 r186 r187 r188 r189 r190 r191 r192 r193 r194 r195 r196 r197 r198 r199 r200 r201 r202 r203 r204 r205 r206 r207 r208 r209 r210 r211 r212 r213 r214 r215 r216 r217 r218 r219 r220 r221 r222 r223 r224 r225 r226 r227 r228 r229 r230 r231 r232 r233 r234 r235 r236 r237 r238 r239 r240 r241 r242 r243 r244 r245 : Value} : S6o A2 A5 A7 A8 A15 [r0, r1, A2, r3, r4, A5, r6, A7, A8, r9, r10, r11, r12, r13, r14, A15, r16, r17, r18, r19, r20, r21, r22, r23, r24, r25, r26, r27, r28, r29, r30, r31, r32, r33, r34, r35, r36, r37, r38, r39, r40, r41, r42, r43, r44, r45, r46, r47, r48, r49, r50, r51, r52, r53, r54, r55, r56, r57, r58, r59, r60, r61, r62, r63, r64, r65, r66, r67, r68, r69, r70, r71, r72, r73, r74, r75, r76, r77, r78, r79, r80, r81, r82, r83, r84, r85, r86, r87, r88, r89, r90, r91, r92, r93, r94, r95, r96, r97, r98, r99, r100, r101, r102, r103, r104, r105, r106, r107, r108, r109, r110, r111, r112, r113, r114, r115, r116, r117, r118, r119, r120, r121, r122, r123, r124, r125, r126, r127, r128, r129, r130, r131, r132, r133, r134, r135, r136, r137, r138, r139, r140, r141, r142, r143, r144, r145, r146, r147, r148, r149, r150, r151, r152, r153, r154, r155, r156, r157, r158, r159, r160, r161, r162, r163, r164, r165, r166, r167, r168, r169, r170, r171, r172, r173, r174, r175, r176, r177, r178, r179, r180, r181, r182, r183, r184, r185, r186, r187, r188, r189, r190, r191, r192, r193, r194, r195, r196, r197, r198, r199, r200, r201, r202, r203, r204, r205, r206, r207, r208, r209, r210, r211, r212, r213, r214, r215, r216, r217, r218, r219, r220, r221, r222, r223, r224, r225, r226, r227, r228, r229, r230, r231, r232, r233, r234, r235, r236, r237, r238, r239, r240, r241, r242, r243, r244, r245]
inductive S6f (A2 A5 A16 A17 A18 : Value) : List Value → Prop
  | mk {r0 r1 r3 r4 r6 r7 r8 r9 r10 r11 r12 r13 r14 r15 r19 r20 r21 r22 r23 r24 r25 r26 r27 r28 r29 r30 r31 r32 r33 r34 r35 r36 r37 r38 r39 r40 r41 r42 r43 r44 r45 r46 r47 r48 r49 r50 r51 r52 r53 r54 r55 r56 r57 r58 r59 r60 r61 r62 r63 r64 r65 r66 r67 r68 r69 r70 r71 r72 r73 r74 r75 r76 r77 r78 r79 r80 r81 r82 r83 r84 r85 r86 r87 r88 r89 r90 r91 r92 r93 r94 r95 r96 r97 r98 r99 r100 r101 r102 r103 r104 r105 r106 r107 r108 r109 r110 r111 r112 r113 r114 r115 r116 r117 r118 r119 r120 r121 r122 r123 r124 r125 r126 r127 r128 r129 r130 r131 r132 r133 r134 r135 r136 r137 r138 r139 r140 r141 r142 r143 r144 r145 r146 r147 r148 r149 r150 r151 r152 r153 r154 r155 r156 r157 r158 r159 r160 r161 r162 r163 r164 r165 r166 r167 r168 r169 r170 r171 r172 r173 r174 r175 r176 r177 r178 r179 r180 r181 r182 r183 r184 r185 r186 r187 r188 r189 r190 r191 r192 r193 r194 r195 r196 r197 r198 r199 r200 r201 r202 r203 r204 r205 r206 r207 r208 r209 r210 r211 r212 r213 r214 r215 r216 r217 r218 r219 r220 r221 r222 r223 r224 r225 r226 r227 r228 r229 r230 r231 r232 r233 r234 r235 r236 r237 r238 r239 r240 r241 r242 r243 r244 r245 : Value} : S6f A2 A5 A16 A17 A18 [r0, r1, A2, r3, r4, A5, r6, r7, r8, r9, r10, r11, r12, r13, r14, r15, A16, A17, A18, r19, r20, r21, r22, r23, r24, r25, r26, r27, r28, r29, r30, r31, r32, r33, r34, r35, r36, r37, r38, r39, r40, r41, r42, r43, r44, r45, r46, r47, r48, r49, r50, r51, r52, r53, r54, r55, r56, r57, r58, r59, r60, r61, r62, r63, r64, r65, r66, r67, r68, r69, r70, r71, r72, r73, r74, r75, r76, r77, r78, r79, r80, r81, r82, r83, r84, r85, r86, r87, r88, r89, r90, r91, r92, r93, r94, r95, r96, r97, r98, r99, r100, r101, r102, r103, r104, r105, r106, r107, r108, r109, r110, r111, r112, r113, r114, r115, r116, r117, r118, r119, r120, r121, r122, r123, r124, r125, r126, r127, r128, r129, r130, r131, r132, r133, r134, r135, r136, r137, r138, r139, r140, r141, r142, r143, r144, r145, r146, r147, r148, r149, r150, r151, r152, r153, r154, r155, r156, r157, r158, r159, r160, r161, r162, r163, r164, r165, r166, r167, r168, r169, r170, r171, r172, r173, r174, r175, r176, r177, r178, r179, r180, r181, r182, r183, r184, r185, r186, r187, r188, r189, r190, r191, r192, r193, r194, r195, r196, r197, r198, r199, r200, r201, r202, r203, r204, r205, r206, r207, r208, r209, r210, r211, r212, r213, r214, r215, r216, r217, r218, r219, r220, r221, r222, r223, r224, r225, r226, r227, r228, r229, r230, r231, r232, r233, r234, r235, r236, r237, r238, r239, r240, r241, r242, r243, r244, r245]
section
variable {Q : Post} {p2 qn c g cap nL : Nat} {sv : Value} {B : Blk} {a : Option Addr} {Bh : Heap} {slot lost : Int}
/-- It settles. -/
def I6s (p2 qn c g nL : Nat) (sv : Value) (B : Blk) (a : Option Addr) (cap : Nat) (Bh : Heap) (slot lost : Int) (Ln : List Mas) (l : List Value) (H : Heap) : Prop :=
  ∃ (k : Nat) (la : List M) (ms : List PM), (k : Int) ≤ 384 * slot + lost + 3 ∧ Net a cap Bh ms la ∧ Way slot lost k la ∧ la.map masOf = Ln ∧
    S6s (.pointer (some ⟨p2, 0, none⟩)) (.pointer (some ⟨g, 0, none⟩)) (.slice (some ⟨qn, 0, none⟩) nL c) (.int .u64 (k : Int)) l ∧
    H = (p2, .row 25 [sv, .int .u64 slot, .int .u64 lost] (0, 0)) :: (qn, B) :: netH g a cap Bh slot lost ms
noncomputable def M6s (l : List Value) (_ : Heap) : Nat := 2000 - (match getL l 12 with | .int _ i => i.toNat | _ => 0)
theorem l6s {Ln : List Mas} (hs : 1 ≤ slot ∧ slot ≤ 3) (hlo : 1 ≤ lost ∧ lost ≤ 9) {la : List M} {ms : List PM} (hn : Net a cap Bh ms la) (hst : St slot lost la) (hma : la.map masOf = Ln) (l : List Value)
    (hS : S6s (.pointer (some ⟨p2, 0, none⟩)) (.pointer (some ⟨g, 0, none⟩)) (.slice (some ⟨qn, 0, none⟩) nL c) (.int .u64 0) l)
    (hQ : ∀ l v la ms, Net a cap Bh ms la → Way slot lost (384 * slot + lost + 3) la → la.map masOf = Ln → S6s (.pointer (some ⟨p2, 0, none⟩)) (.pointer (some ⟨g, 0, none⟩)) (.slice (some ⟨qn, 0, none⟩) nL c) v l →
      Q (.exit 6) l ((p2, .row 25 [sv, .int .u64 slot, .int .u64 lost] (0, 0)) :: (qn, B) :: netH g a cap Bh slot lost ms)) :
    SLoop Try.prog X6_l2 Q l ((p2, .row 25 [sv, .int .u64 slot, .int .u64 lost] (0, 0)) :: (qn, B) :: netH g a cap Bh slot lost ms) := by
  have hbf : boundF slot lost = 384 * slot + lost + 2 := by unfold boundF; rw [if_neg (by omega)]
  refine SLoop.inv (I6s p2 qn c g nL sv B a cap Bh slot lost Ln) M6s (Keep.all ⟨0, la, ms, by omega, hn, ⟨hst, .inl rfl⟩, hma, hS, rfl⟩) ?_
  clear hS l hn hst hma la ms
  rintro S H ⟨k, la, ms, hk, hn, hw, hma, hS, rfl⟩ R hR
  cases hS
  by_cases hlt : (k : Int) ≤ 384 * slot + lost + 2
  · obtain ⟨l', t, g1, g2⟩ := way_tick hs hlo hw
    have hmt := tick_mas slot lost la
    rw [g1] at hmt
    repeat' ((conv => whnf); (first
        | refine c18B (by omega) (by omega) hbf ?_
        | refine c12A [_, _] hn g1 (fun _ _ ms' hn' => ?_)
        | refine New.mk (fun _ => ?_)
        | refine Look.at0 ?_
        | refine Cell.row ?_
        | refine Cell.buf ?_
        | refine Cells.row rfl ?_
        | refine Put.row rfl ?_
        | refine Put.buf rfl ?_
        | refine Look.at1 ?_
        | refine Look.at2 ?_
        | refine Look.at3 ?_
        | refine Look.at4 ?_
        | refine Look.at5 ?_
        | refine Look.at6 ?_
        | refine Look.at7 ?_
        | refine Look.at8 ?_
        | with_reducible refine Val.i64 (by omega) (by omega) ?_
        | with_reducible refine Val.u8 (by omega) (by omega) ?_
        | with_reducible refine Val.u32 (by omega) (by omega) ?_
        | with_reducible refine Val.u64 (by omega) (by omega) ?_
        | with_reducible refine Val.u8m ?_
        | with_reducible refine Val.u32m ?_
        | with_reducible refine Val.u64m ?_
        | with_reducible refine Val.shr8 ?_
        | with_reducible refine Val.shr16 (by decide) ?_
        | with_reducible refine Val.shr24 (by decide) ?_
        | with_reducible refine Val.raw ?_
        | refine Branch.not ?_
        | refine Branch.and ?_
        | refine Branch.or ?_
        | refine Branch.dt (by assumption) ?_
        | refine Branch.df (by assumption) ?_
        | refine Branch.dt rfl ?_
        | refine Branch.dt (by omega) ?_
        | refine Branch.df (by omega) ?_
        | refine Branch.t rfl ?_
        | refine Branch.f rfl ?_
        | refine Branch.t (by assumption) ?_
        | refine Branch.f (by assumption) ?_
        | refine Branch.d (fun _ => ?_) (fun _ => ?_)
        | refine Branch.mk (fun _ => ?_) (fun _ => ?_)
        | refine Need.mk (by first | omega | decide | rfl) ?_
        | refine Idx.nat (by omega) ?_
        | refine Idx.auto (by first | omega | decide) (by first | omega | decide) ?_
        | refine Cell.ro rfl ?_
        | refine SDraw.all (by kernel_rfl) ?_
        | refine Kept.k0 ?_
        | refine Kept.k1 ?_
        | refine Kept.k2 ?_
        | refine Kept.k3 ?_
        | refine Kept.k4 ?_))
    all_goals (conv => whnf)
    refine hR _ _ (Keep.all ⟨⟨k + 1, l', ms', by omega, hn', g2, hmt.trans hma, .mk, rfl⟩, ?_⟩)
    show 2000 - Int.toNat ((k : Int) + 1) < 2000 - Int.toNat (k : Int); omega
  · have hk' : (k : Int) = 384 * slot + lost + 3 := by omega
    rw [hk'] at hw
    repeat' ((conv => whnf); (first
        | refine c18B (by omega) (by omega) hbf ?_
        | refine New.mk (fun _ => ?_)
        | refine Look.at0 ?_
        | refine Cell.row ?_
        | refine Cell.buf ?_
        | refine Cells.row rfl ?_
        | refine Put.row rfl ?_
        | refine Put.buf rfl ?_
        | refine Look.at1 ?_
        | refine Look.at2 ?_
        | refine Look.at3 ?_
        | refine Look.at4 ?_
        | refine Look.at5 ?_
        | refine Look.at6 ?_
        | refine Look.at7 ?_
        | refine Look.at8 ?_
        | with_reducible refine Val.i64 (by omega) (by omega) ?_
        | with_reducible refine Val.u8 (by omega) (by omega) ?_
        | with_reducible refine Val.u32 (by omega) (by omega) ?_
        | with_reducible refine Val.u64 (by omega) (by omega) ?_
        | with_reducible refine Val.u8m ?_
        | with_reducible refine Val.u32m ?_
        | with_reducible refine Val.u64m ?_
        | with_reducible refine Val.shr8 ?_
        | with_reducible refine Val.shr16 (by decide) ?_
        | with_reducible refine Val.shr24 (by decide) ?_
        | with_reducible refine Val.raw ?_
        | refine Branch.not ?_
        | refine Branch.and ?_
        | refine Branch.or ?_
        | refine Branch.dt (by assumption) ?_
        | refine Branch.df (by assumption) ?_
        | refine Branch.dt rfl ?_
        | refine Branch.dt (by omega) ?_
        | refine Branch.df (by omega) ?_
        | refine Branch.t rfl ?_
        | refine Branch.f rfl ?_
        | refine Branch.t (by assumption) ?_
        | refine Branch.f (by assumption) ?_
        | refine Branch.d (fun _ => ?_) (fun _ => ?_)
        | refine Branch.mk (fun _ => ?_) (fun _ => ?_)
        | refine Need.mk (by first | omega | decide | rfl) ?_
        | refine Idx.nat (by omega) ?_
        | refine Idx.auto (by first | omega | decide) (by first | omega | decide) ?_
        | refine Cell.ro rfl ?_
        | refine SDraw.all (by kernel_rfl) ?_
        | refine Kept.k0 ?_
        | refine Kept.k1 ?_
        | refine Kept.k2 ?_
        | refine Kept.k3 ?_
        | refine Kept.k4 ?_))
    all_goals (conv => whnf)
    exact hQ _ _ la ms hn hw hma .mk
/-- The master's own power, in the list of masters. -/
def I6o (p2 qn c N g q : Nat) (n : Int) (F : Blk) (NH : Heap) (L : List Mas) (l : List Value) (H : Heap) : Prop :=
  ∃ j : Nat, j ≤ L.length ∧ S6o (.pointer (some ⟨p2, 0, none⟩)) (.pointer (some ⟨g, 0, none⟩)) (.slice (some ⟨qn, 0, none⟩) L.length c) (.slice (some ⟨q, 0, none⟩) 1 1) (.int .i64 (j : Int)) l ∧
    H = (q, .row 3 [.int .i64 n] (0, 0)) :: (p2, F) :: (qn, .buf 30 ((updTo (setOn n false) j L).flatMap Mas.cells) N) :: NH
noncomputable def M6o (n : Nat) (l : List Value) (_ : Heap) : Nat := n - (match getL l 15 with | .int _ i => i.toNat | _ => 0)
theorem l6o {L : List Mas} {N q : Nat} {n : Int} {F : Blk} {NH : Heap} (hlen : L.length ≤ 140737488355328) (l : List Value)
    (hS : S6o (.pointer (some ⟨p2, 0, none⟩)) (.pointer (some ⟨g, 0, none⟩)) (.slice (some ⟨qn, 0, none⟩) L.length c) (.slice (some ⟨q, 0, none⟩) 1 1) (.int .i64 0) l)
    (hQ : ∀ l v, S6o (.pointer (some ⟨p2, 0, none⟩)) (.pointer (some ⟨g, 0, none⟩)) (.slice (some ⟨qn, 0, none⟩) L.length c) (.slice (some ⟨q, 0, none⟩) 1 1) v l →
      Q (.exit 8) l ((q, .row 3 [.int .i64 n] (0, 0)) :: (p2, F) :: (qn, .buf 30 ((L.map (setOn n false)).flatMap Mas.cells) N) :: NH)) :
    SLoop Try.prog X6_l1 Q l ((q, .row 3 [.int .i64 n] (0, 0)) :: (p2, F) :: (qn, .buf 30 (L.flatMap Mas.cells) N) :: NH) := by
  refine SLoop.inv (I6o p2 qn c N g q n F NH L) (M6o L.length) (Keep.all ⟨0, by omega, hS, by rw [updTo_zero]⟩) ?_
  clear hS l
  rintro S H ⟨j, hj, hS, rfl⟩ R hR
  cases hS
  by_cases hlt : j < L.length
  · obtain ⟨y, hy⟩ : ∃ y, L[j]? = some y := ⟨_, List.getElem?_eq_getElem hlt⟩
    repeat' ((conv => whnf); (first
        | refine Cell.flat Mas.len (i := 0) (updTo_nth hy) (by decide) rfl ?_
        | refine Put.flat Mas.len (⟨y.node, y.prio, false⟩ : Mas) (updTo_nth hy) (by decide) rfl ?_
        | refine New.mk (fun _ => ?_)
        | refine Look.at0 ?_
        | refine Cell.row ?_
        | refine Cell.buf ?_
        | refine Cells.row rfl ?_
        | refine Put.row rfl ?_
        | refine Put.buf rfl ?_
        | refine Look.at1 ?_
        | refine Look.at2 ?_
        | refine Look.at3 ?_
        | refine Look.at4 ?_
        | refine Look.at5 ?_
        | refine Look.at6 ?_
        | refine Look.at7 ?_
        | refine Look.at8 ?_
        | with_reducible refine Val.i64 (by omega) (by omega) ?_
        | with_reducible refine Val.u8 (by omega) (by omega) ?_
        | with_reducible refine Val.u32 (by omega) (by omega) ?_
        | with_reducible refine Val.u64 (by omega) (by omega) ?_
        | with_reducible refine Val.u8m ?_
        | with_reducible refine Val.u32m ?_
        | with_reducible refine Val.u64m ?_
        | with_reducible refine Val.shr8 ?_
        | with_reducible refine Val.shr16 (by decide) ?_
        | with_reducible refine Val.shr24 (by decide) ?_
        | with_reducible refine Val.raw ?_
        | refine Branch.not ?_
        | refine Branch.and ?_
        | refine Branch.or ?_
        | refine Branch.dt (by assumption) ?_
        | refine Branch.df (by assumption) ?_
        | refine Branch.dt rfl ?_
        | refine Branch.dt (by omega) ?_
        | refine Branch.df (by omega) ?_
        | refine Branch.t rfl ?_
        | refine Branch.f rfl ?_
        | refine Branch.t (by assumption) ?_
        | refine Branch.f (by assumption) ?_
        | refine Branch.d (fun _ => ?_) (fun _ => ?_)
        | refine Branch.mk (fun _ => ?_) (fun _ => ?_)
        | refine Need.mk (by first | omega | decide | rfl) ?_
        | refine Idx.nat (by omega) ?_
        | refine Idx.auto (by first | omega | decide) (by first | omega | decide) ?_
        | refine Cell.ro rfl ?_
        | refine SDraw.all (by kernel_rfl) ?_
        | refine Kept.k0 ?_
        | refine Kept.k1 ?_
        | refine Kept.k2 ?_
        | refine Kept.k3 ?_
        | refine Kept.k4 ?_))
    all_goals (conv => whnf)
    all_goals first
      | (refine hR _ _ (Keep.all ⟨⟨j + 1, by omega, .mk, by rw [← updTo_set hy, show setOn n false y = ⟨y.node, y.prio, false⟩ from if_pos ‹_›]⟩, ?_⟩)
         show L.length - Int.toNat ((j : Int) + 1) < L.length - Int.toNat (j : Int); omega)
      | (refine hR _ _ (Keep.all ⟨⟨j + 1, by omega, .mk, by rw [← updTo_same hy (show setOn n false y = y from if_neg ‹_›)]⟩, ?_⟩)
         show L.length - Int.toNat ((j : Int) + 1) < L.length - Int.toNat (j : Int); omega)
      | trace_state
  · rw [updTo_all (by omega)]
    repeat' ((conv => whnf); (first
        | refine New.mk (fun _ => ?_)
        | refine Look.at0 ?_
        | refine Cell.row ?_
        | refine Cell.buf ?_
        | refine Cells.row rfl ?_
        | refine Put.row rfl ?_
        | refine Put.buf rfl ?_
        | refine Look.at1 ?_
        | refine Look.at2 ?_
        | refine Look.at3 ?_
        | refine Look.at4 ?_
        | refine Look.at5 ?_
        | refine Look.at6 ?_
        | refine Look.at7 ?_
        | refine Look.at8 ?_
        | with_reducible refine Val.i64 (by omega) (by omega) ?_
        | with_reducible refine Val.u8 (by omega) (by omega) ?_
        | with_reducible refine Val.u32 (by omega) (by omega) ?_
        | with_reducible refine Val.u64 (by omega) (by omega) ?_
        | with_reducible refine Val.u8m ?_
        | with_reducible refine Val.u32m ?_
        | with_reducible refine Val.u64m ?_
        | with_reducible refine Val.shr8 ?_
        | with_reducible refine Val.shr16 (by decide) ?_
        | with_reducible refine Val.shr24 (by decide) ?_
        | with_reducible refine Val.raw ?_
        | refine Branch.not ?_
        | refine Branch.and ?_
        | refine Branch.or ?_
        | refine Branch.dt (by assumption) ?_
        | refine Branch.df (by assumption) ?_
        | refine Branch.dt rfl ?_
        | refine Branch.dt (by omega) ?_
        | refine Branch.df (by omega) ?_
        | refine Branch.t rfl ?_
        | refine Branch.f rfl ?_
        | refine Branch.t (by assumption) ?_
        | refine Branch.f (by assumption) ?_
        | refine Branch.d (fun _ => ?_) (fun _ => ?_)
        | refine Branch.mk (fun _ => ?_) (fun _ => ?_)
        | refine Need.mk (by first | omega | decide | rfl) ?_
        | refine Idx.nat (by omega) ?_
        | refine Idx.auto (by first | omega | decide) (by first | omega | decide) ?_
        | refine Cell.ro rfl ?_
        | refine SDraw.all (by kernel_rfl) ?_
        | refine Kept.k0 ?_
        | refine Kept.k1 ?_
        | refine Kept.k2 ?_
        | refine Kept.k3 ?_
        | refine Kept.k4 ?_))
    all_goals (conv => whnf)
    exact hQ _ _ .mk
/-- The next one. -/
def I6f (p2 g : Nat) (sv : Value) (a : Option Addr) (cap : Nat) (Bh : Heap) (slot lost first : Int) (any : Bool) (P : Int → List M → Prop) (l : List Value) (H : Heap) : Prop :=
  ∃ (k : Nat) (la : List M) (ms : List PM), (k : Int) ≤ 384 * slot + lost + 3 ∧ Net a cap Bh ms la ∧ P k la ∧
    S6f (.pointer (some ⟨p2, 0, none⟩)) (.pointer (some ⟨g, 0, none⟩)) (.int .i64 first) (.bool any) (.int .u64 (k : Int)) l ∧
    H = (p2, .row 25 [sv, .int .u64 slot, .int .u64 lost] (0, 0)) :: netH g a cap Bh slot lost ms
noncomputable def M6f (l : List Value) (_ : Heap) : Nat := 2000 - (match getL l 18 with | .int _ i => i.toNat | _ => 0)
theorem l6f {first : Int} {any : Bool} {W node : Int} {P : Int → List M → Prop} (hs : 1 ≤ slot ∧ slot ≤ 3) (hlo : 1 ≤ lost ∧ lost ≤ 9) (hm : Mach slot lost W node P) (hf : (any = false ∧ W = 0) ∨ (any = true ∧ node = first)) {la : List M} {ms : List PM} (hn : Net a cap Bh ms la) (hp : P 0 la) (l : List Value)
    (hS : S6f (.pointer (some ⟨p2, 0, none⟩)) (.pointer (some ⟨g, 0, none⟩)) (.int .i64 first) (.bool any) (.int .u64 0) l)
    (hQ : ∀ l v la ms, Net a cap Bh ms la → P (384 * slot + lost + 3) la → S6f (.pointer (some ⟨p2, 0, none⟩)) (.pointer (some ⟨g, 0, none⟩)) (.int .i64 first) (.bool any) v l →
      Q (.exit 10) l ((p2, .row 25 [sv, .int .u64 slot, .int .u64 lost] (0, 0)) :: netH g a cap Bh slot lost ms))
    (hbad : True) :
    SLoop Try.prog X6_l0 Q l ((p2, .row 25 [sv, .int .u64 slot, .int .u64 lost] (0, 0)) :: netH g a cap Bh slot lost ms) := by
  have hbf : boundF slot lost = 384 * slot + lost + 2 := by unfold boundF; rw [if_neg (by omega)]
  refine SLoop.inv (I6f p2 g sv a cap Bh slot lost first any P) M6f (Keep.all ⟨0, la, ms, by omega, hn, hp, hS, rfl⟩) ?_
  clear hS l hn hp la ms
  rintro S H ⟨k, la, ms, hk, hn, hp, hS, rfl⟩ R hR
  cases hS
  by_cases hlt : (k : Int) ≤ 384 * slot + lost + 2
  · obtain ⟨l', g1, g2⟩ := hm k la (by omega) hp
    by_cases hkW : (k : Int) + 1 = W
    · rw [if_pos hkW] at g1
      rcases hf with ⟨_, hW⟩ | ⟨rfl, hno⟩
      · omega
      · repeat' ((conv => whnf); (first
            | refine c18B (by omega) (by omega) hbf ?_
            | refine c12AT [_] hn g1 (fun _ _ ms' _ hn' => ?_)
            | refine Branch.dt hno ?_
            | refine New.mk (fun _ => ?_)
            | refine Look.at0 ?_
            | refine Cell.row ?_
            | refine Cell.buf ?_
            | refine Cells.row rfl ?_
            | refine Put.row rfl ?_
            | refine Put.buf rfl ?_
            | refine Look.at1 ?_
            | refine Look.at2 ?_
            | refine Look.at3 ?_
            | refine Look.at4 ?_
            | refine Look.at5 ?_
            | refine Look.at6 ?_
            | refine Look.at7 ?_
            | refine Look.at8 ?_
            | with_reducible refine Val.i64 (by omega) (by omega) ?_
            | with_reducible refine Val.u8 (by omega) (by omega) ?_
            | with_reducible refine Val.u32 (by omega) (by omega) ?_
            | with_reducible refine Val.u64 (by omega) (by omega) ?_
            | with_reducible refine Val.u8m ?_
            | with_reducible refine Val.u32m ?_
            | with_reducible refine Val.u64m ?_
            | with_reducible refine Val.shr8 ?_
            | with_reducible refine Val.shr16 (by decide) ?_
            | with_reducible refine Val.shr24 (by decide) ?_
            | with_reducible refine Val.raw ?_
            | refine Branch.not ?_
            | refine Branch.and ?_
            | refine Branch.or ?_
            | refine Branch.dt (by assumption) ?_
            | refine Branch.df (by assumption) ?_
            | refine Branch.dt rfl ?_
            | refine Branch.dt (by omega) ?_
            | refine Branch.df (by omega) ?_
            | refine Branch.t rfl ?_
            | refine Branch.f rfl ?_
            | refine Branch.t (by assumption) ?_
            | refine Branch.f (by assumption) ?_
            | refine Branch.d (fun _ => ?_) (fun _ => ?_)
            | refine Branch.mk (fun _ => ?_) (fun _ => ?_)
            | refine Need.mk (by first | omega | decide | rfl) ?_
            | refine Idx.nat (by omega) ?_
            | refine Idx.auto (by first | omega | decide) (by first | omega | decide) ?_
            | refine Cell.ro rfl ?_
            | refine SDraw.all (by kernel_rfl) ?_
            | refine Kept.k0 ?_
            | refine Kept.k1 ?_
            | refine Kept.k2 ?_
            | refine Kept.k3 ?_
            | refine Kept.k4 ?_))
        all_goals (conv => whnf)
        refine hR _ _ (Keep.d1 ⟨⟨k + 1, l', ms', by omega, hn', g2, .mk, rfl⟩, ?_⟩)
        show 2000 - Int.toNat ((k : Int) + 1) < 2000 - Int.toNat (k : Int); omega
    · rw [if_neg hkW] at g1
      repeat' ((conv => whnf); (first
          | refine c18B (by omega) (by omega) hbf ?_
          | refine c12AT [_] hn g1 (fun _ _ ms' _ hn' => ?_)
          | refine New.mk (fun _ => ?_)
          | refine Look.at0 ?_
          | refine Cell.row ?_
          | refine Cell.buf ?_
          | refine Cells.row rfl ?_
          | refine Put.row rfl ?_
          | refine Put.buf rfl ?_
          | refine Look.at1 ?_
          | refine Look.at2 ?_
          | refine Look.at3 ?_
          | refine Look.at4 ?_
          | refine Look.at5 ?_
          | refine Look.at6 ?_
          | refine Look.at7 ?_
          | refine Look.at8 ?_
          | with_reducible refine Val.i64 (by omega) (by omega) ?_
          | with_reducible refine Val.u8 (by omega) (by omega) ?_
          | with_reducible refine Val.u32 (by omega) (by omega) ?_
          | with_reducible refine Val.u64 (by omega) (by omega) ?_
          | with_reducible refine Val.u8m ?_
          | with_reducible refine Val.u32m ?_
          | with_reducible refine Val.u64m ?_
          | with_reducible refine Val.shr8 ?_
          | with_reducible refine Val.shr16 (by decide) ?_
          | with_reducible refine Val.shr24 (by decide) ?_
          | with_reducible refine Val.raw ?_
          | refine Branch.not ?_
          | refine Branch.and ?_
          | refine Branch.or ?_
          | refine Branch.dt (by assumption) ?_
          | refine Branch.df (by assumption) ?_
          | refine Branch.dt rfl ?_
          | refine Branch.dt (by omega) ?_
          | refine Branch.df (by omega) ?_
          | refine Branch.t rfl ?_
          | refine Branch.f rfl ?_
          | refine Branch.t (by assumption) ?_
          | refine Branch.f (by assumption) ?_
          | refine Branch.d (fun _ => ?_) (fun _ => ?_)
          | refine Branch.mk (fun _ => ?_) (fun _ => ?_)
          | refine Need.mk (by first | omega | decide | rfl) ?_
          | refine Idx.nat (by omega) ?_
          | refine Idx.auto (by first | omega | decide) (by first | omega | decide) ?_
          | refine Cell.ro rfl ?_
          | refine SDraw.all (by kernel_rfl) ?_
          | refine Kept.k0 ?_
          | refine Kept.k1 ?_
          | refine Kept.k2 ?_
          | refine Kept.k3 ?_
          | refine Kept.k4 ?_))
      all_goals (conv => whnf)
      refine hR _ _ (Keep.all ⟨⟨k + 1, l', ms', by omega, hn', g2, .mk, rfl⟩, ?_⟩)
      show 2000 - Int.toNat ((k : Int) + 1) < 2000 - Int.toNat (k : Int); omega
  · have hk' : (k : Int) = 384 * slot + lost + 3 := by omega
    rw [hk'] at hp
    repeat' ((conv => whnf); (first
        | refine c18B (by omega) (by omega) hbf ?_
        | refine New.mk (fun _ => ?_)
        | refine Look.at0 ?_
        | refine Cell.row ?_
        | refine Cell.buf ?_
        | refine Cells.row rfl ?_
        | refine Put.row rfl ?_
        | refine Put.buf rfl ?_
        | refine Look.at1 ?_
        | refine Look.at2 ?_
        | refine Look.at3 ?_
        | refine Look.at4 ?_
        | refine Look.at5 ?_
        | refine Look.at6 ?_
        | refine Look.at7 ?_
        | refine Look.at8 ?_
        | with_reducible refine Val.i64 (by omega) (by omega) ?_
        | with_reducible refine Val.u8 (by omega) (by omega) ?_
        | with_reducible refine Val.u32 (by omega) (by omega) ?_
        | with_reducible refine Val.u64 (by omega) (by omega) ?_
        | with_reducible refine Val.u8m ?_
        | with_reducible refine Val.u32m ?_
        | with_reducible refine Val.u64m ?_
        | with_reducible refine Val.shr8 ?_
        | with_reducible refine Val.shr16 (by decide) ?_
        | with_reducible refine Val.shr24 (by decide) ?_
        | with_reducible refine Val.raw ?_
        | refine Branch.not ?_
        | refine Branch.and ?_
        | refine Branch.or ?_
        | refine Branch.dt (by assumption) ?_
        | refine Branch.df (by assumption) ?_
        | refine Branch.dt rfl ?_
        | refine Branch.dt (by omega) ?_
        | refine Branch.df (by omega) ?_
        | refine Branch.t rfl ?_
        | refine Branch.f rfl ?_
        | refine Branch.t (by assumption) ?_
        | refine Branch.f (by assumption) ?_
        | refine Branch.d (fun _ => ?_) (fun _ => ?_)
        | refine Branch.mk (fun _ => ?_) (fun _ => ?_)
        | refine Need.mk (by first | omega | decide | rfl) ?_
        | refine Idx.nat (by omega) ?_
        | refine Idx.auto (by first | omega | decide) (by first | omega | decide) ?_
        | refine Cell.ro rfl ?_
        | refine SDraw.all (by kernel_rfl) ?_
        | refine Kept.k0 ?_
        | refine Kept.k1 ?_
        | refine Kept.k2 ?_
        | refine Kept.k3 ?_
        | refine Kept.k4 ?_))
    all_goals (conv => whnf)
    exact hQ _ _ la ms hn hp .mk
end
theorem goes_sc {sv svA : Value} {H0 HA : Heap} {L : List Mas} {A : List ActR} (hin : InL sv H0 L) (hinA : InA svA HA A) (s0 lo0 : Int) (hs0 : 0 ≤ s0 ∧ s0 ≤ 18446744073709551615) (hl0 : 0 ≤ lo0 ∧ lo0 ≤ 18446744073709551615) :
    SCalls Try.prog 6 [.agg ⟨[sv, .int .u64 s0, .int .u64 lo0]⟩, svA] (H0 ++ HA) fun v _ => v = .bool true := by
  have hlen : L.length * 24 ≤ 140737488355328 := by obtain ⟨_, _, _, h, _⟩ := hin; omega
  have hsv : ∃ a n c, sv = .slice a n c := by obtain ⟨a, c, h, _⟩ := hin; exact ⟨a, _, c, h⟩
  obtain ⟨sa, sn, sc, rfl⟩ := hsv
  have hsvA : ∃ a c, svA = .slice a A.length c := by obtain ⟨a, c, h, _⟩ := hinA; exact ⟨a, c, h⟩
  obtain ⟨aA, cA, rfl⟩ := hsvA
  obtain ⟨s, es⟩ : ∃ s, s = 1 + s0 % 3 := ⟨_, rfl⟩
  obtain ⟨lo, el⟩ : ∃ lo, lo = 1 + lo0 % 9 := ⟨_, rfl⟩
  have hs : 1 ≤ s ∧ s ≤ 3 := by omega
  have hl : 1 ≤ lo ∧ lo ≤ 9 := by omega
  refine enter6 ?_
  repeat' ((conv => whnf); (first
      | refine c8s es el hs0.1 hl0.1 ⟨_, _, _, rfl⟩ ?_
      | refine SDraw.held (by kernel_rfl) [_] (.same (.head _) .nil) ?_
      | refine Kept.sub (List.Sublist.cons_cons _ (List.nil_sublist _)) ?_
      | refine c9F hin (fun q c hq hc => ?_)
      | refine c10SA (by omega) (fun e he => ?_) (fun ms g a cap Bh l he hn => ?_)
      | refine live_c ?_
      | refine Branch.not (Branch.df (newF_err he) ?_)
      | refine SCalls.under [_, _] (SCalls.under H0 (SCalls.under HA (c13N hn (fun _ => ?_) (fun q m e => by rw [lead_none (st_new hs hl he).2.1] at e; cases e))))
      | refine New.mk (fun _ => ?_)
      | refine Look.at0 ?_
      | refine Cell.row ?_
      | refine Cell.buf ?_
      | refine Cells.row rfl ?_
      | refine Put.row rfl ?_
      | refine Put.buf rfl ?_
      | refine Look.at1 ?_
      | refine Look.at2 ?_
      | refine Look.at3 ?_
      | refine Look.at4 ?_
      | refine Look.at5 ?_
      | refine Look.at6 ?_
      | refine Look.at7 ?_
      | refine Look.at8 ?_
      | with_reducible refine Val.i64 (by omega) (by omega) ?_
      | with_reducible refine Val.u8 (by omega) (by omega) ?_
      | with_reducible refine Val.u32 (by omega) (by omega) ?_
      | with_reducible refine Val.u64 (by omega) (by omega) ?_
      | with_reducible refine Val.u8m ?_
      | with_reducible refine Val.u32m ?_
      | with_reducible refine Val.u64m ?_
      | with_reducible refine Val.shr8 ?_
      | with_reducible refine Val.shr16 (by decide) ?_
      | with_reducible refine Val.shr24 (by decide) ?_
      | with_reducible refine Val.raw ?_
      | refine Branch.not ?_
      | refine Branch.and ?_
      | refine Branch.or ?_
      | refine Branch.dt (by assumption) ?_
      | refine Branch.df (by assumption) ?_
      | refine Branch.dt rfl ?_
      | refine Branch.dt (by omega) ?_
      | refine Branch.df (by omega) ?_
      | refine Branch.t rfl ?_
      | refine Branch.f rfl ?_
      | refine Branch.t (by assumption) ?_
      | refine Branch.f (by assumption) ?_
      | refine Branch.d (fun _ => ?_) (fun _ => ?_)
      | refine Branch.mk (fun _ => ?_) (fun _ => ?_)
      | refine Need.mk (by first | omega | decide | rfl) ?_
      | refine Idx.nat (by omega) ?_
      | refine Idx.auto (by first | omega | decide) (by first | omega | decide) ?_
      | refine Cell.ro rfl ?_
      | refine SDraw.all (by kernel_rfl) ?_
      | refine Kept.k0 ?_
      | refine Kept.k1 ?_
      | refine Kept.k2 ?_
      | refine Kept.k3 ?_
      | refine Kept.k4 ?_))
  all_goals (conv => whnf)
  · exact Keep.all rfl
  rename_i p2 _ _ _ _
  obtain ⟨hst, hno, hma⟩ := st_new hs hl he
  have hL8 : L.length ≤ 8 := by rw [← hma]; simpa using hst.ok.len
  clear he
  refine SLoop.keep (Keep.glue [[_], [_], H0, HA, netH g a cap Bh s lo ms] [0, 1, 2, 3, 4] [0, 1, 3, 4] [2] (by decide) rfl ?_)
  refine l6a (lf := none) hinA hs hl hn hst hno hma rfl _ .mk (fun l v la ms lf Ln k1 k2 k3 k4 k5 hS => ?_)
  cases hS
  repeat' ((conv => whnf); (first
      | refine New.mk (fun _ => ?_)
      | refine Look.at0 ?_
      | refine Cell.row ?_
      | refine Cell.buf ?_
      | refine Cells.row rfl ?_
      | refine Put.row rfl ?_
      | refine Put.buf rfl ?_
      | refine Look.at1 ?_
      | refine Look.at2 ?_
      | refine Look.at3 ?_
      | refine Look.at4 ?_
      | refine Look.at5 ?_
      | refine Look.at6 ?_
      | refine Look.at7 ?_
      | refine Look.at8 ?_
      | with_reducible refine Val.i64 (by omega) (by omega) ?_
      | with_reducible refine Val.u8 (by omega) (by omega) ?_
      | with_reducible refine Val.u32 (by omega) (by omega) ?_
      | with_reducible refine Val.u64 (by omega) (by omega) ?_
      | with_reducible refine Val.u8m ?_
      | with_reducible refine Val.u32m ?_
      | with_reducible refine Val.u64m ?_
      | with_reducible refine Val.shr8 ?_
      | with_reducible refine Val.shr16 (by decide) ?_
      | with_reducible refine Val.shr24 (by decide) ?_
      | with_reducible refine Val.raw ?_
      | refine Branch.not ?_
      | refine Branch.and ?_
      | refine Branch.or ?_
      | refine Branch.dt (by assumption) ?_
      | refine Branch.df (by assumption) ?_
      | refine Branch.dt rfl ?_
      | refine Branch.dt (by omega) ?_
      | refine Branch.df (by omega) ?_
      | refine Branch.t rfl ?_
      | refine Branch.f rfl ?_
      | refine Branch.t (by assumption) ?_
      | refine Branch.f (by assumption) ?_
      | refine Branch.d (fun _ => ?_) (fun _ => ?_)
      | refine Branch.mk (fun _ => ?_) (fun _ => ?_)
      | refine Need.mk (by first | omega | decide | rfl) ?_
      | refine Idx.nat (by omega) ?_
      | refine Idx.auto (by first | omega | decide) (by first | omega | decide) ?_
      | refine Cell.ro rfl ?_
      | refine SDraw.all (by kernel_rfl) ?_
      | refine Kept.k0 ?_
      | refine Kept.k1 ?_
      | refine Kept.k2 ?_
      | refine Kept.k3 ?_
      | refine Kept.k4 ?_))
  all_goals (conv => whnf)
  refine SLoop.keep (Keep.glue [[_], [_], leftH lf, HA, netH g a cap Bh s lo ms] [0, 1, 2, 3, 4] [0, 1, 4] [2, 3] (by decide) rfl ?_)
  rw [k5]
  have hLn : Ln.length ≤ 8 := by omega
  refine l6s hs hl k1 k2 k4 _ .mk (fun l v la ms j1 j2 j3 hS => ?_)
  cases hS
  clear k1 k2 k3 k4 hn hst hno hma
  rcases way_end hs hl (k := 384 * s + lo + 3) (by omega) j2 with ⟨n, hcalm⟩ | ⟨hnol, hoff⟩
  · have hst := j2.1
    have hlead : ∃ m, leadL la = some m ∧ m.node = n := by
      obtain ⟨t, _, h1, _, h2⟩ := lead_of hcalm.top hst.one
      exact ⟨t, h1, h2⟩
    obtain ⟨l2, hpow, hok2, hmas2, hoff2, hon2⟩ := pow_off hst hcalm
    rw [j3] at hmas2
    repeat' ((conv => whnf); (first
        | refine c13W [_, _] j1 hlead (fun q => ?_)
        | refine New.mk (fun _ => ?_)
        | refine Look.at0 ?_
        | refine Cell.row ?_
        | refine Cell.buf ?_
        | refine Cells.row rfl ?_
        | refine Put.row rfl ?_
        | refine Put.buf rfl ?_
        | refine Look.at1 ?_
        | refine Look.at2 ?_
        | refine Look.at3 ?_
        | refine Look.at4 ?_
        | refine Look.at5 ?_
        | refine Look.at6 ?_
        | refine Look.at7 ?_
        | refine Look.at8 ?_
        | with_reducible refine Val.i64 (by omega) (by omega) ?_
        | with_reducible refine Val.u8 (by omega) (by omega) ?_
        | with_reducible refine Val.u32 (by omega) (by omega) ?_
        | with_reducible refine Val.u64 (by omega) (by omega) ?_
        | with_reducible refine Val.u8m ?_
        | with_reducible refine Val.u32m ?_
        | with_reducible refine Val.u64m ?_
        | with_reducible refine Val.shr8 ?_
        | with_reducible refine Val.shr16 (by decide) ?_
        | with_reducible refine Val.shr24 (by decide) ?_
        | with_reducible refine Val.raw ?_
        | refine Branch.not ?_
        | refine Branch.and ?_
        | refine Branch.or ?_
        | refine Branch.dt (by assumption) ?_
        | refine Branch.df (by assumption) ?_
        | refine Branch.dt rfl ?_
        | refine Branch.dt (by omega) ?_
        | refine Branch.df (by omega) ?_
        | refine Branch.t rfl ?_
        | refine Branch.f rfl ?_
        | refine Branch.t (by assumption) ?_
        | refine Branch.f (by assumption) ?_
        | refine Branch.d (fun _ => ?_) (fun _ => ?_)
        | refine Branch.mk (fun _ => ?_) (fun _ => ?_)
        | refine Need.mk (by first | omega | decide | rfl) ?_
        | refine Idx.nat (by omega) ?_
        | refine Idx.auto (by first | omega | decide) (by first | omega | decide) ?_
        | refine Cell.ro rfl ?_
        | refine SDraw.all (by kernel_rfl) ?_
        | refine Kept.k0 ?_
        | refine Kept.k1 ?_
        | refine Kept.k2 ?_
        | refine Kept.k3 ?_
        | refine Kept.k4 ?_))
    refine l6o (by omega) _ .mk (fun l v hS => ?_)
    cases hS
    have hlm : Ln.length = (Ln.map (setOn n false)).length := by simp
    rw [hlm] at hLn ⊢
    generalize Ln.map (setOn n false) = L2 at *
    repeat' ((conv => whnf); (first
        | refine SCalls.under [_, _, _] (c20E j1 hpow (fun ms' hn' => ?_))
        | refine SCalls.atList [_, _] (c16G (by omega) (fun first any hfa => ?_))
        | refine New.mk (fun _ => ?_)
        | refine Look.at0 ?_
        | refine Cell.row ?_
        | refine Cell.buf ?_
        | refine Cells.row rfl ?_
        | refine Put.row rfl ?_
        | refine Put.buf rfl ?_
        | refine Look.at1 ?_
        | refine Look.at2 ?_
        | refine Look.at3 ?_
        | refine Look.at4 ?_
        | refine Look.at5 ?_
        | refine Look.at6 ?_
        | refine Look.at7 ?_
        | refine Look.at8 ?_
        | with_reducible refine Val.i64 (by omega) (by omega) ?_
        | with_reducible refine Val.u8 (by omega) (by omega) ?_
        | with_reducible refine Val.u32 (by omega) (by omega) ?_
        | with_reducible refine Val.u64 (by omega) (by omega) ?_
        | with_reducible refine Val.u8m ?_
        | with_reducible refine Val.u32m ?_
        | with_reducible refine Val.u64m ?_
        | with_reducible refine Val.shr8 ?_
        | with_reducible refine Val.shr16 (by decide) ?_
        | with_reducible refine Val.shr24 (by decide) ?_
        | with_reducible refine Val.raw ?_
        | refine Branch.not ?_
        | refine Branch.and ?_
        | refine Branch.or ?_
        | refine Branch.dt (by assumption) ?_
        | refine Branch.df (by assumption) ?_
        | refine Branch.dt rfl ?_
        | refine Branch.dt (by omega) ?_
        | refine Branch.df (by omega) ?_
        | refine Branch.t rfl ?_
        | refine Branch.f rfl ?_
        | refine Branch.t (by assumption) ?_
        | refine Branch.f (by assumption) ?_
        | refine Branch.d (fun _ => ?_) (fun _ => ?_)
        | refine Branch.mk (fun _ => ?_) (fun _ => ?_)
        | refine Need.mk (by first | omega | decide | rfl) ?_
        | refine Idx.nat (by omega) ?_
        | refine Idx.auto (by first | omega | decide) (by first | omega | decide) ?_
        | refine Cell.ro rfl ?_
        | refine SDraw.all (by kernel_rfl) ?_
        | refine Kept.k0 ?_
        | refine Kept.k1 ?_
        | refine Kept.k2 ?_
        | refine Kept.k3 ?_
        | refine Kept.k4 ?_))
    all_goals (conv => whnf)
    refine SLoop.keep (Keep.glue [[_], [_], netH g a cap Bh s lo ms'] [0, 1, 2] [1, 2] [0] (by decide) rfl ?_)
    obtain ⟨W, node, P, hm, hld, hp, hca⟩ := mach_lost hs hl hok2 hoff2 hon2 rfl
    rw [hmas2] at hca
    rcases hfa with ⟨rfl, hf0, hf⟩ | ⟨f, rfl, hf0, hf⟩
    · have hW : W = 0 := by
        rcases hca with ⟨_, z⟩ | ⟨x, z, _⟩
        · exact z
        · rw [hf] at z; cases z
      refine l6f hs hl hm (.inl ⟨rfl, hW⟩) hn' hp _ .mk (fun l v la ms i1 i2 hS => ?_) trivial
      cases hS
      have hle := (hld _ _ i2).2 (by omega)
      repeat' ((conv => whnf); (first
          | refine c13V [_] i1 hle ?_
          | refine live_c ?_
          | refine New.mk (fun _ => ?_)
          | refine Look.at0 ?_
          | refine Cell.row ?_
          | refine Cell.buf ?_
          | refine Cells.row rfl ?_
          | refine Put.row rfl ?_
          | refine Put.buf rfl ?_
          | refine Look.at1 ?_
          | refine Look.at2 ?_
          | refine Look.at3 ?_
          | refine Look.at4 ?_
          | refine Look.at5 ?_
          | refine Look.at6 ?_
          | refine Look.at7 ?_
          | refine Look.at8 ?_
          | with_reducible refine Val.i64 (by omega) (by omega) ?_
          | with_reducible refine Val.u8 (by omega) (by omega) ?_
          | with_reducible refine Val.u32 (by omega) (by omega) ?_
          | with_reducible refine Val.u64 (by omega) (by omega) ?_
          | with_reducible refine Val.u8m ?_
          | with_reducible refine Val.u32m ?_
          | with_reducible refine Val.u64m ?_
          | with_reducible refine Val.shr8 ?_
          | with_reducible refine Val.shr16 (by decide) ?_
          | with_reducible refine Val.shr24 (by decide) ?_
          | with_reducible refine Val.raw ?_
          | refine Branch.not ?_
          | refine Branch.and ?_
          | refine Branch.or ?_
          | refine Branch.dt (by assumption) ?_
          | refine Branch.df (by assumption) ?_
          | refine Branch.dt rfl ?_
          | refine Branch.dt (by omega) ?_
          | refine Branch.df (by omega) ?_
          | refine Branch.t rfl ?_
          | refine Branch.f rfl ?_
          | refine Branch.t (by assumption) ?_
          | refine Branch.f (by assumption) ?_
          | refine Branch.d (fun _ => ?_) (fun _ => ?_)
          | refine Branch.mk (fun _ => ?_) (fun _ => ?_)
          | refine Need.mk (by first | omega | decide | rfl) ?_
          | refine Idx.nat (by omega) ?_
          | refine Idx.auto (by first | omega | decide) (by first | omega | decide) ?_
          | refine Cell.ro rfl ?_
          | refine SDraw.all (by kernel_rfl) ?_
          | refine Kept.k0 ?_
          | refine Kept.k1 ?_
          | refine Kept.k2 ?_
          | refine Kept.k3 ?_
          | refine Kept.k4 ?_))
      all_goals (conv => whnf)
      all_goals first | exact Keep.all rfl | trace_state
    · have hW : node = first ∧ 1 ≤ W ∧ W ≤ lo + 383 * s ∧ 1 ≤ node := by
        rcases hca with ⟨z, _⟩ | ⟨x, z, z1, z2, z3, z4⟩
        · rw [hf] at z; cases z
        · rw [hf] at z; injection z with z; subst z; exact ⟨by omega, z2, z3, z4⟩
      obtain ⟨hW1, hW2, hW3, hW4⟩ := hW
      refine l6f hs hl hm (.inr ⟨rfl, hW1⟩) hn' hp _ .mk (fun l v la ms i1 i2 hS => ?_) trivial
      cases hS
      have hle := (hld _ _ i2).1 (by omega)
      rw [hW1] at hle
      have hf0' : ¬ first = 0 := by omega
      repeat' ((conv => whnf); (first
          | refine c13W [_] i1 hle (fun q => ?_)
          | refine live_c ?_
          | refine enter19 ?_
          | refine Keep.all ?_
          | refine New.mk (fun _ => ?_)
          | refine Look.at0 ?_
          | refine Cell.row ?_
          | refine Cell.buf ?_
          | refine Cells.row rfl ?_
          | refine Put.row rfl ?_
          | refine Put.buf rfl ?_
          | refine Look.at1 ?_
          | refine Look.at2 ?_
          | refine Look.at3 ?_
          | refine Look.at4 ?_
          | refine Look.at5 ?_
          | refine Look.at6 ?_
          | refine Look.at7 ?_
          | refine Look.at8 ?_
          | with_reducible refine Val.i64 (by omega) (by omega) ?_
          | with_reducible refine Val.u8 (by omega) (by omega) ?_
          | with_reducible refine Val.u32 (by omega) (by omega) ?_
          | with_reducible refine Val.u64 (by omega) (by omega) ?_
          | with_reducible refine Val.u8m ?_
          | with_reducible refine Val.u32m ?_
          | with_reducible refine Val.u64m ?_
          | with_reducible refine Val.shr8 ?_
          | with_reducible refine Val.shr16 (by decide) ?_
          | with_reducible refine Val.shr24 (by decide) ?_
          | with_reducible refine Val.raw ?_
          | refine Branch.not ?_
          | refine Branch.and ?_
          | refine Branch.or ?_
          | refine Branch.dt (by assumption) ?_
          | refine Branch.df (by assumption) ?_
          | refine Branch.dt rfl ?_
          | refine Branch.dt (by omega) ?_
          | refine Branch.df (by omega) ?_
          | refine Branch.t rfl ?_
          | refine Branch.f rfl ?_
          | refine Branch.t (by assumption) ?_
          | refine Branch.f (by assumption) ?_
          | refine Branch.d (fun _ => ?_) (fun _ => ?_)
          | refine Branch.mk (fun _ => ?_) (fun _ => ?_)
          | refine Need.mk (by first | omega | decide | rfl) ?_
          | refine Idx.nat (by omega) ?_
          | refine Idx.auto (by first | omega | decide) (by first | omega | decide) ?_
          | refine Cell.ro rfl ?_
          | refine SDraw.all (by kernel_rfl) ?_
          | refine Kept.k0 ?_
          | refine Kept.k1 ?_
          | refine Kept.k2 ?_
          | refine Kept.k3 ?_
          | refine Kept.k4 ?_))
      all_goals (conv => whnf)
      all_goals first | rfl | exact Keep.all rfl | trace_state
  · have hfn : firstF Ln = none := by
      have : onF Ln = [] := by
        rw [← j3]
        refine List.filter_eq_nil_iff.2 fun x hx => ?_
        obtain ⟨m, hm, rfl⟩ := List.mem_map.1 hx
        simp [masOf, hoff m hm]
      unfold firstF
      rw [this]
    repeat' ((conv => whnf); (first
        | refine c13V [_, _] j1 (lead_none hnol) ?_
        | refine SCalls.atList [_] (c16 (by omega) (fun h0 => ?_) (fun x hx => by rw [hfn] at hx; cases hx))
        | refine live_c ?_
        | refine New.mk (fun _ => ?_)
        | refine Look.at0 ?_
        | refine Cell.row ?_
        | refine Cell.buf ?_
        | refine Cells.row rfl ?_
        | refine Put.row rfl ?_
        | refine Put.buf rfl ?_
        | refine Look.at1 ?_
        | refine Look.at2 ?_
        | refine Look.at3 ?_
        | refine Look.at4 ?_
        | refine Look.at5 ?_
        | refine Look.at6 ?_
        | refine Look.at7 ?_
        | refine Look.at8 ?_
        | with_reducible refine Val.i64 (by omega) (by omega) ?_
        | with_reducible refine Val.u8 (by omega) (by omega) ?_
        | with_reducible refine Val.u32 (by omega) (by omega) ?_
        | with_reducible refine Val.u64 (by omega) (by omega) ?_
        | with_reducible refine Val.u8m ?_
        | with_reducible refine Val.u32m ?_
        | with_reducible refine Val.u64m ?_
        | with_reducible refine Val.shr8 ?_
        | with_reducible refine Val.shr16 (by decide) ?_
        | with_reducible refine Val.shr24 (by decide) ?_
        | with_reducible refine Val.raw ?_
        | refine Branch.not ?_
        | refine Branch.and ?_
        | refine Branch.or ?_
        | refine Branch.dt (by assumption) ?_
        | refine Branch.df (by assumption) ?_
        | refine Branch.dt rfl ?_
        | refine Branch.dt (by omega) ?_
        | refine Branch.df (by omega) ?_
        | refine Branch.t rfl ?_
        | refine Branch.f rfl ?_
        | refine Branch.t (by assumption) ?_
        | refine Branch.f (by assumption) ?_
        | refine Branch.d (fun _ => ?_) (fun _ => ?_)
        | refine Branch.mk (fun _ => ?_) (fun _ => ?_)
        | refine Need.mk (by first | omega | decide | rfl) ?_
        | refine Idx.nat (by omega) ?_
        | refine Idx.auto (by first | omega | decide) (by first | omega | decide) ?_
        | refine Cell.ro rfl ?_
        | refine SDraw.all (by kernel_rfl) ?_
        | refine Kept.k0 ?_
        | refine Kept.k1 ?_
        | refine Kept.k2 ?_
        | refine Kept.k3 ?_
        | refine Kept.k4 ?_))
    all_goals (conv => whnf)
    all_goals first | exact Keep.all rfl | trace_state
theorem FlyingGoesW (a0x0a : Option Addr) (a0x0l : Nat) (a0x0c : Nat) (a0x1 : Int) (a0x2 : Int) (a1a : Option Addr) (a1l : Nat) (a1c : Nat) (w : World) (h0_0 : SliceAt 3 B30 R30 w a0x0a a0x0l a0x0c) (h0_1 : (Lit.int .u64 a0x1).wf = true) (h0_2 : (Lit.int .u64 a0x2).wf = true) (h1_0 : SliceAt 3 B50 R50 w a1a a1l a1c) :
    Calls Try.prog 6 #[.agg #[.slice a0x0a a0x0l a0x0c, .int .u64 a0x1, .int .u64 a0x2], .slice a1a a1l a1c] w fun e w' => e = .returned (.bool true) ∧ Go.RowKit.Below w.heap.size w w' := by
  obtain ⟨H, L, rfl, hin, hw, hx⟩ := inL_of h0_0
  obtain ⟨HA, A, rfl, hinA, hwA, hxA⟩ := inA_of h1_0
  refine (goes_sc hin hinA a0x1 a0x2 (wf_u64 h0_1) (wf_u64 h0_2)).fin w (Holds.app_ro hw hwA hx hxA) fun p hp => ?_
  rcases List.mem_append.1 hp with hp | hp
  · exact hx p hp
  · exact hxA p hp
end Go.Proofs.Ytmakaofdpoiaaaa
