/- Layer 24: where the master loses its power: the walk's other loops. -/
import Derived.Test.YtmakaofdpoiaaaaFlP
set_option linter.unusedVariables false
set_option linter.unusedSimpArgs false
set_option maxRecDepth 100000
set_option maxHeartbeats 4000000
namespace Go.Proofs.Ytmakaofdpoiaaaa
open Sx
inductive S6a (A1 A2 A5 A7 A8 A9 : Value) : List Value → Prop
  | mk {r0 r3 r4 r6 r10 r11 r12 r13 r14 r15 r16 r17 r18 r19 r20 r21 r22 r23 r24 r25 r26 r27 r28 r29 r30 r31 r32 r33 r34 r35 r36 r37 r38 r39 r40 r41 r42 r43 r44 r45 r46 r47 r48 r49 r50 r51 r52 r53 r54 r55 r56 r57 r58 r59 r60 r61 r62 r63 r64 r65 r66 r67 r68 r69 r70 r71 r72 r73 r74 r75 r76 r77 r78 r79 r80 r81 r82 r83 r84 r85 r86 r87 r88 r89 r90 r91 r92 r93 r94 r95 r96 r97 r98 r99 r100 r101 r102 r103 r104 r105 r106 r107 r108 r109 r110 r111 r112 r113 r114 r115 r116 r117 r118 r119 r120 r121 r122 r123 r124 r125 r126 r127 r128 r129 r130 r131 r132 r133 r134 r135 r136 r137 r138 r139 r140 r141 r142 r143 r144 r145 r146 r147 r148 r149 r150 r151 r152 r153 r154 r155 r156 r157 r158 r159 r160 r161 r162 r163 r164 r165 r166 r167 r168 r169 r170 r171 r172 r173 r174 r175 r176 r177 r178 r179 r180 r181 r182 r183 r184 r185 r186 r187 r188 r189 r190 r191 r192 r193 r194 r195 r196 r197 r198 r199 r200 r201 r202 r203 r204 r205 r206 r207 r208 r209 r210 r211 r212 r213 r214 r215 r216 r217 r218 r219 r220 r221 r222 r223 r224 r225 r226 r227 r228 r229 r230 r231 r232 r233 r234 r235 r236 r237 r238 r239 r240 r241 r242 r243 r244 r245 : Value} : S6a A1 A2 A5 A7 A8 A9 [r0, A1, A2, r3, r4, A5, r6, A7, A8, A9, r10, r11, r12, r13, r14, r15, r16, r17, r18, r19, r20, r21, r22, r23, r24, r25, r26, r27, r28, r29, r30, r31, r32, r33, r34, r35, r36, r37, r38, r39, r40, r41, r42, r43, r44, r45, r46, r47, r48, r49, r50, r51, r52, r53, r54, r55, r56, r57, r58, r59, r60, r61, r62, r63, r64, r65, r66, r67, r68, r69, r70, r71, r72, r73, r74, r75, r76, r77, r78, r79, r80, r81, r82, r83, r84, r85, r86, r87, r88, r89, r90, r91, r92, r93, r94, r95, r96, r97, r98, r99, r100, r101, r102, r103, r104, r105, r106, r107, r108, r109, r110, r111, r112, r113, r114, r115, r116, r117, r118, r119, r120, r121, r122, r123, r124, r125, r126, r127, r128, r129, r130, r131, r132, r133, r134, r135, r136, r137, r138, r139, r140, r141, r142, r143, r144, r145, r146, r147, r148, r149, r150, r151, r152, r153, r154, r155, r156, r157, r158, r159, r160, r161, r162, r163, r164, r165, r166, r167, r168, r169, r170, r171, r172, r173, r174, r175, r176, r177, r178, r179, r180, r181, r182, r183, r184, r185, r186, r187, r188, r189, r190, r191, r192, r193, r194, r195, r196, r197, r198, r199, r200, r201, r202, r203, r204, r205, r206, r207, r208, r209, r210, r211, r212, r213, r214, r215, r216, r217, r218, r219, r220, r221, r222, r223, r224, r225, r226, r227, r228, r229, r230, r231, r232, r233, r234, r235, r236, r237, r238, r239, r240, r241, r242, r243, r244, r245]
section
variable {Q : Post} {p2 qn c cA g cap nL N : Nat} {F : Blk} {aA a : Option Addr} {HA Bh : Heap} {A : List ActR} {slot lost : Int}
def I6a (p2 qn c cA g nL N : Nat) (F : Blk) (aA a : Option Addr) (cap : Nat) (HA Bh : Heap) (A : List ActR) (slot lost : Int) (l : List Value) (H : Heap) : Prop :=
  ∃ (j : Nat) (la : List M) (ms : List PM) (lf : Option (Nat × Int)) (Ln : List Mas), j ≤ A.length ∧ j ≤ 12 ∧ Net a cap Bh ms la ∧ St slot lost la ∧ LeftOk lf la ∧ la.map masOf = Ln ∧ nL = Ln.length ∧
    S6a (.slice aA A.length cA) (.pointer (some ⟨p2, 0, none⟩)) (.pointer (some ⟨g, 0, none⟩)) (.slice (some ⟨qn, 0, none⟩) nL c) (leftV lf) (.int .i64 (j : Int)) l ∧
    H = (p2, F) :: (qn, .buf 30 (Ln.flatMap Mas.cells) N) :: (leftH lf ++ (HA ++ netH g a cap Bh slot lost ms))
noncomputable def M6a (l : List Value) (_ : Heap) : Nat := 12 - (match getL l 9 with | .int _ i => i.toNat | _ => 0)
theorem l6a (hinA : InA (.slice aA A.length cA) HA A) (hs : 1 ≤ slot ∧ slot ≤ 3) (hlo : 1 ≤ lost ∧ lost ≤ 9) {la : List M} {ms : List PM} {lf : Option (Nat × Int)} {Ln : List Mas}
    (hn : Net a cap Bh ms la) (hst : St slot lost la) (hlf : LeftOk lf la) (hma : la.map masOf = Ln) (hnL : nL = Ln.length) (l : List Value)
    (hS : S6a (.slice aA A.length cA) (.pointer (some ⟨p2, 0, none⟩)) (.pointer (some ⟨g, 0, none⟩)) (.slice (some ⟨qn, 0, none⟩) nL c) (leftV lf) (.int .i64 0) l)
    (hQ : ∀ l v la ms lf Ln, Net a cap Bh ms la → St slot lost la → LeftOk lf la → la.map masOf = Ln → nL = Ln.length → S6a (.slice aA A.length cA) (.pointer (some ⟨p2, 0, none⟩)) (.pointer (some ⟨g, 0, none⟩)) (.slice (some ⟨qn, 0, none⟩) nL c) (leftV lf) v l →
      Q (.exit 0) l ((p2, F) :: (qn, .buf 30 (Ln.flatMap Mas.cells) N) :: (leftH lf ++ (HA ++ netH g a cap Bh slot lost ms)))) :
    SLoop Try.prog X6_l5 Q l ((p2, F) :: (qn, .buf 30 (Ln.flatMap Mas.cells) N) :: (leftH lf ++ (HA ++ netH g a cap Bh slot lost ms))) := by
  obtain ⟨aA', cA', hsv, hAlen, hAt, hAc⟩ := hinA
  injection hsv with e1 _ e2
  subst e1
  subst e2
  refine SLoop.inv (I6a p2 qn c cA g nL N F aA a cap HA Bh A slot lost) M6a (Keep.all ⟨0, la, ms, lf, Ln, by omega, by omega, hn, hst, hlf, hma, hnL, hS, rfl⟩) ?_
  clear hS l hn hst hlf hma hnL la ms lf Ln
  rintro S H ⟨j, la, ms, lf, Ln, hj, hj12, hn, hst, hlf, hma, hnL, hS, rfl⟩ R hR
  have hLn : Ln.length ≤ 8 := by rw [← hma]; simpa using hst.ok.len
  subst hnL
  by_cases hlt : j < A.length ∧ j < 12
  · obtain ⟨hlt1, hlt2⟩ := hlt
    obtain ⟨x, hx⟩ : ∃ x, A[j]? = some x := ⟨_, List.getElem?_eq_getElem hlt1⟩
    obtain ⟨ba, oa, fa, rfl, rfl, hc⟩ := hAc (by omega)
    have hxt := hAt x (List.mem_of_getElem? hx)
    have hcx := hc j x hx
    have h0 : fa (oa + j * 3 + 0) = some (.int .i64 x.node) := hcx 0 _ rfl
    have h1 : fa (oa + j * 3 + 1) = some (.bool x.on) := hcx 1 _ rfl
    have h2 : fa (oa + j * 3 + 2) = some (.int .u16 x.ticks) := hcx 2 _ rfl
    have hA : A.length ≤ 140737488355328 := by omega
    have fin : ∀ (l : List Value) (la' : List M) (ms' : List PM) (lf' : Option (Nat × Int)) (Ln' : List Mas), Net a cap Bh ms' la' → St slot lost la' → LeftOk lf' la' → la'.map masOf = Ln' → Ln.length = Ln'.length →
        S6a (.slice (some ⟨ba, oa, none⟩) A.length cA) (.pointer (some ⟨p2, 0, none⟩)) (.pointer (some ⟨g, 0, none⟩)) (.slice (some ⟨qn, 0, none⟩) Ln.length c) (leftV lf') (.int .i64 ((j + 1 : Nat) : Int)) l → (match getL l 9 with | .int _ i => i.toNat | _ => 0) = j + 1 →
        R l ((p2, F) :: (qn, .buf 30 (Ln'.flatMap Mas.cells) N) :: (leftH lf' ++ ([(ba, .ro fa)] ++ netH g a cap Bh slot lost ms'))) := by
      intro l la' ms' lf' Ln' e1 e2 e3 e4 e5 e6 e7
      refine hR _ _ (Keep.all ⟨⟨j + 1, la', ms', lf', Ln', by omega, by omega, e1, e2, e3, e4, e5, e6, rfl⟩, ?_⟩)
      unfold M6a
      cases hS
      rw [e7]
      show 12 - (j + 1) < 12 - Int.toNat (j : Int)
      omega
    have hpm := pow_mas hst.ok slot x.node x.on
    rw [hma] at hpm
    cases lf with
    | none =>
      cases hS
      have hno : ¬ LeadBy x.node la := fun ⟨m, hm, q, _⟩ => hlf m hm q
      obtain ⟨g1, g2, g3⟩ := pow_st (lost := lost) hs hst x.node x.on hno
      by_cases ht : x.ticks = 0
      · repeat' ((conv => whnf); (first
            | refine Cell.ro h0 ?_
            | refine Cell.ro h1 ?_
            | refine Cell.ro h2 ?_
            | refine SCalls.under [_, _, _] (c20N hn x.node x.on (fun ms' hn' => ?_))
            | refine New.mk (fun _ => ?_)
            | refine Look.at0 ?_
            | refine Cell.row ?_
            | refine Cell.buf ?_
            | refine Cells.row rfl ?_
            | refine Put.row rfl ?_
            | refine Put.buf rfl ?_
            | refine Look.at1 ?_
            | refine Look.at2 ?_
            | refine Look.at3 ?_
            | refine Look.at4 ?_
            | refine Look.at5 ?_
            | refine Look.at6 ?_
            | refine Look.at7 ?_
            | refine Look.at8 ?_
            | with_reducible refine Val.i64 (by omega) (by omega) ?_
            | with_reducible refine Val.u8 (by omega) (by omega) ?_
            | with_reducible refine Val.u32 (by omega) (by omega) ?_
            | with_reducible refine Val.u64 (by omega) (by omega) ?_
            | with_reducible refine Val.u8m ?_
            | with_reducible refine Val.u32m ?_
            | with_reducible refine Val.u64m ?_
            | with_reducible refine Val.shr8 ?_
            | with_reducible refine Val.shr16 (by decide) ?_
            | with_reducible refine Val.shr24 (by decide) ?_
            | with_reducible refine Val.raw ?_
            | refine Branch.not ?_
            | refine Branch.and ?_
            | refine Branch.or ?_
            | refine Branch.dt (by assumption) ?_
            | refine Branch.df (by assumption) ?_
            | refine Branch.dt rfl ?_
            | refine Branch.dt (by omega) ?_
            | refine Branch.df (by omega) ?_
            | refine Branch.t rfl ?_
            | refine Branch.f rfl ?_
            | refine Branch.t (by assumption) ?_
            | refine Branch.f (by assumption) ?_
            | refine Branch.d (fun _ => ?_) (fun _ => ?_)
            | refine Branch.mk (fun _ => ?_) (fun _ => ?_)
            | refine Need.mk (by first | omega | decide | rfl) ?_
            | refine Idx.nat (by omega) ?_
            | refine Idx.auto (by first | omega | decide) (by first | omega | decide) ?_
            | refine Cell.ro rfl ?_
            | refine SDraw.all (by kernel_rfl) ?_
            | refine Kept.k0 ?_
            | refine Kept.k1 ?_
            | refine Kept.k2 ?_
            | refine Kept.k3 ?_
            | refine Kept.k4 ?_))
        refine l6n (LH := []) (x := x) (by omega) hlt1 hA hcx _ .mk (fun l v hS => ?_)
        cases hS
        repeat' ((conv => whnf); (first
            | refine New.mk (fun _ => ?_)
            | refine Look.at0 ?_
            | refine Cell.row ?_
            | refine Cell.buf ?_
            | refine Cells.row rfl ?_
            | refine Put.row rfl ?_
            | refine Put.buf rfl ?_
            | refine Look.at1 ?_
            | refine Look.at2 ?_
            | refine Look.at3 ?_
            | refine Look.at4 ?_
            | refine Look.at5 ?_
            | refine Look.at6 ?_
            | refine Look.at7 ?_
            | refine Look.at8 ?_
            | with_reducible refine Val.i64 (by omega) (by omega) ?_
            | with_reducible refine Val.u8 (by omega) (by omega) ?_
            | with_reducible refine Val.u32 (by omega) (by omega) ?_
            | with_reducible refine Val.u64 (by omega) (by omega) ?_
            | with_reducible refine Val.u8m ?_
            | with_reducible refine Val.u32m ?_
            | with_reducible refine Val.u64m ?_
            | with_reducible refine Val.shr8 ?_
            | with_reducible refine Val.shr16 (by decide) ?_
            | with_reducible refine Val.shr24 (by decide) ?_
            | with_reducible refine Val.raw ?_
            | refine Branch.not ?_
            | refine Branch.and ?_
            | refine Branch.or ?_
            | refine Branch.dt (by assumption) ?_
            | refine Branch.df (by assumption) ?_
            | refine Branch.dt rfl ?_
            | refine Branch.dt (by omega) ?_
            | refine Branch.df (by omega) ?_
            | refine Branch.t rfl ?_
            | refine Branch.f rfl ?_
            | refine Branch.t (by assumption) ?_
            | refine Branch.f (by assumption) ?_
            | refine Branch.d (fun _ => ?_) (fun _ => ?_)
            | refine Branch.mk (fun _ => ?_) (fun _ => ?_)
            | refine Need.mk (by first | omega | decide | rfl) ?_
            | refine Idx.nat (by omega) ?_
            | refine Idx.auto (by first | omega | decide) (by first | omega | decide) ?_
            | refine Cell.ro rfl ?_
            | refine SDraw.all (by kernel_rfl) ?_
            | refine Kept.k0 ?_
            | refine Kept.k1 ?_
            | refine Kept.k2 ?_
            | refine Kept.k3 ?_
            | refine Kept.k4 ?_))
        refine l6t (lf := none) (x := x) hs hlo hlt1 hA hcx hxt hn' g1 (g2 hlf) hpm _ .mk (fun l v la2 ms2 lf2 k1 k2 k3 k4 hS => ?_)
        cases hS
        repeat' ((conv => whnf); (first
            | refine New.mk (fun _ => ?_)
            | refine Look.at0 ?_
            | refine Cell.row ?_
            | refine Cell.buf ?_
            | refine Cells.row rfl ?_
            | refine Put.row rfl ?_
            | refine Put.buf rfl ?_
            | refine Look.at1 ?_
            | refine Look.at2 ?_
            | refine Look.at3 ?_
            | refine Look.at4 ?_
            | refine Look.at5 ?_
            | refine Look.at6 ?_
            | refine Look.at7 ?_
            | refine Look.at8 ?_
            | with_reducible refine Val.i64 (by omega) (by omega) ?_
            | with_reducible refine Val.u8 (by omega) (by omega) ?_
            | with_reducible refine Val.u32 (by omega) (by omega) ?_
            | with_reducible refine Val.u64 (by omega) (by omega) ?_
            | with_reducible refine Val.u8m ?_
            | with_reducible refine Val.u32m ?_
            | with_reducible refine Val.u64m ?_
            | with_reducible refine Val.shr8 ?_
            | with_reducible refine Val.shr16 (by decide) ?_
            | with_reducible refine Val.shr24 (by decide) ?_
            | with_reducible refine Val.raw ?_
            | refine Branch.not ?_
            | refine Branch.and ?_
            | refine Branch.or ?_
            | refine Branch.dt (by assumption) ?_
            | refine Branch.df (by assumption) ?_
            | refine Branch.dt rfl ?_
            | refine Branch.dt (by omega) ?_
            | refine Branch.df (by omega) ?_
            | refine Branch.t rfl ?_
            | refine Branch.f rfl ?_
            | refine Branch.t (by assumption) ?_
            | refine Branch.f (by assumption) ?_
            | refine Branch.d (fun _ => ?_) (fun _ => ?_)
            | refine Branch.mk (fun _ => ?_) (fun _ => ?_)
            | refine Need.mk (by first | omega | decide | rfl) ?_
            | refine Idx.nat (by omega) ?_
            | refine Idx.auto (by first | omega | decide) (by first | omega | decide) ?_
            | refine Cell.ro rfl ?_
            | refine SDraw.all (by kernel_rfl) ?_
            | refine Kept.k0 ?_
            | refine Kept.k1 ?_
            | refine Kept.k2 ?_
            | refine Kept.k3 ?_
            | refine Kept.k4 ?_))
        all_goals (conv => whnf)
        all_goals exact fin _ la2 ms2 lf2 _ k1 k2 k3 k4 (by simp) .mk rfl
      · repeat' ((conv => whnf); (first
            | refine Cell.ro h0 ?_
            | refine Cell.ro h1 ?_
            | refine Cell.ro h2 ?_
            | refine New.mk (fun _ => ?_)
            | refine Look.at0 ?_
            | refine Cell.row ?_
            | refine Cell.buf ?_
            | refine Cells.row rfl ?_
            | refine Put.row rfl ?_
            | refine Put.buf rfl ?_
            | refine Look.at1 ?_
            | refine Look.at2 ?_
            | refine Look.at3 ?_
            | refine Look.at4 ?_
            | refine Look.at5 ?_
            | refine Look.at6 ?_
            | refine Look.at7 ?_
            | refine Look.at8 ?_
            | with_reducible refine Val.i64 (by omega) (by omega) ?_
            | with_reducible refine Val.u8 (by omega) (by omega) ?_
            | with_reducible refine Val.u32 (by omega) (by omega) ?_
            | with_reducible refine Val.u64 (by omega) (by omega) ?_
            | with_reducible refine Val.u8m ?_
            | with_reducible refine Val.u32m ?_
            | with_reducible refine Val.u64m ?_
            | with_reducible refine Val.shr8 ?_
            | with_reducible refine Val.shr16 (by decide) ?_
            | with_reducible refine Val.shr24 (by decide) ?_
            | with_reducible refine Val.raw ?_
            | refine Branch.not ?_
            | refine Branch.and ?_
            | refine Branch.or ?_
            | refine Branch.dt (by assumption) ?_
            | refine Branch.df (by assumption) ?_
            | refine Branch.dt rfl ?_
            | refine Branch.dt (by omega) ?_
            | refine Branch.df (by omega) ?_
            | refine Branch.t rfl ?_
            | refine Branch.f rfl ?_
            | refine Branch.t (by assumption) ?_
            | refine Branch.f (by assumption) ?_
            | refine Branch.d (fun _ => ?_) (fun _ => ?_)
            | refine Branch.mk (fun _ => ?_) (fun _ => ?_)
            | refine Need.mk (by first | omega | decide | rfl) ?_
            | refine Idx.nat (by omega) ?_
            | refine Idx.auto (by first | omega | decide) (by first | omega | decide) ?_
            | refine Cell.ro rfl ?_
            | refine SDraw.all (by kernel_rfl) ?_
            | refine Kept.k0 ?_
            | refine Kept.k1 ?_
            | refine Kept.k2 ?_
            | refine Kept.k3 ?_
            | refine Kept.k4 ?_))
        refine l6t (lf := none) (x := x) hs hlo hlt1 hA hcx hxt hn hst hlf hma _ .mk (fun l v la2 ms2 lf2 k1 k2 k3 k4 hS => ?_)
        cases hS
        repeat' ((conv => whnf); (first
            | refine New.mk (fun _ => ?_)
            | refine Look.at0 ?_
            | refine Cell.row ?_
            | refine Cell.buf ?_
            | refine Cells.row rfl ?_
            | refine Put.row rfl ?_
            | refine Put.buf rfl ?_
            | refine Look.at1 ?_
            | refine Look.at2 ?_
            | refine Look.at3 ?_
            | refine Look.at4 ?_
            | refine Look.at5 ?_
            | refine Look.at6 ?_
            | refine Look.at7 ?_
            | refine Look.at8 ?_
            | with_reducible refine Val.i64 (by omega) (by omega) ?_
            | with_reducible refine Val.u8 (by omega) (by omega) ?_
            | with_reducible refine Val.u32 (by omega) (by omega) ?_
            | with_reducible refine Val.u64 (by omega) (by omega) ?_
            | with_reducible refine Val.u8m ?_
            | with_reducible refine Val.u32m ?_
            | with_reducible refine Val.u64m ?_
            | with_reducible refine Val.shr8 ?_
            | with_reducible refine Val.shr16 (by decide) ?_
            | with_reducible refine Val.shr24 (by decide) ?_
            | with_reducible refine Val.raw ?_
            | refine Branch.not ?_
            | refine Branch.and ?_
            | refine Branch.or ?_
            | refine Branch.dt (by assumption) ?_
            | refine Branch.df (by assumption) ?_
            | refine Branch.dt rfl ?_
            | refine Branch.dt (by omega) ?_
            | refine Branch.df (by omega) ?_
            | refine Branch.t rfl ?_
            | refine Branch.f rfl ?_
            | refine Branch.t (by assumption) ?_
            | refine Branch.f (by assumption) ?_
            | refine Branch.d (fun _ => ?_) (fun _ => ?_)
            | refine Branch.mk (fun _ => ?_) (fun _ => ?_)
            | refine Need.mk (by first | omega | decide | rfl) ?_
            | refine Idx.nat (by omega) ?_
            | refine Idx.auto (by first | omega | decide) (by first | omega | decide) ?_
            | refine Cell.ro rfl ?_
            | refine SDraw.all (by kernel_rfl) ?_
            | refine Kept.k0 ?_
            | refine Kept.k1 ?_
            | refine Kept.k2 ?_
            | refine Kept.k3 ?_
            | refine Kept.k4 ?_))
        all_goals (conv => whnf)
        all_goals exact fin _ la2 ms2 lf2 _ k1 k2 k3 k4 rfl .mk rfl
    | some qx =>
      obtain ⟨q, n⟩ := qx
      cases hS
      by_cases ht : x.ticks = 0 ∧ ¬ n = x.node
      · obtain ⟨ht, hne⟩ := ht
        have hno : ¬ LeadBy x.node la := by
          rintro ⟨m, hm, q1, q2⟩
          obtain ⟨m', hm', q3, q4⟩ := hlf
          exact hne (by rw [← q2, hst.one m hm m' hm' q1 q3]; exact q4.symm)
        obtain ⟨g1, g2, g3⟩ := pow_st (lost := lost) hs hst x.node x.on hno
        repeat' ((conv => whnf); (first
            | refine Cell.ro h0 ?_
            | refine Cell.ro h1 ?_
            | refine Cell.ro h2 ?_
            | refine SCalls.under [_, _, _, _] (c20N hn x.node x.on (fun ms' hn' => ?_))
            | refine New.mk (fun _ => ?_)
            | refine Look.at0 ?_
            | refine Cell.row ?_
            | refine Cell.buf ?_
            | refine Cells.row rfl ?_
            | refine Put.row rfl ?_
            | refine Put.buf rfl ?_
            | refine Look.at1 ?_
            | refine Look.at2 ?_
            | refine Look.at3 ?_
            | refine Look.at4 ?_
            | refine Look.at5 ?_
            | refine Look.at6 ?_
            | refine Look.at7 ?_
            | refine Look.at8 ?_
            | with_reducible refine Val.i64 (by omega) (by omega) ?_
            | with_reducible refine Val.u8 (by omega) (by omega) ?_
            | with_reducible refine Val.u32 (by omega) (by omega) ?_
            | with_reducible refine Val.u64 (by omega) (by omega) ?_
            | with_reducible refine Val.u8m ?_
            | with_reducible refine Val.u32m ?_
            | with_reducible refine Val.u64m ?_
            | with_reducible refine Val.shr8 ?_
            | with_reducible refine Val.shr16 (by decide) ?_
            | with_reducible refine Val.shr24 (by decide) ?_
            | with_reducible refine Val.raw ?_
            | refine Branch.not ?_
            | refine Branch.and ?_
            | refine Branch.or ?_
            | refine Branch.dt (by assumption) ?_
            | refine Branch.df (by assumption) ?_
            | refine Branch.dt rfl ?_
            | refine Branch.dt (by omega) ?_
            | refine Branch.df (by omega) ?_
            | refine Branch.t rfl ?_
            | refine Branch.f rfl ?_
            | refine Branch.t (by assumption) ?_
            | refine Branch.f (by assumption) ?_
            | refine Branch.d (fun _ => ?_) (fun _ => ?_)
            | refine Branch.mk (fun _ => ?_) (fun _ => ?_)
            | refine Need.mk (by first | omega | decide | rfl) ?_
            | refine Idx.nat (by omega) ?_
            | refine Idx.auto (by first | omega | decide) (by first | omega | decide) ?_
            | refine Cell.ro rfl ?_
            | refine SDraw.all (by kernel_rfl) ?_
            | refine Kept.k0 ?_
            | refine Kept.k1 ?_
            | refine Kept.k2 ?_
            | refine Kept.k3 ?_
            | refine Kept.k4 ?_))
        refine l6n (LH := [_]) (x := x) (by omega) hlt1 hA hcx _ .mk (fun l v hS => ?_)
        cases hS
        repeat' ((conv => whnf); (first
            | refine New.mk (fun _ => ?_)
            | refine Look.at0 ?_
            | refine Cell.row ?_
            | refine Cell.buf ?_
            | refine Cells.row rfl ?_
            | refine Put.row rfl ?_
            | refine Put.buf rfl ?_
            | refine Look.at1 ?_
            | refine Look.at2 ?_
            | refine Look.at3 ?_
            | refine Look.at4 ?_
            | refine Look.at5 ?_
            | refine Look.at6 ?_
            | refine Look.at7 ?_
            | refine Look.at8 ?_
            | with_reducible refine Val.i64 (by omega) (by omega) ?_
            | with_reducible refine Val.u8 (by omega) (by omega) ?_
            | with_reducible refine Val.u32 (by omega) (by omega) ?_
            | with_reducible refine Val.u64 (by omega) (by omega) ?_
            | with_reducible refine Val.u8m ?_
            | with_reducible refine Val.u32m ?_
            | with_reducible refine Val.u64m ?_
            | with_reducible refine Val.shr8 ?_
            | with_reducible refine Val.shr16 (by decide) ?_
            | with_reducible refine Val.shr24 (by decide) ?_
            | with_reducible refine Val.raw ?_
            | refine Branch.not ?_
            | refine Branch.and ?_
            | refine Branch.or ?_
            | refine Branch.dt (by assumption) ?_
            | refine Branch.df (by assumption) ?_
            | refine Branch.dt rfl ?_
            | refine Branch.dt (by omega) ?_
            | refine Branch.df (by omega) ?_
            | refine Branch.t rfl ?_
            | refine Branch.f rfl ?_
            | refine Branch.t (by assumption) ?_
            | refine Branch.f (by assumption) ?_
            | refine Branch.d (fun _ => ?_) (fun _ => ?_)
            | refine Branch.mk (fun _ => ?_) (fun _ => ?_)
            | refine Need.mk (by first | omega | decide | rfl) ?_
            | refine Idx.nat (by omega) ?_
            | refine Idx.auto (by first | omega | decide) (by first | omega | decide) ?_
            | refine Cell.ro rfl ?_
            | refine SDraw.all (by kernel_rfl) ?_
            | refine Kept.k0 ?_
            | refine Kept.k1 ?_
            | refine Kept.k2 ?_
            | refine Kept.k3 ?_
            | refine Kept.k4 ?_))
        refine l6t (lf := some (q, n)) (x := x) hs hlo hlt1 hA hcx hxt hn' g1 (g3 n hlf) hpm _ .mk (fun l v la2 ms2 lf2 k1 k2 k3 k4 hS => ?_)
        cases hS
        repeat' ((conv => whnf); (first
            | refine New.mk (fun _ => ?_)
            | refine Look.at0 ?_
            | refine Cell.row ?_
            | refine Cell.buf ?_
            | refine Cells.row rfl ?_
            | refine Put.row rfl ?_
            | refine Put.buf rfl ?_
            | refine Look.at1 ?_
            | refine Look.at2 ?_
            | refine Look.at3 ?_
            | refine Look.at4 ?_
            | refine Look.at5 ?_
            | refine Look.at6 ?_
            | refine Look.at7 ?_
            | refine Look.at8 ?_
            | with_reducible refine Val.i64 (by omega) (by omega) ?_
            | with_reducible refine Val.u8 (by omega) (by omega) ?_
            | with_reducible refine Val.u32 (by omega) (by omega) ?_
            | with_reducible refine Val.u64 (by omega) (by omega) ?_
            | with_reducible refine Val.u8m ?_
            | with_reducible refine Val.u32m ?_
            | with_reducible refine Val.u64m ?_
            | with_reducible refine Val.shr8 ?_
            | with_reducible refine Val.shr16 (by decide) ?_
            | with_reducible refine Val.shr24 (by decide) ?_
            | with_reducible refine Val.raw ?_
            | refine Branch.not ?_
            | refine Branch.and ?_
            | refine Branch.or ?_
            | refine Branch.dt (by assumption) ?_
            | refine Branch.df (by assumption) ?_
            | refine Branch.dt rfl ?_
            | refine Branch.dt (by omega) ?_
            | refine Branch.df (by omega) ?_
            | refine Branch.t rfl ?_
            | refine Branch.f rfl ?_
            | refine Branch.t (by assumption) ?_
            | refine Branch.f (by assumption) ?_
            | refine Branch.d (fun _ => ?_) (fun _ => ?_)
            | refine Branch.mk (fun _ => ?_) (fun _ => ?_)
            | refine Need.mk (by first | omega | decide | rfl) ?_
            | refine Idx.nat (by omega) ?_
            | refine Idx.auto (by first | omega | decide) (by first | omega | decide) ?_
            | refine Cell.ro rfl ?_
            | refine SDraw.all (by kernel_rfl) ?_
            | refine Kept.k0 ?_
            | refine Kept.k1 ?_
            | refine Kept.k2 ?_
            | refine Kept.k3 ?_
            | refine Kept.k4 ?_))
        all_goals (conv => whnf)
        all_goals exact fin _ la2 ms2 lf2 _ k1 k2 k3 k4 (by simp) .mk rfl
      · by_cases hti : x.ticks = 0
        · have hnn : n = x.node := by
            by_cases z : n = x.node
            · exact z
            · exact absurd ⟨hti, z⟩ ht
          repeat' ((conv => whnf); (first
              | refine Cell.ro h0 ?_
              | refine Cell.ro h1 ?_
              | refine Cell.ro h2 ?_
              | refine New.mk (fun _ => ?_)
              | refine Look.at0 ?_
              | refine Cell.row ?_
              | refine Cell.buf ?_
              | refine Cells.row rfl ?_
              | refine Put.row rfl ?_
              | refine Put.buf rfl ?_
              | refine Look.at1 ?_
              | refine Look.at2 ?_
              | refine Look.at3 ?_
              | refine Look.at4 ?_
              | refine Look.at5 ?_
              | refine Look.at6 ?_
              | refine Look.at7 ?_
              | refine Look.at8 ?_
              | with_reducible refine Val.i64 (by omega) (by omega) ?_
              | with_reducible refine Val.u8 (by omega) (by omega) ?_
              | with_reducible refine Val.u32 (by omega) (by omega) ?_
              | with_reducible refine Val.u64 (by omega) (by omega) ?_
              | with_reducible refine Val.u8m ?_
              | with_reducible refine Val.u32m ?_
              | with_reducible refine Val.u64m ?_
              | with_reducible refine Val.shr8 ?_
              | with_reducible refine Val.shr16 (by decide) ?_
              | with_reducible refine Val.shr24 (by decide) ?_
              | with_reducible refine Val.raw ?_
              | refine Branch.not ?_
              | refine Branch.and ?_
              | refine Branch.or ?_
              | refine Branch.dt (by assumption) ?_
              | refine Branch.df (by assumption) ?_
              | refine Branch.dt rfl ?_
              | refine Branch.dt (by omega) ?_
              | refine Branch.df (by omega) ?_
              | refine Branch.t rfl ?_
              | refine Branch.f rfl ?_
              | refine Branch.t (by assumption) ?_
              | refine Branch.f (by assumption) ?_
              | refine Branch.d (fun _ => ?_) (fun _ => ?_)
              | refine Branch.mk (fun _ => ?_) (fun _ => ?_)
              | refine Need.mk (by first | omega | decide | rfl) ?_
              | refine Idx.nat (by omega) ?_
              | refine Idx.auto (by first | omega | decide) (by first | omega | decide) ?_
              | refine Cell.ro rfl ?_
              | refine SDraw.all (by kernel_rfl) ?_
              | refine Kept.k0 ?_
              | refine Kept.k1 ?_
              | refine Kept.k2 ?_
              | refine Kept.k3 ?_
              | refine Kept.k4 ?_))
          refine l6t (lf := some (q, n)) (x := x) hs hlo hlt1 hA hcx hxt hn hst hlf hma _ .mk (fun l v la2 ms2 lf2 k1 k2 k3 k4 hS => ?_)
          cases hS
          repeat' ((conv => whnf); (first
              | refine New.mk (fun _ => ?_)
              | refine Look.at0 ?_
              | refine Cell.row ?_
              | refine Cell.buf ?_
              | refine Cells.row rfl ?_
              | refine Put.row rfl ?_
              | refine Put.buf rfl ?_
              | refine Look.at1 ?_
              | refine Look.at2 ?_
              | refine Look.at3 ?_
              | refine Look.at4 ?_
              | refine Look.at5 ?_
              | refine Look.at6 ?_
              | refine Look.at7 ?_
              | refine Look.at8 ?_
              | with_reducible refine Val.i64 (by omega) (by omega) ?_
              | with_reducible refine Val.u8 (by omega) (by omega) ?_
              | with_reducible refine Val.u32 (by omega) (by omega) ?_
              | with_reducible refine Val.u64 (by omega) (by omega) ?_
              | with_reducible refine Val.u8m ?_
              | with_reducible refine Val.u32m ?_
              | with_reducible refine Val.u64m ?_
              | with_reducible refine Val.shr8 ?_
              | with_reducible refine Val.shr16 (by decide) ?_
              | with_reducible refine Val.shr24 (by decide) ?_
              | with_reducible refine Val.raw ?_
              | refine Branch.not ?_
              | refine Branch.and ?_
              | refine Branch.or ?_
              | refine Branch.dt (by assumption) ?_
              | refine Branch.df (by assumption) ?_
              | refine Branch.dt rfl ?_
              | refine Branch.dt (by omega) ?_
              | refine Branch.df (by omega) ?_
              | refine Branch.t rfl ?_
              | refine Branch.f rfl ?_
              | refine Branch.t (by assumption) ?_
              | refine Branch.f (by assumption) ?_
              | refine Branch.d (fun _ => ?_) (fun _ => ?_)
              | refine Branch.mk (fun _ => ?_) (fun _ => ?_)
              | refine Need.mk (by first | omega | decide | rfl) ?_
              | refine Idx.nat (by omega) ?_
              | refine Idx.auto (by first | omega | decide) (by first | omega | decide) ?_
              | refine Cell.ro rfl ?_
              | refine SDraw.all (by kernel_rfl) ?_
              | refine Kept.k0 ?_
              | refine Kept.k1 ?_
              | refine Kept.k2 ?_
              | refine Kept.k3 ?_
              | refine Kept.k4 ?_))
          all_goals (conv => whnf)
          all_goals exact fin _ la2 ms2 lf2 _ k1 k2 k3 k4 rfl .mk rfl
        · repeat' ((conv => whnf); (first
              | refine Cell.ro h0 ?_
              | refine Cell.ro h1 ?_
              | refine Cell.ro h2 ?_
              | refine New.mk (fun _ => ?_)
              | refine Look.at0 ?_
              | refine Cell.row ?_
              | refine Cell.buf ?_
              | refine Cells.row rfl ?_
              | refine Put.row rfl ?_
              | refine Put.buf rfl ?_
              | refine Look.at1 ?_
              | refine Look.at2 ?_
              | refine Look.at3 ?_
              | refine Look.at4 ?_
              | refine Look.at5 ?_
              | refine Look.at6 ?_
              | refine Look.at7 ?_
              | refine Look.at8 ?_
              | with_reducible refine Val.i64 (by omega) (by omega) ?_
              | with_reducible refine Val.u8 (by omega) (by omega) ?_
              | with_reducible refine Val.u32 (by omega) (by omega) ?_
              | with_reducible refine Val.u64 (by omega) (by omega) ?_
              | with_reducible refine Val.u8m ?_
              | with_reducible refine Val.u32m ?_
              | with_reducible refine Val.u64m ?_
              | with_reducible refine Val.shr8 ?_
              | with_reducible refine Val.shr16 (by decide) ?_
              | with_reducible refine Val.shr24 (by decide) ?_
              | with_reducible refine Val.raw ?_
              | refine Branch.not ?_
              | refine Branch.and ?_
              | refine Branch.or ?_
              | refine Branch.dt (by assumption) ?_
              | refine Branch.df (by assumption) ?_
              | refine Branch.dt rfl ?_
              | refine Branch.dt (by omega) ?_
              | refine Branch.df (by omega) ?_
              | refine Branch.t rfl ?_
              | refine Branch.f rfl ?_
              | refine Branch.t (by assumption) ?_
              | refine Branch.f (by assumption) ?_
              | refine Branch.d (fun _ => ?_) (fun _ => ?_)
              | refine Branch.mk (fun _ => ?_) (fun _ => ?_)
              | refine Need.mk (by first | omega | decide | rfl) ?_
              | refine Idx.nat (by omega) ?_
              | refine Idx.auto (by first | omega | decide) (by first | omega | decide) ?_
              | refine Cell.ro rfl ?_
              | refine SDraw.all (by kernel_rfl) ?_
              | refine Kept.k0 ?_
              | refine Kept.k1 ?_
              | refine Kept.k2 ?_
              | refine Kept.k3 ?_
              | refine Kept.k4 ?_))
          refine l6t (lf := some (q, n)) (x := x) hs hlo hlt1 hA hcx hxt hn hst hlf hma _ .mk (fun l v la2 ms2 lf2 k1 k2 k3 k4 hS => ?_)
          cases hS
          repeat' ((conv => whnf); (first
              | refine New.mk (fun _ => ?_)
              | refine Look.at0 ?_
              | refine Cell.row ?_
              | refine Cell.buf ?_
              | refine Cells.row rfl ?_
              | refine Put.row rfl ?_
              | refine Put.buf rfl ?_
              | refine Look.at1 ?_
              | refine Look.at2 ?_
              | refine Look.at3 ?_
              | refine Look.at4 ?_
              | refine Look.at5 ?_
              | refine Look.at6 ?_
              | refine Look.at7 ?_
              | refine Look.at8 ?_
              | with_reducible refine Val.i64 (by omega) (by omega) ?_
              | with_reducible refine Val.u8 (by omega) (by omega) ?_
              | with_reducible refine Val.u32 (by omega) (by omega) ?_
              | with_reducible refine Val.u64 (by omega) (by omega) ?_
              | with_reducible refine Val.u8m ?_
              | with_reducible refine Val.u32m ?_
              | with_reducible refine Val.u64m ?_
              | with_reducible refine Val.shr8 ?_
              | with_reducible refine Val.shr16 (by decide) ?_
              | with_reducible refine Val.shr24 (by decide) ?_
              | with_reducible refine Val.raw ?_
              | refine Branch.not ?_
              | refine Branch.and ?_
              | refine Branch.or ?_
              | refine Branch.dt (by assumption) ?_
              | refine Branch.df (by assumption) ?_
              | refine Branch.dt rfl ?_
              | refine Branch.dt (by omega) ?_
              | refine Branch.df (by omega) ?_
              | refine Branch.t rfl ?_
              | refine Branch.f rfl ?_
              | refine Branch.t (by assumption) ?_
              | refine Branch.f (by assumption) ?_
              | refine Branch.d (fun _ => ?_) (fun _ => ?_)
              | refine Branch.mk (fun _ => ?_) (fun _ => ?_)
              | refine Need.mk (by first | omega | decide | rfl) ?_
              | refine Idx.nat (by omega) ?_
              | refine Idx.auto (by first | omega | decide) (by first | omega | decide) ?_
              | refine Cell.ro rfl ?_
              | refine SDraw.all (by kernel_rfl) ?_
              | refine Kept.k0 ?_
              | refine Kept.k1 ?_
              | refine Kept.k2 ?_
              | refine Kept.k3 ?_
              | refine Kept.k4 ?_))
          all_goals (conv => whnf)
          all_goals exact fin _ la2 ms2 lf2 _ k1 k2 k3 k4 rfl .mk rfl
  · cases hS
    by_cases z : j < A.length
    · have z2 : ¬ j < 12 := fun q => hlt ⟨z, q⟩
      repeat' ((conv => whnf); (first
          | refine New.mk (fun _ => ?_)
          | refine Look.at0 ?_
          | refine Cell.row ?_
          | refine Cell.buf ?_
          | refine Cells.row rfl ?_
          | refine Put.row rfl ?_
          | refine Put.buf rfl ?_
          | refine Look.at1 ?_
          | refine Look.at2 ?_
          | refine Look.at3 ?_
          | refine Look.at4 ?_
          | refine Look.at5 ?_
          | refine Look.at6 ?_
          | refine Look.at7 ?_
          | refine Look.at8 ?_
          | with_reducible refine Val.i64 (by omega) (by omega) ?_
          | with_reducible refine Val.u8 (by omega) (by omega) ?_
          | with_reducible refine Val.u32 (by omega) (by omega) ?_
          | with_reducible refine Val.u64 (by omega) (by omega) ?_
          | with_reducible refine Val.u8m ?_
          | with_reducible refine Val.u32m ?_
          | with_reducible refine Val.u64m ?_
          | with_reducible refine Val.shr8 ?_
          | with_reducible refine Val.shr16 (by decide) ?_
          | with_reducible refine Val.shr24 (by decide) ?_
          | with_reducible refine Val.raw ?_
          | refine Branch.not ?_
          | refine Branch.and ?_
          | refine Branch.or ?_
          | refine Branch.dt (by assumption) ?_
          | refine Branch.df (by assumption) ?_
          | refine Branch.dt rfl ?_
          | refine Branch.dt (by omega) ?_
          | refine Branch.df (by omega) ?_
          | refine Branch.t rfl ?_
          | refine Branch.f rfl ?_
          | refine Branch.t (by assumption) ?_
          | refine Branch.f (by assumption) ?_
          | refine Branch.d (fun _ => ?_) (fun _ => ?_)
          | refine Branch.mk (fun _ => ?_) (fun _ => ?_)
          | refine Need.mk (by first | omega | decide | rfl) ?_
          | refine Idx.nat (by omega) ?_
          | refine Idx.auto (by first | omega | decide) (by first | omega | decide) ?_
          | refine Cell.ro rfl ?_
          | refine SDraw.all (by kernel_rfl) ?_
          | refine Kept.k0 ?_
          | refine Kept.k1 ?_
          | refine Kept.k2 ?_
          | refine Kept.k3 ?_
          | refine Kept.k4 ?_))
      all_goals (conv => whnf)
      exact hQ _ _ la ms lf Ln hn hst hlf hma rfl .mk
    · repeat' ((conv => whnf); (first
          | refine New.mk (fun _ => ?_)
          | refine Look.at0 ?_
          | refine Cell.row ?_
          | refine Cell.buf ?_
          | refine Cells.row rfl ?_
          | refine Put.row rfl ?_
          | refine Put.buf rfl ?_
          | refine Look.at1 ?_
          | refine Look.at2 ?_
          | refine Look.at3 ?_
          | refine Look.at4 ?_
          | refine Look.at5 ?_
          | refine Look.at6 ?_
          | refine Look.at7 ?_
          | refine Look.at8 ?_
          | with_reducible refine Val.i64 (by omega) (by omega) ?_
          | with_reducible refine Val.u8 (by omega) (by omega) ?_
          | with_reducible refine Val.u32 (by omega) (by omega) ?_
          | with_reducible refine Val.u64 (by omega) (by omega) ?_
          | with_reducible refine Val.u8m ?_
          | with_reducible refine Val.u32m ?_
          | with_reducible refine Val.u64m ?_
          | with_reducible refine Val.shr8 ?_
          | with_reducible refine Val.shr16 (by decide) ?_
          | with_reducible refine Val.shr24 (by decide) ?_
          | with_reducible refine Val.raw ?_
          | refine Branch.not ?_
          | refine Branch.and ?_
          | refine Branch.or ?_
          | refine Branch.dt (by assumption) ?_
          | refine Branch.df (by assumption) ?_
          | refine Branch.dt rfl ?_
          | refine Branch.dt (by omega) ?_
          | refine Branch.df (by omega) ?_
          | refine Branch.t rfl ?_
          | refine Branch.f rfl ?_
          | refine Branch.t (by assumption) ?_
          | refine Branch.f (by assumption) ?_
          | refine Branch.d (fun _ => ?_) (fun _ => ?_)
          | refine Branch.mk (fun _ => ?_) (fun _ => ?_)
          | refine Need.mk (by first | omega | decide | rfl) ?_
          | refine Idx.nat (by omega) ?_
          | refine Idx.auto (by first | omega | decide) (by first | omega | decide) ?_
          | refine Cell.ro rfl ?_
          | refine SDraw.all (by kernel_rfl) ?_
          | refine Kept.k0 ?_
          | refine Kept.k1 ?_
          | refine Kept.k2 ?_
          | refine Kept.k3 ?_
          | refine Kept.k4 ?_))
      all_goals (conv => whnf)
      exact hQ _ _ la ms lf Ln hn hst hlf hma rfl .mk
end
end Go.Proofs.Ytmakaofdpoiaaaa
