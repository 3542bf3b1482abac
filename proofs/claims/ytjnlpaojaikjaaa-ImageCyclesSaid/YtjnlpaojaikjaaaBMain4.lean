/- Layer 26: what is read is what the producer had then: the law. -/
import Derived.Test.YtjnlpaojaikjaaaBMain3

set_option linter.unusedVariables false
set_option linter.unusedSimpArgs false
set_option maxRecDepth 100000
set_option maxHeartbeats 4000000
namespace Go.Proofs.Ytjnlpaojaikjaaa
open Sx
inductive S4 (A1 A2 A8 A9 A11 A12 : Value) : List Value → Prop
  | mk {r0 r3 r4 r5 r6 r7 r10 r13 r14 r15 r16 r17 r18 r19 r20 r21 r22 r23 r24 r25 r26 r27 r28 r29 r30 r31 r32 r33 r34 r35 r36 r37 r38 r39 r40 r41 r42 r43 r44 r45 r46 r47 r48 r49 r50 r51 r52 r53 r54 r55 r56 r57 r58 r59 r60 r61 r62 r63 r64 r65 r66 r67 r68 r69 r70 r71 r72 r73 r74 r75 r76 r77 r78 r79 r80 r81 r82 r83 r84 r85 r86 r87 r88 r89 r90 r91 r92 r93 r94 r95 r96 r97 r98 r99 r100 r101 r102 r103 r104 r105 r106 r107 r108 r109 r110 r111 r112 r113 r114 r115 r116 r117 r118 r119 r120 r121 r122 r123 r124 r125 r126 r127 r128 r129 r130 r131 r132 r133 r134 r135 r136 r137 r138 r139 r140 r141 r142 r143 r144 r145 r146 r147 r148 r149 r150 r151 r152 r153 r154 r155 r156 r157 r158 r159 r160 r161 r162 r163 r164 r165 r166 r167 r168 r169 r170 r171 r172 r173 r174 r175 r176 r177 r178 r179 r180 r181 r182 r183 r184 r185 r186 r187 r188 r189 : Value} : S4 A1 A2 A8 A9 A11 A12 [r0, A1, A2, r3, r4, r5, r6, r7, A8, A9, r10, A11, A12, r13, r14, r15, r16, r17, r18, r19, r20, r21, r22, r23, r24, r25, r26, r27, r28, r29, r30, r31, r32, r33, r34, r35, r36, r37, r38, r39, r40, r41, r42, r43, r44, r45, r46, r47, r48, r49, r50, r51, r52, r53, r54, r55, r56, r57, r58, r59, r60, r61, r62, r63, r64, r65, r66, r67, r68, r69, r70, r71, r72, r73, r74, r75, r76, r77, r78, r79, r80, r81, r82, r83, r84, r85, r86, r87, r88, r89, r90, r91, r92, r93, r94, r95, r96, r97, r98, r99, r100, r101, r102, r103, r104, r105, r106, r107, r108, r109, r110, r111, r112, r113, r114, r115, r116, r117, r118, r119, r120, r121, r122, r123, r124, r125, r126, r127, r128, r129, r130, r131, r132, r133, r134, r135, r136, r137, r138, r139, r140, r141, r142, r143, r144, r145, r146, r147, r148, r149, r150, r151, r152, r153, r154, r155, r156, r157, r158, r159, r160, r161, r162, r163, r164, r165, r166, r167, r168, r169, r170, r171, r172, r173, r174, r175, r176, r177, r178, r179, r180, r181, r182, r183, r184, r185, r186, r187, r188, r189]
inductive S4n (A1 A2 A8 A9 A11 A12 A13 A14 A15 : Value) : List Value → Prop
  | mk {r0 r3 r4 r5 r6 r7 r10 r16 r17 r18 r19 r20 r21 r22 r23 r24 r25 r26 r27 r28 r29 r30 r31 r32 r33 r34 r35 r36 r37 r38 r39 r40 r41 r42 r43 r44 r45 r46 r47 r48 r49 r50 r51 r52 r53 r54 r55 r56 r57 r58 r59 r60 r61 r62 r63 r64 r65 r66 r67 r68 r69 r70 r71 r72 r73 r74 r75 r76 r77 r78 r79 r80 r81 r82 r83 r84 r85 r86 r87 r88 r89 r90 r91 r92 r93 r94 r95 r96 r97 r98 r99 r100 r101 r102 r103 r104 r105 r106 r107 r108 r109 r110 r111 r112 r113 r114 r115 r116 r117 r118 r119 r120 r121 r122 r123 r124 r125 r126 r127 r128 r129 r130 r131 r132 r133 r134 r135 r136 r137 r138 r139 r140 r141 r142 r143 r144 r145 r146 r147 r148 r149 r150 r151 r152 r153 r154 r155 r156 r157 r158 r159 r160 r161 r162 r163 r164 r165 r166 r167 r168 r169 r170 r171 r172 r173 r174 r175 r176 r177 r178 r179 r180 r181 r182 r183 r184 r185 r186 r187 r188 r189 : Value} : S4n A1 A2 A8 A9 A11 A12 A13 A14 A15 [r0, A1, A2, r3, r4, r5, r6, r7, A8, A9, r10, A11, A12, A13, A14, A15, r16, r17, r18, r19, r20, r21, r22, r23, r24, r25, r26, r27, r28, r29, r30, r31, r32, r33, r34, r35, r36, r37, r38, r39, r40, r41, r42, r43, r44, r45, r46, r47, r48, r49, r50, r51, r52, r53, r54, r55, r56, r57, r58, r59, r60, r61, r62, r63, r64, r65, r66, r67, r68, r69, r70, r71, r72, r73, r74, r75, r76, r77, r78, r79, r80, r81, r82, r83, r84, r85, r86, r87, r88, r89, r90, r91, r92, r93, r94, r95, r96, r97, r98, r99, r100, r101, r102, r103, r104, r105, r106, r107, r108, r109, r110, r111, r112, r113, r114, r115, r116, r117, r118, r119, r120, r121, r122, r123, r124, r125, r126, r127, r128, r129, r130, r131, r132, r133, r134, r135, r136, r137, r138, r139, r140, r141, r142, r143, r144, r145, r146, r147, r148, r149, r150, r151, r152, r153, r154, r155, r156, r157, r158, r159, r160, r161, r162, r163, r164, r165, r166, r167, r168, r169, r170, r171, r172, r173, r174, r175, r176, r177, r178, r179, r180, r181, r182, r183, r184, r185, r186, r187, r188, r189]
structure T4n where
  (j rw c : Nat)
def I4n (av cv sv gv hv jv pv : Value) (M : Mc) (n : Nat) (G : Heap) (x : T4n) (S : List Value) (H : Heap) : Prop :=
  x.j ≤ n ∧ S4n av cv sv gv hv jv pv (.slice (some ⟨x.rw, 0, none⟩) x.j x.c) (.int .i64 (x.j : Int)) S ∧ x.j ≤ x.c ∧ x.c ≤ maxLen ∧ H = (x.rw, .buf 35 (((nowM M).take x.j).map cU) (x.c * 1)) :: G
theorem sync_ne {M : Mc} {xs : List Int} (h : (M.sync xs).1 ≠ 0) : (M.sync xs).2 = M := by
  unfold Mc.sync at h ⊢
  split
  · rfl
  · rename_i h2; rw [if_neg h2] at h; exact absurd rfl h
structure T4 where
  (j : Nat) (M : Mc) (hs : List HR) (rh ch : Nat) (HB Hm : Heap)
def I4 (av : Value) (calm : Bool) (gm : Nat) (ids : List (Nat × Nat)) (L : List VarI) (sv : Value) (I : Heap) (n : Nat) (x : T4) (S : List Value) (H : Heap) : Prop :=
  x.j ≤ n ∧ x.hs.length ≤ x.j + 1 ∧ S4 av (.bool calm) sv (ptr gm) (.slice (some ⟨x.rh, 0, none⟩) x.hs.length x.ch) (.int .i64 (x.j : Int)) S ∧ x.hs.length ≤ x.ch ∧ x.ch ≤ maxLen ∧ Mach gm ids x.M x.Hm ∧ Cy (L.map VarI.cons) calm x.M (x.hs.map fun h => h.2.2) ∧ (∀ h ∈ x.hs, (h.1, Blk.buf 35 (h.2.2.map cU) (h.2.1 * 1)) ∈ x.HB) ∧ H = (x.rh, .buf 47 (x.hs.flatMap cH) (x.ch * 1)) :: (x.HB ++ (x.Hm ++ I))
section
variable {I : Heap} {sv av : Value} {L : List VarI} {Y : List ActI}
theorem cycles_c (hin : InV sv I L) (hbig : ∀ x ∈ L, x.cons.length * 8 ≤ 140737488355000) (hL : L.length * 32 ≤ 140737488355000) (hk0 : ∀ p ∈ I, kd p.2 = 5000) (hact : InA av I Y) (hcap : ∀ a m c, av = .slice a m c → m ≤ c) (calm : Bool) (nodes : Int) : SCalls Try.prog 4 [.agg ⟨[.int .i64 nodes, sv]⟩, av, .bool calm] I fun v _ => v = .bool true := by
  obtain ⟨sa, sc, rfl, hml⟩ := hin.sl.sv
  obtain ⟨aa, ac, rfl, hyl⟩ := hact.sl.sv
  have hcap := hcap aa Y.length ac rfl
  have hacm : Y.length ≤ 9223372036854775807 := by simp only [maxLen] at hyl; omega
  have hyl' : Y.length ≤ 9223372036854775807 := by simp only [maxLen] at hyl; omega
  have hlg : ∀ Lo : List VarI, Lo.map VarI.lg = L.map VarI.lg → Lo.length = L.length ∧ ∀ x ∈ Lo, x.cons.length * 8 ≤ 140737488355000 := fun Lo he => by
    refine ⟨by simpa using congrArg List.length he, fun x hx => ?_⟩
    have : x.lg ∈ L.map VarI.lg := by rw [← he]; exact List.mem_map_of_mem hx
    obtain ⟨y, hy, e⟩ := List.mem_map.1 this
    have e2 : y.cons = x.cons := congrArg Prod.snd e
    rw [← e2]; exact hbig y hy
  have hc7 : ∀ {q c : Nat} {Lo : List VarI} {N : Heap} (K : Value → Heap → Prop), Lo.map VarI.lg = L.map VarI.lg → InV (.slice (some ⟨q, 0, none⟩) L.length c) N Lo → (∀ p ∈ N, kd p.2 = 1042 ∨ kd p.2 = 1003) →
      (chkV nodes (L.map VarI.lg) ≠ 0 → K (.tuple ⟨[.pointer none, .int .i64 (chkV nodes (L.map VarI.lg))]⟩) N) → (chkV nodes (L.map VarI.lg) = 0 → ∀ gm ids H', Mach gm ids (newM nodes.toNat (L.map VarI.lg)) H' → K (.tuple ⟨[ptr gm, .int .i64 0]⟩) H') → SCalls Try.prog 7 [.int .i64 nodes, .slice (some ⟨q, 0, none⟩) L.length c] N K := fun {q c Lo N} K h1 h2 h3 h4 h5 => by
    have := c7 (K := K) h2 (hlg Lo h1).2 (fun p hp => by rcases h3 p hp with e | e <;> omega) nodes
    rw [h1] at this
    exact this h4 h5
  refine enter4 ?_
  by_cases hchk : chkV nodes (L.map VarI.lg) = 0
  · obtain ⟨hn1, hn2, _, _⟩ := chk_zero hchk
    obtain ⟨n, rfl⟩ : ∃ n : Nat, nodes = (n : Int) := ⟨nodes.toNat, by omega⟩
    have hok := goV_zero (chk_zero hchk).2.2.2
    have hl64 := (chk_zero hchk).2.2.1
    rw [List.length_map] at hl64
    have hcons : ∀ x ∈ L, x.cons.length ≤ 127 := fun x hx => by
      obtain ⟨h1, h2⟩ := hok x.lg (List.mem_map_of_mem hx)
      have h3 : ∀ c ∈ x.cons, 0 ≤ c ∧ c < (n : Int) := fun c hc => (mk_ok h1 h2).keys (c, none) (List.mem_map.2 ⟨c, hc, rfl⟩)
      have h4 := nodup_le n x.cons (dup_nodup _ _ h2).1 h3
      omega
    have hl64 := (chk_zero hchk).2.2.1
    rw [List.length_map] at hl64
    by_cases h300 : 300 < Y.length
    · have hact2 : InA (.slice aa (Y.take 300).length ac) I (Y.take 300) := by
        have hlen : (Y.take 300).length = 300 := by rw [List.length_take]; omega
        obtain ⟨a, c, e, h1, h2⟩ := hact.sl
        injection e with e1 e2 e3
        subst e1; subst e3
        refine ⟨⟨_, _, rfl, by omega, ?_⟩, fun y hy => hact.el y (List.mem_of_mem_take hy), fun y hy => hact.big y (List.mem_of_mem_take hy)⟩
        rcases h2 with rfl | ⟨r, o, b, e, hm, hc⟩
        · exact .inl rfl
        · refine .inr ⟨r, o, b, e, hm, fun j x i v hj hv hi => hc j x i v ?_ hv hi⟩
          rw [List.getElem?_take] at hj
          split at hj
          · exact hj
          · cases hj
      have hm2 : 300 = (Y.take 300).length := by rw [List.length_take]; omega
      have hY2 : (Y.take 300).length ≤ 300 := by rw [List.length_take]; omega
      generalize Y.take 300 = Y2 at hact2 hm2 hY2
      repeat' ((conv => whnf); (first
          | refine SDraw.held (by kernel_rfl) [_] (.same (.head _) .nil) ?_
          | refine Kept.mk (.same (.head _) .nil) ?_
          | refine SCalls.under [_] (c8 hin hbig hL (fun q c Lo N h1 h2 h3 => ?_))
          | refine SCalls.midH [_] I (hc7 _ h1 h2 h3 (fun hne => absurd hchk hne) (fun hz gm ids H1 hM => ?_))
          | refine RawV.make1 (t := 47) (e := 35) (bytes := 8) (zv := .int .u64 0) (n := L.length) rfl (by kernel_rfl) (by kernel_rfl) rfl (by omega) (by unfold maxLen; omega) (fun rz => ?_)
          | refine New.mk (fun _ => ?_)
          | refine Look.at0 ?_
          | refine Cell.row ?_
          | refine Cell.buf ?_
          | refine Cells.row rfl ?_
          | refine Put.row rfl ?_
          | refine Put.buf rfl ?_
          | refine Look.at1 ?_
          | refine Look.at2 ?_
          | refine Look.at3 ?_
          | refine Look.at4 ?_
          | refine Look.at5 ?_
          | refine Look.at6 ?_
          | refine Look.at7 ?_
          | refine Look.at8 ?_
          | with_reducible refine Val.i64 (by omega) (by omega) ?_
          | with_reducible refine Val.u8 (by omega) (by omega) ?_
          | with_reducible refine Val.u32 (by omega) (by omega) ?_
          | with_reducible refine Val.u64 (by omega) (by omega) ?_
          | with_reducible refine Val.u8m ?_
          | with_reducible refine Val.u32m ?_
          | with_reducible refine Val.u64m ?_
          | with_reducible refine Val.shr8 ?_
          | with_reducible refine Val.shr16 (by decide) ?_
          | with_reducible refine Val.shr24 (by decide) ?_
          | with_reducible refine Val.raw ?_
          | refine Branch.not ?_
          | refine Branch.and ?_
          | refine Branch.or ?_
          | refine Branch.dt (by assumption) ?_
          | refine Branch.df (by assumption) ?_
          | refine Branch.dt rfl ?_
          | refine Branch.dt (by omega) ?_
          | refine Branch.df (by omega) ?_
          | refine Branch.t rfl ?_
          | refine Branch.f rfl ?_
          | refine Branch.t (by assumption) ?_
          | refine Branch.f (by assumption) ?_
          | refine Branch.d (fun _ => ?_) (fun _ => ?_)
          | refine Branch.mk (fun _ => ?_) (fun _ => ?_)
          | refine Need.mk (by first | omega | decide | rfl) ?_
          | refine Idx.nat (by omega) ?_
          | refine Idx.auto (by first | omega | decide) (by first | omega | decide) ?_
          | refine Cell.ro rfl ?_
          | refine SDraw.all (by kernel_rfl) ?_
          | refine Kept.k0 ?_
          | refine Kept.k1 ?_
          | refine Kept.k2 ?_
          | refine Kept.k3 ?_
          | refine Kept.k4 ?_))
      rename_i p0 ph
      refine SLoop.toBuf (A := []) ?_
      refine SLoop.invA (I4 (.slice aa 300 ac) calm gm ids L (.slice sa L.length sc) I Y2.length) (fun x => Y2.length - x.j) ⟨0, newM n (L.map VarI.lg), [(rz, L.length, List.replicate L.length 0)], ph, 1, [(rz, Blk.buf 35 (List.replicate L.length (.int .u64 0)) L.length), (p0, Blk.row 24 [.int .i64 (n : Int), .slice sa L.length sc] (0, 0))], H1⟩ (Keep.all ⟨Nat.zero_le _, by simp, .mk, by simp, by show 1 ≤ maxLen; unfold maxLen; omega, hM, by simpa using cy_new n L calm (fun v hv => by have := hM.ok v hv; simpa [newM] using this), by simp, by simp⟩) ?_
      clear hM hc7
      rintro ⟨j, M, hs, rh, ch, HB, Hm⟩ S H' ⟨hj, hsl, hS, hch1, hch2, hM, hC, hr, rfl⟩ R hRR
      dsimp only at hj hsl hS hch1 hch2 hM hC hr hRR ⊢
      cases hS
      by_cases hlt : j < Y2.length
      · obtain ⟨y, hy, _, _⟩ := list_at hlt
        obtain ⟨r, o, c', b, e1, hm, hc⟩ := inS_at hact2.sl (fun _ => rfl) hy
        injection e1 with e1 _ e3
        subst e1
        have hym := List.mem_of_getElem? hy
        have hya := hact2.el y hym
        have hyb := hact2.big y hym
        have hmH : (r, b) ∈ (rh, Blk.buf 47 (hs.flatMap cH) (ch * 1)) :: (HB ++ (Hm ++ I)) := .tail _ (List.mem_append_right _ (List.mem_append_right _ hm))
        have hnext : ∀ (S : List Value) (M1 : Mc) (hs1 : List HR) (rh1 ch1 : Nat) (HB1 Hm1 H0 : Heap), ((rh1, Blk.buf 47 (hs1.flatMap cH) (ch1 * 1)) :: (HB1 ++ (Hm1 ++ I))).Sublist H0 → S4 (.slice (some ⟨r, o, none⟩) 300 ac) (.bool calm) (.slice sa L.length sc) (ptr gm) (.slice (some ⟨rh1, 0, none⟩) hs1.length ch1) (.int .i64 ((j + 1 : Nat) : Int)) S → Mach gm ids M1 Hm1 → Cy (L.map VarI.cons) calm M1 (hs1.map fun h => h.2.2) → (∀ h ∈ hs1, (h.1, Blk.buf 35 (h.2.2.map cU) (h.2.1 * 1)) ∈ HB1) → hs1.length ≤ j + 2 → hs1.length ≤ ch1 → ch1 ≤ maxLen → R S H0 := fun S M1 hs1 rh1 ch1 HB1 Hm1 H0 g0 g1 g2 g3 g4 g5 g6 g7 =>
          hRR ⟨j + 1, M1, hs1, rh1, ch1, HB1, Hm1⟩ _ _ (by show Y2.length - (j + 1) < Y2.length - j; omega) (Keep.sub _ g0 ⟨by show j + 1 ≤ Y2.length; omega, by show hs1.length ≤ j + 1 + 1; omega, g1, g6, g7, g2, g3, g4, rfl⟩)
        clear hRR
        obtain ⟨yk, yn, yv, yx, ym, ya, yc⟩ := y
        dsimp only at hya hyb
        have hc : ∀ (i : Nat) (v : Value), [Value.int .i64 yk, .int .i64 yn, .int .i64 yv, .int .u64 yx, .slice ya ym.length yc][i]? = some v → b.cell (o + j * 5 + i) = some v := hc
        cases calm with
        | true =>
          by_cases g1 : 1 < yk
          · repeat' ((conv => whnf); (first
                | refine Look.cells hmH rfl hc ?_
                | refine New.mk (fun _ => ?_)
                | refine Look.at0 ?_
                | refine Cell.row ?_
                | refine Cell.buf ?_
                | refine Cells.row rfl ?_
                | refine Put.row rfl ?_
                | refine Put.buf rfl ?_
                | refine Look.at1 ?_
                | refine Look.at2 ?_
                | refine Look.at3 ?_
                | refine Look.at4 ?_
                | refine Look.at5 ?_
                | refine Look.at6 ?_
                | refine Look.at7 ?_
                | refine Look.at8 ?_
                | with_reducible refine Val.i64 (by omega) (by omega) ?_
                | with_reducible refine Val.u8 (by omega) (by omega) ?_
                | with_reducible refine Val.u32 (by omega) (by omega) ?_
                | with_reducible refine Val.u64 (by omega) (by omega) ?_
                | with_reducible refine Val.u8m ?_
                | with_reducible refine Val.u32m ?_
                | with_reducible refine Val.u64m ?_
                | with_reducible refine Val.shr8 ?_
                | with_reducible refine Val.shr16 (by decide) ?_
                | with_reducible refine Val.shr24 (by decide) ?_
                | with_reducible refine Val.raw ?_
                | refine Branch.not ?_
                | refine Branch.and ?_
                | refine Branch.or ?_
                | refine Branch.dt (by assumption) ?_
                | refine Branch.df (by assumption) ?_
                | refine Branch.dt rfl ?_
                | refine Branch.dt (by omega) ?_
                | refine Branch.df (by omega) ?_
                | refine Branch.t rfl ?_
                | refine Branch.f rfl ?_
                | refine Branch.t (by assumption) ?_
                | refine Branch.f (by assumption) ?_
                | refine Branch.d (fun _ => ?_) (fun _ => ?_)
                | refine Branch.mk (fun _ => ?_) (fun _ => ?_)
                | refine Need.mk (by first | omega | decide | rfl) ?_
                | refine Idx.nat (by omega) ?_
                | refine Idx.auto (by first | omega | decide) (by first | omega | decide) ?_
                | refine Cell.ro rfl ?_
                | refine SDraw.all (by kernel_rfl) ?_
                | refine Kept.k0 ?_
                | refine Kept.k1 ?_
                | refine Kept.k2 ?_
                | refine Kept.k3 ?_
                | refine Kept.k4 ?_))
            all_goals (conv => whnf)
            exact hnext _ _ hs rh ch HB Hm _ (List.sublist_cons_self _ _) .mk hM hC hr (by omega) hch1 hch2
          · by_cases g2 : 0 < ym.length
            · repeat' ((conv => whnf); (first
                  | refine Look.cells hmH rfl hc ?_
                  | refine New.mk (fun _ => ?_)
                  | refine Look.at0 ?_
                  | refine Cell.row ?_
                  | refine Cell.buf ?_
                  | refine Cells.row rfl ?_
                  | refine Put.row rfl ?_
                  | refine Put.buf rfl ?_
                  | refine Look.at1 ?_
                  | refine Look.at2 ?_
                  | refine Look.at3 ?_
                  | refine Look.at4 ?_
                  | refine Look.at5 ?_
                  | refine Look.at6 ?_
                  | refine Look.at7 ?_
                  | refine Look.at8 ?_
                  | with_reducible refine Val.i64 (by omega) (by omega) ?_
                  | with_reducible refine Val.u8 (by omega) (by omega) ?_
                  | with_reducible refine Val.u32 (by omega) (by omega) ?_
                  | with_reducible refine Val.u64 (by omega) (by omega) ?_
                  | with_reducible refine Val.u8m ?_
                  | with_reducible refine Val.u32m ?_
                  | with_reducible refine Val.u64m ?_
                  | with_reducible refine Val.shr8 ?_
                  | with_reducible refine Val.shr16 (by decide) ?_
                  | with_reducible refine Val.shr24 (by decide) ?_
                  | with_reducible refine Val.raw ?_
                  | refine Branch.not ?_
                  | refine Branch.and ?_
                  | refine Branch.or ?_
                  | refine Branch.dt (by assumption) ?_
                  | refine Branch.df (by assumption) ?_
                  | refine Branch.dt rfl ?_
                  | refine Branch.dt (by omega) ?_
                  | refine Branch.df (by omega) ?_
                  | refine Branch.t rfl ?_
                  | refine Branch.f rfl ?_
                  | refine Branch.t (by assumption) ?_
                  | refine Branch.f (by assumption) ?_
                  | refine Branch.d (fun _ => ?_) (fun _ => ?_)
                  | refine Branch.mk (fun _ => ?_) (fun _ => ?_)
                  | refine Need.mk (by first | omega | decide | rfl) ?_
                  | refine Idx.nat (by omega) ?_
                  | refine Idx.auto (by first | omega | decide) (by first | omega | decide) ?_
                  | refine Cell.ro rfl ?_
                  | refine SDraw.all (by kernel_rfl) ?_
                  | refine Kept.k0 ?_
                  | refine Kept.k1 ?_
                  | refine Kept.k2 ?_
                  | refine Kept.k3 ?_
                  | refine Kept.k4 ?_))
              all_goals (conv => whnf)
              exact hnext _ _ hs rh ch HB Hm _ (List.sublist_cons_self _ _) .mk hM hC hr (by omega) hch1 hch2
            · have hxs : ym = [] := List.eq_nil_of_length_eq_zero (by omega)
              have hx : true = true → ym = [] := fun _ => hxs
              by_cases k1 : yk = 1
              · subst k1
                have hL2 : (nowM M).length = L.length := by
                  unfold nowM
                  rw [List.length_map]
                  have := congrArg List.length hC.keys
                  simpa using this
                have hvl : M.vs.length = L.length := by rw [← hL2]; unfold nowM; rw [List.length_map]
                have hfl := flat_len (f := cH) (k := 1) (fun _ => rfl) hs
                repeat' ((conv => whnf); (first
                    | refine Look.cells hmH rfl hc ?_
                    | refine New.mk (fun _ => ?_)
                    | refine Look.at0 ?_
                    | refine Cell.row ?_
                    | refine Cell.buf ?_
                    | refine Cells.row rfl ?_
                    | refine Put.row rfl ?_
                    | refine Put.buf rfl ?_
                    | refine Look.at1 ?_
                    | refine Look.at2 ?_
                    | refine Look.at3 ?_
                    | refine Look.at4 ?_
                    | refine Look.at5 ?_
                    | refine Look.at6 ?_
                    | refine Look.at7 ?_
                    | refine Look.at8 ?_
                    | with_reducible refine Val.i64 (by omega) (by omega) ?_
                    | with_reducible refine Val.u8 (by omega) (by omega) ?_
                    | with_reducible refine Val.u32 (by omega) (by omega) ?_
                    | with_reducible refine Val.u64 (by omega) (by omega) ?_
                    | with_reducible refine Val.u8m ?_
                    | with_reducible refine Val.u32m ?_
                    | with_reducible refine Val.u64m ?_
                    | with_reducible refine Val.shr8 ?_
                    | with_reducible refine Val.shr16 (by decide) ?_
                    | with_reducible refine Val.shr24 (by decide) ?_
                    | with_reducible refine Val.raw ?_
                    | refine Branch.not ?_
                    | refine Branch.and ?_
                    | refine Branch.or ?_
                    | refine Branch.dt (by assumption) ?_
                    | refine Branch.df (by assumption) ?_
                    | refine Branch.dt rfl ?_
                    | refine Branch.dt (by omega) ?_
                    | refine Branch.df (by omega) ?_
                    | refine Branch.t rfl ?_
                    | refine Branch.f rfl ?_
                    | refine Branch.t (by assumption) ?_
                    | refine Branch.f (by assumption) ?_
                    | refine Branch.d (fun _ => ?_) (fun _ => ?_)
                    | refine Branch.mk (fun _ => ?_) (fun _ => ?_)
                    | refine Need.mk (by first | omega | decide | rfl) ?_
                    | refine Idx.nat (by omega) ?_
                    | refine Idx.auto (by first | omega | decide) (by first | omega | decide) ?_
                    | refine Cell.ro rfl ?_
                    | refine SDraw.all (by kernel_rfl) ?_
                    | refine Kept.k0 ?_
                    | refine Kept.k1 ?_
                    | refine Kept.k2 ?_
                    | refine Kept.k3 ?_
                    | refine Kept.k4 ?_))
                rename_i pn
                refine SLoop.toBuf (A := []) ?_
                refine SLoop.invA (I4n _ _ _ _ _ _ _ M L.length _) (fun x => L.length - x.j) ⟨0, pn, 0⟩ (Keep.all ⟨Nat.zero_le _, .mk, Nat.le_refl 0, Nat.zero_le _, rfl⟩) ?_
                rintro ⟨k, rn, cn⟩ S H' ⟨hk, hS, hkc, hcm, rfl⟩ R2 hR2
                dsimp only at hk hS hkc hcm hR2 ⊢
                cases hS
                by_cases hlt2 : k < L.length
                · obtain ⟨v, hv, _, htv⟩ := list_at (L := nowM M) (j := k) (by omega)
                  have hov : M.own (k : Int) = v := by
                    unfold nowM at hv
                    rw [List.getElem?_map] at hv
                    unfold Mc.own
                    rw [if_pos (by omega), Int.toNat_natCast, hv]; rfl
                  have hc15 : ∀ (H2 : Heap) (_ : Mach gm ids M H2) (K : Value → Heap → Prop), K (.int .u64 v) H2 → SCalls Try.prog 15 [ptr gm, .int .i64 (k : Int)] H2 K := fun H2 hM2 K hk => c15 hM2 _ (by rw [hov]; exact hk)
                  have hlenk : (((nowM M).take k).map cU).length = k * 1 := by rw [List.length_map, List.length_take]; omega
                  clear hnext
                  repeat' ((conv => whnf); (first
                      | refine hc15 _ (hM.mono fun z hz => (.tail _ (.tail _ (.tail _ (List.mem_append_right _ (List.mem_append_left _ hz)))))) _ ?_
                      | refine RawV.appT (A := [_]) (e := 35) (size := 1) (bytes := 8) (m := 1) (news := [.int .u64 v]) rfl (by kernel_rfl) (by decide) hlenk rfl hkc hcm (.head _) rfl (fun j v hj => by rw [Nat.zero_add]; exact hj) (by intro u hu; obtain rfl := List.mem_singleton.1 hu; rfl) (by unfold maxLen; omega) (by omega) (fun r' c' g1 g2 => ?_)
                      | refine New.mk (fun _ => ?_)
                      | refine Look.at0 ?_
                      | refine Cell.row ?_
                      | refine Cell.buf ?_
                      | refine Cells.row rfl ?_
                      | refine Put.row rfl ?_
                      | refine Put.buf rfl ?_
                      | refine Look.at1 ?_
                      | refine Look.at2 ?_
                      | refine Look.at3 ?_
                      | refine Look.at4 ?_
                      | refine Look.at5 ?_
                      | refine Look.at6 ?_
                      | refine Look.at7 ?_
                      | refine Look.at8 ?_
                      | with_reducible refine Val.i64 (by omega) (by omega) ?_
                      | with_reducible refine Val.u8 (by omega) (by omega) ?_
                      | with_reducible refine Val.u32 (by omega) (by omega) ?_
                      | with_reducible refine Val.u64 (by omega) (by omega) ?_
                      | with_reducible refine Val.u8m ?_
                      | with_reducible refine Val.u32m ?_
                      | with_reducible refine Val.u64m ?_
                      | with_reducible refine Val.shr8 ?_
                      | with_reducible refine Val.shr16 (by decide) ?_
                      | with_reducible refine Val.shr24 (by decide) ?_
                      | with_reducible refine Val.raw ?_
                      | refine Branch.not ?_
                      | refine Branch.and ?_
                      | refine Branch.or ?_
                      | refine Branch.dt (by assumption) ?_
                      | refine Branch.df (by assumption) ?_
                      | refine Branch.dt rfl ?_
                      | refine Branch.dt (by omega) ?_
                      | refine Branch.df (by omega) ?_
                      | refine Branch.t rfl ?_
                      | refine Branch.f rfl ?_
                      | refine Branch.t (by assumption) ?_
                      | refine Branch.f (by assumption) ?_
                      | refine Branch.d (fun _ => ?_) (fun _ => ?_)
                      | refine Branch.mk (fun _ => ?_) (fun _ => ?_)
                      | refine Need.mk (by first | omega | decide | rfl) ?_
                      | refine Idx.nat (by omega) ?_
                      | refine Idx.auto (by first | omega | decide) (by first | omega | decide) ?_
                      | refine Cell.ro rfl ?_
                      | refine SDraw.all (by kernel_rfl) ?_
                      | refine Kept.k0 ?_
                      | refine Kept.k1 ?_
                      | refine Kept.k2 ?_
                      | refine Kept.k3 ?_
                      | refine Kept.k4 ?_))
                  all_goals (conv => whnf)
                  exact hR2 ⟨k + 1, r', c'⟩ _ _ (by show L.length - (k + 1) < L.length - k; omega) (Keep.sub _ (List.Sublist.cons_cons _ (List.Sublist.cons _ (List.Sublist.refl _))) ⟨by show k + 1 ≤ L.length; omega, .mk, g1, g2, by show _ = (r', Blk.buf 35 (((nowM M).take (k + 1)).map cU) (c' * 1)) :: _; rw [htv, List.map_append]; rfl⟩)
                · have e : k = L.length := by omega
                  subst e
                  rw [List.take_of_length_le (by omega)]
                  clear hR2
                  have hyl2 : ym.length ≤ maxLen := by obtain ⟨_, _, _, hl⟩ := hya.sv; exact hl
                  have hc16 : ∀ (q c : Nat) (K : Value → Heap → Prop), (∀ H', Mach gm ids (M.sync ym).2 H' → K (.int .i64 (M.sync ym).1) H') → SCalls Try.prog 16 [ptr gm, .slice (some ⟨q, 0, none⟩) ym.length c] ((q, Blk.buf 3 (ym.flatMap cI) (c * 1)) :: Hm) K := fun q c K hk =>
                    c16 (hM.mono fun z hz => .tail _ hz) (xs := ym) ⟨_, _, rfl, hyl2, .inr ⟨q, _, rfl, .head _⟩⟩ hk
                  by_cases h0 : (M.sync ym).1 = 0
                  · have hcy := cy_sync hC hx h0 (by rw [List.length_map]; omega)
                    rw [h0] at hc16
                    generalize (M.sync ym).2 = M2 at hc16 hcy
                    have hmap : (hs.map fun h => h.2.2) ++ [nowM M] = (hs ++ [((rn, cn, nowM M) : HR)]).map fun h => h.2.2 := by rw [List.map_append]; rfl
                    have hcy2 := hcy
                    rw [hmap] at hcy2
                    repeat' ((conv => whnf); (first
                        | refine RawV.copyS (L := ym) (f := cI) (k := 1) (bytes := 8) (hya.mono fun z hz => .tail _ (.tail _ (.tail _ (List.mem_append_right _ (List.mem_append_right _ hz))))) rfl (by kernel_rfl) (by decide) (fun _ => rfl) (fun y u hu => by obtain rfl := List.mem_singleton.1 hu; rfl) (by omega) (fun q2 c2 k3 k4 => ?_)
                        | refine SCalls.perm (SCalls.midH (_ :: _ :: _ :: HB) I (hc16 q2 c2 _ (fun H2 hM1 => ?_))) (List.perm_middle (l₁ := _ :: _ :: _ :: HB)).symm
                        | refine RawV.appT (A := [_, _, _]) (e := 47) (size := 1) (bytes := 24) (m := 1) (news := [.slice (some ⟨rn, 0, none⟩) L.length cn]) rfl (by kernel_rfl) (by decide) hfl rfl hch1 hch2 (.head _) rfl (fun j v hj => by rw [Nat.zero_add]; exact hj) (by intro u hu; obtain rfl := List.mem_singleton.1 hu; rfl) (by unfold maxLen; omega) (by omega) (fun rh2 ch2 g1 g2 => ?_)
                        | refine New.mk (fun _ => ?_)
                        | refine Look.at0 ?_
                        | refine Cell.row ?_
                        | refine Cell.buf ?_
                        | refine Cells.row rfl ?_
                        | refine Put.row rfl ?_
                        | refine Put.buf rfl ?_
                        | refine Look.at1 ?_
                        | refine Look.at2 ?_
                        | refine Look.at3 ?_
                        | refine Look.at4 ?_
                        | refine Look.at5 ?_
                        | refine Look.at6 ?_
                        | refine Look.at7 ?_
                        | refine Look.at8 ?_
                        | with_reducible refine Val.i64 (by omega) (by omega) ?_
                        | with_reducible refine Val.u8 (by omega) (by omega) ?_
                        | with_reducible refine Val.u32 (by omega) (by omega) ?_
                        | with_reducible refine Val.u64 (by omega) (by omega) ?_
                        | with_reducible refine Val.u8m ?_
                        | with_reducible refine Val.u32m ?_
                        | with_reducible refine Val.u64m ?_
                        | with_reducible refine Val.shr8 ?_
                        | with_reducible refine Val.shr16 (by decide) ?_
                        | with_reducible refine Val.shr24 (by decide) ?_
                        | with_reducible refine Val.raw ?_
                        | refine Branch.not ?_
                        | refine Branch.and ?_
                        | refine Branch.or ?_
                        | refine Branch.dt (by assumption) ?_
                        | refine Branch.df (by assumption) ?_
                        | refine Branch.dt rfl ?_
                        | refine Branch.dt (by omega) ?_
                        | refine Branch.df (by omega) ?_
                        | refine Branch.t rfl ?_
                        | refine Branch.f rfl ?_
                        | refine Branch.t (by assumption) ?_
                        | refine Branch.f (by assumption) ?_
                        | refine Branch.d (fun _ => ?_) (fun _ => ?_)
                        | refine Branch.mk (fun _ => ?_) (fun _ => ?_)
                        | refine Need.mk (by first | omega | decide | rfl) ?_
                        | refine Idx.nat (by omega) ?_
                        | refine Idx.auto (by first | omega | decide) (by first | omega | decide) ?_
                        | refine Cell.ro rfl ?_
                        | refine SDraw.all (by kernel_rfl) ?_
                        | refine Kept.k0 ?_
                        | refine Kept.k1 ?_
                        | refine Kept.k2 ?_
                        | refine Kept.k3 ?_
                        | refine Kept.k4 ?_))
                    have hrows : ∀ (a b' : Nat × Blk), ∀ h ∈ hs ++ [((rn, cn, nowM M) : HR)], (h.1, Blk.buf 35 (h.2.2.map cU) (h.2.1 * 1)) ∈ a :: (rn, Blk.buf 35 ((nowM M).map cU) (cn * 1)) :: b' :: HB := fun a b' h hh => by
                      rcases List.mem_append.1 hh with hh | hh
                      · exact .tail _ (.tail _ (.tail _ (hr h hh)))
                      · obtain rfl := List.mem_singleton.1 hh; exact .tail _ (.head _)
                    have hll : (hs ++ [((rn, cn, nowM M) : HR)]).length = hs.length + 1 := by rw [List.length_append]; rfl
                    have hbuf : (hs ++ [((rn, cn, nowM M) : HR)]).flatMap cH = hs.flatMap cH ++ [.slice (some ⟨rn, 0, none⟩) L.length cn] := by rw [List.flatMap_append, ← hL2]; rfl
                    refine l4r (hs := hs ++ [((rn, cn, nowM M) : HR)]) (hM1.mono fun z hz => .tail _ (.tail _ (.tail _ (.tail _ (List.mem_append_right _ (List.mem_append_left _ hz)))))) (hin.mono fun z hz => .tail _ (.tail _ (.tail _ (.tail _ (List.mem_append_right _ (List.mem_append_right _ hz)))))) (by rw [hbuf]; exact .head _) (fun h hh => .tail _ (List.mem_append_left (_ ++ _) (hrows _ _ h hh))) hcy2 (by omega) _ (by rw [hll]; exact .mk) (fun S i hS => ?_)
                    rw [hll] at hS
                    cases hS
                    repeat' ((conv => whnf); (first
                        | refine New.mk (fun _ => ?_)
                        | refine Look.at0 ?_
                        | refine Cell.row ?_
                        | refine Cell.buf ?_
                        | refine Cells.row rfl ?_
                        | refine Put.row rfl ?_
                        | refine Put.buf rfl ?_
                        | refine Look.at1 ?_
                        | refine Look.at2 ?_
                        | refine Look.at3 ?_
                        | refine Look.at4 ?_
                        | refine Look.at5 ?_
                        | refine Look.at6 ?_
                        | refine Look.at7 ?_
                        | refine Look.at8 ?_
                        | with_reducible refine Val.i64 (by omega) (by omega) ?_
                        | with_reducible refine Val.u8 (by omega) (by omega) ?_
                        | with_reducible refine Val.u32 (by omega) (by omega) ?_
                        | with_reducible refine Val.u64 (by omega) (by omega) ?_
                        | with_reducible refine Val.u8m ?_
                        | with_reducible refine Val.u32m ?_
                        | with_reducible refine Val.u64m ?_
                        | with_reducible refine Val.shr8 ?_
                        | with_reducible refine Val.shr16 (by decide) ?_
                        | with_reducible refine Val.shr24 (by decide) ?_
                        | with_reducible refine Val.raw ?_
                        | refine Branch.not ?_
                        | refine Branch.and ?_
                        | refine Branch.or ?_
                        | refine Branch.dt (by assumption) ?_
                        | refine Branch.df (by assumption) ?_
                        | refine Branch.dt rfl ?_
                        | refine Branch.dt (by omega) ?_
                        | refine Branch.df (by omega) ?_
                        | refine Branch.t rfl ?_
                        | refine Branch.f rfl ?_
                        | refine Branch.t (by assumption) ?_
                        | refine Branch.f (by assumption) ?_
                        | refine Branch.d (fun _ => ?_) (fun _ => ?_)
                        | refine Branch.mk (fun _ => ?_) (fun _ => ?_)
                        | refine Need.mk (by first | omega | decide | rfl) ?_
                        | refine Idx.nat (by omega) ?_
                        | refine Idx.auto (by first | omega | decide) (by first | omega | decide) ?_
                        | refine Cell.ro rfl ?_
                        | refine SDraw.all (by kernel_rfl) ?_
                        | refine Kept.k0 ?_
                        | refine Kept.k1 ?_
                        | refine Kept.k2 ?_
                        | refine Kept.k3 ?_
                        | refine Kept.k4 ?_))
                    all_goals (conv => whnf)
                    exact hnext _ _ (hs ++ [((rn, cn, nowM M) : HR)]) rh2 ch2 (_ :: _ :: _ :: HB) H2 _ (by rw [hbuf]; exact List.Sublist.refl _) (by rw [hll]; exact .mk) hM1 hcy2 (hrows _ _) (by omega) (by omega) g2
                  · have hne := sync_ne h0
                    rw [hne] at hc16
                    generalize (M.sync ym).1 = es at hc16 h0
                    repeat' ((conv => whnf); (first
                        | refine RawV.copyS (L := ym) (f := cI) (k := 1) (bytes := 8) (hya.mono fun z hz => .tail _ (.tail _ (.tail _ (List.mem_append_right _ (List.mem_append_right _ hz))))) rfl (by kernel_rfl) (by decide) (fun _ => rfl) (fun y u hu => by obtain rfl := List.mem_singleton.1 hu; rfl) (by omega) (fun q2 c2 k3 k4 => ?_)
                        | refine SCalls.perm (SCalls.midH (_ :: _ :: _ :: HB) I (hc16 q2 c2 _ (fun H2 hM1 => ?_))) (List.perm_middle (l₁ := _ :: _ :: _ :: HB)).symm
                        | refine New.mk (fun _ => ?_)
                        | refine Look.at0 ?_
                        | refine Cell.row ?_
                        | refine Cell.buf ?_
                        | refine Cells.row rfl ?_
                        | refine Put.row rfl ?_
                        | refine Put.buf rfl ?_
                        | refine Look.at1 ?_
                        | refine Look.at2 ?_
                        | refine Look.at3 ?_
                        | refine Look.at4 ?_
                        | refine Look.at5 ?_
                        | refine Look.at6 ?_
                        | refine Look.at7 ?_
                        | refine Look.at8 ?_
                        | with_reducible refine Val.i64 (by omega) (by omega) ?_
                        | with_reducible refine Val.u8 (by omega) (by omega) ?_
                        | with_reducible refine Val.u32 (by omega) (by omega) ?_
                        | with_reducible refine Val.u64 (by omega) (by omega) ?_
                        | with_reducible refine Val.u8m ?_
                        | with_reducible refine Val.u32m ?_
                        | with_reducible refine Val.u64m ?_
                        | with_reducible refine Val.shr8 ?_
                        | with_reducible refine Val.shr16 (by decide) ?_
                        | with_reducible refine Val.shr24 (by decide) ?_
                        | with_reducible refine Val.raw ?_
                        | refine Branch.not ?_
                        | refine Branch.and ?_
                        | refine Branch.or ?_
                        | refine Branch.dt (by assumption) ?_
                        | refine Branch.df (by assumption) ?_
                        | refine Branch.dt rfl ?_
                        | refine Branch.dt (by omega) ?_
                        | refine Branch.df (by omega) ?_
                        | refine Branch.t rfl ?_
                        | refine Branch.f rfl ?_
                        | refine Branch.t (by assumption) ?_
                        | refine Branch.f (by assumption) ?_
                        | refine Branch.d (fun _ => ?_) (fun _ => ?_)
                        | refine Branch.mk (fun _ => ?_) (fun _ => ?_)
                        | refine Need.mk (by first | omega | decide | rfl) ?_
                        | refine Idx.nat (by omega) ?_
                        | refine Idx.auto (by first | omega | decide) (by first | omega | decide) ?_
                        | refine Cell.ro rfl ?_
                        | refine SDraw.all (by kernel_rfl) ?_
                        | refine Kept.k0 ?_
                        | refine Kept.k1 ?_
                        | refine Kept.k2 ?_
                        | refine Kept.k3 ?_
                        | refine Kept.k4 ?_))
                    refine l4r (hs := hs) (hM1.mono fun z hz => (.tail _ (.tail _ (.tail _ (List.mem_append_right _ (List.mem_append_left _ hz)))))) (hin.mono fun z hz => (.tail _ (.tail _ (.tail _ (List.mem_append_right _ (List.mem_append_right _ hz)))))) (.tail _ (.tail _ (.head _))) (fun h hh => .tail _ (.tail _ (.tail _ (List.mem_append_left _ (hr h hh))))) hC (by omega) _ .mk (fun S i hS => ?_)
                    cases hS
                    repeat' ((conv => whnf); (first
                        | refine New.mk (fun _ => ?_)
                        | refine Look.at0 ?_
                        | refine Cell.row ?_
                        | refine Cell.buf ?_
                        | refine Cells.row rfl ?_
                        | refine Put.row rfl ?_
                        | refine Put.buf rfl ?_
                        | refine Look.at1 ?_
                        | refine Look.at2 ?_
                        | refine Look.at3 ?_
                        | refine Look.at4 ?_
                        | refine Look.at5 ?_
                        | refine Look.at6 ?_
                        | refine Look.at7 ?_
                        | refine Look.at8 ?_
                        | with_reducible refine Val.i64 (by omega) (by omega) ?_
                        | with_reducible refine Val.u8 (by omega) (by omega) ?_
                        | with_reducible refine Val.u32 (by omega) (by omega) ?_
                        | with_reducible refine Val.u64 (by omega) (by omega) ?_
                        | with_reducible refine Val.u8m ?_
                        | with_reducible refine Val.u32m ?_
                        | with_reducible refine Val.u64m ?_
                        | with_reducible refine Val.shr8 ?_
                        | with_reducible refine Val.shr16 (by decide) ?_
                        | with_reducible refine Val.shr24 (by decide) ?_
                        | with_reducible refine Val.raw ?_
                        | refine Branch.not ?_
                        | refine Branch.and ?_
                        | refine Branch.or ?_
                        | refine Branch.dt (by assumption) ?_
                        | refine Branch.df (by assumption) ?_
                        | refine Branch.dt rfl ?_
                        | refine Branch.dt (by omega) ?_
                        | refine Branch.df (by omega) ?_
                        | refine Branch.t rfl ?_
                        | refine Branch.f rfl ?_
                        | refine Branch.t (by assumption) ?_
                        | refine Branch.f (by assumption) ?_
                        | refine Branch.d (fun _ => ?_) (fun _ => ?_)
                        | refine Branch.mk (fun _ => ?_) (fun _ => ?_)
                        | refine Need.mk (by first | omega | decide | rfl) ?_
                        | refine Idx.nat (by omega) ?_
                        | refine Idx.auto (by first | omega | decide) (by first | omega | decide) ?_
                        | refine Cell.ro rfl ?_
                        | refine SDraw.all (by kernel_rfl) ?_
                        | refine Kept.k0 ?_
                        | refine Kept.k1 ?_
                        | refine Kept.k2 ?_
                        | refine Kept.k3 ?_
                        | refine Kept.k4 ?_))
                    all_goals (conv => whnf)
                    exact hnext _ _ hs rh ch HB H2 _ (List.Sublist.cons _ (List.Sublist.cons _ (List.Sublist.refl _))) .mk hM1 hC hr (by omega) hch1 hch2
              · by_cases k0 : yk = 0
                · subst k0
                  repeat' ((conv => whnf); (first
                      | refine Look.cells hmH rfl hc ?_
                      | refine SCalls.midH (_ :: _ :: HB) I (c17 hM yn yv yx (fun H2 hM1 => ?_))
                      | refine New.mk (fun _ => ?_)
                      | refine Look.at0 ?_
                      | refine Cell.row ?_
                      | refine Cell.buf ?_
                      | refine Cells.row rfl ?_
                      | refine Put.row rfl ?_
                      | refine Put.buf rfl ?_
                      | refine Look.at1 ?_
                      | refine Look.at2 ?_
                      | refine Look.at3 ?_
                      | refine Look.at4 ?_
                      | refine Look.at5 ?_
                      | refine Look.at6 ?_
                      | refine Look.at7 ?_
                      | refine Look.at8 ?_
                      | with_reducible refine Val.i64 (by omega) (by omega) ?_
                      | with_reducible refine Val.u8 (by omega) (by omega) ?_
                      | with_reducible refine Val.u32 (by omega) (by omega) ?_
                      | with_reducible refine Val.u64 (by omega) (by omega) ?_
                      | with_reducible refine Val.u8m ?_
                      | with_reducible refine Val.u32m ?_
                      | with_reducible refine Val.u64m ?_
                      | with_reducible refine Val.shr8 ?_
                      | with_reducible refine Val.shr16 (by decide) ?_
                      | with_reducible refine Val.shr24 (by decide) ?_
                      | with_reducible refine Val.raw ?_
                      | refine Branch.not ?_
                      | refine Branch.and ?_
                      | refine Branch.or ?_
                      | refine Branch.dt (by assumption) ?_
                      | refine Branch.df (by assumption) ?_
                      | refine Branch.dt rfl ?_
                      | refine Branch.dt (by omega) ?_
                      | refine Branch.df (by omega) ?_
                      | refine Branch.t rfl ?_
                      | refine Branch.f rfl ?_
                      | refine Branch.t (by assumption) ?_
                      | refine Branch.f (by assumption) ?_
                      | refine Branch.d (fun _ => ?_) (fun _ => ?_)
                      | refine Branch.mk (fun _ => ?_) (fun _ => ?_)
                      | refine Need.mk (by first | omega | decide | rfl) ?_
                      | refine Idx.nat (by omega) ?_
                      | refine Idx.auto (by first | omega | decide) (by first | omega | decide) ?_
                      | refine Cell.ro rfl ?_
                      | refine SDraw.all (by kernel_rfl) ?_
                      | refine Kept.k0 ?_
                      | refine Kept.k1 ?_
                      | refine Kept.k2 ?_
                      | refine Kept.k3 ?_
                      | refine Kept.k4 ?_))
                  refine l4r (hs := hs) (hM1.mono fun z hz => .tail _ (.tail _ (List.mem_append_right _ (List.mem_append_left _ hz)))) (hin.mono fun z hz => .tail _ (.tail _ (List.mem_append_right _ (List.mem_append_right _ hz)))) (.tail _ (.head _)) (fun h hh => .tail _ (.tail _ (List.mem_append_left _ (hr h hh)))) (cy_write hC yn yv yx) (by omega) _ .mk (fun S i hS => ?_)
                  cases hS
                  repeat' ((conv => whnf); (first
                      | refine New.mk (fun _ => ?_)
                      | refine Look.at0 ?_
                      | refine Cell.row ?_
                      | refine Cell.buf ?_
                      | refine Cells.row rfl ?_
                      | refine Put.row rfl ?_
                      | refine Put.buf rfl ?_
                      | refine Look.at1 ?_
                      | refine Look.at2 ?_
                      | refine Look.at3 ?_
                      | refine Look.at4 ?_
                      | refine Look.at5 ?_
                      | refine Look.at6 ?_
                      | refine Look.at7 ?_
                      | refine Look.at8 ?_
                      | with_reducible refine Val.i64 (by omega) (by omega) ?_
                      | with_reducible refine Val.u8 (by omega) (by omega) ?_
                      | with_reducible refine Val.u32 (by omega) (by omega) ?_
                      | with_reducible refine Val.u64 (by omega) (by omega) ?_
                      | with_reducible refine Val.u8m ?_
                      | with_reducible refine Val.u32m ?_
                      | with_reducible refine Val.u64m ?_
                      | with_reducible refine Val.shr8 ?_
                      | with_reducible refine Val.shr16 (by decide) ?_
                      | with_reducible refine Val.shr24 (by decide) ?_
                      | with_reducible refine Val.raw ?_
                      | refine Branch.not ?_
                      | refine Branch.and ?_
                      | refine Branch.or ?_
                      | refine Branch.dt (by assumption) ?_
                      | refine Branch.df (by assumption) ?_
                      | refine Branch.dt rfl ?_
                      | refine Branch.dt (by omega) ?_
                      | refine Branch.df (by omega) ?_
                      | refine Branch.t rfl ?_
                      | refine Branch.f rfl ?_
                      | refine Branch.t (by assumption) ?_
                      | refine Branch.f (by assumption) ?_
                      | refine Branch.d (fun _ => ?_) (fun _ => ?_)
                      | refine Branch.mk (fun _ => ?_) (fun _ => ?_)
                      | refine Need.mk (by first | omega | decide | rfl) ?_
                      | refine Idx.nat (by omega) ?_
                      | refine Idx.auto (by first | omega | decide) (by first | omega | decide) ?_
                      | refine Cell.ro rfl ?_
                      | refine SDraw.all (by kernel_rfl) ?_
                      | refine Kept.k0 ?_
                      | refine Kept.k1 ?_
                      | refine Kept.k2 ?_
                      | refine Kept.k3 ?_
                      | refine Kept.k4 ?_))
                  all_goals (conv => whnf)
                  exact hnext _ _ hs rh ch HB H2 _ (List.sublist_cons_self _ _) .mk hM1 (cy_write hC yn yv yx) hr (by omega) hch1 hch2
                · have k2 : ¬ yk = 2 := by omega
                  repeat' ((conv => whnf); (first
                      | refine Look.cells hmH rfl hc ?_
                      | refine SCalls.midH (_ :: _ :: HB) I (c13 hM yn (fun H2 hM1 => ?_))
                      | refine New.mk (fun _ => ?_)
                      | refine Look.at0 ?_
                      | refine Cell.row ?_
                      | refine Cell.buf ?_
                      | refine Cells.row rfl ?_
                      | refine Put.row rfl ?_
                      | refine Put.buf rfl ?_
                      | refine Look.at1 ?_
                      | refine Look.at2 ?_
                      | refine Look.at3 ?_
                      | refine Look.at4 ?_
                      | refine Look.at5 ?_
                      | refine Look.at6 ?_
                      | refine Look.at7 ?_
                      | refine Look.at8 ?_
                      | with_reducible refine Val.i64 (by omega) (by omega) ?_
                      | with_reducible refine Val.u8 (by omega) (by omega) ?_
                      | with_reducible refine Val.u32 (by omega) (by omega) ?_
                      | with_reducible refine Val.u64 (by omega) (by omega) ?_
                      | with_reducible refine Val.u8m ?_
                      | with_reducible refine Val.u32m ?_
                      | with_reducible refine Val.u64m ?_
                      | with_reducible refine Val.shr8 ?_
                      | with_reducible refine Val.shr16 (by decide) ?_
                      | with_reducible refine Val.shr24 (by decide) ?_
                      | with_reducible refine Val.raw ?_
                      | refine Branch.not ?_
                      | refine Branch.and ?_
                      | refine Branch.or ?_
                      | refine Branch.dt (by assumption) ?_
                      | refine Branch.df (by assumption) ?_
                      | refine Branch.dt rfl ?_
                      | refine Branch.dt (by omega) ?_
                      | refine Branch.df (by omega) ?_
                      | refine Branch.t rfl ?_
                      | refine Branch.f rfl ?_
                      | refine Branch.t (by assumption) ?_
                      | refine Branch.f (by assumption) ?_
                      | refine Branch.d (fun _ => ?_) (fun _ => ?_)
                      | refine Branch.mk (fun _ => ?_) (fun _ => ?_)
                      | refine Need.mk (by first | omega | decide | rfl) ?_
                      | refine Idx.nat (by omega) ?_
                      | refine Idx.auto (by first | omega | decide) (by first | omega | decide) ?_
                      | refine Cell.ro rfl ?_
                      | refine SDraw.all (by kernel_rfl) ?_
                      | refine Kept.k0 ?_
                      | refine Kept.k1 ?_
                      | refine Kept.k2 ?_
                      | refine Kept.k3 ?_
                      | refine Kept.k4 ?_))
                  refine l4r (hs := hs) (hM1.mono fun z hz => .tail _ (.tail _ (List.mem_append_right _ (List.mem_append_left _ hz)))) (hin.mono fun z hz => .tail _ (.tail _ (List.mem_append_right _ (List.mem_append_right _ hz)))) (.tail _ (.head _)) (fun h hh => .tail _ (.tail _ (List.mem_append_left _ (hr h hh)))) (cy_back hC yn) (by omega) _ .mk (fun S i hS => ?_)
                  cases hS
                  repeat' ((conv => whnf); (first
                      | refine New.mk (fun _ => ?_)
                      | refine Look.at0 ?_
                      | refine Cell.row ?_
                      | refine Cell.buf ?_
                      | refine Cells.row rfl ?_
                      | refine Put.row rfl ?_
                      | refine Put.buf rfl ?_
                      | refine Look.at1 ?_
                      | refine Look.at2 ?_
                      | refine Look.at3 ?_
                      | refine Look.at4 ?_
                      | refine Look.at5 ?_
                      | refine Look.at6 ?_
                      | refine Look.at7 ?_
                      | refine Look.at8 ?_
                      | with_reducible refine Val.i64 (by omega) (by omega) ?_
                      | with_reducible refine Val.u8 (by omega) (by omega) ?_
                      | with_reducible refine Val.u32 (by omega) (by omega) ?_
                      | with_reducible refine Val.u64 (by omega) (by omega) ?_
                      | with_reducible refine Val.u8m ?_
                      | with_reducible refine Val.u32m ?_
                      | with_reducible refine Val.u64m ?_
                      | with_reducible refine Val.shr8 ?_
                      | with_reducible refine Val.shr16 (by decide) ?_
                      | with_reducible refine Val.shr24 (by decide) ?_
                      | with_reducible refine Val.raw ?_
                      | refine Branch.not ?_
                      | refine Branch.and ?_
                      | refine Branch.or ?_
                      | refine Branch.dt (by assumption) ?_
                      | refine Branch.df (by assumption) ?_
                      | refine Branch.dt rfl ?_
                      | refine Branch.dt (by omega) ?_
                      | refine Branch.df (by omega) ?_
                      | refine Branch.t rfl ?_
                      | refine Branch.f rfl ?_
                      | refine Branch.t (by assumption) ?_
                      | refine Branch.f (by assumption) ?_
                      | refine Branch.d (fun _ => ?_) (fun _ => ?_)
                      | refine Branch.mk (fun _ => ?_) (fun _ => ?_)
                      | refine Need.mk (by first | omega | decide | rfl) ?_
                      | refine Idx.nat (by omega) ?_
                      | refine Idx.auto (by first | omega | decide) (by first | omega | decide) ?_
                      | refine Cell.ro rfl ?_
                      | refine SDraw.all (by kernel_rfl) ?_
                      | refine Kept.k0 ?_
                      | refine Kept.k1 ?_
                      | refine Kept.k2 ?_
                      | refine Kept.k3 ?_
                      | refine Kept.k4 ?_))
                  all_goals (conv => whnf)
                  exact hnext _ _ hs rh ch HB H2 _ (List.sublist_cons_self _ _) .mk hM1 (cy_back hC yn) hr (by omega) hch1 hch2
        | false =>
          have hx : false = true → ym = [] := fun e => by cases e
          by_cases k1 : yk = 1
          · subst k1
            have hL2 : (nowM M).length = L.length := by
              unfold nowM
              rw [List.length_map]
              have := congrArg List.length hC.keys
              simpa using this
            have hvl : M.vs.length = L.length := by rw [← hL2]; unfold nowM; rw [List.length_map]
            have hfl := flat_len (f := cH) (k := 1) (fun _ => rfl) hs
            repeat' ((conv => whnf); (first
                | refine Look.cells hmH rfl hc ?_
                | refine New.mk (fun _ => ?_)
                | refine Look.at0 ?_
                | refine Cell.row ?_
                | refine Cell.buf ?_
                | refine Cells.row rfl ?_
                | refine Put.row rfl ?_
                | refine Put.buf rfl ?_
                | refine Look.at1 ?_
                | refine Look.at2 ?_
                | refine Look.at3 ?_
                | refine Look.at4 ?_
                | refine Look.at5 ?_
                | refine Look.at6 ?_
                | refine Look.at7 ?_
                | refine Look.at8 ?_
                | with_reducible refine Val.i64 (by omega) (by omega) ?_
                | with_reducible refine Val.u8 (by omega) (by omega) ?_
                | with_reducible refine Val.u32 (by omega) (by omega) ?_
                | with_reducible refine Val.u64 (by omega) (by omega) ?_
                | with_reducible refine Val.u8m ?_
                | with_reducible refine Val.u32m ?_
                | with_reducible refine Val.u64m ?_
                | with_reducible refine Val.shr8 ?_
                | with_reducible refine Val.shr16 (by decide) ?_
                | with_reducible refine Val.shr24 (by decide) ?_
                | with_reducible refine Val.raw ?_
                | refine Branch.not ?_
                | refine Branch.and ?_
                | refine Branch.or ?_
                | refine Branch.dt (by assumption) ?_
                | refine Branch.df (by assumption) ?_
                | refine Branch.dt rfl ?_
                | refine Branch.dt (by omega) ?_
                | refine Branch.df (by omega) ?_
                | refine Branch.t rfl ?_
                | refine Branch.f rfl ?_
                | refine Branch.t (by assumption) ?_
                | refine Branch.f (by assumption) ?_
                | refine Branch.d (fun _ => ?_) (fun _ => ?_)
                | refine Branch.mk (fun _ => ?_) (fun _ => ?_)
                | refine Need.mk (by first | omega | decide | rfl) ?_
                | refine Idx.nat (by omega) ?_
                | refine Idx.auto (by first | omega | decide) (by first | omega | decide) ?_
                | refine Cell.ro rfl ?_
                | refine SDraw.all (by kernel_rfl) ?_
                | refine Kept.k0 ?_
                | refine Kept.k1 ?_
                | refine Kept.k2 ?_
                | refine Kept.k3 ?_
                | refine Kept.k4 ?_))
            rename_i pn
            refine SLoop.toBuf (A := []) ?_
            refine SLoop.invA (I4n _ _ _ _ _ _ _ M L.length _) (fun x => L.length - x.j) ⟨0, pn, 0⟩ (Keep.all ⟨Nat.zero_le _, .mk, Nat.le_refl 0, Nat.zero_le _, rfl⟩) ?_
            rintro ⟨k, rn, cn⟩ S H' ⟨hk, hS, hkc, hcm, rfl⟩ R2 hR2
            dsimp only at hk hS hkc hcm hR2 ⊢
            cases hS
            by_cases hlt2 : k < L.length
            · obtain ⟨v, hv, _, htv⟩ := list_at (L := nowM M) (j := k) (by omega)
              have hov : M.own (k : Int) = v := by
                unfold nowM at hv
                rw [List.getElem?_map] at hv
                unfold Mc.own
                rw [if_pos (by omega), Int.toNat_natCast, hv]; rfl
              have hc15 : ∀ (H2 : Heap) (_ : Mach gm ids M H2) (K : Value → Heap → Prop), K (.int .u64 v) H2 → SCalls Try.prog 15 [ptr gm, .int .i64 (k : Int)] H2 K := fun H2 hM2 K hk => c15 hM2 _ (by rw [hov]; exact hk)
              have hlenk : (((nowM M).take k).map cU).length = k * 1 := by rw [List.length_map, List.length_take]; omega
              clear hnext
              repeat' ((conv => whnf); (first
                  | refine hc15 _ (hM.mono fun z hz => (.tail _ (.tail _ (.tail _ (List.mem_append_right _ (List.mem_append_left _ hz)))))) _ ?_
                  | refine RawV.appT (A := [_]) (e := 35) (size := 1) (bytes := 8) (m := 1) (news := [.int .u64 v]) rfl (by kernel_rfl) (by decide) hlenk rfl hkc hcm (.head _) rfl (fun j v hj => by rw [Nat.zero_add]; exact hj) (by intro u hu; obtain rfl := List.mem_singleton.1 hu; rfl) (by unfold maxLen; omega) (by omega) (fun r' c' g1 g2 => ?_)
                  | refine New.mk (fun _ => ?_)
                  | refine Look.at0 ?_
                  | refine Cell.row ?_
                  | refine Cell.buf ?_
                  | refine Cells.row rfl ?_
                  | refine Put.row rfl ?_
                  | refine Put.buf rfl ?_
                  | refine Look.at1 ?_
                  | refine Look.at2 ?_
                  | refine Look.at3 ?_
                  | refine Look.at4 ?_
                  | refine Look.at5 ?_
                  | refine Look.at6 ?_
                  | refine Look.at7 ?_
                  | refine Look.at8 ?_
                  | with_reducible refine Val.i64 (by omega) (by omega) ?_
                  | with_reducible refine Val.u8 (by omega) (by omega) ?_
                  | with_reducible refine Val.u32 (by omega) (by omega) ?_
                  | with_reducible refine Val.u64 (by omega) (by omega) ?_
                  | with_reducible refine Val.u8m ?_
                  | with_reducible refine Val.u32m ?_
                  | with_reducible refine Val.u64m ?_
                  | with_reducible refine Val.shr8 ?_
                  | with_reducible refine Val.shr16 (by decide) ?_
                  | with_reducible refine Val.shr24 (by decide) ?_
                  | with_reducible refine Val.raw ?_
                  | refine Branch.not ?_
                  | refine Branch.and ?_
                  | refine Branch.or ?_
                  | refine Branch.dt (by assumption) ?_
                  | refine Branch.df (by assumption) ?_
                  | refine Branch.dt rfl ?_
                  | refine Branch.dt (by omega) ?_
                  | refine Branch.df (by omega) ?_
                  | refine Branch.t rfl ?_
                  | refine Branch.f rfl ?_
                  | refine Branch.t (by assumption) ?_
                  | refine Branch.f (by assumption) ?_
                  | refine Branch.d (fun _ => ?_) (fun _ => ?_)
                  | refine Branch.mk (fun _ => ?_) (fun _ => ?_)
                  | refine Need.mk (by first | omega | decide | rfl) ?_
                  | refine Idx.nat (by omega) ?_
                  | refine Idx.auto (by first | omega | decide) (by first | omega | decide) ?_
                  | refine Cell.ro rfl ?_
                  | refine SDraw.all (by kernel_rfl) ?_
                  | refine Kept.k0 ?_
                  | refine Kept.k1 ?_
                  | refine Kept.k2 ?_
                  | refine Kept.k3 ?_
                  | refine Kept.k4 ?_))
              all_goals (conv => whnf)
              exact hR2 ⟨k + 1, r', c'⟩ _ _ (by show L.length - (k + 1) < L.length - k; omega) (Keep.sub _ (List.Sublist.cons_cons _ (List.Sublist.cons _ (List.Sublist.refl _))) ⟨by show k + 1 ≤ L.length; omega, .mk, g1, g2, by show _ = (r', Blk.buf 35 (((nowM M).take (k + 1)).map cU) (c' * 1)) :: _; rw [htv, List.map_append]; rfl⟩)
            · have e : k = L.length := by omega
              subst e
              rw [List.take_of_length_le (by omega)]
              clear hR2
              have hyl2 : ym.length ≤ maxLen := by obtain ⟨_, _, _, hl⟩ := hya.sv; exact hl
              have hc16 : ∀ (q c : Nat) (K : Value → Heap → Prop), (∀ H', Mach gm ids (M.sync ym).2 H' → K (.int .i64 (M.sync ym).1) H') → SCalls Try.prog 16 [ptr gm, .slice (some ⟨q, 0, none⟩) ym.length c] ((q, Blk.buf 3 (ym.flatMap cI) (c * 1)) :: Hm) K := fun q c K hk =>
                c16 (hM.mono fun z hz => .tail _ hz) (xs := ym) ⟨_, _, rfl, hyl2, .inr ⟨q, _, rfl, .head _⟩⟩ hk
              by_cases h0 : (M.sync ym).1 = 0
              · have hcy := cy_sync hC hx h0 (by rw [List.length_map]; omega)
                rw [h0] at hc16
                generalize (M.sync ym).2 = M2 at hc16 hcy
                have hmap : (hs.map fun h => h.2.2) ++ [nowM M] = (hs ++ [((rn, cn, nowM M) : HR)]).map fun h => h.2.2 := by rw [List.map_append]; rfl
                have hcy2 := hcy
                rw [hmap] at hcy2
                repeat' ((conv => whnf); (first
                    | refine RawV.copyS (L := ym) (f := cI) (k := 1) (bytes := 8) (hya.mono fun z hz => .tail _ (.tail _ (.tail _ (List.mem_append_right _ (List.mem_append_right _ hz))))) rfl (by kernel_rfl) (by decide) (fun _ => rfl) (fun y u hu => by obtain rfl := List.mem_singleton.1 hu; rfl) (by omega) (fun q2 c2 k3 k4 => ?_)
                    | refine SCalls.perm (SCalls.midH (_ :: _ :: _ :: HB) I (hc16 q2 c2 _ (fun H2 hM1 => ?_))) (List.perm_middle (l₁ := _ :: _ :: _ :: HB)).symm
                    | refine RawV.appT (A := [_, _, _]) (e := 47) (size := 1) (bytes := 24) (m := 1) (news := [.slice (some ⟨rn, 0, none⟩) L.length cn]) rfl (by kernel_rfl) (by decide) hfl rfl hch1 hch2 (.head _) rfl (fun j v hj => by rw [Nat.zero_add]; exact hj) (by intro u hu; obtain rfl := List.mem_singleton.1 hu; rfl) (by unfold maxLen; omega) (by omega) (fun rh2 ch2 g1 g2 => ?_)
                    | refine New.mk (fun _ => ?_)
                    | refine Look.at0 ?_
                    | refine Cell.row ?_
                    | refine Cell.buf ?_
                    | refine Cells.row rfl ?_
                    | refine Put.row rfl ?_
                    | refine Put.buf rfl ?_
                    | refine Look.at1 ?_
                    | refine Look.at2 ?_
                    | refine Look.at3 ?_
                    | refine Look.at4 ?_
                    | refine Look.at5 ?_
                    | refine Look.at6 ?_
                    | refine Look.at7 ?_
                    | refine Look.at8 ?_
                    | with_reducible refine Val.i64 (by omega) (by omega) ?_
                    | with_reducible refine Val.u8 (by omega) (by omega) ?_
                    | with_reducible refine Val.u32 (by omega) (by omega) ?_
                    | with_reducible refine Val.u64 (by omega) (by omega) ?_
                    | with_reducible refine Val.u8m ?_
                    | with_reducible refine Val.u32m ?_
                    | with_reducible refine Val.u64m ?_
                    | with_reducible refine Val.shr8 ?_
                    | with_reducible refine Val.shr16 (by decide) ?_
                    | with_reducible refine Val.shr24 (by decide) ?_
                    | with_reducible refine Val.raw ?_
                    | refine Branch.not ?_
                    | refine Branch.and ?_
                    | refine Branch.or ?_
                    | refine Branch.dt (by assumption) ?_
                    | refine Branch.df (by assumption) ?_
                    | refine Branch.dt rfl ?_
                    | refine Branch.dt (by omega) ?_
                    | refine Branch.df (by omega) ?_
                    | refine Branch.t rfl ?_
                    | refine Branch.f rfl ?_
                    | refine Branch.t (by assumption) ?_
                    | refine Branch.f (by assumption) ?_
                    | refine Branch.d (fun _ => ?_) (fun _ => ?_)
                    | refine Branch.mk (fun _ => ?_) (fun _ => ?_)
                    | refine Need.mk (by first | omega | decide | rfl) ?_
                    | refine Idx.nat (by omega) ?_
                    | refine Idx.auto (by first | omega | decide) (by first | omega | decide) ?_
                    | refine Cell.ro rfl ?_
                    | refine SDraw.all (by kernel_rfl) ?_
                    | refine Kept.k0 ?_
                    | refine Kept.k1 ?_
                    | refine Kept.k2 ?_
                    | refine Kept.k3 ?_
                    | refine Kept.k4 ?_))
                have hrows : ∀ (a b' : Nat × Blk), ∀ h ∈ hs ++ [((rn, cn, nowM M) : HR)], (h.1, Blk.buf 35 (h.2.2.map cU) (h.2.1 * 1)) ∈ a :: (rn, Blk.buf 35 ((nowM M).map cU) (cn * 1)) :: b' :: HB := fun a b' h hh => by
                  rcases List.mem_append.1 hh with hh | hh
                  · exact .tail _ (.tail _ (.tail _ (hr h hh)))
                  · obtain rfl := List.mem_singleton.1 hh; exact .tail _ (.head _)
                have hll : (hs ++ [((rn, cn, nowM M) : HR)]).length = hs.length + 1 := by rw [List.length_append]; rfl
                have hbuf : (hs ++ [((rn, cn, nowM M) : HR)]).flatMap cH = hs.flatMap cH ++ [.slice (some ⟨rn, 0, none⟩) L.length cn] := by rw [List.flatMap_append, ← hL2]; rfl
                refine l4r (hs := hs ++ [((rn, cn, nowM M) : HR)]) (hM1.mono fun z hz => .tail _ (.tail _ (.tail _ (.tail _ (List.mem_append_right _ (List.mem_append_left _ hz)))))) (hin.mono fun z hz => .tail _ (.tail _ (.tail _ (.tail _ (List.mem_append_right _ (List.mem_append_right _ hz)))))) (by rw [hbuf]; exact .head _) (fun h hh => .tail _ (List.mem_append_left (_ ++ _) (hrows _ _ h hh))) hcy2 (by omega) _ (by rw [hll]; exact .mk) (fun S i hS => ?_)
                rw [hll] at hS
                cases hS
                repeat' ((conv => whnf); (first
                    | refine New.mk (fun _ => ?_)
                    | refine Look.at0 ?_
                    | refine Cell.row ?_
                    | refine Cell.buf ?_
                    | refine Cells.row rfl ?_
                    | refine Put.row rfl ?_
                    | refine Put.buf rfl ?_
                    | refine Look.at1 ?_
                    | refine Look.at2 ?_
                    | refine Look.at3 ?_
                    | refine Look.at4 ?_
                    | refine Look.at5 ?_
                    | refine Look.at6 ?_
                    | refine Look.at7 ?_
                    | refine Look.at8 ?_
                    | with_reducible refine Val.i64 (by omega) (by omega) ?_
                    | with_reducible refine Val.u8 (by omega) (by omega) ?_
                    | with_reducible refine Val.u32 (by omega) (by omega) ?_
                    | with_reducible refine Val.u64 (by omega) (by omega) ?_
                    | with_reducible refine Val.u8m ?_
                    | with_reducible refine Val.u32m ?_
                    | with_reducible refine Val.u64m ?_
                    | with_reducible refine Val.shr8 ?_
                    | with_reducible refine Val.shr16 (by decide) ?_
                    | with_reducible refine Val.shr24 (by decide) ?_
                    | with_reducible refine Val.raw ?_
                    | refine Branch.not ?_
                    | refine Branch.and ?_
                    | refine Branch.or ?_
                    | refine Branch.dt (by assumption) ?_
                    | refine Branch.df (by assumption) ?_
                    | refine Branch.dt rfl ?_
                    | refine Branch.dt (by omega) ?_
                    | refine Branch.df (by omega) ?_
                    | refine Branch.t rfl ?_
                    | refine Branch.f rfl ?_
                    | refine Branch.t (by assumption) ?_
                    | refine Branch.f (by assumption) ?_
                    | refine Branch.d (fun _ => ?_) (fun _ => ?_)
                    | refine Branch.mk (fun _ => ?_) (fun _ => ?_)
                    | refine Need.mk (by first | omega | decide | rfl) ?_
                    | refine Idx.nat (by omega) ?_
                    | refine Idx.auto (by first | omega | decide) (by first | omega | decide) ?_
                    | refine Cell.ro rfl ?_
                    | refine SDraw.all (by kernel_rfl) ?_
                    | refine Kept.k0 ?_
                    | refine Kept.k1 ?_
                    | refine Kept.k2 ?_
                    | refine Kept.k3 ?_
                    | refine Kept.k4 ?_))
                all_goals (conv => whnf)
                exact hnext _ _ (hs ++ [((rn, cn, nowM M) : HR)]) rh2 ch2 (_ :: _ :: _ :: HB) H2 _ (by rw [hbuf]; exact List.Sublist.refl _) (by rw [hll]; exact .mk) hM1 hcy2 (hrows _ _) (by omega) (by omega) g2
              · have hne := sync_ne h0
                rw [hne] at hc16
                generalize (M.sync ym).1 = es at hc16 h0
                repeat' ((conv => whnf); (first
                    | refine RawV.copyS (L := ym) (f := cI) (k := 1) (bytes := 8) (hya.mono fun z hz => .tail _ (.tail _ (.tail _ (List.mem_append_right _ (List.mem_append_right _ hz))))) rfl (by kernel_rfl) (by decide) (fun _ => rfl) (fun y u hu => by obtain rfl := List.mem_singleton.1 hu; rfl) (by omega) (fun q2 c2 k3 k4 => ?_)
                    | refine SCalls.perm (SCalls.midH (_ :: _ :: _ :: HB) I (hc16 q2 c2 _ (fun H2 hM1 => ?_))) (List.perm_middle (l₁ := _ :: _ :: _ :: HB)).symm
                    | refine New.mk (fun _ => ?_)
                    | refine Look.at0 ?_
                    | refine Cell.row ?_
                    | refine Cell.buf ?_
                    | refine Cells.row rfl ?_
                    | refine Put.row rfl ?_
                    | refine Put.buf rfl ?_
                    | refine Look.at1 ?_
                    | refine Look.at2 ?_
                    | refine Look.at3 ?_
                    | refine Look.at4 ?_
                    | refine Look.at5 ?_
                    | refine Look.at6 ?_
                    | refine Look.at7 ?_
                    | refine Look.at8 ?_
                    | with_reducible refine Val.i64 (by omega) (by omega) ?_
                    | with_reducible refine Val.u8 (by omega) (by omega) ?_
                    | with_reducible refine Val.u32 (by omega) (by omega) ?_
                    | with_reducible refine Val.u64 (by omega) (by omega) ?_
                    | with_reducible refine Val.u8m ?_
                    | with_reducible refine Val.u32m ?_
                    | with_reducible refine Val.u64m ?_
                    | with_reducible refine Val.shr8 ?_
                    | with_reducible refine Val.shr16 (by decide) ?_
                    | with_reducible refine Val.shr24 (by decide) ?_
                    | with_reducible refine Val.raw ?_
                    | refine Branch.not ?_
                    | refine Branch.and ?_
                    | refine Branch.or ?_
                    | refine Branch.dt (by assumption) ?_
                    | refine Branch.df (by assumption) ?_
                    | refine Branch.dt rfl ?_
                    | refine Branch.dt (by omega) ?_
                    | refine Branch.df (by omega) ?_
                    | refine Branch.t rfl ?_
                    | refine Branch.f rfl ?_
                    | refine Branch.t (by assumption) ?_
                    | refine Branch.f (by assumption) ?_
                    | refine Branch.d (fun _ => ?_) (fun _ => ?_)
                    | refine Branch.mk (fun _ => ?_) (fun _ => ?_)
                    | refine Need.mk (by first | omega | decide | rfl) ?_
                    | refine Idx.nat (by omega) ?_
                    | refine Idx.auto (by first | omega | decide) (by first | omega | decide) ?_
                    | refine Cell.ro rfl ?_
                    | refine SDraw.all (by kernel_rfl) ?_
                    | refine Kept.k0 ?_
                    | refine Kept.k1 ?_
                    | refine Kept.k2 ?_
                    | refine Kept.k3 ?_
                    | refine Kept.k4 ?_))
                refine l4r (hs := hs) (hM1.mono fun z hz => (.tail _ (.tail _ (.tail _ (List.mem_append_right _ (List.mem_append_left _ hz)))))) (hin.mono fun z hz => (.tail _ (.tail _ (.tail _ (List.mem_append_right _ (List.mem_append_right _ hz)))))) (.tail _ (.tail _ (.head _))) (fun h hh => .tail _ (.tail _ (.tail _ (List.mem_append_left _ (hr h hh))))) hC (by omega) _ .mk (fun S i hS => ?_)
                cases hS
                repeat' ((conv => whnf); (first
                    | refine New.mk (fun _ => ?_)
                    | refine Look.at0 ?_
                    | refine Cell.row ?_
                    | refine Cell.buf ?_
                    | refine Cells.row rfl ?_
                    | refine Put.row rfl ?_
                    | refine Put.buf rfl ?_
                    | refine Look.at1 ?_
                    | refine Look.at2 ?_
                    | refine Look.at3 ?_
                    | refine Look.at4 ?_
                    | refine Look.at5 ?_
                    | refine Look.at6 ?_
                    | refine Look.at7 ?_
                    | refine Look.at8 ?_
                    | with_reducible refine Val.i64 (by omega) (by omega) ?_
                    | with_reducible refine Val.u8 (by omega) (by omega) ?_
                    | with_reducible refine Val.u32 (by omega) (by omega) ?_
                    | with_reducible refine Val.u64 (by omega) (by omega) ?_
                    | with_reducible refine Val.u8m ?_
                    | with_reducible refine Val.u32m ?_
                    | with_reducible refine Val.u64m ?_
                    | with_reducible refine Val.shr8 ?_
                    | with_reducible refine Val.shr16 (by decide) ?_
                    | with_reducible refine Val.shr24 (by decide) ?_
                    | with_reducible refine Val.raw ?_
                    | refine Branch.not ?_
                    | refine Branch.and ?_
                    | refine Branch.or ?_
                    | refine Branch.dt (by assumption) ?_
                    | refine Branch.df (by assumption) ?_
                    | refine Branch.dt rfl ?_
                    | refine Branch.dt (by omega) ?_
                    | refine Branch.df (by omega) ?_
                    | refine Branch.t rfl ?_
                    | refine Branch.f rfl ?_
                    | refine Branch.t (by assumption) ?_
                    | refine Branch.f (by assumption) ?_
                    | refine Branch.d (fun _ => ?_) (fun _ => ?_)
                    | refine Branch.mk (fun _ => ?_) (fun _ => ?_)
                    | refine Need.mk (by first | omega | decide | rfl) ?_
                    | refine Idx.nat (by omega) ?_
                    | refine Idx.auto (by first | omega | decide) (by first | omega | decide) ?_
                    | refine Cell.ro rfl ?_
                    | refine SDraw.all (by kernel_rfl) ?_
                    | refine Kept.k0 ?_
                    | refine Kept.k1 ?_
                    | refine Kept.k2 ?_
                    | refine Kept.k3 ?_
                    | refine Kept.k4 ?_))
                all_goals (conv => whnf)
                exact hnext _ _ hs rh ch HB H2 _ (List.Sublist.cons _ (List.Sublist.cons _ (List.Sublist.refl _))) .mk hM1 hC hr (by omega) hch1 hch2
          · by_cases k0 : yk = 0
            · subst k0
              repeat' ((conv => whnf); (first
                  | refine Look.cells hmH rfl hc ?_
                  | refine SCalls.midH (_ :: _ :: HB) I (c17 hM yn yv yx (fun H2 hM1 => ?_))
                  | refine New.mk (fun _ => ?_)
                  | refine Look.at0 ?_
                  | refine Cell.row ?_
                  | refine Cell.buf ?_
                  | refine Cells.row rfl ?_
                  | refine Put.row rfl ?_
                  | refine Put.buf rfl ?_
                  | refine Look.at1 ?_
                  | refine Look.at2 ?_
                  | refine Look.at3 ?_
                  | refine Look.at4 ?_
                  | refine Look.at5 ?_
                  | refine Look.at6 ?_
                  | refine Look.at7 ?_
                  | refine Look.at8 ?_
                  | with_reducible refine Val.i64 (by omega) (by omega) ?_
                  | with_reducible refine Val.u8 (by omega) (by omega) ?_
                  | with_reducible refine Val.u32 (by omega) (by omega) ?_
                  | with_reducible refine Val.u64 (by omega) (by omega) ?_
                  | with_reducible refine Val.u8m ?_
                  | with_reducible refine Val.u32m ?_
                  | with_reducible refine Val.u64m ?_
                  | with_reducible refine Val.shr8 ?_
                  | with_reducible refine Val.shr16 (by decide) ?_
                  | with_reducible refine Val.shr24 (by decide) ?_
                  | with_reducible refine Val.raw ?_
                  | refine Branch.not ?_
                  | refine Branch.and ?_
                  | refine Branch.or ?_
                  | refine Branch.dt (by assumption) ?_
                  | refine Branch.df (by assumption) ?_
                  | refine Branch.dt rfl ?_
                  | refine Branch.dt (by omega) ?_
                  | refine Branch.df (by omega) ?_
                  | refine Branch.t rfl ?_
                  | refine Branch.f rfl ?_
                  | refine Branch.t (by assumption) ?_
                  | refine Branch.f (by assumption) ?_
                  | refine Branch.d (fun _ => ?_) (fun _ => ?_)
                  | refine Branch.mk (fun _ => ?_) (fun _ => ?_)
                  | refine Need.mk (by first | omega | decide | rfl) ?_
                  | refine Idx.nat (by omega) ?_
                  | refine Idx.auto (by first | omega | decide) (by first | omega | decide) ?_
                  | refine Cell.ro rfl ?_
                  | refine SDraw.all (by kernel_rfl) ?_
                  | refine Kept.k0 ?_
                  | refine Kept.k1 ?_
                  | refine Kept.k2 ?_
                  | refine Kept.k3 ?_
                  | refine Kept.k4 ?_))
              refine l4r (hs := hs) (hM1.mono fun z hz => .tail _ (.tail _ (List.mem_append_right _ (List.mem_append_left _ hz)))) (hin.mono fun z hz => .tail _ (.tail _ (List.mem_append_right _ (List.mem_append_right _ hz)))) (.tail _ (.head _)) (fun h hh => .tail _ (.tail _ (List.mem_append_left _ (hr h hh)))) (cy_write hC yn yv yx) (by omega) _ .mk (fun S i hS => ?_)
              cases hS
              repeat' ((conv => whnf); (first
                  | refine New.mk (fun _ => ?_)
                  | refine Look.at0 ?_
                  | refine Cell.row ?_
                  | refine Cell.buf ?_
                  | refine Cells.row rfl ?_
                  | refine Put.row rfl ?_
                  | refine Put.buf rfl ?_
                  | refine Look.at1 ?_
                  | refine Look.at2 ?_
                  | refine Look.at3 ?_
                  | refine Look.at4 ?_
                  | refine Look.at5 ?_
                  | refine Look.at6 ?_
                  | refine Look.at7 ?_
                  | refine Look.at8 ?_
                  | with_reducible refine Val.i64 (by omega) (by omega) ?_
                  | with_reducible refine Val.u8 (by omega) (by omega) ?_
                  | with_reducible refine Val.u32 (by omega) (by omega) ?_
                  | with_reducible refine Val.u64 (by omega) (by omega) ?_
                  | with_reducible refine Val.u8m ?_
                  | with_reducible refine Val.u32m ?_
                  | with_reducible refine Val.u64m ?_
                  | with_reducible refine Val.shr8 ?_
                  | with_reducible refine Val.shr16 (by decide) ?_
                  | with_reducible refine Val.shr24 (by decide) ?_
                  | with_reducible refine Val.raw ?_
                  | refine Branch.not ?_
                  | refine Branch.and ?_
                  | refine Branch.or ?_
                  | refine Branch.dt (by assumption) ?_
                  | refine Branch.df (by assumption) ?_
                  | refine Branch.dt rfl ?_
                  | refine Branch.dt (by omega) ?_
                  | refine Branch.df (by omega) ?_
                  | refine Branch.t rfl ?_
                  | refine Branch.f rfl ?_
                  | refine Branch.t (by assumption) ?_
                  | refine Branch.f (by assumption) ?_
                  | refine Branch.d (fun _ => ?_) (fun _ => ?_)
                  | refine Branch.mk (fun _ => ?_) (fun _ => ?_)
                  | refine Need.mk (by first | omega | decide | rfl) ?_
                  | refine Idx.nat (by omega) ?_
                  | refine Idx.auto (by first | omega | decide) (by first | omega | decide) ?_
                  | refine Cell.ro rfl ?_
                  | refine SDraw.all (by kernel_rfl) ?_
                  | refine Kept.k0 ?_
                  | refine Kept.k1 ?_
                  | refine Kept.k2 ?_
                  | refine Kept.k3 ?_
                  | refine Kept.k4 ?_))
              all_goals (conv => whnf)
              exact hnext _ _ hs rh ch HB H2 _ (List.sublist_cons_self _ _) .mk hM1 (cy_write hC yn yv yx) hr (by omega) hch1 hch2
            · by_cases k2 : yk = 2
              · subst k2
                repeat' ((conv => whnf); (first
                    | refine Look.cells hmH rfl hc ?_
                    | refine SCalls.midH (_ :: _ :: HB) I (c12 hM yn (fun H2 hM1 => ?_))
                    | refine New.mk (fun _ => ?_)
                    | refine Look.at0 ?_
                    | refine Cell.row ?_
                    | refine Cell.buf ?_
                    | refine Cells.row rfl ?_
                    | refine Put.row rfl ?_
                    | refine Put.buf rfl ?_
                    | refine Look.at1 ?_
                    | refine Look.at2 ?_
                    | refine Look.at3 ?_
                    | refine Look.at4 ?_
                    | refine Look.at5 ?_
                    | refine Look.at6 ?_
                    | refine Look.at7 ?_
                    | refine Look.at8 ?_
                    | with_reducible refine Val.i64 (by omega) (by omega) ?_
                    | with_reducible refine Val.u8 (by omega) (by omega) ?_
                    | with_reducible refine Val.u32 (by omega) (by omega) ?_
                    | with_reducible refine Val.u64 (by omega) (by omega) ?_
                    | with_reducible refine Val.u8m ?_
                    | with_reducible refine Val.u32m ?_
                    | with_reducible refine Val.u64m ?_
                    | with_reducible refine Val.shr8 ?_
                    | with_reducible refine Val.shr16 (by decide) ?_
                    | with_reducible refine Val.shr24 (by decide) ?_
                    | with_reducible refine Val.raw ?_
                    | refine Branch.not ?_
                    | refine Branch.and ?_
                    | refine Branch.or ?_
                    | refine Branch.dt (by assumption) ?_
                    | refine Branch.df (by assumption) ?_
                    | refine Branch.dt rfl ?_
                    | refine Branch.dt (by omega) ?_
                    | refine Branch.df (by omega) ?_
                    | refine Branch.t rfl ?_
                    | refine Branch.f rfl ?_
                    | refine Branch.t (by assumption) ?_
                    | refine Branch.f (by assumption) ?_
                    | refine Branch.d (fun _ => ?_) (fun _ => ?_)
                    | refine Branch.mk (fun _ => ?_) (fun _ => ?_)
                    | refine Need.mk (by first | omega | decide | rfl) ?_
                    | refine Idx.nat (by omega) ?_
                    | refine Idx.auto (by first | omega | decide) (by first | omega | decide) ?_
                    | refine Cell.ro rfl ?_
                    | refine SDraw.all (by kernel_rfl) ?_
                    | refine Kept.k0 ?_
                    | refine Kept.k1 ?_
                    | refine Kept.k2 ?_
                    | refine Kept.k3 ?_
                    | refine Kept.k4 ?_))
                refine l4r (hs := hs) (hM1.mono fun z hz => .tail _ (.tail _ (List.mem_append_right _ (List.mem_append_left _ hz)))) (hin.mono fun z hz => .tail _ (.tail _ (List.mem_append_right _ (List.mem_append_right _ hz)))) (.tail _ (.head _)) (fun h hh => .tail _ (.tail _ (List.mem_append_left _ (hr h hh)))) (cy_lost hC yn) (by omega) _ .mk (fun S i hS => ?_)
                cases hS
                repeat' ((conv => whnf); (first
                    | refine New.mk (fun _ => ?_)
                    | refine Look.at0 ?_
                    | refine Cell.row ?_
                    | refine Cell.buf ?_
                    | refine Cells.row rfl ?_
                    | refine Put.row rfl ?_
                    | refine Put.buf rfl ?_
                    | refine Look.at1 ?_
                    | refine Look.at2 ?_
                    | refine Look.at3 ?_
                    | refine Look.at4 ?_
                    | refine Look.at5 ?_
                    | refine Look.at6 ?_
                    | refine Look.at7 ?_
                    | refine Look.at8 ?_
                    | with_reducible refine Val.i64 (by omega) (by omega) ?_
                    | with_reducible refine Val.u8 (by omega) (by omega) ?_
                    | with_reducible refine Val.u32 (by omega) (by omega) ?_
                    | with_reducible refine Val.u64 (by omega) (by omega) ?_
                    | with_reducible refine Val.u8m ?_
                    | with_reducible refine Val.u32m ?_
                    | with_reducible refine Val.u64m ?_
                    | with_reducible refine Val.shr8 ?_
                    | with_reducible refine Val.shr16 (by decide) ?_
                    | with_reducible refine Val.shr24 (by decide) ?_
                    | with_reducible refine Val.raw ?_
                    | refine Branch.not ?_
                    | refine Branch.and ?_
                    | refine Branch.or ?_
                    | refine Branch.dt (by assumption) ?_
                    | refine Branch.df (by assumption) ?_
                    | refine Branch.dt rfl ?_
                    | refine Branch.dt (by omega) ?_
                    | refine Branch.df (by omega) ?_
                    | refine Branch.t rfl ?_
                    | refine Branch.f rfl ?_
                    | refine Branch.t (by assumption) ?_
                    | refine Branch.f (by assumption) ?_
                    | refine Branch.d (fun _ => ?_) (fun _ => ?_)
                    | refine Branch.mk (fun _ => ?_) (fun _ => ?_)
                    | refine Need.mk (by first | omega | decide | rfl) ?_
                    | refine Idx.nat (by omega) ?_
                    | refine Idx.auto (by first | omega | decide) (by first | omega | decide) ?_
                    | refine Cell.ro rfl ?_
                    | refine SDraw.all (by kernel_rfl) ?_
                    | refine Kept.k0 ?_
                    | refine Kept.k1 ?_
                    | refine Kept.k2 ?_
                    | refine Kept.k3 ?_
                    | refine Kept.k4 ?_))
                all_goals (conv => whnf)
                exact hnext _ _ hs rh ch HB H2 _ (List.sublist_cons_self _ _) .mk hM1 (cy_lost hC yn) hr (by omega) hch1 hch2
              · repeat' ((conv => whnf); (first
                    | refine Look.cells hmH rfl hc ?_
                    | refine SCalls.midH (_ :: _ :: HB) I (c13 hM yn (fun H2 hM1 => ?_))
                    | refine New.mk (fun _ => ?_)
                    | refine Look.at0 ?_
                    | refine Cell.row ?_
                    | refine Cell.buf ?_
                    | refine Cells.row rfl ?_
                    | refine Put.row rfl ?_
                    | refine Put.buf rfl ?_
                    | refine Look.at1 ?_
                    | refine Look.at2 ?_
                    | refine Look.at3 ?_
                    | refine Look.at4 ?_
                    | refine Look.at5 ?_
                    | refine Look.at6 ?_
                    | refine Look.at7 ?_
                    | refine Look.at8 ?_
                    | with_reducible refine Val.i64 (by omega) (by omega) ?_
                    | with_reducible refine Val.u8 (by omega) (by omega) ?_
                    | with_reducible refine Val.u32 (by omega) (by omega) ?_
                    | with_reducible refine Val.u64 (by omega) (by omega) ?_
                    | with_reducible refine Val.u8m ?_
                    | with_reducible refine Val.u32m ?_
                    | with_reducible refine Val.u64m ?_
                    | with_reducible refine Val.shr8 ?_
                    | with_reducible refine Val.shr16 (by decide) ?_
                    | with_reducible refine Val.shr24 (by decide) ?_
                    | with_reducible refine Val.raw ?_
                    | refine Branch.not ?_
                    | refine Branch.and ?_
                    | refine Branch.or ?_
                    | refine Branch.dt (by assumption) ?_
                    | refine Branch.df (by assumption) ?_
                    | refine Branch.dt rfl ?_
                    | refine Branch.dt (by omega) ?_
                    | refine Branch.df (by omega) ?_
                    | refine Branch.t rfl ?_
                    | refine Branch.f rfl ?_
                    | refine Branch.t (by assumption) ?_
                    | refine Branch.f (by assumption) ?_
                    | refine Branch.d (fun _ => ?_) (fun _ => ?_)
                    | refine Branch.mk (fun _ => ?_) (fun _ => ?_)
                    | refine Need.mk (by first | omega | decide | rfl) ?_
                    | refine Idx.nat (by omega) ?_
                    | refine Idx.auto (by first | omega | decide) (by first | omega | decide) ?_
                    | refine Cell.ro rfl ?_
                    | refine SDraw.all (by kernel_rfl) ?_
                    | refine Kept.k0 ?_
                    | refine Kept.k1 ?_
                    | refine Kept.k2 ?_
                    | refine Kept.k3 ?_
                    | refine Kept.k4 ?_))
                refine l4r (hs := hs) (hM1.mono fun z hz => .tail _ (.tail _ (List.mem_append_right _ (List.mem_append_left _ hz)))) (hin.mono fun z hz => .tail _ (.tail _ (List.mem_append_right _ (List.mem_append_right _ hz)))) (.tail _ (.head _)) (fun h hh => .tail _ (.tail _ (List.mem_append_left _ (hr h hh)))) (cy_back hC yn) (by omega) _ .mk (fun S i hS => ?_)
                cases hS
                repeat' ((conv => whnf); (first
                    | refine New.mk (fun _ => ?_)
                    | refine Look.at0 ?_
                    | refine Cell.row ?_
                    | refine Cell.buf ?_
                    | refine Cells.row rfl ?_
                    | refine Put.row rfl ?_
                    | refine Put.buf rfl ?_
                    | refine Look.at1 ?_
                    | refine Look.at2 ?_
                    | refine Look.at3 ?_
                    | refine Look.at4 ?_
                    | refine Look.at5 ?_
                    | refine Look.at6 ?_
                    | refine Look.at7 ?_
                    | refine Look.at8 ?_
                    | with_reducible refine Val.i64 (by omega) (by omega) ?_
                    | with_reducible refine Val.u8 (by omega) (by omega) ?_
                    | with_reducible refine Val.u32 (by omega) (by omega) ?_
                    | with_reducible refine Val.u64 (by omega) (by omega) ?_
                    | with_reducible refine Val.u8m ?_
                    | with_reducible refine Val.u32m ?_
                    | with_reducible refine Val.u64m ?_
                    | with_reducible refine Val.shr8 ?_
                    | with_reducible refine Val.shr16 (by decide) ?_
                    | with_reducible refine Val.shr24 (by decide) ?_
                    | with_reducible refine Val.raw ?_
                    | refine Branch.not ?_
                    | refine Branch.and ?_
                    | refine Branch.or ?_
                    | refine Branch.dt (by assumption) ?_
                    | refine Branch.df (by assumption) ?_
                    | refine Branch.dt rfl ?_
                    | refine Branch.dt (by omega) ?_
                    | refine Branch.df (by omega) ?_
                    | refine Branch.t rfl ?_
                    | refine Branch.f rfl ?_
                    | refine Branch.t (by assumption) ?_
                    | refine Branch.f (by assumption) ?_
                    | refine Branch.d (fun _ => ?_) (fun _ => ?_)
                    | refine Branch.mk (fun _ => ?_) (fun _ => ?_)
                    | refine Need.mk (by first | omega | decide | rfl) ?_
                    | refine Idx.nat (by omega) ?_
                    | refine Idx.auto (by first | omega | decide) (by first | omega | decide) ?_
                    | refine Cell.ro rfl ?_
                    | refine SDraw.all (by kernel_rfl) ?_
                    | refine Kept.k0 ?_
                    | refine Kept.k1 ?_
                    | refine Kept.k2 ?_
                    | refine Kept.k3 ?_
                    | refine Kept.k4 ?_))
                all_goals (conv => whnf)
                exact hnext _ _ hs rh ch HB H2 _ (List.sublist_cons_self _ _) .mk hM1 (cy_back hC yn) hr (by omega) hch1 hch2
      · have e : j = Y2.length := by omega
        subst e
        repeat' ((conv => whnf); (first
            | refine hc9 _ _ (fun N9 => ?_)
            | refine New.mk (fun _ => ?_)
            | refine Look.at0 ?_
            | refine Cell.row ?_
            | refine Cell.buf ?_
            | refine Cells.row rfl ?_
            | refine Put.row rfl ?_
            | refine Put.buf rfl ?_
            | refine Look.at1 ?_
            | refine Look.at2 ?_
            | refine Look.at3 ?_
            | refine Look.at4 ?_
            | refine Look.at5 ?_
            | refine Look.at6 ?_
            | refine Look.at7 ?_
            | refine Look.at8 ?_
            | with_reducible refine Val.i64 (by omega) (by omega) ?_
            | with_reducible refine Val.u8 (by omega) (by omega) ?_
            | with_reducible refine Val.u32 (by omega) (by omega) ?_
            | with_reducible refine Val.u64 (by omega) (by omega) ?_
            | with_reducible refine Val.u8m ?_
            | with_reducible refine Val.u32m ?_
            | with_reducible refine Val.u64m ?_
            | with_reducible refine Val.shr8 ?_
            | with_reducible refine Val.shr16 (by decide) ?_
            | with_reducible refine Val.shr24 (by decide) ?_
            | with_reducible refine Val.raw ?_
            | refine Branch.not ?_
            | refine Branch.and ?_
            | refine Branch.or ?_
            | refine Branch.dt (by assumption) ?_
            | refine Branch.df (by assumption) ?_
            | refine Branch.dt rfl ?_
            | refine Branch.dt (by omega) ?_
            | refine Branch.df (by omega) ?_
            | refine Branch.t rfl ?_
            | refine Branch.f rfl ?_
            | refine Branch.t (by assumption) ?_
            | refine Branch.f (by assumption) ?_
            | refine Branch.d (fun _ => ?_) (fun _ => ?_)
            | refine Branch.mk (fun _ => ?_) (fun _ => ?_)
            | refine Need.mk (by first | omega | decide | rfl) ?_
            | refine Idx.nat (by omega) ?_
            | refine Idx.auto (by first | omega | decide) (by first | omega | decide) ?_
            | refine Cell.ro rfl ?_
            | refine SDraw.all (by kernel_rfl) ?_
            | refine Kept.k0 ?_
            | refine Kept.k1 ?_
            | refine Kept.k2 ?_
            | refine Kept.k3 ?_
            | refine Kept.k4 ?_))
        all_goals (conv => whnf)
        exact Keep.sub [] (List.nil_sublist _) rfl
    · have hact2 := hact
      have hY2 : Y.length ≤ 300 := by omega
      have hm2 : Y.length = Y.length := rfl
      repeat' ((conv => whnf); (first
          | refine SDraw.held (by kernel_rfl) [_] (.same (.head _) .nil) ?_
          | refine Kept.mk (.same (.head _) .nil) ?_
          | refine SCalls.under [_] (c8 hin hbig hL (fun q c Lo N h1 h2 h3 => ?_))
          | refine SCalls.midH [_] I (hc7 _ h1 h2 h3 (fun hne => absurd hchk hne) (fun hz gm ids H1 hM => ?_))
          | refine RawV.make1 (t := 47) (e := 35) (bytes := 8) (zv := .int .u64 0) (n := L.length) rfl (by kernel_rfl) (by kernel_rfl) rfl (by omega) (by unfold maxLen; omega) (fun rz => ?_)
          | refine New.mk (fun _ => ?_)
          | refine Look.at0 ?_
          | refine Cell.row ?_
          | refine Cell.buf ?_
          | refine Cells.row rfl ?_
          | refine Put.row rfl ?_
          | refine Put.buf rfl ?_
          | refine Look.at1 ?_
          | refine Look.at2 ?_
          | refine Look.at3 ?_
          | refine Look.at4 ?_
          | refine Look.at5 ?_
          | refine Look.at6 ?_
          | refine Look.at7 ?_
          | refine Look.at8 ?_
          | with_reducible refine Val.i64 (by omega) (by omega) ?_
          | with_reducible refine Val.u8 (by omega) (by omega) ?_
          | with_reducible refine Val.u32 (by omega) (by omega) ?_
          | with_reducible refine Val.u64 (by omega) (by omega) ?_
          | with_reducible refine Val.u8m ?_
          | with_reducible refine Val.u32m ?_
          | with_reducible refine Val.u64m ?_
          | with_reducible refine Val.shr8 ?_
          | with_reducible refine Val.shr16 (by decide) ?_
          | with_reducible refine Val.shr24 (by decide) ?_
          | with_reducible refine Val.raw ?_
          | refine Branch.not ?_
          | refine Branch.and ?_
          | refine Branch.or ?_
          | refine Branch.dt (by assumption) ?_
          | refine Branch.df (by assumption) ?_
          | refine Branch.dt rfl ?_
          | refine Branch.dt (by omega) ?_
          | refine Branch.df (by omega) ?_
          | refine Branch.t rfl ?_
          | refine Branch.f rfl ?_
          | refine Branch.t (by assumption) ?_
          | refine Branch.f (by assumption) ?_
          | refine Branch.d (fun _ => ?_) (fun _ => ?_)
          | refine Branch.mk (fun _ => ?_) (fun _ => ?_)
          | refine Need.mk (by first | omega | decide | rfl) ?_
          | refine Idx.nat (by omega) ?_
          | refine Idx.auto (by first | omega | decide) (by first | omega | decide) ?_
          | refine Cell.ro rfl ?_
          | refine SDraw.all (by kernel_rfl) ?_
          | refine Kept.k0 ?_
          | refine Kept.k1 ?_
          | refine Kept.k2 ?_
          | refine Kept.k3 ?_
          | refine Kept.k4 ?_))
      rename_i p0 ph
      refine SLoop.toBuf (A := []) ?_
      refine SLoop.invA (I4 (.slice aa Y.length ac) calm gm ids L (.slice sa L.length sc) I Y.length) (fun x => Y.length - x.j) ⟨0, newM n (L.map VarI.lg), [(rz, L.length, List.replicate L.length 0)], ph, 1, [(rz, Blk.buf 35 (List.replicate L.length (.int .u64 0)) L.length), (p0, Blk.row 24 [.int .i64 (n : Int), .slice sa L.length sc] (0, 0))], H1⟩ (Keep.all ⟨Nat.zero_le _, by simp, .mk, by simp, by show 1 ≤ maxLen; unfold maxLen; omega, hM, by simpa using cy_new n L calm (fun v hv => by have := hM.ok v hv; simpa [newM] using this), by simp, by simp⟩) ?_
      clear hM hc7
      rintro ⟨j, M, hs, rh, ch, HB, Hm⟩ S H' ⟨hj, hsl, hS, hch1, hch2, hM, hC, hr, rfl⟩ R hRR
      dsimp only at hj hsl hS hch1 hch2 hM hC hr hRR ⊢
      cases hS
      by_cases hlt : j < Y.length
      · obtain ⟨y, hy, _, _⟩ := list_at hlt
        obtain ⟨r, o, c', b, e1, hm, hc⟩ := inS_at hact2.sl (fun _ => rfl) hy
        injection e1 with e1 _ e3
        subst e1
        have hym := List.mem_of_getElem? hy
        have hya := hact2.el y hym
        have hyb := hact2.big y hym
        have hmH : (r, b) ∈ (rh, Blk.buf 47 (hs.flatMap cH) (ch * 1)) :: (HB ++ (Hm ++ I)) := .tail _ (List.mem_append_right _ (List.mem_append_right _ hm))
        have hnext : ∀ (S : List Value) (M1 : Mc) (hs1 : List HR) (rh1 ch1 : Nat) (HB1 Hm1 H0 : Heap), ((rh1, Blk.buf 47 (hs1.flatMap cH) (ch1 * 1)) :: (HB1 ++ (Hm1 ++ I))).Sublist H0 → S4 (.slice (some ⟨r, o, none⟩) Y.length ac) (.bool calm) (.slice sa L.length sc) (ptr gm) (.slice (some ⟨rh1, 0, none⟩) hs1.length ch1) (.int .i64 ((j + 1 : Nat) : Int)) S → Mach gm ids M1 Hm1 → Cy (L.map VarI.cons) calm M1 (hs1.map fun h => h.2.2) → (∀ h ∈ hs1, (h.1, Blk.buf 35 (h.2.2.map cU) (h.2.1 * 1)) ∈ HB1) → hs1.length ≤ j + 2 → hs1.length ≤ ch1 → ch1 ≤ maxLen → R S H0 := fun S M1 hs1 rh1 ch1 HB1 Hm1 H0 g0 g1 g2 g3 g4 g5 g6 g7 =>
          hRR ⟨j + 1, M1, hs1, rh1, ch1, HB1, Hm1⟩ _ _ (by show Y.length - (j + 1) < Y.length - j; omega) (Keep.sub _ g0 ⟨by show j + 1 ≤ Y.length; omega, by show hs1.length ≤ j + 1 + 1; omega, g1, g6, g7, g2, g3, g4, rfl⟩)
        clear hRR
        obtain ⟨yk, yn, yv, yx, ym, ya, yc⟩ := y
        dsimp only at hya hyb
        have hc : ∀ (i : Nat) (v : Value), [Value.int .i64 yk, .int .i64 yn, .int .i64 yv, .int .u64 yx, .slice ya ym.length yc][i]? = some v → b.cell (o + j * 5 + i) = some v := hc
        cases calm with
        | true =>
          by_cases g1 : 1 < yk
          · repeat' ((conv => whnf); (first
                | refine Look.cells hmH rfl hc ?_
                | refine New.mk (fun _ => ?_)
                | refine Look.at0 ?_
                | refine Cell.row ?_
                | refine Cell.buf ?_
                | refine Cells.row rfl ?_
                | refine Put.row rfl ?_
                | refine Put.buf rfl ?_
                | refine Look.at1 ?_
                | refine Look.at2 ?_
                | refine Look.at3 ?_
                | refine Look.at4 ?_
                | refine Look.at5 ?_
                | refine Look.at6 ?_
                | refine Look.at7 ?_
                | refine Look.at8 ?_
                | with_reducible refine Val.i64 (by omega) (by omega) ?_
                | with_reducible refine Val.u8 (by omega) (by omega) ?_
                | with_reducible refine Val.u32 (by omega) (by omega) ?_
                | with_reducible refine Val.u64 (by omega) (by omega) ?_
                | with_reducible refine Val.u8m ?_
                | with_reducible refine Val.u32m ?_
                | with_reducible refine Val.u64m ?_
                | with_reducible refine Val.shr8 ?_
                | with_reducible refine Val.shr16 (by decide) ?_
                | with_reducible refine Val.shr24 (by decide) ?_
                | with_reducible refine Val.raw ?_
                | refine Branch.not ?_
                | refine Branch.and ?_
                | refine Branch.or ?_
                | refine Branch.dt (by assumption) ?_
                | refine Branch.df (by assumption) ?_
                | refine Branch.dt rfl ?_
                | refine Branch.dt (by omega) ?_
                | refine Branch.df (by omega) ?_
                | refine Branch.t rfl ?_
                | refine Branch.f rfl ?_
                | refine Branch.t (by assumption) ?_
                | refine Branch.f (by assumption) ?_
                | refine Branch.d (fun _ => ?_) (fun _ => ?_)
                | refine Branch.mk (fun _ => ?_) (fun _ => ?_)
                | refine Need.mk (by first | omega | decide | rfl) ?_
                | refine Idx.nat (by omega) ?_
                | refine Idx.auto (by first | omega | decide) (by first | omega | decide) ?_
                | refine Cell.ro rfl ?_
                | refine SDraw.all (by kernel_rfl) ?_
                | refine Kept.k0 ?_
                | refine Kept.k1 ?_
                | refine Kept.k2 ?_
                | refine Kept.k3 ?_
                | refine Kept.k4 ?_))
            all_goals (conv => whnf)
            exact hnext _ _ hs rh ch HB Hm _ (List.sublist_cons_self _ _) .mk hM hC hr (by omega) hch1 hch2
          · by_cases g2 : 0 < ym.length
            · repeat' ((conv => whnf); (first
                  | refine Look.cells hmH rfl hc ?_
                  | refine New.mk (fun _ => ?_)
                  | refine Look.at0 ?_
                  | refine Cell.row ?_
                  | refine Cell.buf ?_
                  | refine Cells.row rfl ?_
                  | refine Put.row rfl ?_
                  | refine Put.buf rfl ?_
                  | refine Look.at1 ?_
                  | refine Look.at2 ?_
                  | refine Look.at3 ?_
                  | refine Look.at4 ?_
                  | refine Look.at5 ?_
                  | refine Look.at6 ?_
                  | refine Look.at7 ?_
                  | refine Look.at8 ?_
                  | with_reducible refine Val.i64 (by omega) (by omega) ?_
                  | with_reducible refine Val.u8 (by omega) (by omega) ?_
                  | with_reducible refine Val.u32 (by omega) (by omega) ?_
                  | with_reducible refine Val.u64 (by omega) (by omega) ?_
                  | with_reducible refine Val.u8m ?_
                  | with_reducible refine Val.u32m ?_
                  | with_reducible refine Val.u64m ?_
                  | with_reducible refine Val.shr8 ?_
                  | with_reducible refine Val.shr16 (by decide) ?_
                  | with_reducible refine Val.shr24 (by decide) ?_
                  | with_reducible refine Val.raw ?_
                  | refine Branch.not ?_
                  | refine Branch.and ?_
                  | refine Branch.or ?_
                  | refine Branch.dt (by assumption) ?_
                  | refine Branch.df (by assumption) ?_
                  | refine Branch.dt rfl ?_
                  | refine Branch.dt (by omega) ?_
                  | refine Branch.df (by omega) ?_
                  | refine Branch.t rfl ?_
                  | refine Branch.f rfl ?_
                  | refine Branch.t (by assumption) ?_
                  | refine Branch.f (by assumption) ?_
                  | refine Branch.d (fun _ => ?_) (fun _ => ?_)
                  | refine Branch.mk (fun _ => ?_) (fun _ => ?_)
                  | refine Need.mk (by first | omega | decide | rfl) ?_
                  | refine Idx.nat (by omega) ?_
                  | refine Idx.auto (by first | omega | decide) (by first | omega | decide) ?_
                  | refine Cell.ro rfl ?_
                  | refine SDraw.all (by kernel_rfl) ?_
                  | refine Kept.k0 ?_
                  | refine Kept.k1 ?_
                  | refine Kept.k2 ?_
                  | refine Kept.k3 ?_
                  | refine Kept.k4 ?_))
              all_goals (conv => whnf)
              exact hnext _ _ hs rh ch HB Hm _ (List.sublist_cons_self _ _) .mk hM hC hr (by omega) hch1 hch2
            · have hxs : ym = [] := List.eq_nil_of_length_eq_zero (by omega)
              have hx : true = true → ym = [] := fun _ => hxs
              by_cases k1 : yk = 1
              · subst k1
                have hL2 : (nowM M).length = L.length := by
                  unfold nowM
                  rw [List.length_map]
                  have := congrArg List.length hC.keys
                  simpa using this
                have hvl : M.vs.length = L.length := by rw [← hL2]; unfold nowM; rw [List.length_map]
                have hfl := flat_len (f := cH) (k := 1) (fun _ => rfl) hs
                repeat' ((conv => whnf); (first
                    | refine Look.cells hmH rfl hc ?_
                    | refine New.mk (fun _ => ?_)
                    | refine Look.at0 ?_
                    | refine Cell.row ?_
                    | refine Cell.buf ?_
                    | refine Cells.row rfl ?_
                    | refine Put.row rfl ?_
                    | refine Put.buf rfl ?_
                    | refine Look.at1 ?_
                    | refine Look.at2 ?_
                    | refine Look.at3 ?_
                    | refine Look.at4 ?_
                    | refine Look.at5 ?_
                    | refine Look.at6 ?_
                    | refine Look.at7 ?_
                    | refine Look.at8 ?_
                    | with_reducible refine Val.i64 (by omega) (by omega) ?_
                    | with_reducible refine Val.u8 (by omega) (by omega) ?_
                    | with_reducible refine Val.u32 (by omega) (by omega) ?_
                    | with_reducible refine Val.u64 (by omega) (by omega) ?_
                    | with_reducible refine Val.u8m ?_
                    | with_reducible refine Val.u32m ?_
                    | with_reducible refine Val.u64m ?_
                    | with_reducible refine Val.shr8 ?_
                    | with_reducible refine Val.shr16 (by decide) ?_
                    | with_reducible refine Val.shr24 (by decide) ?_
                    | with_reducible refine Val.raw ?_
                    | refine Branch.not ?_
                    | refine Branch.and ?_
                    | refine Branch.or ?_
                    | refine Branch.dt (by assumption) ?_
                    | refine Branch.df (by assumption) ?_
                    | refine Branch.dt rfl ?_
                    | refine Branch.dt (by omega) ?_
                    | refine Branch.df (by omega) ?_
                    | refine Branch.t rfl ?_
                    | refine Branch.f rfl ?_
                    | refine Branch.t (by assumption) ?_
                    | refine Branch.f (by assumption) ?_
                    | refine Branch.d (fun _ => ?_) (fun _ => ?_)
                    | refine Branch.mk (fun _ => ?_) (fun _ => ?_)
                    | refine Need.mk (by first | omega | decide | rfl) ?_
                    | refine Idx.nat (by omega) ?_
                    | refine Idx.auto (by first | omega | decide) (by first | omega | decide) ?_
                    | refine Cell.ro rfl ?_
                    | refine SDraw.all (by kernel_rfl) ?_
                    | refine Kept.k0 ?_
                    | refine Kept.k1 ?_
                    | refine Kept.k2 ?_
                    | refine Kept.k3 ?_
                    | refine Kept.k4 ?_))
                rename_i pn
                refine SLoop.toBuf (A := []) ?_
                refine SLoop.invA (I4n _ _ _ _ _ _ _ M L.length _) (fun x => L.length - x.j) ⟨0, pn, 0⟩ (Keep.all ⟨Nat.zero_le _, .mk, Nat.le_refl 0, Nat.zero_le _, rfl⟩) ?_
                rintro ⟨k, rn, cn⟩ S H' ⟨hk, hS, hkc, hcm, rfl⟩ R2 hR2
                dsimp only at hk hS hkc hcm hR2 ⊢
                cases hS
                by_cases hlt2 : k < L.length
                · obtain ⟨v, hv, _, htv⟩ := list_at (L := nowM M) (j := k) (by omega)
                  have hov : M.own (k : Int) = v := by
                    unfold nowM at hv
                    rw [List.getElem?_map] at hv
                    unfold Mc.own
                    rw [if_pos (by omega), Int.toNat_natCast, hv]; rfl
                  have hc15 : ∀ (H2 : Heap) (_ : Mach gm ids M H2) (K : Value → Heap → Prop), K (.int .u64 v) H2 → SCalls Try.prog 15 [ptr gm, .int .i64 (k : Int)] H2 K := fun H2 hM2 K hk => c15 hM2 _ (by rw [hov]; exact hk)
                  have hlenk : (((nowM M).take k).map cU).length = k * 1 := by rw [List.length_map, List.length_take]; omega
                  clear hnext
                  repeat' ((conv => whnf); (first
                      | refine hc15 _ (hM.mono fun z hz => (.tail _ (.tail _ (.tail _ (List.mem_append_right _ (List.mem_append_left _ hz)))))) _ ?_
                      | refine RawV.appT (A := [_]) (e := 35) (size := 1) (bytes := 8) (m := 1) (news := [.int .u64 v]) rfl (by kernel_rfl) (by decide) hlenk rfl hkc hcm (.head _) rfl (fun j v hj => by rw [Nat.zero_add]; exact hj) (by intro u hu; obtain rfl := List.mem_singleton.1 hu; rfl) (by unfold maxLen; omega) (by omega) (fun r' c' g1 g2 => ?_)
                      | refine New.mk (fun _ => ?_)
                      | refine Look.at0 ?_
                      | refine Cell.row ?_
                      | refine Cell.buf ?_
                      | refine Cells.row rfl ?_
                      | refine Put.row rfl ?_
                      | refine Put.buf rfl ?_
                      | refine Look.at1 ?_
                      | refine Look.at2 ?_
                      | refine Look.at3 ?_
                      | refine Look.at4 ?_
                      | refine Look.at5 ?_
                      | refine Look.at6 ?_
                      | refine Look.at7 ?_
                      | refine Look.at8 ?_
                      | with_reducible refine Val.i64 (by omega) (by omega) ?_
                      | with_reducible refine Val.u8 (by omega) (by omega) ?_
                      | with_reducible refine Val.u32 (by omega) (by omega) ?_
                      | with_reducible refine Val.u64 (by omega) (by omega) ?_
                      | with_reducible refine Val.u8m ?_
                      | with_reducible refine Val.u32m ?_
                      | with_reducible refine Val.u64m ?_
                      | with_reducible refine Val.shr8 ?_
                      | with_reducible refine Val.shr16 (by decide) ?_
                      | with_reducible refine Val.shr24 (by decide) ?_
                      | with_reducible refine Val.raw ?_
                      | refine Branch.not ?_
                      | refine Branch.and ?_
                      | refine Branch.or ?_
                      | refine Branch.dt (by assumption) ?_
                      | refine Branch.df (by assumption) ?_
                      | refine Branch.dt rfl ?_
                      | refine Branch.dt (by omega) ?_
                      | refine Branch.df (by omega) ?_
                      | refine Branch.t rfl ?_
                      | refine Branch.f rfl ?_
                      | refine Branch.t (by assumption) ?_
                      | refine Branch.f (by assumption) ?_
                      | refine Branch.d (fun _ => ?_) (fun _ => ?_)
                      | refine Branch.mk (fun _ => ?_) (fun _ => ?_)
                      | refine Need.mk (by first | omega | decide | rfl) ?_
                      | refine Idx.nat (by omega) ?_
                      | refine Idx.auto (by first | omega | decide) (by first | omega | decide) ?_
                      | refine Cell.ro rfl ?_
                      | refine SDraw.all (by kernel_rfl) ?_
                      | refine Kept.k0 ?_
                      | refine Kept.k1 ?_
                      | refine Kept.k2 ?_
                      | refine Kept.k3 ?_
                      | refine Kept.k4 ?_))
                  all_goals (conv => whnf)
                  exact hR2 ⟨k + 1, r', c'⟩ _ _ (by show L.length - (k + 1) < L.length - k; omega) (Keep.sub _ (List.Sublist.cons_cons _ (List.Sublist.cons _ (List.Sublist.refl _))) ⟨by show k + 1 ≤ L.length; omega, .mk, g1, g2, by show _ = (r', Blk.buf 35 (((nowM M).take (k + 1)).map cU) (c' * 1)) :: _; rw [htv, List.map_append]; rfl⟩)
                · have e : k = L.length := by omega
                  subst e
                  rw [List.take_of_length_le (by omega)]
                  clear hR2
                  have hyl2 : ym.length ≤ maxLen := by obtain ⟨_, _, _, hl⟩ := hya.sv; exact hl
                  have hc16 : ∀ (q c : Nat) (K : Value → Heap → Prop), (∀ H', Mach gm ids (M.sync ym).2 H' → K (.int .i64 (M.sync ym).1) H') → SCalls Try.prog 16 [ptr gm, .slice (some ⟨q, 0, none⟩) ym.length c] ((q, Blk.buf 3 (ym.flatMap cI) (c * 1)) :: Hm) K := fun q c K hk =>
                    c16 (hM.mono fun z hz => .tail _ hz) (xs := ym) ⟨_, _, rfl, hyl2, .inr ⟨q, _, rfl, .head _⟩⟩ hk
                  by_cases h0 : (M.sync ym).1 = 0
                  · have hcy := cy_sync hC hx h0 (by rw [List.length_map]; omega)
                    rw [h0] at hc16
                    generalize (M.sync ym).2 = M2 at hc16 hcy
                    have hmap : (hs.map fun h => h.2.2) ++ [nowM M] = (hs ++ [((rn, cn, nowM M) : HR)]).map fun h => h.2.2 := by rw [List.map_append]; rfl
                    have hcy2 := hcy
                    rw [hmap] at hcy2
                    repeat' ((conv => whnf); (first
                        | refine RawV.copyS (L := ym) (f := cI) (k := 1) (bytes := 8) (hya.mono fun z hz => .tail _ (.tail _ (.tail _ (List.mem_append_right _ (List.mem_append_right _ hz))))) rfl (by kernel_rfl) (by decide) (fun _ => rfl) (fun y u hu => by obtain rfl := List.mem_singleton.1 hu; rfl) (by omega) (fun q2 c2 k3 k4 => ?_)
                        | refine SCalls.perm (SCalls.midH (_ :: _ :: _ :: HB) I (hc16 q2 c2 _ (fun H2 hM1 => ?_))) (List.perm_middle (l₁ := _ :: _ :: _ :: HB)).symm
                        | refine RawV.appT (A := [_, _, _]) (e := 47) (size := 1) (bytes := 24) (m := 1) (news := [.slice (some ⟨rn, 0, none⟩) L.length cn]) rfl (by kernel_rfl) (by decide) hfl rfl hch1 hch2 (.head _) rfl (fun j v hj => by rw [Nat.zero_add]; exact hj) (by intro u hu; obtain rfl := List.mem_singleton.1 hu; rfl) (by unfold maxLen; omega) (by omega) (fun rh2 ch2 g1 g2 => ?_)
                        | refine New.mk (fun _ => ?_)
                        | refine Look.at0 ?_
                        | refine Cell.row ?_
                        | refine Cell.buf ?_
                        | refine Cells.row rfl ?_
                        | refine Put.row rfl ?_
                        | refine Put.buf rfl ?_
                        | refine Look.at1 ?_
                        | refine Look.at2 ?_
                        | refine Look.at3 ?_
                        | refine Look.at4 ?_
                        | refine Look.at5 ?_
                        | refine Look.at6 ?_
                        | refine Look.at7 ?_
                        | refine Look.at8 ?_
                        | with_reducible refine Val.i64 (by omega) (by omega) ?_
                        | with_reducible refine Val.u8 (by omega) (by omega) ?_
                        | with_reducible refine Val.u32 (by omega) (by omega) ?_
                        | with_reducible refine Val.u64 (by omega) (by omega) ?_
                        | with_reducible refine Val.u8m ?_
                        | with_reducible refine Val.u32m ?_
                        | with_reducible refine Val.u64m ?_
                        | with_reducible refine Val.shr8 ?_
                        | with_reducible refine Val.shr16 (by decide) ?_
                        | with_reducible refine Val.shr24 (by decide) ?_
                        | with_reducible refine Val.raw ?_
                        | refine Branch.not ?_
                        | refine Branch.and ?_
                        | refine Branch.or ?_
                        | refine Branch.dt (by assumption) ?_
                        | refine Branch.df (by assumption) ?_
                        | refine Branch.dt rfl ?_
                        | refine Branch.dt (by omega) ?_
                        | refine Branch.df (by omega) ?_
                        | refine Branch.t rfl ?_
                        | refine Branch.f rfl ?_
                        | refine Branch.t (by assumption) ?_
                        | refine Branch.f (by assumption) ?_
                        | refine Branch.d (fun _ => ?_) (fun _ => ?_)
                        | refine Branch.mk (fun _ => ?_) (fun _ => ?_)
                        | refine Need.mk (by first | omega | decide | rfl) ?_
                        | refine Idx.nat (by omega) ?_
                        | refine Idx.auto (by first | omega | decide) (by first | omega | decide) ?_
                        | refine Cell.ro rfl ?_
                        | refine SDraw.all (by kernel_rfl) ?_
                        | refine Kept.k0 ?_
                        | refine Kept.k1 ?_
                        | refine Kept.k2 ?_
                        | refine Kept.k3 ?_
                        | refine Kept.k4 ?_))
                    have hrows : ∀ (a b' : Nat × Blk), ∀ h ∈ hs ++ [((rn, cn, nowM M) : HR)], (h.1, Blk.buf 35 (h.2.2.map cU) (h.2.1 * 1)) ∈ a :: (rn, Blk.buf 35 ((nowM M).map cU) (cn * 1)) :: b' :: HB := fun a b' h hh => by
                      rcases List.mem_append.1 hh with hh | hh
                      · exact .tail _ (.tail _ (.tail _ (hr h hh)))
                      · obtain rfl := List.mem_singleton.1 hh; exact .tail _ (.head _)
                    have hll : (hs ++ [((rn, cn, nowM M) : HR)]).length = hs.length + 1 := by rw [List.length_append]; rfl
                    have hbuf : (hs ++ [((rn, cn, nowM M) : HR)]).flatMap cH = hs.flatMap cH ++ [.slice (some ⟨rn, 0, none⟩) L.length cn] := by rw [List.flatMap_append, ← hL2]; rfl
                    refine l4r (hs := hs ++ [((rn, cn, nowM M) : HR)]) (hM1.mono fun z hz => .tail _ (.tail _ (.tail _ (.tail _ (List.mem_append_right _ (List.mem_append_left _ hz)))))) (hin.mono fun z hz => .tail _ (.tail _ (.tail _ (.tail _ (List.mem_append_right _ (List.mem_append_right _ hz)))))) (by rw [hbuf]; exact .head _) (fun h hh => .tail _ (List.mem_append_left (_ ++ _) (hrows _ _ h hh))) hcy2 (by omega) _ (by rw [hll]; exact .mk) (fun S i hS => ?_)
                    rw [hll] at hS
                    cases hS
                    repeat' ((conv => whnf); (first
                        | refine New.mk (fun _ => ?_)
                        | refine Look.at0 ?_
                        | refine Cell.row ?_
                        | refine Cell.buf ?_
                        | refine Cells.row rfl ?_
                        | refine Put.row rfl ?_
                        | refine Put.buf rfl ?_
                        | refine Look.at1 ?_
                        | refine Look.at2 ?_
                        | refine Look.at3 ?_
                        | refine Look.at4 ?_
                        | refine Look.at5 ?_
                        | refine Look.at6 ?_
                        | refine Look.at7 ?_
                        | refine Look.at8 ?_
                        | with_reducible refine Val.i64 (by omega) (by omega) ?_
                        | with_reducible refine Val.u8 (by omega) (by omega) ?_
                        | with_reducible refine Val.u32 (by omega) (by omega) ?_
                        | with_reducible refine Val.u64 (by omega) (by omega) ?_
                        | with_reducible refine Val.u8m ?_
                        | with_reducible refine Val.u32m ?_
                        | with_reducible refine Val.u64m ?_
                        | with_reducible refine Val.shr8 ?_
                        | with_reducible refine Val.shr16 (by decide) ?_
                        | with_reducible refine Val.shr24 (by decide) ?_
                        | with_reducible refine Val.raw ?_
                        | refine Branch.not ?_
                        | refine Branch.and ?_
                        | refine Branch.or ?_
                        | refine Branch.dt (by assumption) ?_
                        | refine Branch.df (by assumption) ?_
                        | refine Branch.dt rfl ?_
                        | refine Branch.dt (by omega) ?_
                        | refine Branch.df (by omega) ?_
                        | refine Branch.t rfl ?_
                        | refine Branch.f rfl ?_
                        | refine Branch.t (by assumption) ?_
                        | refine Branch.f (by assumption) ?_
                        | refine Branch.d (fun _ => ?_) (fun _ => ?_)
                        | refine Branch.mk (fun _ => ?_) (fun _ => ?_)
                        | refine Need.mk (by first | omega | decide | rfl) ?_
                        | refine Idx.nat (by omega) ?_
                        | refine Idx.auto (by first | omega | decide) (by first | omega | decide) ?_
                        | refine Cell.ro rfl ?_
                        | refine SDraw.all (by kernel_rfl) ?_
                        | refine Kept.k0 ?_
                        | refine Kept.k1 ?_
                        | refine Kept.k2 ?_
                        | refine Kept.k3 ?_
                        | refine Kept.k4 ?_))
                    all_goals (conv => whnf)
                    exact hnext _ _ (hs ++ [((rn, cn, nowM M) : HR)]) rh2 ch2 (_ :: _ :: _ :: HB) H2 _ (by rw [hbuf]; exact List.Sublist.refl _) (by rw [hll]; exact .mk) hM1 hcy2 (hrows _ _) (by omega) (by omega) g2
                  · have hne := sync_ne h0
                    rw [hne] at hc16
                    generalize (M.sync ym).1 = es at hc16 h0
                    repeat' ((conv => whnf); (first
                        | refine RawV.copyS (L := ym) (f := cI) (k := 1) (bytes := 8) (hya.mono fun z hz => .tail _ (.tail _ (.tail _ (List.mem_append_right _ (List.mem_append_right _ hz))))) rfl (by kernel_rfl) (by decide) (fun _ => rfl) (fun y u hu => by obtain rfl := List.mem_singleton.1 hu; rfl) (by omega) (fun q2 c2 k3 k4 => ?_)
                        | refine SCalls.perm (SCalls.midH (_ :: _ :: _ :: HB) I (hc16 q2 c2 _ (fun H2 hM1 => ?_))) (List.perm_middle (l₁ := _ :: _ :: _ :: HB)).symm
                        | refine New.mk (fun _ => ?_)
                        | refine Look.at0 ?_
                        | refine Cell.row ?_
                        | refine Cell.buf ?_
                        | refine Cells.row rfl ?_
                        | refine Put.row rfl ?_
                        | refine Put.buf rfl ?_
                        | refine Look.at1 ?_
                        | refine Look.at2 ?_
                        | refine Look.at3 ?_
                        | refine Look.at4 ?_
                        | refine Look.at5 ?_
                        | refine Look.at6 ?_
                        | refine Look.at7 ?_
                        | refine Look.at8 ?_
                        | with_reducible refine Val.i64 (by omega) (by omega) ?_
                        | with_reducible refine Val.u8 (by omega) (by omega) ?_
                        | with_reducible refine Val.u32 (by omega) (by omega) ?_
                        | with_reducible refine Val.u64 (by omega) (by omega) ?_
                        | with_reducible refine Val.u8m ?_
                        | with_reducible refine Val.u32m ?_
                        | with_reducible refine Val.u64m ?_
                        | with_reducible refine Val.shr8 ?_
                        | with_reducible refine Val.shr16 (by decide) ?_
                        | with_reducible refine Val.shr24 (by decide) ?_
                        | with_reducible refine Val.raw ?_
                        | refine Branch.not ?_
                        | refine Branch.and ?_
                        | refine Branch.or ?_
                        | refine Branch.dt (by assumption) ?_
                        | refine Branch.df (by assumption) ?_
                        | refine Branch.dt rfl ?_
                        | refine Branch.dt (by omega) ?_
                        | refine Branch.df (by omega) ?_
                        | refine Branch.t rfl ?_
                        | refine Branch.f rfl ?_
                        | refine Branch.t (by assumption) ?_
                        | refine Branch.f (by assumption) ?_
                        | refine Branch.d (fun _ => ?_) (fun _ => ?_)
                        | refine Branch.mk (fun _ => ?_) (fun _ => ?_)
                        | refine Need.mk (by first | omega | decide | rfl) ?_
                        | refine Idx.nat (by omega) ?_
                        | refine Idx.auto (by first | omega | decide) (by first | omega | decide) ?_
                        | refine Cell.ro rfl ?_
                        | refine SDraw.all (by kernel_rfl) ?_
                        | refine Kept.k0 ?_
                        | refine Kept.k1 ?_
                        | refine Kept.k2 ?_
                        | refine Kept.k3 ?_
                        | refine Kept.k4 ?_))
                    refine l4r (hs := hs) (hM1.mono fun z hz => (.tail _ (.tail _ (.tail _ (List.mem_append_right _ (List.mem_append_left _ hz)))))) (hin.mono fun z hz => (.tail _ (.tail _ (.tail _ (List.mem_append_right _ (List.mem_append_right _ hz)))))) (.tail _ (.tail _ (.head _))) (fun h hh => .tail _ (.tail _ (.tail _ (List.mem_append_left _ (hr h hh))))) hC (by omega) _ .mk (fun S i hS => ?_)
                    cases hS
                    repeat' ((conv => whnf); (first
                        | refine New.mk (fun _ => ?_)
                        | refine Look.at0 ?_
                        | refine Cell.row ?_
                        | refine Cell.buf ?_
                        | refine Cells.row rfl ?_
                        | refine Put.row rfl ?_
                        | refine Put.buf rfl ?_
                        | refine Look.at1 ?_
                        | refine Look.at2 ?_
                        | refine Look.at3 ?_
                        | refine Look.at4 ?_
                        | refine Look.at5 ?_
                        | refine Look.at6 ?_
                        | refine Look.at7 ?_
                        | refine Look.at8 ?_
                        | with_reducible refine Val.i64 (by omega) (by omega) ?_
                        | with_reducible refine Val.u8 (by omega) (by omega) ?_
                        | with_reducible refine Val.u32 (by omega) (by omega) ?_
                        | with_reducible refine Val.u64 (by omega) (by omega) ?_
                        | with_reducible refine Val.u8m ?_
                        | with_reducible refine Val.u32m ?_
                        | with_reducible refine Val.u64m ?_
                        | with_reducible refine Val.shr8 ?_
                        | with_reducible refine Val.shr16 (by decide) ?_
                        | with_reducible refine Val.shr24 (by decide) ?_
                        | with_reducible refine Val.raw ?_
                        | refine Branch.not ?_
                        | refine Branch.and ?_
                        | refine Branch.or ?_
                        | refine Branch.dt (by assumption) ?_
                        | refine Branch.df (by assumption) ?_
                        | refine Branch.dt rfl ?_
                        | refine Branch.dt (by omega) ?_
                        | refine Branch.df (by omega) ?_
                        | refine Branch.t rfl ?_
                        | refine Branch.f rfl ?_
                        | refine Branch.t (by assumption) ?_
                        | refine Branch.f (by assumption) ?_
                        | refine Branch.d (fun _ => ?_) (fun _ => ?_)
                        | refine Branch.mk (fun _ => ?_) (fun _ => ?_)
                        | refine Need.mk (by first | omega | decide | rfl) ?_
                        | refine Idx.nat (by omega) ?_
                        | refine Idx.auto (by first | omega | decide) (by first | omega | decide) ?_
                        | refine Cell.ro rfl ?_
                        | refine SDraw.all (by kernel_rfl) ?_
                        | refine Kept.k0 ?_
                        | refine Kept.k1 ?_
                        | refine Kept.k2 ?_
                        | refine Kept.k3 ?_
                        | refine Kept.k4 ?_))
                    all_goals (conv => whnf)
                    exact hnext _ _ hs rh ch HB H2 _ (List.Sublist.cons _ (List.Sublist.cons _ (List.Sublist.refl _))) .mk hM1 hC hr (by omega) hch1 hch2
              · by_cases k0 : yk = 0
                · subst k0
                  repeat' ((conv => whnf); (first
                      | refine Look.cells hmH rfl hc ?_
                      | refine SCalls.midH (_ :: _ :: HB) I (c17 hM yn yv yx (fun H2 hM1 => ?_))
                      | refine New.mk (fun _ => ?_)
                      | refine Look.at0 ?_
                      | refine Cell.row ?_
                      | refine Cell.buf ?_
                      | refine Cells.row rfl ?_
                      | refine Put.row rfl ?_
                      | refine Put.buf rfl ?_
                      | refine Look.at1 ?_
                      | refine Look.at2 ?_
                      | refine Look.at3 ?_
                      | refine Look.at4 ?_
                      | refine Look.at5 ?_
                      | refine Look.at6 ?_
                      | refine Look.at7 ?_
                      | refine Look.at8 ?_
                      | with_reducible refine Val.i64 (by omega) (by omega) ?_
                      | with_reducible refine Val.u8 (by omega) (by omega) ?_
                      | with_reducible refine Val.u32 (by omega) (by omega) ?_
                      | with_reducible refine Val.u64 (by omega) (by omega) ?_
                      | with_reducible refine Val.u8m ?_
                      | with_reducible refine Val.u32m ?_
                      | with_reducible refine Val.u64m ?_
                      | with_reducible refine Val.shr8 ?_
                      | with_reducible refine Val.shr16 (by decide) ?_
                      | with_reducible refine Val.shr24 (by decide) ?_
                      | with_reducible refine Val.raw ?_
                      | refine Branch.not ?_
                      | refine Branch.and ?_
                      | refine Branch.or ?_
                      | refine Branch.dt (by assumption) ?_
                      | refine Branch.df (by assumption) ?_
                      | refine Branch.dt rfl ?_
                      | refine Branch.dt (by omega) ?_
                      | refine Branch.df (by omega) ?_
                      | refine Branch.t rfl ?_
                      | refine Branch.f rfl ?_
                      | refine Branch.t (by assumption) ?_
                      | refine Branch.f (by assumption) ?_
                      | refine Branch.d (fun _ => ?_) (fun _ => ?_)
                      | refine Branch.mk (fun _ => ?_) (fun _ => ?_)
                      | refine Need.mk (by first | omega | decide | rfl) ?_
                      | refine Idx.nat (by omega) ?_
                      | refine Idx.auto (by first | omega | decide) (by first | omega | decide) ?_
                      | refine Cell.ro rfl ?_
                      | refine SDraw.all (by kernel_rfl) ?_
                      | refine Kept.k0 ?_
                      | refine Kept.k1 ?_
                      | refine Kept.k2 ?_
                      | refine Kept.k3 ?_
                      | refine Kept.k4 ?_))
                  refine l4r (hs := hs) (hM1.mono fun z hz => .tail _ (.tail _ (List.mem_append_right _ (List.mem_append_left _ hz)))) (hin.mono fun z hz => .tail _ (.tail _ (List.mem_append_right _ (List.mem_append_right _ hz)))) (.tail _ (.head _)) (fun h hh => .tail _ (.tail _ (List.mem_append_left _ (hr h hh)))) (cy_write hC yn yv yx) (by omega) _ .mk (fun S i hS => ?_)
                  cases hS
                  repeat' ((conv => whnf); (first
                      | refine New.mk (fun _ => ?_)
                      | refine Look.at0 ?_
                      | refine Cell.row ?_
                      | refine Cell.buf ?_
                      | refine Cells.row rfl ?_
                      | refine Put.row rfl ?_
                      | refine Put.buf rfl ?_
                      | refine Look.at1 ?_
                      | refine Look.at2 ?_
                      | refine Look.at3 ?_
                      | refine Look.at4 ?_
                      | refine Look.at5 ?_
                      | refine Look.at6 ?_
                      | refine Look.at7 ?_
                      | refine Look.at8 ?_
                      | with_reducible refine Val.i64 (by omega) (by omega) ?_
                      | with_reducible refine Val.u8 (by omega) (by omega) ?_
                      | with_reducible refine Val.u32 (by omega) (by omega) ?_
                      | with_reducible refine Val.u64 (by omega) (by omega) ?_
                      | with_reducible refine Val.u8m ?_
                      | with_reducible refine Val.u32m ?_
                      | with_reducible refine Val.u64m ?_
                      | with_reducible refine Val.shr8 ?_
                      | with_reducible refine Val.shr16 (by decide) ?_
                      | with_reducible refine Val.shr24 (by decide) ?_
                      | with_reducible refine Val.raw ?_
                      | refine Branch.not ?_
                      | refine Branch.and ?_
                      | refine Branch.or ?_
                      | refine Branch.dt (by assumption) ?_
                      | refine Branch.df (by assumption) ?_
                      | refine Branch.dt rfl ?_
                      | refine Branch.dt (by omega) ?_
                      | refine Branch.df (by omega) ?_
                      | refine Branch.t rfl ?_
                      | refine Branch.f rfl ?_
                      | refine Branch.t (by assumption) ?_
                      | refine Branch.f (by assumption) ?_
                      | refine Branch.d (fun _ => ?_) (fun _ => ?_)
                      | refine Branch.mk (fun _ => ?_) (fun _ => ?_)
                      | refine Need.mk (by first | omega | decide | rfl) ?_
                      | refine Idx.nat (by omega) ?_
                      | refine Idx.auto (by first | omega | decide) (by first | omega | decide) ?_
                      | refine Cell.ro rfl ?_
                      | refine SDraw.all (by kernel_rfl) ?_
                      | refine Kept.k0 ?_
                      | refine Kept.k1 ?_
                      | refine Kept.k2 ?_
                      | refine Kept.k3 ?_
                      | refine Kept.k4 ?_))
                  all_goals (conv => whnf)
                  exact hnext _ _ hs rh ch HB H2 _ (List.sublist_cons_self _ _) .mk hM1 (cy_write hC yn yv yx) hr (by omega) hch1 hch2
                · have k2 : ¬ yk = 2 := by omega
                  repeat' ((conv => whnf); (first
                      | refine Look.cells hmH rfl hc ?_
                      | refine SCalls.midH (_ :: _ :: HB) I (c13 hM yn (fun H2 hM1 => ?_))
                      | refine New.mk (fun _ => ?_)
                      | refine Look.at0 ?_
                      | refine Cell.row ?_
                      | refine Cell.buf ?_
                      | refine Cells.row rfl ?_
                      | refine Put.row rfl ?_
                      | refine Put.buf rfl ?_
                      | refine Look.at1 ?_
                      | refine Look.at2 ?_
                      | refine Look.at3 ?_
                      | refine Look.at4 ?_
                      | refine Look.at5 ?_
                      | refine Look.at6 ?_
                      | refine Look.at7 ?_
                      | refine Look.at8 ?_
                      | with_reducible refine Val.i64 (by omega) (by omega) ?_
                      | with_reducible refine Val.u8 (by omega) (by omega) ?_
                      | with_reducible refine Val.u32 (by omega) (by omega) ?_
                      | with_reducible refine Val.u64 (by omega) (by omega) ?_
                      | with_reducible refine Val.u8m ?_
                      | with_reducible refine Val.u32m ?_
                      | with_reducible refine Val.u64m ?_
                      | with_reducible refine Val.shr8 ?_
                      | with_reducible refine Val.shr16 (by decide) ?_
                      | with_reducible refine Val.shr24 (by decide) ?_
                      | with_reducible refine Val.raw ?_
                      | refine Branch.not ?_
                      | refine Branch.and ?_
                      | refine Branch.or ?_
                      | refine Branch.dt (by assumption) ?_
                      | refine Branch.df (by assumption) ?_
                      | refine Branch.dt rfl ?_
                      | refine Branch.dt (by omega) ?_
                      | refine Branch.df (by omega) ?_
                      | refine Branch.t rfl ?_
                      | refine Branch.f rfl ?_
                      | refine Branch.t (by assumption) ?_
                      | refine Branch.f (by assumption) ?_
                      | refine Branch.d (fun _ => ?_) (fun _ => ?_)
                      | refine Branch.mk (fun _ => ?_) (fun _ => ?_)
                      | refine Need.mk (by first | omega | decide | rfl) ?_
                      | refine Idx.nat (by omega) ?_
                      | refine Idx.auto (by first | omega | decide) (by first | omega | decide) ?_
                      | refine Cell.ro rfl ?_
                      | refine SDraw.all (by kernel_rfl) ?_
                      | refine Kept.k0 ?_
                      | refine Kept.k1 ?_
                      | refine Kept.k2 ?_
                      | refine Kept.k3 ?_
                      | refine Kept.k4 ?_))
                  refine l4r (hs := hs) (hM1.mono fun z hz => .tail _ (.tail _ (List.mem_append_right _ (List.mem_append_left _ hz)))) (hin.mono fun z hz => .tail _ (.tail _ (List.mem_append_right _ (List.mem_append_right _ hz)))) (.tail _ (.head _)) (fun h hh => .tail _ (.tail _ (List.mem_append_left _ (hr h hh)))) (cy_back hC yn) (by omega) _ .mk (fun S i hS => ?_)
                  cases hS
                  repeat' ((conv => whnf); (first
                      | refine New.mk (fun _ => ?_)
                      | refine Look.at0 ?_
                      | refine Cell.row ?_
                      | refine Cell.buf ?_
                      | refine Cells.row rfl ?_
                      | refine Put.row rfl ?_
                      | refine Put.buf rfl ?_
                      | refine Look.at1 ?_
                      | refine Look.at2 ?_
                      | refine Look.at3 ?_
                      | refine Look.at4 ?_
                      | refine Look.at5 ?_
                      | refine Look.at6 ?_
                      | refine Look.at7 ?_
                      | refine Look.at8 ?_
                      | with_reducible refine Val.i64 (by omega) (by omega) ?_
                      | with_reducible refine Val.u8 (by omega) (by omega) ?_
                      | with_reducible refine Val.u32 (by omega) (by omega) ?_
                      | with_reducible refine Val.u64 (by omega) (by omega) ?_
                      | with_reducible refine Val.u8m ?_
                      | with_reducible refine Val.u32m ?_
                      | with_reducible refine Val.u64m ?_
                      | with_reducible refine Val.shr8 ?_
                      | with_reducible refine Val.shr16 (by decide) ?_
                      | with_reducible refine Val.shr24 (by decide) ?_
                      | with_reducible refine Val.raw ?_
                      | refine Branch.not ?_
                      | refine Branch.and ?_
                      | refine Branch.or ?_
                      | refine Branch.dt (by assumption) ?_
                      | refine Branch.df (by assumption) ?_
                      | refine Branch.dt rfl ?_
                      | refine Branch.dt (by omega) ?_
                      | refine Branch.df (by omega) ?_
                      | refine Branch.t rfl ?_
                      | refine Branch.f rfl ?_
                      | refine Branch.t (by assumption) ?_
                      | refine Branch.f (by assumption) ?_
                      | refine Branch.d (fun _ => ?_) (fun _ => ?_)
                      | refine Branch.mk (fun _ => ?_) (fun _ => ?_)
                      | refine Need.mk (by first | omega | decide | rfl) ?_
                      | refine Idx.nat (by omega) ?_
                      | refine Idx.auto (by first | omega | decide) (by first | omega | decide) ?_
                      | refine Cell.ro rfl ?_
                      | refine SDraw.all (by kernel_rfl) ?_
                      | refine Kept.k0 ?_
                      | refine Kept.k1 ?_
                      | refine Kept.k2 ?_
                      | refine Kept.k3 ?_
                      | refine Kept.k4 ?_))
                  all_goals (conv => whnf)
                  exact hnext _ _ hs rh ch HB H2 _ (List.sublist_cons_self _ _) .mk hM1 (cy_back hC yn) hr (by omega) hch1 hch2
        | false =>
          have hx : false = true → ym = [] := fun e => by cases e
          by_cases k1 : yk = 1
          · subst k1
            have hL2 : (nowM M).length = L.length := by
              unfold nowM
              rw [List.length_map]
              have := congrArg List.length hC.keys
              simpa using this
            have hvl : M.vs.length = L.length := by rw [← hL2]; unfold nowM; rw [List.length_map]
            have hfl := flat_len (f := cH) (k := 1) (fun _ => rfl) hs
            repeat' ((conv => whnf); (first
                | refine Look.cells hmH rfl hc ?_
                | refine New.mk (fun _ => ?_)
                | refine Look.at0 ?_
                | refine Cell.row ?_
                | refine Cell.buf ?_
                | refine Cells.row rfl ?_
                | refine Put.row rfl ?_
                | refine Put.buf rfl ?_
                | refine Look.at1 ?_
                | refine Look.at2 ?_
                | refine Look.at3 ?_
                | refine Look.at4 ?_
                | refine Look.at5 ?_
                | refine Look.at6 ?_
                | refine Look.at7 ?_
                | refine Look.at8 ?_
                | with_reducible refine Val.i64 (by omega) (by omega) ?_
                | with_reducible refine Val.u8 (by omega) (by omega) ?_
                | with_reducible refine Val.u32 (by omega) (by omega) ?_
                | with_reducible refine Val.u64 (by omega) (by omega) ?_
                | with_reducible refine Val.u8m ?_
                | with_reducible refine Val.u32m ?_
                | with_reducible refine Val.u64m ?_
                | with_reducible refine Val.shr8 ?_
                | with_reducible refine Val.shr16 (by decide) ?_
                | with_reducible refine Val.shr24 (by decide) ?_
                | with_reducible refine Val.raw ?_
                | refine Branch.not ?_
                | refine Branch.and ?_
                | refine Branch.or ?_
                | refine Branch.dt (by assumption) ?_
                | refine Branch.df (by assumption) ?_
                | refine Branch.dt rfl ?_
                | refine Branch.dt (by omega) ?_
                | refine Branch.df (by omega) ?_
                | refine Branch.t rfl ?_
                | refine Branch.f rfl ?_
                | refine Branch.t (by assumption) ?_
                | refine Branch.f (by assumption) ?_
                | refine Branch.d (fun _ => ?_) (fun _ => ?_)
                | refine Branch.mk (fun _ => ?_) (fun _ => ?_)
                | refine Need.mk (by first | omega | decide | rfl) ?_
                | refine Idx.nat (by omega) ?_
                | refine Idx.auto (by first | omega | decide) (by first | omega | decide) ?_
                | refine Cell.ro rfl ?_
                | refine SDraw.all (by kernel_rfl) ?_
                | refine Kept.k0 ?_
                | refine Kept.k1 ?_
                | refine Kept.k2 ?_
                | refine Kept.k3 ?_
                | refine Kept.k4 ?_))
            rename_i pn
            refine SLoop.toBuf (A := []) ?_
            refine SLoop.invA (I4n _ _ _ _ _ _ _ M L.length _) (fun x => L.length - x.j) ⟨0, pn, 0⟩ (Keep.all ⟨Nat.zero_le _, .mk, Nat.le_refl 0, Nat.zero_le _, rfl⟩) ?_
            rintro ⟨k, rn, cn⟩ S H' ⟨hk, hS, hkc, hcm, rfl⟩ R2 hR2
            dsimp only at hk hS hkc hcm hR2 ⊢
            cases hS
            by_cases hlt2 : k < L.length
            · obtain ⟨v, hv, _, htv⟩ := list_at (L := nowM M) (j := k) (by omega)
              have hov : M.own (k : Int) = v := by
                unfold nowM at hv
                rw [List.getElem?_map] at hv
                unfold Mc.own
                rw [if_pos (by omega), Int.toNat_natCast, hv]; rfl
              have hc15 : ∀ (H2 : Heap) (_ : Mach gm ids M H2) (K : Value → Heap → Prop), K (.int .u64 v) H2 → SCalls Try.prog 15 [ptr gm, .int .i64 (k : Int)] H2 K := fun H2 hM2 K hk => c15 hM2 _ (by rw [hov]; exact hk)
              have hlenk : (((nowM M).take k).map cU).length = k * 1 := by rw [List.length_map, List.length_take]; omega
              clear hnext
              repeat' ((conv => whnf); (first
                  | refine hc15 _ (hM.mono fun z hz => (.tail _ (.tail _ (.tail _ (List.mem_append_right _ (List.mem_append_left _ hz)))))) _ ?_
                  | refine RawV.appT (A := [_]) (e := 35) (size := 1) (bytes := 8) (m := 1) (news := [.int .u64 v]) rfl (by kernel_rfl) (by decide) hlenk rfl hkc hcm (.head _) rfl (fun j v hj => by rw [Nat.zero_add]; exact hj) (by intro u hu; obtain rfl := List.mem_singleton.1 hu; rfl) (by unfold maxLen; omega) (by omega) (fun r' c' g1 g2 => ?_)
                  | refine New.mk (fun _ => ?_)
                  | refine Look.at0 ?_
                  | refine Cell.row ?_
                  | refine Cell.buf ?_
                  | refine Cells.row rfl ?_
                  | refine Put.row rfl ?_
                  | refine Put.buf rfl ?_
                  | refine Look.at1 ?_
                  | refine Look.at2 ?_
                  | refine Look.at3 ?_
                  | refine Look.at4 ?_
                  | refine Look.at5 ?_
                  | refine Look.at6 ?_
                  | refine Look.at7 ?_
                  | refine Look.at8 ?_
                  | with_reducible refine Val.i64 (by omega) (by omega) ?_
                  | with_reducible refine Val.u8 (by omega) (by omega) ?_
                  | with_reducible refine Val.u32 (by omega) (by omega) ?_
                  | with_reducible refine Val.u64 (by omega) (by omega) ?_
                  | with_reducible refine Val.u8m ?_
                  | with_reducible refine Val.u32m ?_
                  | with_reducible refine Val.u64m ?_
                  | with_reducible refine Val.shr8 ?_
                  | with_reducible refine Val.shr16 (by decide) ?_
                  | with_reducible refine Val.shr24 (by decide) ?_
                  | with_reducible refine Val.raw ?_
                  | refine Branch.not ?_
                  | refine Branch.and ?_
                  | refine Branch.or ?_
                  | refine Branch.dt (by assumption) ?_
                  | refine Branch.df (by assumption) ?_
                  | refine Branch.dt rfl ?_
                  | refine Branch.dt (by omega) ?_
                  | refine Branch.df (by omega) ?_
                  | refine Branch.t rfl ?_
                  | refine Branch.f rfl ?_
                  | refine Branch.t (by assumption) ?_
                  | refine Branch.f (by assumption) ?_
                  | refine Branch.d (fun _ => ?_) (fun _ => ?_)
                  | refine Branch.mk (fun _ => ?_) (fun _ => ?_)
                  | refine Need.mk (by first | omega | decide | rfl) ?_
                  | refine Idx.nat (by omega) ?_
                  | refine Idx.auto (by first | omega | decide) (by first | omega | decide) ?_
                  | refine Cell.ro rfl ?_
                  | refine SDraw.all (by kernel_rfl) ?_
                  | refine Kept.k0 ?_
                  | refine Kept.k1 ?_
                  | refine Kept.k2 ?_
                  | refine Kept.k3 ?_
                  | refine Kept.k4 ?_))
              all_goals (conv => whnf)
              exact hR2 ⟨k + 1, r', c'⟩ _ _ (by show L.length - (k + 1) < L.length - k; omega) (Keep.sub _ (List.Sublist.cons_cons _ (List.Sublist.cons _ (List.Sublist.refl _))) ⟨by show k + 1 ≤ L.length; omega, .mk, g1, g2, by show _ = (r', Blk.buf 35 (((nowM M).take (k + 1)).map cU) (c' * 1)) :: _; rw [htv, List.map_append]; rfl⟩)
            · have e : k = L.length := by omega
              subst e
              rw [List.take_of_length_le (by omega)]
              clear hR2
              have hyl2 : ym.length ≤ maxLen := by obtain ⟨_, _, _, hl⟩ := hya.sv; exact hl
              have hc16 : ∀ (q c : Nat) (K : Value → Heap → Prop), (∀ H', Mach gm ids (M.sync ym).2 H' → K (.int .i64 (M.sync ym).1) H') → SCalls Try.prog 16 [ptr gm, .slice (some ⟨q, 0, none⟩) ym.length c] ((q, Blk.buf 3 (ym.flatMap cI) (c * 1)) :: Hm) K := fun q c K hk =>
                c16 (hM.mono fun z hz => .tail _ hz) (xs := ym) ⟨_, _, rfl, hyl2, .inr ⟨q, _, rfl, .head _⟩⟩ hk
              by_cases h0 : (M.sync ym).1 = 0
              · have hcy := cy_sync hC hx h0 (by rw [List.length_map]; omega)
                rw [h0] at hc16
                generalize (M.sync ym).2 = M2 at hc16 hcy
                have hmap : (hs.map fun h => h.2.2) ++ [nowM M] = (hs ++ [((rn, cn, nowM M) : HR)]).map fun h => h.2.2 := by rw [List.map_append]; rfl
                have hcy2 := hcy
                rw [hmap] at hcy2
                repeat' ((conv => whnf); (first
                    | refine RawV.copyS (L := ym) (f := cI) (k := 1) (bytes := 8) (hya.mono fun z hz => .tail _ (.tail _ (.tail _ (List.mem_append_right _ (List.mem_append_right _ hz))))) rfl (by kernel_rfl) (by decide) (fun _ => rfl) (fun y u hu => by obtain rfl := List.mem_singleton.1 hu; rfl) (by omega) (fun q2 c2 k3 k4 => ?_)
                    | refine SCalls.perm (SCalls.midH (_ :: _ :: _ :: HB) I (hc16 q2 c2 _ (fun H2 hM1 => ?_))) (List.perm_middle (l₁ := _ :: _ :: _ :: HB)).symm
                    | refine RawV.appT (A := [_, _, _]) (e := 47) (size := 1) (bytes := 24) (m := 1) (news := [.slice (some ⟨rn, 0, none⟩) L.length cn]) rfl (by kernel_rfl) (by decide) hfl rfl hch1 hch2 (.head _) rfl (fun j v hj => by rw [Nat.zero_add]; exact hj) (by intro u hu; obtain rfl := List.mem_singleton.1 hu; rfl) (by unfold maxLen; omega) (by omega) (fun rh2 ch2 g1 g2 => ?_)
                    | refine New.mk (fun _ => ?_)
                    | refine Look.at0 ?_
                    | refine Cell.row ?_
                    | refine Cell.buf ?_
                    | refine Cells.row rfl ?_
                    | refine Put.row rfl ?_
                    | refine Put.buf rfl ?_
                    | refine Look.at1 ?_
                    | refine Look.at2 ?_
                    | refine Look.at3 ?_
                    | refine Look.at4 ?_
                    | refine Look.at5 ?_
                    | refine Look.at6 ?_
                    | refine Look.at7 ?_
                    | refine Look.at8 ?_
                    | with_reducible refine Val.i64 (by omega) (by omega) ?_
                    | with_reducible refine Val.u8 (by omega) (by omega) ?_
                    | with_reducible refine Val.u32 (by omega) (by omega) ?_
                    | with_reducible refine Val.u64 (by omega) (by omega) ?_
                    | with_reducible refine Val.u8m ?_
                    | with_reducible refine Val.u32m ?_
                    | with_reducible refine Val.u64m ?_
                    | with_reducible refine Val.shr8 ?_
                    | with_reducible refine Val.shr16 (by decide) ?_
                    | with_reducible refine Val.shr24 (by decide) ?_
                    | with_reducible refine Val.raw ?_
                    | refine Branch.not ?_
                    | refine Branch.and ?_
                    | refine Branch.or ?_
                    | refine Branch.dt (by assumption) ?_
                    | refine Branch.df (by assumption) ?_
                    | refine Branch.dt rfl ?_
                    | refine Branch.dt (by omega) ?_
                    | refine Branch.df (by omega) ?_
                    | refine Branch.t rfl ?_
                    | refine Branch.f rfl ?_
                    | refine Branch.t (by assumption) ?_
                    | refine Branch.f (by assumption) ?_
                    | refine Branch.d (fun _ => ?_) (fun _ => ?_)
                    | refine Branch.mk (fun _ => ?_) (fun _ => ?_)
                    | refine Need.mk (by first | omega | decide | rfl) ?_
                    | refine Idx.nat (by omega) ?_
                    | refine Idx.auto (by first | omega | decide) (by first | omega | decide) ?_
                    | refine Cell.ro rfl ?_
                    | refine SDraw.all (by kernel_rfl) ?_
                    | refine Kept.k0 ?_
                    | refine Kept.k1 ?_
                    | refine Kept.k2 ?_
                    | refine Kept.k3 ?_
                    | refine Kept.k4 ?_))
                have hrows : ∀ (a b' : Nat × Blk), ∀ h ∈ hs ++ [((rn, cn, nowM M) : HR)], (h.1, Blk.buf 35 (h.2.2.map cU) (h.2.1 * 1)) ∈ a :: (rn, Blk.buf 35 ((nowM M).map cU) (cn * 1)) :: b' :: HB := fun a b' h hh => by
                  rcases List.mem_append.1 hh with hh | hh
                  · exact .tail _ (.tail _ (.tail _ (hr h hh)))
                  · obtain rfl := List.mem_singleton.1 hh; exact .tail _ (.head _)
                have hll : (hs ++ [((rn, cn, nowM M) : HR)]).length = hs.length + 1 := by rw [List.length_append]; rfl
                have hbuf : (hs ++ [((rn, cn, nowM M) : HR)]).flatMap cH = hs.flatMap cH ++ [.slice (some ⟨rn, 0, none⟩) L.length cn] := by rw [List.flatMap_append, ← hL2]; rfl
                refine l4r (hs := hs ++ [((rn, cn, nowM M) : HR)]) (hM1.mono fun z hz => .tail _ (.tail _ (.tail _ (.tail _ (List.mem_append_right _ (List.mem_append_left _ hz)))))) (hin.mono fun z hz => .tail _ (.tail _ (.tail _ (.tail _ (List.mem_append_right _ (List.mem_append_right _ hz)))))) (by rw [hbuf]; exact .head _) (fun h hh => .tail _ (List.mem_append_left (_ ++ _) (hrows _ _ h hh))) hcy2 (by omega) _ (by rw [hll]; exact .mk) (fun S i hS => ?_)
                rw [hll] at hS
                cases hS
                repeat' ((conv => whnf); (first
                    | refine New.mk (fun _ => ?_)
                    | refine Look.at0 ?_
                    | refine Cell.row ?_
                    | refine Cell.buf ?_
                    | refine Cells.row rfl ?_
                    | refine Put.row rfl ?_
                    | refine Put.buf rfl ?_
                    | refine Look.at1 ?_
                    | refine Look.at2 ?_
                    | refine Look.at3 ?_
                    | refine Look.at4 ?_
                    | refine Look.at5 ?_
                    | refine Look.at6 ?_
                    | refine Look.at7 ?_
                    | refine Look.at8 ?_
                    | with_reducible refine Val.i64 (by omega) (by omega) ?_
                    | with_reducible refine Val.u8 (by omega) (by omega) ?_
                    | with_reducible refine Val.u32 (by omega) (by omega) ?_
                    | with_reducible refine Val.u64 (by omega) (by omega) ?_
                    | with_reducible refine Val.u8m ?_
                    | with_reducible refine Val.u32m ?_
                    | with_reducible refine Val.u64m ?_
                    | with_reducible refine Val.shr8 ?_
                    | with_reducible refine Val.shr16 (by decide) ?_
                    | with_reducible refine Val.shr24 (by decide) ?_
                    | with_reducible refine Val.raw ?_
                    | refine Branch.not ?_
                    | refine Branch.and ?_
                    | refine Branch.or ?_
                    | refine Branch.dt (by assumption) ?_
                    | refine Branch.df (by assumption) ?_
                    | refine Branch.dt rfl ?_
                    | refine Branch.dt (by omega) ?_
                    | refine Branch.df (by omega) ?_
                    | refine Branch.t rfl ?_
                    | refine Branch.f rfl ?_
                    | refine Branch.t (by assumption) ?_
                    | refine Branch.f (by assumption) ?_
                    | refine Branch.d (fun _ => ?_) (fun _ => ?_)
                    | refine Branch.mk (fun _ => ?_) (fun _ => ?_)
                    | refine Need.mk (by first | omega | decide | rfl) ?_
                    | refine Idx.nat (by omega) ?_
                    | refine Idx.auto (by first | omega | decide) (by first | omega | decide) ?_
                    | refine Cell.ro rfl ?_
                    | refine SDraw.all (by kernel_rfl) ?_
                    | refine Kept.k0 ?_
                    | refine Kept.k1 ?_
                    | refine Kept.k2 ?_
                    | refine Kept.k3 ?_
                    | refine Kept.k4 ?_))
                all_goals (conv => whnf)
                exact hnext _ _ (hs ++ [((rn, cn, nowM M) : HR)]) rh2 ch2 (_ :: _ :: _ :: HB) H2 _ (by rw [hbuf]; exact List.Sublist.refl _) (by rw [hll]; exact .mk) hM1 hcy2 (hrows _ _) (by omega) (by omega) g2
              · have hne := sync_ne h0
                rw [hne] at hc16
                generalize (M.sync ym).1 = es at hc16 h0
                repeat' ((conv => whnf); (first
                    | refine RawV.copyS (L := ym) (f := cI) (k := 1) (bytes := 8) (hya.mono fun z hz => .tail _ (.tail _ (.tail _ (List.mem_append_right _ (List.mem_append_right _ hz))))) rfl (by kernel_rfl) (by decide) (fun _ => rfl) (fun y u hu => by obtain rfl := List.mem_singleton.1 hu; rfl) (by omega) (fun q2 c2 k3 k4 => ?_)
                    | refine SCalls.perm (SCalls.midH (_ :: _ :: _ :: HB) I (hc16 q2 c2 _ (fun H2 hM1 => ?_))) (List.perm_middle (l₁ := _ :: _ :: _ :: HB)).symm
                    | refine New.mk (fun _ => ?_)
                    | refine Look.at0 ?_
                    | refine Cell.row ?_
                    | refine Cell.buf ?_
                    | refine Cells.row rfl ?_
                    | refine Put.row rfl ?_
                    | refine Put.buf rfl ?_
                    | refine Look.at1 ?_
                    | refine Look.at2 ?_
                    | refine Look.at3 ?_
                    | refine Look.at4 ?_
                    | refine Look.at5 ?_
                    | refine Look.at6 ?_
                    | refine Look.at7 ?_
                    | refine Look.at8 ?_
                    | with_reducible refine Val.i64 (by omega) (by omega) ?_
                    | with_reducible refine Val.u8 (by omega) (by omega) ?_
                    | with_reducible refine Val.u32 (by omega) (by omega) ?_
                    | with_reducible refine Val.u64 (by omega) (by omega) ?_
                    | with_reducible refine Val.u8m ?_
                    | with_reducible refine Val.u32m ?_
                    | with_reducible refine Val.u64m ?_
                    | with_reducible refine Val.shr8 ?_
                    | with_reducible refine Val.shr16 (by decide) ?_
                    | with_reducible refine Val.shr24 (by decide) ?_
                    | with_reducible refine Val.raw ?_
                    | refine Branch.not ?_
                    | refine Branch.and ?_
                    | refine Branch.or ?_
                    | refine Branch.dt (by assumption) ?_
                    | refine Branch.df (by assumption) ?_
                    | refine Branch.dt rfl ?_
                    | refine Branch.dt (by omega) ?_
                    | refine Branch.df (by omega) ?_
                    | refine Branch.t rfl ?_
                    | refine Branch.f rfl ?_
                    | refine Branch.t (by assumption) ?_
                    | refine Branch.f (by assumption) ?_
                    | refine Branch.d (fun _ => ?_) (fun _ => ?_)
                    | refine Branch.mk (fun _ => ?_) (fun _ => ?_)
                    | refine Need.mk (by first | omega | decide | rfl) ?_
                    | refine Idx.nat (by omega) ?_
                    | refine Idx.auto (by first | omega | decide) (by first | omega | decide) ?_
                    | refine Cell.ro rfl ?_
                    | refine SDraw.all (by kernel_rfl) ?_
                    | refine Kept.k0 ?_
                    | refine Kept.k1 ?_
                    | refine Kept.k2 ?_
                    | refine Kept.k3 ?_
                    | refine Kept.k4 ?_))
                refine l4r (hs := hs) (hM1.mono fun z hz => (.tail _ (.tail _ (.tail _ (List.mem_append_right _ (List.mem_append_left _ hz)))))) (hin.mono fun z hz => (.tail _ (.tail _ (.tail _ (List.mem_append_right _ (List.mem_append_right _ hz)))))) (.tail _ (.tail _ (.head _))) (fun h hh => .tail _ (.tail _ (.tail _ (List.mem_append_left _ (hr h hh))))) hC (by omega) _ .mk (fun S i hS => ?_)
                cases hS
                repeat' ((conv => whnf); (first
                    | refine New.mk (fun _ => ?_)
                    | refine Look.at0 ?_
                    | refine Cell.row ?_
                    | refine Cell.buf ?_
                    | refine Cells.row rfl ?_
                    | refine Put.row rfl ?_
                    | refine Put.buf rfl ?_
                    | refine Look.at1 ?_
                    | refine Look.at2 ?_
                    | refine Look.at3 ?_
                    | refine Look.at4 ?_
                    | refine Look.at5 ?_
                    | refine Look.at6 ?_
                    | refine Look.at7 ?_
                    | refine Look.at8 ?_
                    | with_reducible refine Val.i64 (by omega) (by omega) ?_
                    | with_reducible refine Val.u8 (by omega) (by omega) ?_
                    | with_reducible refine Val.u32 (by omega) (by omega) ?_
                    | with_reducible refine Val.u64 (by omega) (by omega) ?_
                    | with_reducible refine Val.u8m ?_
                    | with_reducible refine Val.u32m ?_
                    | with_reducible refine Val.u64m ?_
                    | with_reducible refine Val.shr8 ?_
                    | with_reducible refine Val.shr16 (by decide) ?_
                    | with_reducible refine Val.shr24 (by decide) ?_
                    | with_reducible refine Val.raw ?_
                    | refine Branch.not ?_
                    | refine Branch.and ?_
                    | refine Branch.or ?_
                    | refine Branch.dt (by assumption) ?_
                    | refine Branch.df (by assumption) ?_
                    | refine Branch.dt rfl ?_
                    | refine Branch.dt (by omega) ?_
                    | refine Branch.df (by omega) ?_
                    | refine Branch.t rfl ?_
                    | refine Branch.f rfl ?_
                    | refine Branch.t (by assumption) ?_
                    | refine Branch.f (by assumption) ?_
                    | refine Branch.d (fun _ => ?_) (fun _ => ?_)
                    | refine Branch.mk (fun _ => ?_) (fun _ => ?_)
                    | refine Need.mk (by first | omega | decide | rfl) ?_
                    | refine Idx.nat (by omega) ?_
                    | refine Idx.auto (by first | omega | decide) (by first | omega | decide) ?_
                    | refine Cell.ro rfl ?_
                    | refine SDraw.all (by kernel_rfl) ?_
                    | refine Kept.k0 ?_
                    | refine Kept.k1 ?_
                    | refine Kept.k2 ?_
                    | refine Kept.k3 ?_
                    | refine Kept.k4 ?_))
                all_goals (conv => whnf)
                exact hnext _ _ hs rh ch HB H2 _ (List.Sublist.cons _ (List.Sublist.cons _ (List.Sublist.refl _))) .mk hM1 hC hr (by omega) hch1 hch2
          · by_cases k0 : yk = 0
            · subst k0
              repeat' ((conv => whnf); (first
                  | refine Look.cells hmH rfl hc ?_
                  | refine SCalls.midH (_ :: _ :: HB) I (c17 hM yn yv yx (fun H2 hM1 => ?_))
                  | refine New.mk (fun _ => ?_)
                  | refine Look.at0 ?_
                  | refine Cell.row ?_
                  | refine Cell.buf ?_
                  | refine Cells.row rfl ?_
                  | refine Put.row rfl ?_
                  | refine Put.buf rfl ?_
                  | refine Look.at1 ?_
                  | refine Look.at2 ?_
                  | refine Look.at3 ?_
                  | refine Look.at4 ?_
                  | refine Look.at5 ?_
                  | refine Look.at6 ?_
                  | refine Look.at7 ?_
                  | refine Look.at8 ?_
                  | with_reducible refine Val.i64 (by omega) (by omega) ?_
                  | with_reducible refine Val.u8 (by omega) (by omega) ?_
                  | with_reducible refine Val.u32 (by omega) (by omega) ?_
                  | with_reducible refine Val.u64 (by omega) (by omega) ?_
                  | with_reducible refine Val.u8m ?_
                  | with_reducible refine Val.u32m ?_
                  | with_reducible refine Val.u64m ?_
                  | with_reducible refine Val.shr8 ?_
                  | with_reducible refine Val.shr16 (by decide) ?_
                  | with_reducible refine Val.shr24 (by decide) ?_
                  | with_reducible refine Val.raw ?_
                  | refine Branch.not ?_
                  | refine Branch.and ?_
                  | refine Branch.or ?_
                  | refine Branch.dt (by assumption) ?_
                  | refine Branch.df (by assumption) ?_
                  | refine Branch.dt rfl ?_
                  | refine Branch.dt (by omega) ?_
                  | refine Branch.df (by omega) ?_
                  | refine Branch.t rfl ?_
                  | refine Branch.f rfl ?_
                  | refine Branch.t (by assumption) ?_
                  | refine Branch.f (by assumption) ?_
                  | refine Branch.d (fun _ => ?_) (fun _ => ?_)
                  | refine Branch.mk (fun _ => ?_) (fun _ => ?_)
                  | refine Need.mk (by first | omega | decide | rfl) ?_
                  | refine Idx.nat (by omega) ?_
                  | refine Idx.auto (by first | omega | decide) (by first | omega | decide) ?_
                  | refine Cell.ro rfl ?_
                  | refine SDraw.all (by kernel_rfl) ?_
                  | refine Kept.k0 ?_
                  | refine Kept.k1 ?_
                  | refine Kept.k2 ?_
                  | refine Kept.k3 ?_
                  | refine Kept.k4 ?_))
              refine l4r (hs := hs) (hM1.mono fun z hz => .tail _ (.tail _ (List.mem_append_right _ (List.mem_append_left _ hz)))) (hin.mono fun z hz => .tail _ (.tail _ (List.mem_append_right _ (List.mem_append_right _ hz)))) (.tail _ (.head _)) (fun h hh => .tail _ (.tail _ (List.mem_append_left _ (hr h hh)))) (cy_write hC yn yv yx) (by omega) _ .mk (fun S i hS => ?_)
              cases hS
              repeat' ((conv => whnf); (first
                  | refine New.mk (fun _ => ?_)
                  | refine Look.at0 ?_
                  | refine Cell.row ?_
                  | refine Cell.buf ?_
                  | refine Cells.row rfl ?_
                  | refine Put.row rfl ?_
                  | refine Put.buf rfl ?_
                  | refine Look.at1 ?_
                  | refine Look.at2 ?_
                  | refine Look.at3 ?_
                  | refine Look.at4 ?_
                  | refine Look.at5 ?_
                  | refine Look.at6 ?_
                  | refine Look.at7 ?_
                  | refine Look.at8 ?_
                  | with_reducible refine Val.i64 (by omega) (by omega) ?_
                  | with_reducible refine Val.u8 (by omega) (by omega) ?_
                  | with_reducible refine Val.u32 (by omega) (by omega) ?_
                  | with_reducible refine Val.u64 (by omega) (by omega) ?_
                  | with_reducible refine Val.u8m ?_
                  | with_reducible refine Val.u32m ?_
                  | with_reducible refine Val.u64m ?_
                  | with_reducible refine Val.shr8 ?_
                  | with_reducible refine Val.shr16 (by decide) ?_
                  | with_reducible refine Val.shr24 (by decide) ?_
                  | with_reducible refine Val.raw ?_
                  | refine Branch.not ?_
                  | refine Branch.and ?_
                  | refine Branch.or ?_
                  | refine Branch.dt (by assumption) ?_
                  | refine Branch.df (by assumption) ?_
                  | refine Branch.dt rfl ?_
                  | refine Branch.dt (by omega) ?_
                  | refine Branch.df (by omega) ?_
                  | refine Branch.t rfl ?_
                  | refine Branch.f rfl ?_
                  | refine Branch.t (by assumption) ?_
                  | refine Branch.f (by assumption) ?_
                  | refine Branch.d (fun _ => ?_) (fun _ => ?_)
                  | refine Branch.mk (fun _ => ?_) (fun _ => ?_)
                  | refine Need.mk (by first | omega | decide | rfl) ?_
                  | refine Idx.nat (by omega) ?_
                  | refine Idx.auto (by first | omega | decide) (by first | omega | decide) ?_
                  | refine Cell.ro rfl ?_
                  | refine SDraw.all (by kernel_rfl) ?_
                  | refine Kept.k0 ?_
                  | refine Kept.k1 ?_
                  | refine Kept.k2 ?_
                  | refine Kept.k3 ?_
                  | refine Kept.k4 ?_))
              all_goals (conv => whnf)
              exact hnext _ _ hs rh ch HB H2 _ (List.sublist_cons_self _ _) .mk hM1 (cy_write hC yn yv yx) hr (by omega) hch1 hch2
            · by_cases k2 : yk = 2
              · subst k2
                repeat' ((conv => whnf); (first
                    | refine Look.cells hmH rfl hc ?_
                    | refine SCalls.midH (_ :: _ :: HB) I (c12 hM yn (fun H2 hM1 => ?_))
                    | refine New.mk (fun _ => ?_)
                    | refine Look.at0 ?_
                    | refine Cell.row ?_
                    | refine Cell.buf ?_
                    | refine Cells.row rfl ?_
                    | refine Put.row rfl ?_
                    | refine Put.buf rfl ?_
                    | refine Look.at1 ?_
                    | refine Look.at2 ?_
                    | refine Look.at3 ?_
                    | refine Look.at4 ?_
                    | refine Look.at5 ?_
                    | refine Look.at6 ?_
                    | refine Look.at7 ?_
                    | refine Look.at8 ?_
                    | with_reducible refine Val.i64 (by omega) (by omega) ?_
                    | with_reducible refine Val.u8 (by omega) (by omega) ?_
                    | with_reducible refine Val.u32 (by omega) (by omega) ?_
                    | with_reducible refine Val.u64 (by omega) (by omega) ?_
                    | with_reducible refine Val.u8m ?_
                    | with_reducible refine Val.u32m ?_
                    | with_reducible refine Val.u64m ?_
                    | with_reducible refine Val.shr8 ?_
                    | with_reducible refine Val.shr16 (by decide) ?_
                    | with_reducible refine Val.shr24 (by decide) ?_
                    | with_reducible refine Val.raw ?_
                    | refine Branch.not ?_
                    | refine Branch.and ?_
                    | refine Branch.or ?_
                    | refine Branch.dt (by assumption) ?_
                    | refine Branch.df (by assumption) ?_
                    | refine Branch.dt rfl ?_
                    | refine Branch.dt (by omega) ?_
                    | refine Branch.df (by omega) ?_
                    | refine Branch.t rfl ?_
                    | refine Branch.f rfl ?_
                    | refine Branch.t (by assumption) ?_
                    | refine Branch.f (by assumption) ?_
                    | refine Branch.d (fun _ => ?_) (fun _ => ?_)
                    | refine Branch.mk (fun _ => ?_) (fun _ => ?_)
                    | refine Need.mk (by first | omega | decide | rfl) ?_
                    | refine Idx.nat (by omega) ?_
                    | refine Idx.auto (by first | omega | decide) (by first | omega | decide) ?_
                    | refine Cell.ro rfl ?_
                    | refine SDraw.all (by kernel_rfl) ?_
                    | refine Kept.k0 ?_
                    | refine Kept.k1 ?_
                    | refine Kept.k2 ?_
                    | refine Kept.k3 ?_
                    | refine Kept.k4 ?_))
                refine l4r (hs := hs) (hM1.mono fun z hz => .tail _ (.tail _ (List.mem_append_right _ (List.mem_append_left _ hz)))) (hin.mono fun z hz => .tail _ (.tail _ (List.mem_append_right _ (List.mem_append_right _ hz)))) (.tail _ (.head _)) (fun h hh => .tail _ (.tail _ (List.mem_append_left _ (hr h hh)))) (cy_lost hC yn) (by omega) _ .mk (fun S i hS => ?_)
                cases hS
                repeat' ((conv => whnf); (first
                    | refine New.mk (fun _ => ?_)
                    | refine Look.at0 ?_
                    | refine Cell.row ?_
                    | refine Cell.buf ?_
                    | refine Cells.row rfl ?_
                    | refine Put.row rfl ?_
                    | refine Put.buf rfl ?_
                    | refine Look.at1 ?_
                    | refine Look.at2 ?_
                    | refine Look.at3 ?_
                    | refine Look.at4 ?_
                    | refine Look.at5 ?_
                    | refine Look.at6 ?_
                    | refine Look.at7 ?_
                    | refine Look.at8 ?_
                    | with_reducible refine Val.i64 (by omega) (by omega) ?_
                    | with_reducible refine Val.u8 (by omega) (by omega) ?_
                    | with_reducible refine Val.u32 (by omega) (by omega) ?_
                    | with_reducible refine Val.u64 (by omega) (by omega) ?_
                    | with_reducible refine Val.u8m ?_
                    | with_reducible refine Val.u32m ?_
                    | with_reducible refine Val.u64m ?_
                    | with_reducible refine Val.shr8 ?_
                    | with_reducible refine Val.shr16 (by decide) ?_
                    | with_reducible refine Val.shr24 (by decide) ?_
                    | with_reducible refine Val.raw ?_
                    | refine Branch.not ?_
                    | refine Branch.and ?_
                    | refine Branch.or ?_
                    | refine Branch.dt (by assumption) ?_
                    | refine Branch.df (by assumption) ?_
                    | refine Branch.dt rfl ?_
                    | refine Branch.dt (by omega) ?_
                    | refine Branch.df (by omega) ?_
                    | refine Branch.t rfl ?_
                    | refine Branch.f rfl ?_
                    | refine Branch.t (by assumption) ?_
                    | refine Branch.f (by assumption) ?_
                    | refine Branch.d (fun _ => ?_) (fun _ => ?_)
                    | refine Branch.mk (fun _ => ?_) (fun _ => ?_)
                    | refine Need.mk (by first | omega | decide | rfl) ?_
                    | refine Idx.nat (by omega) ?_
                    | refine Idx.auto (by first | omega | decide) (by first | omega | decide) ?_
                    | refine Cell.ro rfl ?_
                    | refine SDraw.all (by kernel_rfl) ?_
                    | refine Kept.k0 ?_
                    | refine Kept.k1 ?_
                    | refine Kept.k2 ?_
                    | refine Kept.k3 ?_
                    | refine Kept.k4 ?_))
                all_goals (conv => whnf)
                exact hnext _ _ hs rh ch HB H2 _ (List.sublist_cons_self _ _) .mk hM1 (cy_lost hC yn) hr (by omega) hch1 hch2
              · repeat' ((conv => whnf); (first
                    | refine Look.cells hmH rfl hc ?_
                    | refine SCalls.midH (_ :: _ :: HB) I (c13 hM yn (fun H2 hM1 => ?_))
                    | refine New.mk (fun _ => ?_)
                    | refine Look.at0 ?_
                    | refine Cell.row ?_
                    | refine Cell.buf ?_
                    | refine Cells.row rfl ?_
                    | refine Put.row rfl ?_
                    | refine Put.buf rfl ?_
                    | refine Look.at1 ?_
                    | refine Look.at2 ?_
                    | refine Look.at3 ?_
                    | refine Look.at4 ?_
                    | refine Look.at5 ?_
                    | refine Look.at6 ?_
                    | refine Look.at7 ?_
                    | refine Look.at8 ?_
                    | with_reducible refine Val.i64 (by omega) (by omega) ?_
                    | with_reducible refine Val.u8 (by omega) (by omega) ?_
                    | with_reducible refine Val.u32 (by omega) (by omega) ?_
                    | with_reducible refine Val.u64 (by omega) (by omega) ?_
                    | with_reducible refine Val.u8m ?_
                    | with_reducible refine Val.u32m ?_
                    | with_reducible refine Val.u64m ?_
                    | with_reducible refine Val.shr8 ?_
                    | with_reducible refine Val.shr16 (by decide) ?_
                    | with_reducible refine Val.shr24 (by decide) ?_
                    | with_reducible refine Val.raw ?_
                    | refine Branch.not ?_
                    | refine Branch.and ?_
                    | refine Branch.or ?_
                    | refine Branch.dt (by assumption) ?_
                    | refine Branch.df (by assumption) ?_
                    | refine Branch.dt rfl ?_
                    | refine Branch.dt (by omega) ?_
                    | refine Branch.df (by omega) ?_
                    | refine Branch.t rfl ?_
                    | refine Branch.f rfl ?_
                    | refine Branch.t (by assumption) ?_
                    | refine Branch.f (by assumption) ?_
                    | refine Branch.d (fun _ => ?_) (fun _ => ?_)
                    | refine Branch.mk (fun _ => ?_) (fun _ => ?_)
                    | refine Need.mk (by first | omega | decide | rfl) ?_
                    | refine Idx.nat (by omega) ?_
                    | refine Idx.auto (by first | omega | decide) (by first | omega | decide) ?_
                    | refine Cell.ro rfl ?_
                    | refine SDraw.all (by kernel_rfl) ?_
                    | refine Kept.k0 ?_
                    | refine Kept.k1 ?_
                    | refine Kept.k2 ?_
                    | refine Kept.k3 ?_
                    | refine Kept.k4 ?_))
                refine l4r (hs := hs) (hM1.mono fun z hz => .tail _ (.tail _ (List.mem_append_right _ (List.mem_append_left _ hz)))) (hin.mono fun z hz => .tail _ (.tail _ (List.mem_append_right _ (List.mem_append_right _ hz)))) (.tail _ (.head _)) (fun h hh => .tail _ (.tail _ (List.mem_append_left _ (hr h hh)))) (cy_back hC yn) (by omega) _ .mk (fun S i hS => ?_)
                cases hS
                repeat' ((conv => whnf); (first
                    | refine New.mk (fun _ => ?_)
                    | refine Look.at0 ?_
                    | refine Cell.row ?_
                    | refine Cell.buf ?_
                    | refine Cells.row rfl ?_
                    | refine Put.row rfl ?_
                    | refine Put.buf rfl ?_
                    | refine Look.at1 ?_
                    | refine Look.at2 ?_
                    | refine Look.at3 ?_
                    | refine Look.at4 ?_
                    | refine Look.at5 ?_
                    | refine Look.at6 ?_
                    | refine Look.at7 ?_
                    | refine Look.at8 ?_
                    | with_reducible refine Val.i64 (by omega) (by omega) ?_
                    | with_reducible refine Val.u8 (by omega) (by omega) ?_
                    | with_reducible refine Val.u32 (by omega) (by omega) ?_
                    | with_reducible refine Val.u64 (by omega) (by omega) ?_
                    | with_reducible refine Val.u8m ?_
                    | with_reducible refine Val.u32m ?_
                    | with_reducible refine Val.u64m ?_
                    | with_reducible refine Val.shr8 ?_
                    | with_reducible refine Val.shr16 (by decide) ?_
                    | with_reducible refine Val.shr24 (by decide) ?_
                    | with_reducible refine Val.raw ?_
                    | refine Branch.not ?_
                    | refine Branch.and ?_
                    | refine Branch.or ?_
                    | refine Branch.dt (by assumption) ?_
                    | refine Branch.df (by assumption) ?_
                    | refine Branch.dt rfl ?_
                    | refine Branch.dt (by omega) ?_
                    | refine Branch.df (by omega) ?_
                    | refine Branch.t rfl ?_
                    | refine Branch.f rfl ?_
                    | refine Branch.t (by assumption) ?_
                    | refine Branch.f (by assumption) ?_
                    | refine Branch.d (fun _ => ?_) (fun _ => ?_)
                    | refine Branch.mk (fun _ => ?_) (fun _ => ?_)
                    | refine Need.mk (by first | omega | decide | rfl) ?_
                    | refine Idx.nat (by omega) ?_
                    | refine Idx.auto (by first | omega | decide) (by first | omega | decide) ?_
                    | refine Cell.ro rfl ?_
                    | refine SDraw.all (by kernel_rfl) ?_
                    | refine Kept.k0 ?_
                    | refine Kept.k1 ?_
                    | refine Kept.k2 ?_
                    | refine Kept.k3 ?_
                    | refine Kept.k4 ?_))
                all_goals (conv => whnf)
                exact hnext _ _ hs rh ch HB H2 _ (List.sublist_cons_self _ _) .mk hM1 (cy_back hC yn) hr (by omega) hch1 hch2
      · have e : j = Y.length := by omega
        subst e
        repeat' ((conv => whnf); (first
            | refine hc9 _ _ (fun N9 => ?_)
            | refine New.mk (fun _ => ?_)
            | refine Look.at0 ?_
            | refine Cell.row ?_
            | refine Cell.buf ?_
            | refine Cells.row rfl ?_
            | refine Put.row rfl ?_
            | refine Put.buf rfl ?_
            | refine Look.at1 ?_
            | refine Look.at2 ?_
            | refine Look.at3 ?_
            | refine Look.at4 ?_
            | refine Look.at5 ?_
            | refine Look.at6 ?_
            | refine Look.at7 ?_
            | refine Look.at8 ?_
            | with_reducible refine Val.i64 (by omega) (by omega) ?_
            | with_reducible refine Val.u8 (by omega) (by omega) ?_
            | with_reducible refine Val.u32 (by omega) (by omega) ?_
            | with_reducible refine Val.u64 (by omega) (by omega) ?_
            | with_reducible refine Val.u8m ?_
            | with_reducible refine Val.u32m ?_
            | with_reducible refine Val.u64m ?_
            | with_reducible refine Val.shr8 ?_
            | with_reducible refine Val.shr16 (by decide) ?_
            | with_reducible refine Val.shr24 (by decide) ?_
            | with_reducible refine Val.raw ?_
            | refine Branch.not ?_
            | refine Branch.and ?_
            | refine Branch.or ?_
            | refine Branch.dt (by assumption) ?_
            | refine Branch.df (by assumption) ?_
            | refine Branch.dt rfl ?_
            | refine Branch.dt (by omega) ?_
            | refine Branch.df (by omega) ?_
            | refine Branch.t rfl ?_
            | refine Branch.f rfl ?_
            | refine Branch.t (by assumption) ?_
            | refine Branch.f (by assumption) ?_
            | refine Branch.d (fun _ => ?_) (fun _ => ?_)
            | refine Branch.mk (fun _ => ?_) (fun _ => ?_)
            | refine Need.mk (by first | omega | decide | rfl) ?_
            | refine Idx.nat (by omega) ?_
            | refine Idx.auto (by first | omega | decide) (by first | omega | decide) ?_
            | refine Cell.ro rfl ?_
            | refine SDraw.all (by kernel_rfl) ?_
            | refine Kept.k0 ?_
            | refine Kept.k1 ?_
            | refine Kept.k2 ?_
            | refine Kept.k3 ?_
            | refine Kept.k4 ?_))
        all_goals (conv => whnf)
        exact Keep.sub [] (List.nil_sublist _) rfl
  · repeat' ((conv => whnf); (first
        | refine SDraw.held (by kernel_rfl) [_] (.same (.head _) .nil) ?_
        | refine Kept.mk (.same (.head _) .nil) ?_
        | refine SCalls.under [_] (c8 hin hbig hL (fun q c Lo N h1 h2 h3 => ?_))
        | refine SCalls.midH [_] I (hc7 _ h1 h2 h3 (fun hne => ?_) (fun he => absurd he hchk))
        | refine hc9 _ _ (fun N9 => ?_)
        | refine New.mk (fun _ => ?_)
        | refine Look.at0 ?_
        | refine Cell.row ?_
        | refine Cell.buf ?_
        | refine Cells.row rfl ?_
        | refine Put.row rfl ?_
        | refine Put.buf rfl ?_
        | refine Look.at1 ?_
        | refine Look.at2 ?_
        | refine Look.at3 ?_
        | refine Look.at4 ?_
        | refine Look.at5 ?_
        | refine Look.at6 ?_
        | refine Look.at7 ?_
        | refine Look.at8 ?_
        | with_reducible refine Val.i64 (by omega) (by omega) ?_
        | with_reducible refine Val.u8 (by omega) (by omega) ?_
        | with_reducible refine Val.u32 (by omega) (by omega) ?_
        | with_reducible refine Val.u64 (by omega) (by omega) ?_
        | with_reducible refine Val.u8m ?_
        | with_reducible refine Val.u32m ?_
        | with_reducible refine Val.u64m ?_
        | with_reducible refine Val.shr8 ?_
        | with_reducible refine Val.shr16 (by decide) ?_
        | with_reducible refine Val.shr24 (by decide) ?_
        | with_reducible refine Val.raw ?_
        | refine Branch.not ?_
        | refine Branch.and ?_
        | refine Branch.or ?_
        | refine Branch.dt (by assumption) ?_
        | refine Branch.df (by assumption) ?_
        | refine Branch.dt rfl ?_
        | refine Branch.dt (by omega) ?_
        | refine Branch.df (by omega) ?_
        | refine Branch.t rfl ?_
        | refine Branch.f rfl ?_
        | refine Branch.t (by assumption) ?_
        | refine Branch.f (by assumption) ?_
        | refine Branch.d (fun _ => ?_) (fun _ => ?_)
        | refine Branch.mk (fun _ => ?_) (fun _ => ?_)
        | refine Need.mk (by first | omega | decide | rfl) ?_
        | refine Idx.nat (by omega) ?_
        | refine Idx.auto (by first | omega | decide) (by first | omega | decide) ?_
        | refine Cell.ro rfl ?_
        | refine SDraw.all (by kernel_rfl) ?_
        | refine Kept.k0 ?_
        | refine Kept.k1 ?_
        | refine Kept.k2 ?_
        | refine Kept.k3 ?_
        | refine Kept.k4 ?_))
    all_goals (conv => whnf)
    all_goals exact Keep.sub [] (List.nil_sublist _) rfl
end
theorem ImageCyclesW (a0x0 : Int) (a0x1a : Option Addr) (a0x1l : Nat) (a0x1c : Nat) (a1a : Option Addr) (a1l : Nat) (a1c : Nat) (a2 : Bool) (w : World) (h0_0 : (Lit.int .i64 a0x0).wf = true) (h0_1 : SliceAt 2 B42 R42 w a0x1a a0x1l a0x1c) (h1_0 : SliceAt 5 B38 R38 w a1a a1l a1c) :
    Calls Try.prog 4 #[.agg #[.int .i64 a0x0, .slice a0x1a a0x1l a0x1c], .slice a1a a1l a1c, .bool a2] w fun e w' => e = .returned (.bool true) ∧ Go.RowKit.Below w.heap.size w w' := by
  obtain ⟨H1, L, rfl, hin, hb, hL, hw1, x1⟩ := inV_of h0_1
  have hcap := h1_0.1
  obtain ⟨H2, Y, rfl, hact, hw2, x2⟩ := inA_of h1_0
  have x := excl_join x1 x2
  exact (cycles_c (hin.mono fun p hp => List.mem_append_left _ hp) hb hL (fun p hp => kd_ro (x p hp)) (hact.mono fun p hp => List.mem_append_right _ hp) (fun a m c e => by injection e with _ e2 e3; omega) a2 a0x0).fin w (Holds.join hw1 hw2 x1 x2) x
end Go.Proofs.Ytjnlpaojaikjaaa

