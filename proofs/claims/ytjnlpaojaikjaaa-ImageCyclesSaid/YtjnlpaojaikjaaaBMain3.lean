/- Layer 26: what is missed is seen as it was: the law. -/
import Derived.Test.YtjnlpaojaikjaaaBMain2

set_option linter.unusedVariables false
set_option linter.unusedSimpArgs false
set_option maxRecDepth 100000
set_option maxHeartbeats 4000000
namespace Go.Proofs.Ytjnlpaojaikjaaa
open Sx
theorem flatO_mem : ∀ {vs : List Lv} {o : Nat} {s : Sg}, s ∈ flatO o vs → ∃ i w t, vs[i]? = some w ∧ t ∈ w.seen ∧ s = sg1 (o + i) t
  | [], o, s, h => by cases h
  | v :: vs, o, s, h => by
    rw [flatO] at h
    rcases List.mem_append.1 h with h | h
    · obtain ⟨t, ht, rfl⟩ := List.mem_map.1 h
      exact ⟨0, v, t, rfl, ht, rfl⟩
    · obtain ⟨i, w, t, h1, h2, rfl⟩ := flatO_mem h
      exact ⟨i + 1, w, t, h1, h2, by rw [show o + (i + 1) = o + 1 + i by omega]⟩
theorem flatO_len : ∀ (vs : List Lv) (o : Nat), (∀ v ∈ vs, v.seen.length ≤ 127) → (flatO o vs).length ≤ vs.length * 127
  | [], _, _ => by simp [flatO]
  | v :: vs, o, h => by
    rw [flatO, List.length_append, List.length_map, List.length_cons]
    have h1 := flatO_len vs (o + 1) fun w hw => h w (.tail _ hw)
    have h2 := h v (.head _)
    omega
theorem Lv.Ok.few {n : Nat} {v : Lv} (h : v.Ok n) (hn : n ≤ 127) : v.seen.length ≤ 127 := by
  have := nodup_le n (v.seen.map Prod.fst) h.once fun x hx => by
    obtain ⟨s, hs, rfl⟩ := List.mem_map.1 hx
    exact h.keys s hs
  rw [List.length_map] at this; omega
theorem isTh_all {th : List Bool} (h : ∀ b ∈ th, b = true) {n : Int} (h0 : 0 ≤ n) (h1 : n < (th.length : Int)) : isTh th n = true := by
  obtain ⟨b, hb, _, _⟩ := list_at (L := th) (j := n.toNat) (by omega)
  unfold isTh
  rw [hb]
  exact h b (List.mem_of_getElem? hb)
theorem missed_read {M : Mc} (hok : ∀ v ∈ M.vs, v.Ok M.there.length) (hT : ∀ b ∈ M.there, b = true) {xs : List Int} (h0 : (M.sync xs).1 = 0) {s : Sg} (hs : s ∈ flatO 0 M.vs) :
    (s.v ∈ xs → (M.sync xs).2.read s.nd s.v = (s.x, s.c, s.is)) ∧ (s.v ∉ xs → (M.sync xs).2.read s.nd s.v = ((M.sync xs).2.own s.v, (M.sync xs).2.cyc, true)) := by
  obtain ⟨i, w, t, hw, ht, rfl⟩ := flatO_mem hs
  rw [Nat.zero_add]
  have hil := (List.getElem?_eq_some_iff.1 hw).1
  have hwo := hok w (List.mem_of_getElem? hw)
  obtain ⟨j, hj, rfl⟩ := List.getElem_of_mem ht
  have hj' := List.getElem?_eq_getElem hj
  generalize w.seen[j] = t at hj' ht
  have hsy : (M.sync xs).2 = { M with cyc := incC M.cyc, vs := M.vs.mapIdx (syncV M.there xs (incC M.cyc)) } := by
    unfold Mc.sync at h0 ⊢
    split
    · rename_i h; rw [if_pos h] at h0; cases h0
    · rfl
  have hvi : (M.vs.mapIdx (syncV M.there xs (incC M.cyc)))[i]? = some (syncV M.there xs (incC M.cyc) i w) := by rw [List.getElem?_mapIdx, hw]; rfl
  rw [hsy, sg1_nd, sg1_v]
  constructor
  · intro hi
    unfold Mc.read
    dsimp only
    rw [List.length_mapIdx, if_pos (by omega), Int.toNat_natCast, hvi]
    have e : syncV M.there xs (incC M.cyc) i w = w := by unfold syncV; rw [if_neg (fun hc => hc.2 hi)]
    rw [e, Option.bind_some, getS_at hwo.once hj' rfl]
    obtain ⟨k, u⟩ := t
    cases u <;> rfl
  · intro hi
    have hpt := isTh_all hT hwo.prod.1 hwo.prod.2
    have hkt := isTh_all hT (hwo.keys t ht).1 (hwo.keys t ht).2
    have e : syncV M.there xs (incC M.cyc) i w = { w with seen := w.seen.map (see1 M.there w.own (incC M.cyc)) } := by unfold syncV; rw [if_pos ⟨hpt, hi⟩]
    unfold Mc.read Mc.own
    dsimp only
    rw [List.length_mapIdx, if_pos (by omega), if_pos (by omega), Int.toNat_natCast, hvi, e, Option.bind_some]
    have hn : ((w.seen.map (see1 M.there w.own (incC M.cyc))).map Prod.fst).Nodup := by
      rw [List.map_map]
      have : (Prod.fst ∘ see1 M.there w.own (incC M.cyc)) = Prod.fst := by funext s; exact see1_fst _ _ _ _
      rw [this]; exact hwo.once
    have hg : (w.seen.map (see1 M.there w.own (incC M.cyc)))[j]? = some (t.1, some (w.own, incC M.cyc)) := by
      rw [List.getElem?_map, hj']
      show some (see1 _ _ _ t) = _
      unfold see1; rw [if_pos hkt]
    dsimp only
    rw [getS_at hn hg rfl]
    rfl
theorem act_there {M : Mc} (y : ActI) (hy : y.kind < 2) : (M.act y).2.there = M.there := by
  unfold Mc.act
  split
  · unfold Mc.write; split
    · split
      · split
        · split <;> rfl
        · rfl
      · rfl
    · rfl
  · split
    · unfold Mc.sync; split <;> rfl
    · rw [if_neg (by omega), if_neg (by omega)]
inductive S5 (A1 A2 A3 A7 A9 A10 : Value) : List Value → Prop
  | mk {r0 r4 r5 r6 r8 r11 r12 r13 r14 r15 r16 r17 r18 r19 r20 r21 r22 r23 r24 r25 r26 r27 r28 r29 r30 r31 r32 r33 r34 r35 r36 r37 r38 r39 r40 r41 r42 r43 r44 r45 r46 r47 r48 r49 r50 r51 r52 r53 r54 r55 r56 r57 r58 r59 r60 r61 r62 r63 r64 r65 r66 r67 r68 r69 r70 r71 r72 r73 r74 r75 r76 r77 r78 r79 r80 r81 r82 r83 r84 r85 r86 r87 r88 r89 r90 r91 r92 r93 r94 r95 r96 r97 r98 r99 r100 r101 r102 r103 r104 r105 r106 r107 r108 r109 r110 r111 r112 r113 r114 r115 r116 r117 r118 r119 r120 r121 r122 r123 r124 r125 r126 r127 r128 r129 r130 r131 r132 r133 r134 r135 r136 r137 r138 r139 r140 r141 r142 r143 r144 r145 r146 r147 r148 r149 r150 r151 r152 r153 r154 r155 r156 r157 r158 r159 r160 r161 r162 r163 r164 r165 r166 r167 r168 r169 r170 r171 r172 r173 r174 r175 : Value} : S5 A1 A2 A3 A7 A9 A10 [r0, A1, A2, A3, r4, r5, r6, A7, r8, A9, A10, r11, r12, r13, r14, r15, r16, r17, r18, r19, r20, r21, r22, r23, r24, r25, r26, r27, r28, r29, r30, r31, r32, r33, r34, r35, r36, r37, r38, r39, r40, r41, r42, r43, r44, r45, r46, r47, r48, r49, r50, r51, r52, r53, r54, r55, r56, r57, r58, r59, r60, r61, r62, r63, r64, r65, r66, r67, r68, r69, r70, r71, r72, r73, r74, r75, r76, r77, r78, r79, r80, r81, r82, r83, r84, r85, r86, r87, r88, r89, r90, r91, r92, r93, r94, r95, r96, r97, r98, r99, r100, r101, r102, r103, r104, r105, r106, r107, r108, r109, r110, r111, r112, r113, r114, r115, r116, r117, r118, r119, r120, r121, r122, r123, r124, r125, r126, r127, r128, r129, r130, r131, r132, r133, r134, r135, r136, r137, r138, r139, r140, r141, r142, r143, r144, r145, r146, r147, r148, r149, r150, r151, r152, r153, r154, r155, r156, r157, r158, r159, r160, r161, r162, r163, r164, r165, r166, r167, r168, r169, r170, r171, r172, r173, r174, r175]
inductive S5a (A2 A7 A11 A12 : Value) : List Value → Prop
  | mk {r0 r1 r3 r4 r5 r6 r8 r9 r10 r13 r14 r15 r16 r17 r18 r19 r20 r21 r22 r23 r24 r25 r26 r27 r28 r29 r30 r31 r32 r33 r34 r35 r36 r37 r38 r39 r40 r41 r42 r43 r44 r45 r46 r47 r48 r49 r50 r51 r52 r53 r54 r55 r56 r57 r58 r59 r60 r61 r62 r63 r64 r65 r66 r67 r68 r69 r70 r71 r72 r73 r74 r75 r76 r77 r78 r79 r80 r81 r82 r83 r84 r85 r86 r87 r88 r89 r90 r91 r92 r93 r94 r95 r96 r97 r98 r99 r100 r101 r102 r103 r104 r105 r106 r107 r108 r109 r110 r111 r112 r113 r114 r115 r116 r117 r118 r119 r120 r121 r122 r123 r124 r125 r126 r127 r128 r129 r130 r131 r132 r133 r134 r135 r136 r137 r138 r139 r140 r141 r142 r143 r144 r145 r146 r147 r148 r149 r150 r151 r152 r153 r154 r155 r156 r157 r158 r159 r160 r161 r162 r163 r164 r165 r166 r167 r168 r169 r170 r171 r172 r173 r174 r175 : Value} : S5a A2 A7 A11 A12 [r0, r1, A2, r3, r4, r5, r6, A7, r8, r9, r10, A11, A12, r13, r14, r15, r16, r17, r18, r19, r20, r21, r22, r23, r24, r25, r26, r27, r28, r29, r30, r31, r32, r33, r34, r35, r36, r37, r38, r39, r40, r41, r42, r43, r44, r45, r46, r47, r48, r49, r50, r51, r52, r53, r54, r55, r56, r57, r58, r59, r60, r61, r62, r63, r64, r65, r66, r67, r68, r69, r70, r71, r72, r73, r74, r75, r76, r77, r78, r79, r80, r81, r82, r83, r84, r85, r86, r87, r88, r89, r90, r91, r92, r93, r94, r95, r96, r97, r98, r99, r100, r101, r102, r103, r104, r105, r106, r107, r108, r109, r110, r111, r112, r113, r114, r115, r116, r117, r118, r119, r120, r121, r122, r123, r124, r125, r126, r127, r128, r129, r130, r131, r132, r133, r134, r135, r136, r137, r138, r139, r140, r141, r142, r143, r144, r145, r146, r147, r148, r149, r150, r151, r152, r153, r154, r155, r156, r157, r158, r159, r160, r161, r162, r163, r164, r165, r166, r167, r168, r169, r170, r171, r172, r173, r174, r175]
inductive S5b (A2 A7 A11 A12 A13 A14 : Value) : List Value → Prop
  | mk {r0 r1 r3 r4 r5 r6 r8 r9 r10 r15 r16 r17 r18 r19 r20 r21 r22 r23 r24 r25 r26 r27 r28 r29 r30 r31 r32 r33 r34 r35 r36 r37 r38 r39 r40 r41 r42 r43 r44 r45 r46 r47 r48 r49 r50 r51 r52 r53 r54 r55 r56 r57 r58 r59 r60 r61 r62 r63 r64 r65 r66 r67 r68 r69 r70 r71 r72 r73 r74 r75 r76 r77 r78 r79 r80 r81 r82 r83 r84 r85 r86 r87 r88 r89 r90 r91 r92 r93 r94 r95 r96 r97 r98 r99 r100 r101 r102 r103 r104 r105 r106 r107 r108 r109 r110 r111 r112 r113 r114 r115 r116 r117 r118 r119 r120 r121 r122 r123 r124 r125 r126 r127 r128 r129 r130 r131 r132 r133 r134 r135 r136 r137 r138 r139 r140 r141 r142 r143 r144 r145 r146 r147 r148 r149 r150 r151 r152 r153 r154 r155 r156 r157 r158 r159 r160 r161 r162 r163 r164 r165 r166 r167 r168 r169 r170 r171 r172 r173 r174 r175 : Value} : S5b A2 A7 A11 A12 A13 A14 [r0, r1, A2, r3, r4, r5, r6, A7, r8, r9, r10, A11, A12, A13, A14, r15, r16, r17, r18, r19, r20, r21, r22, r23, r24, r25, r26, r27, r28, r29, r30, r31, r32, r33, r34, r35, r36, r37, r38, r39, r40, r41, r42, r43, r44, r45, r46, r47, r48, r49, r50, r51, r52, r53, r54, r55, r56, r57, r58, r59, r60, r61, r62, r63, r64, r65, r66, r67, r68, r69, r70, r71, r72, r73, r74, r75, r76, r77, r78, r79, r80, r81, r82, r83, r84, r85, r86, r87, r88, r89, r90, r91, r92, r93, r94, r95, r96, r97, r98, r99, r100, r101, r102, r103, r104, r105, r106, r107, r108, r109, r110, r111, r112, r113, r114, r115, r116, r117, r118, r119, r120, r121, r122, r123, r124, r125, r126, r127, r128, r129, r130, r131, r132, r133, r134, r135, r136, r137, r138, r139, r140, r141, r142, r143, r144, r145, r146, r147, r148, r149, r150, r151, r152, r153, r154, r155, r156, r157, r158, r159, r160, r161, r162, r163, r164, r165, r166, r167, r168, r169, r170, r171, r172, r173, r174, r175]
def I5 (av mv : Value) (p0 gm gd : Nat) (R0 : Blk) (L : List VarI) (sv : Value) (I : Heap) (Y : List ActI) (x : T6) (S : List Value) (H : Heap) : Prop :=
  x.j ≤ Y.length ∧ S5 av mv (ptr p0) (ptr gm) (ptr gd) (.int .i64 (x.j : Int)) S ∧ Mach gm x.ids x.M x.Hm ∧ Doc gd sv L I x.D x.Hd ∧ Rl (prods L) x.M x.D ∧ (∀ b ∈ x.M.there, b = true) ∧ H = (p0, R0) :: (x.Hm ++ x.Hd)
def I5a (mv : Value) (gm q1 c1 n : Nat) (G : Heap) (i : Nat) (S : List Value) (H : Heap) : Prop := i ≤ n ∧ S5a mv (ptr gm) (.slice (some ⟨q1, 0, none⟩) n c1) (.int .i64 (i : Int)) S ∧ H = G
def I5b (mv : Value) (gm : Nat) (wv iv : Value) (v : Int) (xs : List Int) (G : Heap) (k : Nat) (S : List Value) (H : Heap) : Prop := k ≤ xs.length ∧ S5b mv (ptr gm) wv iv (.bool (decide (v ∈ xs.take k))) (.int .i64 (k : Int)) S ∧ H = G
section
variable {I : Heap} {sv av mv : Value} {L : List VarI} {Y : List ActI} {xs : List Int}
theorem missed_c (hin : InV sv I L) (hbig : ∀ x ∈ L, x.cons.length * 8 ≤ 140737488355000) (hL : L.length * 32 ≤ 140737488355000) (hk0 : ∀ p ∈ I, kd p.2 = 5000) (hact : InA av I Y) (hxs : InS cI 1 mv I xs) (hxb : xs.length * 8 ≤ 140737488355000) (nodes : Int) : SCalls Try.prog 5 [.agg ⟨[.int .i64 nodes, sv]⟩, av, mv] I fun v _ => v = .bool true := by
  obtain ⟨sa, sc, rfl, hml⟩ := hin.sl.sv
  obtain ⟨aa, ac, rfl, hyl⟩ := hact.sl.sv
  obtain ⟨ma, mc, rfl, hxl⟩ := hxs.sv
  have hyl' : Y.length ≤ 9223372036854775807 := by simp only [maxLen] at hyl; omega
  have hxl' : xs.length ≤ 9223372036854775807 := by simp only [maxLen] at hxl; omega
  have hlg : ∀ Lo : List VarI, Lo.map VarI.lg = L.map VarI.lg → Lo.length = L.length ∧ ∀ x ∈ Lo, x.cons.length * 8 ≤ 140737488355000 := fun Lo he => by
    refine ⟨by simpa using congrArg List.length he, fun x hx => ?_⟩
    have : x.lg ∈ L.map VarI.lg := by rw [← he]; exact List.mem_map_of_mem hx
    obtain ⟨y, hy, e⟩ := List.mem_map.1 this
    have e2 : y.cons = x.cons := congrArg Prod.snd e
    rw [← e2]; exact hbig y hy
  have hc7 : ∀ {q c : Nat} {Lo : List VarI} {N : Heap} (K : Value → Heap → Prop), Lo.map VarI.lg = L.map VarI.lg → InV (.slice (some ⟨q, 0, none⟩) L.length c) N Lo → (∀ p ∈ N, kd p.2 = 1042 ∨ kd p.2 = 1003) →
      (chkV nodes (L.map VarI.lg) ≠ 0 → K (.tuple ⟨[.pointer none, .int .i64 (chkV nodes (L.map VarI.lg))]⟩) N) → (chkV nodes (L.map VarI.lg) = 0 → ∀ gm ids H', Mach gm ids (newM nodes.toNat (L.map VarI.lg)) H' → K (.tuple ⟨[ptr gm, .int .i64 0]⟩) H') → SCalls Try.prog 7 [.int .i64 nodes, .slice (some ⟨q, 0, none⟩) L.length c] N K := fun {q c Lo N} K h1 h2 h3 h4 h5 => by
    have := c7 (K := K) h2 (hlg Lo h1).2 (fun p hp => by rcases h3 p hp with e | e <;> omega) nodes
    rw [h1] at this
    exact this h4 h5
  refine enter5 ?_
  by_cases hchk : chkV nodes (L.map VarI.lg) = 0
  · obtain ⟨hn1, hn2, _, _⟩ := chk_zero hchk
    obtain ⟨n, rfl⟩ : ∃ n : Nat, nodes = (n : Int) := ⟨nodes.toNat, by omega⟩
    have hc10 := fun (H : Heap) (hI : ∀ p ∈ I, p ∈ H) (K : Value → Heap → Prop) hk => c10 (K := K) hin (fun p hp => ⟨hk0 p hp, hI p hp⟩) n hchk hk
    repeat' ((conv => whnf); (first
        | refine SDraw.held (by kernel_rfl) [_] (.same (.head _) .nil) ?_
        | refine Kept.mk (.same (.head _) .nil) ?_
        | refine SCalls.under [_] (c8 hin hbig hL (fun q c Lo N h1 h2 h3 => ?_))
        | refine SCalls.midH [_] I (hc7 _ h1 h2 h3 (fun hne => absurd hchk hne) (fun hz gm ids H1 hM => ?_))
        | refine SCalls.under (_ :: H1) (hc10 I (fun p hp => hp) _ (fun gd Hd hD => ?_))
        | refine New.mk (fun _ => ?_)
        | refine Look.at0 ?_
        | refine Cell.row ?_
        | refine Cell.buf ?_
        | refine Cells.row rfl ?_
        | refine Put.row rfl ?_
        | refine Put.buf rfl ?_
        | refine Look.at1 ?_
        | refine Look.at2 ?_
        | refine Look.at3 ?_
        | refine Look.at4 ?_
        | refine Look.at5 ?_
        | refine Look.at6 ?_
        | refine Look.at7 ?_
        | refine Look.at8 ?_
        | with_reducible refine Val.i64 (by omega) (by omega) ?_
        | with_reducible refine Val.u8 (by omega) (by omega) ?_
        | with_reducible refine Val.u32 (by omega) (by omega) ?_
        | with_reducible refine Val.u64 (by omega) (by omega) ?_
        | with_reducible refine Val.u8m ?_
        | with_reducible refine Val.u32m ?_
        | with_reducible refine Val.u64m ?_
        | with_reducible refine Val.shr8 ?_
        | with_reducible refine Val.shr16 (by decide) ?_
        | with_reducible refine Val.shr24 (by decide) ?_
        | with_reducible refine Val.raw ?_
        | refine Branch.not ?_
        | refine Branch.and ?_
        | refine Branch.or ?_
        | refine Branch.dt (by assumption) ?_
        | refine Branch.df (by assumption) ?_
        | refine Branch.dt rfl ?_
        | refine Branch.dt (by omega) ?_
        | refine Branch.df (by omega) ?_
        | refine Branch.t rfl ?_
        | refine Branch.f rfl ?_
        | refine Branch.t (by assumption) ?_
        | refine Branch.f (by assumption) ?_
        | refine Branch.d (fun _ => ?_) (fun _ => ?_)
        | refine Branch.mk (fun _ => ?_) (fun _ => ?_)
        | refine Need.mk (by first | omega | decide | rfl) ?_
        | refine Idx.nat (by omega) ?_
        | refine Idx.auto (by first | omega | decide) (by first | omega | decide) ?_
        | refine Cell.ro rfl ?_
        | refine SDraw.all (by kernel_rfl) ?_
        | refine Kept.k0 ?_
        | refine Kept.k1 ?_
        | refine Kept.k2 ?_
        | refine Kept.k3 ?_
        | refine Kept.k4 ?_))
    rename_i p0
    refine SLoop.invA (I5 (.slice aa Y.length ac) (.slice ma xs.length mc) p0 gm gd (.row 24 [.int .i64 (n : Int), .slice sa L.length sc] (0, 0)) L (.slice sa L.length sc) I Y) (fun x => Y.length - x.j) ⟨0, _, _, ids, H1, Hd⟩ (Keep.all ⟨Nat.zero_le _, .mk, hM, hD, rl_new n L, fun b hb => (List.mem_replicate.1 hb).2, rfl⟩) ?_
    clear hM hD hc10 h1 h2 h3 hc7
    rintro ⟨j, M, D, ids, Hm, Hd⟩ S H' ⟨hj, hS, hM, hD, hR, hT, rfl⟩ R hRR
    dsimp only at hj hS hM hD hR hT hRR ⊢
    cases hS
    by_cases hlt : j < Y.length
    · obtain ⟨y, hy, _, _⟩ := list_at hlt
      obtain ⟨r, o, c', b, e1, hm, hc⟩ := inS_at hact.sl (fun _ => rfl) hy
      injection e1 with e1 _ e3
      subst e1
      have hym := List.mem_of_getElem? hy
      have hmH : (r, b) ∈ (p0, Blk.row 24 [.int .i64 (n : Int), .slice sa L.length sc] (0, 0)) :: (Hm ++ Hd) := .tail _ (List.mem_append_right _ (hD.sub _ hm).2)
      have hc0 : b.cell (o + j * 5 + 0) = some (.int .i64 y.kind) := hc 0 _ rfl
      have hnext : ∀ S M1 D1 Hm' Hd', S5 (.slice (some ⟨r, o, none⟩) Y.length ac) (.slice ma xs.length mc) (ptr p0) (ptr gm) (ptr gd) (.int .i64 ((j + 1 : Nat) : Int)) S → Mach gm ids M1 Hm' → Doc gd (.slice sa L.length sc) L I D1 Hd' → Rl (prods L) M1 D1 → (∀ b ∈ M1.there, b = true) → R S ((p0, Blk.row 24 [.int .i64 (n : Int), .slice sa L.length sc] (0, 0)) :: (Hm' ++ Hd')) := fun S M1 D1 Hm' Hd' g1 g2 g3 g4 g5 =>
        hRR ⟨j + 1, M1, D1, ids, Hm', Hd'⟩ _ _ (by show Y.length - (j + 1) < Y.length - j; omega) (Keep.all ⟨by show j + 1 ≤ Y.length; omega, g1, g2, g3, g4, g5, rfl⟩)
      clear hRR
      have hc11 := fun (K : Value → Heap → Prop) hk => c11 (K := K) hM hD hR y (hact.el y hym) (hact.big y hym) hk
      by_cases hy2 : y.kind < 2
      · repeat' ((conv => whnf); (first
            | refine Look.cell hmH hc0 ?_
            | refine Look.cells hmH rfl hc ?_
            | refine SCalls.under [_] (hc11 _ (fun Hm' Hd' g1 g2 g3 => ?_))
            | refine New.mk (fun _ => ?_)
            | refine Look.at0 ?_
            | refine Cell.row ?_
            | refine Cell.buf ?_
            | refine Cells.row rfl ?_
            | refine Put.row rfl ?_
            | refine Put.buf rfl ?_
            | refine Look.at1 ?_
            | refine Look.at2 ?_
            | refine Look.at3 ?_
            | refine Look.at4 ?_
            | refine Look.at5 ?_
            | refine Look.at6 ?_
            | refine Look.at7 ?_
            | refine Look.at8 ?_
            | with_reducible refine Val.i64 (by omega) (by omega) ?_
            | with_reducible refine Val.u8 (by omega) (by omega) ?_
            | with_reducible refine Val.u32 (by omega) (by omega) ?_
            | with_reducible refine Val.u64 (by omega) (by omega) ?_
            | with_reducible refine Val.u8m ?_
            | with_reducible refine Val.u32m ?_
            | with_reducible refine Val.u64m ?_
            | with_reducible refine Val.shr8 ?_
            | with_reducible refine Val.shr16 (by decide) ?_
            | with_reducible refine Val.shr24 (by decide) ?_
            | with_reducible refine Val.raw ?_
            | refine Branch.not ?_
            | refine Branch.and ?_
            | refine Branch.or ?_
            | refine Branch.dt (by assumption) ?_
            | refine Branch.df (by assumption) ?_
            | refine Branch.dt rfl ?_
            | refine Branch.dt (by omega) ?_
            | refine Branch.df (by omega) ?_
            | refine Branch.t rfl ?_
            | refine Branch.f rfl ?_
            | refine Branch.t (by assumption) ?_
            | refine Branch.f (by assumption) ?_
            | refine Branch.d (fun _ => ?_) (fun _ => ?_)
            | refine Branch.mk (fun _ => ?_) (fun _ => ?_)
            | refine Need.mk (by first | omega | decide | rfl) ?_
            | refine Idx.nat (by omega) ?_
            | refine Idx.auto (by first | omega | decide) (by first | omega | decide) ?_
            | refine Cell.ro rfl ?_
            | refine SDraw.all (by kernel_rfl) ?_
            | refine Kept.k0 ?_
            | refine Kept.k1 ?_
            | refine Kept.k2 ?_
            | refine Kept.k3 ?_
            | refine Kept.k4 ?_))
        all_goals (conv => whnf)
        exact hnext _ _ _ Hm' Hd' .mk g1 g2 g3 (by rw [act_there y hy2]; exact hT)
      · repeat' ((conv => whnf); (first
            | refine Look.cell hmH hc0 ?_
            | refine New.mk (fun _ => ?_)
            | refine Look.at0 ?_
            | refine Cell.row ?_
            | refine Cell.buf ?_
            | refine Cells.row rfl ?_
            | refine Put.row rfl ?_
            | refine Put.buf rfl ?_
            | refine Look.at1 ?_
            | refine Look.at2 ?_
            | refine Look.at3 ?_
            | refine Look.at4 ?_
            | refine Look.at5 ?_
            | refine Look.at6 ?_
            | refine Look.at7 ?_
            | refine Look.at8 ?_
            | with_reducible refine Val.i64 (by omega) (by omega) ?_
            | with_reducible refine Val.u8 (by omega) (by omega) ?_
            | with_reducible refine Val.u32 (by omega) (by omega) ?_
            | with_reducible refine Val.u64 (by omega) (by omega) ?_
            | with_reducible refine Val.u8m ?_
            | with_reducible refine Val.u32m ?_
            | with_reducible refine Val.u64m ?_
            | with_reducible refine Val.shr8 ?_
            | with_reducible refine Val.shr16 (by decide) ?_
            | with_reducible refine Val.shr24 (by decide) ?_
            | with_reducible refine Val.raw ?_
            | refine Branch.not ?_
            | refine Branch.and ?_
            | refine Branch.or ?_
            | refine Branch.dt (by assumption) ?_
            | refine Branch.df (by assumption) ?_
            | refine Branch.dt rfl ?_
            | refine Branch.dt (by omega) ?_
            | refine Branch.df (by omega) ?_
            | refine Branch.t rfl ?_
            | refine Branch.f rfl ?_
            | refine Branch.t (by assumption) ?_
            | refine Branch.f (by assumption) ?_
            | refine Branch.d (fun _ => ?_) (fun _ => ?_)
            | refine Branch.mk (fun _ => ?_) (fun _ => ?_)
            | refine Need.mk (by first | omega | decide | rfl) ?_
            | refine Idx.nat (by omega) ?_
            | refine Idx.auto (by first | omega | decide) (by first | omega | decide) ?_
            | refine Cell.ro rfl ?_
            | refine SDraw.all (by kernel_rfl) ?_
            | refine Kept.k0 ?_
            | refine Kept.k1 ?_
            | refine Kept.k2 ?_
            | refine Kept.k3 ?_
            | refine Kept.k4 ?_))
        all_goals (conv => whnf)
        exact hnext _ _ _ Hm Hd .mk hM hD hR hT
    · have e : j = Y.length := by omega
      subst e
      obtain ⟨gt, nt, ct, go, la, lc, g1, g2, g3, g4⟩ := hD.ex
      have hSl : D.S.length ≤ 64 * 127 := by
        rw [hR.S]
        have := flatO_len M.vs 0 fun v hv => (hM.ok v hv).few hM.few.1
        have := hM.few.2
        omega
      have hinS : ∀ H, (∀ p ∈ Hd, p ∈ H) → InS Sg.cells 5 (.slice la D.S.length lc) H D.S := fun H hs => by
        rcases g4 with e | ⟨r, N, rfl, hm⟩
        · rw [e]; exact InS.nil
        · exact InS.buf (hs _ hm) rfl (fun _ => rfl) (by unfold maxLen; omega)
      have hxi := hxs.mono fun p hp => (hD.sub p hp).2
      have hr1 := (rl_sync hR xs).1
      have hread := fun (h0 : (M.sync xs).1 = 0) (s : Sg) (hs : s ∈ D.S) => missed_read (M := M) (xs := xs) hM.ok hT h0 (s := s) (by rw [← hR.S]; exact hs)
      have hc16 : ∀ (q : Nat) (c : Nat) (K : Value → Heap → Prop), (∀ H', Mach gm ids (M.sync xs).2 H' → K (.int .i64 (M.sync xs).1) H') → SCalls Try.prog 16 [ptr gm, .slice (some ⟨q, 0, none⟩) xs.length c] ((q, Blk.buf 3 (xs.flatMap cI) (c * 1)) :: Hm) K := fun q c K hk =>
        c16 (hM.mono fun z hz => .tail _ hz) (xs := xs) ⟨_, _, rfl, hxl, .inr ⟨q, _, rfl, .head _⟩⟩ hk
      have hc18 := fun (K : Value → Heap → Prop) hk => c18 (K := K) hD hxs hk
      rw [hr1] at hc18
      have hDS : ∀ a b : Nat × Blk, (gd, rowD gt D.there.length ct (.slice sa L.length sc) go D.own.length la D.S.length lc D.cyc) ∈ a :: b :: (Hm ++ Hd) := fun a b => .tail _ (.tail _ (List.mem_append_right _ g1))
      have hinS2 : ∀ a : Nat × Blk, InS Sg.cells 5 (.slice la D.S.length lc) (a :: (Hm ++ Hd)) D.S := fun a => hinS _ fun p hp => .tail _ (List.mem_append_right _ hp)
      have hxi2 : ∀ a b : Nat × Blk, InS cI 1 (.slice ma xs.length mc) (a :: b :: (Hm ++ Hd)) xs := fun a b => hxi.mono fun z hz => .tail _ (.tail _ (List.mem_append_right _ hz))
      generalize M.sync xs = ms at hc16 hc18 hread hr1
      obtain ⟨em, M2⟩ := ms
      dsimp only at hc16 hc18 hread hr1
      by_cases hem : em = 0
      · subst hem
        have hread := hread rfl
        repeat' ((conv => whnf); (first
            | refine Look.mem (hDS _ _) (fun _ _ _ => ?_)
            | refine RawV.copyS (L := D.S) (f := Sg.cells) (k := 5) (bytes := 40) (hinS2 _) rfl (by kernel_rfl) (by decide) (fun _ => rfl) (fun y u hu => by simp only [List.mem_cons, List.not_mem_nil, or_false] at hu; rcases hu with rfl | rfl | rfl | rfl | rfl <;> rfl) (by omega) (fun q1 c1 k1 k2 => ?_)
            | refine RawV.copyS (L := xs) (f := cI) (k := 1) (bytes := 8) (hxi2 _ _) rfl (by kernel_rfl) (by decide) (fun _ => rfl) (fun y u hu => by obtain rfl := List.mem_singleton.1 hu; rfl) (by omega) (fun q2 c2 k3 k4 => ?_)
            | refine SCalls.perm (SCalls.midH [_, _] Hd (hc16 q2 c2 _ (fun H3 hM3 => ?_))) (List.perm_middle (l₁ := [_, _])).symm
            | refine New.mk (fun _ => ?_)
            | refine Look.at0 ?_
            | refine Cell.row ?_
            | refine Cell.buf ?_
            | refine Cells.row rfl ?_
            | refine Put.row rfl ?_
            | refine Put.buf rfl ?_
            | refine Look.at1 ?_
            | refine Look.at2 ?_
            | refine Look.at3 ?_
            | refine Look.at4 ?_
            | refine Look.at5 ?_
            | refine Look.at6 ?_
            | refine Look.at7 ?_
            | refine Look.at8 ?_
            | with_reducible refine Val.i64 (by omega) (by omega) ?_
            | with_reducible refine Val.u8 (by omega) (by omega) ?_
            | with_reducible refine Val.u32 (by omega) (by omega) ?_
            | with_reducible refine Val.u64 (by omega) (by omega) ?_
            | with_reducible refine Val.u8m ?_
            | with_reducible refine Val.u32m ?_
            | with_reducible refine Val.u64m ?_
            | with_reducible refine Val.shr8 ?_
            | with_reducible refine Val.shr16 (by decide) ?_
            | with_reducible refine Val.shr24 (by decide) ?_
            | with_reducible refine Val.raw ?_
            | refine Branch.not ?_
            | refine Branch.and ?_
            | refine Branch.or ?_
            | refine Branch.dt (by assumption) ?_
            | refine Branch.df (by assumption) ?_
            | refine Branch.dt rfl ?_
            | refine Branch.dt (by omega) ?_
            | refine Branch.df (by omega) ?_
            | refine Branch.t rfl ?_
            | refine Branch.f rfl ?_
            | refine Branch.t (by assumption) ?_
            | refine Branch.f (by assumption) ?_
            | refine Branch.d (fun _ => ?_) (fun _ => ?_)
            | refine Branch.mk (fun _ => ?_) (fun _ => ?_)
            | refine Need.mk (by first | omega | decide | rfl) ?_
            | refine Idx.nat (by omega) ?_
            | refine Idx.auto (by first | omega | decide) (by first | omega | decide) ?_
            | refine Cell.ro rfl ?_
            | refine SDraw.all (by kernel_rfl) ?_
            | refine Kept.k0 ?_
            | refine Kept.k1 ?_
            | refine Kept.k2 ?_
            | refine Kept.k3 ?_
            | refine Kept.k4 ?_))
        have hMG : Mach gm ids M2 ([(q1, Blk.buf 58 (D.S.flatMap Sg.cells) (c1 * 5)), (p0, Blk.row 24 [.int .i64 (n : Int), .slice sa L.length sc] (0, 0))] ++ (H3 ++ Hd)) := hM3.mono fun z hz => List.mem_append_right _ (List.mem_append_left _ hz)
        have hxG : InS cI 1 (.slice ma xs.length mc) ([(q1, Blk.buf 58 (D.S.flatMap Sg.cells) (c1 * 5)), (p0, Blk.row 24 [.int .i64 (n : Int), .slice sa L.length sc] (0, 0))] ++ (H3 ++ Hd)) xs := hxi.mono fun z hz => List.mem_append_right _ (List.mem_append_right _ hz)
        have hqG : (q1, Blk.buf 58 (D.S.flatMap Sg.cells) (c1 * 5)) ∈ ([(q1, Blk.buf 58 (D.S.flatMap Sg.cells) (c1 * 5)), (p0, Blk.row 24 [.int .i64 (n : Int), .slice sa L.length sc] (0, 0))] ++ (H3 ++ Hd)) := .head _
        refine SLoop.invA (I5a (.slice ma xs.length mc) gm q1 c1 D.S.length ([(q1, Blk.buf 58 (D.S.flatMap Sg.cells) (c1 * 5)), (p0, Blk.row 24 [.int .i64 (n : Int), .slice sa L.length sc] (0, 0))] ++ (H3 ++ Hd))) (fun i => D.S.length - i) 0 (Keep.all ⟨Nat.zero_le _, .mk, rfl⟩) ?_
        generalize [(q1, Blk.buf 58 (D.S.flatMap Sg.cells) (c1 * 5)), (p0, Blk.row 24 [.int .i64 (n : Int), .slice sa L.length sc] (0, 0))] ++ (H3 ++ Hd) = G at hMG hxG hqG
        clear hM3 hxi hxi2 hinS hinS2 hDS g1 g2 g3 g4 hRR hM hD hc16 hc18 hR hT hr1
        rintro i S H' ⟨hi, hS, rfl⟩ R2 hR2
        cases hS
        by_cases hlt : i < D.S.length
        · obtain ⟨s, hs, _, _⟩ := list_at hlt
          obtain ⟨hrd1, hrd0⟩ := hread s (List.mem_of_getElem? hs)
          have hc0 : (Blk.buf 58 (D.S.flatMap Sg.cells) (c1 * 5)).cell (0 + i * 5 + 0) = some (.int .i64 s.nd) := flat_cell5 hs rfl
          have hc1 : (Blk.buf 58 (D.S.flatMap Sg.cells) (c1 * 5)).cell (0 + i * 5 + 1) = some (.int .i64 s.v) := flat_cell5 hs rfl
          have hc2 : (Blk.buf 58 (D.S.flatMap Sg.cells) (c1 * 5)).cell (0 + i * 5 + 2) = some (.int .u64 s.x) := flat_cell5 hs rfl
          have hc3 : (Blk.buf 58 (D.S.flatMap Sg.cells) (c1 * 5)).cell (0 + i * 5 + 3) = some (.int .u64 s.c) := flat_cell5 hs rfl
          have hc4 : (Blk.buf 58 (D.S.flatMap Sg.cells) (c1 * 5)).cell (0 + i * 5 + 4) = some (.bool s.is) := flat_cell5 hs rfl
          have hnext : ∀ S, S5a (.slice ma xs.length mc) (ptr gm) (.slice (some ⟨q1, 0, none⟩) D.S.length c1) (.int .i64 ((i + 1 : Nat) : Int)) S → R2 S H' := fun S h1 => hR2 (i + 1) _ _ (by omega) (Keep.all ⟨by omega, h1, rfl⟩)
          have hc14 := fun (K : Value → Heap → Prop) hk => c14 (K := K) hMG s.nd s.v hk
          have hc15 := fun (K : Value → Heap → Prop) hk => c15 (K := K) hMG s.v hk
          have hc19 := fun (K : Value → Heap → Prop) hk => c19 (K := K) hMG hk
          clear hR2 hread
          repeat' ((conv => whnf); (first
              | refine New.mk (fun _ => ?_)
              | refine Look.at0 ?_
              | refine Cell.row ?_
              | refine Cell.buf ?_
              | refine Cells.row rfl ?_
              | refine Put.row rfl ?_
              | refine Put.buf rfl ?_
              | refine Look.at1 ?_
              | refine Look.at2 ?_
              | refine Look.at3 ?_
              | refine Look.at4 ?_
              | refine Look.at5 ?_
              | refine Look.at6 ?_
              | refine Look.at7 ?_
              | refine Look.at8 ?_
              | with_reducible refine Val.i64 (by omega) (by omega) ?_
              | with_reducible refine Val.u8 (by omega) (by omega) ?_
              | with_reducible refine Val.u32 (by omega) (by omega) ?_
              | with_reducible refine Val.u64 (by omega) (by omega) ?_
              | with_reducible refine Val.u8m ?_
              | with_reducible refine Val.u32m ?_
              | with_reducible refine Val.u64m ?_
              | with_reducible refine Val.shr8 ?_
              | with_reducible refine Val.shr16 (by decide) ?_
              | with_reducible refine Val.shr24 (by decide) ?_
              | with_reducible refine Val.raw ?_
              | refine Branch.not ?_
              | refine Branch.and ?_
              | refine Branch.or ?_
              | refine Branch.dt (by assumption) ?_
              | refine Branch.df (by assumption) ?_
              | refine Branch.dt rfl ?_
              | refine Branch.dt (by omega) ?_
              | refine Branch.df (by omega) ?_
              | refine Branch.t rfl ?_
              | refine Branch.f rfl ?_
              | refine Branch.t (by assumption) ?_
              | refine Branch.f (by assumption) ?_
              | refine Branch.d (fun _ => ?_) (fun _ => ?_)
              | refine Branch.mk (fun _ => ?_) (fun _ => ?_)
              | refine Need.mk (by first | omega | decide | rfl) ?_
              | refine Idx.nat (by omega) ?_
              | refine Idx.auto (by first | omega | decide) (by first | omega | decide) ?_
              | refine Cell.ro rfl ?_
              | refine SDraw.all (by kernel_rfl) ?_
              | refine Kept.k0 ?_
              | refine Kept.k1 ?_
              | refine Kept.k2 ?_
              | refine Kept.k3 ?_
              | refine Kept.k4 ?_))
          refine SLoop.invA (I5b (.slice ma xs.length mc) gm (.slice (some ⟨q1, 0, none⟩) D.S.length c1) (.int .i64 (i : Int)) s.v xs H') (fun k => xs.length - k) 0 (Keep.all ⟨Nat.zero_le _, by simpa using .mk, rfl⟩) ?_
          rintro k S H2 ⟨hk, hS, rfl⟩ R3 hR3
          by_cases hlt2 : k < xs.length
          · obtain ⟨x, hx, _, htk⟩ := list_at hlt2
            obtain ⟨r2, o2, c2', b2, e12, hm2, hcx⟩ := hxG.at1 hx rfl
            injection e12 with e12 _ e32
            subst e12
            have hnext3 : ∀ S lf, decide (s.v ∈ xs.take (k + 1)) = lf → S5b (.slice (some ⟨r2, o2, none⟩) xs.length mc) (ptr gm) (.slice (some ⟨q1, 0, none⟩) D.S.length c1) (.int .i64 (i : Int)) (.bool lf) (.int .i64 ((k + 1 : Nat) : Int)) S → R3 S H2 := fun S lf h0 h1 => by
              subst h0
              exact hR3 (k + 1) _ _ (by omega) (Keep.all ⟨by omega, h1, rfl⟩)
            clear hR3 hnext
            have htm : decide (s.v ∈ xs.take (k + 1)) = (decide (s.v ∈ xs.take k) || decide (x = s.v)) := by
              rw [htk, Bool.eq_iff_iff]
              simp only [decide_eq_true_eq, Bool.or_eq_true, List.mem_append, List.mem_singleton]
              constructor
              · rintro (h | h)
                · exact .inl h
                · exact .inr h.symm
              · rintro (h | h)
                · exact .inl h
                · exact .inr h.symm
            generalize decide (s.v ∈ xs.take k) = lf0 at hS htm
            cases hS
            cases lf0 with
            | true =>
              repeat' ((conv => whnf); (first
                  | refine SDraw.held (by kernel_rfl) [(r2, b2), (q1, _)] (.same hm2 (.same hqG .nil)) ?_
                  | refine Look.cell (.head _) hcx ?_
                  | refine Look.cell (.tail _ (.head _)) hc1 ?_
                  | refine New.mk (fun _ => ?_)
                  | refine Look.at0 ?_
                  | refine Cell.row ?_
                  | refine Cell.buf ?_
                  | refine Cells.row rfl ?_
                  | refine Put.row rfl ?_
                  | refine Put.buf rfl ?_
                  | refine Look.at1 ?_
                  | refine Look.at2 ?_
                  | refine Look.at3 ?_
                  | refine Look.at4 ?_
                  | refine Look.at5 ?_
                  | refine Look.at6 ?_
                  | refine Look.at7 ?_
                  | refine Look.at8 ?_
                  | with_reducible refine Val.i64 (by omega) (by omega) ?_
                  | with_reducible refine Val.u8 (by omega) (by omega) ?_
                  | with_reducible refine Val.u32 (by omega) (by omega) ?_
                  | with_reducible refine Val.u64 (by omega) (by omega) ?_
                  | with_reducible refine Val.u8m ?_
                  | with_reducible refine Val.u32m ?_
                  | with_reducible refine Val.u64m ?_
                  | with_reducible refine Val.shr8 ?_
                  | with_reducible refine Val.shr16 (by decide) ?_
                  | with_reducible refine Val.shr24 (by decide) ?_
                  | with_reducible refine Val.raw ?_
                  | refine Branch.not ?_
                  | refine Branch.and ?_
                  | refine Branch.or ?_
                  | refine Branch.dt (by assumption) ?_
                  | refine Branch.df (by assumption) ?_
                  | refine Branch.dt rfl ?_
                  | refine Branch.dt (by omega) ?_
                  | refine Branch.df (by omega) ?_
                  | refine Branch.t rfl ?_
                  | refine Branch.f rfl ?_
                  | refine Branch.t (by assumption) ?_
                  | refine Branch.f (by assumption) ?_
                  | refine Branch.d (fun _ => ?_) (fun _ => ?_)
                  | refine Branch.mk (fun _ => ?_) (fun _ => ?_)
                  | refine Need.mk (by first | omega | decide | rfl) ?_
                  | refine Idx.nat (by omega) ?_
                  | refine Idx.auto (by first | omega | decide) (by first | omega | decide) ?_
                  | refine Cell.ro rfl ?_
                  | refine SDraw.all (by kernel_rfl) ?_
                  | refine Kept.k0 ?_
                  | refine Kept.k1 ?_
                  | refine Kept.k2 ?_
                  | refine Kept.k3 ?_
                  | refine Kept.k4 ?_))
              all_goals (conv => whnf)
              exact hnext3 _ true (by rw [htm]; rfl) .mk
            | false =>
              by_cases hxe : x = s.v
              · have hde : decide (x = s.v) = true := decide_eq_true hxe
                repeat' ((conv => whnf); (first
                    | refine SDraw.held (by kernel_rfl) [(r2, b2), (q1, _)] (.same hm2 (.same hqG .nil)) ?_
                    | refine Look.cell (.head _) hcx ?_
                    | refine Look.cell (.tail _ (.head _)) hc1 ?_
                    | rw [hde]
                    | refine New.mk (fun _ => ?_)
                    | refine Look.at0 ?_
                    | refine Cell.row ?_
                    | refine Cell.buf ?_
                    | refine Cells.row rfl ?_
                    | refine Put.row rfl ?_
                    | refine Put.buf rfl ?_
                    | refine Look.at1 ?_
                    | refine Look.at2 ?_
                    | refine Look.at3 ?_
                    | refine Look.at4 ?_
                    | refine Look.at5 ?_
                    | refine Look.at6 ?_
                    | refine Look.at7 ?_
                    | refine Look.at8 ?_
                    | with_reducible refine Val.i64 (by omega) (by omega) ?_
                    | with_reducible refine Val.u8 (by omega) (by omega) ?_
                    | with_reducible refine Val.u32 (by omega) (by omega) ?_
                    | with_reducible refine Val.u64 (by omega) (by omega) ?_
                    | with_reducible refine Val.u8m ?_
                    | with_reducible refine Val.u32m ?_
                    | with_reducible refine Val.u64m ?_
                    | with_reducible refine Val.shr8 ?_
                    | with_reducible refine Val.shr16 (by decide) ?_
                    | with_reducible refine Val.shr24 (by decide) ?_
                    | with_reducible refine Val.raw ?_
                    | refine Branch.not ?_
                    | refine Branch.and ?_
                    | refine Branch.or ?_
                    | refine Branch.dt (by assumption) ?_
                    | refine Branch.df (by assumption) ?_
                    | refine Branch.dt rfl ?_
                    | refine Branch.dt (by omega) ?_
                    | refine Branch.df (by omega) ?_
                    | refine Branch.t rfl ?_
                    | refine Branch.f rfl ?_
                    | refine Branch.t (by assumption) ?_
                    | refine Branch.f (by assumption) ?_
                    | refine Branch.d (fun _ => ?_) (fun _ => ?_)
                    | refine Branch.mk (fun _ => ?_) (fun _ => ?_)
                    | refine Need.mk (by first | omega | decide | rfl) ?_
                    | refine Idx.nat (by omega) ?_
                    | refine Idx.auto (by first | omega | decide) (by first | omega | decide) ?_
                    | refine Cell.ro rfl ?_
                    | refine SDraw.all (by kernel_rfl) ?_
                    | refine Kept.k0 ?_
                    | refine Kept.k1 ?_
                    | refine Kept.k2 ?_
                    | refine Kept.k3 ?_
                    | refine Kept.k4 ?_))
                all_goals (conv => whnf)
                all_goals exact hnext3 _ _ (by rw [htm]; first | rfl | (rw [hde]; rfl)) .mk
              · have hde : decide (x = s.v) = false := decide_eq_false hxe
                repeat' ((conv => whnf); (first
                    | refine SDraw.held (by kernel_rfl) [(r2, b2), (q1, _)] (.same hm2 (.same hqG .nil)) ?_
                    | refine Look.cell (.head _) hcx ?_
                    | refine Look.cell (.tail _ (.head _)) hc1 ?_
                    | rw [hde]
                    | refine New.mk (fun _ => ?_)
                    | refine Look.at0 ?_
                    | refine Cell.row ?_
                    | refine Cell.buf ?_
                    | refine Cells.row rfl ?_
                    | refine Put.row rfl ?_
                    | refine Put.buf rfl ?_
                    | refine Look.at1 ?_
                    | refine Look.at2 ?_
                    | refine Look.at3 ?_
                    | refine Look.at4 ?_
                    | refine Look.at5 ?_
                    | refine Look.at6 ?_
                    | refine Look.at7 ?_
                    | refine Look.at8 ?_
                    | with_reducible refine Val.i64 (by omega) (by omega) ?_
                    | with_reducible refine Val.u8 (by omega) (by omega) ?_
                    | with_reducible refine Val.u32 (by omega) (by omega) ?_
                    | with_reducible refine Val.u64 (by omega) (by omega) ?_
                    | with_reducible refine Val.u8m ?_
                    | with_reducible refine Val.u32m ?_
                    | with_reducible refine Val.u64m ?_
                    | with_reducible refine Val.shr8 ?_
                    | with_reducible refine Val.shr16 (by decide) ?_
                    | with_reducible refine Val.shr24 (by decide) ?_
                    | with_reducible refine Val.raw ?_
                    | refine Branch.not ?_
                    | refine Branch.and ?_
                    | refine Branch.or ?_
                    | refine Branch.dt (by assumption) ?_
                    | refine Branch.df (by assumption) ?_
                    | refine Branch.dt rfl ?_
                    | refine Branch.dt (by omega) ?_
                    | refine Branch.df (by omega) ?_
                    | refine Branch.t rfl ?_
                    | refine Branch.f rfl ?_
                    | refine Branch.t (by assumption) ?_
                    | refine Branch.f (by assumption) ?_
                    | refine Branch.d (fun _ => ?_) (fun _ => ?_)
                    | refine Branch.mk (fun _ => ?_) (fun _ => ?_)
                    | refine Need.mk (by first | omega | decide | rfl) ?_
                    | refine Idx.nat (by omega) ?_
                    | refine Idx.auto (by first | omega | decide) (by first | omega | decide) ?_
                    | refine Cell.ro rfl ?_
                    | refine SDraw.all (by kernel_rfl) ?_
                    | refine Kept.k0 ?_
                    | refine Kept.k1 ?_
                    | refine Kept.k2 ?_
                    | refine Kept.k3 ?_
                    | refine Kept.k4 ?_))
                all_goals (conv => whnf)
                all_goals exact hnext3 _ _ (by rw [htm]; first | rfl | (rw [hde]; rfl)) .mk
          · have e : k = xs.length := by omega
            subst e
            rw [List.take_length] at hS
            by_cases hmis : s.v ∈ xs
            · rw [decide_eq_true hmis] at hS
              cases hS
              rw [hrd1 hmis] at hc14
              obtain ⟨snd, sv', sx, scc, sis⟩ := s
              dsimp only at hc0 hc1 hc2 hc3 hc4 hc14 hc15
              cases sis
              all_goals
                repeat' ((conv => whnf); (first
                    | refine SDraw.held (by kernel_rfl) [(q1, _)] (.same hqG .nil) ?_
                    | refine Look.cell (.head _) hc0 ?_
                    | refine Look.cell (.head _) hc1 ?_
                    | refine Look.cell hqG hc1 ?_
                    | refine Look.cell hqG hc2 ?_
                    | refine Look.cell hqG hc3 ?_
                    | refine Look.cell hqG hc4 ?_
                    | refine hc14 _ ?_
                    | refine Kept.mk (.same hqG .nil) ?_
                    | refine New.mk (fun _ => ?_)
                    | refine Look.at0 ?_
                    | refine Cell.row ?_
                    | refine Cell.buf ?_
                    | refine Cells.row rfl ?_
                    | refine Put.row rfl ?_
                    | refine Put.buf rfl ?_
                    | refine Look.at1 ?_
                    | refine Look.at2 ?_
                    | refine Look.at3 ?_
                    | refine Look.at4 ?_
                    | refine Look.at5 ?_
                    | refine Look.at6 ?_
                    | refine Look.at7 ?_
                    | refine Look.at8 ?_
                    | with_reducible refine Val.i64 (by omega) (by omega) ?_
                    | with_reducible refine Val.u8 (by omega) (by omega) ?_
                    | with_reducible refine Val.u32 (by omega) (by omega) ?_
                    | with_reducible refine Val.u64 (by omega) (by omega) ?_
                    | with_reducible refine Val.u8m ?_
                    | with_reducible refine Val.u32m ?_
                    | with_reducible refine Val.u64m ?_
                    | with_reducible refine Val.shr8 ?_
                    | with_reducible refine Val.shr16 (by decide) ?_
                    | with_reducible refine Val.shr24 (by decide) ?_
                    | with_reducible refine Val.raw ?_
                    | refine Branch.not ?_
                    | refine Branch.and ?_
                    | refine Branch.or ?_
                    | refine Branch.dt (by assumption) ?_
                    | refine Branch.df (by assumption) ?_
                    | refine Branch.dt rfl ?_
                    | refine Branch.dt (by omega) ?_
                    | refine Branch.df (by omega) ?_
                    | refine Branch.t rfl ?_
                    | refine Branch.f rfl ?_
                    | refine Branch.t (by assumption) ?_
                    | refine Branch.f (by assumption) ?_
                    | refine Branch.d (fun _ => ?_) (fun _ => ?_)
                    | refine Branch.mk (fun _ => ?_) (fun _ => ?_)
                    | refine Need.mk (by first | omega | decide | rfl) ?_
                    | refine Idx.nat (by omega) ?_
                    | refine Idx.auto (by first | omega | decide) (by first | omega | decide) ?_
                    | refine Cell.ro rfl ?_
                    | refine SDraw.all (by kernel_rfl) ?_
                    | refine Kept.k0 ?_
                    | refine Kept.k1 ?_
                    | refine Kept.k2 ?_
                    | refine Kept.k3 ?_
                    | refine Kept.k4 ?_))
                all_goals (conv => whnf)
                all_goals exact hnext _ .mk
            · rw [decide_eq_false hmis] at hS
              cases hS
              rw [hrd0 hmis] at hc14
              repeat' ((conv => whnf); (first
                  | refine SDraw.held (by kernel_rfl) [(q1, _)] (.same hqG .nil) ?_
                  | refine Look.cell (.head _) hc0 ?_
                  | refine Look.cell (.head _) hc1 ?_
                  | refine Look.cell hqG hc1 ?_
                  | refine hc14 _ ?_
                  | refine hc15 _ ?_
                  | refine hc19 _ ?_
                  | refine Kept.mk (.same hqG .nil) ?_
                  | refine New.mk (fun _ => ?_)
                  | refine Look.at0 ?_
                  | refine Cell.row ?_
                  | refine Cell.buf ?_
                  | refine Cells.row rfl ?_
                  | refine Put.row rfl ?_
                  | refine Put.buf rfl ?_
                  | refine Look.at1 ?_
                  | refine Look.at2 ?_
                  | refine Look.at3 ?_
                  | refine Look.at4 ?_
                  | refine Look.at5 ?_
                  | refine Look.at6 ?_
                  | refine Look.at7 ?_
                  | refine Look.at8 ?_
                  | with_reducible refine Val.i64 (by omega) (by omega) ?_
                  | with_reducible refine Val.u8 (by omega) (by omega) ?_
                  | with_reducible refine Val.u32 (by omega) (by omega) ?_
                  | with_reducible refine Val.u64 (by omega) (by omega) ?_
                  | with_reducible refine Val.u8m ?_
                  | with_reducible refine Val.u32m ?_
                  | with_reducible refine Val.u64m ?_
                  | with_reducible refine Val.shr8 ?_
                  | with_reducible refine Val.shr16 (by decide) ?_
                  | with_reducible refine Val.shr24 (by decide) ?_
                  | with_reducible refine Val.raw ?_
                  | refine Branch.not ?_
                  | refine Branch.and ?_
                  | refine Branch.or ?_
                  | refine Branch.dt (by assumption) ?_
                  | refine Branch.df (by assumption) ?_
                  | refine Branch.dt rfl ?_
                  | refine Branch.dt (by omega) ?_
                  | refine Branch.df (by omega) ?_
                  | refine Branch.t rfl ?_
                  | refine Branch.f rfl ?_
                  | refine Branch.t (by assumption) ?_
                  | refine Branch.f (by assumption) ?_
                  | refine Branch.d (fun _ => ?_) (fun _ => ?_)
                  | refine Branch.mk (fun _ => ?_) (fun _ => ?_)
                  | refine Need.mk (by first | omega | decide | rfl) ?_
                  | refine Idx.nat (by omega) ?_
                  | refine Idx.auto (by first | omega | decide) (by first | omega | decide) ?_
                  | refine Cell.ro rfl ?_
                  | refine SDraw.all (by kernel_rfl) ?_
                  | refine Kept.k0 ?_
                  | refine Kept.k1 ?_
                  | refine Kept.k2 ?_
                  | refine Kept.k3 ?_
                  | refine Kept.k4 ?_))
              all_goals (conv => whnf)
              all_goals exact hnext _ .mk
        · have e : i = D.S.length := by omega
          subst e
          repeat' ((conv => whnf); (first
              | refine hc9 _ _ (fun N9 => ?_)
              | refine New.mk (fun _ => ?_)
              | refine Look.at0 ?_
              | refine Cell.row ?_
              | refine Cell.buf ?_
              | refine Cells.row rfl ?_
              | refine Put.row rfl ?_
              | refine Put.buf rfl ?_
              | refine Look.at1 ?_
              | refine Look.at2 ?_
              | refine Look.at3 ?_
              | refine Look.at4 ?_
              | refine Look.at5 ?_
              | refine Look.at6 ?_
              | refine Look.at7 ?_
              | refine Look.at8 ?_
              | with_reducible refine Val.i64 (by omega) (by omega) ?_
              | with_reducible refine Val.u8 (by omega) (by omega) ?_
              | with_reducible refine Val.u32 (by omega) (by omega) ?_
              | with_reducible refine Val.u64 (by omega) (by omega) ?_
              | with_reducible refine Val.u8m ?_
              | with_reducible refine Val.u32m ?_
              | with_reducible refine Val.u64m ?_
              | with_reducible refine Val.shr8 ?_
              | with_reducible refine Val.shr16 (by decide) ?_
              | with_reducible refine Val.shr24 (by decide) ?_
              | with_reducible refine Val.raw ?_
              | refine Branch.not ?_
              | refine Branch.and ?_
              | refine Branch.or ?_
              | refine Branch.dt (by assumption) ?_
              | refine Branch.df (by assumption) ?_
              | refine Branch.dt rfl ?_
              | refine Branch.dt (by omega) ?_
              | refine Branch.df (by omega) ?_
              | refine Branch.t rfl ?_
              | refine Branch.f rfl ?_
              | refine Branch.t (by assumption) ?_
              | refine Branch.f (by assumption) ?_
              | refine Branch.d (fun _ => ?_) (fun _ => ?_)
              | refine Branch.mk (fun _ => ?_) (fun _ => ?_)
              | refine Need.mk (by first | omega | decide | rfl) ?_
              | refine Idx.nat (by omega) ?_
              | refine Idx.auto (by first | omega | decide) (by first | omega | decide) ?_
              | refine Cell.ro rfl ?_
              | refine SDraw.all (by kernel_rfl) ?_
              | refine Kept.k0 ?_
              | refine Kept.k1 ?_
              | refine Kept.k2 ?_
              | refine Kept.k3 ?_
              | refine Kept.k4 ?_))
          all_goals (conv => whnf)
          exact Keep.sub [] (List.nil_sublist _) rfl
      · repeat' ((conv => whnf); (first
            | refine Look.mem (hDS _ _) (fun _ _ _ => ?_)
            | refine RawV.copyS (L := D.S) (f := Sg.cells) (k := 5) (bytes := 40) (hinS2 _) rfl (by kernel_rfl) (by decide) (fun _ => rfl) (fun y u hu => by simp only [List.mem_cons, List.not_mem_nil, or_false] at hu; rcases hu with rfl | rfl | rfl | rfl | rfl <;> rfl) (by omega) (fun q1 c1 k1 k2 => ?_)
            | refine RawV.copyS (L := xs) (f := cI) (k := 1) (bytes := 8) (hxi2 _ _) rfl (by kernel_rfl) (by decide) (fun _ => rfl) (fun y u hu => by obtain rfl := List.mem_singleton.1 hu; rfl) (by omega) (fun q2 c2 k3 k4 => ?_)
            | refine SCalls.perm (SCalls.midH [_, _] Hd (hc16 q2 c2 _ (fun H3 hM3 => ?_))) (List.perm_middle (l₁ := [_, _])).symm
            | refine SCalls.under ([_, _] ++ H3) (hc18 _ (fun H4 hD4 => ?_))
            | refine hc9 _ _ (fun N9 => ?_)
            | refine New.mk (fun _ => ?_)
            | refine Look.at0 ?_
            | refine Cell.row ?_
            | refine Cell.buf ?_
            | refine Cells.row rfl ?_
            | refine Put.row rfl ?_
            | refine Put.buf rfl ?_
            | refine Look.at1 ?_
            | refine Look.at2 ?_
            | refine Look.at3 ?_
            | refine Look.at4 ?_
            | refine Look.at5 ?_
            | refine Look.at6 ?_
            | refine Look.at7 ?_
            | refine Look.at8 ?_
            | with_reducible refine Val.i64 (by omega) (by omega) ?_
            | with_reducible refine Val.u8 (by omega) (by omega) ?_
            | with_reducible refine Val.u32 (by omega) (by omega) ?_
            | with_reducible refine Val.u64 (by omega) (by omega) ?_
            | with_reducible refine Val.u8m ?_
            | with_reducible refine Val.u32m ?_
            | with_reducible refine Val.u64m ?_
            | with_reducible refine Val.shr8 ?_
            | with_reducible refine Val.shr16 (by decide) ?_
            | with_reducible refine Val.shr24 (by decide) ?_
            | with_reducible refine Val.raw ?_
            | refine Branch.not ?_
            | refine Branch.and ?_
            | refine Branch.or ?_
            | refine Branch.dt (by assumption) ?_
            | refine Branch.df (by assumption) ?_
            | refine Branch.dt rfl ?_
            | refine Branch.dt (by omega) ?_
            | refine Branch.df (by omega) ?_
            | refine Branch.t rfl ?_
            | refine Branch.f rfl ?_
            | refine Branch.t (by assumption) ?_
            | refine Branch.f (by assumption) ?_
            | refine Branch.d (fun _ => ?_) (fun _ => ?_)
            | refine Branch.mk (fun _ => ?_) (fun _ => ?_)
            | refine Need.mk (by first | omega | decide | rfl) ?_
            | refine Idx.nat (by omega) ?_
            | refine Idx.auto (by first | omega | decide) (by first | omega | decide) ?_
            | refine Cell.ro rfl ?_
            | refine SDraw.all (by kernel_rfl) ?_
            | refine Kept.k0 ?_
            | refine Kept.k1 ?_
            | refine Kept.k2 ?_
            | refine Kept.k3 ?_
            | refine Kept.k4 ?_))
        all_goals (conv => whnf)
        all_goals exact Keep.sub [] (List.nil_sublist _) rfl
  · repeat' ((conv => whnf); (first
        | refine SDraw.held (by kernel_rfl) [_] (.same (.head _) .nil) ?_
        | refine Kept.mk (.same (.head _) .nil) ?_
        | refine SCalls.under [_] (c8 hin hbig hL (fun q c Lo N h1 h2 h3 => ?_))
        | refine SCalls.midH [_] I (hc7 _ h1 h2 h3 (fun hne => ?_) (fun he => absurd he hchk))
        | refine hc9 _ _ (fun N9 => ?_)
        | refine New.mk (fun _ => ?_)
        | refine Look.at0 ?_
        | refine Cell.row ?_
        | refine Cell.buf ?_
        | refine Cells.row rfl ?_
        | refine Put.row rfl ?_
        | refine Put.buf rfl ?_
        | refine Look.at1 ?_
        | refine Look.at2 ?_
        | refine Look.at3 ?_
        | refine Look.at4 ?_
        | refine Look.at5 ?_
        | refine Look.at6 ?_
        | refine Look.at7 ?_
        | refine Look.at8 ?_
        | with_reducible refine Val.i64 (by omega) (by omega) ?_
        | with_reducible refine Val.u8 (by omega) (by omega) ?_
        | with_reducible refine Val.u32 (by omega) (by omega) ?_
        | with_reducible refine Val.u64 (by omega) (by omega) ?_
        | with_reducible refine Val.u8m ?_
        | with_reducible refine Val.u32m ?_
        | with_reducible refine Val.u64m ?_
        | with_reducible refine Val.shr8 ?_
        | with_reducible refine Val.shr16 (by decide) ?_
        | with_reducible refine Val.shr24 (by decide) ?_
        | with_reducible refine Val.raw ?_
        | refine Branch.not ?_
        | refine Branch.and ?_
        | refine Branch.or ?_
        | refine Branch.dt (by assumption) ?_
        | refine Branch.df (by assumption) ?_
        | refine Branch.dt rfl ?_
        | refine Branch.dt (by omega) ?_
        | refine Branch.df (by omega) ?_
        | refine Branch.t rfl ?_
        | refine Branch.f rfl ?_
        | refine Branch.t (by assumption) ?_
        | refine Branch.f (by assumption) ?_
        | refine Branch.d (fun _ => ?_) (fun _ => ?_)
        | refine Branch.mk (fun _ => ?_) (fun _ => ?_)
        | refine Need.mk (by first | omega | decide | rfl) ?_
        | refine Idx.nat (by omega) ?_
        | refine Idx.auto (by first | omega | decide) (by first | omega | decide) ?_
        | refine Cell.ro rfl ?_
        | refine SDraw.all (by kernel_rfl) ?_
        | refine Kept.k0 ?_
        | refine Kept.k1 ?_
        | refine Kept.k2 ?_
        | refine Kept.k3 ?_
        | refine Kept.k4 ?_))
    all_goals (conv => whnf)
    all_goals exact Keep.sub [] (List.nil_sublist _) rfl
end
theorem ImageMissedW (a0x0 : Int) (a0x1a : Option Addr) (a0x1l : Nat) (a0x1c : Nat) (a1a : Option Addr) (a1l : Nat) (a1c : Nat) (a2a : Option Addr) (a2l : Nat) (a2c : Nat) (w : World) (h0_0 : (Lit.int .i64 a0x0).wf = true) (h0_1 : SliceAt 2 B42 R42 w a0x1a a0x1l a0x1c) (h1_0 : SliceAt 5 B38 R38 w a1a a1l a1c) (h2_0 : SliceAt 1 B3 R3 w a2a a2l a2c) :
    Calls Try.prog 5 #[.agg #[.int .i64 a0x0, .slice a0x1a a0x1l a0x1c], .slice a1a a1l a1c, .slice a2a a2l a2c] w fun e w' => e = .returned (.bool true) ∧ Go.RowKit.Below w.heap.size w w' := by
  obtain ⟨H1, L, rfl, hin, hb, hL, hw1, x1⟩ := inV_of h0_1
  obtain ⟨H2, Y, rfl, hact, hw2, x2⟩ := inA_of h1_0
  obtain ⟨H3, xs, rfl, hxs, _, hw3, x3⟩ := inS_of (f := cI) (Good := fun _ => True) h2_0 (by decide) (fun _ => rfl) (fun cs hc => int_of hc)
  have hxb : xs.length * 8 ≤ 140737488355000 := by
    have := h2_0.2.2.1
    have e : B3 = 8 := rfl
    rw [e] at this
    simp only [reachBytes] at this; omega
  have x12 := excl_join x1 x2
  have x := excl_join x12 x3
  exact (missed_c (hin.mono fun p hp => List.mem_append_left _ (List.mem_append_left _ hp)) hb hL (fun p hp => kd_ro (x p hp)) (hact.mono fun p hp => List.mem_append_left _ (List.mem_append_right _ hp)) (hxs.mono fun p hp => List.mem_append_right _ hp) hxb a0x0).fin w (Holds.join (Holds.join hw1 hw2 x1 x2) hw3 x12 x3) x
end Go.Proofs.Ytjnlpaojaikjaaa

/- Layer 26: a node that was gone saw nothing: the law. -/
set_option linter.unusedVariables false
set_option linter.unusedSimpArgs false
set_option maxRecDepth 100000
set_option maxHeartbeats 4000000
namespace Go.Proofs.Ytjnlpaojaikjaaa
open Sx
theorem getS_gone (l : List (Int × Option (Int × Int))) (n : Int) (xc : Int × Int) : getS (setS n none l) n ≠ some (some xc) := by
  unfold getS
  intro h
  cases hf : (setS n none l).find? (fun s => decide (s.1 = n)) with
  | none => rw [hf] at h; cases h
  | some s =>
    rw [hf] at h
    have hm := List.mem_of_find?_eq_some hf
    have hp := List.find?_some hf
    simp at hp
    unfold setS at hm
    obtain ⟨t, _, rfl⟩ := List.mem_map.1 hm
    split at hp
    · rename_i e
      simp [e] at h
    · rename_i e; exact e hp
theorem lost_gone {M : Mc} {n : Int} (h0 : 0 ≤ n ∧ n < (M.there.length : Int)) (h : (M.lost n).1 = 0) : (M.lost n).2.there[n.toNat]? = some false ∧ (M.lost n).2.there.length = M.there.length ∧ ∀ v, (M.lost n).2.read n v = (0, 0, false) := by
  have e : (M.lost n).2 = { M with there := M.there.set n.toNat false, vs := M.vs.map (lostV n) } := by
    unfold Mc.lost Mc.turn at h ⊢
    rw [if_pos h0] at h ⊢
    by_cases ht : M.there[n.toNat]? = some false
    · rw [if_pos ht] at h; rw [if_neg (fun e => by cases e)] at h; cases h
    · rw [if_neg ht, if_pos rfl]
  rw [e]
  refine ⟨?_, ?_, fun v => ?_⟩
  · show (M.there.set n.toNat false)[n.toNat]? = some false
    rw [List.getElem?_set, if_pos rfl, if_pos (by omega)]
  · show (M.there.set n.toNat false).length = _
    rw [List.length_set]
  · unfold Mc.read
    dsimp only
    split
    · rw [List.getElem?_map]
      cases M.vs[v.toNat]? with
      | none => rfl
      | some w =>
        show (match getS (setS n none w.seen) n with | some (some xc) => (xc.1, xc.2, true) | _ => (0, 0, false)) = _
        have := getS_gone w.seen n
        cases hg : getS (setS n none w.seen) n with
        | none => rfl
        | some o =>
          cases o with
          | none => rfl
          | some xc => exact absurd hg (this xc)
    · rfl
theorem lost_again {M : Mc} {n : Int} (h0 : 0 ≤ n ∧ n < (M.there.length : Int)) (h : (M.lost n).1 ≠ 0) : (M.turn n true).2.there.length = M.there.length ∧ ((M.turn n true).2.lost n).1 = 0 := by
  have ht : M.there[n.toNat]? = some false := by
    unfold Mc.lost Mc.turn at h
    rw [if_pos h0] at h
    by_cases ht : M.there[n.toNat]? = some false
    · exact ht
    · rw [if_neg ht, if_pos rfl] at h; exact absurd rfl h
  have e : (M.turn n true).2 = { M with there := M.there.set n.toNat true } := by
    unfold Mc.turn; rw [if_pos h0, if_neg (by rw [ht]; decide)]
  rw [e]
  refine ⟨by show (M.there.set _ _).length = _; rw [List.length_set], ?_⟩
  have e2 : ({ M with there := M.there.set n.toNat true } : Mc).turn n false = (0, { M with there := (M.there.set n.toNat true).set n.toNat false }) := by
    unfold Mc.turn
    dsimp only
    rw [List.length_set, if_pos h0, if_neg]
    rw [List.getElem?_set, if_pos rfl, if_pos (by omega)]
    decide
  unfold Mc.lost
  rw [e2, if_pos rfl]
theorem back_ok {M : Mc} {n : Int} (h0 : 0 ≤ n ∧ n < (M.there.length : Int)) (ht : M.there[n.toNat]? = some false) : (M.turn n true).1 = 0 ∧ ∀ c v, (M.turn n true).2.read c v = M.read c v := by
  have e : M.turn n true = (0, { M with there := M.there.set n.toNat true }) := by
    unfold Mc.turn; rw [if_pos h0, if_neg (by rw [ht]; decide)]
  rw [e]; exact ⟨rfl, fun c v => rfl⟩
theorem act_len {M : Mc} (y : ActI) : (M.act y).2.there.length = M.there.length := by
  have ht : ∀ n b, (M.turn n b).2.there.length = M.there.length := fun n b => by
    unfold Mc.turn; split
    · split
      · rfl
      · exact List.length_set ..
    · rfl
  unfold Mc.act
  split
  · unfold Mc.write; split
    · split
      · split
        · split <;> rfl
        · rfl
      · rfl
    · rfl
  · split
    · unfold Mc.sync; split <;> rfl
    · split
      · unfold Mc.lost; split
        · exact ht _ _
        · exact ht _ _
      · split
        · exact ht _ _
        · rfl
abbrev cW (p : Int × Int) : List Value := [.int .u64 p.1, .int .u64 p.2]
def rowW (M : Mc) (i : Nat) (cons : List Int) : List (Int × Int) := cons.map fun c => ((M.read c i).1, (M.read c i).2.1)
def wasW (M : Mc) (L : List VarI) : List (Int × Int) := (L.mapIdx fun i x => rowW M i x.cons).flatten
theorem wasW_next {M : Mc} {L : List VarI} {i : Nat} {x : VarI} (hx : L[i]? = some x) : wasW M (L.take (i + 1)) = wasW M (L.take i) ++ rowW M i x.cons := by
  have hlt := (List.getElem?_eq_some_iff.1 hx).1
  obtain ⟨y, hy, _, ht⟩ := list_at hlt
  rw [hx] at hy; injection hy with hy; subst hy
  unfold wasW
  rw [ht, List.mapIdx_concat, List.flatten_append, List.length_take, Nat.min_eq_left (by omega)]; simp
theorem wasW_le (M : Mc) : ∀ (k : Nat) (L : List VarI), (∀ x ∈ L, x.cons.length ≤ 127) → k ≤ L.length → (wasW M (L.take k)).length ≤ k * 127
  | 0, L, _, _ => by simp [wasW]
  | k + 1, L, h, hk => by
    obtain ⟨x, hx, _, _⟩ := list_at (L := L) (j := k) (by omega)
    rw [wasW_next hx, List.length_append]
    have h1 := wasW_le M k L h (by omega)
    have h2 := h x (List.mem_of_getElem? hx)
    have h3 : (rowW M k x.cons).length = x.cons.length := by unfold rowW; rw [List.length_map]
    omega
/-- What was read of the k-th consumer of variable i. -/
theorem wasW_at {M : Mc} {L : List VarI} {i k : Nat} {x : VarI} {c : Int} (hx : L[i]? = some x) (hc : x.cons[k]? = some c) : (wasW M L)[(wasW M (L.take i)).length + k]? = some ((M.read c i).1, (M.read c i).2.1) := by
  have h1 : wasW M (L.take (i + 1)) = wasW M (L.take i) ++ rowW M i x.cons := wasW_next hx
  have h2 : ∃ T, wasW M L = wasW M (L.take (i + 1)) ++ T := by
    refine ⟨(L.mapIdx fun i x => rowW M i x.cons).drop (i + 1) |>.flatten, ?_⟩
    have e : (L.take (i + 1)).mapIdx (fun i x => rowW M i x.cons) = (L.mapIdx fun i x => rowW M i x.cons).take (i + 1) := by
      refine List.ext_getElem? fun j => ?_
      rw [List.getElem?_mapIdx, List.getElem?_take, List.getElem?_take, List.getElem?_mapIdx]
      split <;> rfl
    unfold wasW
    rw [e, ← List.flatten_append, List.take_append_drop]
  obtain ⟨T, h2⟩ := h2
  have hk := (List.getElem?_eq_some_iff.1 hc).1
  have hl : (rowW M i x.cons).length = x.cons.length := by unfold rowW; rw [List.length_map]
  rw [h2, h1, List.append_assoc, List.getElem?_append_right (by omega), Nat.add_sub_cancel_left, List.getElem?_append_left (by omega)]
  unfold rowW
  rw [List.getElem?_map, hc]; rfl
end Go.Proofs.Ytjnlpaojaikjaaa

/- Layer 26: what is read is what the producer had then: plain laws. -/
set_option linter.unusedVariables false
set_option linter.unusedSimpArgs false
set_option maxRecDepth 100000
set_option maxHeartbeats 4000000
namespace Go.Proofs.Ytjnlpaojaikjaaa
open Sx
def nowM (M : Mc) : List Int := M.vs.map Lv.own
/-- A history of an image. -/
structure Cy (ks : List (List Int)) (calm : Bool) (M : Mc) (hist : List (List Int)) : Prop where
  len : (hist.length : Int) = M.cyc + 1
  pos : 0 < hist.length
  seen : ∀ (i : Nat) w, M.vs[i]? = some w → ∀ s ∈ w.seen, ∀ x c, s.2 = some (x, c) → 0 ≤ c ∧ c < (hist.length : Int) ∧ ∃ row, hist[c.toNat]? = some row ∧ row[i]? = some x
  rows : ∀ row ∈ hist, row.length = ks.length
  keys : M.vs.map (fun w => w.seen.map Prod.fst) = ks
  there : calm = true → ∀ b ∈ M.there, b = true
  all : calm = true → 1 < hist.length → ∀ w ∈ M.vs, ∀ s ∈ w.seen, ∃ x, s.2 = some (x, (hist.length : Int) - 1)
  ok : ∀ v ∈ M.vs, v.Ok M.there.length
theorem cy_new (n : Nat) (L : List VarI) (calm : Bool) (hok : ∀ v ∈ (newM n (L.map VarI.lg)).vs, v.Ok n) : Cy (L.map VarI.cons) calm (newM n (L.map VarI.lg)) [List.replicate L.length 0] := by
  have hs : ∀ w ∈ (newM n (L.map VarI.lg)).vs, ∀ s ∈ w.seen, s.2 = none := fun w hw s hs => by
    obtain ⟨x, _, rfl⟩ := List.mem_map.1 hw
    obtain ⟨k, _, rfl⟩ := List.mem_map.1 hs
    rfl
  refine ⟨rfl, by simp, fun i w hw s h x c e => ?_, fun row hr => ?_, ?_, fun _ b hb => (List.mem_replicate.1 hb).2, fun _ h => ?_, fun v hv => ?_⟩
  · rw [hs w (List.mem_of_getElem? hw) s h] at e; cases e
  · obtain rfl := List.mem_singleton.1 hr; simp
  · show ((L.map VarI.lg).map mkLv).map _ = _
    rw [List.map_map, List.map_map]
    refine List.map_congr_left fun x _ => ?_
    show (x.cons.map fun n => (n, none)).map Prod.fst = x.cons
    rw [List.map_map]
    exact List.map_id _
  · simp at h
  · show v.Ok (List.replicate n true).length
    rw [List.length_replicate]; exact hok v hv
theorem getE_some {α : Type} {l r : List α} {i : Nat} {x : α} (h : l[i]? = some x) : (l ++ r)[i]? = some x := by
  rw [List.getElem?_append_left (List.getElem?_eq_some_iff.1 h).1]; exact h
theorem see_fst (th : List Bool) (o c : Int) (l : List (Int × Option (Int × Int))) : (l.map (see1 th o c)).map Prod.fst = l.map Prod.fst := by
  rw [List.map_map]
  have : (Prod.fst ∘ see1 th o c) = Prod.fst := by funext s; exact see1_fst _ _ _ _
  rw [this]
theorem syncV_keys (th : List Bool) (xs : List Int) (c : Int) (i : Nat) (v : Lv) : (syncV th xs c i v).seen.map Prod.fst = v.seen.map Prod.fst := by
  unfold syncV; split
  · exact see_fst ..
  · rfl
theorem syncV_ok {th : List Bool} {xs : List Int} {c : Int} {i : Nat} {v : Lv} {n : Nat} (h : v.Ok n) : (syncV th xs c i v).Ok n := by
  have hk := syncV_keys th xs c i v
  refine ⟨by rw [syncV_prod]; exact h.prod, fun s hs => ?_, by rw [hk]; exact h.once⟩
  have : s.1 ∈ v.seen.map Prod.fst := by rw [← hk]; exact List.mem_map_of_mem hs
  obtain ⟨t, ht, e⟩ := List.mem_map.1 this
  rw [← e]; exact h.keys t ht
theorem cy_sync {ks : List (List Int)} {calm : Bool} {M : Mc} {hist : List (List Int)} (h : Cy ks calm M hist) {xs : List Int} (hx : calm = true → xs = []) (h0 : (M.sync xs).1 = 0) (hl : hist.length ≤ 400) : Cy ks calm (M.sync xs).2 (hist ++ [nowM M]) := by
  have hsy : (M.sync xs).2 = { M with cyc := incC M.cyc, vs := M.vs.mapIdx (syncV M.there xs (incC M.cyc)) } := by
    unfold Mc.sync at h0 ⊢
    split
    · rename_i h; rw [if_pos h] at h0; cases h0
    · rfl
  have hlen := h.len
  have hcy : incC M.cyc = (hist.length : Int) := by
    have h1 : M.cyc = (hist.length : Int) - 1 := by omega
    unfold incC
    rw [show M.cyc + 1 = (hist.length : Int) by omega]
    simp only [IntKind.wrap, IntKind.signed, IntKind.bits]
    first | omega | (simp; omega)
  rw [hsy, hcy]
  have hkl : ks.length = M.vs.length := by rw [← h.keys, List.length_map]
  refine ⟨?_, by simp, fun i w hw s hs x c e => ?_, fun row hr => ?_, ?_, h.there, fun hc _ w hw s hs => ?_, fun v hv => ?_⟩
  · rw [List.length_append]; show _ = (hist.length : Int) + 1; simp
  · rw [List.getElem?_mapIdx] at hw
    cases hv : M.vs[i]? with
    | none => rw [hv] at hw; cases hw
    | some v =>
      rw [hv] at hw
      injection hw with hw
      subst hw
      have hold : ∀ t ∈ v.seen, t.2 = some (x, c) → 0 ≤ c ∧ c < ((hist ++ [nowM M]).length : Int) ∧ ∃ row, (hist ++ [nowM M])[c.toNat]? = some row ∧ row[i]? = some x := fun t ht et => by
        obtain ⟨g1, g2, row, g3, g4⟩ := h.seen i v hv t ht x c et
        exact ⟨g1, by rw [List.length_append]; simp; omega, row, getE_some g3, g4⟩
      unfold syncV at hs
      split at hs
      · obtain ⟨t, ht, rfl⟩ := List.mem_map.1 hs
        unfold see1 at e
        split at e
        · injection e with e
          injection e with e1 e2
          subst e1; subst e2
          refine ⟨by omega, by rw [List.length_append]; simp; omega, nowM M, ?_, ?_⟩
          · rw [Int.toNat_natCast, List.getElem?_append_right (Nat.le_refl _)]; simp
          · unfold nowM; rw [List.getElem?_map, hv]; rfl
        · exact hold t ht e
      · exact hold s hs e
  · rcases List.mem_append.1 hr with hr | hr
    · exact h.rows row hr
    · obtain rfl := List.mem_singleton.1 hr
      unfold nowM; rw [List.length_map, hkl]
  · rw [← h.keys]
    exact map_mapIdx_same (f := syncV M.there xs (hist.length : Int)) (g := fun w => w.seen.map Prod.fst) (fun i v => syncV_keys _ _ _ i v) M.vs
  · obtain ⟨i, hi, rfl⟩ := List.mem_mapIdx.1 hw
    have hwo := h.ok _ (List.getElem_mem hi)
    have hT := h.there hc
    unfold syncV at hs
    rw [if_pos ⟨isTh_all hT hwo.prod.1 hwo.prod.2, by rw [hx hc]; simp⟩] at hs
    obtain ⟨t, ht, rfl⟩ := List.mem_map.1 hs
    refine ⟨M.vs[i].own, ?_⟩
    unfold see1
    rw [if_pos (isTh_all hT (hwo.keys t ht).1 (hwo.keys t ht).2), List.length_append]
    simp
  · obtain ⟨i, hi, rfl⟩ := List.mem_mapIdx.1 hv
    exact syncV_ok (h.ok _ (List.getElem_mem hi))
theorem cy_write {ks : List (List Int)} {calm : Bool} {M : Mc} {hist : List (List Int)} (h : Cy ks calm M hist) (nd v x : Int) : Cy ks calm (M.write nd v x).2 hist := by
  unfold Mc.write
  split
  · split
    · rename_i w hw
      split
      · split
        · have hseen : ∀ (u : Lv), u ∈ M.vs.set v.toNat { w with own := x } → ∃ u' ∈ M.vs, u'.seen = u.seen ∧ u'.prod = u.prod := fun u hu => by
            rcases List.mem_or_eq_of_mem_set hu with hu | rfl
            · exact ⟨u, hu, rfl, rfl⟩
            · exact ⟨w, List.mem_of_getElem? hw, rfl, rfl⟩
          refine ⟨h.len, h.pos, fun i u hu s hs a c e => ?_, h.rows, ?_, h.there, fun hc hl u hu s hs => ?_, fun u hu => ?_⟩
          · have hu : (M.vs.set v.toNat { w with own := x })[i]? = some u := hu
            rw [List.getElem?_set] at hu
            split at hu
            · rename_i hij
              split at hu
              · injection hu with hu
                subst hu; subst hij
                exact h.seen _ w hw s hs a c e
              · cases hu
            · exact h.seen i u hu s hs a c e
          · show (M.vs.set v.toNat _).map _ = ks
            rw [map_set_same (f := fun w : Lv => w.seen.map Prod.fst) (y := { w with own := x }) hw rfl]; exact h.keys
          · obtain ⟨u', hu', e1, _⟩ := hseen u hu
            exact h.all hc hl u' hu' s (by rw [e1]; exact hs)
          · obtain ⟨u', hu', e1, e2⟩ := hseen u hu
            have := h.ok u' hu'
            exact ⟨by rw [← e2]; exact this.prod, fun s hs => this.keys s (by rw [e1]; exact hs), by rw [← e1]; exact this.once⟩
        · exact h
      · exact h
    · exact h
  · exact h
theorem set_true {l : List Bool} {j : Nat} (h : ∀ b ∈ l, b = true) : ∀ b ∈ l.set j true, b = true := fun b hb => by
  rcases List.mem_or_eq_of_mem_set hb with hb | rfl
  · exact h b hb
  · rfl
theorem cy_back {ks : List (List Int)} {calm : Bool} {M : Mc} {hist : List (List Int)} (h : Cy ks calm M hist) (n : Int) : Cy ks calm (M.turn n true).2 hist := by
  unfold Mc.turn
  split
  · split
    · exact h
    · refine ⟨h.len, h.pos, h.seen, h.rows, h.keys, fun hc => set_true (h.there hc), h.all, fun v hv => ?_⟩
      show v.Ok (M.there.set n.toNat true).length
      rw [List.length_set]; exact h.ok v hv
  · exact h
theorem cy_lost {ks : List (List Int)} {M : Mc} {hist : List (List Int)} (h : Cy ks false M hist) (n : Int) : Cy ks false (M.lost n).2 hist := by
  by_cases h0 : (M.lost n).1 = 0
  · have hl : (M.lost n).2.there.length = M.there.length ∧ (M.lost n).2.vs = M.vs.map (lostV n) ∧ (M.lost n).2.cyc = M.cyc := by
      unfold Mc.lost Mc.turn at h0 ⊢
      by_cases hr : 0 ≤ n ∧ n < (M.there.length : Int)
      · rw [if_pos hr] at h0 ⊢
        by_cases hf : M.there[n.toNat]? = some false
        · rw [if_pos hf] at h0; rw [if_neg (fun e => by cases e)] at h0; cases h0
        · rw [if_neg hf, if_pos rfl]; exact ⟨List.length_set .., rfl, rfl⟩
      · rw [if_neg hr] at h0; rw [if_neg (fun e => by cases e)] at h0; cases h0
    obtain ⟨e1, e2, e3⟩ := hl
    refine ⟨by rw [e3]; exact h.len, h.pos, fun i w hw s hs x c e => ?_, h.rows, ?_, (fun hc => by cases hc), (fun hc => by cases hc), fun v hv => ?_⟩
    · rw [e2, List.getElem?_map] at hw
      cases hv : M.vs[i]? with
      | none => rw [hv] at hw; cases hw
      | some v =>
        rw [hv] at hw
        injection hw with hw
        subst hw
        obtain ⟨t, ht, rfl⟩ := List.mem_map.1 hs
        split at e
        · cases e
        · exact h.seen i v hv t ht x c e
    · rw [e2, List.map_map, ← h.keys]
      refine List.map_congr_left fun w _ => ?_
      exact setS_fst n none w.seen
    · rw [e2] at hv
      obtain ⟨w, hw, rfl⟩ := List.mem_map.1 hv
      have hwo := h.ok w hw
      rw [e1]
      have hk : (setS n none w.seen).map Prod.fst = w.seen.map Prod.fst := setS_fst n none w.seen
      refine ⟨hwo.prod, fun s hs => ?_, by show ((setS n none w.seen).map Prod.fst).Nodup; rw [hk]; exact hwo.once⟩
      have : s.1 ∈ w.seen.map Prod.fst := by rw [← hk]; exact List.mem_map_of_mem hs
      obtain ⟨t, ht, e⟩ := List.mem_map.1 this
      rw [← e]; exact hwo.keys t ht
  · rw [lost_ne0 h0]; exact h
where
  lost_ne0 {M : Mc} {n : Int} (h : (M.lost n).1 ≠ 0) : (M.lost n).2 = M := by
    unfold Mc.lost at h ⊢
    by_cases h1 : (M.turn n false).1 = 0
    · rw [if_pos h1] at h; exact absurd rfl h
    · rw [if_neg h1]
      unfold Mc.turn at h1 ⊢
      split
      · rename_i h2
        rw [if_pos h2] at h1
        split
        · rfl
        · rename_i h3
          rw [if_neg h3] at h1; exact absurd rfl h1
      · rfl
/-- What a consumer reads. -/
theorem cy_read {ks : List (List Int)} {calm : Bool} {M : Mc} {hist : List (List Int)} (h : Cy ks calm M hist) (n : Int) {i : Nat} {cons : List Int} (hi : ks[i]? = some cons) (hn : n ∈ cons) :
    0 ≤ (M.read n i).2.1 ∧ (M.read n i).2.1 < (hist.length : Int) ∧ ((M.read n i).2.2 = true → ∃ row, hist[(M.read n i).2.1.toNat]? = some row ∧ row[i]? = some (M.read n i).1) ∧ (calm = true → 1 < hist.length → (M.read n i).2.2 = true ∧ (M.read n i).2.1 = (hist.length : Int) - 1) := by
  have hpos := h.pos
  have hki : (M.vs.map fun w => w.seen.map Prod.fst)[i]? = some cons := by rw [h.keys]; exact hi
  rw [List.getElem?_map] at hki
  cases hw : M.vs[i]? with
  | none => rw [hw] at hki; cases hki
  | some w =>
    rw [hw] at hki
    injection hki with hki
    have hil := (List.getElem?_eq_some_iff.1 hw).1
    have hwm := List.mem_of_getElem? hw
    rw [← hki] at hn
    obtain ⟨s, hs, rfl⟩ := List.mem_map.1 hn
    obtain ⟨j, hj, rfl⟩ := List.getElem_of_mem hs
    have hj' := List.getElem?_eq_getElem hj
    generalize w.seen[j] = s at hj' hs
    have hg := getS_at (h.ok w hwm).once hj' rfl
    have hr : M.read s.1 i = match s.2 with | some xc => (xc.1, xc.2, true) | none => (0, 0, false) := by
      unfold Mc.read
      rw [if_pos (by omega), Int.toNat_natCast, hw, Option.bind_some, hg]
      cases s.2 <;> rfl
    rw [hr]
    cases hu : s.2 with
    | none =>
      dsimp only
      refine ⟨Int.le_refl 0, by omega, (fun e => by cases e), fun hc hl => ?_⟩
      obtain ⟨x, e⟩ := h.all hc hl w hwm s hs
      rw [hu] at e; cases e
    | some xc =>
      obtain ⟨x, c⟩ := xc
      obtain ⟨g1, g2, g3⟩ := h.seen i w hw s hs x c hu
      refine ⟨g1, g2, fun _ => g3, fun hc hl => ⟨rfl, ?_⟩⟩
      obtain ⟨x', e⟩ := h.all hc hl w hwm s hs
      rw [hu] at e
      injection e with e
      injection e with _ e
end Go.Proofs.Ytjnlpaojaikjaaa

/- Layer 26: what is read, against the history: by walks. -/
set_option linter.unusedVariables false
set_option linter.unusedSimpArgs false
set_option maxRecDepth 100000
set_option maxHeartbeats 4000000
namespace Go.Proofs.Ytjnlpaojaikjaaa
open Sx
/-- A row of the history: its address, capacity, numbers. -/
abbrev HR := Nat × Nat × List Int
abbrev cH (h : HR) : List Value := [.slice (some ⟨h.1, 0, none⟩) h.2.2.length h.2.1]
inductive S4r (A1 A2 A8 A9 A11 A12 A16 : Value) : List Value → Prop
  | mk {r0 r3 r4 r5 r6 r7 r10 r13 r14 r15 r17 r18 r19 r20 r21 r22 r23 r24 r25 r26 r27 r28 r29 r30 r31 r32 r33 r34 r35 r36 r37 r38 r39 r40 r41 r42 r43 r44 r45 r46 r47 r48 r49 r50 r51 r52 r53 r54 r55 r56 r57 r58 r59 r60 r61 r62 r63 r64 r65 r66 r67 r68 r69 r70 r71 r72 r73 r74 r75 r76 r77 r78 r79 r80 r81 r82 r83 r84 r85 r86 r87 r88 r89 r90 r91 r92 r93 r94 r95 r96 r97 r98 r99 r100 r101 r102 r103 r104 r105 r106 r107 r108 r109 r110 r111 r112 r113 r114 r115 r116 r117 r118 r119 r120 r121 r122 r123 r124 r125 r126 r127 r128 r129 r130 r131 r132 r133 r134 r135 r136 r137 r138 r139 r140 r141 r142 r143 r144 r145 r146 r147 r148 r149 r150 r151 r152 r153 r154 r155 r156 r157 r158 r159 r160 r161 r162 r163 r164 r165 r166 r167 r168 r169 r170 r171 r172 r173 r174 r175 r176 r177 r178 r179 r180 r181 r182 r183 r184 r185 r186 r187 r188 r189 : Value} : S4r A1 A2 A8 A9 A11 A12 A16 [r0, A1, A2, r3, r4, r5, r6, r7, A8, A9, r10, A11, A12, r13, r14, r15, A16, r17, r18, r19, r20, r21, r22, r23, r24, r25, r26, r27, r28, r29, r30, r31, r32, r33, r34, r35, r36, r37, r38, r39, r40, r41, r42, r43, r44, r45, r46, r47, r48, r49, r50, r51, r52, r53, r54, r55, r56, r57, r58, r59, r60, r61, r62, r63, r64, r65, r66, r67, r68, r69, r70, r71, r72, r73, r74, r75, r76, r77, r78, r79, r80, r81, r82, r83, r84, r85, r86, r87, r88, r89, r90, r91, r92, r93, r94, r95, r96, r97, r98, r99, r100, r101, r102, r103, r104, r105, r106, r107, r108, r109, r110, r111, r112, r113, r114, r115, r116, r117, r118, r119, r120, r121, r122, r123, r124, r125, r126, r127, r128, r129, r130, r131, r132, r133, r134, r135, r136, r137, r138, r139, r140, r141, r142, r143, r144, r145, r146, r147, r148, r149, r150, r151, r152, r153, r154, r155, r156, r157, r158, r159, r160, r161, r162, r163, r164, r165, r166, r167, r168, r169, r170, r171, r172, r173, r174, r175, r176, r177, r178, r179, r180, r181, r182, r183, r184, r185, r186, r187, r188, r189]
inductive S4s (A1 A2 A8 A9 A11 A12 A16 A17 : Value) : List Value → Prop
  | mk {r0 r3 r4 r5 r6 r7 r10 r13 r14 r15 r18 r19 r20 r21 r22 r23 r24 r25 r26 r27 r28 r29 r30 r31 r32 r33 r34 r35 r36 r37 r38 r39 r40 r41 r42 r43 r44 r45 r46 r47 r48 r49 r50 r51 r52 r53 r54 r55 r56 r57 r58 r59 r60 r61 r62 r63 r64 r65 r66 r67 r68 r69 r70 r71 r72 r73 r74 r75 r76 r77 r78 r79 r80 r81 r82 r83 r84 r85 r86 r87 r88 r89 r90 r91 r92 r93 r94 r95 r96 r97 r98 r99 r100 r101 r102 r103 r104 r105 r106 r107 r108 r109 r110 r111 r112 r113 r114 r115 r116 r117 r118 r119 r120 r121 r122 r123 r124 r125 r126 r127 r128 r129 r130 r131 r132 r133 r134 r135 r136 r137 r138 r139 r140 r141 r142 r143 r144 r145 r146 r147 r148 r149 r150 r151 r152 r153 r154 r155 r156 r157 r158 r159 r160 r161 r162 r163 r164 r165 r166 r167 r168 r169 r170 r171 r172 r173 r174 r175 r176 r177 r178 r179 r180 r181 r182 r183 r184 r185 r186 r187 r188 r189 : Value} : S4s A1 A2 A8 A9 A11 A12 A16 A17 [r0, A1, A2, r3, r4, r5, r6, r7, A8, A9, r10, A11, A12, r13, r14, r15, A16, A17, r18, r19, r20, r21, r22, r23, r24, r25, r26, r27, r28, r29, r30, r31, r32, r33, r34, r35, r36, r37, r38, r39, r40, r41, r42, r43, r44, r45, r46, r47, r48, r49, r50, r51, r52, r53, r54, r55, r56, r57, r58, r59, r60, r61, r62, r63, r64, r65, r66, r67, r68, r69, r70, r71, r72, r73, r74, r75, r76, r77, r78, r79, r80, r81, r82, r83, r84, r85, r86, r87, r88, r89, r90, r91, r92, r93, r94, r95, r96, r97, r98, r99, r100, r101, r102, r103, r104, r105, r106, r107, r108, r109, r110, r111, r112, r113, r114, r115, r116, r117, r118, r119, r120, r121, r122, r123, r124, r125, r126, r127, r128, r129, r130, r131, r132, r133, r134, r135, r136, r137, r138, r139, r140, r141, r142, r143, r144, r145, r146, r147, r148, r149, r150, r151, r152, r153, r154, r155, r156, r157, r158, r159, r160, r161, r162, r163, r164, r165, r166, r167, r168, r169, r170, r171, r172, r173, r174, r175, r176, r177, r178, r179, r180, r181, r182, r183, r184, r185, r186, r187, r188, r189]
def I4r (av cv sv gv hv jv : Value) (n : Nat) (G : Heap) (i : Nat) (S : List Value) (H : Heap) : Prop := i ≤ n ∧ S4r av cv sv gv hv jv (.int .i64 (i : Int)) S ∧ H = G
def I4s (av cv sv gv hv jv iv : Value) (n : Nat) (G : Heap) (k : Nat) (S : List Value) (H : Heap) : Prop := k ≤ n ∧ S4s av cv sv gv hv jv iv (.int .i64 (k : Int)) S ∧ H = G
section
variable {G : Heap} {gm : Nat} {ids : List (Nat × Nat)} {M : Mc} {L : List VarI} {hs : List HR} {calm : Bool} {rh ch : Nat}
theorem l4r {Qp : Post} {av sv jv : Value} (hM : Mach gm ids M G) (hin : InV sv G L) (hb : (rh, Blk.buf 47 (hs.flatMap cH) (ch * 1)) ∈ G) (hr : ∀ h ∈ hs, (h.1, Blk.buf 35 (h.2.2.map cU) (h.2.1 * 1)) ∈ G) (hC : Cy (L.map VarI.cons) calm M (hs.map fun h => h.2.2)) (hlen : hs.length ≤ 400)
    (S : List Value) (hS : S4r av (.bool calm) sv (ptr gm) (.slice (some ⟨rh, 0, none⟩) hs.length ch) jv (.int .i64 0) S)
    (hQ : ∀ S i, S4r av (.bool calm) sv (ptr gm) (.slice (some ⟨rh, 0, none⟩) hs.length ch) jv i S → Qp (.exit 4) S G) : SLoop Try.prog X4_l1 Qp S G := by
  obtain ⟨sa, sc, rfl, hml⟩ := hin.sl.sv
  have hml' : L.length ≤ 9223372036854775807 := by simp only [maxLen] at hml; omega
  refine SLoop.invA (I4r av (.bool calm) (.slice sa L.length sc) (ptr gm) (.slice (some ⟨rh, 0, none⟩) hs.length ch) jv L.length G) (fun i => L.length - i) 0 (Keep.all ⟨Nat.zero_le _, hS, rfl⟩) ?_
  rintro i S H' ⟨hi, hS, rfl⟩ R hR
  cases hS
  by_cases hlt : i < L.length
  · obtain ⟨x, hx, _, _⟩ := list_at hlt
    obtain ⟨rL, oL, cL, b, e1, hmL, hcL⟩ := inS_at hin.sl (fun _ => rfl) hx
    injection e1 with e1 _ e3
    subst e1
    have hxm := List.mem_of_getElem? hx
    have hel := hin.el x hxm
    have hki : (L.map VarI.cons)[i]? = some x.cons := by rw [List.getElem?_map, hx]; rfl
    obtain ⟨xpr, xco, xad, xcp⟩ := x
    dsimp only at hel hki
    have hc1 : b.cell (oL + i * 2 + 1) = some (.slice xad xco.length xcp) := hcL 1 _ rfl
    obtain ⟨_, _, _, hxl⟩ := hel.sv
    have hxl' : xco.length ≤ 9223372036854775807 := by simp only [maxLen] at hxl; omega
    have hnext : ∀ S, S4r av (.bool calm) (.slice (some ⟨rL, oL, none⟩) L.length sc) (ptr gm) (.slice (some ⟨rh, 0, none⟩) hs.length ch) jv (.int .i64 ((i + 1 : Nat) : Int)) S → R S H' := fun S h1 => hR (i + 1) _ _ (by omega) (Keep.all ⟨by omega, h1, rfl⟩)
    clear hR hQ
    repeat' ((conv => whnf); (first
        | refine New.mk (fun _ => ?_)
        | refine Look.at0 ?_
        | refine Cell.row ?_
        | refine Cell.buf ?_
        | refine Cells.row rfl ?_
        | refine Put.row rfl ?_
        | refine Put.buf rfl ?_
        | refine Look.at1 ?_
        | refine Look.at2 ?_
        | refine Look.at3 ?_
        | refine Look.at4 ?_
        | refine Look.at5 ?_
        | refine Look.at6 ?_
        | refine Look.at7 ?_
        | refine Look.at8 ?_
        | with_reducible refine Val.i64 (by omega) (by omega) ?_
        | with_reducible refine Val.u8 (by omega) (by omega) ?_
        | with_reducible refine Val.u32 (by omega) (by omega) ?_
        | with_reducible refine Val.u64 (by omega) (by omega) ?_
        | with_reducible refine Val.u8m ?_
        | with_reducible refine Val.u32m ?_
        | with_reducible refine Val.u64m ?_
        | with_reducible refine Val.shr8 ?_
        | with_reducible refine Val.shr16 (by decide) ?_
        | with_reducible refine Val.shr24 (by decide) ?_
        | with_reducible refine Val.raw ?_
        | refine Branch.not ?_
        | refine Branch.and ?_
        | refine Branch.or ?_
        | refine Branch.dt (by assumption) ?_
        | refine Branch.df (by assumption) ?_
        | refine Branch.dt rfl ?_
        | refine Branch.dt (by omega) ?_
        | refine Branch.df (by omega) ?_
        | refine Branch.t rfl ?_
        | refine Branch.f rfl ?_
        | refine Branch.t (by assumption) ?_
        | refine Branch.f (by assumption) ?_
        | refine Branch.d (fun _ => ?_) (fun _ => ?_)
        | refine Branch.mk (fun _ => ?_) (fun _ => ?_)
        | refine Need.mk (by first | omega | decide | rfl) ?_
        | refine Idx.nat (by omega) ?_
        | refine Idx.auto (by first | omega | decide) (by first | omega | decide) ?_
        | refine Cell.ro rfl ?_
        | refine SDraw.all (by kernel_rfl) ?_
        | refine Kept.k0 ?_
        | refine Kept.k1 ?_
        | refine Kept.k2 ?_
        | refine Kept.k3 ?_
        | refine Kept.k4 ?_))
    refine SLoop.invA (I4s av (.bool calm) (.slice (some ⟨rL, oL, none⟩) L.length sc) (ptr gm) (.slice (some ⟨rh, 0, none⟩) hs.length ch) jv (.int .i64 (i : Int)) xco.length H') (fun k => xco.length - k) 0 (Keep.all ⟨Nat.zero_le _, .mk, rfl⟩) ?_
    rintro k S H2 ⟨hk, hS, rfl⟩ R2 hR2
    cases hS
    by_cases hlt2 : k < xco.length
    · obtain ⟨y, hy, _, _⟩ := list_at hlt2
      obtain ⟨r2, o2, c2, b2, e12, hm2, hc2⟩ := hel.at1 hy rfl
      injection e12 with e12 _ e32
      subst e12
      have hnext2 : ∀ S, S4s av (.bool calm) (.slice (some ⟨rL, oL, none⟩) L.length sc) (ptr gm) (.slice (some ⟨rh, 0, none⟩) hs.length ch) jv (.int .i64 (i : Int)) (.int .i64 ((k + 1 : Nat) : Int)) S → R2 S H2 := fun S h1 => hR2 (k + 1) _ _ (by omega) (Keep.all ⟨by omega, h1, rfl⟩)
      clear hR2 hnext
      obtain ⟨q1, q2, q3, q4⟩ := cy_read hC y hki (List.mem_of_getElem? hy)
      have hc14 := fun (K : Value → Heap → Prop) hk => c14 (K := K) hM y i hk
      generalize M.read y i = rd at q1 q2 q3 q4 hc14
      obtain ⟨rx, rc, ri⟩ := rd
      dsimp only at q1 q2 q3 q4
      rw [List.length_map] at q2 q4
      have hc14 : ∀ K : Value → Heap → Prop, K (.tuple ⟨[.int .u64 rx, .int .u64 rc, .bool ri]⟩) H2 → SCalls Try.prog 14 [ptr gm, .int .i64 y, .int .i64 (i : Int)] H2 K := hc14
      have hw : ((hs.length : Int)) % 18446744073709551616 = (hs.length : Int) := by omega
      cases ri with
      | false =>
        cases calm with
        | false =>
          repeat' ((conv => whnf); (first
              | refine Look.cell hmL hc1 ?_
              | refine Look.cell hm2 hc2 ?_
              | refine hc14 _ ?_
              | refine New.mk (fun _ => ?_)
              | refine Look.at0 ?_
              | refine Cell.row ?_
              | refine Cell.buf ?_
              | refine Cells.row rfl ?_
              | refine Put.row rfl ?_
              | refine Put.buf rfl ?_
              | refine Look.at1 ?_
              | refine Look.at2 ?_
              | refine Look.at3 ?_
              | refine Look.at4 ?_
              | refine Look.at5 ?_
              | refine Look.at6 ?_
              | refine Look.at7 ?_
              | refine Look.at8 ?_
              | with_reducible refine Val.i64 (by omega) (by omega) ?_
              | with_reducible refine Val.u8 (by omega) (by omega) ?_
              | with_reducible refine Val.u32 (by omega) (by omega) ?_
              | with_reducible refine Val.u64 (by omega) (by omega) ?_
              | with_reducible refine Val.u8m ?_
              | with_reducible refine Val.u32m ?_
              | with_reducible refine Val.u64m ?_
              | with_reducible refine Val.shr8 ?_
              | with_reducible refine Val.shr16 (by decide) ?_
              | with_reducible refine Val.shr24 (by decide) ?_
              | with_reducible refine Val.raw ?_
              | refine Branch.not ?_
              | refine Branch.and ?_
              | refine Branch.or ?_
              | refine Branch.dt (by assumption) ?_
              | refine Branch.df (by assumption) ?_
              | refine Branch.dt rfl ?_
              | refine Branch.dt (by omega) ?_
              | refine Branch.df (by omega) ?_
              | refine Branch.t rfl ?_
              | refine Branch.f rfl ?_
              | refine Branch.t (by assumption) ?_
              | refine Branch.f (by assumption) ?_
              | refine Branch.d (fun _ => ?_) (fun _ => ?_)
              | refine Branch.mk (fun _ => ?_) (fun _ => ?_)
              | refine Need.mk (by first | omega | decide | rfl) ?_
              | refine Idx.nat (by omega) ?_
              | refine Idx.auto (by first | omega | decide) (by first | omega | decide) ?_
              | refine Cell.ro rfl ?_
              | refine SDraw.all (by kernel_rfl) ?_
              | refine Kept.k0 ?_
              | refine Kept.k1 ?_
              | refine Kept.k2 ?_
              | refine Kept.k3 ?_
              | refine Kept.k4 ?_))
          all_goals (conv => whnf)
          all_goals exact hnext2 _ .mk
        | true =>
          have hone : ¬ 1 < hs.length := fun h => by have := (q4 rfl h).1; cases this
          repeat' ((conv => whnf); (first
              | refine Look.cell hmL hc1 ?_
              | refine Look.cell hm2 hc2 ?_
              | refine hc14 _ ?_
              | refine New.mk (fun _ => ?_)
              | refine Look.at0 ?_
              | refine Cell.row ?_
              | refine Cell.buf ?_
              | refine Cells.row rfl ?_
              | refine Put.row rfl ?_
              | refine Put.buf rfl ?_
              | refine Look.at1 ?_
              | refine Look.at2 ?_
              | refine Look.at3 ?_
              | refine Look.at4 ?_
              | refine Look.at5 ?_
              | refine Look.at6 ?_
              | refine Look.at7 ?_
              | refine Look.at8 ?_
              | with_reducible refine Val.i64 (by omega) (by omega) ?_
              | with_reducible refine Val.u8 (by omega) (by omega) ?_
              | with_reducible refine Val.u32 (by omega) (by omega) ?_
              | with_reducible refine Val.u64 (by omega) (by omega) ?_
              | with_reducible refine Val.u8m ?_
              | with_reducible refine Val.u32m ?_
              | with_reducible refine Val.u64m ?_
              | with_reducible refine Val.shr8 ?_
              | with_reducible refine Val.shr16 (by decide) ?_
              | with_reducible refine Val.shr24 (by decide) ?_
              | with_reducible refine Val.raw ?_
              | refine Branch.not ?_
              | refine Branch.and ?_
              | refine Branch.or ?_
              | refine Branch.dt (by assumption) ?_
              | refine Branch.df (by assumption) ?_
              | refine Branch.dt rfl ?_
              | refine Branch.dt (by omega) ?_
              | refine Branch.df (by omega) ?_
              | refine Branch.t rfl ?_
              | refine Branch.f rfl ?_
              | refine Branch.t (by assumption) ?_
              | refine Branch.f (by assumption) ?_
              | refine Branch.d (fun _ => ?_) (fun _ => ?_)
              | refine Branch.mk (fun _ => ?_) (fun _ => ?_)
              | refine Need.mk (by first | omega | decide | rfl) ?_
              | refine Idx.nat (by omega) ?_
              | refine Idx.auto (by first | omega | decide) (by first | omega | decide) ?_
              | refine Cell.ro rfl ?_
              | refine SDraw.all (by kernel_rfl) ?_
              | refine Kept.k0 ?_
              | refine Kept.k1 ?_
              | refine Kept.k2 ?_
              | refine Kept.k3 ?_
              | refine Kept.k4 ?_))
          all_goals (conv => whnf)
          all_goals exact hnext2 _ .mk
      | true =>
        obtain ⟨row, hrow, hrx⟩ := q3 rfl
        rw [List.getElem?_map] at hrow
        cases hh : hs[rc.toNat]? with
        | none => rw [hh] at hrow; cases hrow
        | some h =>
          rw [hh] at hrow
          injection hrow with hrow
          have hhl := (List.getElem?_eq_some_iff.1 hh).1
          have hri := (List.getElem?_eq_some_iff.1 hrx).1
          have hhm := hr h (List.mem_of_getElem? hh)
          obtain ⟨ha, hc, hl⟩ := h
          dsimp only at hrow hhm
          subst hrow
          have hcell : (Blk.buf 47 (hs.flatMap cH) (ch * 1)).cell (0 + rc.toNat * 1) = some (.slice (some ⟨ha, 0, none⟩) hl.length hc) := by
            show (hs.flatMap cH)[0 + rc.toNat * 1]? = _
            have := flat_nth (f := cH) (k := 1) (fun _ => rfl) (i := 0) hh (by decide)
            rw [Nat.zero_add, ← Nat.add_zero (rc.toNat * 1), this]; rfl
          have hcellr : (Blk.buf 35 (hl.map cU) (hc * 1)).cell (0 + i * 1) = some (.int .u64 rx) := by
            show (hl.map cU)[0 + i * 1]? = _
            rw [Nat.zero_add, Nat.mul_one, List.getElem?_map, hrx]; rfl
          cases calm with
          | false =>
            repeat' ((conv => whnf); (first
                | refine Look.cell hmL hc1 ?_
                | refine Look.cell hm2 hc2 ?_
                | refine hc14 _ ?_
                | refine Idx.of rc.toNat (by omega) (by omega) ?_
                | refine Look.cell hb hcell ?_
                | refine Look.cell hhm hcellr ?_
                | refine New.mk (fun _ => ?_)
                | refine Look.at0 ?_
                | refine Cell.row ?_
                | refine Cell.buf ?_
                | refine Cells.row rfl ?_
                | refine Put.row rfl ?_
                | refine Put.buf rfl ?_
                | refine Look.at1 ?_
                | refine Look.at2 ?_
                | refine Look.at3 ?_
                | refine Look.at4 ?_
                | refine Look.at5 ?_
                | refine Look.at6 ?_
                | refine Look.at7 ?_
                | refine Look.at8 ?_
                | with_reducible refine Val.i64 (by omega) (by omega) ?_
                | with_reducible refine Val.u8 (by omega) (by omega) ?_
                | with_reducible refine Val.u32 (by omega) (by omega) ?_
                | with_reducible refine Val.u64 (by omega) (by omega) ?_
                | with_reducible refine Val.u8m ?_
                | with_reducible refine Val.u32m ?_
                | with_reducible refine Val.u64m ?_
                | with_reducible refine Val.shr8 ?_
                | with_reducible refine Val.shr16 (by decide) ?_
                | with_reducible refine Val.shr24 (by decide) ?_
                | with_reducible refine Val.raw ?_
                | refine Branch.not ?_
                | refine Branch.and ?_
                | refine Branch.or ?_
                | refine Branch.dt (by assumption) ?_
                | refine Branch.df (by assumption) ?_
                | refine Branch.dt rfl ?_
                | refine Branch.dt (by omega) ?_
                | refine Branch.df (by omega) ?_
                | refine Branch.t rfl ?_
                | refine Branch.f rfl ?_
                | refine Branch.t (by assumption) ?_
                | refine Branch.f (by assumption) ?_
                | refine Branch.d (fun _ => ?_) (fun _ => ?_)
                | refine Branch.mk (fun _ => ?_) (fun _ => ?_)
                | refine Need.mk (by first | omega | decide | rfl) ?_
                | refine Idx.nat (by omega) ?_
                | refine Idx.auto (by first | omega | decide) (by first | omega | decide) ?_
                | refine Cell.ro rfl ?_
                | refine SDraw.all (by kernel_rfl) ?_
                | refine Kept.k0 ?_
                | refine Kept.k1 ?_
                | refine Kept.k2 ?_
                | refine Kept.k3 ?_
                | refine Kept.k4 ?_))
            all_goals (conv => whnf)
            all_goals exact hnext2 _ .mk
          | true =>
            by_cases h1 : 1 < hs.length
            · have hrc := (q4 rfl h1).2
              repeat' ((conv => whnf); (first
                  | refine Look.cell hmL hc1 ?_
                  | refine Look.cell hm2 hc2 ?_
                  | refine hc14 _ ?_
                  | refine Idx.of rc.toNat (by omega) (by omega) ?_
                  | refine Look.cell hb hcell ?_
                  | refine Look.cell hhm hcellr ?_
                  | refine New.mk (fun _ => ?_)
                  | refine Look.at0 ?_
                  | refine Cell.row ?_
                  | refine Cell.buf ?_
                  | refine Cells.row rfl ?_
                  | refine Put.row rfl ?_
                  | refine Put.buf rfl ?_
                  | refine Look.at1 ?_
                  | refine Look.at2 ?_
                  | refine Look.at3 ?_
                  | refine Look.at4 ?_
                  | refine Look.at5 ?_
                  | refine Look.at6 ?_
                  | refine Look.at7 ?_
                  | refine Look.at8 ?_
                  | with_reducible refine Val.i64 (by omega) (by omega) ?_
                  | with_reducible refine Val.u8 (by omega) (by omega) ?_
                  | with_reducible refine Val.u32 (by omega) (by omega) ?_
                  | with_reducible refine Val.u64 (by omega) (by omega) ?_
                  | with_reducible refine Val.u8m ?_
                  | with_reducible refine Val.u32m ?_
                  | with_reducible refine Val.u64m ?_
                  | with_reducible refine Val.shr8 ?_
                  | with_reducible refine Val.shr16 (by decide) ?_
                  | with_reducible refine Val.shr24 (by decide) ?_
                  | with_reducible refine Val.raw ?_
                  | refine Branch.not ?_
                  | refine Branch.and ?_
                  | refine Branch.or ?_
                  | refine Branch.dt (by assumption) ?_
                  | refine Branch.df (by assumption) ?_
                  | refine Branch.dt rfl ?_
                  | refine Branch.dt (by omega) ?_
                  | refine Branch.df (by omega) ?_
                  | refine Branch.t rfl ?_
                  | refine Branch.f rfl ?_
                  | refine Branch.t (by assumption) ?_
                  | refine Branch.f (by assumption) ?_
                  | refine Branch.d (fun _ => ?_) (fun _ => ?_)
                  | refine Branch.mk (fun _ => ?_) (fun _ => ?_)
                  | refine Need.mk (by first | omega | decide | rfl) ?_
                  | refine Idx.nat (by omega) ?_
                  | refine Idx.auto (by first | omega | decide) (by first | omega | decide) ?_
                  | refine Cell.ro rfl ?_
                  | refine SDraw.all (by kernel_rfl) ?_
                  | refine Kept.k0 ?_
                  | refine Kept.k1 ?_
                  | refine Kept.k2 ?_
                  | refine Kept.k3 ?_
                  | refine Kept.k4 ?_))
              all_goals (conv => whnf)
              all_goals exact hnext2 _ .mk
            · repeat' ((conv => whnf); (first
                  | refine Look.cell hmL hc1 ?_
                  | refine Look.cell hm2 hc2 ?_
                  | refine hc14 _ ?_
                  | refine Idx.of rc.toNat (by omega) (by omega) ?_
                  | refine Look.cell hb hcell ?_
                  | refine Look.cell hhm hcellr ?_
                  | refine New.mk (fun _ => ?_)
                  | refine Look.at0 ?_
                  | refine Cell.row ?_
                  | refine Cell.buf ?_
                  | refine Cells.row rfl ?_
                  | refine Put.row rfl ?_
                  | refine Put.buf rfl ?_
                  | refine Look.at1 ?_
                  | refine Look.at2 ?_
                  | refine Look.at3 ?_
                  | refine Look.at4 ?_
                  | refine Look.at5 ?_
                  | refine Look.at6 ?_
                  | refine Look.at7 ?_
                  | refine Look.at8 ?_
                  | with_reducible refine Val.i64 (by omega) (by omega) ?_
                  | with_reducible refine Val.u8 (by omega) (by omega) ?_
                  | with_reducible refine Val.u32 (by omega) (by omega) ?_
                  | with_reducible refine Val.u64 (by omega) (by omega) ?_
                  | with_reducible refine Val.u8m ?_
                  | with_reducible refine Val.u32m ?_
                  | with_reducible refine Val.u64m ?_
                  | with_reducible refine Val.shr8 ?_
                  | with_reducible refine Val.shr16 (by decide) ?_
                  | with_reducible refine Val.shr24 (by decide) ?_
                  | with_reducible refine Val.raw ?_
                  | refine Branch.not ?_
                  | refine Branch.and ?_
                  | refine Branch.or ?_
                  | refine Branch.dt (by assumption) ?_
                  | refine Branch.df (by assumption) ?_
                  | refine Branch.dt rfl ?_
                  | refine Branch.dt (by omega) ?_
                  | refine Branch.df (by omega) ?_
                  | refine Branch.t rfl ?_
                  | refine Branch.f rfl ?_
                  | refine Branch.t (by assumption) ?_
                  | refine Branch.f (by assumption) ?_
                  | refine Branch.d (fun _ => ?_) (fun _ => ?_)
                  | refine Branch.mk (fun _ => ?_) (fun _ => ?_)
                  | refine Need.mk (by first | omega | decide | rfl) ?_
                  | refine Idx.nat (by omega) ?_
                  | refine Idx.auto (by first | omega | decide) (by first | omega | decide) ?_
                  | refine Cell.ro rfl ?_
                  | refine SDraw.all (by kernel_rfl) ?_
                  | refine Kept.k0 ?_
                  | refine Kept.k1 ?_
                  | refine Kept.k2 ?_
                  | refine Kept.k3 ?_
                  | refine Kept.k4 ?_))
              all_goals (conv => whnf)
              all_goals exact hnext2 _ .mk
    · have e : k = xco.length := by omega
      subst e
      repeat' ((conv => whnf); (first
          | refine Look.cell hmL hc1 ?_
          | refine New.mk (fun _ => ?_)
          | refine Look.at0 ?_
          | refine Cell.row ?_
          | refine Cell.buf ?_
          | refine Cells.row rfl ?_
          | refine Put.row rfl ?_
          | refine Put.buf rfl ?_
          | refine Look.at1 ?_
          | refine Look.at2 ?_
          | refine Look.at3 ?_
          | refine Look.at4 ?_
          | refine Look.at5 ?_
          | refine Look.at6 ?_
          | refine Look.at7 ?_
          | refine Look.at8 ?_
          | with_reducible refine Val.i64 (by omega) (by omega) ?_
          | with_reducible refine Val.u8 (by omega) (by omega) ?_
          | with_reducible refine Val.u32 (by omega) (by omega) ?_
          | with_reducible refine Val.u64 (by omega) (by omega) ?_
          | with_reducible refine Val.u8m ?_
          | with_reducible refine Val.u32m ?_
          | with_reducible refine Val.u64m ?_
          | with_reducible refine Val.shr8 ?_
          | with_reducible refine Val.shr16 (by decide) ?_
          | with_reducible refine Val.shr24 (by decide) ?_
          | with_reducible refine Val.raw ?_
          | refine Branch.not ?_
          | refine Branch.and ?_
          | refine Branch.or ?_
          | refine Branch.dt (by assumption) ?_
          | refine Branch.df (by assumption) ?_
          | refine Branch.dt rfl ?_
          | refine Branch.dt (by omega) ?_
          | refine Branch.df (by omega) ?_
          | refine Branch.t rfl ?_
          | refine Branch.f rfl ?_
          | refine Branch.t (by assumption) ?_
          | refine Branch.f (by assumption) ?_
          | refine Branch.d (fun _ => ?_) (fun _ => ?_)
          | refine Branch.mk (fun _ => ?_) (fun _ => ?_)
          | refine Need.mk (by first | omega | decide | rfl) ?_
          | refine Idx.nat (by omega) ?_
          | refine Idx.auto (by first | omega | decide) (by first | omega | decide) ?_
          | refine Cell.ro rfl ?_
          | refine SDraw.all (by kernel_rfl) ?_
          | refine Kept.k0 ?_
          | refine Kept.k1 ?_
          | refine Kept.k2 ?_
          | refine Kept.k3 ?_
          | refine Kept.k4 ?_))
      all_goals (conv => whnf)
      exact hnext _ .mk
  · have e : i = L.length := by omega
    subst e
    repeat' ((conv => whnf); (first
        | refine New.mk (fun _ => ?_)
        | refine Look.at0 ?_
        | refine Cell.row ?_
        | refine Cell.buf ?_
        | refine Cells.row rfl ?_
        | refine Put.row rfl ?_
        | refine Put.buf rfl ?_
        | refine Look.at1 ?_
        | refine Look.at2 ?_
        | refine Look.at3 ?_
        | refine Look.at4 ?_
        | refine Look.at5 ?_
        | refine Look.at6 ?_
        | refine Look.at7 ?_
        | refine Look.at8 ?_
        | with_reducible refine Val.i64 (by omega) (by omega) ?_
        | with_reducible refine Val.u8 (by omega) (by omega) ?_
        | with_reducible refine Val.u32 (by omega) (by omega) ?_
        | with_reducible refine Val.u64 (by omega) (by omega) ?_
        | with_reducible refine Val.u8m ?_
        | with_reducible refine Val.u32m ?_
        | with_reducible refine Val.u64m ?_
        | with_reducible refine Val.shr8 ?_
        | with_reducible refine Val.shr16 (by decide) ?_
        | with_reducible refine Val.shr24 (by decide) ?_
        | with_reducible refine Val.raw ?_
        | refine Branch.not ?_
        | refine Branch.and ?_
        | refine Branch.or ?_
        | refine Branch.dt (by assumption) ?_
        | refine Branch.df (by assumption) ?_
        | refine Branch.dt rfl ?_
        | refine Branch.dt (by omega) ?_
        | refine Branch.df (by omega) ?_
        | refine Branch.t rfl ?_
        | refine Branch.f rfl ?_
        | refine Branch.t (by assumption) ?_
        | refine Branch.f (by assumption) ?_
        | refine Branch.d (fun _ => ?_) (fun _ => ?_)
        | refine Branch.mk (fun _ => ?_) (fun _ => ?_)
        | refine Need.mk (by first | omega | decide | rfl) ?_
        | refine Idx.nat (by omega) ?_
        | refine Idx.auto (by first | omega | decide) (by first | omega | decide) ?_
        | refine Cell.ro rfl ?_
        | refine SDraw.all (by kernel_rfl) ?_
        | refine Kept.k0 ?_
        | refine Kept.k1 ?_
        | refine Kept.k2 ?_
        | refine Kept.k3 ?_
        | refine Kept.k4 ?_))
    all_goals (conv => whnf)
    exact hQ _ _ .mk
end
end Go.Proofs.Ytjnlpaojaikjaaa

