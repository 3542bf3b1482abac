/- Layer 26: what is missed is seen as it was: the law. -/
import Derived.Test.YtjnlpaojaikjaaaBMain2

set_option linter.unusedVariables false
set_option linter.unusedSimpArgs false
set_option maxRecDepth 100000
set_option maxHeartbeats 4000000
namespace Go.Proofs.Ytjnlpaojaikjaaa
open Sx
theorem flatO_mem : ∀ {vs : List Lv} {o : Nat} {s : Sg}, s ∈ flatO o vs → ∃ i w t, vs[i]? = some w ∧ t ∈ w.seen ∧ s = sg1 (o + i) t
  | [], o, s, h => by cases h
  | v :: vs, o, s, h => by
    rw [flatO] at h
    rcases List.mem_append.1 h with h | h
    · obtain ⟨t, ht, rfl⟩ := List.mem_map.1 h
      exact ⟨0, v, t, rfl, ht, rfl⟩
    · obtain ⟨i, w, t, h1, h2, rfl⟩ := flatO_mem h
      exact ⟨i + 1, w, t, h1, h2, by rw [show o + (i + 1) = o + 1 + i by omega]⟩
theorem flatO_len : ∀ (vs : List Lv) (o : Nat), (∀ v ∈ vs, v.seen.length ≤ 127) → (flatO o vs).length ≤ vs.length * 127
  | [], _, _ => by simp [flatO]
  | v :: vs, o, h => by
    rw [flatO, List.length_append, List.length_map, List.length_cons]
    have h1 := flatO_len vs (o + 1) fun w hw => h w (.tail _ hw)
    have h2 := h v (.head _)
    omega
theorem Lv.Ok.few {n : Nat} {v : Lv} (h : v.Ok n) (hn : n ≤ 127) : v.seen.length ≤ 127 := by
  have := nodup_le n (v.seen.map Prod.fst) h.once fun x hx => by
    obtain ⟨s, hs, rfl⟩ := List.mem_map.1 hx
    exact h.keys s hs
  rw [List.length_map] at this; omega
theorem isTh_all {th : List Bool} (h : ∀ b ∈ th, b = true) {n : Int} (h0 : 0 ≤ n) (h1 : n < (th.length : Int)) : isTh th n = true := by
  obtain ⟨b, hb, _, _⟩ := list_at (L := th) (j := n.toNat) (by omega)
  unfold isTh
  rw [hb]
  exact h b (List.mem_of_getElem? hb)
theorem missed_read {M : Mc} (hok : ∀ v ∈ M.vs, v.Ok M.there.length) (hT : ∀ b ∈ M.there, b = true) {xs : List Int} (h0 : (M.sync xs).1 = 0) {s : Sg} (hs : s ∈ flatO 0 M.vs) :
    (s.v ∈ xs → (M.sync xs).2.read s.nd s.v = (s.x, s.c, s.is)) ∧ (s.v ∉ xs → (M.sync xs).2.read s.nd s.v = ((M.sync xs).2.own s.v, (M.sync xs).2.cyc, true)) := by
  obtain ⟨i, w, t, hw, ht, rfl⟩ := flatO_mem hs
  rw [Nat.zero_add]
  have hil := (List.getElem?_eq_some_iff.1 hw).1
  have hwo := hok w (List.mem_of_getElem? hw)
  obtain ⟨j, hj, rfl⟩ := List.getElem_of_mem ht
  have hj' := List.getElem?_eq_getElem hj
  generalize w.seen[j] = t at hj' ht
  have hsy : (M.sync xs).2 = { M with cyc := incC M.cyc, vs := M.vs.mapIdx (syncV M.there xs (incC M.cyc)) } := by
    unfold Mc.sync at h0 ⊢
    split
    · rename_i h; rw [if_pos h] at h0; cases h0
    · rfl
  have hvi : (M.vs.mapIdx (syncV M.there xs (incC M.cyc)))[i]? = some (syncV M.there xs (incC M.cyc) i w) := by rw [List.getElem?_mapIdx, hw]; rfl
  rw [hsy, sg1_nd, sg1_v]
  constructor
  · intro hi
    unfold Mc.read
    dsimp only
    rw [List.length_mapIdx, if_pos (by omega), Int.toNat_natCast, hvi]
    have e : syncV M.there xs (incC M.cyc) i w = w := by unfold syncV; rw [if_neg (fun hc => hc.2 hi)]
    rw [e, Option.bind_some, getS_at hwo.once hj' rfl]
    obtain ⟨k, u⟩ := t
    cases u <;> rfl
  · intro hi
    have hpt := isTh_all hT hwo.prod.1 hwo.prod.2
    have hkt := isTh_all hT (hwo.keys t ht).1 (hwo.keys t ht).2
    have e : syncV M.there xs (incC M.cyc) i w = { w with seen := w.seen.map (see1 M.there w.own (incC M.cyc)) } := by unfold syncV; rw [if_pos ⟨hpt, hi⟩]
    unfold Mc.read Mc.own
    dsimp only
    rw [List.length_mapIdx, if_pos (by omega), if_pos (by omega), Int.toNat_natCast, hvi, e, Option.bind_some]
    have hn : ((w.seen.map (see1 M.there w.own (incC M.cyc))).map Prod.fst).Nodup := by
      rw [List.map_map]
      have : (Prod.fst ∘ see1 M.there w.own (incC M.cyc)) = Prod.fst := by funext s; exact see1_fst _ _ _ _
      rw [this]; exact hwo.once
    have hg : (w.seen.map (see1 M.there w.own (incC M.cyc)))[j]? = some (t.1, some (w.own, incC M.cyc)) := by
      rw [List.getElem?_map, hj']
      show some (see1 _ _ _ t) = _
      unfold see1; rw [if_pos hkt]
    dsimp only
    rw [getS_at hn hg rfl]
    rfl
theorem act_there {M : Mc} (y : ActI) (hy : y.kind < 2) : (M.act y).2.there = M.there := by
  unfold Mc.act
  split
  · unfold Mc.write; split
    · split
      · split
        · split <;> rfl
        · rfl
      · rfl
    · rfl
  · split
    · unfold Mc.sync; split <;> rfl
    · rw [if_neg (by omega), if_neg (by omega)]
inductive S5 (A1 A2 A3 A7 A9 A10 : Value) : List Value → Prop
  | mk {r0 r4 r5 r6 r8 r11 r12 r13 r14 r15 r16 r17 r18 r19 r20 r21 r22 r23 r24 r25 r26 r27 r28 r29 r30 r31 r32 r33 r34 r35 r36 r37 r38 r39 r40 r41 r42 r43 r44 r45 r46 r47 r48 r49 r50 r51 r52 r53 r54 r55 r56 r57 r58 r59 r60 r61 r62 r63 r64 r65 r66 r67 r68 r69 r70 r71 r72 r73 r74 r75 r76 r77 r78 r79 r80 r81 r82 r83 r84 r85 r86 r87 r88 r89 r90 r91 r92 r93 r94 r95 r96 r97 r98 r99 r100 r101 r102 r103 r104 r105 r106 r107 r108 r109 r110 r111 r112 r113 r114 r115 r116 r117 r118 r119 r120 r121 r122 r123 r124 r125 r126 r127 r128 r129 r130 r131 r132 r133 r134 r135 r136 r137 r138 r139 r140 r141 r142 r143 r144 r145 r146 r147 r148 r149 r150 r151 r152 r153 r154 r155 r156 r157 r158 r159 r160 r161 r162 r163 r164 r165 r166 r167 r168 r169 r170 r171 r172 r173 r174 r175 : Value} : S5 A1 A2 A3 A7 A9 A10 [r0, A1, A2, A3, r4, r5, r6, A7, r8, A9, A10, r11, r12, r13, r14, r15, r16, r17, r18, r19, r20, r21, r22, r23, r24, r25, r26, r27, r28, r29, r30, r31, r32, r33, r34, r35, r36, r37, r38, r39, r40, r41, r42, r43, r44, r45, r46, r47, r48, r49, r50, r51, r52, r53, r54, r55, r56, r57, r58, r59, r60, r61, r62, r63, r64, r65, r66, r67, r68, r69, r70, r71, r72, r73, r74, r75, r76, r77, r78, r79, r80, r81, r82, r83, r84, r85, r86, r87, r88, r89, r90, r91, r92, r93, r94, r95, r96, r97, r98, r99, r100, r101, r102, r103, r104, r105, r106, r107, r108, r109, r110, r111, r112, r113, r114, r115, r116, r117, r118, r119, r120, r121, r122, r123, r124, r125, r126, r127, r128, r129, r130, r131, r132, r133, r134, r135, r136, r137, r138, r139, r140, r141, r142, r143, r144, r145, r146, r147, r148, r149, r150, r151, r152, r153, r154, r155, r156, r157, r158, r159, r160, r161, r162, r163, r164, r165, r166, r167, r168, r169, r170, r171, r172, r173, r174, r175]
inductive S5a (A2 A7 A11 A12 : Value) : List Value → Prop
  | mk {r0 r1 r3 r4 r5 r6 r8 r9 r10 r13 r14 r15 r16 r17 r18 r19 r20 r21 r22 r23 r24 r25 r26 r27 r28 r29 r30 r31 r32 r33 r34 r35 r36 r37 r38 r39 r40 r41 r42 r43 r44 r45 r46 r47 r48 r49 r50 r51 r52 r53 r54 r55 r56 r57 r58 r59 r60 r61 r62 r63 r64 r65 r66 r67 r68 r69 r70 r71 r72 r73 r74 r75 r76 r77 r78 r79 r80 r81 r82 r83 r84 r85 r86 r87 r88 r89 r90 r91 r92 r93 r94 r95 r96 r97 r98 r99 r100 r101 r102 r103 r104 r105 r106 r107 r108 r109 r110 r111 r112 r113 r114 r115 r116 r117 r118 r119 r120 r121 r122 r123 r124 r125 r126 r127 r128 r129 r130 r131 r132 r133 r134 r135 r136 r137 r138 r139 r140 r141 r142 r143 r144 r145 r146 r147 r148 r149 r150 r151 r152 r153 r154 r155 r156 r157 r158 r159 r160 r161 r162 r163 r164 r165 r166 r167 r168 r169 r170 r171 r172 r173 r174 r175 : Value} : S5a A2 A7 A11 A12 [r0, r1, A2, r3, r4, r5, r6, A7, r8, r9, r10, A11, A12, r13, r14, r15, r16, r17, r18, r19, r20, r21, r22, r23, r24, r25, r26, r27, r28, r29, r30, r31, r32, r33, r34, r35, r36, r37, r38, r39, r40, r41, r42, r43, r44, r45, r46, r47, r48, r49, r50, r51, r52, r53, r54, r55, r56, r57, r58, r59, r60, r61, r62, r63, r64, r65, r66, r67, r68, r69, r70, r71, r72, r73, r74, r75, r76, r77, r78, r79, r80, r81, r82, r83, r84, r85, r86, r87, r88, r89, r90, r91, r92, r93, r94, r95, r96, r97, r98, r99, r100, r101, r102, r103, r104, r105, r106, r107, r108, r109, r110, r111, r112, r113, r114, r115, r116, r117, r118, r119, r120, r121, r122, r123, r124, r125, r126, r127, r128, r129, r130, r131, r132, r133, r134, r135, r136, r137, r138, r139, r140, r141, r142, r143, r144, r145, r146, r147, r148, r149, r150, r151, r152, r153, r154, r155, r156, r157, r158, r159, r160, r161, r162, r163, r164, r165, r166, r167, r168, r169, r170, r171, r172, r173, r174, r175]
inductive S5b (A2 A7 A11 A12 A13 A14 : Value) : List Value → Prop
  | mk {r0 r1 r3 r4 r5 r6 r8 r9 r10 r15 r16 r17 r18 r19 r20 r21 r22 r23 r24 r25 r26 r27 r28 r29 r30 r31 r32 r33 r34 r35 r36 r37 r38 r39 r40 r41 r42 r43 r44 r45 r46 r47 r48 r49 r50 r51 r52 r53 r54 r55 r56 r57 r58 r59 r60 r61 r62 r63 r64 r65 r66 r67 r68 r69 r70 r71 r72 r73 r74 r75 r76 r77 r78 r79 r80 r81 r82 r83 r84 r85 r86 r87 r88 r89 r90 r91 r92 r93 r94 r95 r96 r97 r98 r99 r100 r101 r102 r103 r104 r105 r106 r107 r108 r109 r110 r111 r112 r113 r114 r115 r116 r117 r118 r119 r120 r121 r122 r123 r124 r125 r126 r127 r128 r129 r130 r131 r132 r133 r134 r135 r136 r137 r138 r139 r140 r141 r142 r143 r144 r145 r146 r147 r148 r149 r150 r151 r152 r153 r154 r155 r156 r157 r158 r159 r160 r161 r162 r163 r164 r165 r166 r167 r168 r169 r170 r171 r172 r173 r174 r175 : Value} : S5b A2 A7 A11 A12 A13 A14 [r0, r1, A2, r3, r4, r5, r6, A7, r8, r9, r10, A11, A12, A13, A14, r15, r16, r17, r18, r19, r20, r21, r22, r23, r24, r25, r26, r27, r28, r29, r30, r31, r32, r33, r34, r35, r36, r37, r38, r39, r40, r41, r42, r43, r44, r45, r46, r47, r48, r49, r50, r51, r52, r53, r54, r55, r56, r57, r58, r59, r60, r61, r62, r63, r64, r65, r66, r67, r68, r69, r70, r71, r72, r73, r74, r75, r76, r77, r78, r79, r80, r81, r82, r83, r84, r85, r86, r87, r88, r89, r90, r91, r92, r93, r94, r95, r96, r97, r98, r99, r100, r101, r102, r103, r104, r105, r106, r107, r108, r109, r110, r111, r112, r113, r114, r115, r116, r117, r118, r119, r120, r121, r122, r123, r124, r125, r126, r127, r128, r129, r130, r131, r132, r133, r134, r135, r136, r137, r138, r139, r140, r141, r142, r143, r144, r145, r146, r147, r148, r149, r150, r151, r152, r153, r154, r155, r156, r157, r158, r159, r160, r161, r162, r163, r164, r165, r166, r167, r168, r169, r170, r171, r172, r173, r174, r175]
def I5 (av mv : Value) (p0 gm gd : Nat) (R0 : Blk) (L : List VarI) (sv : Value) (I : Heap) (Y : List ActI) (x : T6) (S : List Value) (H : Heap) : Prop :=
  x.j ≤ Y.length ∧ S5 av mv (ptr p0) (ptr gm) (ptr gd) (.int .i64 (x.j : Int)) S ∧ Mach gm x.ids x.M x.Hm ∧ Doc gd sv L I x.D x.Hd ∧ Rl (prods L) x.M x.D ∧ (∀ b ∈ x.M.there, b = true) ∧ H = (p0, R0) :: (x.Hm ++ x.Hd)
def I5a (mv : Value) (gm q1 c1 n : Nat) (G : Heap) (i : Nat) (S : List Value) (H : Heap) : Prop := i ≤ n ∧ S5a mv (ptr gm) (.slice (some ⟨q1, 0, none⟩) n c1) (.int .i64 (i : Int)) S ∧ H = G
def I5b (mv : Value) (gm : Nat) (wv iv : Value) (v : Int) (xs : List Int) (G : Heap) (k : Nat) (S : List Value) (H : Heap) : Prop := k ≤ xs.length ∧ S5b mv (ptr gm) wv iv (.bool (decide (v ∈ xs.take k))) (.int .i64 (k : Int)) S ∧ H = G
section
variable {I : Heap} {sv av mv : Value} {L : List VarI} {Y : List ActI} {xs : List Int}
theorem missed_c (hin : InV sv I L) (hbig : ∀ x ∈ L, x.cons.length * 8 ≤ 140737488355000) (hL : L.length * 32 ≤ 140737488355000) (hk0 : ∀ p ∈ I, kd p.2 = 5000) (hact : InA av I Y) (hxs : InS cI 1 mv I xs) (hxb : xs.length * 8 ≤ 140737488355000) (nodes : Int) : SCalls Try.prog 5 [.agg ⟨[.int .i64 nodes, sv]⟩, av, mv] I fun v _ => v = .bool true := by
  obtain ⟨sa, sc, rfl, hml⟩ := hin.sl.sv
  obtain ⟨aa, ac, rfl, hyl⟩ := hact.sl.sv
  obtain ⟨ma, mc, rfl, hxl⟩ := hxs.sv
  have hyl' : Y.length ≤ 9223372036854775807 := by simp only [maxLen] at hyl; omega
  have hxl' : xs.length ≤ 9223372036854775807 := by simp only [maxLen] at hxl; omega
  have hlg : ∀ Lo : List VarI, Lo.map VarI.lg = L.map VarI.lg → Lo.length = L.length ∧ ∀ x ∈ Lo, x.cons.length * 8 ≤ 140737488355000 := fun Lo he => by
    refine ⟨by simpa using congrArg List.length he, fun x hx => ?_⟩
    have : x.lg ∈ L.map VarI.lg := by rw [← he]; exact List.mem_map_of_mem hx
    obtain ⟨y, hy, e⟩ := List.mem_map.1 this
    have e2 : y.cons = x.cons := congrArg Prod.snd e
    rw [← e2]; exact hbig y hy
  have hc7 : ∀ {q c : Nat} {Lo : List VarI} {N : Heap} (K : Value → Heap → Prop), Lo.map VarI.lg = L.map VarI.lg → InV (.slice (some ⟨q, 0, none⟩) L.length c) N Lo → (∀ p ∈ N, kd p.2 = 1042 ∨ kd p.2 = 1003) →
      (chkV nodes (L.map VarI.lg) ≠ 0 → K (.tuple ⟨[.pointer none, .int .i64 (chkV nodes (L.map VarI.lg))]⟩) N) → (chkV nodes (L.map VarI.lg) = 0 → ∀ gm ids H', Mach gm ids (newM nodes.toNat (L.map VarI.lg)) H' → K (.tuple ⟨[ptr gm, .int .i64 0]⟩) H') → SCalls Try.prog 7 [.int .i64 nodes, .slice (some ⟨q, 0, none⟩) L.length c] N K := fun {q c Lo N} K h1 h2 h3 h4 h5 => by
    have := c7 (K := K) h2 (hlg Lo h1).2 (fun p hp => by rcases h3 p hp with e | e <;> omega) nodes
    rw [h1] at this
    exact this h4 h5
  refine enter5 ?_
  by_cases hchk : chkV nodes (L.map VarI.lg) = 0
  · obtain ⟨hn1, hn2, _, _⟩ := chk_zero hchk
    obtain ⟨n, rfl⟩ : ∃ n : Nat, nodes = (n : Int) := ⟨nodes.toNat, by omega⟩
    have hc10 := fun (H : Heap) (hI : ∀ p ∈ I, p ∈ H) (K : Value → Heap → Prop) hk => c10 (K := K) hin (fun p hp => ⟨hk0 p hp, hI p hp⟩) n hchk hk
    repeat' ((conv => whnf); (first
        | refine SDraw.held (by kernel_rfl) [_] (.same (.head _) .nil) ?_
        | refine Kept.mk (.same (.head _) .nil) ?_
        | refine SCalls.under [_] (c8 hin hbig hL (fun q c Lo N h1 h2 h3 => ?_))
        | refine SCalls.midH [_] I (hc7 _ h1 h2 h3 (fun hne => absurd hchk hne) (fun hz gm ids H1 hM => ?_))
        | refine SCalls.under (_ :: H1) (hc10 I (fun p hp => hp) _ (fun gd Hd hD => ?_))
        | refine New.mk (fun _ => ?_)
        | refine Look.at0 ?_
        | refine Cell.row ?_
        | refine Cell.buf ?_
        | refine Cells.row rfl ?_
        | refine Put.row rfl ?_
        | refine Put.buf rfl ?_
        | refine Look.at1 ?_
        | refine Look.at2 ?_
        | refine Look.at3 ?_
        | refine Look.at4 ?_
        | refine Look.at5 ?_
        | refine Look.at6 ?_
        | refine Look.at7 ?_
        | refine Look.at8 ?_
        | with_reducible refine Val.i64 (by omega) (by omega) ?_
        | with_reducible refine Val.u8 (by omega) (by omega) ?_
        | with_reducible refine Val.u32 (by omega) (by omega) ?_
        | with_reducible refine Val.u64 (by omega) (by omega) ?_
        | with_reducible refine Val.u8m ?_
        | with_reducible refine Val.u32m ?_
        | with_reducible refine Val.u64m ?_
        | with_reducible refine Val.shr8 ?_
        | with_reducible refine Val.shr16 (by decide) ?_
        | with_reducible refine Val.shr24 (by decide) ?_
        | with_reducible refine Val.raw ?_
        | refine Branch.not ?_
        | refine Branch.and ?_
        | refine Branch.or ?_
        | refine Branch.dt (by assumption) ?_
        | refine Branch.df (by assumption) ?_
        | refine Branch.dt rfl ?_
        | refine Branch.dt (by omega) ?_
        | refine Branch.df (by omega) ?_
        | refine Branch.t rfl ?_
        | refine Branch.f rfl ?_
        | refine Branch.t (by assumption) ?_
        | refine Branch.f (by assumption) ?_
        | refine Branch.d (fun _ => ?_) (fun _ => ?_)
        | refine Branch.mk (fun _ => ?_) (fun _ => ?_)
        | refine Need.mk (by first | omega | decide | rfl) ?_
        | refine Idx.nat (by omega) ?_
        | refine Idx.auto (by first | omega | decide) (by first | omega | decide) ?_
        | refine Cell.ro rfl ?_
        | refine SDraw.all (by kernel_rfl) ?_
        | refine Kept.k0 ?_
        | refine Kept.k1 ?_
        | refine Kept.k2 ?_
        | refine Kept.k3 ?_
        | refine Kept.k4 ?_))
    rename_i p0
    refine SLoop.invA (I5 (.slice aa Y.length ac) (.slice ma xs.length mc) p0 gm gd (.row 24 [.int .i64 (n : Int), .slice sa L.length sc] (0, 0)) L (.slice sa L.length sc) I Y) (fun x => Y.length - x.j) ⟨0, _, _, ids, H1, Hd⟩ (Keep.all ⟨Nat.zero_le _, .mk, hM, hD, rl_new n L, fun b hb => (List.mem_replicate.1 hb).2, rfl⟩) ?_
    clear hM hD hc10 h1 h2 h3 hc7
    rintro ⟨j, M, D, ids, Hm, Hd⟩ S H' ⟨hj, hS, hM, hD, hR, hT, rfl⟩ R hRR
    dsimp only at hj hS hM hD hR hT hRR ⊢
    cases hS
    by_cases hlt : j < Y.length
    · obtain ⟨y, hy, _, _⟩ := list_at hlt
      obtain ⟨r, o, c', b, e1, hm, hc⟩ := inS_at hact.sl (fun _ => rfl) hy
      injection e1 with e1 _ e3
      subst e1
      have hym := List.mem_of_getElem? hy
      have hmH : (r, b) ∈ (p0, Blk.row 24 [.int .i64 (n : Int), .slice sa L.length sc] (0, 0)) :: (Hm ++ Hd) := .tail _ (List.mem_append_right _ (hD.sub _ hm).2)
      have hc0 : b.cell (o + j * 5 + 0) = some (.int .i64 y.kind) := hc 0 _ rfl
      have hnext : ∀ S M1 D1 Hm' Hd', S5 (.slice (some ⟨r, o, none⟩) Y.length ac) (.slice ma xs.length mc) (ptr p0) (ptr gm) (ptr gd) (.int .i64 ((j + 1 : Nat) : Int)) S → Mach gm ids M1 Hm' → Doc gd (.slice sa L.length sc) L I D1 Hd' → Rl (prods L) M1 D1 → (∀ b ∈ M1.there, b = true) → R S ((p0, Blk.row 24 [.int .i64 (n : Int), .slice sa L.length sc] (0, 0)) :: (Hm' ++ Hd')) := fun S M1 D1 Hm' Hd' g1 g2 g3 g4 g5 =>
        hRR ⟨j + 1, M1, D1, ids, Hm', Hd'⟩ _ _ (by show Y.length - (j + 1) < Y.length - j; omega) (Keep.all ⟨by show j + 1 ≤ Y.length; omega, g1, g2, g3, g4, g5, rfl⟩)
      clear hRR
      have hc11 := fun (K : Value → Heap → Prop) hk => c11 (K := K) hM hD hR y (hact.el y hym) (hact.big y hym) hk
      by_cases hy2 : y.kind < 2
      · repeat' ((conv => whnf); (first
            | refine Look.cell hmH hc0 ?_
            | refine Look.cells hmH rfl hc ?_
            | refine SCalls.under [_] (hc11 _ (fun Hm' Hd' g1 g2 g3 => ?_))
            | refine New.mk (fun _ => ?_)
            | refine Look.at0 ?_
            | refine Cell.row ?_
            | refine Cell.buf ?_
            | refine Cells.row rfl ?_
            | refine Put.row rfl ?_
            | refine Put.buf rfl ?_
            | refine Look.at1 ?_
            | refine Look.at2 ?_
            | refine Look.at3 ?_
            | refine Look.at4 ?_
            | refine Look.at5 ?_
            | refine Look.at6 ?_
            | refine Look.at7 ?_
            | refine Look.at8 ?_
            | with_reducible refine Val.i64 (by omega) (by omega) ?_
            | with_reducible refine Val.u8 (by omega) (by omega) ?_
            | with_reducible refine Val.u32 (by omega) (by omega) ?_
            | with_reducible refine Val.u64 (by omega) (by omega) ?_
            | with_reducible refine Val.u8m ?_
            | with_reducible refine Val.u32m ?_
            | with_reducible refine Val.u64m ?_
            | with_reducible refine Val.shr8 ?_
            | with_reducible refine Val.shr16 (by decide) ?_
            | with_reducible refine Val.shr24 (by decide) ?_
            | with_reducible refine Val.raw ?_
            | refine Branch.not ?_
            | refine Branch.and ?_
            | refine Branch.or ?_
            | refine Branch.dt (by assumption) ?_
            | refine Branch.df (by assumption) ?_
            | refine Branch.dt rfl ?_
            | refine Branch.dt (by omega) ?_
            | refine Branch.df (by omega) ?_
            | refine Branch.t rfl ?_
            | refine Branch.f rfl ?_
            | refine Branch.t (by assumption) ?_
            | refine Branch.f (by assumption) ?_
            | refine Branch.d (fun _ => ?_) (fun _ => ?_)
            | refine Branch.mk (fun _ => ?_) (fun _ => ?_)
            | refine Need.mk (by first | omega | decide | rfl) ?_
            | refine Idx.nat (by omega) ?_
            | refine Idx.auto (by first | omega | decide) (by first | omega | decide) ?_
            | refine Cell.ro rfl ?_
            | refine SDraw.all (by kernel_rfl) ?_
            | refine Kept.k0 ?_
            | refine Kept.k1 ?_
            | refine Kept.k2 ?_
            | refine Kept.k3 ?_
            | refine Kept.k4 ?_))
        all_goals (conv => whnf)
        exact hnext _ _ _ Hm' Hd' .mk g1 g2 g3 (by rw [act_there y hy2]; exact hT)
      · repeat' ((conv => whnf); (first
            | refine Look.cell hmH hc0 ?_
            | refine New.mk (fun _ => ?_)
            | refine Look.at0 ?_
            | refine Cell.row ?_
            | refine Cell.buf ?_
            | refine Cells.row rfl ?_
            | refine Put.row rfl ?_
            | refine Put.buf rfl ?_
            | refine Look.at1 ?_
            | refine Look.at2 ?_
            | refine Look.at3 ?_
            | refine Look.at4 ?_
            | refine Look.at5 ?_
            | refine Look.at6 ?_
            | refine Look.at7 ?_
            | refine Look.at8 ?_
            | with_reducible refine Val.i64 (by omega) (by omega) ?_
            | with_reducible refine Val.u8 (by omega) (by omega) ?_
            | with_reducible refine Val.u32 (by omega) (by omega) ?_
            | with_reducible refine Val.u64 (by omega) (by omega) ?_
            | with_reducible refine Val.u8m ?_
            | with_reducible refine Val.u32m ?_
            | with_reducible refine Val.u64m ?_
            | with_reducible refine Val.shr8 ?_
            | with_reducible refine Val.shr16 (by decide) ?_
            | with_reducible refine Val.shr24 (by decide) ?_
            | with_reducible refine Val.raw ?_
            | refine Branch.not ?_
            | refine Branch.and ?_
            | refine Branch.or ?_
            | refine Branch.dt (by assumption) ?_
            | refine Branch.df (by assumption) ?_
            | refine Branch.dt rfl ?_
            | refine Branch.dt (by omega) ?_
            | refine Branch.df (by omega) ?_
            | refine Branch.t rfl ?_
            | refine Branch.f rfl ?_
            | refine Branch.t (by assumption) ?_
            | refine Branch.f (by assumption) ?_
            | refine Branch.d (fun _ => ?_) (fun _ => ?_)
            | refine Branch.mk (fun _ => ?_) (fun _ => ?_)
            | refine Need.mk (by first | omega | decide | rfl) ?_
            | refine Idx.nat (by omega) ?_
            | refine Idx.auto (by first | omega | decide) (by first | omega | decide) ?_
            | refine Cell.ro rfl ?_
            | refine SDraw.all (by kernel_rfl) ?_
            | refine Kept.k0 ?_
            | refine Kept.k1 ?_
            | refine Kept.k2 ?_
            | refine Kept.k3 ?_
            | refine Kept.k4 ?_))
        all_goals (conv => whnf)
        exact hnext _ _ _ Hm Hd .mk hM hD hR hT
    · have e : j = Y.length := by omega
      subst e
      obtain ⟨gt, nt, ct, go, la, lc, g1, g2, g3, g4⟩ := hD.ex
      have hSl : D.S.length ≤ 64 * 127 := by
        rw [hR.S]
        have := flatO_len M.vs 0 fun v hv => (hM.ok v hv).few hM.few.1
        have := hM.few.2
        omega
      have hinS : ∀ H, (∀ p ∈ Hd, p ∈ H) → InS Sg.cells 5 (.slice la D.S.length lc) H D.S := fun H hs => by
        rcases g4 with e | ⟨r, N, rfl, hm⟩
        · rw [e]; exact InS.nil
        · exact InS.buf (hs _ hm) rfl (fun _ => rfl) (by unfold maxLen; omega)
      have hxi := hxs.mono fun p hp => (hD.sub p hp).2
      have hr1 := (rl_sync hR xs).1
      have hread := fun (h0 : (M.sync xs).1 = 0) (s : Sg) (hs : s ∈ D.S) => missed_read (M := M) (xs := xs) hM.ok hT h0 (s := s) (by rw [← hR.S]; exact hs)
      have hc16 : ∀ (q : Nat) (c : Nat) (K : Value → Heap → Prop), (∀ H', Mach gm ids (M.sync xs).2 H' → K (.int .i64 (M.sync xs).1) H') → SCalls Try.prog 16 [ptr gm, .slice (some ⟨q, 0, none⟩) xs.length c] ((q, Blk.buf 3 (xs.flatMap cI) (c * 1)) :: Hm) K := fun q c K hk =>
        c16 (hM.mono fun z hz => .tail _ hz) (xs := xs) ⟨_, _, rfl, hxl, .inr ⟨q, _, rfl, .head _⟩⟩ hk
      have hc18 := fun (K : Value → Heap → Prop) hk => c18 (K := K) hD hxs hk
      rw [hr1] at hc18
      have hDS : ∀ a b : Nat × Blk, (gd, rowD gt D.there.length ct (.slice sa L.length sc) go D.own.length la D.S.length lc D.cyc) ∈ a :: b :: (Hm ++ Hd) := fun a b => .tail _ (.tail _ (List.mem_append_right _ g1))
      have hinS2 : ∀ a : Nat × Blk, InS Sg.cells 5 (.slice la D.S.length lc) (a :: (Hm ++ Hd)) D.S := fun a => hinS _ fun p hp => .tail _ (List.mem_append_right _ hp)
      have hxi2 : ∀ a b : Nat × Blk, InS cI 1 (.slice ma xs.length mc) (a :: b :: (Hm ++ Hd)) xs := fun a b => hxi.mono fun z hz => .tail _ (.tail _ (List.mem_append_right _ hz))
      generalize M.sync xs = ms at hc16 hc18 hread hr1
      obtain ⟨em, M2⟩ := ms
      dsimp only at hc16 hc18 hread hr1
      by_cases hem : em = 0
      · subst hem
        have hread := hread rfl
        repeat' ((conv => whnf); (first
            | refine Look.mem (hDS _ _) (fun _ _ _ => ?_)
            | refine RawV.copyS (L := D.S) (f := Sg.cells) (k := 5) (bytes := 40) (hinS2 _) rfl (by kernel_rfl) (by decide) (fun _ => rfl) (fun y u hu => by simp only [List.mem_cons, List.not_mem_nil, or_false] at hu; rcases hu with rfl | rfl | rfl | rfl | rfl <;> rfl) (by omega) (fun q1 c1 k1 k2 => ?_)
            | refine RawV.copyS (L := xs) (f := cI) (k := 1) (bytes := 8) (hxi2 _ _) rfl (by kernel_rfl) (by decide) (fun _ => rfl) (fun y u hu => by obtain rfl := List.mem_singleton.1 hu; rfl) (by omega) (fun q2 c2 k3 k4 => ?_)
            | refine SCalls.perm (SCalls.midH [_, _] Hd (hc16 q2 c2 _ (fun H3 hM3 => ?_))) (List.perm_middle (l₁ := [_, _])).symm
            | refine New.mk (fun _ => ?_)
            | refine Look.at0 ?_
            | refine Cell.row ?_
            | refine Cell.buf ?_
            | refine Cells.row rfl ?_
            | refine Put.row rfl ?_
            | refine Put.buf rfl ?_
            | refine Look.at1 ?_
            | refine Look.at2 ?_
            | refine Look.at3 ?_
            | refine Look.at4 ?_
            | refine Look.at5 ?_
            | refine Look.at6 ?_
            | refine Look.at7 ?_
            | refine Look.at8 ?_
            | with_reducible refine Val.i64 (by omega) (by omega) ?_
            | with_reducible refine Val.u8 (by omega) (by omega) ?_
            | with_reducible refine Val.u32 (by omega) (by omega) ?_
            | with_reducible refine Val.u64 (by omega) (by omega) ?_
            | with_reducible refine Val.u8m ?_
            | with_reducible refine Val.u32m ?_
            | with_reducible refine Val.u64m ?_
            | with_reducible refine Val.shr8 ?_
            | with_reducible refine Val.shr16 (by decide) ?_
            | with_reducible refine Val.shr24 (by decide) ?_
            | with_reducible refine Val.raw ?_
            | refine Branch.not ?_
            | refine Branch.and ?_
            | refine Branch.or ?_
            | refine Branch.dt (by assumption) ?_
            | refine Branch.df (by assumption) ?_
            | refine Branch.dt rfl ?_
            | refine Branch.dt (by omega) ?_
            | refine Branch.df (by omega) ?_
            | refine Branch.t rfl ?_
            | refine Branch.f rfl ?_
            | refine Branch.t (by assumption) ?_
            | refine Branch.f (by assumption) ?_
            | refine Branch.d (fun _ => ?_) (fun _ => ?_)
            | refine Branch.mk (fun _ => ?_) (fun _ => ?_)
            | refine Need.mk (by first | omega | decide | rfl) ?_
            | refine Idx.nat (by omega) ?_
            | refine Idx.auto (by first | omega | decide) (by first | omega | decide) ?_
            | refine Cell.ro rfl ?_
            | refine SDraw.all (by kernel_rfl) ?_
            | refine Kept.k0 ?_
            | refine Kept.k1 ?_
            | refine Kept.k2 ?_
            | refine Kept.k3 ?_
            | refine Kept.k4 ?_))
        have hMG : Mach gm ids M2 ([(q1, Blk.buf 58 (D.S.flatMap Sg.cells) (c1 * 5)), (p0, Blk.row 24 [.int .i64 (n : Int), .slice sa L.length sc] (0, 0))] ++ (H3 ++ Hd)) := hM3.mono fun z hz => List.mem_append_right _ (List.mem_append_left _ hz)
        have hxG : InS cI 1 (.slice ma xs.length mc) ([(q1, Blk.buf 58 (D.S.flatMap Sg.cells) (c1 * 5)), (p0, Blk.row 24 [.int .i64 (n : Int), .slice sa L.length sc] (0, 0))] ++ (H3 ++ Hd)) xs := hxi.mono fun z hz => List.mem_append_right _ (List.mem_append_right _ hz)
        have hqG : (q1, Blk.buf 58 (D.S.flatMap Sg.cells) (c1 * 5)) ∈ ([(q1, Blk.buf 58 (D.S.flatMap Sg.cells) (c1 * 5)), (p0, Blk.row 24 [.int .i64 (n : Int), .slice sa L.length sc] (0, 0))] ++ (H3 ++ Hd)) := .head _
        refine SLoop.invA (I5a (.slice ma xs.length mc) gm q1 c1 D.S.length ([(q1, Blk.buf 58 (D.S.flatMap Sg.cells) (c1 * 5)), (p0, Blk.row 24 [.int .i64 (n : Int), .slice sa L.length sc] (0, 0))] ++ (H3 ++ Hd))) (fun i => D.S.length - i) 0 (Keep.all ⟨Nat.zero_le _, .mk, rfl⟩) ?_
        generalize [(q1, Blk.buf 58 (D.S.flatMap Sg.cells) (c1 * 5)), (p0, Blk.row 24 [.int .i64 (n : Int), .slice sa L.length sc] (0, 0))] ++ (H3 ++ Hd) = G at hMG hxG hqG
        clear hM3 hxi hxi2 hinS hinS2 hDS g1 g2 g3 g4 hRR hM hD hc16 hc18 hR hT hr1
        rintro i S H' ⟨hi, hS, rfl⟩ R2 hR2
        cases hS
        by_cases hlt : i < D.S.length
        · obtain ⟨s, hs, _, _⟩ := list_at hlt
          obtain ⟨hrd1, hrd0⟩ := hread s (List.mem_of_getElem? hs)
          have hc0 : (Blk.buf 58 (D.S.flatMap Sg.cells) (c1 * 5)).cell (0 + i * 5 + 0) = some (.int .i64 s.nd) := flat_cell5 hs rfl
          have hc1 : (Blk.buf 58 (D.S.flatMap Sg.cells) (c1 * 5)).cell (0 + i * 5 + 1) = some (.int .i64 s.v) := flat_cell5 hs rfl
          have hc2 : (Blk.buf 58 (D.S.flatMap Sg.cells) (c1 * 5)).cell (0 + i * 5 + 2) = some (.int .u64 s.x) := flat_cell5 hs rfl
          have hc3 : (Blk.buf 58 (D.S.flatMap Sg.cells) (c1 * 5)).cell (0 + i * 5 + 3) = some (.int .u64 s.c) := flat_cell5 hs rfl
          have hc4 : (Blk.buf 58 (D.S.flatMap Sg.cells) (c1 * 5)).cell (0 + i * 5 + 4) = some (.bool s.is) := flat_cell5 hs rfl
          have hnext : ∀ S, S5a (.slice ma xs.length mc) (ptr gm) (.slice (some ⟨q1, 0, none⟩) D.S.length c1) (.int .i64 ((i + 1 : Nat) : Int)) S → R2 S H' := fun S h1 => hR2 (i + 1) _ _ (by omega) (Keep.all ⟨by omega, h1, rfl⟩)
          have hc14 := fun (K : Value → Heap → Prop) hk => c14 (K := K) hMG s.nd s.v hk
          have hc15 := fun (K : Value → Heap → Prop) hk => c15 (K := K) hMG s.v hk
          have hc19 := fun (K : Value → Heap → Prop) hk => c19 (K := K) hMG hk
          clear hR2 hread
          repeat' ((conv => whnf); (first
              | refine New.mk (fun _ => ?_)
              | refine Look.at0 ?_
              | refine Cell.row ?_
              | refine Cell.buf ?_
              | refine Cells.row rfl ?_
              | refine Put.row rfl ?_
              | refine Put.buf rfl ?_
              | refine Look.at1 ?_
              | refine Look.at2 ?_
              | refine Look.at3 ?_
              | refine Look.at4 ?_
              | refine Look.at5 ?_
              | refine Look.at6 ?_
              | refine Look.at7 ?_
              | refine Look.at8 ?_
              | with_reducible refine Val.i64 (by omega) (by omega) ?_
              | with_reducible refine Val.u8 (by omega) (by omega) ?_
              | with_reducible refine Val.u32 (by omega) (by omega) ?_
              | with_reducible refine Val.u64 (by omega) (by omega) ?_
              | with_reducible refine Val.u8m ?_
              | with_reducible refine Val.u32m ?_
              | with_reducible refine Val.u64m ?_
              | with_reducible refine Val.shr8 ?_
              | with_reducible refine Val.shr16 (by decide) ?_
              | with_reducible refine Val.shr24 (by decide) ?_
              | with_reducible refine Val.raw ?_
              | refine Branch.not ?_
              | refine Branch.and ?_
              | refine Branch.or ?_
              | refine Branch.dt (by assumption) ?_
              | refine Branch.df (by assumption) ?_
              | refine Branch.dt rfl ?_
              | refine Branch.dt (by omega) ?_
              | refine Branch.df (by omega) ?_
              | refine Branch.t rfl ?_
              | refine Branch.f rfl ?_
              | refine Branch.t (by assumption) ?_
              | refine Branch.f (by assumption) ?_
              | refine Branch.d (fun _ => ?_) (fun _ => ?_)
              | refine Branch.mk (fun _ => ?_) (fun _ => ?_)
              | refine Need.mk (by first | omega | decide | rfl) ?_
              | refine Idx.nat (by omega) ?_
              | refine Idx.auto (by first | omega | decide) (by first | omega | decide) ?_
              | refine Cell.ro rfl ?_
              | refine SDraw.all (by kernel_rfl) ?_
              | refine Kept.k0 ?_
              | refine Kept.k1 ?_
              | refine Kept.k2 ?_
              | refine Kept.k3 ?_
              | refine Kept.k4 ?_))
          refine SLoop.invA (I5b (.slice ma xs.length mc) gm (.slice (some ⟨q1, 0, none⟩) D.S.length c1) (.int .i64 (i : Int)) s.v xs H') (fun k => xs.length - k) 0 (Keep.all ⟨Nat.zero_le _, by simpa using .mk, rfl⟩) ?_
          rintro k S H2 ⟨hk, hS, rfl⟩ R3 hR3
          by_cases hlt2 : k < xs.length
          · obtain ⟨x, hx, _, htk⟩ := list_at hlt2
            obtain ⟨r2, o2, c2', b2, e12, hm2, hcx⟩ := hxG.at1 hx rfl
            injection e12 with e12 _ e32
            subst e12
            have hnext3 : ∀ S lf, decide (s.v ∈ xs.take (k + 1)) = lf → S5b (.slice (some ⟨r2, o2, none⟩) xs.length mc) (ptr gm) (.slice (some ⟨q1, 0, none⟩) D.S.length c1) (.int .i64 (i : Int)) (.bool lf) (.int .i64 ((k + 1 : Nat) : Int)) S → R3 S H2 := fun S lf h0 h1 => by
              subst h0
              exact hR3 (k + 1) _ _ (by omega) (Keep.all ⟨by omega, h1, rfl⟩)
            clear hR3 hnext
            have htm : decide (s.v ∈ xs.take (k + 1)) = (decide (s.v ∈ xs.take k) || decide (x = s.v)) := by
              rw [htk, Bool.eq_iff_iff]
              simp only [decide_eq_true_eq, Bool.or_eq_true, List.mem_append, List.mem_singleton]
              constructor
              · rintro (h | h)
                · exact .inl h
                · exact .inr h.symm
              · rintro (h | h)
                · exact .inl h
                · exact .inr h.symm
            generalize decide (s.v ∈ xs.take k) = lf0 at hS htm
            cases hS
            cases lf0 with
            | true =>
              repeat' ((conv => whnf); (first
                  | refine SDraw.held (by kernel_rfl) [(r2, b2), (q1, _)] (.same hm2 (.same hqG .nil)) ?_
                  | refine Look.cell (.head _) hcx ?_
                  | refine Look.cell (.tail _ (.head _)) hc1 ?_
                  | refine New.mk (fun _ => ?_)
                  | refine Look.at0 ?_
                  | refine Cell.row ?_
                  | refine Cell.buf ?_
                  | refine Cells.row rfl ?_
                  | refine Put.row rfl ?_
                  | refine Put.buf rfl ?_
                  | refine Look.at1 ?_
                  | refine Look.at2 ?_
                  | refine Look.at3 ?_
                  | refine Look.at4 ?_
                  | refine Look.at5 ?_
                  | refine Look.at6 ?_
                  | refine Look.at7 ?_
                  | refine Look.at8 ?_
                  | with_reducible refine Val.i64 (by omega) (by omega) ?_
                  | with_reducible refine Val.u8 (by omega) (by omega) ?_
                  | with_reducible refine Val.u32 (by omega) (by omega) ?_
                  | with_reducible refine Val.u64 (by omega) (by omega) ?_
                  | with_reducible refine Val.u8m ?_
                  | with_reducible refine Val.u32m ?_
                  | with_reducible refine Val.u64m ?_
                  | with_reducible refine Val.shr8 ?_
                  | with_reducible refine Val.shr16 (by decide) ?_
                  | with_reducible refine Val.shr24 (by decide) ?_
                  | with_reducible refine Val.raw ?_
                  | refine Branch.not ?_
                  | refine Branch.and ?_
                  | refine Branch.or ?_
                  | refine Branch.dt (by assumption) ?_
                  | refine Branch.df (by assumption) ?_
                  | refine Branch.dt rfl ?_
                  | refine Branch.dt (by omega) ?_
                  | refine Branch.df (by omega) ?_
                  | refine Branch.t rfl ?_
                  | refine Branch.f rfl ?_
                  | refine Branch.t (by assumption) ?_
                  | refine Branch.f (by assumption) ?_
                  | refine Branch.d (fun _ => ?_) (fun _ => ?_)
                  | refine Branch.mk (fun _ => ?_) (fun _ => ?_)
                  | refine Need.mk (by first | omega | decide | rfl) ?_
                  | refine Idx.nat (by omega) ?_
                  | refine Idx.auto (by first | omega | decide) (by first | omega | decide) ?_
                  | refine Cell.ro rfl ?_
                  | refine SDraw.all (by kernel_rfl) ?_
                  | refine Kept.k0 ?_
                  | refine Kept.k1 ?_
                  | refine Kept.k2 ?_
                  | refine Kept.k3 ?_
                  | refine Kept.k4 ?_))
              all_goals (conv => whnf)
              exact hnext3 _ true (by rw [htm]; rfl) .mk
            | false =>
              by_cases hxe : x = s.v
              · have hde : decide (x = s.v) = true := decide_eq_true hxe
                repeat' ((conv => whnf); (first
                    | refine SDraw.held (by kernel_rfl) [(r2, b2), (q1, _)] (.same hm2 (.same hqG .nil)) ?_
                    | refine Look.cell (.head _) hcx ?_
                    | refine Look.cell (.tail _ (.head _)) hc1 ?_
                    | rw [hde]
                    | refine New.mk (fun _ => ?_)
                    | refine Look.at0 ?_
                    | refine Cell.row ?_
                    | refine Cell.buf ?_
                    | refine Cells.row rfl ?_
                    | refine Put.row rfl ?_
                    | refine Put.buf rfl ?_
                    | refine Look.at1 ?_
                    | refine Look.at2 ?_
                    | refine Look.at3 ?_
                    | refine Look.at4 ?_
                    | refine Look.at5 ?_
                    | refine Look.at6 ?_
                    | refine Look.at7 ?_
                    | refine Look.at8 ?_
                    | with_reducible refine Val.i64 (by omega) (by omega) ?_
                    | with_reducible refine Val.u8 (by omega) (by omega) ?_
                    | with_reducible refine Val.u32 (by omega) (by omega) ?_
                    | with_reducible refine Val.u64 (by omega) (by omega) ?_
                    | with_reducible refine Val.u8m ?_
                    | with_reducible refine Val.u32m ?_
                    | with_reducible refine Val.u64m ?_
                    | with_reducible refine Val.shr8 ?_
                    | with_reducible refine Val.shr16 (by decide) ?_
                    | with_reducible refine Val.shr24 (by decide) ?_
                    | with_reducible refine Val.raw ?_
                    | refine Branch.not ?_
                    | refine Branch.and ?_
                    | refine Branch.or ?_
                    | refine Branch.dt (by assumption) ?_
                    | refine Branch.df (by assumption) ?_
                    | refine Branch.dt rfl ?_
                    | refine Branch.dt (by omega) ?_
                    | refine Branch.df (by omega) ?_
                    | refine Branch.t rfl ?_
                    | refine Branch.f rfl ?_
                    | refine Branch.t (by assumption) ?_
                    | refine Branch.f (by assumption) ?_
                    | refine Branch.d (fun _ => ?_) (fun _ => ?_)
                    | refine Branch.mk (fun _ => ?_) (fun _ => ?_)
                    | refine Need.mk (by first | omega | decide | rfl) ?_
                    | refine Idx.nat (by omega) ?_
                    | refine Idx.auto (by first | omega | decide) (by first | omega | decide) ?_
                    | refine Cell.ro rfl ?_
                    | refine SDraw.all (by kernel_rfl) ?_
                    | refine Kept.k0 ?_
                    | refine Kept.k1 ?_
                    | refine Kept.k2 ?_
                    | refine Kept.k3 ?_
                    | refine Kept.k4 ?_))
                all_goals (conv => whnf)
                all_goals exact hnext3 _ _ (by rw [htm]; first | rfl | (rw [hde]; rfl)) .mk
              · have hde : decide (x = s.v) = false := decide_eq_false hxe
                repeat' ((conv => whnf); (first
                    | refine SDraw.held (by kernel_rfl) [(r2, b2), (q1, _)] (.same hm2 (.same hqG .nil)) ?_
                    | refine Look.cell (.head _) hcx ?_
                    | refine Look.cell (.tail _ (.head _)) hc1 ?_
                    | rw [hde]
                    | refine New.mk (fun _ => ?_)
                    | refine Look.at0 ?_
                    | refine Cell.row ?_
                    | refine Cell.buf ?_
                    | refine Cells.row rfl ?_
                    | refine Put.row rfl ?_
                    | refine Put.buf rfl ?_
                    | refine Look.at1 ?_
                    | refine Look.at2 ?_
                    | refine Look.at3 ?_
                    | refine Look.at4 ?_
                    | refine Look.at5 ?_
                    | refine Look.at6 ?_
                    | refine Look.at7 ?_
                    | refine Look.at8 ?_
                    | with_reducible refine Val.i64 (by omega) (by omega) ?_
                    | with_reducible refine Val.u8 (by omega) (by omega) ?_
                    | with_reducible refine Val.u32 (by omega) (by omega) ?_
                    | with_reducible refine Val.u64 (by omega) (by omega) ?_
                    | with_reducible refine Val.u8m ?_
                    | with_reducible refine Val.u32m ?_
                    | with_reducible refine Val.u64m ?_
                    | with_reducible refine Val.shr8 ?_
                    | with_reducible refine Val.shr16 (by decide) ?_
                    | with_reducible refine Val.shr24 (by decide) ?_
                    | with_reducible refine Val.raw ?_
                    | refine Branch.not ?_
                    | refine Branch.and ?_
                    | refine Branch.or ?_
                    | refine Branch.dt (by assumption) ?_
                    | refine Branch.df (by assumption) ?_
                    | refine Branch.dt rfl ?_
                    | refine Branch.dt (by omega) ?_
                    | refine Branch.df (by omega) ?_
                    | refine Branch.t rfl ?_
                    | refine Branch.f rfl ?_
                    | refine Branch.t (by assumption) ?_
                    | refine Branch.f (by assumption) ?_
                    | refine Branch.d (fun _ => ?_) (fun _ => ?_)
                    | refine Branch.mk (fun _ => ?_) (fun _ => ?_)
                    | refine Need.mk (by first | omega | decide | rfl) ?_
                    | refine Idx.nat (by omega) ?_
                    | refine Idx.auto (by first | omega | decide) (by first | omega | decide) ?_
                    | refine Cell.ro rfl ?_
                    | refine SDraw.all (by kernel_rfl) ?_
                    | refine Kept.k0 ?_
                    | refine Kept.k1 ?_
                    | refine Kept.k2 ?_
                    | refine Kept.k3 ?_
                    | refine Kept.k4 ?_))
                all_goals (conv => whnf)
                all_goals exact hnext3 _ _ (by rw [htm]; first | rfl | (rw [hde]; rfl)) .mk
          · have e : k = xs.length := by omega
            subst e
            rw [List.take_length] at hS
            by_cases hmis : s.v ∈ xs
            · rw [decide_eq_true hmis] at hS
              cases hS
              rw [hrd1 hmis] at hc14
              obtain ⟨snd, sv', sx, scc, sis⟩ := s
              dsimp only at hc0 hc1 hc2 hc3 hc4 hc14 hc15
              cases sis
              all_goals
                repeat' ((conv => whnf); (first
                    | refine SDraw.held (by kernel_rfl) [(q1, _)] (.same hqG .nil) ?_
                    | refine Look.cell (.head _) hc0 ?_
                    | refine Look.cell (.head _) hc1 ?_
                    | refine Look.cell hqG hc1 ?_
                    | refine Look.cell hqG hc2 ?_
                    | refine Look.cell hqG hc3 ?_
                    | refine Look.cell hqG hc4 ?_
                    | refine hc14 _ ?_
                    | refine Kept.mk (.same hqG .nil) ?_
                    | refine New.mk (fun _ => ?_)
                    | refine Look.at0 ?_
                    | refine Cell.row ?_
                    | refine Cell.buf ?_
                    | refine Cells.row rfl ?_
                    | refine Put.row rfl ?_
                    | refine Put.buf rfl ?_
                    | refine Look.at1 ?_
                    | refine Look.at2 ?_
                    | refine Look.at3 ?_
                    | refine Look.at4 ?_
                    | refine Look.at5 ?_
                    | refine Look.at6 ?_
                    | refine Look.at7 ?_
                    | refine Look.at8 ?_
                    | with_reducible refine Val.i64 (by omega) (by omega) ?_
                    | with_reducible refine Val.u8 (by omega) (by omega) ?_
                    | with_reducible refine Val.u32 (by omega) (by omega) ?_
                    | with_reducible refine Val.u64 (by omega) (by omega) ?_
                    | with_reducible refine Val.u8m ?_
                    | with_reducible refine Val.u32m ?_
                    | with_reducible refine Val.u64m ?_
                    | with_reducible refine Val.shr8 ?_
                    | with_reducible refine Val.shr16 (by decide) ?_
                    | with_reducible refine Val.shr24 (by decide) ?_
                    | with_reducible refine Val.raw ?_
                    | refine Branch.not ?_
                    | refine Branch.and ?_
                    | refine Branch.or ?_
                    | refine Branch.dt (by assumption) ?_
                    | refine Branch.df (by assumption) ?_
                    | refine Branch.dt rfl ?_
                    | refine Branch.dt (by omega) ?_
                    | refine Branch.df (by omega) ?_
                    | refine Branch.t rfl ?_
                    | refine Branch.f rfl ?_
                    | refine Branch.t (by assumption) ?_
                    | refine Branch.f (by assumption) ?_
                    | refine Branch.d (fun _ => ?_) (fun _ => ?_)
                    | refine Branch.mk (fun _ => ?_) (fun _ => ?_)
                    | refine Need.mk (by first | omega | decide | rfl) ?_
                    | refine Idx.nat (by omega) ?_
                    | refine Idx.auto (by first | omega | decide) (by first | omega | decide) ?_
                    | refine Cell.ro rfl ?_
                    | refine SDraw.all (by kernel_rfl) ?_
                    | refine Kept.k0 ?_
                    | refine Kept.k1 ?_
                    | refine Kept.k2 ?_
                    | refine Kept.k3 ?_
                    | refine Kept.k4 ?_))
                all_goals (conv => whnf)
                all_goals exact hnext _ .mk
            · rw [decide_eq_false hmis] at hS
              cases hS
              rw [hrd0 hmis] at hc14
              repeat' ((conv => whnf); (first
                  | refine SDraw.held (by kernel_rfl) [(q1, _)] (.same hqG .nil) ?_
                  | refine Look.cell (.head _) hc0 ?_
                  | refine Look.cell (.head _) hc1 ?_
                  | refine Look.cell hqG hc1 ?_
                  | refine hc14 _ ?_
                  | refine hc15 _ ?_
                  | refine hc19 _ ?_
                  | refine Kept.mk (.same hqG .nil) ?_
                  | refine New.mk (fun _ => ?_)
                  | refine Look.at0 ?_
                  | refine Cell.row ?_
                  | refine Cell.buf ?_
                  | refine Cells.row rfl ?_
                  | refine Put.row rfl ?_
                  | refine Put.buf rfl ?_
                  | refine Look.at1 ?_
                  | refine Look.at2 ?_
                  | refine Look.at3 ?_
                  | refine Look.at4 ?_
                  | refine Look.at5 ?_
                  | refine Look.at6 ?_
                  | refine Look.at7 ?_
                  | refine Look.at8 ?_
                  | with_reducible refine Val.i64 (by omega) (by omega) ?_
                  | with_reducible refine Val.u8 (by omega) (by omega) ?_
                  | with_reducible refine Val.u32 (by omega) (by omega) ?_
                  | with_reducible refine Val.u64 (by omega) (by omega) ?_
                  | with_reducible refine Val.u8m ?_
                  | with_reducible refine Val.u32m ?_
                  | with_reducible refine Val.u64m ?_
                  | with_reducible refine Val.shr8 ?_
                  | with_reducible refine Val.shr16 (by decide) ?_
                  | with_reducible refine Val.shr24 (by decide) ?_
                  | with_reducible refine Val.raw ?_
                  | refine Branch.not ?_
                  | refine Branch.and ?_
                  | refine Branch.or ?_
                  | refine Branch.dt (by assumption) ?_
                  | refine Branch.df (by assumption) ?_
                  | refine Branch.dt rfl ?_
                  | refine Branch.dt (by omega) ?_
                  | refine Branch.df (by omega) ?_
                  | refine Branch.t rfl ?_
                  | refine Branch.f rfl ?_
                  | refine Branch.t (by assumption) ?_
                  | refine Branch.f (by assumption) ?_
                  | refine Branch.d (fun _ => ?_) (fun _ => ?_)
                  | refine Branch.mk (fun _ => ?_) (fun _ => ?_)
                  | refine Need.mk (by first | omega | decide | rfl) ?_
                  | refine Idx.nat (by omega) ?_
                  | refine Idx.auto (by first | omega | decide) (by first | omega | decide) ?_
                  | refine Cell.ro rfl ?_
                  | refine SDraw.all (by kernel_rfl) ?_
                  | refine Kept.k0 ?_
                  | refine Kept.k1 ?_
                  | refine Kept.k2 ?_
                  | refine Kept.k3 ?_
                  | refine Kept.k4 ?_))
              all_goals (conv => whnf)
              all_goals exact hnext _ .mk
        · have e : i = D.S.length := by omega
          subst e
          repeat' ((conv => whnf); (first
              | refine hc9 _ _ (fun N9 => ?_)
              | refine New.mk (fun _ => ?_)
              | refine Look.at0 ?_
              | refine Cell.row ?_
              | refine Cell.buf ?_
              | refine Cells.row rfl ?_
              | refine Put.row rfl ?_
              | refine Put.buf rfl ?_
              | refine Look.at1 ?_
              | refine Look.at2 ?_
              | refine Look.at3 ?_
              | refine Look.at4 ?_
              | refine Look.at5 ?_
              | refine Look.at6 ?_
              | refine Look.at7 ?_
              | refine Look.at8 ?_
              | with_reducible refine Val.i64 (by omega) (by omega) ?_
              | with_reducible refine Val.u8 (by omega) (by omega) ?_
              | with_reducible refine Val.u32 (by omega) (by omega) ?_
              | with_reducible refine Val.u64 (by omega) (by omega) ?_
              | with_reducible refine Val.u8m ?_
              | with_reducible refine Val.u32m ?_
              | with_reducible refine Val.u64m ?_
              | with_reducible refine Val.shr8 ?_
              | with_reducible refine Val.shr16 (by decide) ?_
              | with_reducible refine Val.shr24 (by decide) ?_
              | with_reducible refine Val.raw ?_
              | refine Branch.not ?_
              | refine Branch.and ?_
              | refine Branch.or ?_
              | refine Branch.dt (by assumption) ?_
              | refine Branch.df (by assumption) ?_
              | refine Branch.dt rfl ?_
              | refine Branch.dt (by omega) ?_
              | refine Branch.df (by omega) ?_
              | refine Branch.t rfl ?_
              | refine Branch.f rfl ?_
              | refine Branch.t (by assumption) ?_
              | refine Branch.f (by assumption) ?_
              | refine Branch.d (fun _ => ?_) (fun _ => ?_)
              | refine Branch.mk (fun _ => ?_) (fun _ => ?_)
              | refine Need.mk (by first | omega | decide | rfl) ?_
              | refine Idx.nat (by omega) ?_
              | refine Idx.auto (by first | omega | decide) (by first | omega | decide) ?_
              | refine Cell.ro rfl ?_
              | refine SDraw.all (by kernel_rfl) ?_
              | refine Kept.k0 ?_
              | refine Kept.k1 ?_
              | refine Kept.k2 ?_
              | refine Kept.k3 ?_
              | refine Kept.k4 ?_))
          all_goals (conv => whnf)
          exact Keep.sub [] (List.nil_sublist _) rfl
      · repeat' ((conv => whnf); (first
            | refine Look.mem (hDS _ _) (fun _ _ _ => ?_)
            | refine RawV.copyS (L := D.S) (f := Sg.cells) (k := 5) (bytes := 40) (hinS2 _) rfl (by kernel_rfl) (by decide) (fun _ => rfl) (fun y u hu => by simp only [List.mem_cons, List.not_mem_nil, or_false] at hu; rcases hu with rfl | rfl | rfl | rfl | rfl <;> rfl) (by omega) (fun q1 c1 k1 k2 => ?_)
            | refine RawV.copyS (L := xs) (f := cI) (k := 1) (bytes := 8) (hxi2 _ _) rfl (by kernel_rfl) (by decide) (fun _ => rfl) (fun y u hu => by obtain rfl := List.mem_singleton.1 hu; rfl) (by omega) (fun q2 c2 k3 k4 => ?_)
            | refine SCalls.perm (SCalls.midH [_, _] Hd (hc16 q2 c2 _ (fun H3 hM3 => ?_))) (List.perm_middle (l₁ := [_, _])).symm
            | refine SCalls.under ([_, _] ++ H3) (hc18 _ (fun H4 hD4 => ?_))
            | refine hc9 _ _ (fun N9 => ?_)
            | refine New.mk (fun _ => ?_)
            | refine Look.at0 ?_
            | refine Cell.row ?_
            | refine Cell.buf ?_
            | refine Cells.row rfl ?_
            | refine Put.row rfl ?_
            | refine Put.buf rfl ?_
            | refine Look.at1 ?_
            | refine Look.at2 ?_
            | refine Look.at3 ?_
            | refine Look.at4 ?_
            | refine Look.at5 ?_
            | refine Look.at6 ?_
            | refine Look.at7 ?_
            | refine Look.at8 ?_
            | with_reducible refine Val.i64 (by omega) (by omega) ?_
            | with_reducible refine Val.u8 (by omega) (by omega) ?_
            | with_reducible refine Val.u32 (by omega) (by omega) ?_
            | with_reducible refine Val.u64 (by omega) (by omega) ?_
            | with_reducible refine Val.u8m ?_
            | with_reducible refine Val.u32m ?_
            | with_reducible refine Val.u64m ?_
            | with_reducible refine Val.shr8 ?_
            | with_reducible refine Val.shr16 (by decide) ?_
            | with_reducible refine Val.shr24 (by decide) ?_
            | with_reducible refine Val.raw ?_
            | refine Branch.not ?_
            | refine Branch.and ?_
            | refine Branch.or ?_
            | refine Branch.dt (by assumption) ?_
            | refine Branch.df (by assumption) ?_
            | refine Branch.dt rfl ?_
            | refine Branch.dt (by omega) ?_
            | refine Branch.df (by omega) ?_
            | refine Branch.t rfl ?_
            | refine Branch.f rfl ?_
            | refine Branch.t (by assumption) ?_
            | refine Branch.f (by assumption) ?_
            | refine Branch.d (fun _ => ?_) (fun _ => ?_)
            | refine Branch.mk (fun _ => ?_) (fun _ => ?_)
            | refine Need.mk (by first | omega | decide | rfl) ?_
            | refine Idx.nat (by omega) ?_
            | refine Idx.auto (by first | omega | decide) (by first | omega | decide) ?_
            | refine Cell.ro rfl ?_
            | refine SDraw.all (by kernel_rfl) ?_
            | refine Kept.k0 ?_
            | refine Kept.k1 ?_
            | refine Kept.k2 ?_
            | refine Kept.k3 ?_
            | refine Kept.k4 ?_))
        all_goals (conv => whnf)
        all_goals exact Keep.sub [] (List.nil_sublist _) rfl
  · repeat' ((conv => whnf); (first
        | refine SDraw.held (by kernel_rfl) [_] (.same (.head _) .nil) ?_
        | refine Kept.mk (.same (.head _) .nil) ?_
        | refine SCalls.under [_] (c8 hin hbig hL (fun q c Lo N h1 h2 h3 => ?_))
        | refine SCalls.midH [_] I (hc7 _ h1 h2 h3 (fun hne => ?_) (fun he => absurd he hchk))
        | refine hc9 _ _ (fun N9 => ?_)
        | refine New.mk (fun _ => ?_)
        | refine Look.at0 ?_
        | refine Cell.row ?_
        | refine Cell.buf ?_
        | refine Cells.row rfl ?_
        | refine Put.row rfl ?_
        | refine Put.buf rfl ?_
        | refine Look.at1 ?_
        | refine Look.at2 ?_
        | refine Look.at3 ?_
        | refine Look.at4 ?_
        | refine Look.at5 ?_
        | refine Look.at6 ?_
        | refine Look.at7 ?_
        | refine Look.at8 ?_
        | with_reducible refine Val.i64 (by omega) (by omega) ?_
        | with_reducible refine Val.u8 (by omega) (by omega) ?_
        | with_reducible refine Val.u32 (by omega) (by omega) ?_
        | with_reducible refine Val.u64 (by omega) (by omega) ?_
        | with_reducible refine Val.u8m ?_
        | with_reducible refine Val.u32m ?_
        | with_reducible refine Val.u64m ?_
        | with_reducible refine Val.shr8 ?_
        | with_reducible refine Val.shr16 (by decide) ?_
        | with_reducible refine Val.shr24 (by decide) ?_
        | with_reducible refine Val.raw ?_
        | refine Branch.not ?_
        | refine Branch.and ?_
        | refine Branch.or ?_
        | refine Branch.dt (by assumption) ?_
        | refine Branch.df (by assumption) ?_
        | refine Branch.dt rfl ?_
        | refine Branch.dt (by omega) ?_
        | refine Branch.df (by omega) ?_
        | refine Branch.t rfl ?_
        | refine Branch.f rfl ?_
        | refine Branch.t (by assumption) ?_
        | refine Branch.f (by assumption) ?_
        | refine Branch.d (fun _ => ?_) (fun _ => ?_)
        | refine Branch.mk (fun _ => ?_) (fun _ => ?_)
        | refine Need.mk (by first | omega | decide | rfl) ?_
        | refine Idx.nat (by omega) ?_
        | refine Idx.auto (by first | omega | decide) (by first | omega | decide) ?_
        | refine Cell.ro rfl ?_
        | refine SDraw.all (by kernel_rfl) ?_
        | refine Kept.k0 ?_
        | refine Kept.k1 ?_
        | refine Kept.k2 ?_
        | refine Kept.k3 ?_
        | refine Kept.k4 ?_))
    all_goals (conv => whnf)
    all_goals exact Keep.sub [] (List.nil_sublist _) rfl
end
theorem ImageMissedW (a0x0 : Int) (a0x1a : Option Addr) (a0x1l : Nat) (a0x1c : Nat) (a1a : Option Addr) (a1l : Nat) (a1c : Nat) (a2a : Option Addr) (a2l : Nat) (a2c : Nat) (w : World) (h0_0 : (Lit.int .i64 a0x0).wf = true) (h0_1 : SliceAt 2 B42 R42 w a0x1a a0x1l a0x1c) (h1_0 : SliceAt 5 B38 R38 w a1a a1l a1c) (h2_0 : SliceAt 1 B3 R3 w a2a a2l a2c) :
    Calls Try.prog 5 #[.agg #[.int .i64 a0x0, .slice a0x1a a0x1l a0x1c], .slice a1a a1l a1c, .slice a2a a2l a2c] w fun e w' => e = .returned (.bool true) ∧ Go.RowKit.Below w.heap.size w w' := by
  obtain ⟨H1, L, rfl, hin, hb, hL, hw1, x1⟩ := inV_of h0_1
  obtain ⟨H2, Y, rfl, hact, hw2, x2⟩ := inA_of h1_0
  obtain ⟨H3, xs, rfl, hxs, _, hw3, x3⟩ := inS_of (f := cI) (Good := fun _ => True) h2_0 (by decide) (fun _ => rfl) (fun cs hc => int_of hc)
  have hxb : xs.length * 8 ≤ 140737488355000 := by
    have := h2_0.2.2.1
    have e : B3 = 8 := rfl
    rw [e] at this
    simp only [reachBytes] at this; omega
  have x12 := excl_join x1 x2
  have x := excl_join x12 x3
  exact (missed_c (hin.mono fun p hp => List.mem_append_left _ (List.mem_append_left _ hp)) hb hL (fun p hp => kd_ro (x p hp)) (hact.mono fun p hp => List.mem_append_left _ (List.mem_append_right _ hp)) (hxs.mono fun p hp => List.mem_append_right _ hp) hxb a0x0).fin w (Holds.join (Holds.join hw1 hw2 x1 x2) hw3 x12 x3) x
end Go.Proofs.Ytjnlpaojaikjaaa

/- Layer 26: a node that was gone saw nothing: the law. -/
set_option linter.unusedVariables false
set_option linter.unusedSimpArgs false
set_option maxRecDepth 100000
set_option maxHeartbeats 4000000
namespace Go.Proofs.Ytjnlpaojaikjaaa
open Sx
theorem getS_gone (l : List (Int × Option (Int × Int))) (n : Int) (xc : Int × Int) : getS (setS n none l) n ≠ some (some xc) := by
  unfold getS
  intro h
  cases hf : (setS n none l).find? (fun s => decide (s.1 = n)) with
  | none => rw [hf] at h; cases h
  | some s =>
    rw [hf] at h
    have hm := List.mem_of_find?_eq_some hf
    have hp := List.find?_some hf
    simp at hp
    unfold setS at hm
    obtain ⟨t, _, rfl⟩ := List.mem_map.1 hm
    split at hp
    · rename_i e
      simp [e] at h
    · rename_i e; exact e hp
theorem lost_gone {M : Mc} {n : Int} (h0 : 0 ≤ n ∧ n < (M.there.length : Int)) (h : (M.lost n).1 = 0) : (M.lost n).2.there[n.toNat]? = some false ∧ (M.lost n).2.there.length = M.there.length ∧ ∀ v, (M.lost n).2.read n v = (0, 0, false) := by
  have e : (M.lost n).2 = { M with there := M.there.set n.toNat false, vs := M.vs.map (lostV n) } := by
    unfold Mc.lost Mc.turn at h ⊢
    rw [if_pos h0] at h ⊢
    by_cases ht : M.there[n.toNat]? = some false
    · rw [if_pos ht] at h; rw [if_neg (fun e => by cases e)] at h; cases h
    · rw [if_neg ht, if_pos rfl]
  rw [e]
  refine ⟨?_, ?_, fun v => ?_⟩
  · show (M.there.set n.toNat false)[n.toNat]? = some false
    rw [List.getElem?_set, if_pos rfl, if_pos (by omega)]
  · show (M.there.set n.toNat false).length = _
    rw [List.length_set]
  · unfold Mc.read
    dsimp only
    split
    · rw [List.getElem?_map]
      cases M.vs[v.toNat]? with
      | none => rfl
      | some w =>
        show (match getS (setS n none w.seen) n with | some (some xc) => (xc.1, xc.2, true) | _ => (0, 0, false)) = _
        have := getS_gone w.seen n
        cases hg : getS (setS n none w.seen) n with
        | none => rfl
        | some o =>
          cases o with
          | none => rfl
          | some xc => exact absurd hg (this xc)
    · rfl
theorem lost_again {M : Mc} {n : Int} (h0 : 0 ≤ n ∧ n < (M.there.length : Int)) (h : (M.lost n).1 ≠ 0) : (M.turn n true).2.there.length = M.there.length ∧ ((M.turn n true).2.lost n).1 = 0 := by
  have ht : M.there[n.toNat]? = some false := by
    unfold Mc.lost Mc.turn at h
    rw [if_pos h0] at h
    by_cases ht : M.there[n.toNat]? = some false
    · exact ht
    · rw [if_neg ht, if_pos rfl] at h; exact absurd rfl h
  have e : (M.turn n true).2 = { M with there := M.there.set n.toNat true } := by
    unfold Mc.turn; rw [if_pos h0, if_neg (by rw [ht]; decide)]
  rw [e]
  refine ⟨by show (M.there.set _ _).length = _; rw [List.length_set], ?_⟩
  have e2 : ({ M with there := M.there.set n.toNat true } : Mc).turn n false = (0, { M with there := (M.there.set n.toNat true).set n.toNat false }) := by
    unfold Mc.turn
    dsimp only
    rw [List.length_set, if_pos h0, if_neg]
    rw [List.getElem?_set, if_pos rfl, if_pos (by omega)]
    decide
  unfold Mc.lost
  rw [e2, if_pos rfl]
theorem back_ok {M : Mc} {n : Int} (h0 : 0 ≤ n ∧ n < (M.there.length : Int)) (ht : M.there[n.toNat]? = some false) : (M.turn n true).1 = 0 ∧ ∀ c v, (M.turn n true).2.read c v = M.read c v := by
  have e : M.turn n true = (0, { M with there := M.there.set n.toNat true }) := by
    unfold Mc.turn; rw [if_pos h0, if_neg (by rw [ht]; decide)]
  rw [e]; exact ⟨rfl, fun c v => rfl⟩
theorem act_len {M : Mc} (y : ActI) : (M.act y).2.there.length = M.there.length := by
  have ht : ∀ n b, (M.turn n b).2.there.length = M.there.length := fun n b => by
    unfold Mc.turn; split
    · split
      · rfl
      · exact List.length_set ..
    · rfl
  unfold Mc.act
  split
  · unfold Mc.write; split
    · split
      · split
        · split <;> rfl
        · rfl
      · rfl
    · rfl
  · split
    · unfold Mc.sync; split <;> rfl
    · split
      · unfold Mc.lost; split
        · exact ht _ _
        · exact ht _ _
      · split
        · exact ht _ _
        · rfl
abbrev cW (p : Int × Int) : List Value := [.int .u64 p.1, .int .u64 p.2]
def rowW (M : Mc) (i : Nat) (cons : List Int) : List (Int × Int) := cons.map fun c => ((M.read c i).1, (M.read c i).2.1)
def wasW (M : Mc) (L : List VarI) : List (Int × Int) := (L.mapIdx fun i x => rowW M i x.cons).flatten
theorem wasW_next {M : Mc} {L : List VarI} {i : Nat} {x : VarI} (hx : L[i]? = some x) : wasW M (L.take (i + 1)) = wasW M (L.take i) ++ rowW M i x.cons := by
  have hlt := (List.getElem?_eq_some_iff.1 hx).1
  obtain ⟨y, hy, _, ht⟩ := list_at hlt
  rw [hx] at hy; injection hy with hy; subst hy
  unfold wasW
  rw [ht, List.mapIdx_concat, List.flatten_append, List.length_take, Nat.min_eq_left (by omega)]; simp
theorem wasW_le (M : Mc) : ∀ (k : Nat) (L : List VarI), (∀ x ∈ L, x.cons.length ≤ 127) → k ≤ L.length → (wasW M (L.take k)).length ≤ k * 127
  | 0, L, _, _ => by simp [wasW]
  | k + 1, L, h, hk => by
    obtain ⟨x, hx, _, _⟩ := list_at (L := L) (j := k) (by omega)
    rw [wasW_next hx, List.length_append]
    have h1 := wasW_le M k L h (by omega)
    have h2 := h x (List.mem_of_getElem? hx)
    have h3 : (rowW M k x.cons).length = x.cons.length := by unfold rowW; rw [List.length_map]
    omega
/-- What was read of the k-th consumer of variable i. -/
theorem wasW_at {M : Mc} {L : List VarI} {i k : Nat} {x : VarI} {c : Int} (hx : L[i]? = some x) (hc : x.cons[k]? = some c) : (wasW M L)[(wasW M (L.take i)).length + k]? = some ((M.read c i).1, (M.read c i).2.1) := by
  have h1 : wasW M (L.take (i + 1)) = wasW M (L.take i) ++ rowW M i x.cons := wasW_next hx
  have h2 : ∃ T, wasW M L = wasW M (L.take (i + 1)) ++ T := by
    refine ⟨(L.mapIdx fun i x => rowW M i x.cons).drop (i + 1) |>.flatten, ?_⟩
    have e : (L.take (i + 1)).mapIdx (fun i x => rowW M i x.cons) = (L.mapIdx fun i x => rowW M i x.cons).take (i + 1) := by
      refine List.ext_getElem? fun j => ?_
      rw [List.getElem?_mapIdx, List.getElem?_take, List.getElem?_take, List.getElem?_mapIdx]
      split <;> rfl
    unfold wasW
    rw [e, ← List.flatten_append, List.take_append_drop]
  obtain ⟨T, h2⟩ := h2
  have hk := (List.getElem?_eq_some_iff.1 hc).1
  have hl : (rowW M i x.cons).length = x.cons.length := by unfold rowW; rw [List.length_map]
  rw [h2, h1, List.append_assoc, List.getElem?_append_right (by omega), Nat.add_sub_cancel_left, List.getElem?_append_left (by omega)]
  unfold rowW
  rw [List.getElem?_map, hc]; rfl
end Go.Proofs.Ytjnlpaojaikjaaa

/- Layer 26: a node that was gone saw nothing: the law. -/
set_option linter.unusedVariables false
set_option linter.unusedSimpArgs false
set_option maxRecDepth 100000
set_option maxHeartbeats 4000000
namespace Go.Proofs.Ytjnlpaojaikjaaa
open Sx
inductive S3 (A1 A2 A3 A7 A9 A10 : Value) : List Value → Prop
  | mk {r0 r4 r5 r6 r8 r11 r12 r13 r14 r15 r16 r17 r18 r19 r20 r21 r22 r23 r24 r25 r26 r27 r28 r29 r30 r31 r32 r33 r34 r35 r36 r37 r38 r39 r40 r41 r42 r43 r44 r45 r46 r47 r48 r49 r50 r51 r52 r53 r54 r55 r56 r57 r58 r59 r60 r61 r62 r63 r64 r65 r66 r67 r68 r69 r70 r71 r72 r73 r74 r75 r76 r77 r78 r79 r80 r81 r82 r83 r84 r85 r86 r87 r88 r89 r90 r91 r92 r93 r94 r95 r96 r97 r98 r99 r100 r101 r102 r103 r104 r105 r106 r107 r108 r109 r110 r111 r112 r113 r114 r115 r116 r117 r118 r119 r120 r121 r122 r123 r124 r125 r126 r127 r128 r129 r130 r131 r132 r133 r134 r135 r136 r137 r138 r139 r140 r141 r142 r143 r144 r145 r146 r147 r148 r149 r150 r151 r152 r153 r154 r155 r156 r157 r158 r159 r160 r161 r162 r163 r164 r165 r166 r167 r168 r169 r170 r171 r172 r173 r174 r175 : Value} : S3 A1 A2 A3 A7 A9 A10 [r0, A1, A2, A3, r4, r5, r6, A7, r8, A9, A10, r11, r12, r13, r14, r15, r16, r17, r18, r19, r20, r21, r22, r23, r24, r25, r26, r27, r28, r29, r30, r31, r32, r33, r34, r35, r36, r37, r38, r39, r40, r41, r42, r43, r44, r45, r46, r47, r48, r49, r50, r51, r52, r53, r54, r55, r56, r57, r58, r59, r60, r61, r62, r63, r64, r65, r66, r67, r68, r69, r70, r71, r72, r73, r74, r75, r76, r77, r78, r79, r80, r81, r82, r83, r84, r85, r86, r87, r88, r89, r90, r91, r92, r93, r94, r95, r96, r97, r98, r99, r100, r101, r102, r103, r104, r105, r106, r107, r108, r109, r110, r111, r112, r113, r114, r115, r116, r117, r118, r119, r120, r121, r122, r123, r124, r125, r126, r127, r128, r129, r130, r131, r132, r133, r134, r135, r136, r137, r138, r139, r140, r141, r142, r143, r144, r145, r146, r147, r148, r149, r150, r151, r152, r153, r154, r155, r156, r157, r158, r159, r160, r161, r162, r163, r164, r165, r166, r167, r168, r169, r170, r171, r172, r173, r174, r175]
inductive S3a (A3 A7 A11 A12 A13 : Value) : List Value → Prop
  | mk {r0 r1 r2 r4 r5 r6 r8 r9 r10 r14 r15 r16 r17 r18 r19 r20 r21 r22 r23 r24 r25 r26 r27 r28 r29 r30 r31 r32 r33 r34 r35 r36 r37 r38 r39 r40 r41 r42 r43 r44 r45 r46 r47 r48 r49 r50 r51 r52 r53 r54 r55 r56 r57 r58 r59 r60 r61 r62 r63 r64 r65 r66 r67 r68 r69 r70 r71 r72 r73 r74 r75 r76 r77 r78 r79 r80 r81 r82 r83 r84 r85 r86 r87 r88 r89 r90 r91 r92 r93 r94 r95 r96 r97 r98 r99 r100 r101 r102 r103 r104 r105 r106 r107 r108 r109 r110 r111 r112 r113 r114 r115 r116 r117 r118 r119 r120 r121 r122 r123 r124 r125 r126 r127 r128 r129 r130 r131 r132 r133 r134 r135 r136 r137 r138 r139 r140 r141 r142 r143 r144 r145 r146 r147 r148 r149 r150 r151 r152 r153 r154 r155 r156 r157 r158 r159 r160 r161 r162 r163 r164 r165 r166 r167 r168 r169 r170 r171 r172 r173 r174 r175 : Value} : S3a A3 A7 A11 A12 A13 [r0, r1, r2, A3, r4, r5, r6, A7, r8, r9, r10, A11, A12, A13, r14, r15, r16, r17, r18, r19, r20, r21, r22, r23, r24, r25, r26, r27, r28, r29, r30, r31, r32, r33, r34, r35, r36, r37, r38, r39, r40, r41, r42, r43, r44, r45, r46, r47, r48, r49, r50, r51, r52, r53, r54, r55, r56, r57, r58, r59, r60, r61, r62, r63, r64, r65, r66, r67, r68, r69, r70, r71, r72, r73, r74, r75, r76, r77, r78, r79, r80, r81, r82, r83, r84, r85, r86, r87, r88, r89, r90, r91, r92, r93, r94, r95, r96, r97, r98, r99, r100, r101, r102, r103, r104, r105, r106, r107, r108, r109, r110, r111, r112, r113, r114, r115, r116, r117, r118, r119, r120, r121, r122, r123, r124, r125, r126, r127, r128, r129, r130, r131, r132, r133, r134, r135, r136, r137, r138, r139, r140, r141, r142, r143, r144, r145, r146, r147, r148, r149, r150, r151, r152, r153, r154, r155, r156, r157, r158, r159, r160, r161, r162, r163, r164, r165, r166, r167, r168, r169, r170, r171, r172, r173, r174, r175]
inductive S3b (A3 A7 A11 A12 A13 A14 : Value) : List Value → Prop
  | mk {r0 r1 r2 r4 r5 r6 r8 r9 r10 r15 r16 r17 r18 r19 r20 r21 r22 r23 r24 r25 r26 r27 r28 r29 r30 r31 r32 r33 r34 r35 r36 r37 r38 r39 r40 r41 r42 r43 r44 r45 r46 r47 r48 r49 r50 r51 r52 r53 r54 r55 r56 r57 r58 r59 r60 r61 r62 r63 r64 r65 r66 r67 r68 r69 r70 r71 r72 r73 r74 r75 r76 r77 r78 r79 r80 r81 r82 r83 r84 r85 r86 r87 r88 r89 r90 r91 r92 r93 r94 r95 r96 r97 r98 r99 r100 r101 r102 r103 r104 r105 r106 r107 r108 r109 r110 r111 r112 r113 r114 r115 r116 r117 r118 r119 r120 r121 r122 r123 r124 r125 r126 r127 r128 r129 r130 r131 r132 r133 r134 r135 r136 r137 r138 r139 r140 r141 r142 r143 r144 r145 r146 r147 r148 r149 r150 r151 r152 r153 r154 r155 r156 r157 r158 r159 r160 r161 r162 r163 r164 r165 r166 r167 r168 r169 r170 r171 r172 r173 r174 r175 : Value} : S3b A3 A7 A11 A12 A13 A14 [r0, r1, r2, A3, r4, r5, r6, A7, r8, r9, r10, A11, A12, A13, A14, r15, r16, r17, r18, r19, r20, r21, r22, r23, r24, r25, r26, r27, r28, r29, r30, r31, r32, r33, r34, r35, r36, r37, r38, r39, r40, r41, r42, r43, r44, r45, r46, r47, r48, r49, r50, r51, r52, r53, r54, r55, r56, r57, r58, r59, r60, r61, r62, r63, r64, r65, r66, r67, r68, r69, r70, r71, r72, r73, r74, r75, r76, r77, r78, r79, r80, r81, r82, r83, r84, r85, r86, r87, r88, r89, r90, r91, r92, r93, r94, r95, r96, r97, r98, r99, r100, r101, r102, r103, r104, r105, r106, r107, r108, r109, r110, r111, r112, r113, r114, r115, r116, r117, r118, r119, r120, r121, r122, r123, r124, r125, r126, r127, r128, r129, r130, r131, r132, r133, r134, r135, r136, r137, r138, r139, r140, r141, r142, r143, r144, r145, r146, r147, r148, r149, r150, r151, r152, r153, r154, r155, r156, r157, r158, r159, r160, r161, r162, r163, r164, r165, r166, r167, r168, r169, r170, r171, r172, r173, r174, r175]
inductive S3c (A3 A7 A11 A12 A18 A19 : Value) : List Value → Prop
  | mk {r0 r1 r2 r4 r5 r6 r8 r9 r10 r13 r14 r15 r16 r17 r20 r21 r22 r23 r24 r25 r26 r27 r28 r29 r30 r31 r32 r33 r34 r35 r36 r37 r38 r39 r40 r41 r42 r43 r44 r45 r46 r47 r48 r49 r50 r51 r52 r53 r54 r55 r56 r57 r58 r59 r60 r61 r62 r63 r64 r65 r66 r67 r68 r69 r70 r71 r72 r73 r74 r75 r76 r77 r78 r79 r80 r81 r82 r83 r84 r85 r86 r87 r88 r89 r90 r91 r92 r93 r94 r95 r96 r97 r98 r99 r100 r101 r102 r103 r104 r105 r106 r107 r108 r109 r110 r111 r112 r113 r114 r115 r116 r117 r118 r119 r120 r121 r122 r123 r124 r125 r126 r127 r128 r129 r130 r131 r132 r133 r134 r135 r136 r137 r138 r139 r140 r141 r142 r143 r144 r145 r146 r147 r148 r149 r150 r151 r152 r153 r154 r155 r156 r157 r158 r159 r160 r161 r162 r163 r164 r165 r166 r167 r168 r169 r170 r171 r172 r173 r174 r175 : Value} : S3c A3 A7 A11 A12 A18 A19 [r0, r1, r2, A3, r4, r5, r6, A7, r8, r9, r10, A11, A12, r13, r14, r15, r16, r17, A18, A19, r20, r21, r22, r23, r24, r25, r26, r27, r28, r29, r30, r31, r32, r33, r34, r35, r36, r37, r38, r39, r40, r41, r42, r43, r44, r45, r46, r47, r48, r49, r50, r51, r52, r53, r54, r55, r56, r57, r58, r59, r60, r61, r62, r63, r64, r65, r66, r67, r68, r69, r70, r71, r72, r73, r74, r75, r76, r77, r78, r79, r80, r81, r82, r83, r84, r85, r86, r87, r88, r89, r90, r91, r92, r93, r94, r95, r96, r97, r98, r99, r100, r101, r102, r103, r104, r105, r106, r107, r108, r109, r110, r111, r112, r113, r114, r115, r116, r117, r118, r119, r120, r121, r122, r123, r124, r125, r126, r127, r128, r129, r130, r131, r132, r133, r134, r135, r136, r137, r138, r139, r140, r141, r142, r143, r144, r145, r146, r147, r148, r149, r150, r151, r152, r153, r154, r155, r156, r157, r158, r159, r160, r161, r162, r163, r164, r165, r166, r167, r168, r169, r170, r171, r172, r173, r174, r175]
inductive S3d (A3 A7 A11 A12 A18 A19 A23 : Value) : List Value → Prop
  | mk {r0 r1 r2 r4 r5 r6 r8 r9 r10 r13 r14 r15 r16 r17 r20 r21 r22 r24 r25 r26 r27 r28 r29 r30 r31 r32 r33 r34 r35 r36 r37 r38 r39 r40 r41 r42 r43 r44 r45 r46 r47 r48 r49 r50 r51 r52 r53 r54 r55 r56 r57 r58 r59 r60 r61 r62 r63 r64 r65 r66 r67 r68 r69 r70 r71 r72 r73 r74 r75 r76 r77 r78 r79 r80 r81 r82 r83 r84 r85 r86 r87 r88 r89 r90 r91 r92 r93 r94 r95 r96 r97 r98 r99 r100 r101 r102 r103 r104 r105 r106 r107 r108 r109 r110 r111 r112 r113 r114 r115 r116 r117 r118 r119 r120 r121 r122 r123 r124 r125 r126 r127 r128 r129 r130 r131 r132 r133 r134 r135 r136 r137 r138 r139 r140 r141 r142 r143 r144 r145 r146 r147 r148 r149 r150 r151 r152 r153 r154 r155 r156 r157 r158 r159 r160 r161 r162 r163 r164 r165 r166 r167 r168 r169 r170 r171 r172 r173 r174 r175 : Value} : S3d A3 A7 A11 A12 A18 A19 A23 [r0, r1, r2, A3, r4, r5, r6, A7, r8, r9, r10, A11, A12, r13, r14, r15, r16, r17, A18, A19, r20, r21, r22, A23, r24, r25, r26, r27, r28, r29, r30, r31, r32, r33, r34, r35, r36, r37, r38, r39, r40, r41, r42, r43, r44, r45, r46, r47, r48, r49, r50, r51, r52, r53, r54, r55, r56, r57, r58, r59, r60, r61, r62, r63, r64, r65, r66, r67, r68, r69, r70, r71, r72, r73, r74, r75, r76, r77, r78, r79, r80, r81, r82, r83, r84, r85, r86, r87, r88, r89, r90, r91, r92, r93, r94, r95, r96, r97, r98, r99, r100, r101, r102, r103, r104, r105, r106, r107, r108, r109, r110, r111, r112, r113, r114, r115, r116, r117, r118, r119, r120, r121, r122, r123, r124, r125, r126, r127, r128, r129, r130, r131, r132, r133, r134, r135, r136, r137, r138, r139, r140, r141, r142, r143, r144, r145, r146, r147, r148, r149, r150, r151, r152, r153, r154, r155, r156, r157, r158, r159, r160, r161, r162, r163, r164, r165, r166, r167, r168, r169, r170, r171, r172, r173, r174, r175]
def I3 (av nv : Value) (p0 gm gd : Nat) (R0 : Blk) (L : List VarI) (sv : Value) (I : Heap) (Y : List ActI) (n : Nat) (x : T6) (S : List Value) (H : Heap) : Prop :=
  x.j ≤ Y.length ∧ S3 av nv (ptr p0) (ptr gm) (ptr gd) (.int .i64 (x.j : Int)) S ∧ Mach gm x.ids x.M x.Hm ∧ Doc gd sv L I x.D x.Hd ∧ Rl (prods L) x.M x.D ∧ x.M.there.length = n ∧ H = (p0, R0) :: (x.Hm ++ x.Hd)
structure T3 where
  (j rw c : Nat)
def I3a (p0 gm : Nat) (nv : Value) (M : Mc) (L : List VarI) (G : Heap) (x : T3) (S : List Value) (H : Heap) : Prop :=
  x.j ≤ L.length ∧ S3a (ptr p0) (ptr gm) nv (.slice (some ⟨x.rw, 0, none⟩) (wasW M (L.take x.j)).length x.c) (.int .i64 (x.j : Int)) S ∧ (wasW M (L.take x.j)).length ≤ x.c ∧ x.c ≤ maxLen ∧ H = (x.rw, .buf 45 ((wasW M (L.take x.j)).flatMap cW) (x.c * 2)) :: G
def I3b (p0 gm : Nat) (nv : Value) (M : Mc) (L : List VarI) (i : Nat) (cons : List Int) (G : Heap) (x : T3) (S : List Value) (H : Heap) : Prop :=
  x.j ≤ cons.length ∧ S3b (ptr p0) (ptr gm) nv (.slice (some ⟨x.rw, 0, none⟩) (wasW M (L.take i) ++ rowW M i (cons.take x.j)).length x.c) (.int .i64 (i : Int)) (.int .i64 (x.j : Int)) S ∧ (wasW M (L.take i) ++ rowW M i (cons.take x.j)).length ≤ x.c ∧ x.c ≤ maxLen ∧ H = (x.rw, .buf 45 ((wasW M (L.take i) ++ rowW M i (cons.take x.j)).flatMap cW) (x.c * 2)) :: G
def I3c (p0 gm : Nat) (nv wv : Value) (M : Mc) (L : List VarI) (G : Heap) (i : Nat) (S : List Value) (H : Heap) : Prop :=
  i ≤ L.length ∧ S3c (ptr p0) (ptr gm) nv wv (.int .i64 ((wasW M (L.take i)).length : Int)) (.int .i64 (i : Int)) S ∧ H = G
def I3d (p0 gm : Nat) (nv wv : Value) (M : Mc) (L : List VarI) (i : Nat) (cons : List Int) (G : Heap) (k : Nat) (S : List Value) (H : Heap) : Prop :=
  k ≤ cons.length ∧ S3d (ptr p0) (ptr gm) nv wv (.int .i64 (((wasW M (L.take i)).length + k : Nat) : Int)) (.int .i64 (i : Int)) (.int .i64 (k : Int)) S ∧ H = G
theorem lost_ne {M : Mc} {n : Int} (h : (M.lost n).1 ≠ 0) : (M.lost n).2 = M := by
  unfold Mc.lost at h ⊢
  by_cases h1 : (M.turn n false).1 = 0
  · rw [if_pos h1] at h; exact absurd rfl h
  · rw [if_neg h1]
    unfold Mc.turn at h1 ⊢
    split
    · rename_i h2
      rw [if_pos h2] at h1
      split
      · rfl
      · rename_i h3
        rw [if_neg h3] at h1; exact absurd rfl h1
    · rfl
section
variable {I : Heap} {sv av : Value} {L : List VarI} {Y : List ActI}
theorem gone_c (hin : InV sv I L) (hbig : ∀ x ∈ L, x.cons.length * 8 ≤ 140737488355000) (hL : L.length * 32 ≤ 140737488355000) (hk0 : ∀ p ∈ I, kd p.2 = 5000) (hact : InA av I Y) (a2 : Int) (ha2 : 0 ≤ a2 ∧ a2 ≤ 255) (nodes : Int) : SCalls Try.prog 3 [.agg ⟨[.int .i64 nodes, sv]⟩, av, .int .u8 a2] I fun v _ => v = .bool true := by
  obtain ⟨sa, sc, rfl, hml⟩ := hin.sl.sv
  obtain ⟨aa, ac, rfl, hyl⟩ := hact.sl.sv
  have hyl' : Y.length ≤ 9223372036854775807 := by simp only [maxLen] at hyl; omega
  have hlg : ∀ Lo : List VarI, Lo.map VarI.lg = L.map VarI.lg → Lo.length = L.length ∧ ∀ x ∈ Lo, x.cons.length * 8 ≤ 140737488355000 := fun Lo he => by
    refine ⟨by simpa using congrArg List.length he, fun x hx => ?_⟩
    have : x.lg ∈ L.map VarI.lg := by rw [← he]; exact List.mem_map_of_mem hx
    obtain ⟨y, hy, e⟩ := List.mem_map.1 this
    have e2 : y.cons = x.cons := congrArg Prod.snd e
    rw [← e2]; exact hbig y hy
  have hc7 : ∀ {q c : Nat} {Lo : List VarI} {N : Heap} (K : Value → Heap → Prop), Lo.map VarI.lg = L.map VarI.lg → InV (.slice (some ⟨q, 0, none⟩) L.length c) N Lo → (∀ p ∈ N, kd p.2 = 1042 ∨ kd p.2 = 1003) →
      (chkV nodes (L.map VarI.lg) ≠ 0 → K (.tuple ⟨[.pointer none, .int .i64 (chkV nodes (L.map VarI.lg))]⟩) N) → (chkV nodes (L.map VarI.lg) = 0 → ∀ gm ids H', Mach gm ids (newM nodes.toNat (L.map VarI.lg)) H' → K (.tuple ⟨[ptr gm, .int .i64 0]⟩) H') → SCalls Try.prog 7 [.int .i64 nodes, .slice (some ⟨q, 0, none⟩) L.length c] N K := fun {q c Lo N} K h1 h2 h3 h4 h5 => by
    have := c7 (K := K) h2 (hlg Lo h1).2 (fun p hp => by rcases h3 p hp with e | e <;> omega) nodes
    rw [h1] at this
    exact this h4 h5
  refine enter3 ?_
  by_cases hchk : chkV nodes (L.map VarI.lg) = 0
  · obtain ⟨hn1, hn2, _, _⟩ := chk_zero hchk
    obtain ⟨n, rfl⟩ : ∃ n : Nat, nodes = (n : Int) := ⟨nodes.toNat, by omega⟩
    have hok := goV_zero (chk_zero hchk).2.2.2
    have hl64 := (chk_zero hchk).2.2.1
    rw [List.length_map] at hl64
    have hcons : ∀ x ∈ L, x.cons.length ≤ 127 := fun x hx => by
      obtain ⟨h1, h2⟩ := hok x.lg (List.mem_map_of_mem hx)
      have h3 : ∀ c ∈ x.cons, 0 ≤ c ∧ c < (n : Int) := fun c hc => (mk_ok h1 h2).keys (c, none) (List.mem_map.2 ⟨c, hc, rfl⟩)
      have h4 := nodup_le n x.cons (dup_nodup _ _ h2).1 h3
      omega
    have hc10 := fun (H : Heap) (hI : ∀ p ∈ I, p ∈ H) (K : Value → Heap → Prop) hk => c10 (K := K) hin (fun p hp => ⟨hk0 p hp, hI p hp⟩) n hchk hk
    repeat' ((conv => whnf); (first
        | refine SDraw.held (by kernel_rfl) [_] (.same (.head _) .nil) ?_
        | refine Kept.mk (.same (.head _) .nil) ?_
        | refine SCalls.under [_] (c8 hin hbig hL (fun q c Lo N h1 h2 h3 => ?_))
        | refine SCalls.midH [_] I (hc7 _ h1 h2 h3 (fun hne => absurd hchk hne) (fun hz gm ids H1 hM => ?_))
        | refine SCalls.under (_ :: H1) (hc10 I (fun p hp => hp) _ (fun gd Hd hD => ?_))
        | refine New.mk (fun _ => ?_)
        | refine Look.at0 ?_
        | refine Cell.row ?_
        | refine Cell.buf ?_
        | refine Cells.row rfl ?_
        | refine Put.row rfl ?_
        | refine Put.buf rfl ?_
        | refine Look.at1 ?_
        | refine Look.at2 ?_
        | refine Look.at3 ?_
        | refine Look.at4 ?_
        | refine Look.at5 ?_
        | refine Look.at6 ?_
        | refine Look.at7 ?_
        | refine Look.at8 ?_
        | with_reducible refine Val.i64 (by omega) (by omega) ?_
        | with_reducible refine Val.u8 (by omega) (by omega) ?_
        | with_reducible refine Val.u32 (by omega) (by omega) ?_
        | with_reducible refine Val.u64 (by omega) (by omega) ?_
        | with_reducible refine Val.u8m ?_
        | with_reducible refine Val.u32m ?_
        | with_reducible refine Val.u64m ?_
        | with_reducible refine Val.shr8 ?_
        | with_reducible refine Val.shr16 (by decide) ?_
        | with_reducible refine Val.shr24 (by decide) ?_
        | with_reducible refine Val.raw ?_
        | refine Branch.not ?_
        | refine Branch.and ?_
        | refine Branch.or ?_
        | refine Branch.dt (by assumption) ?_
        | refine Branch.df (by assumption) ?_
        | refine Branch.dt rfl ?_
        | refine Branch.dt (by omega) ?_
        | refine Branch.df (by omega) ?_
        | refine Branch.t rfl ?_
        | refine Branch.f rfl ?_
        | refine Branch.t (by assumption) ?_
        | refine Branch.f (by assumption) ?_
        | refine Branch.d (fun _ => ?_) (fun _ => ?_)
        | refine Branch.mk (fun _ => ?_) (fun _ => ?_)
        | refine Need.mk (by first | omega | decide | rfl) ?_
        | refine Idx.nat (by omega) ?_
        | refine Idx.auto (by first | omega | decide) (by first | omega | decide) ?_
        | refine Cell.ro rfl ?_
        | refine SDraw.all (by kernel_rfl) ?_
        | refine Kept.k0 ?_
        | refine Kept.k1 ?_
        | refine Kept.k2 ?_
        | refine Kept.k3 ?_
        | refine Kept.k4 ?_))
    rename_i p0
    refine SLoop.invA (I3 (.slice aa Y.length ac) (.int .u8 a2) p0 gm gd (.row 24 [.int .i64 (n : Int), .slice sa L.length sc] (0, 0)) L (.slice sa L.length sc) I Y n) (fun x => Y.length - x.j) ⟨0, _, _, ids, H1, Hd⟩ (Keep.all ⟨Nat.zero_le _, .mk, hM, hD, rl_new n L, List.length_replicate, rfl⟩) ?_
    clear hM hD hc10 h1 h2 h3 hc7
    rintro ⟨j, M, D, ids, Hm, Hd⟩ S H' ⟨hj, hS, hM, hD, hR, hT, rfl⟩ R hRR
    dsimp only at hj hS hM hD hR hT hRR ⊢
    cases hS
    by_cases hlt : j < Y.length
    · obtain ⟨y, hy, _, _⟩ := list_at hlt
      obtain ⟨r, o, c', b, e1, hm, hc⟩ := inS_at hact.sl (fun _ => rfl) hy
      injection e1 with e1 _ e3
      subst e1
      have hym := List.mem_of_getElem? hy
      have hmH : (r, b) ∈ (p0, Blk.row 24 [.int .i64 (n : Int), .slice sa L.length sc] (0, 0)) :: (Hm ++ Hd) := .tail _ (List.mem_append_right _ (hD.sub _ hm).2)
      have hnext : ∀ S M1 D1 Hm' Hd', S3 (.slice (some ⟨r, o, none⟩) Y.length ac) (.int .u8 a2) (ptr p0) (ptr gm) (ptr gd) (.int .i64 ((j + 1 : Nat) : Int)) S → Mach gm ids M1 Hm' → Doc gd (.slice sa L.length sc) L I D1 Hd' → Rl (prods L) M1 D1 → M1.there.length = n → R S ((p0, Blk.row 24 [.int .i64 (n : Int), .slice sa L.length sc] (0, 0)) :: (Hm' ++ Hd')) := fun S M1 D1 Hm' Hd' g1 g2 g3 g4 g5 =>
        hRR ⟨j + 1, M1, D1, ids, Hm', Hd'⟩ _ _ (by show Y.length - (j + 1) < Y.length - j; omega) (Keep.all ⟨by show j + 1 ≤ Y.length; omega, g1, g2, g3, g4, g5, rfl⟩)
      clear hRR
      have hc11 := fun (K : Value → Heap → Prop) hk => c11 (K := K) hM hD hR y (hact.el y hym) (hact.big y hym) hk
      repeat' ((conv => whnf); (first
          | refine Look.cells hmH rfl hc ?_
          | refine SCalls.under [_] (hc11 _ (fun Hm' Hd' g1 g2 g3 => ?_))
          | refine New.mk (fun _ => ?_)
          | refine Look.at0 ?_
          | refine Cell.row ?_
          | refine Cell.buf ?_
          | refine Cells.row rfl ?_
          | refine Put.row rfl ?_
          | refine Put.buf rfl ?_
          | refine Look.at1 ?_
          | refine Look.at2 ?_
          | refine Look.at3 ?_
          | refine Look.at4 ?_
          | refine Look.at5 ?_
          | refine Look.at6 ?_
          | refine Look.at7 ?_
          | refine Look.at8 ?_
          | with_reducible refine Val.i64 (by omega) (by omega) ?_
          | with_reducible refine Val.u8 (by omega) (by omega) ?_
          | with_reducible refine Val.u32 (by omega) (by omega) ?_
          | with_reducible refine Val.u64 (by omega) (by omega) ?_
          | with_reducible refine Val.u8m ?_
          | with_reducible refine Val.u32m ?_
          | with_reducible refine Val.u64m ?_
          | with_reducible refine Val.shr8 ?_
          | with_reducible refine Val.shr16 (by decide) ?_
          | with_reducible refine Val.shr24 (by decide) ?_
          | with_reducible refine Val.raw ?_
          | refine Branch.not ?_
          | refine Branch.and ?_
          | refine Branch.or ?_
          | refine Branch.dt (by assumption) ?_
          | refine Branch.df (by assumption) ?_
          | refine Branch.dt rfl ?_
          | refine Branch.dt (by omega) ?_
          | refine Branch.df (by omega) ?_
          | refine Branch.t rfl ?_
          | refine Branch.f rfl ?_
          | refine Branch.t (by assumption) ?_
          | refine Branch.f (by assumption) ?_
          | refine Branch.d (fun _ => ?_) (fun _ => ?_)
          | refine Branch.mk (fun _ => ?_) (fun _ => ?_)
          | refine Need.mk (by first | omega | decide | rfl) ?_
          | refine Idx.nat (by omega) ?_
          | refine Idx.auto (by first | omega | decide) (by first | omega | decide) ?_
          | refine Cell.ro rfl ?_
          | refine SDraw.all (by kernel_rfl) ?_
          | refine Kept.k0 ?_
          | refine Kept.k1 ?_
          | refine Kept.k2 ?_
          | refine Kept.k3 ?_
          | refine Kept.k4 ?_))
      all_goals (conv => whnf)
      exact hnext _ _ _ Hm' Hd' .mk g1 g2 g3 (by rw [act_len y]; exact hT)
    · have e : j = Y.length := by omega
      subst e
      clear hRR
      have hinH : InV (.slice sa L.length sc) Hd L := hD.in
      have htm : Int.tmod a2 (n : Int) = a2 % (n : Int) := Int.tmod_eq_emod_of_nonneg ha2.1
      have hm0 : 0 ≤ a2 % (n : Int) ∧ a2 % (n : Int) < (n : Int) := ⟨Int.emod_nonneg _ (by omega), Int.emod_lt_of_pos _ (by omega)⟩
      obtain ⟨nd, hnd⟩ : ∃ nd, nd = Int.tmod a2 (n : Int) := ⟨_, rfl⟩
      rw [← hnd] at htm
      have hnl0 : 0 ≤ nd ∧ nd < (M.there.length : Int) := by rw [hT]; omega
      have hc12 : ∀ K : Value → Heap → Prop, (∀ H', Mach gm ids (M.lost nd).2 H' → K (.int .i64 (M.lost nd).1) H') → SCalls Try.prog 12 [ptr gm, .int .i64 (Int.tmod a2 (n : Int))] Hm K := fun K hk => by rw [← hnd]; exact c12 hM nd hk
      by_cases hl0 : (M.lost nd).1 = 0
      · obtain ⟨hg1, hg2, hg3⟩ := lost_gone hnl0 hl0
        have hnl : 0 ≤ nd ∧ nd < ((M.lost nd).2.there.length : Int) := by rw [hg2]; exact hnl0
        rw [hl0] at hc12
        generalize (M.lost nd).2 = M1 at hc12 hg1 hg2 hg3 hnl
        repeat' ((conv => whnf); (first
            | refine Look.at0 ?_
            | refine SCalls.midH [_] Hd (hc12 _ (fun H3 hM3 => ?_))
            | refine New.mk (fun _ => ?_)
            | refine Look.at0 ?_
            | refine Cell.row ?_
            | refine Cell.buf ?_
            | refine Cells.row rfl ?_
            | refine Put.row rfl ?_
            | refine Put.buf rfl ?_
            | refine Look.at1 ?_
            | refine Look.at2 ?_
            | refine Look.at3 ?_
            | refine Look.at4 ?_
            | refine Look.at5 ?_
            | refine Look.at6 ?_
            | refine Look.at7 ?_
            | refine Look.at8 ?_
            | with_reducible refine Val.i64 (by omega) (by omega) ?_
            | with_reducible refine Val.u8 (by omega) (by omega) ?_
            | with_reducible refine Val.u32 (by omega) (by omega) ?_
            | with_reducible refine Val.u64 (by omega) (by omega) ?_
            | with_reducible refine Val.u8m ?_
            | with_reducible refine Val.u32m ?_
            | with_reducible refine Val.u64m ?_
            | with_reducible refine Val.shr8 ?_
            | with_reducible refine Val.shr16 (by decide) ?_
            | with_reducible refine Val.shr24 (by decide) ?_
            | with_reducible refine Val.raw ?_
            | refine Branch.not ?_
            | refine Branch.and ?_
            | refine Branch.or ?_
            | refine Branch.dt (by assumption) ?_
            | refine Branch.df (by assumption) ?_
            | refine Branch.dt rfl ?_
            | refine Branch.dt (by omega) ?_
            | refine Branch.df (by omega) ?_
            | refine Branch.t rfl ?_
            | refine Branch.f rfl ?_
            | refine Branch.t (by assumption) ?_
            | refine Branch.f (by assumption) ?_
            | refine Branch.d (fun _ => ?_) (fun _ => ?_)
            | refine Branch.mk (fun _ => ?_) (fun _ => ?_)
            | refine Need.mk (by first | omega | decide | rfl) ?_
            | refine Idx.nat (by omega) ?_
            | refine Idx.auto (by first | omega | decide) (by first | omega | decide) ?_
            | refine Cell.ro rfl ?_
            | refine SDraw.all (by kernel_rfl) ?_
            | refine Kept.k0 ?_
            | refine Kept.k1 ?_
            | refine Kept.k2 ?_
            | refine Kept.k3 ?_
            | refine Kept.k4 ?_))
        rename_i pw
        rw [← hnd]
        obtain ⟨G, hG⟩ : ∃ G, G = (p0, Blk.row 24 [.int .i64 (n : Int), .slice sa L.length sc] (0, 0)) :: (H3 ++ Hd) := ⟨_, rfl⟩
        have hMG : Mach gm ids M1 G := by rw [hG]; exact hM3.mono fun z hz => .tail _ (List.mem_append_left _ hz)
        have hp0 : (p0, Blk.row 24 [.int .i64 (n : Int), .slice sa L.length sc] (0, 0)) ∈ G := by rw [hG]; exact .head _
        have hIG : InV (.slice sa L.length sc) G L := by rw [hG]; exact hinH.mono fun z hz => .tail _ (List.mem_append_right _ hz)
        refine SLoop.toBuf (A := []) ?_
        refine SLoop.invA (I3a p0 gm (.int .i64 nd) M1 L G) (fun x => L.length - x.j) ⟨0, pw, 0⟩ (Keep.all ⟨Nat.zero_le _, .mk, Nat.le_refl 0, Nat.zero_le _, by rw [hG]; rfl⟩) ?_
        rintro ⟨i, rw, c⟩ S H' ⟨hi, hS, hwc, hcm, rfl⟩ R hRR
        dsimp only at hi hS hwc hcm hRR ⊢
        cases hS
        by_cases hlt : i < L.length
        · obtain ⟨x, hx, _, _⟩ := list_at hlt
          obtain ⟨rL, oL, cL, b, e1, hmL, hcL⟩ := inS_at hIG.sl (fun _ => rfl) hx
          injection e1 with e1 _ e3
          subst e1
          have hxm := List.mem_of_getElem? hx
          have hel := hIG.el x hxm
          have hxc := hcons x hxm
          have hwn := wasW_next (M := M1) hx
          have hwl := wasW_le M1 i L hcons (by omega)
          obtain ⟨xpr, xco, xad, xcp⟩ := x
          dsimp only at hel hxc hwn
          have hc1 : b.cell (oL + i * 2 + 1) = some (.slice xad xco.length xcp) := hcL 1 _ rfl
          have hnext : ∀ S rw c, S3a (ptr p0) (ptr gm) (.int .i64 nd) (.slice (some ⟨rw, 0, none⟩) (wasW M1 (L.take i) ++ rowW M1 i xco).length c) (.int .i64 ((i + 1 : Nat) : Int)) S → (wasW M1 (L.take i) ++ rowW M1 i xco).length ≤ c → c ≤ maxLen → R S ((rw, .buf 45 ((wasW M1 (L.take i) ++ rowW M1 i xco).flatMap cW) (c * 2)) :: G) := fun S rw c h1 h2 h3 => by
            rw [← hwn] at h1 h2 ⊢
            exact hRR ⟨i + 1, rw, c⟩ _ _ (by show L.length - (i + 1) < L.length - i; omega) (Keep.all ⟨by show i + 1 ≤ L.length; omega, h1, h2, h3, rfl⟩)
          clear hRR hwn
          repeat' ((conv => whnf); (first
              | refine Look.mem (.tail _ hp0) (fun _ _ _ => ?_)
              | refine New.mk (fun _ => ?_)
              | refine Look.at0 ?_
              | refine Cell.row ?_
              | refine Cell.buf ?_
              | refine Cells.row rfl ?_
              | refine Put.row rfl ?_
              | refine Put.buf rfl ?_
              | refine Look.at1 ?_
              | refine Look.at2 ?_
              | refine Look.at3 ?_
              | refine Look.at4 ?_
              | refine Look.at5 ?_
              | refine Look.at6 ?_
              | refine Look.at7 ?_
              | refine Look.at8 ?_
              | with_reducible refine Val.i64 (by omega) (by omega) ?_
              | with_reducible refine Val.u8 (by omega) (by omega) ?_
              | with_reducible refine Val.u32 (by omega) (by omega) ?_
              | with_reducible refine Val.u64 (by omega) (by omega) ?_
              | with_reducible refine Val.u8m ?_
              | with_reducible refine Val.u32m ?_
              | with_reducible refine Val.u64m ?_
              | with_reducible refine Val.shr8 ?_
              | with_reducible refine Val.shr16 (by decide) ?_
              | with_reducible refine Val.shr24 (by decide) ?_
              | with_reducible refine Val.raw ?_
              | refine Branch.not ?_
              | refine Branch.and ?_
              | refine Branch.or ?_
              | refine Branch.dt (by assumption) ?_
              | refine Branch.df (by assumption) ?_
              | refine Branch.dt rfl ?_
              | refine Branch.dt (by omega) ?_
              | refine Branch.df (by omega) ?_
              | refine Branch.t rfl ?_
              | refine Branch.f rfl ?_
              | refine Branch.t (by assumption) ?_
              | refine Branch.f (by assumption) ?_
              | refine Branch.d (fun _ => ?_) (fun _ => ?_)
              | refine Branch.mk (fun _ => ?_) (fun _ => ?_)
              | refine Need.mk (by first | omega | decide | rfl) ?_
              | refine Idx.nat (by omega) ?_
              | refine Idx.auto (by first | omega | decide) (by first | omega | decide) ?_
              | refine Cell.ro rfl ?_
              | refine SDraw.all (by kernel_rfl) ?_
              | refine Kept.k0 ?_
              | refine Kept.k1 ?_
              | refine Kept.k2 ?_
              | refine Kept.k3 ?_
              | refine Kept.k4 ?_))
          refine SLoop.invA (I3b p0 gm (.int .i64 nd) M1 L i xco G) (fun x => xco.length - x.j) ⟨0, rw, c⟩ (Keep.all ⟨Nat.zero_le _, by simpa [rowW] using .mk, by simpa [rowW] using hwc, hcm, by simp [rowW]⟩) ?_
          clear hwc hcm
          rintro ⟨k, rw, c⟩ S H' ⟨hk, hS, hwc, hcm, rfl⟩ R2 hR2
          dsimp only at hk hS hwc hcm hR2 ⊢
          cases hS
          by_cases hlt2 : k < xco.length
          · obtain ⟨y, hy, _, hty⟩ := list_at hlt2
            obtain ⟨r2, o2, c2, b2, e12, hm2, hc2⟩ := hel.at1 hy rfl
            injection e12 with e12 _ e32
            subst e12
            have hnew : wasW M1 (L.take i) ++ rowW M1 i (xco.take (k + 1)) = (wasW M1 (L.take i) ++ rowW M1 i (xco.take k)) ++ [((M1.read y i).1, (M1.read y i).2.1)] := by
              rw [hty]; unfold rowW; simp
            have hle : (wasW M1 (L.take i) ++ rowW M1 i (xco.take k)).length ≤ 64 * 127 + 127 := by
              rw [List.length_append]
              unfold rowW
              rw [List.length_map, List.length_take]; omega
            have hnext3 : ∀ S rw c, S3b (ptr p0) (ptr gm) (.int .i64 nd) (.slice (some ⟨rw, 0, none⟩) ((wasW M1 (L.take i) ++ rowW M1 i (xco.take k)).length + 1) c) (.int .i64 (i : Int)) (.int .i64 ((k + 1 : Nat) : Int)) S → (wasW M1 (L.take i) ++ rowW M1 i (xco.take k)).length + 1 ≤ c → c ≤ maxLen → ∀ z : Nat × Blk, R2 S ((rw, .buf 45 ((wasW M1 (L.take i) ++ rowW M1 i (xco.take k)).flatMap cW ++ cW ((M1.read y i).1, (M1.read y i).2.1)) (c * 2)) :: z :: G) := fun S rw c h1 h2 h3 z => by
              refine hR2 ⟨k + 1, rw, c⟩ _ _ (by show xco.length - (k + 1) < xco.length - k; omega) (Keep.sub _ (List.Sublist.cons_cons _ (List.Sublist.cons _ (List.Sublist.refl _))) ⟨by show k + 1 ≤ xco.length; omega, ?_, ?_, h3, ?_⟩)
              · rw [hnew, List.length_append]; exact h1
              · rw [hnew, List.length_append]; exact h2
              · rw [hnew, List.flatMap_append]; simp
            clear hR2 hnext hnew
            have hc14 := fun (H2 : Heap) (hs : ∀ z ∈ G, z ∈ H2) (K : Value → Heap → Prop) hk => c14 (K := K) (hMG.mono hs) y i hk
            generalize wasW M1 (L.take i) ++ rowW M1 i (xco.take k) = W at hle hwc hnext3
            have hfl := flat_len (f := cW) (k := 2) (fun _ => rfl) W
            generalize M1.read y i = rd at hc14 hnext3
            obtain ⟨rx, rc, ri⟩ := rd
            dsimp only at hnext3
            repeat' ((conv => whnf); (first
                | refine Look.mem (.tail _ hp0) (fun _ _ _ => ?_)
                | refine Look.cell (.tail _ hmL) hc1 ?_
                | refine Look.cell (.tail _ hm2) hc2 ?_
                | refine hc14 _ (fun z hz => .tail _ hz) _ ?_
                | refine RawV.appT (A := [_]) (e := 45) (size := 2) (bytes := 16) (m := 1) (news := [.int .u64 rx, .int .u64 rc]) rfl (by kernel_rfl) (by decide) hfl rfl hwc hcm (.head _) rfl (fun j v hj => by rw [Nat.zero_add]; exact hj) (by intro u hu; simp only [List.mem_cons, List.not_mem_nil, or_false] at hu; rcases hu with rfl | rfl <;> rfl) (by unfold maxLen; omega) (by omega) (fun r' c' g1 g2 => ?_)
                | refine New.mk (fun _ => ?_)
                | refine Look.at0 ?_
                | refine Cell.row ?_
                | refine Cell.buf ?_
                | refine Cells.row rfl ?_
                | refine Put.row rfl ?_
                | refine Put.buf rfl ?_
                | refine Look.at1 ?_
                | refine Look.at2 ?_
                | refine Look.at3 ?_
                | refine Look.at4 ?_
                | refine Look.at5 ?_
                | refine Look.at6 ?_
                | refine Look.at7 ?_
                | refine Look.at8 ?_
                | with_reducible refine Val.i64 (by omega) (by omega) ?_
                | with_reducible refine Val.u8 (by omega) (by omega) ?_
                | with_reducible refine Val.u32 (by omega) (by omega) ?_
                | with_reducible refine Val.u64 (by omega) (by omega) ?_
                | with_reducible refine Val.u8m ?_
                | with_reducible refine Val.u32m ?_
                | with_reducible refine Val.u64m ?_
                | with_reducible refine Val.shr8 ?_
                | with_reducible refine Val.shr16 (by decide) ?_
                | with_reducible refine Val.shr24 (by decide) ?_
                | with_reducible refine Val.raw ?_
                | refine Branch.not ?_
                | refine Branch.and ?_
                | refine Branch.or ?_
                | refine Branch.dt (by assumption) ?_
                | refine Branch.df (by assumption) ?_
                | refine Branch.dt rfl ?_
                | refine Branch.dt (by omega) ?_
                | refine Branch.df (by omega) ?_
                | refine Branch.t rfl ?_
                | refine Branch.f rfl ?_
                | refine Branch.t (by assumption) ?_
                | refine Branch.f (by assumption) ?_
                | refine Branch.d (fun _ => ?_) (fun _ => ?_)
                | refine Branch.mk (fun _ => ?_) (fun _ => ?_)
                | refine Need.mk (by first | omega | decide | rfl) ?_
                | refine Idx.nat (by omega) ?_
                | refine Idx.auto (by first | omega | decide) (by first | omega | decide) ?_
                | refine Cell.ro rfl ?_
                | refine SDraw.all (by kernel_rfl) ?_
                | refine Kept.k0 ?_
                | refine Kept.k1 ?_
                | refine Kept.k2 ?_
                | refine Kept.k3 ?_
                | refine Kept.k4 ?_))
            all_goals (conv => whnf)
            exact hnext3 _ _ _ .mk g1 g2 _
          · have e : k = xco.length := by omega
            subst e
            rw [List.take_length] at hwc ⊢
            repeat' ((conv => whnf); (first
                | refine Look.mem (.tail _ hp0) (fun _ _ _ => ?_)
                | refine Look.cell (.tail _ hmL) hc1 ?_
                | refine New.mk (fun _ => ?_)
                | refine Look.at0 ?_
                | refine Cell.row ?_
                | refine Cell.buf ?_
                | refine Cells.row rfl ?_
                | refine Put.row rfl ?_
                | refine Put.buf rfl ?_
                | refine Look.at1 ?_
                | refine Look.at2 ?_
                | refine Look.at3 ?_
                | refine Look.at4 ?_
                | refine Look.at5 ?_
                | refine Look.at6 ?_
                | refine Look.at7 ?_
                | refine Look.at8 ?_
                | with_reducible refine Val.i64 (by omega) (by omega) ?_
                | with_reducible refine Val.u8 (by omega) (by omega) ?_
                | with_reducible refine Val.u32 (by omega) (by omega) ?_
                | with_reducible refine Val.u64 (by omega) (by omega) ?_
                | with_reducible refine Val.u8m ?_
                | with_reducible refine Val.u32m ?_
                | with_reducible refine Val.u64m ?_
                | with_reducible refine Val.shr8 ?_
                | with_reducible refine Val.shr16 (by decide) ?_
                | with_reducible refine Val.shr24 (by decide) ?_
                | with_reducible refine Val.raw ?_
                | refine Branch.not ?_
                | refine Branch.and ?_
                | refine Branch.or ?_
                | refine Branch.dt (by assumption) ?_
                | refine Branch.df (by assumption) ?_
                | refine Branch.dt rfl ?_
                | refine Branch.dt (by omega) ?_
                | refine Branch.df (by omega) ?_
                | refine Branch.t rfl ?_
                | refine Branch.f rfl ?_
                | refine Branch.t (by assumption) ?_
                | refine Branch.f (by assumption) ?_
                | refine Branch.d (fun _ => ?_) (fun _ => ?_)
                | refine Branch.mk (fun _ => ?_) (fun _ => ?_)
                | refine Need.mk (by first | omega | decide | rfl) ?_
                | refine Idx.nat (by omega) ?_
                | refine Idx.auto (by first | omega | decide) (by first | omega | decide) ?_
                | refine Cell.ro rfl ?_
                | refine SDraw.all (by kernel_rfl) ?_
                | refine Kept.k0 ?_
                | refine Kept.k1 ?_
                | refine Kept.k2 ?_
                | refine Kept.k3 ?_
                | refine Kept.k4 ?_))
            all_goals (conv => whnf)
            exact hnext _ _ _ (by simpa using .mk) hwc hcm
        · have e : i = L.length := by omega
          subst e
          rw [List.take_length] at hwc ⊢
          clear hRR
          have hback := back_ok (M := M1) (n := nd) hnl hg1
          have hc13 := fun (K : Value → Heap → Prop) hk => c13 (K := K) hM3 nd hk
          generalize M1.turn nd true = tm at hback hc13
          obtain ⟨et, M2⟩ := tm
          dsimp only at hback hc13
          obtain ⟨rfl, hsame⟩ := hback
          subst hG
          repeat' ((conv => whnf); (first
              | refine Look.mem (.tail _ (.head _)) (fun _ _ _ => ?_)
              | refine SCalls.midH [_, _] Hd (hc13 _ (fun H4 hM4 => ?_))
              | refine New.mk (fun _ => ?_)
              | refine Look.at0 ?_
              | refine Cell.row ?_
              | refine Cell.buf ?_
              | refine Cells.row rfl ?_
              | refine Put.row rfl ?_
              | refine Put.buf rfl ?_
              | refine Look.at1 ?_
              | refine Look.at2 ?_
              | refine Look.at3 ?_
              | refine Look.at4 ?_
              | refine Look.at5 ?_
              | refine Look.at6 ?_
              | refine Look.at7 ?_
              | refine Look.at8 ?_
              | with_reducible refine Val.i64 (by omega) (by omega) ?_
              | with_reducible refine Val.u8 (by omega) (by omega) ?_
              | with_reducible refine Val.u32 (by omega) (by omega) ?_
              | with_reducible refine Val.u64 (by omega) (by omega) ?_
              | with_reducible refine Val.u8m ?_
              | with_reducible refine Val.u32m ?_
              | with_reducible refine Val.u64m ?_
              | with_reducible refine Val.shr8 ?_
              | with_reducible refine Val.shr16 (by decide) ?_
              | with_reducible refine Val.shr24 (by decide) ?_
              | with_reducible refine Val.raw ?_
              | refine Branch.not ?_
              | refine Branch.and ?_
              | refine Branch.or ?_
              | refine Branch.dt (by assumption) ?_
              | refine Branch.df (by assumption) ?_
              | refine Branch.dt rfl ?_
              | refine Branch.dt (by omega) ?_
              | refine Branch.df (by omega) ?_
              | refine Branch.t rfl ?_
              | refine Branch.f rfl ?_
              | refine Branch.t (by assumption) ?_
              | refine Branch.f (by assumption) ?_
              | refine Branch.d (fun _ => ?_) (fun _ => ?_)
              | refine Branch.mk (fun _ => ?_) (fun _ => ?_)
              | refine Need.mk (by first | omega | decide | rfl) ?_
              | refine Idx.nat (by omega) ?_
              | refine Idx.auto (by first | omega | decide) (by first | omega | decide) ?_
              | refine Cell.ro rfl ?_
              | refine SDraw.all (by kernel_rfl) ?_
              | refine Kept.k0 ?_
              | refine Kept.k1 ?_
              | refine Kept.k2 ?_
              | refine Kept.k3 ?_
              | refine Kept.k4 ?_))
          have hMG2 : Mach gm ids M2 ([(rw, Blk.buf 45 ((wasW M1 L).flatMap cW) (c * 2)), (p0, Blk.row 24 [.int .i64 (n : Int), .slice sa L.length sc] (0, 0))] ++ (H4 ++ Hd)) := hM4.mono fun z hz => List.mem_append_right _ (List.mem_append_left _ hz)
          have hwG2 : (rw, Blk.buf 45 ((wasW M1 L).flatMap cW) (c * 2)) ∈ ([(rw, Blk.buf 45 ((wasW M1 L).flatMap cW) (c * 2)), (p0, Blk.row 24 [.int .i64 (n : Int), .slice sa L.length sc] (0, 0))] ++ (H4 ++ Hd)) := .head _
          have hp02 : (p0, Blk.row 24 [.int .i64 (n : Int), .slice sa L.length sc] (0, 0)) ∈ ([(rw, Blk.buf 45 ((wasW M1 L).flatMap cW) (c * 2)), (p0, Blk.row 24 [.int .i64 (n : Int), .slice sa L.length sc] (0, 0))] ++ (H4 ++ Hd)) := .tail _ (.head _)
          have hIG2 : InV (.slice sa L.length sc) ([(rw, Blk.buf 45 ((wasW M1 L).flatMap cW) (c * 2)), (p0, Blk.row 24 [.int .i64 (n : Int), .slice sa L.length sc] (0, 0))] ++ (H4 ++ Hd)) L := hinH.mono fun z hz => List.mem_append_right _ (List.mem_append_right _ hz)
          refine SLoop.invA (I3c p0 gm (.int .i64 nd) (.slice (some ⟨rw, 0, none⟩) (wasW M1 L).length c) M1 L ([(rw, Blk.buf 45 ((wasW M1 L).flatMap cW) (c * 2)), (p0, Blk.row 24 [.int .i64 (n : Int), .slice sa L.length sc] (0, 0))] ++ (H4 ++ Hd))) (fun i => L.length - i) 0 (Keep.all ⟨Nat.zero_le _, .mk, rfl⟩) ?_
          generalize ([(rw, Blk.buf 45 ((wasW M1 L).flatMap cW) (c * 2)), (p0, Blk.row 24 [.int .i64 (n : Int), .slice sa L.length sc] (0, 0))] ++ (H4 ++ Hd)) = G at hMG2 hwG2 hp02 hIG2
          rintro i S H' ⟨hi, hS, rfl⟩ R2 hR2
          cases hS
          by_cases hlt : i < L.length
          · obtain ⟨x, hx, _, _⟩ := list_at hlt
            obtain ⟨rL, oL, cL, b, e1, hmL, hcL⟩ := inS_at hIG2.sl (fun _ => rfl) hx
            injection e1 with e1 _ e3
            subst e1
            have hxm := List.mem_of_getElem? hx
            have hel := hIG2.el x hxm
            have hxc := hcons x hxm
            have hwn := wasW_next (M := M1) hx
            have hwa := fun k y hy => wasW_at (M := M1) (k := k) (c := y) hx hy
            have hwl := wasW_le M1 i L hcons (by omega)
            obtain ⟨xpr, xco, xad, xcp⟩ := x
            dsimp only at hel hxc hwn hwa
            have hc1 : b.cell (oL + i * 2 + 1) = some (.slice xad xco.length xcp) := hcL 1 _ rfl
            have hgr : M2.read nd i = (0, 0, false) := by rw [hsame, hg3]
            have hc14n := fun (K : Value → Heap → Prop) hk => c14 (K := K) hMG2 nd i hk
            rw [hgr] at hc14n
            have hnext : ∀ S, S3c (ptr p0) (ptr gm) (.int .i64 nd) (.slice (some ⟨rw, 0, none⟩) (wasW M1 L).length c) (.int .i64 (((wasW M1 (L.take i)).length + xco.length : Nat) : Int)) (.int .i64 ((i + 1 : Nat) : Int)) S → R2 S H' := fun S h1 => by
              have e : (wasW M1 (L.take i)).length + xco.length = (wasW M1 (L.take (i + 1))).length := by
                rw [hwn, List.length_append]; unfold rowW; rw [List.length_map]
              rw [e] at h1
              exact hR2 (i + 1) _ _ (by omega) (Keep.all ⟨by omega, h1, rfl⟩)
            clear hR2 hwn
            repeat' ((conv => whnf); (first
                | refine Look.mem hp02 (fun _ _ _ => ?_)
                | refine hc14n _ ?_
                | refine New.mk (fun _ => ?_)
                | refine Look.at0 ?_
                | refine Cell.row ?_
                | refine Cell.buf ?_
                | refine Cells.row rfl ?_
                | refine Put.row rfl ?_
                | refine Put.buf rfl ?_
                | refine Look.at1 ?_
                | refine Look.at2 ?_
                | refine Look.at3 ?_
                | refine Look.at4 ?_
                | refine Look.at5 ?_
                | refine Look.at6 ?_
                | refine Look.at7 ?_
                | refine Look.at8 ?_
                | with_reducible refine Val.i64 (by omega) (by omega) ?_
                | with_reducible refine Val.u8 (by omega) (by omega) ?_
                | with_reducible refine Val.u32 (by omega) (by omega) ?_
                | with_reducible refine Val.u64 (by omega) (by omega) ?_
                | with_reducible refine Val.u8m ?_
                | with_reducible refine Val.u32m ?_
                | with_reducible refine Val.u64m ?_
                | with_reducible refine Val.shr8 ?_
                | with_reducible refine Val.shr16 (by decide) ?_
                | with_reducible refine Val.shr24 (by decide) ?_
                | with_reducible refine Val.raw ?_
                | refine Branch.not ?_
                | refine Branch.and ?_
                | refine Branch.or ?_
                | refine Branch.dt (by assumption) ?_
                | refine Branch.df (by assumption) ?_
                | refine Branch.dt rfl ?_
                | refine Branch.dt (by omega) ?_
                | refine Branch.df (by omega) ?_
                | refine Branch.t rfl ?_
                | refine Branch.f rfl ?_
                | refine Branch.t (by assumption) ?_
                | refine Branch.f (by assumption) ?_
                | refine Branch.d (fun _ => ?_) (fun _ => ?_)
                | refine Branch.mk (fun _ => ?_) (fun _ => ?_)
                | refine Need.mk (by first | omega | decide | rfl) ?_
                | refine Idx.nat (by omega) ?_
                | refine Idx.auto (by first | omega | decide) (by first | omega | decide) ?_
                | refine Cell.ro rfl ?_
                | refine SDraw.all (by kernel_rfl) ?_
                | refine Kept.k0 ?_
                | refine Kept.k1 ?_
                | refine Kept.k2 ?_
                | refine Kept.k3 ?_
                | refine Kept.k4 ?_))
            refine SLoop.invA (I3d p0 gm (.int .i64 nd) (.slice (some ⟨rw, 0, none⟩) (wasW M1 L).length c) M1 L i xco H') (fun k => xco.length - k) 0 (Keep.all ⟨Nat.zero_le _, ?_, rfl⟩) ?_
            · rw [Nat.add_zero]; exact .mk
            rintro k S H2 ⟨hk, hS, rfl⟩ R3 hR3
            cases hS
            by_cases hlt2 : k < xco.length
            · obtain ⟨y, hy, _, _⟩ := list_at hlt2
              obtain ⟨r2, o2, c2, b2, e12, hm2, hc2⟩ := hel.at1 hy rfl
              injection e12 with e12 _ e32
              subst e12
              have hat := hwa k y hy
              have hnext3 : ∀ S, S3d (ptr p0) (ptr gm) (.int .i64 nd) (.slice (some ⟨rw, 0, none⟩) (wasW M1 L).length c) (.int .i64 ((((wasW M1 (L.take i)).length + k) + 1 : Nat) : Int)) (.int .i64 (i : Int)) (.int .i64 ((k + 1 : Nat) : Int)) S → R3 S H2 := fun S h1 => hR3 (k + 1) _ _ (by omega) (Keep.all ⟨by omega, h1, rfl⟩)
              have hal : (wasW M1 (L.take i)).length + k ≤ 64 * 127 + 127 := by omega
              have hc14 := fun (K : Value → Heap → Prop) hk => c14 (K := K) hMG2 y i hk
              rw [hsame] at hc14
              clear hR3 hnext
              generalize (wasW M1 (L.take i)).length + k = t at hat hal hnext3
              have htl := (List.getElem?_eq_some_iff.1 hat).1
              generalize M1.read y i = rd at hc14 hat
              obtain ⟨rx, rc, ri⟩ := rd
              dsimp only at hat
              have hcw : ∀ j v, (cW (rx, rc))[j]? = some v → (Blk.buf 45 ((wasW M1 L).flatMap cW) (c * 2)).cell (0 + t * 2 + j) = some v := fun j v hj => by
                show ((wasW M1 L).flatMap cW)[0 + t * 2 + j]? = _
                rw [Nat.zero_add, flat_nth (f := cW) (k := 2) (fun _ => rfl) hat (List.getElem?_eq_some_iff.1 hj).1]; exact hj
              repeat' ((conv => whnf); (first
                  | refine Look.mem hp02 (fun _ _ _ => ?_)
                  | refine Look.cell hmL hc1 ?_
                  | refine Look.cell hm2 hc2 ?_
                  | refine hc14 _ ?_
                  | refine Look.cells hwG2 rfl hcw ?_
                  | refine New.mk (fun _ => ?_)
                  | refine Look.at0 ?_
                  | refine Cell.row ?_
                  | refine Cell.buf ?_
                  | refine Cells.row rfl ?_
                  | refine Put.row rfl ?_
                  | refine Put.buf rfl ?_
                  | refine Look.at1 ?_
                  | refine Look.at2 ?_
                  | refine Look.at3 ?_
                  | refine Look.at4 ?_
                  | refine Look.at5 ?_
                  | refine Look.at6 ?_
                  | refine Look.at7 ?_
                  | refine Look.at8 ?_
                  | with_reducible refine Val.i64 (by omega) (by omega) ?_
                  | with_reducible refine Val.u8 (by omega) (by omega) ?_
                  | with_reducible refine Val.u32 (by omega) (by omega) ?_
                  | with_reducible refine Val.u64 (by omega) (by omega) ?_
                  | with_reducible refine Val.u8m ?_
                  | with_reducible refine Val.u32m ?_
                  | with_reducible refine Val.u64m ?_
                  | with_reducible refine Val.shr8 ?_
                  | with_reducible refine Val.shr16 (by decide) ?_
                  | with_reducible refine Val.shr24 (by decide) ?_
                  | with_reducible refine Val.raw ?_
                  | refine Branch.not ?_
                  | refine Branch.and ?_
                  | refine Branch.or ?_
                  | refine Branch.dt (by assumption) ?_
                  | refine Branch.df (by assumption) ?_
                  | refine Branch.dt rfl ?_
                  | refine Branch.dt (by omega) ?_
                  | refine Branch.df (by omega) ?_
                  | refine Branch.t rfl ?_
                  | refine Branch.f rfl ?_
                  | refine Branch.t (by assumption) ?_
                  | refine Branch.f (by assumption) ?_
                  | refine Branch.d (fun _ => ?_) (fun _ => ?_)
                  | refine Branch.mk (fun _ => ?_) (fun _ => ?_)
                  | refine Need.mk (by first | omega | decide | rfl) ?_
                  | refine Idx.nat (by omega) ?_
                  | refine Idx.auto (by first | omega | decide) (by first | omega | decide) ?_
                  | refine Cell.ro rfl ?_
                  | refine SDraw.all (by kernel_rfl) ?_
                  | refine Kept.k0 ?_
                  | refine Kept.k1 ?_
                  | refine Kept.k2 ?_
                  | refine Kept.k3 ?_
                  | refine Kept.k4 ?_))
              all_goals (conv => whnf)
              all_goals first
                | exact hnext3 _ .mk
                | trace_state
            · have e : k = xco.length := by omega
              subst e
              repeat' ((conv => whnf); (first
                  | refine Look.mem hp02 (fun _ _ _ => ?_)
                  | refine Look.cell hmL hc1 ?_
                  | refine New.mk (fun _ => ?_)
                  | refine Look.at0 ?_
                  | refine Cell.row ?_
                  | refine Cell.buf ?_
                  | refine Cells.row rfl ?_
                  | refine Put.row rfl ?_
                  | refine Put.buf rfl ?_
                  | refine Look.at1 ?_
                  | refine Look.at2 ?_
                  | refine Look.at3 ?_
                  | refine Look.at4 ?_
                  | refine Look.at5 ?_
                  | refine Look.at6 ?_
                  | refine Look.at7 ?_
                  | refine Look.at8 ?_
                  | with_reducible refine Val.i64 (by omega) (by omega) ?_
                  | with_reducible refine Val.u8 (by omega) (by omega) ?_
                  | with_reducible refine Val.u32 (by omega) (by omega) ?_
                  | with_reducible refine Val.u64 (by omega) (by omega) ?_
                  | with_reducible refine Val.u8m ?_
                  | with_reducible refine Val.u32m ?_
                  | with_reducible refine Val.u64m ?_
                  | with_reducible refine Val.shr8 ?_
                  | with_reducible refine Val.shr16 (by decide) ?_
                  | with_reducible refine Val.shr24 (by decide) ?_
                  | with_reducible refine Val.raw ?_
                  | refine Branch.not ?_
                  | refine Branch.and ?_
                  | refine Branch.or ?_
                  | refine Branch.dt (by assumption) ?_
                  | refine Branch.df (by assumption) ?_
                  | refine Branch.dt rfl ?_
                  | refine Branch.dt (by omega) ?_
                  | refine Branch.df (by omega) ?_
                  | refine Branch.t rfl ?_
                  | refine Branch.f rfl ?_
                  | refine Branch.t (by assumption) ?_
                  | refine Branch.f (by assumption) ?_
                  | refine Branch.d (fun _ => ?_) (fun _ => ?_)
                  | refine Branch.mk (fun _ => ?_) (fun _ => ?_)
                  | refine Need.mk (by first | omega | decide | rfl) ?_
                  | refine Idx.nat (by omega) ?_
                  | refine Idx.auto (by first | omega | decide) (by first | omega | decide) ?_
                  | refine Cell.ro rfl ?_
                  | refine SDraw.all (by kernel_rfl) ?_
                  | refine Kept.k0 ?_
                  | refine Kept.k1 ?_
                  | refine Kept.k2 ?_
                  | refine Kept.k3 ?_
                  | refine Kept.k4 ?_))
              all_goals (conv => whnf)
              exact hnext _ .mk
          · have e : i = L.length := by omega
            subst e
            repeat' ((conv => whnf); (first
                | refine Look.mem hp02 (fun _ _ _ => ?_)
                | refine hc9 _ _ (fun N9 => ?_)
                | refine New.mk (fun _ => ?_)
                | refine Look.at0 ?_
                | refine Cell.row ?_
                | refine Cell.buf ?_
                | refine Cells.row rfl ?_
                | refine Put.row rfl ?_
                | refine Put.buf rfl ?_
                | refine Look.at1 ?_
                | refine Look.at2 ?_
                | refine Look.at3 ?_
                | refine Look.at4 ?_
                | refine Look.at5 ?_
                | refine Look.at6 ?_
                | refine Look.at7 ?_
                | refine Look.at8 ?_
                | with_reducible refine Val.i64 (by omega) (by omega) ?_
                | with_reducible refine Val.u8 (by omega) (by omega) ?_
                | with_reducible refine Val.u32 (by omega) (by omega) ?_
                | with_reducible refine Val.u64 (by omega) (by omega) ?_
                | with_reducible refine Val.u8m ?_
                | with_reducible refine Val.u32m ?_
                | with_reducible refine Val.u64m ?_
                | with_reducible refine Val.shr8 ?_
                | with_reducible refine Val.shr16 (by decide) ?_
                | with_reducible refine Val.shr24 (by decide) ?_
                | with_reducible refine Val.raw ?_
                | refine Branch.not ?_
                | refine Branch.and ?_
                | refine Branch.or ?_
                | refine Branch.dt (by assumption) ?_
                | refine Branch.df (by assumption) ?_
                | refine Branch.dt rfl ?_
                | refine Branch.dt (by omega) ?_
                | refine Branch.df (by omega) ?_
                | refine Branch.t rfl ?_
                | refine Branch.f rfl ?_
                | refine Branch.t (by assumption) ?_
                | refine Branch.f (by assumption) ?_
                | refine Branch.d (fun _ => ?_) (fun _ => ?_)
                | refine Branch.mk (fun _ => ?_) (fun _ => ?_)
                | refine Need.mk (by first | omega | decide | rfl) ?_
                | refine Idx.nat (by omega) ?_
                | refine Idx.auto (by first | omega | decide) (by first | omega | decide) ?_
                | refine Cell.ro rfl ?_
                | refine SDraw.all (by kernel_rfl) ?_
                | refine Kept.k0 ?_
                | refine Kept.k1 ?_
                | refine Kept.k2 ?_
                | refine Kept.k3 ?_
                | refine Kept.k4 ?_))
            all_goals (conv => whnf)
            exact Keep.sub [] (List.nil_sublist _) rfl
      · have hl2 := lost_ne hl0
        obtain ⟨hb1, hb2⟩ := lost_again hnl0 hl0
        have hnlb : 0 ≤ nd ∧ nd < ((M.turn nd true).2.there.length : Int) := by rw [hb1]; exact hnl0
        rw [hl2] at hc12
        have hcb : ∀ (H : Heap) (_ : Mach gm ids M H) (K : Value → Heap → Prop), (∀ H', Mach gm ids (M.turn nd true).2 H' → K (.int .i64 (M.turn nd true).1) H') → SCalls Try.prog 13 [ptr gm, .int .i64 (Int.tmod a2 (n : Int))] H K := fun H hM K hk => by rw [← hnd]; exact c13 hM nd hk
        generalize (M.turn nd true).1 = e2 at hcb
        generalize (M.turn nd true).2 = Mb at hcb hb1 hb2 hnlb
        obtain ⟨hg1, hg2, hg3⟩ := lost_gone hnlb hb2
        have hnl : 0 ≤ nd ∧ nd < ((Mb.lost nd).2.there.length : Int) := by rw [hg2]; exact hnlb
        have hcl : ∀ (H : Heap) (_ : Mach gm ids Mb H) (K : Value → Heap → Prop), (∀ H', Mach gm ids (Mb.lost nd).2 H' → K (.int .i64 (Mb.lost nd).1) H') → SCalls Try.prog 12 [ptr gm, .int .i64 (Int.tmod a2 (n : Int))] H K := fun H hM K hk => by rw [← hnd]; exact c12 hM nd hk
        generalize (M.lost nd).1 = e1 at hc12 hl0
        generalize (Mb.lost nd).1 = e3 at hcl
        generalize (Mb.lost nd).2 = M1 at hcl hg1 hg2 hg3 hnl
        repeat' ((conv => whnf); (first
            | refine Look.at0 ?_
            | refine SCalls.midH [_] Hd (hc12 _ (fun Ha hMa => ?_))
            | refine SCalls.midH [_] Hd (hcb Ha hMa _ (fun Hb hMb => ?_))
            | refine SCalls.midH [_] Hd (hcl Hb hMb _ (fun H3 hM3 => ?_))
            | refine New.mk (fun _ => ?_)
            | refine Look.at0 ?_
            | refine Cell.row ?_
            | refine Cell.buf ?_
            | refine Cells.row rfl ?_
            | refine Put.row rfl ?_
            | refine Put.buf rfl ?_
            | refine Look.at1 ?_
            | refine Look.at2 ?_
            | refine Look.at3 ?_
            | refine Look.at4 ?_
            | refine Look.at5 ?_
            | refine Look.at6 ?_
            | refine Look.at7 ?_
            | refine Look.at8 ?_
            | with_reducible refine Val.i64 (by omega) (by omega) ?_
            | with_reducible refine Val.u8 (by omega) (by omega) ?_
            | with_reducible refine Val.u32 (by omega) (by omega) ?_
            | with_reducible refine Val.u64 (by omega) (by omega) ?_
            | with_reducible refine Val.u8m ?_
            | with_reducible refine Val.u32m ?_
            | with_reducible refine Val.u64m ?_
            | with_reducible refine Val.shr8 ?_
            | with_reducible refine Val.shr16 (by decide) ?_
            | with_reducible refine Val.shr24 (by decide) ?_
            | with_reducible refine Val.raw ?_
            | refine Branch.not ?_
            | refine Branch.and ?_
            | refine Branch.or ?_
            | refine Branch.dt (by assumption) ?_
            | refine Branch.df (by assumption) ?_
            | refine Branch.dt rfl ?_
            | refine Branch.dt (by omega) ?_
            | refine Branch.df (by omega) ?_
            | refine Branch.t rfl ?_
            | refine Branch.f rfl ?_
            | refine Branch.t (by assumption) ?_
            | refine Branch.f (by assumption) ?_
            | refine Branch.d (fun _ => ?_) (fun _ => ?_)
            | refine Branch.mk (fun _ => ?_) (fun _ => ?_)
            | refine Need.mk (by first | omega | decide | rfl) ?_
            | refine Idx.nat (by omega) ?_
            | refine Idx.auto (by first | omega | decide) (by first | omega | decide) ?_
            | refine Cell.ro rfl ?_
            | refine SDraw.all (by kernel_rfl) ?_
            | refine Kept.k0 ?_
            | refine Kept.k1 ?_
            | refine Kept.k2 ?_
            | refine Kept.k3 ?_
            | refine Kept.k4 ?_))
        rename_i pw
        rw [← hnd]
        obtain ⟨G, hG⟩ : ∃ G, G = (p0, Blk.row 24 [.int .i64 (n : Int), .slice sa L.length sc] (0, 0)) :: (H3 ++ Hd) := ⟨_, rfl⟩
        have hMG : Mach gm ids M1 G := by rw [hG]; exact hM3.mono fun z hz => .tail _ (List.mem_append_left _ hz)
        have hp0 : (p0, Blk.row 24 [.int .i64 (n : Int), .slice sa L.length sc] (0, 0)) ∈ G := by rw [hG]; exact .head _
        have hIG : InV (.slice sa L.length sc) G L := by rw [hG]; exact hinH.mono fun z hz => .tail _ (List.mem_append_right _ hz)
        refine SLoop.toBuf (A := []) ?_
        refine SLoop.invA (I3a p0 gm (.int .i64 nd) M1 L G) (fun x => L.length - x.j) ⟨0, pw, 0⟩ (Keep.all ⟨Nat.zero_le _, .mk, Nat.le_refl 0, Nat.zero_le _, by rw [hG]; rfl⟩) ?_
        rintro ⟨i, rw, c⟩ S H' ⟨hi, hS, hwc, hcm, rfl⟩ R hRR
        dsimp only at hi hS hwc hcm hRR ⊢
        cases hS
        by_cases hlt : i < L.length
        · obtain ⟨x, hx, _, _⟩ := list_at hlt
          obtain ⟨rL, oL, cL, b, e1, hmL, hcL⟩ := inS_at hIG.sl (fun _ => rfl) hx
          injection e1 with e1 _ e3
          subst e1
          have hxm := List.mem_of_getElem? hx
          have hel := hIG.el x hxm
          have hxc := hcons x hxm
          have hwn := wasW_next (M := M1) hx
          have hwl := wasW_le M1 i L hcons (by omega)
          obtain ⟨xpr, xco, xad, xcp⟩ := x
          dsimp only at hel hxc hwn
          have hc1 : b.cell (oL + i * 2 + 1) = some (.slice xad xco.length xcp) := hcL 1 _ rfl
          have hnext : ∀ S rw c, S3a (ptr p0) (ptr gm) (.int .i64 nd) (.slice (some ⟨rw, 0, none⟩) (wasW M1 (L.take i) ++ rowW M1 i xco).length c) (.int .i64 ((i + 1 : Nat) : Int)) S → (wasW M1 (L.take i) ++ rowW M1 i xco).length ≤ c → c ≤ maxLen → R S ((rw, .buf 45 ((wasW M1 (L.take i) ++ rowW M1 i xco).flatMap cW) (c * 2)) :: G) := fun S rw c h1 h2 h3 => by
            rw [← hwn] at h1 h2 ⊢
            exact hRR ⟨i + 1, rw, c⟩ _ _ (by show L.length - (i + 1) < L.length - i; omega) (Keep.all ⟨by show i + 1 ≤ L.length; omega, h1, h2, h3, rfl⟩)
          clear hRR hwn
          repeat' ((conv => whnf); (first
              | refine Look.mem (.tail _ hp0) (fun _ _ _ => ?_)
              | refine New.mk (fun _ => ?_)
              | refine Look.at0 ?_
              | refine Cell.row ?_
              | refine Cell.buf ?_
              | refine Cells.row rfl ?_
              | refine Put.row rfl ?_
              | refine Put.buf rfl ?_
              | refine Look.at1 ?_
              | refine Look.at2 ?_
              | refine Look.at3 ?_
              | refine Look.at4 ?_
              | refine Look.at5 ?_
              | refine Look.at6 ?_
              | refine Look.at7 ?_
              | refine Look.at8 ?_
              | with_reducible refine Val.i64 (by omega) (by omega) ?_
              | with_reducible refine Val.u8 (by omega) (by omega) ?_
              | with_reducible refine Val.u32 (by omega) (by omega) ?_
              | with_reducible refine Val.u64 (by omega) (by omega) ?_
              | with_reducible refine Val.u8m ?_
              | with_reducible refine Val.u32m ?_
              | with_reducible refine Val.u64m ?_
              | with_reducible refine Val.shr8 ?_
              | with_reducible refine Val.shr16 (by decide) ?_
              | with_reducible refine Val.shr24 (by decide) ?_
              | with_reducible refine Val.raw ?_
              | refine Branch.not ?_
              | refine Branch.and ?_
              | refine Branch.or ?_
              | refine Branch.dt (by assumption) ?_
              | refine Branch.df (by assumption) ?_
              | refine Branch.dt rfl ?_
              | refine Branch.dt (by omega) ?_
              | refine Branch.df (by omega) ?_
              | refine Branch.t rfl ?_
              | refine Branch.f rfl ?_
              | refine Branch.t (by assumption) ?_
              | refine Branch.f (by assumption) ?_
              | refine Branch.d (fun _ => ?_) (fun _ => ?_)
              | refine Branch.mk (fun _ => ?_) (fun _ => ?_)
              | refine Need.mk (by first | omega | decide | rfl) ?_
              | refine Idx.nat (by omega) ?_
              | refine Idx.auto (by first | omega | decide) (by first | omega | decide) ?_
              | refine Cell.ro rfl ?_
              | refine SDraw.all (by kernel_rfl) ?_
              | refine Kept.k0 ?_
              | refine Kept.k1 ?_
              | refine Kept.k2 ?_
              | refine Kept.k3 ?_
              | refine Kept.k4 ?_))
          refine SLoop.invA (I3b p0 gm (.int .i64 nd) M1 L i xco G) (fun x => xco.length - x.j) ⟨0, rw, c⟩ (Keep.all ⟨Nat.zero_le _, by simpa [rowW] using .mk, by simpa [rowW] using hwc, hcm, by simp [rowW]⟩) ?_
          clear hwc hcm
          rintro ⟨k, rw, c⟩ S H' ⟨hk, hS, hwc, hcm, rfl⟩ R2 hR2
          dsimp only at hk hS hwc hcm hR2 ⊢
          cases hS
          by_cases hlt2 : k < xco.length
          · obtain ⟨y, hy, _, hty⟩ := list_at hlt2
            obtain ⟨r2, o2, c2, b2, e12, hm2, hc2⟩ := hel.at1 hy rfl
            injection e12 with e12 _ e32
            subst e12
            have hnew : wasW M1 (L.take i) ++ rowW M1 i (xco.take (k + 1)) = (wasW M1 (L.take i) ++ rowW M1 i (xco.take k)) ++ [((M1.read y i).1, (M1.read y i).2.1)] := by
              rw [hty]; unfold rowW; simp
            have hle : (wasW M1 (L.take i) ++ rowW M1 i (xco.take k)).length ≤ 64 * 127 + 127 := by
              rw [List.length_append]
              unfold rowW
              rw [List.length_map, List.length_take]; omega
            have hnext3 : ∀ S rw c, S3b (ptr p0) (ptr gm) (.int .i64 nd) (.slice (some ⟨rw, 0, none⟩) ((wasW M1 (L.take i) ++ rowW M1 i (xco.take k)).length + 1) c) (.int .i64 (i : Int)) (.int .i64 ((k + 1 : Nat) : Int)) S → (wasW M1 (L.take i) ++ rowW M1 i (xco.take k)).length + 1 ≤ c → c ≤ maxLen → ∀ z : Nat × Blk, R2 S ((rw, .buf 45 ((wasW M1 (L.take i) ++ rowW M1 i (xco.take k)).flatMap cW ++ cW ((M1.read y i).1, (M1.read y i).2.1)) (c * 2)) :: z :: G) := fun S rw c h1 h2 h3 z => by
              refine hR2 ⟨k + 1, rw, c⟩ _ _ (by show xco.length - (k + 1) < xco.length - k; omega) (Keep.sub _ (List.Sublist.cons_cons _ (List.Sublist.cons _ (List.Sublist.refl _))) ⟨by show k + 1 ≤ xco.length; omega, ?_, ?_, h3, ?_⟩)
              · rw [hnew, List.length_append]; exact h1
              · rw [hnew, List.length_append]; exact h2
              · rw [hnew, List.flatMap_append]; simp
            clear hR2 hnext hnew
            have hc14 := fun (H2 : Heap) (hs : ∀ z ∈ G, z ∈ H2) (K : Value → Heap → Prop) hk => c14 (K := K) (hMG.mono hs) y i hk
            generalize wasW M1 (L.take i) ++ rowW M1 i (xco.take k) = W at hle hwc hnext3
            have hfl := flat_len (f := cW) (k := 2) (fun _ => rfl) W
            generalize M1.read y i = rd at hc14 hnext3
            obtain ⟨rx, rc, ri⟩ := rd
            dsimp only at hnext3
            repeat' ((conv => whnf); (first
                | refine Look.mem (.tail _ hp0) (fun _ _ _ => ?_)
                | refine Look.cell (.tail _ hmL) hc1 ?_
                | refine Look.cell (.tail _ hm2) hc2 ?_
                | refine hc14 _ (fun z hz => .tail _ hz) _ ?_
                | refine RawV.appT (A := [_]) (e := 45) (size := 2) (bytes := 16) (m := 1) (news := [.int .u64 rx, .int .u64 rc]) rfl (by kernel_rfl) (by decide) hfl rfl hwc hcm (.head _) rfl (fun j v hj => by rw [Nat.zero_add]; exact hj) (by intro u hu; simp only [List.mem_cons, List.not_mem_nil, or_false] at hu; rcases hu with rfl | rfl <;> rfl) (by unfold maxLen; omega) (by omega) (fun r' c' g1 g2 => ?_)
                | refine New.mk (fun _ => ?_)
                | refine Look.at0 ?_
                | refine Cell.row ?_
                | refine Cell.buf ?_
                | refine Cells.row rfl ?_
                | refine Put.row rfl ?_
                | refine Put.buf rfl ?_
                | refine Look.at1 ?_
                | refine Look.at2 ?_
                | refine Look.at3 ?_
                | refine Look.at4 ?_
                | refine Look.at5 ?_
                | refine Look.at6 ?_
                | refine Look.at7 ?_
                | refine Look.at8 ?_
                | with_reducible refine Val.i64 (by omega) (by omega) ?_
                | with_reducible refine Val.u8 (by omega) (by omega) ?_
                | with_reducible refine Val.u32 (by omega) (by omega) ?_
                | with_reducible refine Val.u64 (by omega) (by omega) ?_
                | with_reducible refine Val.u8m ?_
                | with_reducible refine Val.u32m ?_
                | with_reducible refine Val.u64m ?_
                | with_reducible refine Val.shr8 ?_
                | with_reducible refine Val.shr16 (by decide) ?_
                | with_reducible refine Val.shr24 (by decide) ?_
                | with_reducible refine Val.raw ?_
                | refine Branch.not ?_
                | refine Branch.and ?_
                | refine Branch.or ?_
                | refine Branch.dt (by assumption) ?_
                | refine Branch.df (by assumption) ?_
                | refine Branch.dt rfl ?_
                | refine Branch.dt (by omega) ?_
                | refine Branch.df (by omega) ?_
                | refine Branch.t rfl ?_
                | refine Branch.f rfl ?_
                | refine Branch.t (by assumption) ?_
                | refine Branch.f (by assumption) ?_
                | refine Branch.d (fun _ => ?_) (fun _ => ?_)
                | refine Branch.mk (fun _ => ?_) (fun _ => ?_)
                | refine Need.mk (by first | omega | decide | rfl) ?_
                | refine Idx.nat (by omega) ?_
                | refine Idx.auto (by first | omega | decide) (by first | omega | decide) ?_
                | refine Cell.ro rfl ?_
                | refine SDraw.all (by kernel_rfl) ?_
                | refine Kept.k0 ?_
                | refine Kept.k1 ?_
                | refine Kept.k2 ?_
                | refine Kept.k3 ?_
                | refine Kept.k4 ?_))
            all_goals (conv => whnf)
            exact hnext3 _ _ _ .mk g1 g2 _
          · have e : k = xco.length := by omega
            subst e
            rw [List.take_length] at hwc ⊢
            repeat' ((conv => whnf); (first
                | refine Look.mem (.tail _ hp0) (fun _ _ _ => ?_)
                | refine Look.cell (.tail _ hmL) hc1 ?_
                | refine New.mk (fun _ => ?_)
                | refine Look.at0 ?_
                | refine Cell.row ?_
                | refine Cell.buf ?_
                | refine Cells.row rfl ?_
                | refine Put.row rfl ?_
                | refine Put.buf rfl ?_
                | refine Look.at1 ?_
                | refine Look.at2 ?_
                | refine Look.at3 ?_
                | refine Look.at4 ?_
                | refine Look.at5 ?_
                | refine Look.at6 ?_
                | refine Look.at7 ?_
                | refine Look.at8 ?_
                | with_reducible refine Val.i64 (by omega) (by omega) ?_
                | with_reducible refine Val.u8 (by omega) (by omega) ?_
                | with_reducible refine Val.u32 (by omega) (by omega) ?_
                | with_reducible refine Val.u64 (by omega) (by omega) ?_
                | with_reducible refine Val.u8m ?_
                | with_reducible refine Val.u32m ?_
                | with_reducible refine Val.u64m ?_
                | with_reducible refine Val.shr8 ?_
                | with_reducible refine Val.shr16 (by decide) ?_
                | with_reducible refine Val.shr24 (by decide) ?_
                | with_reducible refine Val.raw ?_
                | refine Branch.not ?_
                | refine Branch.and ?_
                | refine Branch.or ?_
                | refine Branch.dt (by assumption) ?_
                | refine Branch.df (by assumption) ?_
                | refine Branch.dt rfl ?_
                | refine Branch.dt (by omega) ?_
                | refine Branch.df (by omega) ?_
                | refine Branch.t rfl ?_
                | refine Branch.f rfl ?_
                | refine Branch.t (by assumption) ?_
                | refine Branch.f (by assumption) ?_
                | refine Branch.d (fun _ => ?_) (fun _ => ?_)
                | refine Branch.mk (fun _ => ?_) (fun _ => ?_)
                | refine Need.mk (by first | omega | decide | rfl) ?_
                | refine Idx.nat (by omega) ?_
                | refine Idx.auto (by first | omega | decide) (by first | omega | decide) ?_
                | refine Cell.ro rfl ?_
                | refine SDraw.all (by kernel_rfl) ?_
                | refine Kept.k0 ?_
                | refine Kept.k1 ?_
                | refine Kept.k2 ?_
                | refine Kept.k3 ?_
                | refine Kept.k4 ?_))
            all_goals (conv => whnf)
            exact hnext _ _ _ (by simpa using .mk) hwc hcm
        · have e : i = L.length := by omega
          subst e
          rw [List.take_length] at hwc ⊢
          clear hRR
          have hback := back_ok (M := M1) (n := nd) hnl hg1
          have hc13 := fun (K : Value → Heap → Prop) hk => c13 (K := K) hM3 nd hk
          generalize M1.turn nd true = tm at hback hc13
          obtain ⟨et, M2⟩ := tm
          dsimp only at hback hc13
          obtain ⟨rfl, hsame⟩ := hback
          subst hG
          repeat' ((conv => whnf); (first
              | refine Look.mem (.tail _ (.head _)) (fun _ _ _ => ?_)
              | refine SCalls.midH [_, _] Hd (hc13 _ (fun H4 hM4 => ?_))
              | refine New.mk (fun _ => ?_)
              | refine Look.at0 ?_
              | refine Cell.row ?_
              | refine Cell.buf ?_
              | refine Cells.row rfl ?_
              | refine Put.row rfl ?_
              | refine Put.buf rfl ?_
              | refine Look.at1 ?_
              | refine Look.at2 ?_
              | refine Look.at3 ?_
              | refine Look.at4 ?_
              | refine Look.at5 ?_
              | refine Look.at6 ?_
              | refine Look.at7 ?_
              | refine Look.at8 ?_
              | with_reducible refine Val.i64 (by omega) (by omega) ?_
              | with_reducible refine Val.u8 (by omega) (by omega) ?_
              | with_reducible refine Val.u32 (by omega) (by omega) ?_
              | with_reducible refine Val.u64 (by omega) (by omega) ?_
              | with_reducible refine Val.u8m ?_
              | with_reducible refine Val.u32m ?_
              | with_reducible refine Val.u64m ?_
              | with_reducible refine Val.shr8 ?_
              | with_reducible refine Val.shr16 (by decide) ?_
              | with_reducible refine Val.shr24 (by decide) ?_
              | with_reducible refine Val.raw ?_
              | refine Branch.not ?_
              | refine Branch.and ?_
              | refine Branch.or ?_
              | refine Branch.dt (by assumption) ?_
              | refine Branch.df (by assumption) ?_
              | refine Branch.dt rfl ?_
              | refine Branch.dt (by omega) ?_
              | refine Branch.df (by omega) ?_
              | refine Branch.t rfl ?_
              | refine Branch.f rfl ?_
              | refine Branch.t (by assumption) ?_
              | refine Branch.f (by assumption) ?_
              | refine Branch.d (fun _ => ?_) (fun _ => ?_)
              | refine Branch.mk (fun _ => ?_) (fun _ => ?_)
              | refine Need.mk (by first | omega | decide | rfl) ?_
              | refine Idx.nat (by omega) ?_
              | refine Idx.auto (by first | omega | decide) (by first | omega | decide) ?_
              | refine Cell.ro rfl ?_
              | refine SDraw.all (by kernel_rfl) ?_
              | refine Kept.k0 ?_
              | refine Kept.k1 ?_
              | refine Kept.k2 ?_
              | refine Kept.k3 ?_
              | refine Kept.k4 ?_))
          have hMG2 : Mach gm ids M2 ([(rw, Blk.buf 45 ((wasW M1 L).flatMap cW) (c * 2)), (p0, Blk.row 24 [.int .i64 (n : Int), .slice sa L.length sc] (0, 0))] ++ (H4 ++ Hd)) := hM4.mono fun z hz => List.mem_append_right _ (List.mem_append_left _ hz)
          have hwG2 : (rw, Blk.buf 45 ((wasW M1 L).flatMap cW) (c * 2)) ∈ ([(rw, Blk.buf 45 ((wasW M1 L).flatMap cW) (c * 2)), (p0, Blk.row 24 [.int .i64 (n : Int), .slice sa L.length sc] (0, 0))] ++ (H4 ++ Hd)) := .head _
          have hp02 : (p0, Blk.row 24 [.int .i64 (n : Int), .slice sa L.length sc] (0, 0)) ∈ ([(rw, Blk.buf 45 ((wasW M1 L).flatMap cW) (c * 2)), (p0, Blk.row 24 [.int .i64 (n : Int), .slice sa L.length sc] (0, 0))] ++ (H4 ++ Hd)) := .tail _ (.head _)
          have hIG2 : InV (.slice sa L.length sc) ([(rw, Blk.buf 45 ((wasW M1 L).flatMap cW) (c * 2)), (p0, Blk.row 24 [.int .i64 (n : Int), .slice sa L.length sc] (0, 0))] ++ (H4 ++ Hd)) L := hinH.mono fun z hz => List.mem_append_right _ (List.mem_append_right _ hz)
          refine SLoop.invA (I3c p0 gm (.int .i64 nd) (.slice (some ⟨rw, 0, none⟩) (wasW M1 L).length c) M1 L ([(rw, Blk.buf 45 ((wasW M1 L).flatMap cW) (c * 2)), (p0, Blk.row 24 [.int .i64 (n : Int), .slice sa L.length sc] (0, 0))] ++ (H4 ++ Hd))) (fun i => L.length - i) 0 (Keep.all ⟨Nat.zero_le _, .mk, rfl⟩) ?_
          generalize ([(rw, Blk.buf 45 ((wasW M1 L).flatMap cW) (c * 2)), (p0, Blk.row 24 [.int .i64 (n : Int), .slice sa L.length sc] (0, 0))] ++ (H4 ++ Hd)) = G at hMG2 hwG2 hp02 hIG2
          rintro i S H' ⟨hi, hS, rfl⟩ R2 hR2
          cases hS
          by_cases hlt : i < L.length
          · obtain ⟨x, hx, _, _⟩ := list_at hlt
            obtain ⟨rL, oL, cL, b, e1, hmL, hcL⟩ := inS_at hIG2.sl (fun _ => rfl) hx
            injection e1 with e1 _ e3
            subst e1
            have hxm := List.mem_of_getElem? hx
            have hel := hIG2.el x hxm
            have hxc := hcons x hxm
            have hwn := wasW_next (M := M1) hx
            have hwa := fun k y hy => wasW_at (M := M1) (k := k) (c := y) hx hy
            have hwl := wasW_le M1 i L hcons (by omega)
            obtain ⟨xpr, xco, xad, xcp⟩ := x
            dsimp only at hel hxc hwn hwa
            have hc1 : b.cell (oL + i * 2 + 1) = some (.slice xad xco.length xcp) := hcL 1 _ rfl
            have hgr : M2.read nd i = (0, 0, false) := by rw [hsame, hg3]
            have hc14n := fun (K : Value → Heap → Prop) hk => c14 (K := K) hMG2 nd i hk
            rw [hgr] at hc14n
            have hnext : ∀ S, S3c (ptr p0) (ptr gm) (.int .i64 nd) (.slice (some ⟨rw, 0, none⟩) (wasW M1 L).length c) (.int .i64 (((wasW M1 (L.take i)).length + xco.length : Nat) : Int)) (.int .i64 ((i + 1 : Nat) : Int)) S → R2 S H' := fun S h1 => by
              have e : (wasW M1 (L.take i)).length + xco.length = (wasW M1 (L.take (i + 1))).length := by
                rw [hwn, List.length_append]; unfold rowW; rw [List.length_map]
              rw [e] at h1
              exact hR2 (i + 1) _ _ (by omega) (Keep.all ⟨by omega, h1, rfl⟩)
            clear hR2 hwn
            repeat' ((conv => whnf); (first
                | refine Look.mem hp02 (fun _ _ _ => ?_)
                | refine hc14n _ ?_
                | refine New.mk (fun _ => ?_)
                | refine Look.at0 ?_
                | refine Cell.row ?_
                | refine Cell.buf ?_
                | refine Cells.row rfl ?_
                | refine Put.row rfl ?_
                | refine Put.buf rfl ?_
                | refine Look.at1 ?_
                | refine Look.at2 ?_
                | refine Look.at3 ?_
                | refine Look.at4 ?_
                | refine Look.at5 ?_
                | refine Look.at6 ?_
                | refine Look.at7 ?_
                | refine Look.at8 ?_
                | with_reducible refine Val.i64 (by omega) (by omega) ?_
                | with_reducible refine Val.u8 (by omega) (by omega) ?_
                | with_reducible refine Val.u32 (by omega) (by omega) ?_
                | with_reducible refine Val.u64 (by omega) (by omega) ?_
                | with_reducible refine Val.u8m ?_
                | with_reducible refine Val.u32m ?_
                | with_reducible refine Val.u64m ?_
                | with_reducible refine Val.shr8 ?_
                | with_reducible refine Val.shr16 (by decide) ?_
                | with_reducible refine Val.shr24 (by decide) ?_
                | with_reducible refine Val.raw ?_
                | refine Branch.not ?_
                | refine Branch.and ?_
                | refine Branch.or ?_
                | refine Branch.dt (by assumption) ?_
                | refine Branch.df (by assumption) ?_
                | refine Branch.dt rfl ?_
                | refine Branch.dt (by omega) ?_
                | refine Branch.df (by omega) ?_
                | refine Branch.t rfl ?_
                | refine Branch.f rfl ?_
                | refine Branch.t (by assumption) ?_
                | refine Branch.f (by assumption) ?_
                | refine Branch.d (fun _ => ?_) (fun _ => ?_)
                | refine Branch.mk (fun _ => ?_) (fun _ => ?_)
                | refine Need.mk (by first | omega | decide | rfl) ?_
                | refine Idx.nat (by omega) ?_
                | refine Idx.auto (by first | omega | decide) (by first | omega | decide) ?_
                | refine Cell.ro rfl ?_
                | refine SDraw.all (by kernel_rfl) ?_
                | refine Kept.k0 ?_
                | refine Kept.k1 ?_
                | refine Kept.k2 ?_
                | refine Kept.k3 ?_
                | refine Kept.k4 ?_))
            refine SLoop.invA (I3d p0 gm (.int .i64 nd) (.slice (some ⟨rw, 0, none⟩) (wasW M1 L).length c) M1 L i xco H') (fun k => xco.length - k) 0 (Keep.all ⟨Nat.zero_le _, ?_, rfl⟩) ?_
            · rw [Nat.add_zero]; exact .mk
            rintro k S H2 ⟨hk, hS, rfl⟩ R3 hR3
            cases hS
            by_cases hlt2 : k < xco.length
            · obtain ⟨y, hy, _, _⟩ := list_at hlt2
              obtain ⟨r2, o2, c2, b2, e12, hm2, hc2⟩ := hel.at1 hy rfl
              injection e12 with e12 _ e32
              subst e12
              have hat := hwa k y hy
              have hnext3 : ∀ S, S3d (ptr p0) (ptr gm) (.int .i64 nd) (.slice (some ⟨rw, 0, none⟩) (wasW M1 L).length c) (.int .i64 ((((wasW M1 (L.take i)).length + k) + 1 : Nat) : Int)) (.int .i64 (i : Int)) (.int .i64 ((k + 1 : Nat) : Int)) S → R3 S H2 := fun S h1 => hR3 (k + 1) _ _ (by omega) (Keep.all ⟨by omega, h1, rfl⟩)
              have hal : (wasW M1 (L.take i)).length + k ≤ 64 * 127 + 127 := by omega
              have hc14 := fun (K : Value → Heap → Prop) hk => c14 (K := K) hMG2 y i hk
              rw [hsame] at hc14
              clear hR3 hnext
              generalize (wasW M1 (L.take i)).length + k = t at hat hal hnext3
              have htl := (List.getElem?_eq_some_iff.1 hat).1
              generalize M1.read y i = rd at hc14 hat
              obtain ⟨rx, rc, ri⟩ := rd
              dsimp only at hat
              have hcw : ∀ j v, (cW (rx, rc))[j]? = some v → (Blk.buf 45 ((wasW M1 L).flatMap cW) (c * 2)).cell (0 + t * 2 + j) = some v := fun j v hj => by
                show ((wasW M1 L).flatMap cW)[0 + t * 2 + j]? = _
                rw [Nat.zero_add, flat_nth (f := cW) (k := 2) (fun _ => rfl) hat (List.getElem?_eq_some_iff.1 hj).1]; exact hj
              repeat' ((conv => whnf); (first
                  | refine Look.mem hp02 (fun _ _ _ => ?_)
                  | refine Look.cell hmL hc1 ?_
                  | refine Look.cell hm2 hc2 ?_
                  | refine hc14 _ ?_
                  | refine Look.cells hwG2 rfl hcw ?_
                  | refine New.mk (fun _ => ?_)
                  | refine Look.at0 ?_
                  | refine Cell.row ?_
                  | refine Cell.buf ?_
                  | refine Cells.row rfl ?_
                  | refine Put.row rfl ?_
                  | refine Put.buf rfl ?_
                  | refine Look.at1 ?_
                  | refine Look.at2 ?_
                  | refine Look.at3 ?_
                  | refine Look.at4 ?_
                  | refine Look.at5 ?_
                  | refine Look.at6 ?_
                  | refine Look.at7 ?_
                  | refine Look.at8 ?_
                  | with_reducible refine Val.i64 (by omega) (by omega) ?_
                  | with_reducible refine Val.u8 (by omega) (by omega) ?_
                  | with_reducible refine Val.u32 (by omega) (by omega) ?_
                  | with_reducible refine Val.u64 (by omega) (by omega) ?_
                  | with_reducible refine Val.u8m ?_
                  | with_reducible refine Val.u32m ?_
                  | with_reducible refine Val.u64m ?_
                  | with_reducible refine Val.shr8 ?_
                  | with_reducible refine Val.shr16 (by decide) ?_
                  | with_reducible refine Val.shr24 (by decide) ?_
                  | with_reducible refine Val.raw ?_
                  | refine Branch.not ?_
                  | refine Branch.and ?_
                  | refine Branch.or ?_
                  | refine Branch.dt (by assumption) ?_
                  | refine Branch.df (by assumption) ?_
                  | refine Branch.dt rfl ?_
                  | refine Branch.dt (by omega) ?_
                  | refine Branch.df (by omega) ?_
                  | refine Branch.t rfl ?_
                  | refine Branch.f rfl ?_
                  | refine Branch.t (by assumption) ?_
                  | refine Branch.f (by assumption) ?_
                  | refine Branch.d (fun _ => ?_) (fun _ => ?_)
                  | refine Branch.mk (fun _ => ?_) (fun _ => ?_)
                  | refine Need.mk (by first | omega | decide | rfl) ?_
                  | refine Idx.nat (by omega) ?_
                  | refine Idx.auto (by first | omega | decide) (by first | omega | decide) ?_
                  | refine Cell.ro rfl ?_
                  | refine SDraw.all (by kernel_rfl) ?_
                  | refine Kept.k0 ?_
                  | refine Kept.k1 ?_
                  | refine Kept.k2 ?_
                  | refine Kept.k3 ?_
                  | refine Kept.k4 ?_))
              all_goals (conv => whnf)
              all_goals first
                | exact hnext3 _ .mk
                | trace_state
            · have e : k = xco.length := by omega
              subst e
              repeat' ((conv => whnf); (first
                  | refine Look.mem hp02 (fun _ _ _ => ?_)
                  | refine Look.cell hmL hc1 ?_
                  | refine New.mk (fun _ => ?_)
                  | refine Look.at0 ?_
                  | refine Cell.row ?_
                  | refine Cell.buf ?_
                  | refine Cells.row rfl ?_
                  | refine Put.row rfl ?_
                  | refine Put.buf rfl ?_
                  | refine Look.at1 ?_
                  | refine Look.at2 ?_
                  | refine Look.at3 ?_
                  | refine Look.at4 ?_
                  | refine Look.at5 ?_
                  | refine Look.at6 ?_
                  | refine Look.at7 ?_
                  | refine Look.at8 ?_
                  | with_reducible refine Val.i64 (by omega) (by omega) ?_
                  | with_reducible refine Val.u8 (by omega) (by omega) ?_
                  | with_reducible refine Val.u32 (by omega) (by omega) ?_
                  | with_reducible refine Val.u64 (by omega) (by omega) ?_
                  | with_reducible refine Val.u8m ?_
                  | with_reducible refine Val.u32m ?_
                  | with_reducible refine Val.u64m ?_
                  | with_reducible refine Val.shr8 ?_
                  | with_reducible refine Val.shr16 (by decide) ?_
                  | with_reducible refine Val.shr24 (by decide) ?_
                  | with_reducible refine Val.raw ?_
                  | refine Branch.not ?_
                  | refine Branch.and ?_
                  | refine Branch.or ?_
                  | refine Branch.dt (by assumption) ?_
                  | refine Branch.df (by assumption) ?_
                  | refine Branch.dt rfl ?_
                  | refine Branch.dt (by omega) ?_
                  | refine Branch.df (by omega) ?_
                  | refine Branch.t rfl ?_
                  | refine Branch.f rfl ?_
                  | refine Branch.t (by assumption) ?_
                  | refine Branch.f (by assumption) ?_
                  | refine Branch.d (fun _ => ?_) (fun _ => ?_)
                  | refine Branch.mk (fun _ => ?_) (fun _ => ?_)
                  | refine Need.mk (by first | omega | decide | rfl) ?_
                  | refine Idx.nat (by omega) ?_
                  | refine Idx.auto (by first | omega | decide) (by first | omega | decide) ?_
                  | refine Cell.ro rfl ?_
                  | refine SDraw.all (by kernel_rfl) ?_
                  | refine Kept.k0 ?_
                  | refine Kept.k1 ?_
                  | refine Kept.k2 ?_
                  | refine Kept.k3 ?_
                  | refine Kept.k4 ?_))
              all_goals (conv => whnf)
              exact hnext _ .mk
          · have e : i = L.length := by omega
            subst e
            repeat' ((conv => whnf); (first
                | refine Look.mem hp02 (fun _ _ _ => ?_)
                | refine hc9 _ _ (fun N9 => ?_)
                | refine New.mk (fun _ => ?_)
                | refine Look.at0 ?_
                | refine Cell.row ?_
                | refine Cell.buf ?_
                | refine Cells.row rfl ?_
                | refine Put.row rfl ?_
                | refine Put.buf rfl ?_
                | refine Look.at1 ?_
                | refine Look.at2 ?_
                | refine Look.at3 ?_
                | refine Look.at4 ?_
                | refine Look.at5 ?_
                | refine Look.at6 ?_
                | refine Look.at7 ?_
                | refine Look.at8 ?_
                | with_reducible refine Val.i64 (by omega) (by omega) ?_
                | with_reducible refine Val.u8 (by omega) (by omega) ?_
                | with_reducible refine Val.u32 (by omega) (by omega) ?_
                | with_reducible refine Val.u64 (by omega) (by omega) ?_
                | with_reducible refine Val.u8m ?_
                | with_reducible refine Val.u32m ?_
                | with_reducible refine Val.u64m ?_
                | with_reducible refine Val.shr8 ?_
                | with_reducible refine Val.shr16 (by decide) ?_
                | with_reducible refine Val.shr24 (by decide) ?_
                | with_reducible refine Val.raw ?_
                | refine Branch.not ?_
                | refine Branch.and ?_
                | refine Branch.or ?_
                | refine Branch.dt (by assumption) ?_
                | refine Branch.df (by assumption) ?_
                | refine Branch.dt rfl ?_
                | refine Branch.dt (by omega) ?_
                | refine Branch.df (by omega) ?_
                | refine Branch.t rfl ?_
                | refine Branch.f rfl ?_
                | refine Branch.t (by assumption) ?_
                | refine Branch.f (by assumption) ?_
                | refine Branch.d (fun _ => ?_) (fun _ => ?_)
                | refine Branch.mk (fun _ => ?_) (fun _ => ?_)
                | refine Need.mk (by first | omega | decide | rfl) ?_
                | refine Idx.nat (by omega) ?_
                | refine Idx.auto (by first | omega | decide) (by first | omega | decide) ?_
                | refine Cell.ro rfl ?_
                | refine SDraw.all (by kernel_rfl) ?_
                | refine Kept.k0 ?_
                | refine Kept.k1 ?_
                | refine Kept.k2 ?_
                | refine Kept.k3 ?_
                | refine Kept.k4 ?_))
            all_goals (conv => whnf)
            exact Keep.sub [] (List.nil_sublist _) rfl
  · repeat' ((conv => whnf); (first
        | refine SDraw.held (by kernel_rfl) [_] (.same (.head _) .nil) ?_
        | refine Kept.mk (.same (.head _) .nil) ?_
        | refine SCalls.under [_] (c8 hin hbig hL (fun q c Lo N h1 h2 h3 => ?_))
        | refine SCalls.midH [_] I (hc7 _ h1 h2 h3 (fun hne => ?_) (fun he => absurd he hchk))
        | refine hc9 _ _ (fun N9 => ?_)
        | refine New.mk (fun _ => ?_)
        | refine Look.at0 ?_
        | refine Cell.row ?_
        | refine Cell.buf ?_
        | refine Cells.row rfl ?_
        | refine Put.row rfl ?_
        | refine Put.buf rfl ?_
        | refine Look.at1 ?_
        | refine Look.at2 ?_
        | refine Look.at3 ?_
        | refine Look.at4 ?_
        | refine Look.at5 ?_
        | refine Look.at6 ?_
        | refine Look.at7 ?_
        | refine Look.at8 ?_
        | with_reducible refine Val.i64 (by omega) (by omega) ?_
        | with_reducible refine Val.u8 (by omega) (by omega) ?_
        | with_reducible refine Val.u32 (by omega) (by omega) ?_
        | with_reducible refine Val.u64 (by omega) (by omega) ?_
        | with_reducible refine Val.u8m ?_
        | with_reducible refine Val.u32m ?_
        | with_reducible refine Val.u64m ?_
        | with_reducible refine Val.shr8 ?_
        | with_reducible refine Val.shr16 (by decide) ?_
        | with_reducible refine Val.shr24 (by decide) ?_
        | with_reducible refine Val.raw ?_
        | refine Branch.not ?_
        | refine Branch.and ?_
        | refine Branch.or ?_
        | refine Branch.dt (by assumption) ?_
        | refine Branch.df (by assumption) ?_
        | refine Branch.dt rfl ?_
        | refine Branch.dt (by omega) ?_
        | refine Branch.df (by omega) ?_
        | refine Branch.t rfl ?_
        | refine Branch.f rfl ?_
        | refine Branch.t (by assumption) ?_
        | refine Branch.f (by assumption) ?_
        | refine Branch.d (fun _ => ?_) (fun _ => ?_)
        | refine Branch.mk (fun _ => ?_) (fun _ => ?_)
        | refine Need.mk (by first | omega | decide | rfl) ?_
        | refine Idx.nat (by omega) ?_
        | refine Idx.auto (by first | omega | decide) (by first | omega | decide) ?_
        | refine Cell.ro rfl ?_
        | refine SDraw.all (by kernel_rfl) ?_
        | refine Kept.k0 ?_
        | refine Kept.k1 ?_
        | refine Kept.k2 ?_
        | refine Kept.k3 ?_
        | refine Kept.k4 ?_))
    all_goals (conv => whnf)
    all_goals exact Keep.sub [] (List.nil_sublist _) rfl
end
theorem ImageGoneW (a0x0 : Int) (a0x1a : Option Addr) (a0x1l : Nat) (a0x1c : Nat) (a1a : Option Addr) (a1l : Nat) (a1c : Nat) (a2 : Int) (w : World) (h0_0 : (Lit.int .i64 a0x0).wf = true) (h0_1 : SliceAt 2 B42 R42 w a0x1a a0x1l a0x1c) (h1_0 : SliceAt 5 B38 R38 w a1a a1l a1c) (h2_0 : (Lit.int .u8 a2).wf = true) :
    Calls Try.prog 3 #[.agg #[.int .i64 a0x0, .slice a0x1a a0x1l a0x1c], .slice a1a a1l a1c, .int .u8 a2] w fun e w' => e = .returned (.bool true) ∧ Go.RowKit.Below w.heap.size w w' := by
  obtain ⟨H1, L, rfl, hin, hb, hL, hw1, x1⟩ := inV_of h0_1
  obtain ⟨H2, Y, rfl, hact, hw2, x2⟩ := inA_of h1_0
  have x := excl_join x1 x2
  have h8 := wf_u8 h2_0
  exact (gone_c (hin.mono fun p hp => List.mem_append_left _ hp) hb hL (fun p hp => kd_ro (x p hp)) (hact.mono fun p hp => List.mem_append_right _ hp) a2 (by omega) a0x0).fin w (Holds.join hw1 hw2 x1 x2) x
end Go.Proofs.Ytjnlpaojaikjaaa

