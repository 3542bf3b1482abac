/- Layer 24: without power there is no master: plain laws, and the walk. -/
import Derived.Test.YtmakaofdpoiaaaaFlH
import Derived.Test.YtmakaofdpoiaaaaTy
set_option linter.unusedVariables false
set_option linter.unusedSimpArgs false
set_option maxRecDepth 100000
set_option maxHeartbeats 4000000
namespace Go.Proofs.Ytmakaofdpoiaaaa
open Sx
theorem inL_of {w : World} {a : Option Addr} {n c : Nat} (h : SliceAt 3 B30 R30 w a n c) : ∃ H L, L.length = n ∧ InL (.slice a L.length c) H L ∧ Holds w H ∧ ∀ p ∈ H, p.2.excl = false := by
  by_cases hl : 0 < n
  · obtain ⟨b, o, rfl, hb, hc⟩ := h.plain (by decide) hl
    have hlen : n * 24 ≤ 140737488355328 := by
      have h3 := h.2.2.1
      unfold B30 reachBytes at h3
      omega
    obtain ⟨L, h1, h2⟩ := list_of (P := fun j (m : Mas) => ∀ i v, m.cells[i]? = some v → w.cell? ⟨b, o + j * 3 + i, none⟩ = some v) n fun j hj => by
      obtain ⟨cs, hlc, hcell, x0, x1, x2, rfl, _⟩ := hc j hj
      refine ⟨⟨x0, x1, x2⟩, fun i v hi => ?_⟩
      have hi3 : i < 3 := (List.getElem?_eq_some_iff.1 hi).1
      exact (hcell i hi3).trans hi
    refine ⟨[(b, .ro fun j => w.cell? ⟨b, j, none⟩)], L, h1, ⟨_, c, rfl, by omega, fun _ => ⟨b, o, _, rfl, rfl, fun j m hj i v hv => h2 j m hj i v hv⟩⟩, ⟨fun p hp => ?_, List.pairwise_singleton _ _⟩, fun p hp => ?_⟩
    · obtain rfl := List.mem_singleton.1 hp
      exact ⟨hb, fun _ _ h => h⟩
    · obtain rfl := List.mem_singleton.1 hp
      rfl
  · obtain rfl : n = 0 := by omega
    exact ⟨[], [], rfl, ⟨a, c, rfl, by simp, fun h => by simp at h⟩, Holds.empty w, fun p hp => by cases hp⟩
theorem newF_err {slot lost : Int} {L : List Mas} {e : Int} (h : newF slot lost L = .error e) : e ≠ 0 := by
  have go : ∀ (r : List Mas) (acc : List M), newGo slot r acc = .error e → e ≠ 0 := by
    intro r
    induction r with
    | nil => intro acc h; cases h
    | cons x r ih =>
      intro acc h
      by_cases hb : Bad x
      · rw [newGo_bad hb] at h; injection h with h; omega
      · cases hd : acc.any (fun m => decide (m.node = x.node)) with
        | true => rw [newGo_dup hb hd] at h; injection h with h; omega
        | false => rw [newGo_ok hb hd] at h; exact ih _ h
  unfold newF at h
  split at h
  · injection h with h; omega
  · cases hg : newGo slot L [] with
    | error e' => rw [hg] at h; injection h with h; subst h; exact go L [] hg
    | ok l' =>
      rw [hg] at h
      dsimp only at h
      split at h
      · injection h with h; omega
      · cases h
def Dead (l : List M) : Prop := ∀ m ∈ l, m.is = 0
theorem dead_new {slot lost : Int} {L : List Mas} {l : List M} (h : newF slot lost L = .ok l) (hL : ∀ x ∈ L, x.on = false) : Dead l := by
  have go : ∀ (r : List Mas) (acc l : List M), newGo slot r acc = .ok l → (∀ x ∈ r, x.on = false) → Dead acc → Dead l := by
    intro r
    induction r with
    | nil => intro acc l h _ h2; injection h with h; subst h; exact h2
    | cons x r ih =>
      intro acc l h hr h2
      by_cases hb : Bad x
      · rw [newGo_bad hb] at h; cases h
      · cases hd : acc.any (fun m => decide (m.node = x.node)) with
        | true => rw [newGo_dup hb hd] at h; cases h
        | false =>
          rw [newGo_ok hb hd] at h
          refine ih _ _ h (fun y hy => hr y (List.mem_cons_of_mem _ hy)) fun m hm => ?_
          rcases List.mem_append.1 hm with hm | hm
          · exact h2 m hm
          · obtain rfl := List.mem_singleton.1 hm
            unfold mkM
            rw [hr x List.mem_cons_self]; rfl
  unfold newF at h
  split at h
  · cases h
  · cases hg : newGo slot L [] with
    | error e' => rw [hg] at h; cases h
    | ok l' =>
      rw [hg] at h
      dsimp only at h
      split at h
      · cases h
      · injection h with h
        subst h
        exact go L [] l' hg hL (fun m hm => by cases hm)
theorem dead_tick (slot lost : Int) {l : List M} (h : Dead l) : tickM slot lost l = (l, none) := by
  have e1 : l.map t1M = l := by
    refine (List.map_congr_left fun m hm => ?_).trans (List.map_id l)
    have := h m hm
    unfold t1M
    rw [if_neg (by omega), if_neg (by omega)]; rfl
  have e2 : leadL l = none := List.find?_eq_none.2 fun m hm => by simp [h m hm]
  have e3 : claimM l = none := by
    have key : ∀ l : List M, Dead l → l.foldl stepM none = none := by
      intro l
      induction l with
      | nil => intro _; rfl
      | cons x l ih =>
        intro h
        rw [List.foldl_cons, show stepM none x = none by unfold stepM; rw [if_neg (by have := h x List.mem_cons_self; omega)]]
        exact ih fun m hm => h m (List.mem_cons_of_mem _ hm)
    exact key l h
  have e4 : l.map (lostMM slot lost) = l := by
    refine (List.map_congr_left fun m hm => ?_).trans (List.map_id l)
    have := h m hm
    unfold lostMM
    rw [if_neg (by omega)]; rfl
  unfold tickM
  dsimp only
  rw [e1, e2]
  dsimp only
  rw [e3]
  dsimp only
  rw [e4]
theorem dead_lead {l : List M} (h : Dead l) : leadL l = none := List.find?_eq_none.2 fun m hm => by simp [h m hm]
theorem dead_knows {l : List M} (h : Dead l) (n : Int) : ∃ x, knowsM l n = (x, false) := by
  unfold knowsM findL
  cases hf : l.find? fun m => decide (m.node = n) with
  | none => exact ⟨_, rfl⟩
  | some m =>
    have := h m (List.mem_of_find?_eq_some hf)
    exact ⟨m.of_, by simp [this]⟩
theorem dead_left {l : List M} (h : Dead l) (n : Int) : leftM l n = (0, false) := by
  unfold leftM findL
  cases hf : l.find? fun m => decide (m.node = n) with
  | none => rfl
  | some m =>
    have := h m (List.mem_of_find?_eq_some hf)
    simp [this]
inductive S3a (A1 A2 A5 A6 : Value) : List Value → Prop
  | mk {r0 r3 r4 r7 r8 r9 r10 r11 r12 r13 r14 r15 r16 r17 r18 r19 r20 r21 r22 r23 r24 r25 r26 r27 r28 r29 r30 r31 r32 r33 r34 r35 r36 r37 r38 r39 r40 r41 r42 r43 r44 r45 r46 r47 r48 r49 r50 r51 r52 r53 r54 r55 r56 r57 r58 r59 r60 r61 r62 r63 r64 r65 r66 r67 r68 r69 r70 r71 r72 r73 r74 r75 r76 r77 r78 r79 r80 r81 r82 r83 r84 r85 r86 r87 r88 r89 r90 r91 r92 r93 : Value} : S3a A1 A2 A5 A6 [r0, A1, A2, r3, r4, A5, A6, r7, r8, r9, r10, r11, r12, r13, r14, r15, r16, r17, r18, r19, r20, r21, r22, r23, r24, r25, r26, r27, r28, r29, r30, r31, r32, r33, r34, r35, r36, r37, r38, r39, r40, r41, r42, r43, r44, r45, r46, r47, r48, r49, r50, r51, r52, r53, r54, r55, r56, r57, r58, r59, r60, r61, r62, r63, r64, r65, r66, r67, r68, r69, r70, r71, r72, r73, r74, r75, r76, r77, r78, r79, r80, r81, r82, r83, r84, r85, r86, r87, r88, r89, r90, r91, r92, r93]
inductive S3b (A1 A5 A7 A9 : Value) : List Value → Prop
  | mk {r0 r2 r3 r4 r6 r8 r10 r11 r12 r13 r14 r15 r16 r17 r18 r19 r20 r21 r22 r23 r24 r25 r26 r27 r28 r29 r30 r31 r32 r33 r34 r35 r36 r37 r38 r39 r40 r41 r42 r43 r44 r45 r46 r47 r48 r49 r50 r51 r52 r53 r54 r55 r56 r57 r58 r59 r60 r61 r62 r63 r64 r65 r66 r67 r68 r69 r70 r71 r72 r73 r74 r75 r76 r77 r78 r79 r80 r81 r82 r83 r84 r85 r86 r87 r88 r89 r90 r91 r92 r93 : Value} : S3b A1 A5 A7 A9 [r0, A1, r2, r3, r4, A5, r6, A7, r8, A9, r10, r11, r12, r13, r14, r15, r16, r17, r18, r19, r20, r21, r22, r23, r24, r25, r26, r27, r28, r29, r30, r31, r32, r33, r34, r35, r36, r37, r38, r39, r40, r41, r42, r43, r44, r45, r46, r47, r48, r49, r50, r51, r52, r53, r54, r55, r56, r57, r58, r59, r60, r61, r62, r63, r64, r65, r66, r67, r68, r69, r70, r71, r72, r73, r74, r75, r76, r77, r78, r79, r80, r81, r82, r83, r84, r85, r86, r87, r88, r89, r90, r91, r92, r93]
inductive S3c (A5 A7 A10 : Value) : List Value → Prop
  | mk {r0 r1 r2 r3 r4 r6 r8 r9 r11 r12 r13 r14 r15 r16 r17 r18 r19 r20 r21 r22 r23 r24 r25 r26 r27 r28 r29 r30 r31 r32 r33 r34 r35 r36 r37 r38 r39 r40 r41 r42 r43 r44 r45 r46 r47 r48 r49 r50 r51 r52 r53 r54 r55 r56 r57 r58 r59 r60 r61 r62 r63 r64 r65 r66 r67 r68 r69 r70 r71 r72 r73 r74 r75 r76 r77 r78 r79 r80 r81 r82 r83 r84 r85 r86 r87 r88 r89 r90 r91 r92 r93 : Value} : S3c A5 A7 A10 [r0, r1, r2, r3, r4, A5, r6, A7, r8, r9, A10, r11, r12, r13, r14, r15, r16, r17, r18, r19, r20, r21, r22, r23, r24, r25, r26, r27, r28, r29, r30, r31, r32, r33, r34, r35, r36, r37, r38, r39, r40, r41, r42, r43, r44, r45, r46, r47, r48, r49, r50, r51, r52, r53, r54, r55, r56, r57, r58, r59, r60, r61, r62, r63, r64, r65, r66, r67, r68, r69, r70, r71, r72, r73, r74, r75, r76, r77, r78, r79, r80, r81, r82, r83, r84, r85, r86, r87, r88, r89, r90, r91, r92, r93]
def offMas (x : Mas) : Mas := ⟨x.node, x.prio, false⟩
def I3a (p2 q c N : Nat) (F : Blk) (tk : Int) (L : List Mas) (l : List Value) (H : Heap) : Prop :=
  ∃ j : Nat, j ≤ L.length ∧ S3a (.int .u16 tk) (.pointer (some ⟨p2, 0, none⟩)) (.slice (some ⟨q, 0, none⟩) L.length c) (.int .i64 (j : Int)) l ∧ H = [(p2, F), (q, .buf 30 ((updTo offMas j L).flatMap Mas.cells) N)]
noncomputable def M3a (n : Nat) (l : List Value) (_ : Heap) : Nat := n - (match getL l 6 with | .int _ i => i.toNat | _ => 0)
def I3b (p2 q c : Nat) (F B : Blk) (tk : Int) (g cap : Nat) (a : Option Addr) (Bh : Heap) (slot lost : Int) (n : Nat) (l0 : List M) (l : List Value) (H : Heap) : Prop :=
  ∃ (k : Nat) (ms : List PM), (k : Int) ≤ tk % 2000 ∧ Net a cap Bh ms l0 ∧ S3b (.int .u16 tk) (.slice (some ⟨q, 0, none⟩) n c) (.pointer (some ⟨g, 0, none⟩)) (.int .i64 (k : Int)) l ∧ H = (p2, F) :: (q, B) :: netH g a cap Bh slot lost ms
noncomputable def M3b (l : List Value) (_ : Heap) : Nat := 2000 - (match getL l 9 with | .int _ i => i.toNat | _ => 0)
def I3c (p2 q c : Nat) (F B : Blk) (g cap : Nat) (a : Option Addr) (Bh : Heap) (slot lost : Int) (n : Nat) (l0 : List M) (l : List Value) (H : Heap) : Prop :=
  ∃ (k : Nat) (ms : List PM), k ≤ n ∧ Net a cap Bh ms l0 ∧ S3c (.slice (some ⟨q, 0, none⟩) n c) (.pointer (some ⟨g, 0, none⟩)) (.int .i64 (k : Int)) l ∧ H = (p2, F) :: (q, B) :: netH g a cap Bh slot lost ms
noncomputable def M3c (n : Nat) (l : List Value) (_ : Heap) : Nat := n - (match getL l 10 with | .int _ i => i.toNat | _ => 0)
theorem c13D {K : Value → Heap → Prop} {g cap : Nat} {a : Option Addr} {Bh : Heap} {slot lost : Int} {ms : List PM} {l : List M} (hn : Net a cap Bh ms l) (hd : Dead l) (h : K (.slice none 0 0) (netH g a cap Bh slot lost ms)) :
    SCalls Try.prog 13 [.pointer (some ⟨g, 0, none⟩)] (netH g a cap Bh slot lost ms) K := c13N hn (fun _ => h) (fun q m hm => by rw [dead_lead hd] at hm; cases hm)
theorem c14D {K : Value → Heap → Prop} {g cap : Nat} {a : Option Addr} {Bh : Heap} {slot lost : Int} {ms : List PM} {l : List M} (hn : Net a cap Bh ms l) (hd : Dead l) (n : Int) (h : ∀ x, K (.tuple ⟨[.int .i64 x, .bool false]⟩) (netH g a cap Bh slot lost ms)) :
    SCalls Try.prog 14 [.pointer (some ⟨g, 0, none⟩), .int .i64 n] (netH g a cap Bh slot lost ms) K := by
  obtain ⟨x, hx⟩ := dead_knows hd n
  exact c14E hn hx (h x)
theorem dead_sc {sv : Value} {H : Heap} {L : List Mas} (hin : InL sv H L) (s lo tk : Int) (hs : 0 ≤ s ∧ s ≤ 18446744073709551615) (hl : 0 ≤ lo ∧ lo ≤ 18446744073709551615) (ht : 0 ≤ tk ∧ tk ≤ 65535) :
    SCalls Try.prog 3 [.agg ⟨[sv, .int .u64 s, .int .u64 lo]⟩, .int .u16 tk] H fun v _ => v = .bool true := by
  have hlen : L.length ≤ 140737488355328 := by obtain ⟨_, _, _, h, _⟩ := hin; omega
  have hsv : ∃ a n c, sv = .slice a n c := by obtain ⟨a, c, h, _⟩ := hin; exact ⟨a, _, c, h⟩
  obtain ⟨sa, sn, sc, rfl⟩ := hsv
  refine enter3 ?_
  repeat' ((conv => whnf); (first
      | refine c8 s lo hs.1 hl.1 ⟨_, _, _, rfl⟩ ?_
      | refine SCalls.under [_] (c9 hin (fun q c hq hc => ?_))
      | refine New.mk (fun _ => ?_)
      | refine Look.at0 ?_
      | refine Cell.row ?_
      | refine Cell.buf ?_
      | refine Cells.row rfl ?_
      | refine Put.row rfl ?_
      | refine Put.buf rfl ?_
      | refine Look.at1 ?_
      | refine Look.at2 ?_
      | refine Look.at3 ?_
      | refine Look.at4 ?_
      | refine Look.at5 ?_
      | refine Look.at6 ?_
      | refine Look.at7 ?_
      | refine Look.at8 ?_
      | with_reducible refine Val.i64 (by omega) (by omega) ?_
      | with_reducible refine Val.u8 (by omega) (by omega) ?_
      | with_reducible refine Val.u32 (by omega) (by omega) ?_
      | with_reducible refine Val.u64 (by omega) (by omega) ?_
      | with_reducible refine Val.u8m ?_
      | with_reducible refine Val.u32m ?_
      | with_reducible refine Val.u64m ?_
      | with_reducible refine Val.shr8 ?_
      | with_reducible refine Val.shr16 (by decide) ?_
      | with_reducible refine Val.shr24 (by decide) ?_
      | with_reducible refine Val.raw ?_
      | refine Branch.not ?_
      | refine Branch.and ?_
      | refine Branch.or ?_
      | refine Branch.dt (by assumption) ?_
      | refine Branch.df (by assumption) ?_
      | refine Branch.dt rfl ?_
      | refine Branch.dt (by omega) ?_
      | refine Branch.df (by omega) ?_
      | refine Branch.t rfl ?_
      | refine Branch.f rfl ?_
      | refine Branch.t (by assumption) ?_
      | refine Branch.f (by assumption) ?_
      | refine Branch.d (fun _ => ?_) (fun _ => ?_)
      | refine Branch.mk (fun _ => ?_) (fun _ => ?_)
      | refine Need.mk (by first | omega | decide | rfl) ?_
      | refine Idx.nat (by omega) ?_
      | refine Idx.auto (by first | omega | decide) (by first | omega | decide) ?_
      | refine Cell.ro rfl ?_
      | refine SDraw.all (by kernel_rfl) ?_
      | refine Kept.k0 ?_
      | refine Kept.k1 ?_
      | refine Kept.k2 ?_
      | refine Kept.k3 ?_
      | refine Kept.k4 ?_))
  refine SLoop.keep (Keep.mk _ [_, _] (.refl _) (List.Sublist.cons_cons _ (List.Sublist.cons_cons _ (List.nil_sublist _))) ?_)
  refine SLoop.inv (I3a _ q c _ _ tk L) (M3a L.length) (Keep.all ⟨0, by omega, .mk, by rw [updTo_zero]⟩) ?_
  rintro S H ⟨j, hj, hS, rfl⟩ R hR
  cases hS
  by_cases hlt : j < L.length
  · obtain ⟨x, hx⟩ : ∃ x, L[j]? = some x := ⟨_, List.getElem?_eq_getElem hlt⟩
    repeat' ((conv => whnf); (first
        | refine Put.flat Mas.len (offMas x) (updTo_nth hx) (by decide) rfl ?_
        | refine New.mk (fun _ => ?_)
        | refine Look.at0 ?_
        | refine Cell.row ?_
        | refine Cell.buf ?_
        | refine Cells.row rfl ?_
        | refine Put.row rfl ?_
        | refine Put.buf rfl ?_
        | refine Look.at1 ?_
        | refine Look.at2 ?_
        | refine Look.at3 ?_
        | refine Look.at4 ?_
        | refine Look.at5 ?_
        | refine Look.at6 ?_
        | refine Look.at7 ?_
        | refine Look.at8 ?_
        | with_reducible refine Val.i64 (by omega) (by omega) ?_
        | with_reducible refine Val.u8 (by omega) (by omega) ?_
        | with_reducible refine Val.u32 (by omega) (by omega) ?_
        | with_reducible refine Val.u64 (by omega) (by omega) ?_
        | with_reducible refine Val.u8m ?_
        | with_reducible refine Val.u32m ?_
        | with_reducible refine Val.u64m ?_
        | with_reducible refine Val.shr8 ?_
        | with_reducible refine Val.shr16 (by decide) ?_
        | with_reducible refine Val.shr24 (by decide) ?_
        | with_reducible refine Val.raw ?_
        | refine Branch.not ?_
        | refine Branch.and ?_
        | refine Branch.or ?_
        | refine Branch.dt (by assumption) ?_
        | refine Branch.df (by assumption) ?_
        | refine Branch.dt rfl ?_
        | refine Branch.dt (by omega) ?_
        | refine Branch.df (by omega) ?_
        | refine Branch.t rfl ?_
        | refine Branch.f rfl ?_
        | refine Branch.t (by assumption) ?_
        | refine Branch.f (by assumption) ?_
        | refine Branch.d (fun _ => ?_) (fun _ => ?_)
        | refine Branch.mk (fun _ => ?_) (fun _ => ?_)
        | refine Need.mk (by first | omega | decide | rfl) ?_
        | refine Idx.nat (by omega) ?_
        | refine Idx.auto (by first | omega | decide) (by first | omega | decide) ?_
        | refine Cell.ro rfl ?_
        | refine SDraw.all (by kernel_rfl) ?_
        | refine Kept.k0 ?_
        | refine Kept.k1 ?_
        | refine Kept.k2 ?_
        | refine Kept.k3 ?_
        | refine Kept.k4 ?_))
    all_goals (conv => whnf)
    refine hR _ _ (Keep.all ⟨⟨j + 1, by omega, .mk, by rw [updTo_set hx]⟩, ?_⟩)
    show L.length - Int.toNat ((j : Int) + 1) < L.length - Int.toNat (j : Int); omega
  · rw [updTo_all (by omega)]
    have hoff : ∀ x ∈ L.map offMas, x.on = false := by
      intro x hx; obtain ⟨y, _, rfl⟩ := List.mem_map.1 hx; rfl
    have hL2 : L.length = (L.map offMas).length := by simp
    rw [hL2]
    rw [hL2] at hlen hlt
    generalize L.map offMas = L2 at hoff hlen hlt ⊢
    have hcell : ∀ N, ∀ (j : Nat) m, L2[j]? = some m → ∀ i v, m.cells[i]? = some v → (Blk.buf 30 (L2.flatMap Mas.cells) N).cell (0 + j * 3 + i) = some v := by
      intro N j m hj i v hv
      have hi : i < 3 := (List.getElem?_eq_some_iff.1 hv).1
      rw [Nat.zero_add]
      exact (flat_nth Mas.len hj hi).trans hv
    repeat' ((conv => whnf); (first
        | refine SCalls.under [_] (c10N (L := L2) (hcell _) (by omega) (fun e he => ?_) (fun ms g a cap Bh l he hn => ?_))
        | refine live_c ?_
        | refine Branch.not (Branch.df (newF_err he) ?_)
        | refine New.mk (fun _ => ?_)
        | refine Look.at0 ?_
        | refine Cell.row ?_
        | refine Cell.buf ?_
        | refine Cells.row rfl ?_
        | refine Put.row rfl ?_
        | refine Put.buf rfl ?_
        | refine Look.at1 ?_
        | refine Look.at2 ?_
        | refine Look.at3 ?_
        | refine Look.at4 ?_
        | refine Look.at5 ?_
        | refine Look.at6 ?_
        | refine Look.at7 ?_
        | refine Look.at8 ?_
        | with_reducible refine Val.i64 (by omega) (by omega) ?_
        | with_reducible refine Val.u8 (by omega) (by omega) ?_
        | with_reducible refine Val.u32 (by omega) (by omega) ?_
        | with_reducible refine Val.u64 (by omega) (by omega) ?_
        | with_reducible refine Val.u8m ?_
        | with_reducible refine Val.u32m ?_
        | with_reducible refine Val.u64m ?_
        | with_reducible refine Val.shr8 ?_
        | with_reducible refine Val.shr16 (by decide) ?_
        | with_reducible refine Val.shr24 (by decide) ?_
        | with_reducible refine Val.raw ?_
        | refine Branch.not ?_
        | refine Branch.and ?_
        | refine Branch.or ?_
        | refine Branch.dt (by assumption) ?_
        | refine Branch.df (by assumption) ?_
        | refine Branch.dt rfl ?_
        | refine Branch.dt (by omega) ?_
        | refine Branch.df (by omega) ?_
        | refine Branch.t rfl ?_
        | refine Branch.f rfl ?_
        | refine Branch.t (by assumption) ?_
        | refine Branch.f (by assumption) ?_
        | refine Branch.d (fun _ => ?_) (fun _ => ?_)
        | refine Branch.mk (fun _ => ?_) (fun _ => ?_)
        | refine Need.mk (by first | omega | decide | rfl) ?_
        | refine Idx.nat (by omega) ?_
        | refine Idx.auto (by first | omega | decide) (by first | omega | decide) ?_
        | refine Cell.ro rfl ?_
        | refine SDraw.all (by kernel_rfl) ?_
        | refine Kept.k0 ?_
        | refine Kept.k1 ?_
        | refine Kept.k2 ?_
        | refine Kept.k3 ?_
        | refine Kept.k4 ?_))
    all_goals (conv => whnf)
    · exact Keep.all rfl
    have hd : Dead l := dead_new he hoff
    refine SLoop.inv (I3b _ q c _ _ tk g cap a Bh _ _ L2.length l) M3b (Keep.all ⟨0, ms, by omega, hn, .mk, rfl⟩) ?_
    rintro S H ⟨k, ms, hk, hn, hS, rfl⟩ R hR
    cases hS
    by_cases hlt2 : (k : Int) < tk % 2000
    · repeat' ((conv => whnf); (first
          | with_reducible refine Val.tmod (by omega) ?_
          | refine SCalls.under [_, _] (c12E hn (dead_tick _ _ hd) (fun _ _ ms' _ hn' => ?_))
          | refine SCalls.under [_, _] (c13D hn' hd ?_)
          | refine New.mk (fun _ => ?_)
          | refine Look.at0 ?_
          | refine Cell.row ?_
          | refine Cell.buf ?_
          | refine Cells.row rfl ?_
          | refine Put.row rfl ?_
          | refine Put.buf rfl ?_
          | refine Look.at1 ?_
          | refine Look.at2 ?_
          | refine Look.at3 ?_
          | refine Look.at4 ?_
          | refine Look.at5 ?_
          | refine Look.at6 ?_
          | refine Look.at7 ?_
          | refine Look.at8 ?_
          | with_reducible refine Val.i64 (by omega) (by omega) ?_
          | with_reducible refine Val.u8 (by omega) (by omega) ?_
          | with_reducible refine Val.u32 (by omega) (by omega) ?_
          | with_reducible refine Val.u64 (by omega) (by omega) ?_
          | with_reducible refine Val.u8m ?_
          | with_reducible refine Val.u32m ?_
          | with_reducible refine Val.u64m ?_
          | with_reducible refine Val.shr8 ?_
          | with_reducible refine Val.shr16 (by decide) ?_
          | with_reducible refine Val.shr24 (by decide) ?_
          | with_reducible refine Val.raw ?_
          | refine Branch.not ?_
          | refine Branch.and ?_
          | refine Branch.or ?_
          | refine Branch.dt (by assumption) ?_
          | refine Branch.df (by assumption) ?_
          | refine Branch.dt rfl ?_
          | refine Branch.dt (by omega) ?_
          | refine Branch.df (by omega) ?_
          | refine Branch.t rfl ?_
          | refine Branch.f rfl ?_
          | refine Branch.t (by assumption) ?_
          | refine Branch.f (by assumption) ?_
          | refine Branch.d (fun _ => ?_) (fun _ => ?_)
          | refine Branch.mk (fun _ => ?_) (fun _ => ?_)
          | refine Need.mk (by first | omega | decide | rfl) ?_
          | refine Idx.nat (by omega) ?_
          | refine Idx.auto (by first | omega | decide) (by first | omega | decide) ?_
          | refine Cell.ro rfl ?_
          | refine SDraw.all (by kernel_rfl) ?_
          | refine Kept.k0 ?_
          | refine Kept.k1 ?_
          | refine Kept.k2 ?_
          | refine Kept.k3 ?_
          | refine Kept.k4 ?_))
      all_goals (conv => whnf)
      refine hR _ _ (Keep.all ⟨⟨k + 1, ms', by omega, hn', .mk, rfl⟩, ?_⟩)
      show 2000 - Int.toNat ((k : Int) + 1) < 2000 - Int.toNat (k : Int); omega
    · repeat' ((conv => whnf); (first
          | with_reducible refine Val.tmod (by omega) ?_
          | refine New.mk (fun _ => ?_)
          | refine Look.at0 ?_
          | refine Cell.row ?_
          | refine Cell.buf ?_
          | refine Cells.row rfl ?_
          | refine Put.row rfl ?_
          | refine Put.buf rfl ?_
          | refine Look.at1 ?_
          | refine Look.at2 ?_
          | refine Look.at3 ?_
          | refine Look.at4 ?_
          | refine Look.at5 ?_
          | refine Look.at6 ?_
          | refine Look.at7 ?_
          | refine Look.at8 ?_
          | with_reducible refine Val.i64 (by omega) (by omega) ?_
          | with_reducible refine Val.u8 (by omega) (by omega) ?_
          | with_reducible refine Val.u32 (by omega) (by omega) ?_
          | with_reducible refine Val.u64 (by omega) (by omega) ?_
          | with_reducible refine Val.u8m ?_
          | with_reducible refine Val.u32m ?_
          | with_reducible refine Val.u64m ?_
          | with_reducible refine Val.shr8 ?_
          | with_reducible refine Val.shr16 (by decide) ?_
          | with_reducible refine Val.shr24 (by decide) ?_
          | with_reducible refine Val.raw ?_
          | refine Branch.not ?_
          | refine Branch.and ?_
          | refine Branch.or ?_
          | refine Branch.dt (by assumption) ?_
          | refine Branch.df (by assumption) ?_
          | refine Branch.dt rfl ?_
          | refine Branch.dt (by omega) ?_
          | refine Branch.df (by omega) ?_
          | refine Branch.t rfl ?_
          | refine Branch.f rfl ?_
          | refine Branch.t (by assumption) ?_
          | refine Branch.f (by assumption) ?_
          | refine Branch.d (fun _ => ?_) (fun _ => ?_)
          | refine Branch.mk (fun _ => ?_) (fun _ => ?_)
          | refine Need.mk (by first | omega | decide | rfl) ?_
          | refine Idx.nat (by omega) ?_
          | refine Idx.auto (by first | omega | decide) (by first | omega | decide) ?_
          | refine Cell.ro rfl ?_
          | refine SDraw.all (by kernel_rfl) ?_
          | refine Kept.k0 ?_
          | refine Kept.k1 ?_
          | refine Kept.k2 ?_
          | refine Kept.k3 ?_
          | refine Kept.k4 ?_))
      all_goals (conv => whnf)
      refine SLoop.inv (I3c _ q c _ _ g cap a Bh _ _ L2.length l) (M3c L2.length) (Keep.all ⟨0, ms, by omega, hn, .mk, rfl⟩) ?_
      clear hn
      rintro S H ⟨k, ms, hk, hn, hS, rfl⟩ R hR
      cases hS
      by_cases hlt3 : k < L2.length
      · obtain ⟨x, hx⟩ : ∃ x, L2[k]? = some x := ⟨_, List.getElem?_eq_getElem hlt3⟩
        repeat' ((conv => whnf); (first
            | refine Cell.flat Mas.len (i := 0) hx (by decide) rfl ?_
            | refine SCalls.under [_, _] (c14D hn hd _ (fun y => ?_))
            | refine SCalls.under [_, _] (c15E hn (dead_left hd _) ?_)
            | refine New.mk (fun _ => ?_)
            | refine Look.at0 ?_
            | refine Cell.row ?_
            | refine Cell.buf ?_
            | refine Cells.row rfl ?_
            | refine Put.row rfl ?_
            | refine Put.buf rfl ?_
            | refine Look.at1 ?_
            | refine Look.at2 ?_
            | refine Look.at3 ?_
            | refine Look.at4 ?_
            | refine Look.at5 ?_
            | refine Look.at6 ?_
            | refine Look.at7 ?_
            | refine Look.at8 ?_
            | with_reducible refine Val.i64 (by omega) (by omega) ?_
            | with_reducible refine Val.u8 (by omega) (by omega) ?_
            | with_reducible refine Val.u32 (by omega) (by omega) ?_
            | with_reducible refine Val.u64 (by omega) (by omega) ?_
            | with_reducible refine Val.u8m ?_
            | with_reducible refine Val.u32m ?_
            | with_reducible refine Val.u64m ?_
            | with_reducible refine Val.shr8 ?_
            | with_reducible refine Val.shr16 (by decide) ?_
            | with_reducible refine Val.shr24 (by decide) ?_
            | with_reducible refine Val.raw ?_
            | refine Branch.not ?_
            | refine Branch.and ?_
            | refine Branch.or ?_
            | refine Branch.dt (by assumption) ?_
            | refine Branch.df (by assumption) ?_
            | refine Branch.dt rfl ?_
            | refine Branch.dt (by omega) ?_
            | refine Branch.df (by omega) ?_
            | refine Branch.t rfl ?_
            | refine Branch.f rfl ?_
            | refine Branch.t (by assumption) ?_
            | refine Branch.f (by assumption) ?_
            | refine Branch.d (fun _ => ?_) (fun _ => ?_)
            | refine Branch.mk (fun _ => ?_) (fun _ => ?_)
            | refine Need.mk (by first | omega | decide | rfl) ?_
            | refine Idx.nat (by omega) ?_
            | refine Idx.auto (by first | omega | decide) (by first | omega | decide) ?_
            | refine Cell.ro rfl ?_
            | refine SDraw.all (by kernel_rfl) ?_
            | refine Kept.k0 ?_
            | refine Kept.k1 ?_
            | refine Kept.k2 ?_
            | refine Kept.k3 ?_
            | refine Kept.k4 ?_))
        all_goals (conv => whnf)
        refine hR _ _ (Keep.all ⟨⟨k + 1, ms, by omega, hn, .mk, rfl⟩, ?_⟩)
        show L2.length - Int.toNat ((k : Int) + 1) < L2.length - Int.toNat (k : Int); omega
      · repeat' ((conv => whnf); (first
            | refine live_c ?_
            | refine New.mk (fun _ => ?_)
            | refine Look.at0 ?_
            | refine Cell.row ?_
            | refine Cell.buf ?_
            | refine Cells.row rfl ?_
            | refine Put.row rfl ?_
            | refine Put.buf rfl ?_
            | refine Look.at1 ?_
            | refine Look.at2 ?_
            | refine Look.at3 ?_
            | refine Look.at4 ?_
            | refine Look.at5 ?_
            | refine Look.at6 ?_
            | refine Look.at7 ?_
            | refine Look.at8 ?_
            | with_reducible refine Val.i64 (by omega) (by omega) ?_
            | with_reducible refine Val.u8 (by omega) (by omega) ?_
            | with_reducible refine Val.u32 (by omega) (by omega) ?_
            | with_reducible refine Val.u64 (by omega) (by omega) ?_
            | with_reducible refine Val.u8m ?_
            | with_reducible refine Val.u32m ?_
            | with_reducible refine Val.u64m ?_
            | with_reducible refine Val.shr8 ?_
            | with_reducible refine Val.shr16 (by decide) ?_
            | with_reducible refine Val.shr24 (by decide) ?_
            | with_reducible refine Val.raw ?_
            | refine Branch.not ?_
            | refine Branch.and ?_
            | refine Branch.or ?_
            | refine Branch.dt (by assumption) ?_
            | refine Branch.df (by assumption) ?_
            | refine Branch.dt rfl ?_
            | refine Branch.dt (by omega) ?_
            | refine Branch.df (by omega) ?_
            | refine Branch.t rfl ?_
            | refine Branch.f rfl ?_
            | refine Branch.t (by assumption) ?_
            | refine Branch.f (by assumption) ?_
            | refine Branch.d (fun _ => ?_) (fun _ => ?_)
            | refine Branch.mk (fun _ => ?_) (fun _ => ?_)
            | refine Need.mk (by first | omega | decide | rfl) ?_
            | refine Idx.nat (by omega) ?_
            | refine Idx.auto (by first | omega | decide) (by first | omega | decide) ?_
            | refine Cell.ro rfl ?_
            | refine SDraw.all (by kernel_rfl) ?_
            | refine Kept.k0 ?_
            | refine Kept.k1 ?_
            | refine Kept.k2 ?_
            | refine Kept.k3 ?_
            | refine Kept.k4 ?_))
        all_goals (conv => whnf)
        exact Keep.all rfl
theorem FlyingDeadW (a0x0a : Option Addr) (a0x0l : Nat) (a0x0c : Nat) (a0x1 : Int) (a0x2 : Int) (a1 : Int) (w : World) (h0_0 : SliceAt 3 B30 R30 w a0x0a a0x0l a0x0c) (h0_1 : (Lit.int .u64 a0x1).wf = true) (h0_2 : (Lit.int .u64 a0x2).wf = true) (h1_0 : (Lit.int .u16 a1).wf = true) :
    Calls Try.prog 3 #[.agg #[.slice a0x0a a0x0l a0x0c, .int .u64 a0x1, .int .u64 a0x2], .int .u16 a1] w fun e w' => e = .returned (.bool true) ∧ Go.RowKit.Below w.heap.size w w' := by
  obtain ⟨H, L, rfl, hin, hw, hx⟩ := inL_of h0_0
  exact (dead_sc hin a0x1 a0x2 a1 (wf_u64 h0_1) (wf_u64 h0_2) (wf_u16 h1_0)).fin w hw hx
end Go.Proofs.Ytmakaofdpoiaaaa
