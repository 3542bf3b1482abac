/- Layer 24: what is known is told alike. -/
import Derived.Test.YtmakaofdpoiaaaaFlZ
set_option linter.unusedVariables false
set_option linter.unusedSimpArgs false
set_option maxRecDepth 100000
set_option maxHeartbeats 4000000
namespace Go.Proofs.Ytmakaofdpoiaaaa
open Sx
def actV (q : Nat) : Option Int → Value | none => .slice none 0 0 | some _ => .slice (some ⟨q, 0, none⟩) 1 1
def actH (q : Nat) : Option Int → Heap | none => [] | some n => [(q, .row 3 [.int .i64 n] (0, 0))]
inductive S26 (A0 A1 A5 A6 : Value) : List Value → Prop
  | mk {r2 r3 r4 r7 r8 r9 r10 r11 r12 r13 r14 r15 r16 r17 r18 r19 r20 r21 r22 r23 r24 r25 r26 r27 r28 r29 r30 r31 r32 r33 r34 r35 r36 r37 r38 r39 r40 r41 r42 r43 r44 r45 r46 r47 r48 r49 r50 r51 r52 r53 r54 r55 r56 r57 r58 r59 r60 r61 r62 r63 r64 r65 r66 r67 r68 r69 r70 r71 r72 r73 r74 r75 r76 r77 r78 r79 r80 r81 r82 r83 r84 r85 r86 r87 r88 r89 r90 r91 r92 r93 r94 r95 r96 r97 r98 r99 r100 r101 r102 r103 r104 r105 r106 r107 r108 r109 r110 r111 r112 r113 r114 r115 r116 r117 r118 r119 r120 r121 r122 r123 r124 r125 r126 r127 r128 r129 r130 r131 r132 r133 r134 r135 r136 r137 r138 r139 r140 r141 r142 r143 r144 r145 r146 r147 r148 r149 r150 r151 r152 r153 : Value} : S26 A0 A1 A5 A6 [A0, A1, r2, r3, r4, A5, A6, r7, r8, r9, r10, r11, r12, r13, r14, r15, r16, r17, r18, r19, r20, r21, r22, r23, r24, r25, r26, r27, r28, r29, r30, r31, r32, r33, r34, r35, r36, r37, r38, r39, r40, r41, r42, r43, r44, r45, r46, r47, r48, r49, r50, r51, r52, r53, r54, r55, r56, r57, r58, r59, r60, r61, r62, r63, r64, r65, r66, r67, r68, r69, r70, r71, r72, r73, r74, r75, r76, r77, r78, r79, r80, r81, r82, r83, r84, r85, r86, r87, r88, r89, r90, r91, r92, r93, r94, r95, r96, r97, r98, r99, r100, r101, r102, r103, r104, r105, r106, r107, r108, r109, r110, r111, r112, r113, r114, r115, r116, r117, r118, r119, r120, r121, r122, r123, r124, r125, r126, r127, r128, r129, r130, r131, r132, r133, r134, r135, r136, r137, r138, r139, r140, r141, r142, r143, r144, r145, r146, r147, r148, r149, r150, r151, r152, r153]
section
variable {K : Value → Heap → Prop} {g cap : Nat} {a : Option Addr} {Bh : Heap} {d r1 r2 r3 r4 c N q : Nat} {slot lost : Int} {ms : List PM} {L : List Mas} {l : List M} {Q : Post} {t : Option Int}
theorem find_uniq {m : M} {n : Int} (hm : m ∈ l) (hnd : (l.map M.node).Nodup) (e : m.node = n) : findL n l = some m := by
  cases hf : findL n l with
  | none => have := List.find?_eq_none.1 hf m hm; simp [e] at this
  | some y =>
    have hy := List.mem_of_find?_eq_some hf
    have hyn : y.node = n := by simpa using List.find?_some hf
    rw [node_inj hnd hy hm (hyn.trans e.symm)]
/-- What the places of a node hold. -/
theorem place_of (hL : L = l.map masOf) (hnd : (l.map M.node).Nodup) {m : M} (hm : m ∈ l) {j : Nat} {x : Mas} (hj : L[j]? = some x) (e : x.node = m.node) : l[j]? = some m := by
  rw [hL, List.getElem?_map] at hj
  cases hy : l[j]? with
  | none => rw [hy] at hj; cases hj
  | some y =>
    rw [hy] at hj
    injection hj with hj
    subst hj
    rw [node_inj hnd (List.mem_of_getElem? hy) hm e]
theorem c40F (hL : L = l.map masOf) (hnd : (l.map M.node).Nodup) (hlen : L.length ≤ 8) {m : M} (hm : m ∈ l) (P R : Heap) (h : ∀ j : Nat, l[j]? = some m → K (.int .i64 (j : Int)) (P ++ (rM d r1 r2 r3 r4 L.length c N slot lost L l ++ R))) :
    SCalls Try.prog 40 [.pointer (some ⟨d, 0, none⟩), .int .i64 m.node] (P ++ (rM d r1 r2 r3 r4 L.length c N slot lost L l ++ R)) K := by
  refine SCalls.under P (SCalls.front R (c40 rfl hlen m.node (fun hno => ?_) (fun j x hj he _ => h j (place_of hL hnd hm hj he))))
  exact absurd rfl (hno (masOf m) (by rw [hL]; exact List.mem_map_of_mem hm))
theorem c40N (hL : L = l.map masOf) (hlen : L.length ≤ 8) {n : Int} (hf : findL n l = none) (P R : Heap) (h : K (.int .i64 (-1)) (P ++ (rM d r1 r2 r3 r4 L.length c N slot lost L l ++ R))) :
    SCalls Try.prog 40 [.pointer (some ⟨d, 0, none⟩), .int .i64 n] (P ++ (rM d r1 r2 r3 r4 L.length c N slot lost L l ++ R)) K := by
  refine SCalls.under P (SCalls.front R (c40 rfl hlen n (fun _ => h) (fun j x hj he _ => ?_)))
  have hx := List.mem_of_getElem? hj
  rw [hL] at hx
  obtain ⟨m, hm, rfl⟩ := List.mem_map.1 hx
  have := List.find?_eq_none.1 hf m hm
  exact absurd he (by simpa using this : ¬ m.node = n)
theorem c14A (P A : Heap) (hn : Net a cap Bh ms l) (n : Int) {x : Int} {y : Bool} (e : knowsM l n = (x, y)) (h : K (.tuple ⟨[.int .i64 x, .bool y]⟩) (P ++ (A ++ netH g a cap Bh slot lost ms))) :
    SCalls Try.prog 14 [.pointer (some ⟨g, 0, none⟩), .int .i64 n] (P ++ (A ++ netH g a cap Bh slot lost ms)) K :=
  SCalls.under P (SCalls.under A (c14N hn n (by rw [e]; exact h)))
theorem c15A (P A : Heap) (hn : Net a cap Bh ms l) (n : Int) {x : Int} {y : Bool} (e : leftM l n = (x, y)) (h : K (.tuple ⟨[.int .u64 x, .bool y]⟩) (P ++ (A ++ netH g a cap Bh slot lost ms))) :
    SCalls Try.prog 15 [.pointer (some ⟨g, 0, none⟩), .int .i64 n] (P ++ (A ++ netH g a cap Bh slot lost ms)) K :=
  SCalls.under P (SCalls.under A (c15N hn n (by rw [e]; exact h)))
def I26 (g d q : Nat) (t : Option Int) (H0 : Heap) (S : List Value) (H : Heap) : Prop :=
  ∃ k : Nat, k ≤ 129 ∧ S26 (.pointer (some ⟨g, 0, none⟩)) (.pointer (some ⟨d, 0, none⟩)) (actV q t) (.int .i64 (k : Int)) S ∧ H = H0
theorem l26 (hn : Net a cap Bh ms l) (hL : L = l.map masOf) (hc : ∀ m ∈ l, Canon m) (h1 : ∀ m ∈ l, ∀ m' ∈ l, m.is = 2 → m'.is = 2 → m.node = m'.node) (ht : t = (leadL l).map M.node) (S : List Value)
    (hS : S26 (.pointer (some ⟨g, 0, none⟩)) (.pointer (some ⟨d, 0, none⟩)) (actV q t) (.int .i64 0) S)
    (hQ : ∀ S v, S26 (.pointer (some ⟨g, 0, none⟩)) (.pointer (some ⟨d, 0, none⟩)) (actV q t) v S → Q (.exit 0) S (actH q t ++ (rM d r1 r2 r3 r4 L.length c N slot lost L l ++ netH g a cap Bh slot lost ms))) :
    SLoop Try.prog X26_l0 Q S (actH q t ++ (rM d r1 r2 r3 r4 L.length c N slot lost L l ++ netH g a cap Bh slot lost ms)) := by
  refine SLoop.inv (I26 g d q t (actH q t ++ (rM d r1 r2 r3 r4 L.length c N slot lost L l ++ netH g a cap Bh slot lost ms))) (MM 6 129) (Keep.all ⟨0, by omega, hS, rfl⟩) ?_
  clear hS S
  rintro S H ⟨k, hk, hS, rfl⟩ R hR
  have hlen : L.length ≤ 8 := by rw [hL, List.length_map]; exact hn.ok.len
  have hnd := hn.ok.nd
  cases hS
  by_cases hlt : k < 129
  · have fin : ∀ S : List Value, S26 (.pointer (some ⟨g, 0, none⟩)) (.pointer (some ⟨d, 0, none⟩)) (actV q t) (.int .i64 ((k + 1 : Nat) : Int)) S → atN S 6 = k + 1 → R S (actH q t ++ (rM d r1 r2 r3 r4 L.length c N slot lost L l ++ netH g a cap Bh slot lost ms)) := by
      rintro S e2 e3
      refine hR _ _ (Keep.all ⟨⟨k + 1, by omega, e2, rfl⟩, ?_⟩)
      unfold MM
      rw [e3]
      show 129 - (k + 1) < 129 - Int.toNat (k : Int)
      omega
    cases hf : findL (k : Int) l with
    | none =>
      have e14 : knowsM l (k : Int) = (0, false) := by unfold knowsM; rw [hf]
      have e15 : leftM l (k : Int) = (0, false) := by unfold leftM; rw [hf]
      repeat' ((conv => whnf); (first
          | refine c14A (actH q t) (rM d r1 r2 r3 r4 L.length c N slot lost L l) hn k e14 ?_
          | refine c15A (actH q t) (rM d r1 r2 r3 r4 L.length c N slot lost L l) hn k e15 ?_
          | refine c40N hL hlen hf (actH q t) _ ?_
          | refine New.mk (fun _ => ?_)
          | refine Look.at0 ?_
          | refine Cell.row ?_
          | refine Cell.buf ?_
          | refine Cells.row rfl ?_
          | refine Put.row rfl ?_
          | refine Put.buf rfl ?_
          | refine Look.at1 ?_
          | refine Look.at2 ?_
          | refine Look.at3 ?_
          | refine Look.at4 ?_
          | refine Look.at5 ?_
          | refine Look.at6 ?_
          | refine Look.at7 ?_
          | refine Look.at8 ?_
          | with_reducible refine Val.i64 (by omega) (by omega) ?_
          | with_reducible refine Val.u8 (by omega) (by omega) ?_
          | with_reducible refine Val.u32 (by omega) (by omega) ?_
          | with_reducible refine Val.u64 (by omega) (by omega) ?_
          | with_reducible refine Val.u8m ?_
          | with_reducible refine Val.u32m ?_
          | with_reducible refine Val.u64m ?_
          | with_reducible refine Val.shr8 ?_
          | with_reducible refine Val.shr16 (by decide) ?_
          | with_reducible refine Val.shr24 (by decide) ?_
          | with_reducible refine Val.raw ?_
          | refine Branch.not ?_
          | refine Branch.and ?_
          | refine Branch.or ?_
          | refine Branch.dt (by assumption) ?_
          | refine Branch.df (by assumption) ?_
          | refine Branch.dt rfl ?_
          | refine Branch.dt (by omega) ?_
          | refine Branch.df (by omega) ?_
          | refine Branch.t rfl ?_
          | refine Branch.f rfl ?_
          | refine Branch.t (by assumption) ?_
          | refine Branch.f (by assumption) ?_
          | refine Branch.d (fun _ => ?_) (fun _ => ?_)
          | refine Branch.mk (fun _ => ?_) (fun _ => ?_)
          | refine Need.mk (by first | omega | decide | rfl) ?_
          | refine Idx.nat (by omega) ?_
          | refine Idx.auto (by first | omega | decide) (by first | omega | decide) ?_
          | refine Cell.ro rfl ?_
          | refine SDraw.all (by kernel_rfl) ?_
          | refine Kept.k0 ?_
          | refine Kept.k1 ?_
          | refine Kept.k2 ?_
          | refine Kept.k3 ?_
          | refine Kept.k4 ?_))
      all_goals (conv => whnf)
      all_goals exact fin _ .mk rfl
    | some m =>
      have hm := List.mem_of_find?_eq_some hf
      have hmn : m.node = (k : Int) := by simpa using List.find?_some hf
      have hcm := hc m hm
      have hm4 : m.is = 0 ∨ m.is = 1 ∨ m.is = 2 ∨ m.is = 3 := by have := hcm.r; omega
      have h40 := fun (K' : Value → Heap → Prop) h => c40F (K := K') (d := d) (r1 := r1) (r2 := r2) (r3 := r3) (r4 := r4) (c := c) (N := N) (slot := slot) (lost := lost) hL hnd hlen hm (actH q t) (netH g a cap Bh slot lost ms) h
      rw [hmn] at h40
      have hl2 : m.is = 2 → leadL l = some m := fun h => by
        cases hld : leadL l with
        | none => have := List.find?_eq_none.1 hld m hm; simp [h] at this
        | some y =>
          have hy := List.mem_of_find?_eq_some hld
          have hy2 : y.is = 2 := by simpa using List.find?_some hld
          rw [node_inj hnd hy hm (h1 y hy m hm hy2 h)]
      have hl3 : ¬ m.is = 2 → ∀ n, t = some n → ¬ n = (k : Int) := fun h n hn' e => by
        rw [ht] at hn'
        cases hld : leadL l with
        | none => rw [hld] at hn'; cases hn'
        | some y =>
          rw [hld] at hn'
          injection hn' with hn'
          have hy := List.mem_of_find?_eq_some hld
          have hy2 : y.is = 2 := by simpa using List.find?_some hld
          have := node_inj hnd hy hm (hn'.trans (e.trans hmn.symm))
          subst this; exact h hy2
      have fI : ∀ j : Nat, l[j]? = some m → (l.map M.is)[j]? = some m.is := fun j h => by rw [List.getElem?_map, h]; rfl
      have fT : ∀ j : Nat, l[j]? = some m → (l.map tOf)[j]? = some (tOf m) := fun j h => by rw [List.getElem?_map, h]; rfl
      have fO : ∀ j : Nat, l[j]? = some m → (l.map M.of_)[j]? = some m.of_ := fun j h => by rw [List.getElem?_map, h]; rfl
      have hkl : ∀ j : Nat, l[j]? = some m → j < L.length := fun j h => by rw [hL, List.length_map]; exact (List.getElem?_eq_some_iff.1 h).1
      rcases hm4 with h | h | h | h
      · have e14 : knowsM l (k : Int) = (0, false) := by unfold knowsM; rw [hf]; simp [h, (hcm.a0 h).2.2]
        have e15 : leftM l (k : Int) = (0, false) := by unfold leftM; rw [hf]; simp [h]
        have et : tOf m = m.left := tOf_n (by omega)
        rw [h] at fI
        rw [et] at fT
        have hl3 := hl3 (by omega)
        cases t with
        | none =>
          repeat' ((conv => whnf); (first
              | refine c14A (actH q none) (rM d r1 r2 r3 r4 L.length c N slot lost L l) hn k e14 ?_
              | refine c15A (actH q none) (rM d r1 r2 r3 r4 L.length c N slot lost L l) hn k e15 ?_
              | (refine h40 _ (fun j hj => ?_); have hjl := hkl j hj)
              | refine Cell.nthI (fI j hj) ?_
              | refine Cell.nthI (fT j hj) ?_
              | refine Cell.nthI (fO j hj) ?_
              | refine New.mk (fun _ => ?_)
              | refine Look.at0 ?_
              | refine Cell.row ?_
              | refine Cell.buf ?_
              | refine Cells.row rfl ?_
              | refine Put.row rfl ?_
              | refine Put.buf rfl ?_
              | refine Look.at1 ?_
              | refine Look.at2 ?_
              | refine Look.at3 ?_
              | refine Look.at4 ?_
              | refine Look.at5 ?_
              | refine Look.at6 ?_
              | refine Look.at7 ?_
              | refine Look.at8 ?_
              | with_reducible refine Val.i64 (by omega) (by omega) ?_
              | with_reducible refine Val.u8 (by omega) (by omega) ?_
              | with_reducible refine Val.u32 (by omega) (by omega) ?_
              | with_reducible refine Val.u64 (by omega) (by omega) ?_
              | with_reducible refine Val.u8m ?_
              | with_reducible refine Val.u32m ?_
              | with_reducible refine Val.u64m ?_
              | with_reducible refine Val.shr8 ?_
              | with_reducible refine Val.shr16 (by decide) ?_
              | with_reducible refine Val.shr24 (by decide) ?_
              | with_reducible refine Val.raw ?_
              | refine Branch.not ?_
              | refine Branch.and ?_
              | refine Branch.or ?_
              | refine Branch.dt (by assumption) ?_
              | refine Branch.df (by assumption) ?_
              | refine Branch.dt rfl ?_
              | refine Branch.dt (by omega) ?_
              | refine Branch.df (by omega) ?_
              | refine Branch.t rfl ?_
              | refine Branch.f rfl ?_
              | refine Branch.t (by assumption) ?_
              | refine Branch.f (by assumption) ?_
              | refine Branch.d (fun _ => ?_) (fun _ => ?_)
              | refine Branch.mk (fun _ => ?_) (fun _ => ?_)
              | refine Need.mk (by first | omega | decide | rfl) ?_
              | refine Idx.nat (by omega) ?_
              | refine Idx.auto (by first | omega | decide) (by first | omega | decide) ?_
              | refine Cell.ro rfl ?_
              | refine SDraw.all (by kernel_rfl) ?_
              | refine Kept.k0 ?_
              | refine Kept.k1 ?_
              | refine Kept.k2 ?_
              | refine Kept.k3 ?_
              | refine Kept.k4 ?_))
          all_goals (conv => whnf)
          all_goals exact fin _ .mk rfl
        | some n =>
          have hd : decide (n = (k : Int)) = false := decide_eq_false (hl3 n rfl)
          repeat' ((conv => whnf); (first
              | refine c14A (actH q (some n)) (rM d r1 r2 r3 r4 L.length c N slot lost L l) hn k e14 ?_
              | refine c15A (actH q (some n)) (rM d r1 r2 r3 r4 L.length c N slot lost L l) hn k e15 ?_
              | (refine h40 _ (fun j hj => ?_); have hjl := hkl j hj)
              | refine Cell.nthI (fI j hj) ?_
              | refine Cell.nthI (fT j hj) ?_
              | refine Cell.nthI (fO j hj) ?_
              | refine Branch.dt (hd.trans rfl) ?_
              | refine Branch.f hd ?_
              | refine New.mk (fun _ => ?_)
              | refine Look.at0 ?_
              | refine Cell.row ?_
              | refine Cell.buf ?_
              | refine Cells.row rfl ?_
              | refine Put.row rfl ?_
              | refine Put.buf rfl ?_
              | refine Look.at1 ?_
              | refine Look.at2 ?_
              | refine Look.at3 ?_
              | refine Look.at4 ?_
              | refine Look.at5 ?_
              | refine Look.at6 ?_
              | refine Look.at7 ?_
              | refine Look.at8 ?_
              | with_reducible refine Val.i64 (by omega) (by omega) ?_
              | with_reducible refine Val.u8 (by omega) (by omega) ?_
              | with_reducible refine Val.u32 (by omega) (by omega) ?_
              | with_reducible refine Val.u64 (by omega) (by omega) ?_
              | with_reducible refine Val.u8m ?_
              | with_reducible refine Val.u32m ?_
              | with_reducible refine Val.u64m ?_
              | with_reducible refine Val.shr8 ?_
              | with_reducible refine Val.shr16 (by decide) ?_
              | with_reducible refine Val.shr24 (by decide) ?_
              | with_reducible refine Val.raw ?_
              | refine Branch.not ?_
              | refine Branch.and ?_
              | refine Branch.or ?_
              | refine Branch.dt (by assumption) ?_
              | refine Branch.df (by assumption) ?_
              | refine Branch.dt rfl ?_
              | refine Branch.dt (by omega) ?_
              | refine Branch.df (by omega) ?_
              | refine Branch.t rfl ?_
              | refine Branch.f rfl ?_
              | refine Branch.t (by assumption) ?_
              | refine Branch.f (by assumption) ?_
              | refine Branch.d (fun _ => ?_) (fun _ => ?_)
              | refine Branch.mk (fun _ => ?_) (fun _ => ?_)
              | refine Need.mk (by first | omega | decide | rfl) ?_
              | refine Idx.nat (by omega) ?_
              | refine Idx.auto (by first | omega | decide) (by first | omega | decide) ?_
              | refine Cell.ro rfl ?_
              | refine SDraw.all (by kernel_rfl) ?_
              | refine Kept.k0 ?_
              | refine Kept.k1 ?_
              | refine Kept.k2 ?_
              | refine Kept.k3 ?_
              | refine Kept.k4 ?_))
          all_goals (conv => whnf)
          all_goals first
            | exact fin _ .mk rfl
            | trace_state
      · have e14 : knowsM l (k : Int) = (0, false) := by unfold knowsM; rw [hf]; simp [h, (hcm.a1 h).2]
        have e15 : leftM l (k : Int) = (m.left, true) := by unfold leftM; rw [hf]; simp [h]
        have et : tOf m = m.left := tOf_n (by omega)
        rw [h] at fI
        rw [et] at fT
        have hl3 := hl3 (by omega)
        cases t with
        | none =>
          repeat' ((conv => whnf); (first
              | refine c14A (actH q none) (rM d r1 r2 r3 r4 L.length c N slot lost L l) hn k e14 ?_
              | refine c15A (actH q none) (rM d r1 r2 r3 r4 L.length c N slot lost L l) hn k e15 ?_
              | (refine h40 _ (fun j hj => ?_); have hjl := hkl j hj)
              | refine Cell.nthI (fI j hj) ?_
              | refine Cell.nthI (fT j hj) ?_
              | refine Cell.nthI (fO j hj) ?_
              | refine New.mk (fun _ => ?_)
              | refine Look.at0 ?_
              | refine Cell.row ?_
              | refine Cell.buf ?_
              | refine Cells.row rfl ?_
              | refine Put.row rfl ?_
              | refine Put.buf rfl ?_
              | refine Look.at1 ?_
              | refine Look.at2 ?_
              | refine Look.at3 ?_
              | refine Look.at4 ?_
              | refine Look.at5 ?_
              | refine Look.at6 ?_
              | refine Look.at7 ?_
              | refine Look.at8 ?_
              | with_reducible refine Val.i64 (by omega) (by omega) ?_
              | with_reducible refine Val.u8 (by omega) (by omega) ?_
              | with_reducible refine Val.u32 (by omega) (by omega) ?_
              | with_reducible refine Val.u64 (by omega) (by omega) ?_
              | with_reducible refine Val.u8m ?_
              | with_reducible refine Val.u32m ?_
              | with_reducible refine Val.u64m ?_
              | with_reducible refine Val.shr8 ?_
              | with_reducible refine Val.shr16 (by decide) ?_
              | with_reducible refine Val.shr24 (by decide) ?_
              | with_reducible refine Val.raw ?_
              | refine Branch.not ?_
              | refine Branch.and ?_
              | refine Branch.or ?_
              | refine Branch.dt (by assumption) ?_
              | refine Branch.df (by assumption) ?_
              | refine Branch.dt rfl ?_
              | refine Branch.dt (by omega) ?_
              | refine Branch.df (by omega) ?_
              | refine Branch.t rfl ?_
              | refine Branch.f rfl ?_
              | refine Branch.t (by assumption) ?_
              | refine Branch.f (by assumption) ?_
              | refine Branch.d (fun _ => ?_) (fun _ => ?_)
              | refine Branch.mk (fun _ => ?_) (fun _ => ?_)
              | refine Need.mk (by first | omega | decide | rfl) ?_
              | refine Idx.nat (by omega) ?_
              | refine Idx.auto (by first | omega | decide) (by first | omega | decide) ?_
              | refine Cell.ro rfl ?_
              | refine SDraw.all (by kernel_rfl) ?_
              | refine Kept.k0 ?_
              | refine Kept.k1 ?_
              | refine Kept.k2 ?_
              | refine Kept.k3 ?_
              | refine Kept.k4 ?_))
          all_goals (conv => whnf)
          all_goals exact fin _ .mk rfl
        | some n =>
          have hd : decide (n = (k : Int)) = false := decide_eq_false (hl3 n rfl)
          repeat' ((conv => whnf); (first
              | refine c14A (actH q (some n)) (rM d r1 r2 r3 r4 L.length c N slot lost L l) hn k e14 ?_
              | refine c15A (actH q (some n)) (rM d r1 r2 r3 r4 L.length c N slot lost L l) hn k e15 ?_
              | (refine h40 _ (fun j hj => ?_); have hjl := hkl j hj)
              | refine Cell.nthI (fI j hj) ?_
              | refine Cell.nthI (fT j hj) ?_
              | refine Cell.nthI (fO j hj) ?_
              | refine Branch.dt (hd.trans rfl) ?_
              | refine Branch.f hd ?_
              | refine New.mk (fun _ => ?_)
              | refine Look.at0 ?_
              | refine Cell.row ?_
              | refine Cell.buf ?_
              | refine Cells.row rfl ?_
              | refine Put.row rfl ?_
              | refine Put.buf rfl ?_
              | refine Look.at1 ?_
              | refine Look.at2 ?_
              | refine Look.at3 ?_
              | refine Look.at4 ?_
              | refine Look.at5 ?_
              | refine Look.at6 ?_
              | refine Look.at7 ?_
              | refine Look.at8 ?_
              | with_reducible refine Val.i64 (by omega) (by omega) ?_
              | with_reducible refine Val.u8 (by omega) (by omega) ?_
              | with_reducible refine Val.u32 (by omega) (by omega) ?_
              | with_reducible refine Val.u64 (by omega) (by omega) ?_
              | with_reducible refine Val.u8m ?_
              | with_reducible refine Val.u32m ?_
              | with_reducible refine Val.u64m ?_
              | with_reducible refine Val.shr8 ?_
              | with_reducible refine Val.shr16 (by decide) ?_
              | with_reducible refine Val.shr24 (by decide) ?_
              | with_reducible refine Val.raw ?_
              | refine Branch.not ?_
              | refine Branch.and ?_
              | refine Branch.or ?_
              | refine Branch.dt (by assumption) ?_
              | refine Branch.df (by assumption) ?_
              | refine Branch.dt rfl ?_
              | refine Branch.dt (by omega) ?_
              | refine Branch.df (by omega) ?_
              | refine Branch.t rfl ?_
              | refine Branch.f rfl ?_
              | refine Branch.t (by assumption) ?_
              | refine Branch.f (by assumption) ?_
              | refine Branch.d (fun _ => ?_) (fun _ => ?_)
              | refine Branch.mk (fun _ => ?_) (fun _ => ?_)
              | refine Need.mk (by first | omega | decide | rfl) ?_
              | refine Idx.nat (by omega) ?_
              | refine Idx.auto (by first | omega | decide) (by first | omega | decide) ?_
              | refine Cell.ro rfl ?_
              | refine SDraw.all (by kernel_rfl) ?_
              | refine Kept.k0 ?_
              | refine Kept.k1 ?_
              | refine Kept.k2 ?_
              | refine Kept.k3 ?_
              | refine Kept.k4 ?_))
          all_goals (conv => whnf)
          all_goals first
            | exact fin _ .mk rfl
            | trace_state
      · have e14 : knowsM l (k : Int) = ((k : Int), true) := by unfold knowsM; rw [hf]; simp [h]
        have e15 : leftM l (k : Int) = (0, false) := by unfold leftM; rw [hf]; simp [h]
        have et : tOf m = m.left := tOf_n (by omega)
        rw [h] at fI
        rw [et] at fT
        have hld := hl2 h
        rw [hld] at ht
        subst ht
        have hd : decide (m.node = (k : Int)) = true := decide_eq_true hmn
        show xc _ _ _ _ _
        repeat' ((conv => whnf); (first
            | refine c14A (actH q (some m.node)) (rM d r1 r2 r3 r4 L.length c N slot lost L l) hn k e14 ?_
            | refine c15A (actH q (some m.node)) (rM d r1 r2 r3 r4 L.length c N slot lost L l) hn k e15 ?_
            | (refine h40 _ (fun j hj => ?_); have hjl := hkl j hj)
            | refine Cell.nthI (fI j hj) ?_
            | refine Cell.nthI (fT j hj) ?_
            | refine Cell.nthI (fO j hj) ?_
            | refine Branch.dt (hd.trans rfl) ?_
            | refine Branch.t hd ?_
            | refine New.mk (fun _ => ?_)
            | refine Look.at0 ?_
            | refine Cell.row ?_
            | refine Cell.buf ?_
            | refine Cells.row rfl ?_
            | refine Put.row rfl ?_
            | refine Put.buf rfl ?_
            | refine Look.at1 ?_
            | refine Look.at2 ?_
            | refine Look.at3 ?_
            | refine Look.at4 ?_
            | refine Look.at5 ?_
            | refine Look.at6 ?_
            | refine Look.at7 ?_
            | refine Look.at8 ?_
            | with_reducible refine Val.i64 (by omega) (by omega) ?_
            | with_reducible refine Val.u8 (by omega) (by omega) ?_
            | with_reducible refine Val.u32 (by omega) (by omega) ?_
            | with_reducible refine Val.u64 (by omega) (by omega) ?_
            | with_reducible refine Val.u8m ?_
            | with_reducible refine Val.u32m ?_
            | with_reducible refine Val.u64m ?_
            | with_reducible refine Val.shr8 ?_
            | with_reducible refine Val.shr16 (by decide) ?_
            | with_reducible refine Val.shr24 (by decide) ?_
            | with_reducible refine Val.raw ?_
            | refine Branch.not ?_
            | refine Branch.and ?_
            | refine Branch.or ?_
            | refine Branch.dt (by assumption) ?_
            | refine Branch.df (by assumption) ?_
            | refine Branch.dt rfl ?_
            | refine Branch.dt (by omega) ?_
            | refine Branch.df (by omega) ?_
            | refine Branch.t rfl ?_
            | refine Branch.f rfl ?_
            | refine Branch.t (by assumption) ?_
            | refine Branch.f (by assumption) ?_
            | refine Branch.d (fun _ => ?_) (fun _ => ?_)
            | refine Branch.mk (fun _ => ?_) (fun _ => ?_)
            | refine Need.mk (by first | omega | decide | rfl) ?_
            | refine Idx.nat (by omega) ?_
            | refine Idx.auto (by first | omega | decide) (by first | omega | decide) ?_
            | refine Cell.ro rfl ?_
            | refine SDraw.all (by kernel_rfl) ?_
            | refine Kept.k0 ?_
            | refine Kept.k1 ?_
            | refine Kept.k2 ?_
            | refine Kept.k3 ?_
            | refine Kept.k4 ?_))
        all_goals (conv => whnf)
        all_goals first
          | exact fin _ .mk rfl
          | trace_state
      · have e14 : knowsM l (k : Int) = (m.of_, true) := by unfold knowsM; rw [hf]; simp [h]
        have e15 : leftM l (k : Int) = (0, false) := by unfold leftM; rw [hf]; simp [h]
        have et : tOf m = m.mute := tOf_3 h
        rw [h] at fI
        rw [et] at fT
        have hl3 := hl3 (by omega)
        cases t with
        | none =>
          repeat' ((conv => whnf); (first
              | refine c14A (actH q none) (rM d r1 r2 r3 r4 L.length c N slot lost L l) hn k e14 ?_
              | refine c15A (actH q none) (rM d r1 r2 r3 r4 L.length c N slot lost L l) hn k e15 ?_
              | (refine h40 _ (fun j hj => ?_); have hjl := hkl j hj)
              | refine Cell.nthI (fI j hj) ?_
              | refine Cell.nthI (fT j hj) ?_
              | refine Cell.nthI (fO j hj) ?_
              | refine New.mk (fun _ => ?_)
              | refine Look.at0 ?_
              | refine Cell.row ?_
              | refine Cell.buf ?_
              | refine Cells.row rfl ?_
              | refine Put.row rfl ?_
              | refine Put.buf rfl ?_
              | refine Look.at1 ?_
              | refine Look.at2 ?_
              | refine Look.at3 ?_
              | refine Look.at4 ?_
              | refine Look.at5 ?_
              | refine Look.at6 ?_
              | refine Look.at7 ?_
              | refine Look.at8 ?_
              | with_reducible refine Val.i64 (by omega) (by omega) ?_
              | with_reducible refine Val.u8 (by omega) (by omega) ?_
              | with_reducible refine Val.u32 (by omega) (by omega) ?_
              | with_reducible refine Val.u64 (by omega) (by omega) ?_
              | with_reducible refine Val.u8m ?_
              | with_reducible refine Val.u32m ?_
              | with_reducible refine Val.u64m ?_
              | with_reducible refine Val.shr8 ?_
              | with_reducible refine Val.shr16 (by decide) ?_
              | with_reducible refine Val.shr24 (by decide) ?_
              | with_reducible refine Val.raw ?_
              | refine Branch.not ?_
              | refine Branch.and ?_
              | refine Branch.or ?_
              | refine Branch.dt (by assumption) ?_
              | refine Branch.df (by assumption) ?_
              | refine Branch.dt rfl ?_
              | refine Branch.dt (by omega) ?_
              | refine Branch.df (by omega) ?_
              | refine Branch.t rfl ?_
              | refine Branch.f rfl ?_
              | refine Branch.t (by assumption) ?_
              | refine Branch.f (by assumption) ?_
              | refine Branch.d (fun _ => ?_) (fun _ => ?_)
              | refine Branch.mk (fun _ => ?_) (fun _ => ?_)
              | refine Need.mk (by first | omega | decide | rfl) ?_
              | refine Idx.nat (by omega) ?_
              | refine Idx.auto (by first | omega | decide) (by first | omega | decide) ?_
              | refine Cell.ro rfl ?_
              | refine SDraw.all (by kernel_rfl) ?_
              | refine Kept.k0 ?_
              | refine Kept.k1 ?_
              | refine Kept.k2 ?_
              | refine Kept.k3 ?_
              | refine Kept.k4 ?_))
          all_goals (conv => whnf)
          all_goals exact fin _ .mk rfl
        | some n =>
          have hd : decide (n = (k : Int)) = false := decide_eq_false (hl3 n rfl)
          repeat' ((conv => whnf); (first
              | refine c14A (actH q (some n)) (rM d r1 r2 r3 r4 L.length c N slot lost L l) hn k e14 ?_
              | refine c15A (actH q (some n)) (rM d r1 r2 r3 r4 L.length c N slot lost L l) hn k e15 ?_
              | (refine h40 _ (fun j hj => ?_); have hjl := hkl j hj)
              | refine Cell.nthI (fI j hj) ?_
              | refine Cell.nthI (fT j hj) ?_
              | refine Cell.nthI (fO j hj) ?_
              | refine Branch.dt (hd.trans rfl) ?_
              | refine Branch.f hd ?_
              | refine New.mk (fun _ => ?_)
              | refine Look.at0 ?_
              | refine Cell.row ?_
              | refine Cell.buf ?_
              | refine Cells.row rfl ?_
              | refine Put.row rfl ?_
              | refine Put.buf rfl ?_
              | refine Look.at1 ?_
              | refine Look.at2 ?_
              | refine Look.at3 ?_
              | refine Look.at4 ?_
              | refine Look.at5 ?_
              | refine Look.at6 ?_
              | refine Look.at7 ?_
              | refine Look.at8 ?_
              | with_reducible refine Val.i64 (by omega) (by omega) ?_
              | with_reducible refine Val.u8 (by omega) (by omega) ?_
              | with_reducible refine Val.u32 (by omega) (by omega) ?_
              | with_reducible refine Val.u64 (by omega) (by omega) ?_
              | with_reducible refine Val.u8m ?_
              | with_reducible refine Val.u32m ?_
              | with_reducible refine Val.u64m ?_
              | with_reducible refine Val.shr8 ?_
              | with_reducible refine Val.shr16 (by decide) ?_
              | with_reducible refine Val.shr24 (by decide) ?_
              | with_reducible refine Val.raw ?_
              | refine Branch.not ?_
              | refine Branch.and ?_
              | refine Branch.or ?_
              | refine Branch.dt (by assumption) ?_
              | refine Branch.df (by assumption) ?_
              | refine Branch.dt rfl ?_
              | refine Branch.dt (by omega) ?_
              | refine Branch.df (by omega) ?_
              | refine Branch.t rfl ?_
              | refine Branch.f rfl ?_
              | refine Branch.t (by assumption) ?_
              | refine Branch.f (by assumption) ?_
              | refine Branch.d (fun _ => ?_) (fun _ => ?_)
              | refine Branch.mk (fun _ => ?_) (fun _ => ?_)
              | refine Need.mk (by first | omega | decide | rfl) ?_
              | refine Idx.nat (by omega) ?_
              | refine Idx.auto (by first | omega | decide) (by first | omega | decide) ?_
              | refine Cell.ro rfl ?_
              | refine SDraw.all (by kernel_rfl) ?_
              | refine Kept.k0 ?_
              | refine Kept.k1 ?_
              | refine Kept.k2 ?_
              | refine Kept.k3 ?_
              | refine Kept.k4 ?_))
          all_goals (conv => whnf)
          all_goals first
            | exact fin _ .mk rfl
            | trace_state
  · have e : k = 129 := by omega
    subst e
    repeat' ((conv => whnf); (first
        | refine New.mk (fun _ => ?_)
        | refine Look.at0 ?_
        | refine Cell.row ?_
        | refine Cell.buf ?_
        | refine Cells.row rfl ?_
        | refine Put.row rfl ?_
        | refine Put.buf rfl ?_
        | refine Look.at1 ?_
        | refine Look.at2 ?_
        | refine Look.at3 ?_
        | refine Look.at4 ?_
        | refine Look.at5 ?_
        | refine Look.at6 ?_
        | refine Look.at7 ?_
        | refine Look.at8 ?_
        | with_reducible refine Val.i64 (by omega) (by omega) ?_
        | with_reducible refine Val.u8 (by omega) (by omega) ?_
        | with_reducible refine Val.u32 (by omega) (by omega) ?_
        | with_reducible refine Val.u64 (by omega) (by omega) ?_
        | with_reducible refine Val.u8m ?_
        | with_reducible refine Val.u32m ?_
        | with_reducible refine Val.u64m ?_
        | with_reducible refine Val.shr8 ?_
        | with_reducible refine Val.shr16 (by decide) ?_
        | with_reducible refine Val.shr24 (by decide) ?_
        | with_reducible refine Val.raw ?_
        | refine Branch.not ?_
        | refine Branch.and ?_
        | refine Branch.or ?_
        | refine Branch.dt (by assumption) ?_
        | refine Branch.df (by assumption) ?_
        | refine Branch.dt rfl ?_
        | refine Branch.dt (by omega) ?_
        | refine Branch.df (by omega) ?_
        | refine Branch.t rfl ?_
        | refine Branch.f rfl ?_
        | refine Branch.t (by assumption) ?_
        | refine Branch.f (by assumption) ?_
        | refine Branch.d (fun _ => ?_) (fun _ => ?_)
        | refine Branch.mk (fun _ => ?_) (fun _ => ?_)
        | refine Need.mk (by first | omega | decide | rfl) ?_
        | refine Idx.nat (by omega) ?_
        | refine Idx.auto (by first | omega | decide) (by first | omega | decide) ?_
        | refine Cell.ro rfl ?_
        | refine SDraw.all (by kernel_rfl) ?_
        | refine Kept.k0 ?_
        | refine Kept.k1 ?_
        | refine Kept.k2 ?_
        | refine Kept.k3 ?_
        | refine Kept.k4 ?_))
    all_goals (conv => whnf)
    exact hQ _ _ .mk
end
end Go.Proofs.Ytmakaofdpoiaaaa
