/- Layer 24: the document's first one, its bound; what is told. -/
import Derived.Test.YtmakaofdpoiaaaaFlY
set_option linter.unusedVariables false
set_option linter.unusedSimpArgs false
set_option maxRecDepth 100000
set_option maxHeartbeats 4000000
namespace Go.Proofs.Ytmakaofdpoiaaaa
open Sx
section
variable {K : Value → Heap → Prop} {slot lost : Int} {L : List Mas} {Q : Post}
theorem c23 {H : Heap} (s lo : Int) (hs : 0 ≤ s ∧ s ≤ 18446744073709551615) (hl : 0 ≤ lo ∧ lo ≤ 18446744073709551615) (h : K (.int .u64 (boundF s lo)) H) : SCalls Try.prog 23 [.int .u64 s, .int .u64 lo] H K := by
  refine SCalls.any (K := fun v N => v = .int .u64 (boundF s lo) ∧ N = []) (enter23 ?_) (by rintro v N ⟨rfl, rfl⟩; exact h)
  unfold boundF
  have e1 : IntKind.u64.wrap (Int.tdiv 18446744073709551615 384) = 48038396025285290 := by rw [wrap_u64]; decide
  repeat' ((conv => whnf); (first
      | with_reducible refine ⟨_, e1, ?_⟩
      | refine New.mk (fun _ => ?_)
      | refine Look.at0 ?_
      | refine Cell.row ?_
      | refine Cell.buf ?_
      | refine Cells.row rfl ?_
      | refine Put.row rfl ?_
      | refine Put.buf rfl ?_
      | refine Look.at1 ?_
      | refine Look.at2 ?_
      | refine Look.at3 ?_
      | refine Look.at4 ?_
      | refine Look.at5 ?_
      | refine Look.at6 ?_
      | refine Look.at7 ?_
      | refine Look.at8 ?_
      | with_reducible refine Val.i64 (by omega) (by omega) ?_
      | with_reducible refine Val.u8 (by omega) (by omega) ?_
      | with_reducible refine Val.u32 (by omega) (by omega) ?_
      | with_reducible refine Val.u64 (by omega) (by omega) ?_
      | with_reducible refine Val.u8m ?_
      | with_reducible refine Val.u32m ?_
      | with_reducible refine Val.u64m ?_
      | with_reducible refine Val.shr8 ?_
      | with_reducible refine Val.shr16 (by decide) ?_
      | with_reducible refine Val.shr24 (by decide) ?_
      | with_reducible refine Val.raw ?_
      | refine Branch.not ?_
      | refine Branch.and ?_
      | refine Branch.or ?_
      | refine Branch.dt (by assumption) ?_
      | refine Branch.df (by assumption) ?_
      | refine Branch.dt rfl ?_
      | refine Branch.dt (by omega) ?_
      | refine Branch.df (by omega) ?_
      | refine Branch.t rfl ?_
      | refine Branch.f rfl ?_
      | refine Branch.t (by assumption) ?_
      | refine Branch.f (by assumption) ?_
      | refine Branch.d (fun _ => ?_) (fun _ => ?_)
      | refine Branch.mk (fun _ => ?_) (fun _ => ?_)
      | refine Need.mk (by first | omega | decide | rfl) ?_
      | refine Idx.nat (by omega) ?_
      | refine Idx.auto (by first | omega | decide) (by first | omega | decide) ?_
      | refine Cell.ro rfl ?_
      | refine SDraw.all (by kernel_rfl) ?_
      | refine Kept.k0 ?_
      | refine Kept.k1 ?_
      | refine Kept.k2 ?_
      | refine Kept.k3 ?_
      | refine Kept.k4 ?_))
  all_goals (conv => whnf)
  all_goals first
    | (have hb : 18446744073709551615 < 384 * s + lo + 2 := by omega
       rw [if_pos hb]
       exact Keep.sub [] (List.nil_sublist _) ⟨rfl, rfl⟩)
    | (have hb : ¬ 18446744073709551615 < 384 * s + lo + 2 := by omega
       rw [if_neg hb]
       exact Keep.sub [] (List.nil_sublist _) ⟨rfl, rfl⟩)
    | trace_state
theorem c19 (q c : Nat) (t : Option Int) (ht : t ≠ some 0) (h : K (.bool true) (toldH q c t)) : SCalls Try.prog 19 [toldV q c t, .int .i64 (t.getD 0)] (toldH q c t) K := by
  refine enter19 ?_
  cases t with
  | none =>
    unfold toldV toldH at *
    repeat' ((conv => whnf); (first
        | refine New.mk (fun _ => ?_)
        | refine Look.at0 ?_
        | refine Cell.row ?_
        | refine Cell.buf ?_
        | refine Cells.row rfl ?_
        | refine Put.row rfl ?_
        | refine Put.buf rfl ?_
        | refine Look.at1 ?_
        | refine Look.at2 ?_
        | refine Look.at3 ?_
        | refine Look.at4 ?_
        | refine Look.at5 ?_
        | refine Look.at6 ?_
        | refine Look.at7 ?_
        | refine Look.at8 ?_
        | with_reducible refine Val.i64 (by omega) (by omega) ?_
        | with_reducible refine Val.u8 (by omega) (by omega) ?_
        | with_reducible refine Val.u32 (by omega) (by omega) ?_
        | with_reducible refine Val.u64 (by omega) (by omega) ?_
        | with_reducible refine Val.u8m ?_
        | with_reducible refine Val.u32m ?_
        | with_reducible refine Val.u64m ?_
        | with_reducible refine Val.shr8 ?_
        | with_reducible refine Val.shr16 (by decide) ?_
        | with_reducible refine Val.shr24 (by decide) ?_
        | with_reducible refine Val.raw ?_
        | refine Branch.not ?_
        | refine Branch.and ?_
        | refine Branch.or ?_
        | refine Branch.dt (by assumption) ?_
        | refine Branch.df (by assumption) ?_
        | refine Branch.dt rfl ?_
        | refine Branch.dt (by omega) ?_
        | refine Branch.df (by omega) ?_
        | refine Branch.t rfl ?_
        | refine Branch.f rfl ?_
        | refine Branch.t (by assumption) ?_
        | refine Branch.f (by assumption) ?_
        | refine Branch.d (fun _ => ?_) (fun _ => ?_)
        | refine Branch.mk (fun _ => ?_) (fun _ => ?_)
        | refine Need.mk (by first | omega | decide | rfl) ?_
        | refine Idx.nat (by omega) ?_
        | refine Idx.auto (by first | omega | decide) (by first | omega | decide) ?_
        | refine Cell.ro rfl ?_
        | refine SDraw.all (by kernel_rfl) ?_
        | refine Kept.k0 ?_
        | refine Kept.k1 ?_
        | refine Kept.k2 ?_
        | refine Kept.k3 ?_
        | refine Kept.k4 ?_))
    all_goals (conv => whnf)
    all_goals exact Keep.all h
  | some n =>
    have hn : ¬ n = 0 := fun e => ht (by rw [e])
    unfold toldV toldH at *
    repeat' ((conv => whnf); (first
        | refine New.mk (fun _ => ?_)
        | refine Look.at0 ?_
        | refine Cell.row ?_
        | refine Cell.buf ?_
        | refine Cells.row rfl ?_
        | refine Put.row rfl ?_
        | refine Put.buf rfl ?_
        | refine Look.at1 ?_
        | refine Look.at2 ?_
        | refine Look.at3 ?_
        | refine Look.at4 ?_
        | refine Look.at5 ?_
        | refine Look.at6 ?_
        | refine Look.at7 ?_
        | refine Look.at8 ?_
        | with_reducible refine Val.i64 (by omega) (by omega) ?_
        | with_reducible refine Val.u8 (by omega) (by omega) ?_
        | with_reducible refine Val.u32 (by omega) (by omega) ?_
        | with_reducible refine Val.u64 (by omega) (by omega) ?_
        | with_reducible refine Val.u8m ?_
        | with_reducible refine Val.u32m ?_
        | with_reducible refine Val.u64m ?_
        | with_reducible refine Val.shr8 ?_
        | with_reducible refine Val.shr16 (by decide) ?_
        | with_reducible refine Val.shr24 (by decide) ?_
        | with_reducible refine Val.raw ?_
        | refine Branch.not ?_
        | refine Branch.and ?_
        | refine Branch.or ?_
        | refine Branch.dt (by assumption) ?_
        | refine Branch.df (by assumption) ?_
        | refine Branch.dt rfl ?_
        | refine Branch.dt (by omega) ?_
        | refine Branch.df (by omega) ?_
        | refine Branch.t rfl ?_
        | refine Branch.f rfl ?_
        | refine Branch.t (by assumption) ?_
        | refine Branch.f (by assumption) ?_
        | refine Branch.d (fun _ => ?_) (fun _ => ?_)
        | refine Branch.mk (fun _ => ?_) (fun _ => ?_)
        | refine Need.mk (by first | omega | decide | rfl) ?_
        | refine Idx.nat (by omega) ?_
        | refine Idx.auto (by first | omega | decide) (by first | omega | decide) ?_
        | refine Cell.ro rfl ?_
        | refine SDraw.all (by kernel_rfl) ?_
        | refine Kept.k0 ?_
        | refine Kept.k1 ?_
        | refine Kept.k2 ?_
        | refine Kept.k3 ?_
        | refine Kept.k4 ?_))
    all_goals (conv => whnf)
    have e : decide (n = (some n).getD 0) = true := decide_eq_true rfl
    rw [e]
    exact Keep.all h
theorem minF_app (b x : Mas) (r : List Mas) : minF b (r ++ [x]) = if ord x.prio x.node (minF b r).prio (minF b r).node < 0 then x else minF b r := by
  unfold minF
  rw [List.foldl_append]; rfl
theorem onF_app (r : List Mas) (x : Mas) : onF (r ++ [x]) = onF r ++ (if x.on then [x] else []) := by
  unfold onF
  rw [List.filter_append]
  cases h : x.on <;> simp [h]
theorem aheadB_ord (x y : Mas) : aheadB x y = decide (ord x.prio x.node y.prio y.node < 0) := ahead_ord ⟨x.node, x.prio, x.on, 0, 0, 0, 0⟩ ⟨y.node, y.prio, y.on, 0, 0, 0, 0⟩
/-- The place of the first one. -/
def Fst (t : Int) (j : Nat) (L : List Mas) : Prop := (t = -1 ∧ firstF (L.take j) = none) ∨ ∃ k x, t = ((k : Nat) : Int) ∧ L[k]? = some x ∧ firstF (L.take j) = some x
theorem first_no {j : Nat} {x : Mas} (hx : L[j]? = some x) (ho : x.on = false) : firstF (L.take (j + 1)) = firstF (L.take j) := by
  obtain ⟨hlt, rfl⟩ := List.getElem?_eq_some_iff.1 hx
  unfold firstF
  rw [List.take_succ_eq_append_getElem hlt, onF_app, ho]
  simp
theorem first_one {j : Nat} {x : Mas} (hx : L[j]? = some x) (ho : x.on = true) (h : firstF (L.take j) = none) : firstF (L.take (j + 1)) = some x := by
  obtain ⟨hlt, rfl⟩ := List.getElem?_eq_some_iff.1 hx
  unfold firstF at *
  rw [List.take_succ_eq_append_getElem hlt, onF_app, ho]
  cases hf : onF (L.take j) with
  | nil => rfl
  | cons y r => rw [hf] at h; cases h
theorem first_two {j : Nat} {x y : Mas} (hx : L[j]? = some x) (ho : x.on = true) (h : firstF (L.take j) = some y) : firstF (L.take (j + 1)) = some (if aheadB x y then x else y) := by
  obtain ⟨hlt, rfl⟩ := List.getElem?_eq_some_iff.1 hx
  unfold firstF at *
  rw [List.take_succ_eq_append_getElem hlt, onF_app, ho]
  cases hf : onF (L.take j) with
  | nil => rw [hf] at h; cases h
  | cons z r =>
    rw [hf] at h
    injection h with h
    show some (minF z (r ++ [L[j]])) = _
    rw [minF_app, h, aheadB_ord]
    simp
theorem Fst.no {t : Int} {j : Nat} {x : Mas} (h : Fst t j L) (hx : L[j]? = some x) (ho : x.on = false) : Fst t (j + 1) L := by
  unfold Fst
  rw [first_no hx ho]; exact h
inductive S22 (A0 A4 A5 : Value) : List Value → Prop
  | mk {r1 r2 r3 r6 r7 r8 r9 r10 r11 r12 r13 r14 r15 r16 r17 r18 r19 r20 r21 r22 r23 r24 r25 r26 r27 r28 r29 r30 r31 r32 r33 r34 r35 r36 r37 r38 r39 : Value} : S22 A0 A4 A5 [A0, r1, r2, r3, A4, A5, r6, r7, r8, r9, r10, r11, r12, r13, r14, r15, r16, r17, r18, r19, r20, r21, r22, r23, r24, r25, r26, r27, r28, r29, r30, r31, r32, r33, r34, r35, r36, r37, r38, r39]
inductive S22e (A0 A4 : Value) : List Value → Prop
  | mk {r1 r2 r3 r5 r6 r7 r8 r9 r10 r11 r12 r13 r14 r15 r16 r17 r18 r19 r20 r21 r22 r23 r24 r25 r26 r27 r28 r29 r30 r31 r32 r33 r34 r35 r36 r37 r38 r39 : Value} : S22e A0 A4 [A0, r1, r2, r3, A4, r5, r6, r7, r8, r9, r10, r11, r12, r13, r14, r15, r16, r17, r18, r19, r20, r21, r22, r23, r24, r25, r26, r27, r28, r29, r30, r31, r32, r33, r34, r35, r36, r37, r38, r39]
def I22 (sv : Value) (L : List Mas) (H0 : Heap) (S : List Value) (H : Heap) : Prop :=
  ∃ (j : Nat) (t : Int), j ≤ L.length ∧ Fst t j L ∧ S22 sv (.int .i64 t) (.int .i64 (j : Int)) S ∧ H = H0
theorem l22 {sv : Value} {H : Heap} (hin : InL sv H L) (hL : L.length ≤ 140737488355328) (S : List Value) (hS : S22 sv (.int .i64 (-1)) (.int .i64 0) S)
    (hQ : ∀ S t v, Fst t L.length L → S22 sv (.int .i64 t) v S → Q (.exit 0) S H) :
    SLoop Try.prog X22_l0 Q S H := by
  obtain ⟨a, c, rfl, hb, hs⟩ := hin
  refine SLoop.inv (I22 _ L H) (MM 5 L.length) (Keep.all ⟨0, -1, by omega, .inl ⟨rfl, rfl⟩, hS, rfl⟩) ?_
  clear hS S
  rintro S H1 ⟨j, t, hj, ht, hS, rfl⟩ R hR
  cases hS
  by_cases hlt : j < L.length
  · obtain ⟨b, o, f, rfl, rfl, hc⟩ := hs (by omega)
    obtain ⟨x, hx⟩ : ∃ x, L[j]? = some x := ⟨_, List.getElem?_eq_getElem hlt⟩
    have f2 : f (o + j * 3 + 2) = some (.bool x.on) := hc j x hx 2 _ rfl
    have hcx : ∀ (i : Nat) v, x.cells[i]? = some v → (Blk.ro f).cell (o + j * 3 + i) = some v := fun i v => hc j x hx i v
    have fin : ∀ (S : List Value) (t : Int), Fst t (j + 1) L → S22 (.slice (some ⟨b, o, none⟩) L.length c) (.int .i64 t) (.int .i64 ((j + 1 : Nat) : Int)) S → atN S 5 = j + 1 → R S [(b, .ro f)] := by
      rintro S t e1 e2 e3
      refine hR _ _ (Keep.all ⟨⟨j + 1, t, by omega, e1, e2, rfl⟩, ?_⟩)
      unfold MM
      rw [e3]
      show L.length - (j + 1) < L.length - Int.toNat (j : Int)
      omega
    rcases ht with ⟨rfl, ht⟩ | ⟨k, y, rfl, hy, ht⟩
    · repeat' ((conv => whnf); (first
          | refine Cell.ro f2 ?_
          | refine New.mk (fun _ => ?_)
          | refine Look.at0 ?_
          | refine Cell.row ?_
          | refine Cell.buf ?_
          | refine Cells.row rfl ?_
          | refine Put.row rfl ?_
          | refine Put.buf rfl ?_
          | refine Look.at1 ?_
          | refine Look.at2 ?_
          | refine Look.at3 ?_
          | refine Look.at4 ?_
          | refine Look.at5 ?_
          | refine Look.at6 ?_
          | refine Look.at7 ?_
          | refine Look.at8 ?_
          | with_reducible refine Val.i64 (by omega) (by omega) ?_
          | with_reducible refine Val.u8 (by omega) (by omega) ?_
          | with_reducible refine Val.u32 (by omega) (by omega) ?_
          | with_reducible refine Val.u64 (by omega) (by omega) ?_
          | with_reducible refine Val.u8m ?_
          | with_reducible refine Val.u32m ?_
          | with_reducible refine Val.u64m ?_
          | with_reducible refine Val.shr8 ?_
          | with_reducible refine Val.shr16 (by decide) ?_
          | with_reducible refine Val.shr24 (by decide) ?_
          | with_reducible refine Val.raw ?_
          | refine Branch.not ?_
          | refine Branch.and ?_
          | refine Branch.or ?_
          | refine Branch.dt (by assumption) ?_
          | refine Branch.df (by assumption) ?_
          | refine Branch.dt rfl ?_
          | refine Branch.dt (by omega) ?_
          | refine Branch.df (by omega) ?_
          | refine Branch.t rfl ?_
          | refine Branch.f rfl ?_
          | refine Branch.t (by assumption) ?_
          | refine Branch.f (by assumption) ?_
          | refine Branch.d (fun _ => ?_) (fun _ => ?_)
          | refine Branch.mk (fun _ => ?_) (fun _ => ?_)
          | refine Need.mk (by first | omega | decide | rfl) ?_
          | refine Idx.nat (by omega) ?_
          | refine Idx.auto (by first | omega | decide) (by first | omega | decide) ?_
          | refine Cell.ro rfl ?_
          | refine SDraw.all (by kernel_rfl) ?_
          | refine Kept.k0 ?_
          | refine Kept.k1 ?_
          | refine Kept.k2 ?_
          | refine Kept.k3 ?_
          | refine Kept.k4 ?_))
      all_goals (conv => whnf)
      all_goals first
        | exact fin _ _ (.inr ⟨j, x, rfl, hx, first_one hx ‹_› ht⟩) .mk rfl
        | exact fin _ _ (Fst.no (.inl ⟨rfl, ht⟩) hx ‹_›) .mk rfl
        | trace_state
    · have hkn := (List.getElem?_eq_some_iff.1 hy).1
      have hcy : ∀ (i : Nat) v, y.cells[i]? = some v → (Blk.ro f).cell (o + k * 3 + i) = some v := fun i v => hc k y hy i v
      have h2 := fun ho => first_two hx ho ht
      repeat' ((conv => whnf); (first
          | refine Cell.ro f2 ?_
          | refine Cells.get x.cells rfl hcx ?_
          | refine Cells.get y.cells rfl hcy ?_
          | refine c39 x y ?_
          | refine New.mk (fun _ => ?_)
          | refine Look.at0 ?_
          | refine Cell.row ?_
          | refine Cell.buf ?_
          | refine Cells.row rfl ?_
          | refine Put.row rfl ?_
          | refine Put.buf rfl ?_
          | refine Look.at1 ?_
          | refine Look.at2 ?_
          | refine Look.at3 ?_
          | refine Look.at4 ?_
          | refine Look.at5 ?_
          | refine Look.at6 ?_
          | refine Look.at7 ?_
          | refine Look.at8 ?_
          | with_reducible refine Val.i64 (by omega) (by omega) ?_
          | with_reducible refine Val.u8 (by omega) (by omega) ?_
          | with_reducible refine Val.u32 (by omega) (by omega) ?_
          | with_reducible refine Val.u64 (by omega) (by omega) ?_
          | with_reducible refine Val.u8m ?_
          | with_reducible refine Val.u32m ?_
          | with_reducible refine Val.u64m ?_
          | with_reducible refine Val.shr8 ?_
          | with_reducible refine Val.shr16 (by decide) ?_
          | with_reducible refine Val.shr24 (by decide) ?_
          | with_reducible refine Val.raw ?_
          | refine Branch.not ?_
          | refine Branch.and ?_
          | refine Branch.or ?_
          | refine Branch.dt (by assumption) ?_
          | refine Branch.df (by assumption) ?_
          | refine Branch.dt rfl ?_
          | refine Branch.dt (by omega) ?_
          | refine Branch.df (by omega) ?_
          | refine Branch.t rfl ?_
          | refine Branch.f rfl ?_
          | refine Branch.t (by assumption) ?_
          | refine Branch.f (by assumption) ?_
          | refine Branch.d (fun _ => ?_) (fun _ => ?_)
          | refine Branch.mk (fun _ => ?_) (fun _ => ?_)
          | refine Need.mk (by first | omega | decide | rfl) ?_
          | refine Idx.nat (by omega) ?_
          | refine Idx.auto (by first | omega | decide) (by first | omega | decide) ?_
          | refine Cell.ro rfl ?_
          | refine SDraw.all (by kernel_rfl) ?_
          | refine Kept.k0 ?_
          | refine Kept.k1 ?_
          | refine Kept.k2 ?_
          | refine Kept.k3 ?_
          | refine Kept.k4 ?_))
      all_goals (conv => whnf)
      all_goals first
        | exact fin _ _ (Fst.no (.inr ⟨k, y, rfl, hy, ht⟩) hx ‹_›) .mk rfl
        | (have e : aheadB x y = true := ahead1 ‹_›
           exact fin _ _ (.inr ⟨j, x, rfl, hx, by rw [h2 ‹_›, e]; rfl⟩) .mk rfl)
        | (have e : aheadB x y = true := ahead2 ‹_› ‹_›
           exact fin _ _ (.inr ⟨j, x, rfl, hx, by rw [h2 ‹_›, e]; rfl⟩) .mk rfl)
        | (have e : aheadB x y = false := ahead3 ‹_› ‹_›
           exact fin _ _ (.inr ⟨k, y, rfl, hy, by rw [h2 ‹_›, e]; rfl⟩) .mk rfl)
        | (have e : aheadB x y = false := ahead4 ‹_› ‹_›
           exact fin _ _ (.inr ⟨k, y, rfl, hy, by rw [h2 ‹_›, e]; rfl⟩) .mk rfl)
        | trace_state
  · have e : j = L.length := by omega
    subst e
    repeat' ((conv => whnf); (first
        | refine New.mk (fun _ => ?_)
        | refine Look.at0 ?_
        | refine Cell.row ?_
        | refine Cell.buf ?_
        | refine Cells.row rfl ?_
        | refine Put.row rfl ?_
        | refine Put.buf rfl ?_
        | refine Look.at1 ?_
        | refine Look.at2 ?_
        | refine Look.at3 ?_
        | refine Look.at4 ?_
        | refine Look.at5 ?_
        | refine Look.at6 ?_
        | refine Look.at7 ?_
        | refine Look.at8 ?_
        | with_reducible refine Val.i64 (by omega) (by omega) ?_
        | with_reducible refine Val.u8 (by omega) (by omega) ?_
        | with_reducible refine Val.u32 (by omega) (by omega) ?_
        | with_reducible refine Val.u64 (by omega) (by omega) ?_
        | with_reducible refine Val.u8m ?_
        | with_reducible refine Val.u32m ?_
        | with_reducible refine Val.u64m ?_
        | with_reducible refine Val.shr8 ?_
        | with_reducible refine Val.shr16 (by decide) ?_
        | with_reducible refine Val.shr24 (by decide) ?_
        | with_reducible refine Val.raw ?_
        | refine Branch.not ?_
        | refine Branch.and ?_
        | refine Branch.or ?_
        | refine Branch.dt (by assumption) ?_
        | refine Branch.df (by assumption) ?_
        | refine Branch.dt rfl ?_
        | refine Branch.dt (by omega) ?_
        | refine Branch.df (by omega) ?_
        | refine Branch.t rfl ?_
        | refine Branch.f rfl ?_
        | refine Branch.t (by assumption) ?_
        | refine Branch.f (by assumption) ?_
        | refine Branch.d (fun _ => ?_) (fun _ => ?_)
        | refine Branch.mk (fun _ => ?_) (fun _ => ?_)
        | refine Need.mk (by first | omega | decide | rfl) ?_
        | refine Idx.nat (by omega) ?_
        | refine Idx.auto (by first | omega | decide) (by first | omega | decide) ?_
        | refine Cell.ro rfl ?_
        | refine SDraw.all (by kernel_rfl) ?_
        | refine Kept.k0 ?_
        | refine Kept.k1 ?_
        | refine Kept.k2 ?_
        | refine Kept.k3 ?_
        | refine Kept.k4 ?_))
    all_goals (conv => whnf)
    exact hQ _ _ _ ht .mk
theorem c22 {sv : Value} {H : Heap} (hin : InL sv H L) (h0 : firstF L = none → K (.tuple ⟨[.int .i64 0, .bool false]⟩) H) (h1 : ∀ x, firstF L = some x → K (.tuple ⟨[.int .i64 x.node, .bool true]⟩) H) :
    SCalls Try.prog 22 [sv] H K := by
  have hin' := hin
  obtain ⟨a, c, rfl, hb, hs⟩ := hin'
  refine enter22 ?_
  repeat' ((conv => whnf); (first
      | refine l22 hin (by omega) _ .mk (fun S t v ht hS => ?_)
      | refine New.mk (fun _ => ?_)
      | refine Look.at0 ?_
      | refine Cell.row ?_
      | refine Cell.buf ?_
      | refine Cells.row rfl ?_
      | refine Put.row rfl ?_
      | refine Put.buf rfl ?_
      | refine Look.at1 ?_
      | refine Look.at2 ?_
      | refine Look.at3 ?_
      | refine Look.at4 ?_
      | refine Look.at5 ?_
      | refine Look.at6 ?_
      | refine Look.at7 ?_
      | refine Look.at8 ?_
      | with_reducible refine Val.i64 (by omega) (by omega) ?_
      | with_reducible refine Val.u8 (by omega) (by omega) ?_
      | with_reducible refine Val.u32 (by omega) (by omega) ?_
      | with_reducible refine Val.u64 (by omega) (by omega) ?_
      | with_reducible refine Val.u8m ?_
      | with_reducible refine Val.u32m ?_
      | with_reducible refine Val.u64m ?_
      | with_reducible refine Val.shr8 ?_
      | with_reducible refine Val.shr16 (by decide) ?_
      | with_reducible refine Val.shr24 (by decide) ?_
      | with_reducible refine Val.raw ?_
      | refine Branch.not ?_
      | refine Branch.and ?_
      | refine Branch.or ?_
      | refine Branch.dt (by assumption) ?_
      | refine Branch.df (by assumption) ?_
      | refine Branch.dt rfl ?_
      | refine Branch.dt (by omega) ?_
      | refine Branch.df (by omega) ?_
      | refine Branch.t rfl ?_
      | refine Branch.f rfl ?_
      | refine Branch.t (by assumption) ?_
      | refine Branch.f (by assumption) ?_
      | refine Branch.d (fun _ => ?_) (fun _ => ?_)
      | refine Branch.mk (fun _ => ?_) (fun _ => ?_)
      | refine Need.mk (by first | omega | decide | rfl) ?_
      | refine Idx.nat (by omega) ?_
      | refine Idx.auto (by first | omega | decide) (by first | omega | decide) ?_
      | refine Cell.ro rfl ?_
      | refine SDraw.all (by kernel_rfl) ?_
      | refine Kept.k0 ?_
      | refine Kept.k1 ?_
      | refine Kept.k2 ?_
      | refine Kept.k3 ?_
      | refine Kept.k4 ?_))
  cases hS
  rw [show Fst t L.length L = Fst t L.length L from rfl] at ht
  unfold Fst at ht
  rw [List.take_length] at ht
  rcases ht with ⟨rfl, ht⟩ | ⟨k, y, rfl, hy, ht⟩
  · repeat' ((conv => whnf); (first
        | refine New.mk (fun _ => ?_)
        | refine Look.at0 ?_
        | refine Cell.row ?_
        | refine Cell.buf ?_
        | refine Cells.row rfl ?_
        | refine Put.row rfl ?_
        | refine Put.buf rfl ?_
        | refine Look.at1 ?_
        | refine Look.at2 ?_
        | refine Look.at3 ?_
        | refine Look.at4 ?_
        | refine Look.at5 ?_
        | refine Look.at6 ?_
        | refine Look.at7 ?_
        | refine Look.at8 ?_
        | with_reducible refine Val.i64 (by omega) (by omega) ?_
        | with_reducible refine Val.u8 (by omega) (by omega) ?_
        | with_reducible refine Val.u32 (by omega) (by omega) ?_
        | with_reducible refine Val.u64 (by omega) (by omega) ?_
        | with_reducible refine Val.u8m ?_
        | with_reducible refine Val.u32m ?_
        | with_reducible refine Val.u64m ?_
        | with_reducible refine Val.shr8 ?_
        | with_reducible refine Val.shr16 (by decide) ?_
        | with_reducible refine Val.shr24 (by decide) ?_
        | with_reducible refine Val.raw ?_
        | refine Branch.not ?_
        | refine Branch.and ?_
        | refine Branch.or ?_
        | refine Branch.dt (by assumption) ?_
        | refine Branch.df (by assumption) ?_
        | refine Branch.dt rfl ?_
        | refine Branch.dt (by omega) ?_
        | refine Branch.df (by omega) ?_
        | refine Branch.t rfl ?_
        | refine Branch.f rfl ?_
        | refine Branch.t (by assumption) ?_
        | refine Branch.f (by assumption) ?_
        | refine Branch.d (fun _ => ?_) (fun _ => ?_)
        | refine Branch.mk (fun _ => ?_) (fun _ => ?_)
        | refine Need.mk (by first | omega | decide | rfl) ?_
        | refine Idx.nat (by omega) ?_
        | refine Idx.auto (by first | omega | decide) (by first | omega | decide) ?_
        | refine Cell.ro rfl ?_
        | refine SDraw.all (by kernel_rfl) ?_
        | refine Kept.k0 ?_
        | refine Kept.k1 ?_
        | refine Kept.k2 ?_
        | refine Kept.k3 ?_
        | refine Kept.k4 ?_))
    all_goals (conv => whnf)
    all_goals exact Keep.all (h0 ht)
  · have hkn := (List.getElem?_eq_some_iff.1 hy).1
    obtain ⟨b, o, f, rfl, rfl, hc⟩ := hs (by omega)
    have f0 : f (o + k * 3 + 0) = some (.int .i64 y.node) := hc k y hy 0 _ rfl
    repeat' ((conv => whnf); (first
        | refine Cell.ro f0 ?_
        | refine New.mk (fun _ => ?_)
        | refine Look.at0 ?_
        | refine Cell.row ?_
        | refine Cell.buf ?_
        | refine Cells.row rfl ?_
        | refine Put.row rfl ?_
        | refine Put.buf rfl ?_
        | refine Look.at1 ?_
        | refine Look.at2 ?_
        | refine Look.at3 ?_
        | refine Look.at4 ?_
        | refine Look.at5 ?_
        | refine Look.at6 ?_
        | refine Look.at7 ?_
        | refine Look.at8 ?_
        | with_reducible refine Val.i64 (by omega) (by omega) ?_
        | with_reducible refine Val.u8 (by omega) (by omega) ?_
        | with_reducible refine Val.u32 (by omega) (by omega) ?_
        | with_reducible refine Val.u64 (by omega) (by omega) ?_
        | with_reducible refine Val.u8m ?_
        | with_reducible refine Val.u32m ?_
        | with_reducible refine Val.u64m ?_
        | with_reducible refine Val.shr8 ?_
        | with_reducible refine Val.shr16 (by decide) ?_
        | with_reducible refine Val.shr24 (by decide) ?_
        | with_reducible refine Val.raw ?_
        | refine Branch.not ?_
        | refine Branch.and ?_
        | refine Branch.or ?_
        | refine Branch.dt (by assumption) ?_
        | refine Branch.df (by assumption) ?_
        | refine Branch.dt rfl ?_
        | refine Branch.dt (by omega) ?_
        | refine Branch.df (by omega) ?_
        | refine Branch.t rfl ?_
        | refine Branch.f rfl ?_
        | refine Branch.t (by assumption) ?_
        | refine Branch.f (by assumption) ?_
        | refine Branch.d (fun _ => ?_) (fun _ => ?_)
        | refine Branch.mk (fun _ => ?_) (fun _ => ?_)
        | refine Need.mk (by first | omega | decide | rfl) ?_
        | refine Idx.nat (by omega) ?_
        | refine Idx.auto (by first | omega | decide) (by first | omega | decide) ?_
        | refine Cell.ro rfl ?_
        | refine SDraw.all (by kernel_rfl) ?_
        | refine Kept.k0 ?_
        | refine Kept.k1 ?_
        | refine Kept.k2 ?_
        | refine Kept.k3 ?_
        | refine Kept.k4 ?_))
    all_goals (conv => whnf)
    all_goals exact Keep.all (h1 y ht)
end
end Go.Proofs.Ytmakaofdpoiaaaa
