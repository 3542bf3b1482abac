/- Layer 24: who comes first: by walks. -/
import Derived.Test.YtmakaofdpoiaaaaFlI
import Derived.Test.YtmakaofdpoiaaaaSxP
set_option linter.unusedVariables false
set_option linter.unusedSimpArgs false
set_option maxRecDepth 100000
set_option maxHeartbeats 4000000
namespace Go.Proofs.Ytmakaofdpoiaaaa
open Sx
theorem Cells.flatA {α : Type} {f : α → List Value} {k : Nat} (hk : ∀ x, (f x).length = k) {L : List α} {j N o : Nat} {x : α} {t : TypeId} {ys : List Value} {K : List Value → Prop} (hj : L[j]? = some x) (ho : o = j * k) (h : K (f x)) : Cells (.buf t (L.flatMap f ++ ys) N) o k K :=
  Cells.get (f x) (hk x) (fun i v hv => by
    have hi := (List.getElem?_eq_some_iff.1 hv).1
    rw [hk] at hi
    have hl := (List.getElem?_eq_some_iff.1 ((flat_nth hk hj hi).trans hv)).1
    show (L.flatMap f ++ ys)[o + i]? = _
    rw [ho, List.getElem?_append_left hl, flat_nth hk hj hi]; exact hv) h
section
variable {K : Value → Heap → Prop}
theorem c33 {H : Heap} (x : Mas) (h : K (.bool (!x.on)) H) : SCalls Try.prog 33 [.agg ⟨x.cells⟩] H K := by
  refine SCalls.any (K := fun v N => v = .bool (!x.on) ∧ N = []) (enter33 ?_) (by rintro v N ⟨rfl, rfl⟩; exact h)
  unfold Mas.cells
  repeat' ((conv => whnf); (first
      | refine New.mk (fun _ => ?_)
      | refine Look.at0 ?_
      | refine Cell.row ?_
      | refine Cell.buf ?_
      | refine Cells.row rfl ?_
      | refine Put.row rfl ?_
      | refine Put.buf rfl ?_
      | refine Look.at1 ?_
      | refine Look.at2 ?_
      | refine Look.at3 ?_
      | refine Look.at4 ?_
      | refine Look.at5 ?_
      | refine Look.at6 ?_
      | refine Look.at7 ?_
      | refine Look.at8 ?_
      | with_reducible refine Val.i64 (by omega) (by omega) ?_
      | with_reducible refine Val.u8 (by omega) (by omega) ?_
      | with_reducible refine Val.u32 (by omega) (by omega) ?_
      | with_reducible refine Val.u64 (by omega) (by omega) ?_
      | with_reducible refine Val.u8m ?_
      | with_reducible refine Val.u32m ?_
      | with_reducible refine Val.u64m ?_
      | with_reducible refine Val.shr8 ?_
      | with_reducible refine Val.shr16 (by decide) ?_
      | with_reducible refine Val.shr24 (by decide) ?_
      | with_reducible refine Val.raw ?_
      | refine Branch.not ?_
      | refine Branch.and ?_
      | refine Branch.or ?_
      | refine Branch.dt (by assumption) ?_
      | refine Branch.df (by assumption) ?_
      | refine Branch.dt rfl ?_
      | refine Branch.dt (by omega) ?_
      | refine Branch.df (by omega) ?_
      | refine Branch.t rfl ?_
      | refine Branch.f rfl ?_
      | refine Branch.t (by assumption) ?_
      | refine Branch.f (by assumption) ?_
      | refine Branch.d (fun _ => ?_) (fun _ => ?_)
      | refine Branch.mk (fun _ => ?_) (fun _ => ?_)
      | refine Need.mk (by first | omega | decide | rfl) ?_
      | refine Idx.nat (by omega) ?_
      | refine Idx.auto (by first | omega | decide) (by first | omega | decide) ?_
      | refine Cell.ro rfl ?_
      | refine SDraw.all (by kernel_rfl) ?_
      | refine Kept.k0 ?_
      | refine Kept.k1 ?_
      | refine Kept.k2 ?_
      | refine Kept.k3 ?_
      | refine Kept.k4 ?_))
  all_goals (conv => whnf)
  all_goals exact Keep.sub [] (List.nil_sublist _) ⟨rfl, rfl⟩
inductive S44 (A0 A1 A7 A8 : Value) : List Value → Prop
  | mk {r2 r3 r4 r5 r6 r9 r10 r11 r12 r13 r14 r15 r16 r17 r18 : Value} : S44 A0 A1 A7 A8 [A0, A1, r2, r3, r4, r5, r6, A7, A8, r9, r10, r11, r12, r13, r14, r15, r16, r17, r18]
def I44 (q c : Nat) (L : List Mas) (H0 : Heap) (l : List Value) (H : Heap) : Prop :=
  ∃ j : Nat, j ≤ L.length ∧ (∀ (i : Nat) x, i < j → L[i]? = some x → x.on = true) ∧ S44 (.slice (some ⟨q, 0, none⟩) L.length c) (.func (.func 33) ⟨[]⟩ ⟨[]⟩) (.int .i64 (L.length : Int)) (.int .i64 (j : Int)) l ∧ H = H0
noncomputable def M44 (n : Nat) (l : List Value) (_ : Heap) : Nat := n - (match getL l 8 with | .int _ i => i.toNat | _ => 0)
theorem c44 {q c N : Nat} {L : List Mas} (hlen : L.length ≤ 140737488355328) (h0 : (∀ x ∈ L, x.on = true) → K (.int .i64 (-1)) [(q, .buf 30 (L.flatMap Mas.cells) N)])
    (h1 : ∀ (j : Nat) x, L[j]? = some x → x.on = false → (∀ (i : Nat) y, i < j → L[i]? = some y → y.on = true) → K (.int .i64 (j : Int)) [(q, .buf 30 (L.flatMap Mas.cells) N)]) :
    SCalls Try.prog 44 [.slice (some ⟨q, 0, none⟩) L.length c, .func (.func 33) ⟨[]⟩ ⟨[]⟩] [(q, .buf 30 (L.flatMap Mas.cells) N)] K := by
  refine enter44 ?_
  repeat' ((conv => whnf); (first
      | refine New.mk (fun _ => ?_)
      | refine Look.at0 ?_
      | refine Cell.row ?_
      | refine Cell.buf ?_
      | refine Cells.row rfl ?_
      | refine Put.row rfl ?_
      | refine Put.buf rfl ?_
      | refine Look.at1 ?_
      | refine Look.at2 ?_
      | refine Look.at3 ?_
      | refine Look.at4 ?_
      | refine Look.at5 ?_
      | refine Look.at6 ?_
      | refine Look.at7 ?_
      | refine Look.at8 ?_
      | with_reducible refine Val.i64 (by omega) (by omega) ?_
      | with_reducible refine Val.u8 (by omega) (by omega) ?_
      | with_reducible refine Val.u32 (by omega) (by omega) ?_
      | with_reducible refine Val.u64 (by omega) (by omega) ?_
      | with_reducible refine Val.u8m ?_
      | with_reducible refine Val.u32m ?_
      | with_reducible refine Val.u64m ?_
      | with_reducible refine Val.shr8 ?_
      | with_reducible refine Val.shr16 (by decide) ?_
      | with_reducible refine Val.shr24 (by decide) ?_
      | with_reducible refine Val.raw ?_
      | refine Branch.not ?_
      | refine Branch.and ?_
      | refine Branch.or ?_
      | refine Branch.dt (by assumption) ?_
      | refine Branch.df (by assumption) ?_
      | refine Branch.dt rfl ?_
      | refine Branch.dt (by omega) ?_
      | refine Branch.df (by omega) ?_
      | refine Branch.t rfl ?_
      | refine Branch.f rfl ?_
      | refine Branch.t (by assumption) ?_
      | refine Branch.f (by assumption) ?_
      | refine Branch.d (fun _ => ?_) (fun _ => ?_)
      | refine Branch.mk (fun _ => ?_) (fun _ => ?_)
      | refine Need.mk (by first | omega | decide | rfl) ?_
      | refine Idx.nat (by omega) ?_
      | refine Idx.auto (by first | omega | decide) (by first | omega | decide) ?_
      | refine Cell.ro rfl ?_
      | refine SDraw.all (by kernel_rfl) ?_
      | refine Kept.k0 ?_
      | refine Kept.k1 ?_
      | refine Kept.k2 ?_
      | refine Kept.k3 ?_
      | refine Kept.k4 ?_))
  refine SLoop.inv (I44 q c L [(q, .buf 30 (L.flatMap Mas.cells) N)]) (M44 L.length) (Keep.all ⟨0, by omega, fun i x hi => by omega, .mk, rfl⟩) ?_
  rintro S H ⟨j, hj, hno, hS, rfl⟩ R hR
  cases hS
  by_cases hlt : j < L.length
  · obtain ⟨x, hx⟩ : ∃ x, L[j]? = some x := ⟨_, List.getElem?_eq_getElem hlt⟩
    repeat' ((conv => whnf); (first
        | refine Cells.flat Mas.len hx ?_
        | refine c33 x ?_
        | refine New.mk (fun _ => ?_)
        | refine Look.at0 ?_
        | refine Cell.row ?_
        | refine Cell.buf ?_
        | refine Cells.row rfl ?_
        | refine Put.row rfl ?_
        | refine Put.buf rfl ?_
        | refine Look.at1 ?_
        | refine Look.at2 ?_
        | refine Look.at3 ?_
        | refine Look.at4 ?_
        | refine Look.at5 ?_
        | refine Look.at6 ?_
        | refine Look.at7 ?_
        | refine Look.at8 ?_
        | with_reducible refine Val.i64 (by omega) (by omega) ?_
        | with_reducible refine Val.u8 (by omega) (by omega) ?_
        | with_reducible refine Val.u32 (by omega) (by omega) ?_
        | with_reducible refine Val.u64 (by omega) (by omega) ?_
        | with_reducible refine Val.u8m ?_
        | with_reducible refine Val.u32m ?_
        | with_reducible refine Val.u64m ?_
        | with_reducible refine Val.shr8 ?_
        | with_reducible refine Val.shr16 (by decide) ?_
        | with_reducible refine Val.shr24 (by decide) ?_
        | with_reducible refine Val.raw ?_
        | refine Branch.not ?_
        | refine Branch.and ?_
        | refine Branch.or ?_
        | refine Branch.dt (by assumption) ?_
        | refine Branch.df (by assumption) ?_
        | refine Branch.dt rfl ?_
        | refine Branch.dt (by omega) ?_
        | refine Branch.df (by omega) ?_
        | refine Branch.t rfl ?_
        | refine Branch.f rfl ?_
        | refine Branch.t (by assumption) ?_
        | refine Branch.f (by assumption) ?_
        | refine Branch.d (fun _ => ?_) (fun _ => ?_)
        | refine Branch.mk (fun _ => ?_) (fun _ => ?_)
        | refine Need.mk (by first | omega | decide | rfl) ?_
        | refine Idx.nat (by omega) ?_
        | refine Idx.auto (by first | omega | decide) (by first | omega | decide) ?_
        | refine Cell.ro rfl ?_
        | refine SDraw.all (by kernel_rfl) ?_
        | refine Kept.k0 ?_
        | refine Kept.k1 ?_
        | refine Kept.k2 ?_
        | refine Kept.k3 ?_
        | refine Kept.k4 ?_))
    all_goals (conv => whnf)
    all_goals first
      | exact Keep.all (h1 j x hx ‹_› hno)
      | (refine hR _ _ (Keep.all ⟨⟨j + 1, by omega, fun i y hi hy => ?_, .mk, rfl⟩, ?_⟩)
         · by_cases e : i = j
           · subst e; rw [hx] at hy; injection hy with hy; subst hy; assumption
           · exact hno i y (by omega) hy
         · show L.length - Int.toNat ((j : Int) + 1) < L.length - Int.toNat (j : Int); omega)
  · repeat' ((conv => whnf); (first
        | refine New.mk (fun _ => ?_)
        | refine Look.at0 ?_
        | refine Cell.row ?_
        | refine Cell.buf ?_
        | refine Cells.row rfl ?_
        | refine Put.row rfl ?_
        | refine Put.buf rfl ?_
        | refine Look.at1 ?_
        | refine Look.at2 ?_
        | refine Look.at3 ?_
        | refine Look.at4 ?_
        | refine Look.at5 ?_
        | refine Look.at6 ?_
        | refine Look.at7 ?_
        | refine Look.at8 ?_
        | with_reducible refine Val.i64 (by omega) (by omega) ?_
        | with_reducible refine Val.u8 (by omega) (by omega) ?_
        | with_reducible refine Val.u32 (by omega) (by omega) ?_
        | with_reducible refine Val.u64 (by omega) (by omega) ?_
        | with_reducible refine Val.u8m ?_
        | with_reducible refine Val.u32m ?_
        | with_reducible refine Val.u64m ?_
        | with_reducible refine Val.shr8 ?_
        | with_reducible refine Val.shr16 (by decide) ?_
        | with_reducible refine Val.shr24 (by decide) ?_
        | with_reducible refine Val.raw ?_
        | refine Branch.not ?_
        | refine Branch.and ?_
        | refine Branch.or ?_
        | refine Branch.dt (by assumption) ?_
        | refine Branch.df (by assumption) ?_
        | refine Branch.dt rfl ?_
        | refine Branch.dt (by omega) ?_
        | refine Branch.df (by omega) ?_
        | refine Branch.t rfl ?_
        | refine Branch.f rfl ?_
        | refine Branch.t (by assumption) ?_
        | refine Branch.f (by assumption) ?_
        | refine Branch.d (fun _ => ?_) (fun _ => ?_)
        | refine Branch.mk (fun _ => ?_) (fun _ => ?_)
        | refine Need.mk (by first | omega | decide | rfl) ?_
        | refine Idx.nat (by omega) ?_
        | refine Idx.auto (by first | omega | decide) (by first | omega | decide) ?_
        | refine Cell.ro rfl ?_
        | refine SDraw.all (by kernel_rfl) ?_
        | refine Kept.k0 ?_
        | refine Kept.k1 ?_
        | refine Kept.k2 ?_
        | refine Kept.k3 ?_
        | refine Kept.k4 ?_))
    all_goals (conv => whnf)
    refine Keep.all (h0 fun x hx => ?_)
    obtain ⟨i, hi, rfl⟩ := List.getElem_of_mem hx
    exact hno i _ (by omega) (List.getElem?_eq_getElem hi)
def onF (L : List Mas) : List Mas := L.filter (·.on)
inductive S31 (A0 A1 A5 A6 : Value) : List Value → Prop
  | mk {r2 r3 r4 r7 r8 r9 r10 r11 r12 r13 r14 r15 r16 r17 r18 r19 r20 r21 r22 r23 r24 r25 r26 r27 r28 r29 r30 r31 r32 r33 r34 r35 r36 r37 r38 r39 r40 r41 : Value} : S31 A0 A1 A5 A6 [A0, A1, r2, r3, r4, A5, A6, r7, r8, r9, r10, r11, r12, r13, r14, r15, r16, r17, r18, r19, r20, r21, r22, r23, r24, r25, r26, r27, r28, r29, r30, r31, r32, r33, r34, r35, r36, r37, r38, r39, r40, r41]
def I31 (q c N : Nat) (L : List Mas) (l : List Value) (H : Heap) : Prop :=
  ∃ (j : Nat) (L' : List Mas), j ≤ L.length ∧ L'.length = L.length ∧ L'.take (onF (L.take j)).length = onF (L.take j) ∧ L'.drop j = L.drop j ∧ (onF (L.take j)).length < j ∧
    S31 (.slice (some ⟨q, 0, none⟩) L.length c) (.func (.func 33) ⟨[]⟩ ⟨[]⟩) (.int .i64 ((onF (L.take j)).length : Int)) (.int .i64 (j : Int)) l ∧ H = [(q, .buf 30 (L'.flatMap Mas.cells) N)]
noncomputable def M31 (n : Nat) (l : List Value) (_ : Heap) : Nat := n - (match getL l 6 with | .int _ i => i.toNat | _ => 0)
theorem onF_succ {L : List Mas} {j : Nat} {x : Mas} (hx : L[j]? = some x) : onF (L.take (j + 1)) = onF (L.take j) ++ (if x.on = true then [x] else []) := by
  obtain ⟨hlt, rfl⟩ := List.getElem?_eq_some_iff.1 hx
  unfold onF
  rw [List.take_succ_eq_append_getElem hlt, List.filter_append]
  congr 1
  cases h : L[j].on <;> simp [h]
theorem onF_all {L : List Mas} (h : ∀ (i : Nat) x, L[i]? = some x → x.on = true) : onF L = L := List.filter_eq_self.2 fun x hx => by
  obtain ⟨i, hi, rfl⟩ := List.getElem_of_mem hx
  exact h i _ (List.getElem?_eq_getElem hi)
theorem c31 {q c N : Nat} {L : List Mas} (hlen : L.length ≤ 140737488355328) (hc : L.length ≤ c) (h : ∀ ys, K (.slice (some ⟨q, 0, none⟩) (onF L).length c) [(q, .buf 30 ((onF L).flatMap Mas.cells ++ ys) N)]) :
    SCalls Try.prog 31 [.slice (some ⟨q, 0, none⟩) L.length c, .func (.func 33) ⟨[]⟩ ⟨[]⟩] [(q, .buf 30 (L.flatMap Mas.cells) N)] K := by
  refine enter31 ?_
  repeat' ((conv => whnf); (first
      | refine c44 hlen (fun hall => ?_) (fun j x hx hoff hno => ?_)
      | with_reducible refine Val.i64 (by have := (List.getElem?_eq_some_iff.1 hx).1; omega) (by have := (List.getElem?_eq_some_iff.1 hx).1; omega) ?_
      | refine New.mk (fun _ => ?_)
      | refine Look.at0 ?_
      | refine Cell.row ?_
      | refine Cell.buf ?_
      | refine Cells.row rfl ?_
      | refine Put.row rfl ?_
      | refine Put.buf rfl ?_
      | refine Look.at1 ?_
      | refine Look.at2 ?_
      | refine Look.at3 ?_
      | refine Look.at4 ?_
      | refine Look.at5 ?_
      | refine Look.at6 ?_
      | refine Look.at7 ?_
      | refine Look.at8 ?_
      | with_reducible refine Val.i64 (by omega) (by omega) ?_
      | with_reducible refine Val.u8 (by omega) (by omega) ?_
      | with_reducible refine Val.u32 (by omega) (by omega) ?_
      | with_reducible refine Val.u64 (by omega) (by omega) ?_
      | with_reducible refine Val.u8m ?_
      | with_reducible refine Val.u32m ?_
      | with_reducible refine Val.u64m ?_
      | with_reducible refine Val.shr8 ?_
      | with_reducible refine Val.shr16 (by decide) ?_
      | with_reducible refine Val.shr24 (by decide) ?_
      | with_reducible refine Val.raw ?_
      | refine Branch.not ?_
      | refine Branch.and ?_
      | refine Branch.or ?_
      | refine Branch.dt (by assumption) ?_
      | refine Branch.df (by assumption) ?_
      | refine Branch.dt rfl ?_
      | refine Branch.dt (by omega) ?_
      | refine Branch.df (by omega) ?_
      | refine Branch.t rfl ?_
      | refine Branch.f rfl ?_
      | refine Branch.t (by assumption) ?_
      | refine Branch.f (by assumption) ?_
      | refine Branch.d (fun _ => ?_) (fun _ => ?_)
      | refine Branch.mk (fun _ => ?_) (fun _ => ?_)
      | refine Need.mk (by first | omega | decide | rfl) ?_
      | refine Idx.nat (by omega) ?_
      | refine Idx.auto (by first | omega | decide) (by first | omega | decide) ?_
      | refine Cell.ro rfl ?_
      | refine SDraw.all (by kernel_rfl) ?_
      | refine Kept.k0 ?_
      | refine Kept.k1 ?_
      | refine Kept.k2 ?_
      | refine Kept.k3 ?_
      | refine Kept.k4 ?_))
  · have h := h []
    rw [show onF L = L from List.filter_eq_self.2 hall, List.append_nil] at h
    exact Keep.all h
  · have hjl := (List.getElem?_eq_some_iff.1 hx).1
    have htake : onF (L.take j) = L.take j := onF_all fun i y hi => by
      have hi' := (List.getElem?_eq_some_iff.1 hi).1
      simp at hi'
      rw [List.getElem?_take_of_lt (by omega)] at hi
      exact hno i y (by omega) hi
    have hs := onF_succ hx
    rw [hoff, htake] at hs
    simp only [Bool.false_eq_true, if_false, List.append_nil] at hs
    have hl : (onF (L.take (j + 1))).length = j := by rw [hs]; simp; omega
    conv => whnf
    refine SLoop.inv (I31 q c N L) (M31 L.length) (Keep.all ⟨j + 1, L, by omega, rfl, by rw [hl, hs], rfl, by omega, by rw [hl]; exact .mk, rfl⟩) ?_
    clear hs hl htake hno hoff hx hjl x j
    rintro S H ⟨j, L', hj, hL', htk, hdr, hlt', hS, rfl⟩ R hR
    cases hS
    by_cases hlt : j < L.length
    · obtain ⟨x, hx⟩ : ∃ x, L[j]? = some x := ⟨_, List.getElem?_eq_getElem hlt⟩
      have hx' : L'[j]? = some x := by
        have : (L'.drop j)[0]? = (L.drop j)[0]? := by rw [hdr]
        simpa [List.getElem?_drop, hx] using this
      have hs := onF_succ hx
      have hm : ∃ y, L'[(onF (L.take j)).length]? = some y := ⟨_, List.getElem?_eq_getElem (by omega)⟩
      obtain ⟨y, hy⟩ := hm
      cases hxo : x.on with
      | false =>
        rw [hxo] at hs
        simp only [Bool.false_eq_true, if_false, List.append_nil] at hs
        repeat' ((conv => whnf); (first
            | refine Cells.flat Mas.len hx' ?_
            | refine c33 x ?_
            | refine Branch.f (by rw [hxo]; rfl) ?_
            | refine New.mk (fun _ => ?_)
            | refine Look.at0 ?_
            | refine Cell.row ?_
            | refine Cell.buf ?_
            | refine Cells.row rfl ?_
            | refine Put.row rfl ?_
            | refine Put.buf rfl ?_
            | refine Look.at1 ?_
            | refine Look.at2 ?_
            | refine Look.at3 ?_
            | refine Look.at4 ?_
            | refine Look.at5 ?_
            | refine Look.at6 ?_
            | refine Look.at7 ?_
            | refine Look.at8 ?_
            | with_reducible refine Val.i64 (by omega) (by omega) ?_
            | with_reducible refine Val.u8 (by omega) (by omega) ?_
            | with_reducible refine Val.u32 (by omega) (by omega) ?_
            | with_reducible refine Val.u64 (by omega) (by omega) ?_
            | with_reducible refine Val.u8m ?_
            | with_reducible refine Val.u32m ?_
            | with_reducible refine Val.u64m ?_
            | with_reducible refine Val.shr8 ?_
            | with_reducible refine Val.shr16 (by decide) ?_
            | with_reducible refine Val.shr24 (by decide) ?_
            | with_reducible refine Val.raw ?_
            | refine Branch.not ?_
            | refine Branch.and ?_
            | refine Branch.or ?_
            | refine Branch.dt (by assumption) ?_
            | refine Branch.df (by assumption) ?_
            | refine Branch.dt rfl ?_
            | refine Branch.dt (by omega) ?_
            | refine Branch.df (by omega) ?_
            | refine Branch.t rfl ?_
            | refine Branch.f rfl ?_
            | refine Branch.t (by assumption) ?_
            | refine Branch.f (by assumption) ?_
            | refine Branch.d (fun _ => ?_) (fun _ => ?_)
            | refine Branch.mk (fun _ => ?_) (fun _ => ?_)
            | refine Need.mk (by first | omega | decide | rfl) ?_
            | refine Idx.nat (by omega) ?_
            | refine Idx.auto (by first | omega | decide) (by first | omega | decide) ?_
            | refine Cell.ro rfl ?_
            | refine SDraw.all (by kernel_rfl) ?_
            | refine Kept.k0 ?_
            | refine Kept.k1 ?_
            | refine Kept.k2 ?_
            | refine Kept.k3 ?_
            | refine Kept.k4 ?_))
        all_goals (conv => whnf)
        refine hR _ _ (Keep.d1 ⟨⟨j + 1, L', by omega, hL', by rw [hs]; exact htk, ?_, by rw [hs]; omega, by rw [hs]; exact .mk, rfl⟩, ?_⟩)
        · have := congrArg (List.drop 1) hdr
          simpa [List.drop_drop, Nat.add_comm] using this
        · show L.length - Int.toNat ((j : Int) + 1) < L.length - Int.toNat (j : Int); omega
      | true =>
        rw [hxo] at hs
        simp only [if_true] at hs
        repeat' ((conv => whnf); (first
            | refine Cells.flat Mas.len hx' ?_
            | refine c33 x ?_
            | refine Branch.t (by rw [hxo]; rfl) ?_
            | refine Put.flatAll Mas.len x hy (by omega) ?_
            | refine New.mk (fun _ => ?_)
            | refine Look.at0 ?_
            | refine Cell.row ?_
            | refine Cell.buf ?_
            | refine Cells.row rfl ?_
            | refine Put.row rfl ?_
            | refine Put.buf rfl ?_
            | refine Look.at1 ?_
            | refine Look.at2 ?_
            | refine Look.at3 ?_
            | refine Look.at4 ?_
            | refine Look.at5 ?_
            | refine Look.at6 ?_
            | refine Look.at7 ?_
            | refine Look.at8 ?_
            | with_reducible refine Val.i64 (by omega) (by omega) ?_
            | with_reducible refine Val.u8 (by omega) (by omega) ?_
            | with_reducible refine Val.u32 (by omega) (by omega) ?_
            | with_reducible refine Val.u64 (by omega) (by omega) ?_
            | with_reducible refine Val.u8m ?_
            | with_reducible refine Val.u32m ?_
            | with_reducible refine Val.u64m ?_
            | with_reducible refine Val.shr8 ?_
            | with_reducible refine Val.shr16 (by decide) ?_
            | with_reducible refine Val.shr24 (by decide) ?_
            | with_reducible refine Val.raw ?_
            | refine Branch.not ?_
            | refine Branch.and ?_
            | refine Branch.or ?_
            | refine Branch.dt (by assumption) ?_
            | refine Branch.df (by assumption) ?_
            | refine Branch.dt rfl ?_
            | refine Branch.dt (by omega) ?_
            | refine Branch.df (by omega) ?_
            | refine Branch.t rfl ?_
            | refine Branch.f rfl ?_
            | refine Branch.t (by assumption) ?_
            | refine Branch.f (by assumption) ?_
            | refine Branch.d (fun _ => ?_) (fun _ => ?_)
            | refine Branch.mk (fun _ => ?_) (fun _ => ?_)
            | refine Need.mk (by first | omega | decide | rfl) ?_
            | refine Idx.nat (by omega) ?_
            | refine Idx.auto (by first | omega | decide) (by first | omega | decide) ?_
            | refine Cell.ro rfl ?_
            | refine SDraw.all (by kernel_rfl) ?_
            | refine Kept.k0 ?_
            | refine Kept.k1 ?_
            | refine Kept.k2 ?_
            | refine Kept.k3 ?_
            | refine Kept.k4 ?_))
        all_goals (conv => whnf)
        have hi := (List.getElem?_eq_some_iff.1 hy).1
        refine hR _ _ (Keep.d1 ⟨⟨j + 1, L'.set (onF (L.take j)).length x, by omega, by simpa using hL', ?_, ?_, by rw [hs]; simp; omega, by rw [hs, List.length_append]; exact .mk, rfl⟩, ?_⟩)
        · rw [hs, List.length_append, List.take_set, show ([x] : List Mas).length = 1 from rfl]
          rw [List.take_succ_eq_append_getElem hi, htk]
          rw [List.set_append_right _ _ (Nat.le_refl _), Nat.sub_self]; rfl
        · rw [List.drop_set_of_lt (by omega)]
          have := congrArg (List.drop 1) hdr
          simpa [List.drop_drop, Nat.add_comm] using this
        · show L.length - Int.toNat ((j : Int) + 1) < L.length - Int.toNat (j : Int); omega
    · have hjn : j = L.length := by omega
      subst hjn
      rw [List.take_length] at *
      have hcl : (onF L).length * 3 + (L.length - (onF L).length) * 3 ≤ (L'.flatMap Mas.cells).length := by
        rw [flat_len Mas.len, hL', ← Nat.add_mul]
        exact Nat.mul_le_mul_right _ (by omega)
      have hpre : (L'.flatMap Mas.cells).take ((onF L).length * 3) = (onF L).flatMap Mas.cells := by
        conv => lhs; rw [← List.take_append_drop (onF L).length L']
        rw [htk, List.flatMap_append, List.take_left' (flat_len Mas.len _)]
      have h0 : ∀ i z, Try.prog.info? 30 = some i → i.zero = some z → ∀ u ∈ z.cells.toList, u.oneCell' = true := zOk_spec (by kernel_rfl)
      repeat' ((conv => whnf); (first
          | refine RawV.clear (A := []) (e := 30) (size := 3) (bytes := 24) rfl (by kernel_rfl) h0 (by decide) (by omega) (fun ys hys => ?_)
          | refine New.mk (fun _ => ?_)
          | refine Look.at0 ?_
          | refine Cell.row ?_
          | refine Cell.buf ?_
          | refine Cells.row rfl ?_
          | refine Put.row rfl ?_
          | refine Put.buf rfl ?_
          | refine Look.at1 ?_
          | refine Look.at2 ?_
          | refine Look.at3 ?_
          | refine Look.at4 ?_
          | refine Look.at5 ?_
          | refine Look.at6 ?_
          | refine Look.at7 ?_
          | refine Look.at8 ?_
          | with_reducible refine Val.i64 (by omega) (by omega) ?_
          | with_reducible refine Val.u8 (by omega) (by omega) ?_
          | with_reducible refine Val.u32 (by omega) (by omega) ?_
          | with_reducible refine Val.u64 (by omega) (by omega) ?_
          | with_reducible refine Val.u8m ?_
          | with_reducible refine Val.u32m ?_
          | with_reducible refine Val.u64m ?_
          | with_reducible refine Val.shr8 ?_
          | with_reducible refine Val.shr16 (by decide) ?_
          | with_reducible refine Val.shr24 (by decide) ?_
          | with_reducible refine Val.raw ?_
          | refine Branch.not ?_
          | refine Branch.and ?_
          | refine Branch.or ?_
          | refine Branch.dt (by assumption) ?_
          | refine Branch.df (by assumption) ?_
          | refine Branch.dt rfl ?_
          | refine Branch.dt (by omega) ?_
          | refine Branch.df (by omega) ?_
          | refine Branch.t rfl ?_
          | refine Branch.f rfl ?_
          | refine Branch.t (by assumption) ?_
          | refine Branch.f (by assumption) ?_
          | refine Branch.d (fun _ => ?_) (fun _ => ?_)
          | refine Branch.mk (fun _ => ?_) (fun _ => ?_)
          | refine Need.mk (by first | omega | decide | rfl) ?_
          | refine Idx.nat (by omega) ?_
          | refine Idx.auto (by first | omega | decide) (by first | omega | decide) ?_
          | refine Cell.ro rfl ?_
          | refine SDraw.all (by kernel_rfl) ?_
          | refine Kept.k0 ?_
          | refine Kept.k1 ?_
          | refine Kept.k2 ?_
          | refine Kept.k3 ?_
          | refine Kept.k4 ?_))
      all_goals (conv => whnf)
      rw [Nat.zero_add, hpre, List.append_assoc]
      exact Keep.all (h _)
/-- The first of masters. -/
def minF (b : Mas) (r : List Mas) : Mas := r.foldl (fun b y => if ord y.prio y.node b.prio b.node < 0 then y else b) b
def firstF (L : List Mas) : Option Mas := match onF L with | [] => none | x :: r => some (minF x r)
inductive S34 (A0 A1 A4 A5 A6 : Value) : List Value → Prop
  | mk {r2 r3 r7 r8 r9 r10 r11 r12 r13 r14 r15 r16 r17 r18 r19 r20 r21 r22 r23 r24 r25 r26 r27 r28 r29 r30 r31 r32 : Value} : S34 A0 A1 A4 A5 A6 [A0, A1, r2, r3, A4, A5, A6, r7, r8, r9, r10, r11, r12, r13, r14, r15, r16, r17, r18, r19, r20, r21, r22, r23, r24, r25, r26, r27, r28, r29, r30, r31, r32]
def I34 (q c p4 p5 : Nat) (B : Blk) (F : List Mas) (x0 : Mas) (l : List Value) (H : Heap) : Prop :=
  ∃ j : Nat, 1 ≤ j ∧ j ≤ F.length ∧ S34 (.slice (some ⟨q, 0, none⟩) F.length c) (.func (.func 35) ⟨[]⟩ ⟨[]⟩) (.pointer (some ⟨p4, 0, none⟩)) (.pointer (some ⟨p5, 0, none⟩)) (.int .i64 (j : Int)) l ∧
    H = [(p5, .row 30 (minF x0 ((F.drop 1).take (j - 1))).cells (0, 0)), (p4, .row 30 [.int .i64 0, .int .i64 0, .bool false] (0, 0)), (q, B)]
noncomputable def M34 (n : Nat) (l : List Value) (_ : Heap) : Nat := n - (match getL l 6 with | .int _ i => i.toNat | _ => 0)
theorem c34 {q c N : Nat} {x0 : Mas} {r : List Mas} {ys : List Value} (hlen : (x0 :: r).length ≤ 140737488355328) (h : K (.agg ⟨(minF x0 r).cells⟩) []) :
    SCalls Try.prog 34 [.slice (some ⟨q, 0, none⟩) (x0 :: r).length c, .func (.func 35) ⟨[]⟩ ⟨[]⟩] [(q, .buf 30 ((x0 :: r).flatMap Mas.cells ++ ys) N)] K := by
  have hx0 : (x0 :: r)[0]? = some x0 := rfl
  have hdr : (x0 :: r).drop 1 = r := rfl
  have hpos : 0 < (x0 :: r).length := by simp
  generalize x0 :: r = F at *
  refine enter34 ?_
  repeat' ((conv => whnf); (first
      | refine Cells.flatA Mas.len (j := 0) hx0 (by simp) ?_
      | refine New.mk (fun _ => ?_)
      | refine Look.at0 ?_
      | refine Cell.row ?_
      | refine Cell.buf ?_
      | refine Cells.row rfl ?_
      | refine Put.row rfl ?_
      | refine Put.buf rfl ?_
      | refine Look.at1 ?_
      | refine Look.at2 ?_
      | refine Look.at3 ?_
      | refine Look.at4 ?_
      | refine Look.at5 ?_
      | refine Look.at6 ?_
      | refine Look.at7 ?_
      | refine Look.at8 ?_
      | with_reducible refine Val.i64 (by omega) (by omega) ?_
      | with_reducible refine Val.u8 (by omega) (by omega) ?_
      | with_reducible refine Val.u32 (by omega) (by omega) ?_
      | with_reducible refine Val.u64 (by omega) (by omega) ?_
      | with_reducible refine Val.u8m ?_
      | with_reducible refine Val.u32m ?_
      | with_reducible refine Val.u64m ?_
      | with_reducible refine Val.shr8 ?_
      | with_reducible refine Val.shr16 (by decide) ?_
      | with_reducible refine Val.shr24 (by decide) ?_
      | with_reducible refine Val.raw ?_
      | refine Branch.not ?_
      | refine Branch.and ?_
      | refine Branch.or ?_
      | refine Branch.dt (by assumption) ?_
      | refine Branch.df (by assumption) ?_
      | refine Branch.dt rfl ?_
      | refine Branch.dt (by omega) ?_
      | refine Branch.df (by omega) ?_
      | refine Branch.t rfl ?_
      | refine Branch.f rfl ?_
      | refine Branch.t (by assumption) ?_
      | refine Branch.f (by assumption) ?_
      | refine Branch.d (fun _ => ?_) (fun _ => ?_)
      | refine Branch.mk (fun _ => ?_) (fun _ => ?_)
      | refine Need.mk (by first | omega | decide | rfl) ?_
      | refine Idx.nat (by omega) ?_
      | refine Idx.auto (by first | omega | decide) (by first | omega | decide) ?_
      | refine Cell.ro rfl ?_
      | refine SDraw.all (by kernel_rfl) ?_
      | refine Kept.k0 ?_
      | refine Kept.k1 ?_
      | refine Kept.k2 ?_
      | refine Kept.k3 ?_
      | refine Kept.k4 ?_))
  refine SLoop.inv (I34 q c _ _ _ F x0) (M34 F.length) (Keep.all ⟨1, by omega, by omega, .mk, rfl⟩) ?_
  rintro S H ⟨j, hj1, hj, hS, rfl⟩ R hR
  cases hS
  by_cases hlt : j < F.length
  · obtain ⟨x, hx⟩ : ∃ x, F[j]? = some x := ⟨_, List.getElem?_eq_getElem hlt⟩
    have hmin : minF x0 ((F.drop 1).take (j + 1 - 1)) = (if ord x.prio x.node (minF x0 ((F.drop 1).take (j - 1))).prio (minF x0 ((F.drop 1).take (j - 1))).node < 0 then x else minF x0 ((F.drop 1).take (j - 1))) := by
      have hx' : (F.drop 1)[j - 1]? = some x := by rw [List.getElem?_drop, show 1 + (j - 1) = j by omega]; exact hx
      obtain ⟨hlt', e⟩ := List.getElem?_eq_some_iff.1 hx'
      rw [show j + 1 - 1 = (j - 1) + 1 by omega, List.take_succ_eq_append_getElem hlt', e]
      unfold minF
      rw [List.foldl_append]; rfl
    generalize hb : minF x0 ((F.drop 1).take (j - 1)) = b at *
    obtain ⟨xn, xp, xo⟩ := x
    obtain ⟨bn, bp, bo⟩ := b
    dsimp only at hmin
    dsimp only [Mas.cells]
    repeat' ((conv => whnf); (first
        | refine Cells.flatA Mas.len (j := j) hx (by omega) ?_
        | refine c35 _ _ _ _ _ _ ?_
        | refine New.mk (fun _ => ?_)
        | refine Look.at0 ?_
        | refine Cell.row ?_
        | refine Cell.buf ?_
        | refine Cells.row rfl ?_
        | refine Put.row rfl ?_
        | refine Put.buf rfl ?_
        | refine Look.at1 ?_
        | refine Look.at2 ?_
        | refine Look.at3 ?_
        | refine Look.at4 ?_
        | refine Look.at5 ?_
        | refine Look.at6 ?_
        | refine Look.at7 ?_
        | refine Look.at8 ?_
        | with_reducible refine Val.i64 (by omega) (by omega) ?_
        | with_reducible refine Val.u8 (by omega) (by omega) ?_
        | with_reducible refine Val.u32 (by omega) (by omega) ?_
        | with_reducible refine Val.u64 (by omega) (by omega) ?_
        | with_reducible refine Val.u8m ?_
        | with_reducible refine Val.u32m ?_
        | with_reducible refine Val.u64m ?_
        | with_reducible refine Val.shr8 ?_
        | with_reducible refine Val.shr16 (by decide) ?_
        | with_reducible refine Val.shr24 (by decide) ?_
        | with_reducible refine Val.raw ?_
        | refine Branch.not ?_
        | refine Branch.and ?_
        | refine Branch.or ?_
        | refine Branch.dt (by assumption) ?_
        | refine Branch.df (by assumption) ?_
        | refine Branch.dt rfl ?_
        | refine Branch.dt (by omega) ?_
        | refine Branch.df (by omega) ?_
        | refine Branch.t rfl ?_
        | refine Branch.f rfl ?_
        | refine Branch.t (by assumption) ?_
        | refine Branch.f (by assumption) ?_
        | refine Branch.d (fun _ => ?_) (fun _ => ?_)
        | refine Branch.mk (fun _ => ?_) (fun _ => ?_)
        | refine Need.mk (by first | omega | decide | rfl) ?_
        | refine Idx.nat (by omega) ?_
        | refine Idx.auto (by first | omega | decide) (by first | omega | decide) ?_
        | refine Cell.ro rfl ?_
        | refine SDraw.all (by kernel_rfl) ?_
        | refine Kept.k0 ?_
        | refine Kept.k1 ?_
        | refine Kept.k2 ?_
        | refine Kept.k3 ?_
        | refine Kept.k4 ?_))
    all_goals (conv => whnf)
    · refine hR _ _ (Keep.all ⟨⟨j + 1, by omega, by omega, .mk, ?_⟩, ?_⟩)
      · rw [hmin, if_pos ‹_›]; rfl
      · show F.length - Int.toNat ((j : Int) + 1) < F.length - Int.toNat (j : Int); omega
    · refine hR _ _ (Keep.all ⟨⟨j + 1, by omega, by omega, .mk, ?_⟩, ?_⟩)
      · rw [hmin, if_neg ‹_›]; rfl
      · show F.length - Int.toNat ((j : Int) + 1) < F.length - Int.toNat (j : Int); omega
  · rw [List.take_of_length_le (by simp; omega), hdr]
    generalize minF x0 r = b at *
    obtain ⟨bn, bp, bo⟩ := b
    dsimp only [Mas.cells]
    repeat' ((conv => whnf); (first
        | refine New.mk (fun _ => ?_)
        | refine Look.at0 ?_
        | refine Cell.row ?_
        | refine Cell.buf ?_
        | refine Cells.row rfl ?_
        | refine Put.row rfl ?_
        | refine Put.buf rfl ?_
        | refine Look.at1 ?_
        | refine Look.at2 ?_
        | refine Look.at3 ?_
        | refine Look.at4 ?_
        | refine Look.at5 ?_
        | refine Look.at6 ?_
        | refine Look.at7 ?_
        | refine Look.at8 ?_
        | with_reducible refine Val.i64 (by omega) (by omega) ?_
        | with_reducible refine Val.u8 (by omega) (by omega) ?_
        | with_reducible refine Val.u32 (by omega) (by omega) ?_
        | with_reducible refine Val.u64 (by omega) (by omega) ?_
        | with_reducible refine Val.u8m ?_
        | with_reducible refine Val.u32m ?_
        | with_reducible refine Val.u64m ?_
        | with_reducible refine Val.shr8 ?_
        | with_reducible refine Val.shr16 (by decide) ?_
        | with_reducible refine Val.shr24 (by decide) ?_
        | with_reducible refine Val.raw ?_
        | refine Branch.not ?_
        | refine Branch.and ?_
        | refine Branch.or ?_
        | refine Branch.dt (by assumption) ?_
        | refine Branch.df (by assumption) ?_
        | refine Branch.dt rfl ?_
        | refine Branch.dt (by omega) ?_
        | refine Branch.df (by omega) ?_
        | refine Branch.t rfl ?_
        | refine Branch.f rfl ?_
        | refine Branch.t (by assumption) ?_
        | refine Branch.f (by assumption) ?_
        | refine Branch.d (fun _ => ?_) (fun _ => ?_)
        | refine Branch.mk (fun _ => ?_) (fun _ => ?_)
        | refine Need.mk (by first | omega | decide | rfl) ?_
        | refine Idx.nat (by omega) ?_
        | refine Idx.auto (by first | omega | decide) (by first | omega | decide) ?_
        | refine Cell.ro rfl ?_
        | refine SDraw.all (by kernel_rfl) ?_
        | refine Kept.k0 ?_
        | refine Kept.k1 ?_
        | refine Kept.k2 ?_
        | refine Kept.k3 ?_
        | refine Kept.k4 ?_))
    all_goals (conv => whnf)
    exact Keep.sub [] (List.nil_sublist _) h
theorem c32 {q c N : Nat} {L : List Mas} (hlen : L.length * 24 ≤ 140737488355328) (h : ∀ q' c', L.length ≤ c' → K (.slice (some ⟨q', 0, none⟩) L.length c') [(q', .buf 30 (L.flatMap Mas.cells) (c' * 3))]) :
    SCalls Try.prog 32 [.slice (some ⟨q, 0, none⟩) L.length c] [(q, .buf 30 (L.flatMap Mas.cells) N)] K := by
  refine enter32 ?_
  rcases L with _ | ⟨m, L⟩
  · repeat' ((conv => whnf); (first
        | refine RawV.toBuf (A := []) (RawV.appE (bytes := 24) (size := 3) (e := 30) rfl (by kernel_rfl) (Nat.le_refl 0) ?_)
        | refine New.mk (fun _ => ?_)
        | refine Look.at0 ?_
        | refine Cell.row ?_
        | refine Cell.buf ?_
        | refine Cells.row rfl ?_
        | refine Put.row rfl ?_
        | refine Put.buf rfl ?_
        | refine Look.at1 ?_
        | refine Look.at2 ?_
        | refine Look.at3 ?_
        | refine Look.at4 ?_
        | refine Look.at5 ?_
        | refine Look.at6 ?_
        | refine Look.at7 ?_
        | refine Look.at8 ?_
        | with_reducible refine Val.i64 (by omega) (by omega) ?_
        | with_reducible refine Val.u8 (by omega) (by omega) ?_
        | with_reducible refine Val.u32 (by omega) (by omega) ?_
        | with_reducible refine Val.u64 (by omega) (by omega) ?_
        | with_reducible refine Val.u8m ?_
        | with_reducible refine Val.u32m ?_
        | with_reducible refine Val.u64m ?_
        | with_reducible refine Val.shr8 ?_
        | with_reducible refine Val.shr16 (by decide) ?_
        | with_reducible refine Val.shr24 (by decide) ?_
        | with_reducible refine Val.raw ?_
        | refine Branch.not ?_
        | refine Branch.and ?_
        | refine Branch.or ?_
        | refine Branch.dt (by assumption) ?_
        | refine Branch.df (by assumption) ?_
        | refine Branch.dt rfl ?_
        | refine Branch.dt (by omega) ?_
        | refine Branch.df (by omega) ?_
        | refine Branch.t rfl ?_
        | refine Branch.f rfl ?_
        | refine Branch.t (by assumption) ?_
        | refine Branch.f (by assumption) ?_
        | refine Branch.d (fun _ => ?_) (fun _ => ?_)
        | refine Branch.mk (fun _ => ?_) (fun _ => ?_)
        | refine Need.mk (by first | omega | decide | rfl) ?_
        | refine Idx.nat (by omega) ?_
        | refine Idx.auto (by first | omega | decide) (by first | omega | decide) ?_
        | refine Cell.ro rfl ?_
        | refine SDraw.all (by kernel_rfl) ?_
        | refine Kept.k0 ?_
        | refine Kept.k1 ?_
        | refine Kept.k2 ?_
        | refine Kept.k3 ?_
        | refine Kept.k4 ?_))
    all_goals (conv => whnf)
    exact Keep.sub [(_, _)] (List.Sublist.cons_cons _ (List.nil_sublist _)) (h _ 0 (Nat.le_refl 0))
  · generalize hL : m :: L = L' at *
    have hn : ∀ j v, (L'.flatMap Mas.cells)[j]? = some v → (Blk.buf 30 (L'.flatMap Mas.cells) N).cell (0 + j) = some v := by
      intro j v hj
      rw [Nat.zero_add]; exact hj
    have h1 : ∀ u ∈ L'.flatMap Mas.cells, u.oneCell' = true := by
      intro u hu
      obtain ⟨x, _, hx⟩ := List.mem_flatMap.1 hu
      simp only [Mas.cells, List.mem_cons, List.not_mem_nil, or_false] at hx
      rcases hx with rfl | rfl | rfl <;> rfl
    repeat' ((conv => whnf); (first
        | refine RawV.toBuf (A := []) (RawV.appT (A := []) (B := [_]) (n := 0) (cap := 0) (m := L'.length) (cs := []) (news := L'.flatMap Mas.cells) (r2 := q) (o2 := 0) (b2 := .buf 30 (L'.flatMap Mas.cells) N) (size := 3) (bytes := 24) (e := 30) rfl (by kernel_rfl) (by decide) rfl rfl (Nat.le_refl 0) (Nat.zero_le _) (.tail _ (.head _)) (flat_len Mas.len _) hn h1 (by unfold maxLen; omega) (by omega) (fun r' cap' g1 g2 => ?_))
        | refine New.mk (fun _ => ?_)
        | refine Look.at0 ?_
        | refine Cell.row ?_
        | refine Cell.buf ?_
        | refine Cells.row rfl ?_
        | refine Put.row rfl ?_
        | refine Put.buf rfl ?_
        | refine Look.at1 ?_
        | refine Look.at2 ?_
        | refine Look.at3 ?_
        | refine Look.at4 ?_
        | refine Look.at5 ?_
        | refine Look.at6 ?_
        | refine Look.at7 ?_
        | refine Look.at8 ?_
        | with_reducible refine Val.i64 (by omega) (by omega) ?_
        | with_reducible refine Val.u8 (by omega) (by omega) ?_
        | with_reducible refine Val.u32 (by omega) (by omega) ?_
        | with_reducible refine Val.u64 (by omega) (by omega) ?_
        | with_reducible refine Val.u8m ?_
        | with_reducible refine Val.u32m ?_
        | with_reducible refine Val.u64m ?_
        | with_reducible refine Val.shr8 ?_
        | with_reducible refine Val.shr16 (by decide) ?_
        | with_reducible refine Val.shr24 (by decide) ?_
        | with_reducible refine Val.raw ?_
        | refine Branch.not ?_
        | refine Branch.and ?_
        | refine Branch.or ?_
        | refine Branch.dt (by assumption) ?_
        | refine Branch.df (by assumption) ?_
        | refine Branch.dt rfl ?_
        | refine Branch.dt (by omega) ?_
        | refine Branch.df (by omega) ?_
        | refine Branch.t rfl ?_
        | refine Branch.f rfl ?_
        | refine Branch.t (by assumption) ?_
        | refine Branch.f (by assumption) ?_
        | refine Branch.d (fun _ => ?_) (fun _ => ?_)
        | refine Branch.mk (fun _ => ?_) (fun _ => ?_)
        | refine Need.mk (by first | omega | decide | rfl) ?_
        | refine Idx.nat (by omega) ?_
        | refine Idx.auto (by first | omega | decide) (by first | omega | decide) ?_
        | refine Cell.ro rfl ?_
        | refine SDraw.all (by kernel_rfl) ?_
        | refine Kept.k0 ?_
        | refine Kept.k1 ?_
        | refine Kept.k2 ?_
        | refine Kept.k3 ?_
        | refine Kept.k4 ?_))
    all_goals (conv => whnf)
    rw [Nat.zero_add]
    exact Keep.sub [(_, _)] (List.Sublist.cons_cons _ (List.nil_sublist _)) (h _ _ (by omega))
theorem c16 {q c N : Nat} {L : List Mas} (hlen : L.length * 24 ≤ 140737488355328)
    (h0 : firstF L = none → K (.tuple ⟨[.int .i64 0, .bool false]⟩) []) (h1 : ∀ x, firstF L = some x → K (.tuple ⟨[.int .i64 x.node, .bool true]⟩) []) :
    SCalls Try.prog 16 [.slice (some ⟨q, 0, none⟩) L.length c] [(q, .buf 30 (L.flatMap Mas.cells) N)] K := by
  have hol : (onF L).length ≤ L.length := List.length_filter_le _ _
  unfold firstF at h0 h1
  refine enter16 ?_
  cases ho : onF L with
  | nil =>
    rw [ho] at h0
    repeat' ((conv => whnf); (first
        | refine c32 hlen (fun q' c' hc' => ?_)
        | refine c31 (by omega) hc' (fun ys => ?_)
        | refine Branch.dt (by rw [ho]; rfl) ?_
        | refine New.mk (fun _ => ?_)
        | refine Look.at0 ?_
        | refine Cell.row ?_
        | refine Cell.buf ?_
        | refine Cells.row rfl ?_
        | refine Put.row rfl ?_
        | refine Put.buf rfl ?_
        | refine Look.at1 ?_
        | refine Look.at2 ?_
        | refine Look.at3 ?_
        | refine Look.at4 ?_
        | refine Look.at5 ?_
        | refine Look.at6 ?_
        | refine Look.at7 ?_
        | refine Look.at8 ?_
        | with_reducible refine Val.i64 (by omega) (by omega) ?_
        | with_reducible refine Val.u8 (by omega) (by omega) ?_
        | with_reducible refine Val.u32 (by omega) (by omega) ?_
        | with_reducible refine Val.u64 (by omega) (by omega) ?_
        | with_reducible refine Val.u8m ?_
        | with_reducible refine Val.u32m ?_
        | with_reducible refine Val.u64m ?_
        | with_reducible refine Val.shr8 ?_
        | with_reducible refine Val.shr16 (by decide) ?_
        | with_reducible refine Val.shr24 (by decide) ?_
        | with_reducible refine Val.raw ?_
        | refine Branch.not ?_
        | refine Branch.and ?_
        | refine Branch.or ?_
        | refine Branch.dt (by assumption) ?_
        | refine Branch.df (by assumption) ?_
        | refine Branch.dt rfl ?_
        | refine Branch.dt (by omega) ?_
        | refine Branch.df (by omega) ?_
        | refine Branch.t rfl ?_
        | refine Branch.f rfl ?_
        | refine Branch.t (by assumption) ?_
        | refine Branch.f (by assumption) ?_
        | refine Branch.d (fun _ => ?_) (fun _ => ?_)
        | refine Branch.mk (fun _ => ?_) (fun _ => ?_)
        | refine Need.mk (by first | omega | decide | rfl) ?_
        | refine Idx.nat (by omega) ?_
        | refine Idx.auto (by first | omega | decide) (by first | omega | decide) ?_
        | refine Cell.ro rfl ?_
        | refine SDraw.all (by kernel_rfl) ?_
        | refine Kept.k0 ?_
        | refine Kept.k1 ?_
        | refine Kept.k2 ?_
        | refine Kept.k3 ?_
        | refine Kept.k4 ?_))
    all_goals (conv => whnf)
    exact Keep.sub [] (List.nil_sublist _) (h0 rfl)
  | cons x0 r =>
    rw [ho] at h1 hol
    repeat' ((conv => whnf); (first
        | refine c32 hlen (fun q' c' hc' => ?_)
        | (refine c31 (by omega) hc' (fun ys => ?_); rw [ho])
        | refine Branch.df (by simp; omega) ?_
        | refine c34 (by omega) ?_
        | refine New.mk (fun _ => ?_)
        | refine Look.at0 ?_
        | refine Cell.row ?_
        | refine Cell.buf ?_
        | refine Cells.row rfl ?_
        | refine Put.row rfl ?_
        | refine Put.buf rfl ?_
        | refine Look.at1 ?_
        | refine Look.at2 ?_
        | refine Look.at3 ?_
        | refine Look.at4 ?_
        | refine Look.at5 ?_
        | refine Look.at6 ?_
        | refine Look.at7 ?_
        | refine Look.at8 ?_
        | with_reducible refine Val.i64 (by omega) (by omega) ?_
        | with_reducible refine Val.u8 (by omega) (by omega) ?_
        | with_reducible refine Val.u32 (by omega) (by omega) ?_
        | with_reducible refine Val.u64 (by omega) (by omega) ?_
        | with_reducible refine Val.u8m ?_
        | with_reducible refine Val.u32m ?_
        | with_reducible refine Val.u64m ?_
        | with_reducible refine Val.shr8 ?_
        | with_reducible refine Val.shr16 (by decide) ?_
        | with_reducible refine Val.shr24 (by decide) ?_
        | with_reducible refine Val.raw ?_
        | refine Branch.not ?_
        | refine Branch.and ?_
        | refine Branch.or ?_
        | refine Branch.dt (by assumption) ?_
        | refine Branch.df (by assumption) ?_
        | refine Branch.dt rfl ?_
        | refine Branch.dt (by omega) ?_
        | refine Branch.df (by omega) ?_
        | refine Branch.t rfl ?_
        | refine Branch.f rfl ?_
        | refine Branch.t (by assumption) ?_
        | refine Branch.f (by assumption) ?_
        | refine Branch.d (fun _ => ?_) (fun _ => ?_)
        | refine Branch.mk (fun _ => ?_) (fun _ => ?_)
        | refine Need.mk (by first | omega | decide | rfl) ?_
        | refine Idx.nat (by omega) ?_
        | refine Idx.auto (by first | omega | decide) (by first | omega | decide) ?_
        | refine Cell.ro rfl ?_
        | refine SDraw.all (by kernel_rfl) ?_
        | refine Kept.k0 ?_
        | refine Kept.k1 ?_
        | refine Kept.k2 ?_
        | refine Kept.k3 ?_
        | refine Kept.k4 ?_))
    all_goals (conv => whnf)
    exact Keep.sub [] (List.nil_sublist _) (h1 _ rfl)
end
end Go.Proofs.Ytmakaofdpoiaaaa
