/- Sx, part K: the walk through operations whose order is open ('SDraw.held'). -/
import Derived.Test.YtkegkhhfbfegoaaSxJ
set_option linter.unusedVariables false
set_option linter.unusedSimpArgs false
namespace Go.Proofs.Ytkegkhhfbfegoaa.Sx
open Go.RowKit

/-- All that Hs tells is known by H. -/
inductive Seen (H : Heap) : Heap → Prop
  | nil : Seen H []
  | same {p : Nat × Blk} {Hs : Heap} : p ∈ H → Seen H Hs → Seen H (p :: Hs)
  | part {r : Nat} {b : Blk} {f : Nat → Option Value} {Hs : Heap} : (r, b) ∈ H → (∀ j v, f j = some v → b.cell j = some v) → Seen H Hs → Seen H ((r, .ro f) :: Hs)
/-- All of Hs is known still. -/
inductive Kept (Hs H : Heap) (K : Prop) : Prop
  | mk : Seen H Hs → K → Kept Hs H K
/-- An operation that only reads, from what is kept. -/
def xread (x : XOp) (l : List Value) (Hs : Heap) (K : Value → Prop) : Prop :=
  match x with
  | .pure p => xpure p l K
  | .load agg n a => loadK agg n (ev l a) Hs K
  | _ => False
def xtake (x : XO) (l : List Value) (Hs : Heap) (K : List Value → Prop) : Prop :=
  match x.guard with
  | none => xread x.op l Hs fun v => dstK x.dst l v K
  | some (g, want) => match getL l g with
    | .bool b => Branch b
      (match want with | true => xread x.op l Hs fun v => dstK x.dst l v K | false => dstK x.dst l undef K)
      (match want with | false => xread x.op l Hs fun v => dstK x.dst l v K | true => dstK x.dst l undef K)
    | _ => dstK x.dst l undef K
def xscr (P : Program) (Hs : Heap) (s : Scr) : List Value → Heap → (List Value → Heap → Prop) → Prop :=
  Scr.rec (motive := fun _ => List Value → Heap → (List Value → Heap → Prop) → Prop)
    (fun l H K => K l H)
    (fun x _ ih l H K => xtake x l Hs fun l' => ih l' H K)
    (fun x _ rest ih1 ih2 l H K => Scr.casesOn (motive := fun _ => Prop) rest
      ((xo P x l H fun l' H' => Kept Hs H' (ih1 l' H' K)) ∧ ih2 l H K)
      (fun _ _ => (xo P x l H fun l' H' => Kept Hs H' (ih1 l' H' K)) ∧ ih2 l H K)
      (fun _ _ _ => (xo P x l H fun l' H' => Kept Hs H' (ih1 l' H' K)) ∧ ih2 l H K)
      (xo P x l H fun l' H' => Kept Hs H' (ih1 l' H' K))
      ((xo P x l H fun l' H' => Kept Hs H' (ih1 l' H' K)) ∧ ih2 l H K))
    (fun _ _ _ => True) (fun _ _ _ => False) s
section
variable {P : Program} {ops : Array Oper} {l : List Value} {H Hs : Heap} {w : World}
abbrev SH (Hs : Heap) (w : World) : Prop := ∀ p ∈ Hs, p.2.At w p.1
theorem Seen.ok (hw : Holds w H) (h : Seen H Hs) : SH Hs w := by
  induction h with
  | nil => intro p hp; cases hp
  | same hp _ ih =>
    intro q hq
    rcases List.mem_cons.1 hq with rfl | hq
    · exact hw.at_ _ hp
    · exact ih q hq
  | part hp hf _ ih =>
    intro q hq
    rcases List.mem_cons.1 hq with rfl | hq
    · have := hw.at_ _ hp
      exact ⟨this.lt, fun j v hj => cell_at this (hf j v hj)⟩
    · exact ih q hq
theorem xread_ok {o : Oper} {x : XOp} (hc : cOp P o = x) {K : Value → Prop} (h : xread x l Hs K) : ∃ v, (∀ w, SH Hs w → (execOp (act l).eval o).run P w = .ok (.value v) w) ∧ K v := by
  cases x with
  | pure p =>
    obtain ⟨v, h1, h2⟩ := xpure_ok hc h
    exact ⟨v, fun w _ => h1 w, h2⟩
  | load agg n a =>
    obtain ⟨dst, op, type, pos, after, guard⟩ := o
    cases op <;> simp only [cOp, cBin, cCall, eqAggOf] at hc
    case load t y =>
      split at hc
      · rename_i b m ha
        injection hc with h1 h2 h3
        subst h1; subst h2; subst h3
        obtain ⟨u, h1, h2⟩ := load_ok (H := Hs) (K := K) ha h
        refine ⟨u, fun w hw => run_value ?_, h2⟩
        simp only [ev_eq, h1 w hw]
      · cases hc
    all_goals ((repeat' (split at hc)) <;> cases hc)
  | _ => exact h.elim
theorem xtake_ok {o : Oper} {x : XO} (hx : cOper P ops o = some x) {K : List Value → Prop} (h : xtake x l Hs K) :
    ∃ v, YieldsIf P ops (SH Hs) o v (act l) ∧ ∃ l', (act l).put o.dst v = act l' ∧ K l' := by
  unfold cOper at hx
  cases hg : cGuard ops o.guard with
  | none => rw [hg] at hx; cases hx
  | some g =>
    rw [hg] at hx
    injection hx with hx
    subst hx
    unfold xtake at h
    have yes : Region.wanted o (yielded ops (act l).tmps) = true → xread (cOp P o) l Hs (fun v => dstK o.dst l v K) → ∃ v, YieldsIf P ops (SH Hs) o v (act l) ∧ ∃ l', (act l).put o.dst v = act l' ∧ K l' := fun hw h => by
      obtain ⟨v, h1, h2⟩ := xread_ok rfl h
      exact ⟨v, .inl ⟨hw, h1⟩, dstK_ok h2⟩
    have no : Region.wanted o (yielded ops (act l).tmps) = false → dstK o.dst l undef K → ∃ v, YieldsIf P ops (SH Hs) o v (act l) ∧ ∃ l', (act l).put o.dst v = act l' ∧ K l' := fun hw h =>
      ⟨undef, .inr ⟨hw, rfl⟩, dstK_ok h⟩
    cases hgo : o.guard with
    | none =>
      rw [hgo] at hg
      simp only [cGuard, Option.some.injEq] at hg
      subst hg
      exact yes (by simp [Region.wanted, hgo]) h
    | some jw =>
      obtain ⟨j, want⟩ := jw
      rw [hgo] at hg
      unfold cGuard at hg
      cases hd : (ops[j]?).bind (·.dst) with
      | none => simp [hd] at hg
      | some gs =>
        simp only [hd, Option.some.injEq] at hg
        subst hg
        have hy : yielded ops (act l).tmps j = _ := getL_yield hd
        simp only at h
        split at h
        · rename_i b hb
          rw [hb] at hy
          have hwant : Region.wanted o (yielded ops (act l).tmps) = (b == want) := by
            simp only [Region.wanted, hgo, hy]
            cases b <;> cases want <;> rfl
          obtain ⟨h1, h2⟩ := h
          cases b <;> cases want
          · exact yes hwant (h2 rfl)
          · exact no hwant (h2 rfl)
          · exact no hwant (h1 rfl)
          · exact yes hwant (h1 rfl)
        · rename_i hnb
          have hwant : Region.wanted o (yielded ops (act l).tmps) = false := by
            simp only [Region.wanted, hgo, hy]
            cases hv : getL l gs <;> first | rfl | exact absurd hv (hnb _)
          exact no hwant h

/-- The first k have come up. -/
def upTo (k n : Nat) : Array Bool := (List.replicate k true ++ List.replicate (n - k) false).toArray
theorem upTo_getD (k n i : Nat) : (upTo k n).getD i false = decide (i < k) := by
  unfold upTo
  simp only [Array.getD_eq_getD_getElem?, List.getElem?_toArray]
  rcases Nat.lt_or_ge i k with h | h
  · rw [List.getElem?_append_left (by simpa using h)]; simp [h]
  · rw [List.getElem?_append_right (by simpa using h)]
    simp only [List.length_replicate, List.getElem?_replicate]
    have : ¬ i < k := by omega
    split <;> simp [this]
theorem upTo_getT (k n i : Nat) (hi : i < n) : (upTo k n).getD i true = decide (i < k) := by
  unfold upTo
  simp only [Array.getD_eq_getD_getElem?, List.getElem?_toArray]
  rcases Nat.lt_or_ge i k with h | h
  · rw [List.getElem?_append_left (by simpa using h)]; simp [h]
  · rw [List.getElem?_append_right (by simpa using h)]
    simp only [List.length_replicate, List.getElem?_replicate]
    have : ¬ i < k := by omega
    rw [if_pos (by omega)]
    simp [this]
theorem upTo_set (k n : Nat) (h : k < n) : (upTo k n).setIfInBounds k true = upTo (k + 1) n := by
  unfold upTo
  simp only [List.setIfInBounds_toArray]
  congr 1
  apply List.ext_getElem?
  intro i
  rw [List.getElem?_set]
  simp only [List.length_append, List.length_replicate]
  split
  · rename_i e
    subst e
    rw [if_pos (by omega), List.getElem?_append_left (by simp)]
    simp
  · rename_i e
    rcases Nat.lt_or_ge i k with h1 | h1
    · rw [List.getElem?_append_left (by simpa using h1), List.getElem?_append_left (by simp; omega)]
      simp only [List.getElem?_replicate]
      rw [if_pos h1, if_pos (by omega)]
    · rw [List.getElem?_append_right (by simpa using h1), List.getElem?_append_right (by simp; omega)]
      simp only [List.length_replicate, List.getElem?_replicate]
      by_cases h2 : i < n
      · rw [if_pos (by omega), if_pos (by omega)]
      · rw [if_neg (by omega), if_neg (by omega)]

variable {w0 : World} {H0 : Heap} {K : List Value → Heap → Prop} {xs : List XO}
/-- What goes on nowhere but ahead. -/
def Qn (w0 : World) (H0 : Heap) (K : List Value → Heap → Prop) : Exit → Act → World → Prop
  | .normal, a, w => Next1 w0 H0 K a w
  | _, _, _ => False
theorem xs_get (hxs : cOpers P ops ops.toList = some xs) {i : Nat} {x : XO} (hi : xs[i]? = some x) : ∃ o, ops[i]? = some o ∧ cOper P ops o = some x := by
  have hl := cOpers_length hxs
  have hlt : i < ops.toList.length := by rw [← hl]; exact (List.getElem?_eq_some_iff.1 hi).1
  obtain ⟨x', h1, h2⟩ := cOpers_get hxs i ops.toList[i] (List.getElem?_eq_getElem hlt)
  rw [hi] at h1
  injection h1 with h1
  subst h1
  refine ⟨_, ?_, h2⟩
  simp at hlt
  simp [hlt]
theorem depsOk_spec (hd : depsOk ops.toList = true) {j i : Nat} {o : Oper} (ho : ops[j]? = some o) (hi : i ∈ directOf o) : i < j := by
  unfold depsOk at hd
  rw [List.all_eq_true] at hd
  have hlt : j < ops.toList.length := by simpa using (Array.getElem?_eq_some_iff.1 ho).1
  have := hd j (List.mem_range.2 hlt)
  have ho' : ops.toList[j]? = some o := by simpa using ho
  rw [ho'] at this
  simp only [List.all_eq_true, decide_eq_true_eq] at this
  exact this i hi
/-- What comes behind all that is open. -/
theorem tail_ok (hxs : cOpers P ops ops.toList = some xs) (hd : depsOk ops.toList = true) : ∀ (r k : Nat) (l : List Value) (H : Heap) (w : World) (fuel : Nat), k + r = ops.size → floatN ops.toList ≤ k → r ≤ fuel →
    xops P (xs.drop k) l H K → Holds w H → Step w0 H0 w H → wpAny P .any ops (Qn w0 H0 K) fuel (upTo k ops.size) (act l) w
  | 0, k, l, H, w, fuel, hk, hm, hf, h, hw, hs => by
    have hl := cOpers_length hxs
    have hdrop : xs.drop k = [] := List.drop_eq_nil_of_le (by rw [hl]; simp; omega)
    rw [hdrop] at h
    refine wpAny_done ?_ ⟨l, H, rfl, hw, hs, h⟩ fuel
    apply List.eq_nil_iff_forall_not_mem.2
    intro j hj
    have h1 := ready_lt hj
    have h2 := ready_not hj
    unfold Dn at h2
    rw [upTo_getD] at h2
    simp at h2
    omega
  | r + 1, k, l, H, w, 0, hk, hm, hf, h, hw, hs => by omega
  | r + 1, k, l, H, w, fuel + 1, hk, hm, hf, h, hw, hs => by
    have hl := cOpers_length hxs
    have hkl : k < xs.length := by rw [hl]; simp; omega
    have hclosed : Closed ops (Dn (upTo k ops.size)) := by
      intro j hj o ho i hi
      have := depsOk_spec hd ho hi
      unfold Dn at hj ⊢
      rw [upTo_getD] at hj ⊢
      simp at hj ⊢
      omega
    obtain ⟨o, ho, hox⟩ := xs_get hxs (List.getElem?_eq_getElem hkl)
    have hready : k ∈ Region.ready .any ops (upTo k ops.size) := by
      rw [mem_ready]
      refine ⟨by rw [upTo_getT _ _ _ (by omega)]; simp, o, ho, fun e he hb => ?_⟩
      have := depsOk_spec hd ho (mem_directOf.2 ⟨e, he, hb, rfl⟩)
      rw [upTo_getD]; simpa using this
    refine ⟨fun h0 => (by rw [h0] at hready; cases hready), fun j hj => ?_⟩
    have hjk : j = k := by
      have h2 := ready_not hj
      unfold Dn at h2
      rw [upTo_getD] at h2
      simp at h2
      rcases Nat.lt_or_ge k j with h3 | h3
      · have hb := floatN_spec (ops := ops) (j := j) (i := k) (by omega) (ready_lt hj) h3
        have := hb.closed hclosed (ready_direct hj)
        unfold Dn at this
        rw [upTo_getD] at this
        simp at this
      · omega
    subst hjk
    rw [List.drop_eq_getElem_cons hkl] at h
    refine wpOp_mono ?_ (xo_ok ho hox h hw _)
    rintro a w' ⟨l', H', rfl, h1, h2, h3⟩
    rw [upTo_set _ _ (by omega)]
    exact tail_ok hxs hd r (j + 1) l' H' w' fuel (by omega) (by omega) (by omega) h3 h1 (hs.trans h2)
theorem pickTake_spec {listed : Array Bool} {r : List Nat} {i : Nat} {x : XO} (h : pickTake ops xs listed r = some (i, x)) : i ∈ r ∧ xs[i]? = some x ∧ x.op.takes = true ∧ Region.free .any ops listed i = true := by
  induction r with
  | nil => simp [pickTake] at h
  | cons j r ih =>
    unfold pickTake at h
    split at h
    · rename_i y hy
      split at h
      · rename_i hc
        simp only [Option.some.injEq, Prod.mk.injEq] at h
        obtain ⟨rfl, rfl⟩ := h
        simp only [Bool.and_eq_true] at hc
        exact ⟨List.mem_cons_self, hy, hc.1, hc.2⟩
      · obtain ⟨h1, h2⟩ := ih h
        exact ⟨List.mem_cons_of_mem _ h1, h2⟩
    · obtain ⟨h1, h2⟩ := ih h
      exact ⟨List.mem_cons_of_mem _ h1, h2⟩
theorem alt_spec {C : Nat → Scr} (rs : List Nat) (hin : ∀ i ∈ rs, ∃ x, xs[i]? = some x) : xscr P Hs (rs.foldr (fun i rest => match xs[i]? with
        | some x => Scr.alt x (C i) rest
        | none => rest) .off) l H K → ∀ i ∈ rs, ∃ x, xs[i]? = some x ∧ xo P x l H fun l' H' => Kept Hs H' (xscr P Hs (C i) l' H' K) := by
  induction rs with
  | nil => intro _ i hi; cases hi
  | cons j r ih =>
    intro h i hi
    obtain ⟨x, hx⟩ := hin j List.mem_cons_self
    simp only [List.foldr_cons, hx] at h
    have two : (xo P x l H fun l' H' => Kept Hs H' (xscr P Hs (C j) l' H' K)) ∧ xscr P Hs (r.foldr (fun i rest => match xs[i]? with
        | some x => Scr.alt x (C i) rest
        | none => rest) .off) l H K := by
      generalize r.foldr (fun i rest => match xs[i]? with
        | some x => Scr.alt x (C i) rest
        | none => rest) .off = rest at h
      cases rest with
      | off => exact ⟨h, trivial⟩
      | bad => exact h
      | done => exact h
      | take _ _ => exact h
      | alt _ _ _ => exact h
    rcases List.mem_cons.1 hi with rfl | hi
    · exact ⟨x, hx, two.1⟩
    · exact ih (fun i hi => hin i (List.mem_cons_of_mem _ hi)) two.2 i hi
theorem upTo_done {m n : Nat} {listed : Array Bool} (hs : listed.size = n) (hm : m ≤ n) (hlow : ∀ i, m ≤ i → listed.getD i false = false) (hd : doneTo m listed = true) : listed = upTo m n := by
  apply Array.ext
  · simp [upTo, hs]; omega
  · intro i h1 h2
    have h3 := upTo_getD m n i
    have h4 : listed.getD i false = decide (i < m) := by
      rcases Nat.lt_or_ge i m with h | h
      · rw [doneTo_spec.1 hd i h]; simp [h]
      · rw [hlow i h]; simp; omega
    rw [← h4] at h3
    simpa [Array.getD_eq_getD_getElem?, h1, h2] using h3.symm
/-- The walk does what it says. -/
theorem xscr_ok (hxs : cOpers P ops ops.toList = some xs) (hsel : Region.noSelect ops = true) (hd : depsOk ops.toList = true) (hmn : floatN ops.toList ≤ ops.size) :
    ∀ (fuel : Nat) (listed : Array Bool) (l : List Value) (H : Heap) (w : World) (k : Nat), listed.size = ops.size → (∀ i, floatN ops.toList ≤ i → listed.getD i false = false) → Closed ops (Dn listed) → ops.size - floatN ops.toList ≤ k →
      Holds w H → SH Hs w → Step w0 H0 w H → xscr P Hs (scrOf ops xs (floatN ops.toList) fuel listed) l H (fun l' H' => xops P (xs.drop (floatN ops.toList)) l' H' K) → wpF P ops (Qn w0 H0 K) (SH Hs) (floatN ops.toList) (fuel + k) listed (act l) w := by
  have fin : ∀ (fuel : Nat) (listed : Array Bool) (l : List Value) (H : Heap) (w : World), listed.size = ops.size → (∀ i, floatN ops.toList ≤ i → listed.getD i false = false) → ops.size - floatN ops.toList ≤ fuel →
      Holds w H → Step w0 H0 w H → doneTo (floatN ops.toList) listed = true → xops P (xs.drop (floatN ops.toList)) l H K → wpF P ops (Qn w0 H0 K) (SH Hs) (floatN ops.toList) fuel listed (act l) w := by
    intro fuel listed l H w hsz hlow hk hw hs hdn h
    have e := upTo_done hsz hmn hlow hdn
    have ht := tail_ok (w0 := w0) (H0 := H0) (K := K) hxs hd (ops.size - floatN ops.toList) (floatN ops.toList) l H w fuel (by omega) (Nat.le_refl _) hk h hw hs
    rw [← e] at ht
    cases fuel with
    | zero => exact ht
    | succ f =>
      unfold wpF
      rw [hdn]
      exact ht
  intro fuel
  induction fuel with
  | zero =>
    intro listed l H w k hsz hlow hcl hk hw hSH hs h
    unfold scrOf at h
    cases hdn : doneTo (floatN ops.toList) listed with
    | true =>
      rw [hdn] at h
      exact fin _ listed l H w hsz hlow (by omega) hw hs hdn h
    | false => rw [hdn] at h; exact h.elim
  | succ fuel ih =>
    intro listed l H w k hsz hlow hcl hk hw hSH hs h
    have hl := cOpers_length hxs
    unfold scrOf at h
    cases hdn : doneTo (floatN ops.toList) listed with
    | true =>
      rw [hdn] at h
      exact fin _ listed l H w hsz hlow (by omega) hw hs hdn h
    | false =>
      rw [hdn] at h
      simp only at h
      have hnd : ∃ i, i < floatN ops.toList ∧ ¬ Dn listed i := by
        by_cases hex : ∃ i, i < floatN ops.toList ∧ ¬ Dn listed i
        · exact hex
        · have : doneTo (floatN ops.toList) listed = true := doneTo_spec.2 fun i hi => by
            cases hv : listed.getD i false with
            | true => rfl
            | false => exact absurd ⟨i, hi, by unfold Dn; rw [hv]; simp⟩ hex
          rw [this] at hdn; cases hdn
      obtain ⟨i0, hi0, hni0⟩ := hnd
      have hset : ∀ j, j ∈ Region.ready .any ops listed → (listed.setIfInBounds j true).size = ops.size ∧ (∀ i, floatN ops.toList ≤ i → (listed.setIfInBounds j true).getD i false = false) ∧ Closed ops (Dn (listed.setIfInBounds j true)) := by
        intro j hj
        have hjm := ready_below rfl hcl hi0 hni0 hj
        refine ⟨by simpa using hsz, fun i hi => ?_, closed_set hcl hj⟩
        rw [getD_set_ne false (by omega)]
        exact hlow i hi
      have hfk : fuel + 1 + k = (fuel + k) + 1 := by omega
      rw [hfk]
      split at h
      · rename_i i x hp
        obtain ⟨h1, h2, h3, h4⟩ := pickTake_spec hp
        obtain ⟨o, ho, hox⟩ := xs_get hxs h2
        obtain ⟨v, hy, l', hl', hnext⟩ := xtake_ok (K := fun l' => xscr P Hs (scrOf ops xs (floatN ops.toList) fuel (listed.setIfInBounds i true)) l' H fun l' H' => xops P (xs.drop (floatN ops.toList)) l' H' K) hox h
        obtain ⟨g1, g2, g3⟩ := hset i h1
        refine wpF_first rfl (ready_below rfl hcl hi0 hni0 h1) ho (Region.noSelect_spec hsel) (fun _ _ _ h => h) (fuel + k) listed (act l) w hcl ?_ h1 hy hSH ?_
        · exact fun j oj hj hne hun hno => Region.free_spec ho h4 j oj hj hne hun hno
        · rw [hl']
          exact ih (listed.setIfInBounds i true) l' H w k g1 g2 g3 hk hw hSH hs hnext
      · unfold wpF
        rw [hdn]
        split at h
        · exact h.elim
        · rename_i j r hr
          refine ⟨fun h0 => (by rw [h0] at hr; cases hr), fun i hi => ?_⟩
          obtain ⟨x, hx, h'⟩ := alt_spec (P := P) (Hs := Hs) (l := l) (H := H) (C := fun i => scrOf ops xs (floatN ops.toList) fuel (listed.setIfInBounds i true)) (j :: r) (fun i hi => by
            rw [← hr] at hi
            exact ⟨xs[i]'(by rw [hl]; simpa using ready_lt hi), List.getElem?_eq_getElem _⟩) h i (by rw [← hr]; exact hi)
          obtain ⟨o, ho, hox⟩ := xs_get hxs hx
          obtain ⟨g1, g2, g3⟩ := hset i hi
          refine wpOp_mono ?_ (xo_ok ho hox h' hw _)
          rintro a w' ⟨l', H', rfl, k1, k2, ⟨k3, k4⟩⟩
          have hS' : SH Hs w' := k3.ok k1
          exact ⟨hS', ih (listed.setIfInBounds i true) l' H' w' k g1 g2 g3 hk k1 hS' (hs.trans k2) k4⟩
end
/-- Operations in whatever order: what is read in between is kept by all that acts. -/
theorem SDraw.held {P : Program} {s : Scr} {tail : List XO} {K : List Value → Heap → Prop} {l : List Value} {H : Heap} (hm : P.follows .mixedOrders = true) (Hs : Heap) (hsub : Seen H Hs)
    (h : xscr P Hs s l H fun l' H' => xops P tail l' H' K) : SDraw P s tail K l H := by
  refine ⟨fun id ops Q hc hQ w hw => ?_⟩
  unfold cDraw at hc
  split at hc
  · rename_i xs hxs
    split at hc
    · rename_i hb
      simp only [Bool.and_eq_true] at hb
      simp only [Option.some.injEq, Prod.mk.injEq] at hc
      obtain ⟨rfl, rfl⟩ := hc
      have hmn : floatN ops.toList ≤ ops.size := by
        have : ∀ (l : List Nat) (m0 n : Nat), (∀ j ∈ l, j < n) → m0 ≤ n → l.foldr (fun j m => if m = j + 1 ∧ (List.range j).all (fun i => ((beforeOf ops.toList []).getD j []).contains i) then j else m) m0 ≤ n := by
          intro l
          induction l with
          | nil => intro m0 n _ h; exact h
          | cons a l ih =>
            intro m0 n ha h
            simp only [List.foldr_cons]
            split
            · have := ha a List.mem_cons_self; omega
            · exact ih m0 n (fun j hj => ha j (List.mem_cons_of_mem _ hj)) h
        have := this (List.range ops.toList.length) ops.toList.length ops.toList.length (fun j hj => List.mem_range.1 hj) (Nat.le_refl _)
        simpa [floatN] using this
      have h0 := xscr_ok (w0 := w) (H0 := H) (K := K) hxs hb.1 hb.2 hmn (floatN ops.toList) (Array.replicate ops.size false) l H { w with drawn := w.drawn + 1 } (ops.size - floatN ops.toList)
        (by simp) (by intro i _; simp [Array.getD_eq_getD_getElem?, Array.getElem?_replicate]; split <;> rfl) (by intro k hk; exfalso; unfold Dn at hk; simp [Array.getD_eq_getD_getElem?, Array.getElem?_replicate] at hk; split at hk <;> cases hk) (Nat.le_refl _)
        (hw.drew _) (hsub.ok (hw.drew _)) (Step.drew _ _ _) h
      have h1 := wpAny_of_F _ _ _ _ h0
      have e : floatN ops.toList + (ops.size - floatN ops.toList) = ops.size := by omega
      rw [e] at h1
      have h2 := wp_region_any (id := id) hm h1
      refine wp_mono h2 ?_
      intro e a w' hq
      cases e with
      | normal =>
        obtain ⟨l', H', h1, h2, h3, h4⟩ := hq
        exact ⟨l', H', h1, h2, h3, hQ _ _ h4⟩
      | _ => exact hq.elim
    · cases hc
  · cases hc
end Go.Proofs.Ytkegkhhfbfegoaa.Sx
