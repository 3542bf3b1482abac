/- Sx, part J: operations in whatever order: those that only read may be taken first, if what they read is kept by all that acts ('Hs'); what comes behind all of them goes in the text's order. -/
import Derived.Test.YtkegkhhfbfegoaaSxI
set_option linter.unusedVariables false
set_option linter.unusedSimpArgs false
namespace Go.Proofs.Ytkegkhhfbfegoaa.Sx
open Go.RowKit

/- WHO COMES BEHIND WHOM -/
section
variable {P : Program} {ops : Array Oper}
/-- Operation j waits for i, maybe by way of others. -/
inductive Bef (ops : Array Oper) : Nat → Nat → Prop
  | one {j i : Nat} {o : Oper} : ops[j]? = some o → i ∈ directOf o → Bef ops j i
  | more {j k i : Nat} : Bef ops j k → Bef ops k i → Bef ops j i
theorem mem_directOf {o : Oper} {i : Nat} : i ∈ directOf o ↔ ∃ e ∈ o.after, Region.binds .any e = true ∧ e.on = i := by
  simp only [directOf, List.mem_map, List.mem_filter]
  constructor
  · rintro ⟨e, ⟨h1, h2⟩, h3⟩; exact ⟨e, by simpa using h1, h2, h3⟩
  · rintro ⟨e, h1, h2, h3⟩; exact ⟨e, ⟨by simpa using h1, h2⟩, h3⟩
def Closed (ops : Array Oper) (D : Nat → Prop) : Prop := ∀ k, D k → ∀ o, ops[k]? = some o → ∀ i ∈ directOf o, D i
theorem Bef.closed {D : Nat → Prop} (hc : Closed ops D) {j i : Nat} (h : Bef ops j i) : (∀ o, ops[j]? = some o → ∀ i ∈ directOf o, D i) → D i := by
  induction h with
  | one ho hi => exact fun h => h _ ho _ hi
  | more h1 h2 ih1 ih2 => exact fun h => ih2 (fun o ho i hi => hc _ (ih1 h) o ho i hi)
theorem beforeOf_spec : ∀ (os : List Oper) (acc : List (List Nat)), (∀ k o, os[k]? = some o → ops[acc.length + k]? = some o) → (∀ j i, i ∈ acc.getD j [] → Bef ops j i) →
    ∀ j i, i ∈ (beforeOf os acc).getD j [] → Bef ops j i
  | [], acc, _, ha, j, i, h => ha j i h
  | o :: r, acc, ho, ha, j, i, h => by
    refine beforeOf_spec r _ ?_ ?_ j i h
    · intro k o' hk
      have := ho (k + 1) o' (by simpa using hk)
      simpa [Nat.add_assoc, Nat.add_comm 1 k] using this
    · intro j i hi
      by_cases hj : j = acc.length
      · subst hj
        have h0 := ho 0 o rfl
        simp only [Nat.add_zero] at h0
        simp only [List.getD, List.getElem?_append_right (Nat.le_refl _), Nat.sub_self, List.getElem?_cons_zero, Option.getD_some] at hi
        have hi := List.mem_eraseDups.1 hi
        obtain ⟨k, hk, hi⟩ := List.mem_flatMap.1 hi
        rcases List.mem_cons.1 hi with rfl | hi
        · exact .one h0 hk
        · exact .more (.one h0 hk) (ha _ _ hi)
      · rcases Nat.lt_or_ge j acc.length with hlt | hge
        · refine ha j i ?_
          simpa [List.getD, List.getElem?_append_left hlt] using hi
        · have : (acc ++ [((directOf o).flatMap fun j => j :: acc.getD j []).eraseDups])[j]? = none := List.getElem?_eq_none (by simp; omega)
          rw [List.getD_eq_getElem?_getD, this] at hi
          cases hi
theorem floatN_spec {j i : Nat} (hj : floatN ops.toList ≤ j) (hlt : j < ops.size) (hi : i < j) : Bef ops j i := by
  have hb := beforeOf_spec (ops := ops) ops.toList [] (by intro k o hk; simpa using hk) (by intro j i hi; simp at hi)
  have key : ∀ (n : Nat) (l : List Nat) (m0 : Nat), (∀ j, m0 ≤ j → j < n → (List.range j).all (fun i => ((beforeOf ops.toList []).getD j []).contains i) = true) →
      ∀ j, l.foldr (fun j m => if m = j + 1 ∧ (List.range j).all (fun i => ((beforeOf ops.toList []).getD j []).contains i) then j else m) m0 ≤ j → j < n →
        (List.range j).all (fun i => ((beforeOf ops.toList []).getD j []).contains i) = true := by
    intro n l
    induction l with
    | nil => intro m0 h j hj hn; exact h j hj hn
    | cons a l ih =>
      intro m0 h j hj hn
      simp only [List.foldr_cons] at hj
      split at hj
      · rename_i hc
        by_cases hja : j = a
        · subst hja; exact hc.2
        · exact ih m0 h j (by omega) hn
      · exact ih m0 h j hj hn
  have := key ops.size (List.range ops.toList.length) ops.toList.length (by intro j h1 h2; simp at h1; omega) j (by simpa [floatN] using hj) hlt
  rw [List.all_eq_true] at this
  have h1 := this i (List.mem_range.2 hi)
  exact hb j i (by simpa using h1)
end

/- THE ORDER IS OPEN UP TO m -/
section
variable {P : Program} {ops : Array Oper} {Q : Exit → Act → World → Prop} {S : World → Prop} {m : Nat}
theorem doneTo_spec {listed : Array Bool} : doneTo m listed = true ↔ ∀ i, i < m → listed.getD i false = true := by
  simp [doneTo, List.all_eq_true]
def wpF (P : Program) (ops : Array Oper) (Q : Exit → Act → World → Prop) (S : World → Prop) (m : Nat) : Nat → Array Bool → Act → World → Prop
  | 0, listed, a, w => wpAny P .any ops Q 0 listed a w
  | fuel + 1, listed, a, w => match doneTo m listed with
    | true => wpAny P .any ops Q (fuel + 1) listed a w
    | false => (Region.ready .any ops listed = [] → Q .normal a w) ∧ ∀ i ∈ Region.ready .any ops listed, wpOp P ops Q i (fun a' w' => S w' ∧ wpF P ops Q S m fuel (listed.setIfInBounds i true) a' w') a w
theorem wpAny_of_F : ∀ (fuel : Nat) (listed : Array Bool) (a : Act) (w : World), wpF P ops Q S m fuel listed a w → wpAny P .any ops Q fuel listed a w
  | 0, _, _, _, h => h
  | fuel + 1, listed, a, w, h => by
    unfold wpF at h
    split at h
    · exact h
    · exact ⟨h.1, fun i hi => wpOp_mono (fun a' w' h' => wpAny_of_F fuel _ a' w' h'.2) (h.2 i hi)⟩
abbrev Dn (listed : Array Bool) (k : Nat) : Prop := listed.getD k false = true
theorem ready_direct {listed : Array Bool} {j : Nat} (h : j ∈ Region.ready .any ops listed) : ∀ o, ops[j]? = some o → ∀ i ∈ directOf o, Dn listed i := by
  intro o ho i hi
  obtain ⟨_, o', ho', hall⟩ := mem_ready.1 h
  rw [ho] at ho'
  injection ho' with ho'
  subst ho'
  obtain ⟨e, he, hb, rfl⟩ := mem_directOf.1 hi
  exact hall e he hb
theorem closed_set {listed : Array Bool} {j : Nat} (hc : Closed ops (Dn listed)) (h : j ∈ Region.ready .any ops listed) : Closed ops (Dn (listed.setIfInBounds j true)) := by
  intro k hk o ho i hi
  by_cases hkj : k = j
  · subst hkj; exact getD_set_true (ready_direct h o ho i hi)
  · have : Dn listed k := by
      unfold Dn at hk ⊢
      rwa [getD_set_ne false (Ne.symm hkj)] at hk
    exact getD_set_true (hc k this o ho i hi)
theorem ready_lt {listed : Array Bool} {j : Nat} (h : j ∈ Region.ready .any ops listed) : j < ops.size := by
  obtain ⟨_, o, ho, _⟩ := mem_ready.1 h
  exact (Array.getElem?_eq_some_iff.1 ho).1
theorem ready_not {listed : Array Bool} {j : Nat} (h : j ∈ Region.ready .any ops listed) : ¬ Dn listed j := by
  have h1 := (mem_ready.1 h).1
  intro h2
  unfold Dn at h2
  rcases Nat.lt_or_ge j listed.size with h' | h'
  · simp [h'] at h1 h2; rw [h1] at h2; cases h2
  · simp [Array.getElem?_eq_none h'] at h1
/-- Nothing behind m comes up while one ahead of it is left. -/
theorem ready_below (hm : floatN ops.toList = m) {listed : Array Bool} (hc : Closed ops (Dn listed)) {i j : Nat} (hi : i < m) (hn : ¬ Dn listed i) (h : j ∈ Region.ready .any ops listed) : j < m := by
  rcases Nat.lt_or_ge j m with hlt | hge
  · exact hlt
  · have hb := floatN_spec (ops := ops) (j := j) (i := i) (by omega) (ready_lt h) (by omega)
    exact absurd (hb.closed hc (ready_direct h)) hn

theorem wpF_first (hm : floatN ops.toList = m) {i : Nat} {oi : Oper} {v : Value} (him : i < m) (hi : ops[i]? = some oi) (hsel : ∀ (j : Nat) (o : Oper) cs b, ops[j]? = some o → o.op ≠ .select cs b)
    (hQ : ∀ c a w, Q (.panic c) (a.put oi.dst v) w → Q (.panic c) a w) :
    ∀ (fuel : Nat) (listed : Array Bool) (a : Act) (w : World), Closed ops (Dn listed) →
      (∀ j oj, ops[j]? = some oj → j ≠ i → listed.getD j true = false → (∀ e ∈ oj.after, Region.binds .any e = true → e.on ≠ i) → oi.apart ops oj = true) →
      i ∈ Region.ready .any ops listed → YieldsIf P ops S oi v a → S w →
      wpF P ops Q S m fuel (listed.setIfInBounds i true) (a.put oi.dst v) w → wpF P ops Q S m (fuel + 1) listed a w := by
  intro fuel
  induction fuel with
  | zero =>
    intro listed a w hcl hfree hr hy hS H
    have hnd : doneTo m listed = false := by
      cases hd : doneTo m listed with
      | false => rfl
      | true => exact absurd (doneTo_spec.1 hd i him) (ready_not hr)
    unfold wpF
    rw [hnd]
    refine ⟨fun h => (by rw [h] at hr; cases hr), fun j hj => ?_⟩
    by_cases hji : j = i
    · subst hji; exact hy.wpOp hi hS ⟨hS, H⟩
    · have := ready_mono hj hji
      rw [H.1] at this
      cases this
  | succ fuel ih =>
    intro listed a w hcl hfree hr hy hS H
    have hnd : doneTo m listed = false := by
      cases hd : doneTo m listed with
      | false => rfl
      | true => exact absurd (doneTo_spec.1 hd i him) (ready_not hr)
    unfold wpF
    rw [hnd]
    refine ⟨fun h => (by rw [h] at hr; cases hr), fun j hj => ?_⟩
    by_cases hji : j = i
    · subst hji; exact hy.wpOp hi hS ⟨hS, H⟩
    · have hjm := ready_below hm hcl him (ready_not hr) hj
      have hnd2 : doneTo m (listed.setIfInBounds i true) = false := by
        cases hd : doneTo m (listed.setIfInBounds i true) with
        | false => rfl
        | true =>
          have h1 := doneTo_spec.1 hd j hjm
          rw [getD_set_ne false (Ne.symm hji)] at h1
          exact absurd h1 (ready_not hj)
      unfold wpF at H
      rw [hnd2] at H
      have h1 := H.2 j (ready_mono hj hji)
      obtain ⟨hjun, oj, hoj, hall⟩ := mem_ready.1 hj
      have hnot : ∀ e ∈ oj.after, Region.binds .any e = true → e.on ≠ i := fun e he hb heq => ready_not hr (heq ▸ hall e he hb)
      have h2 := wpOp_putIf hoj (hfree j oj hoj hji hjun hnot) (fun cs b => hsel i oi cs b hi) (fun cs b => hsel j oj cs b hoj) hQ hy h1
      have hfree' : ∀ k ok, ops[k]? = some ok → k ≠ i → (listed.setIfInBounds j true).getD k true = false →
          (∀ e ∈ ok.after, Region.binds .any e = true → e.on ≠ i) → oi.apart ops ok = true := fun k ok hk hki hun hno => by
        refine hfree k ok hk hki ?_ hno
        by_cases hjk : j = k
        · subst hjk; exact hjun
        · rw [getD_set_ne true hjk] at hun; exact hun
      refine wpOp_mono (fun a' w' h3 => ⟨h3.2.1, ih (listed.setIfInBounds j true) a' w' (closed_set hcl hj) hfree' (ready_mono hr (Ne.symm hji)) h3.1 h3.2.1 ?_⟩) h2
      rw [Array.setIfInBounds_comm _ _ hji]
      exact h3.2.2
end
end Go.Proofs.Ytkegkhhfbfegoaa.Sx
