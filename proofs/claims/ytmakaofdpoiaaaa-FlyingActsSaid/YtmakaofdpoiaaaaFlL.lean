/- Layer 24: of a new net the first one becomes master when it has waited: plain laws. -/
import Derived.Test.YtmakaofdpoiaaaaFlK
set_option linter.unusedVariables false
set_option linter.unusedSimpArgs false
set_option maxRecDepth 100000
set_option maxHeartbeats 4000000
namespace Go.Proofs.Ytmakaofdpoiaaaa
open Sx
theorem newGo_map {slot : Int} : ∀ {r : List Mas} {acc l : List M}, newGo slot r acc = .ok l → l = acc ++ r.map (mkM slot) ∧ ∀ x ∈ r, ¬ Bad x
  | [], acc, l, h => by injection h with h; subst h; exact ⟨by simp, fun x hx => by cases hx⟩
  | x :: r, acc, l, h => by
    by_cases hb : Bad x
    · rw [newGo_bad hb] at h; cases h
    · cases hd : acc.any (fun m => decide (m.node = x.node)) with
      | true => rw [newGo_dup hb hd] at h; cases h
      | false =>
        rw [newGo_ok hb hd] at h
        obtain ⟨e, h2⟩ := newGo_map h
        refine ⟨by rw [e]; simp, fun y hy => ?_⟩
        rcases List.mem_cons.1 hy with rfl | hy
        · exact hb
        · exact h2 y hy
theorem newF_map {slot lost : Int} {L : List Mas} {l : List M} (h : newF slot lost L = .ok l) : l = L.map (mkM slot) ∧ (∀ x ∈ L, ¬ Bad x) ∧ (1 ≤ slot ∧ slot ≤ 65536) ∧ (1 ≤ lost ∧ lost ≤ 4294967296) ∧ L.length ≤ 8 := by
  unfold newF at h
  split at h
  · cases h
  · cases hg : newGo slot L [] with
    | error e => rw [hg] at h; cases h
    | ok l' =>
      rw [hg] at h
      dsimp only at h
      split at h
      · cases h
      · injection h with h
        subst h
        obtain ⟨e, h2⟩ := newGo_map hg
        exact ⟨by simpa using e, h2, by omega, by omega, by omega⟩
def key (x : Mas) : Int := 128 * x.prio + x.node
theorem ord_key {x y : Mas} (hx : ¬ Bad x) (hy : ¬ Bad y) : ord x.prio x.node y.prio y.node < 0 ↔ key x < key y := by
  unfold Bad at hx hy
  unfold ord key
  (repeat' split) <;> constructor <;> intro h <;> omega
theorem minF_spec : ∀ (r : List Mas) (b : Mas), ¬ Bad b → (∀ x ∈ r, ¬ Bad x) → minF b r ∈ b :: r ∧ ∀ y ∈ b :: r, key (minF b r) ≤ key y
  | [], b, hb, _ => ⟨by simp [minF], fun y hy => by simp at hy; subst hy; exact Int.le_refl _⟩
  | x :: r, b, hb, hr => by
    have hx := hr x List.mem_cons_self
    have hr' := fun y hy => hr y (List.mem_cons_of_mem _ hy)
    have ho := ord_key hx hb
    have e : minF b (x :: r) = minF (if ord x.prio x.node b.prio b.node < 0 then x else b) r := rfl
    rw [e]
    split
    · rename_i h
      obtain ⟨h1, h2⟩ := minF_spec r x hx hr'
      refine ⟨List.mem_cons_of_mem _ h1, fun y hy => ?_⟩
      rcases List.mem_cons.1 hy with rfl | hy
      · have := h2 x List.mem_cons_self; have := ho.1 h; omega
      · exact h2 y hy
    · rename_i h
      obtain ⟨h1, h2⟩ := minF_spec r b hb hr'
      refine ⟨?_, fun y hy => ?_⟩
      · rcases List.mem_cons.1 h1 with h1 | h1
        · rw [h1]; exact List.mem_cons_self
        · exact List.mem_cons_of_mem _ (List.mem_cons_of_mem _ h1)
      · rcases List.mem_cons.1 hy with rfl | hy
        · exact h2 _ List.mem_cons_self
        · rcases List.mem_cons.1 hy with rfl | hy
          · have := h2 b List.mem_cons_self
            have : ¬ key y < key b := fun z => h (ho.2 z)
            omega
          · exact h2 y (List.mem_cons_of_mem _ hy)
theorem firstF_none {L : List Mas} (h : firstF L = none) : ∀ x ∈ L, x.on = false := by
  unfold firstF at h
  split at h
  · rename_i e
    intro x hx
    have := List.filter_eq_nil_iff.1 e x hx
    simpa using this
  · cases h
theorem firstF_some {L : List Mas} {f : Mas} (h : firstF L = some f) (hL : ∀ x ∈ L, ¬ Bad x) : f ∈ L ∧ f.on = true ∧ ∀ y ∈ L, y.on = true → key f ≤ key y := by
  unfold firstF at h
  split at h
  · cases h
  · rename_i x0 r e
    injection h with h
    have hsub : ∀ y ∈ x0 :: r, y ∈ L ∧ y.on = true := by
      intro y hy; rw [← e] at hy
      simpa [onF] using hy
    obtain ⟨h1, h2⟩ := minF_spec r x0 (hL _ (hsub x0 List.mem_cons_self).1) (fun y hy => hL _ (hsub y (List.mem_cons_of_mem _ hy)).1)
    rw [h] at h1 h2
    refine ⟨(hsub f h1).1, (hsub f h1).2, fun y hy hon => h2 y ?_⟩
    rw [← e]
    simpa [onF] using ⟨hy, hon⟩
/-- A new net: W is how long the first one waits. -/
structure Fresh (W node : Int) (l : List M) : Prop where
  all : ∀ m ∈ l, m.is = 0 ∨ (m.is = 1 ∧ W ≤ m.left ∧ m.left ≤ 9223372036854775807)
  top : ∃ m ∈ l, m.is = 1 ∧ m.left = W ∧ m.node = node
  one : ∀ m ∈ l, m.is = 1 → m.left = W → m.node = node
  pos : 1 ≤ W
  nd : (l.map M.node).Nodup
theorem fresh_new {slot lost : Int} {L : List Mas} {l : List M} {f : Mas} (h : newF slot lost L = .ok l) (hf : firstF L = some f) : Fresh (key f * slot) f.node l := by
  have hok := newF_ok h
  obtain ⟨e, hb, hs, hlo, hlen⟩ := newF_map h
  obtain ⟨h1, h2, h3⟩ := firstF_some hf hb
  have hkey : ∀ x ∈ L, 1 ≤ key x ∧ key x ≤ 383 := by
    intro x hx
    have := hb x hx
    unfold Bad at this; unfold key; omega
  have hmul : ∀ x ∈ L, key x * slot ≤ 25100288 ∧ 1 ≤ key x * slot := by
    intro x hx
    have hk := hkey x hx
    have u1 : key x * slot ≤ 383 * 65536 := Int.mul_le_mul hk.2 hs.2 (by omega) (by omega)
    have u2 : 1 * 1 ≤ key x * slot := Int.mul_le_mul hk.1 hs.1 (by omega) (by omega)
    omega
  have hmk : ∀ x ∈ L, x.on = true → (mkM slot x).is = 1 ∧ (mkM slot x).left = key x * slot ∧ (mkM slot x).node = x.node := by
    intro x hx hon
    have := hmul x hx
    unfold mkM
    rw [if_pos hon]
    refine ⟨rfl, ?_, rfl⟩
    show (128 * x.prio + x.node) * slot % 18446744073709551616 = key x * slot
    exact Int.emod_eq_of_lt (by have := this.2; unfold key at this; omega) (by have := this.1; unfold key at this; omega)
  have hmk0 : ∀ x, x.on = false → (mkM slot x).is = 0 := by intro x hon; unfold mkM; rw [hon]; rfl
  subst e
  refine ⟨fun m hm => ?_, ⟨mkM slot f, List.mem_map_of_mem h1, (hmk f h1 h2).1, (hmk f h1 h2).2.1, (hmk f h1 h2).2.2⟩, fun m hm him hlm => ?_, (hmul f h1).2, hok.nd⟩
  · obtain ⟨x, hx, rfl⟩ := List.mem_map.1 hm
    cases hon : x.on with
    | false => exact .inl (hmk0 x hon)
    | true =>
      obtain ⟨g1, g2, g3⟩ := hmk x hx hon
      refine .inr ⟨g1, ?_, by rw [g2]; have := hmul x hx; omega⟩
      rw [g2]
      exact Int.mul_le_mul_of_nonneg_right (h3 x hx hon) (by omega)
  · obtain ⟨x, hx, rfl⟩ := List.mem_map.1 hm
    cases hon : x.on with
    | false => rw [hmk0 x hon] at him; cases him
    | true =>
      obtain ⟨g1, g2, g3⟩ := hmk x hx hon
      rw [g2] at hlm
      have hk : key x = key f := Int.eq_of_mul_eq_mul_right (by omega) hlm
      rw [g3]
      have b1 := hb x hx
      have b2 := hb f h1
      unfold Bad at b1 b2
      unfold key at hk
      omega
def decM (k : Int) (m : M) : M := if m.is = 1 then { m with left := m.left - k } else m
theorem decM_0 (l : List M) : l.map (decM 0) = l := by
  refine (List.map_congr_left fun m _ => ?_).trans (List.map_id l)
  unfold decM
  split
  · simp
  · rfl
/-- It is led by a node. -/
structure Led (node : Int) (l : List M) : Prop where
  top : ∃ m ∈ l, m.is = 2 ∧ m.node = node
  rest : ∀ m ∈ l, m.node ≠ node → m.is = 0 ∨ m.is = 3
  nd : (l.map M.node).Nodup
section
variable {W node slot lost : Int} {l : List M}
theorem node_inj {m m' : M} (hnd : (l.map M.node).Nodup) (h1 : m ∈ l) (h2 : m' ∈ l) (h : m.node = m'.node) : m = m' := by
  obtain ⟨i, hi, rfl⟩ := List.getElem_of_mem h1
  obtain ⟨j, hj, rfl⟩ := List.getElem_of_mem h2
  have : i = j := (List.getElem?_inj (l := l.map M.node) (by simpa using hi) hnd).1 (by simp [hi, hj, h])
  subst this; rfl
theorem fresh_t1 (h : Fresh W node l) (k : Int) (hk : 0 ≤ k ∧ k + 1 ≤ W) : (l.map (decM k)).map t1M = l.map (decM (k + 1)) := by
  rw [List.map_map]
  refine List.map_congr_left fun m hm => ?_
  rcases h.all m hm with h0 | ⟨h1, h2, h3⟩
  · unfold decM
    simp only [Function.comp_apply, if_neg (show ¬ m.is = 1 by omega)]
    unfold t1M
    rw [if_neg (by omega), if_neg (by omega)]
  · unfold decM
    simp only [Function.comp_apply, if_pos h1]
    unfold t1M
    rw [if_pos h1]
    dsimp only
    rw [Int.emod_eq_of_lt (by omega) (by omega), show m.left - k - 1 = m.left - (k + 1) by omega]
theorem fresh_lead (h : Fresh W node l) (k : Int) : leadL (l.map (decM k)) = none := by
  unfold leadL
  refine List.find?_eq_none.2 fun m hm => ?_
  obtain ⟨x, hx, rfl⟩ := List.mem_map.1 hm
  have : (decM k x).is = x.is := by unfold decM; split <;> rfl
  rcases h.all x hx with h0 | ⟨h1, _⟩ <;> simp [this, *]
theorem claim_none (h : ∀ m ∈ l, ¬ (m.is = 1 ∧ m.left = 0)) : claimM l = none := by
  have key : ∀ l : List M, (∀ m ∈ l, ¬ (m.is = 1 ∧ m.left = 0)) → l.foldl stepM none = none := by
    intro l
    induction l with
    | nil => intro _; rfl
    | cons x l ih =>
      intro h
      rw [List.foldl_cons, show stepM none x = none from if_neg (h x List.mem_cons_self)]
      exact ih fun m hm => h m (List.mem_cons_of_mem _ hm)
  exact key l h
theorem claim_one {x : M} (hx : x ∈ l) (h1 : x.is = 1 ∧ x.left = 0) (h : ∀ m ∈ l, m.is = 1 → m.left = 0 → m = x) : claimM l = some x := by
  have hself : stepM (some x) x = some x := by
    unfold stepM
    rw [if_pos h1]
    dsimp only
    split <;> rfl
  have key : ∀ (l : List M) (b : Option M), (∀ m ∈ l, m.is = 1 → m.left = 0 → m = x) → (b = some x ∨ (b = none ∧ x ∈ l)) → l.foldl stepM b = some x := by
    intro l
    induction l with
    | nil => intro b _ hb; rcases hb with rfl | ⟨_, hb⟩; rfl; cases hb
    | cons y l ih =>
      intro b hl hb
      rw [List.foldl_cons]
      have hl' := fun m hm => hl m (List.mem_cons_of_mem _ hm)
      by_cases hy : y.is = 1 ∧ y.left = 0
      · have e := hl y List.mem_cons_self hy.1 hy.2
        subst e
        refine ih _ hl' (.inl ?_)
        rcases hb with rfl | ⟨rfl, _⟩
        · exact hself
        · unfold stepM; exact if_pos h1
      · have e : stepM b y = b := if_neg hy
        rw [e]
        refine ih _ hl' ?_
        rcases hb with rfl | ⟨rfl, hb⟩
        · exact .inl rfl
        · rcases List.mem_cons.1 hb with rfl | hb
          · exact absurd h1 hy
          · exact .inr ⟨rfl, hb⟩
  exact key l none h (.inr ⟨rfl, hx⟩)
/-- Ahead of its time nobody becomes master. -/
theorem fresh_wait (h : Fresh W node l) (k : Int) (hk : 0 ≤ k ∧ k + 1 < W) : tickM slot lost (l.map (decM k)) = (l.map (decM (k + 1)), none) := by
  unfold tickM
  dsimp only
  rw [fresh_t1 h k (by omega), fresh_lead h (k + 1)]
  dsimp only
  rw [claim_none (l := l.map (decM (k + 1)))]
  · dsimp only
    congr 1
    refine (List.map_congr_left fun m hm => ?_).trans (List.map_id _)
    obtain ⟨x, hx, rfl⟩ := List.mem_map.1 hm
    have : (decM (k + 1) x).is = x.is := by unfold decM; split <;> rfl
    unfold lostMM
    rw [if_neg]
    · rfl
    · rw [this]
      rcases h.all x hx with h0 | ⟨h1, _⟩ <;> omega
  · intro m hm
    obtain ⟨x, hx, rfl⟩ := List.mem_map.1 hm
    rcases h.all x hx with h0 | ⟨h1, h2, _⟩
    · unfold decM; rw [if_neg (by omega)]; omega
    · unfold decM; rw [if_pos h1]; dsimp only; omega
/-- In its time the first one becomes master. -/
theorem fresh_claim (h : Fresh W node l) : ∃ l', tickM slot lost (l.map (decM (W - 1))) = (l', some node) ∧ Led node l' := by
  obtain ⟨top, ht1, ht2, ht3, ht4⟩ := h.top
  have hnd : ((l.map (decM W)).map M.node).Nodup := by
    rw [List.map_map, show M.node ∘ decM W = M.node from funext fun m => by simp only [Function.comp_apply]; unfold decM; split <;> rfl]
    exact h.nd
  have hdn : ∀ m, (decM W m).node = m.node := fun m => by unfold decM; split <;> rfl
  have hdi : ∀ m, (decM W m).is = m.is := fun m => by unfold decM; split <;> rfl
  have hc : claimM (l.map (decM W)) = some (decM W top) := by
    refine claim_one (List.mem_map_of_mem ht1) ⟨by rw [hdi]; exact ht2, ?_⟩ ?_
    · unfold decM; rw [if_pos ht2]; dsimp only; omega
    · intro m hm h1 h2
      obtain ⟨x, hx, rfl⟩ := List.mem_map.1 hm
      rw [hdi] at h1
      have hl : x.left = W := by
        unfold decM at h2; rw [if_pos h1] at h2; dsimp only at h2; omega
      refine node_inj hnd hm (List.mem_map_of_mem ht1) ?_
      rw [hdn, hdn, h.one x hx h1 hl, ht4]
  unfold tickM
  dsimp only
  rw [fresh_t1 h (W - 1) (by have := h.pos; omega), show W - 1 + 1 = W by omega, fresh_lead h W]
  dsimp only
  rw [hc]
  dsimp only
  refine ⟨_, by rw [hdn, ht4], ⟨?_, ?_, ?_⟩⟩
  · refine ⟨leadMM (decM W top), List.mem_map.2 ⟨leadMM (decM W top), List.mem_map.2 ⟨decM W top, List.mem_map_of_mem ht1, if_pos (by rw [hdn]; exact ht4)⟩, if_pos (.inr rfl)⟩, rfl, ?_⟩
    show (decM W top).node = node
    rw [hdn]; exact ht4
  · intro m hm hn
    obtain ⟨y, hy, rfl⟩ := List.mem_map.1 hm
    obtain ⟨x, hx, rfl⟩ := List.mem_map.1 hy
    have e : (if x.node = node then leadMM x else x).node = x.node := by split <;> rfl
    have hfn : ∀ t m, (folMM t m).node = m.node := by intro t m; unfold folMM; split <;> rfl
    rw [hfn, e] at hn
    rw [if_neg hn]
    unfold folMM
    by_cases h0 : x.is = 0
    · rw [if_pos (.inl h0)]; exact .inl h0
    · rw [if_neg (by rintro (z | z); exact h0 z; rw [hdn, ht4] at z; exact hn z)]; exact .inr rfl
  · rw [List.map_map, List.map_map]
    rw [show (M.node ∘ folMM (decM W top)) ∘ (fun m => if m.node = node then leadMM m else m) = M.node from funext fun m => by
      simp only [Function.comp_apply]
      have hfn : ∀ t m, (folMM t m).node = m.node := by intro t m; unfold folMM; split <;> rfl
      rw [hfn]
      split <;> rfl]
    exact hnd
/-- Behind it nothing is told. -/
theorem led_tick (h : Led node l) : ∃ l', tickM slot lost l = (l', none) ∧ Led node l' := by
  obtain ⟨top, ht1, ht2, ht3⟩ := h.top
  have hi : ∀ m, (t1M m).is = m.is := fun m => by unfold t1M; (repeat' split) <;> rfl
  have hL : ∃ t, leadL (l.map t1M) = some t ∧ t ∈ l.map t1M ∧ t.is = 2 := by
    cases hf : leadL (l.map t1M) with
    | none =>
      have := List.find?_eq_none.1 hf (t1M top) (List.mem_map_of_mem ht1)
      rw [hi] at this
      simp [ht2] at this
    | some t => exact ⟨t, rfl, List.mem_of_find?_eq_some hf, by simpa using List.find?_some hf⟩
  obtain ⟨t, hL, ht, ht2'⟩ := hL
  obtain ⟨x, hx, rfl⟩ := List.mem_map.1 ht
  have hxn : x.node = node := by
    by_cases e : x.node = node
    · exact e
    · rw [hi] at ht2'
      rcases h.rest x hx e with z | z <;> omega
  have hfn : ∀ t m, (folMM t m).node = m.node := by intro t m; unfold folMM; split <;> rfl
  unfold tickM
  dsimp only
  rw [hL]
  refine ⟨_, rfl, ⟨⟨t1M x, List.mem_map.2 ⟨t1M x, ht, if_pos (.inr rfl)⟩, ht2', by rw [t1M_node]; exact hxn⟩, ?_, ?_⟩⟩
  · intro m hm hn
    obtain ⟨y, hy, rfl⟩ := List.mem_map.1 hm
    obtain ⟨z, hz, rfl⟩ := List.mem_map.1 hy
    rw [hfn, t1M_node] at hn
    unfold folMM
    by_cases h0 : (t1M z).is = 0
    · rw [if_pos (.inl h0)]; exact .inl h0
    · rw [if_neg (by rintro (u | u); exact h0 u; rw [t1M_node, t1M_node, hxn] at u; exact hn u)]; exact .inr rfl
  · rw [List.map_map, List.map_map, show (M.node ∘ folMM (t1M x)) ∘ t1M = M.node from funext fun m => by simp only [Function.comp_apply]; rw [hfn, t1M_node]]
    exact h.nd
/-- A new net, k ticks behind its beginning. -/
def Phase (W node : Int) (l0 : List M) (k : Int) (l : List M) : Prop := (k < W ∧ l = l0.map (decM k)) ∨ (W ≤ k ∧ Led node l)
theorem phase_0 {l0 : List M} (h : Fresh W node l0) : Phase W node l0 0 l0 := .inl ⟨by have := h.pos; omega, (decM_0 l0).symm⟩
theorem phase_tick {l0 : List M} {k : Int} (h : Fresh W node l0) (hk : 0 ≤ k) (hp : Phase W node l0 k l) : ∃ l', tickM slot lost l = (l', if k + 1 = W then some node else none) ∧ Phase W node l0 (k + 1) l' := by
  rcases hp with ⟨h1, rfl⟩ | ⟨h1, h2⟩
  · by_cases e : k + 1 = W
    · obtain ⟨l', g1, g2⟩ := fresh_claim (slot := slot) (lost := lost) h
      rw [show k = W - 1 by omega]
      exact ⟨l', by rw [g1, if_pos (by omega)], .inr ⟨by omega, g2⟩⟩
    · exact ⟨_, by rw [fresh_wait h k ⟨hk, by omega⟩, if_neg e], .inl ⟨by omega, rfl⟩⟩
  · obtain ⟨l', g1, g2⟩ := led_tick (slot := slot) (lost := lost) h2
    exact ⟨l', by rw [g1, if_neg (by omega)], .inr ⟨by omega, g2⟩⟩
end
end Go.Proofs.Ytmakaofdpoiaaaa
