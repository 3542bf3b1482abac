/- Layer 24: how a net goes on, whoever's power comes and goes: plain laws. -/
import Derived.Test.YtmakaofdpoiaaaaFlN
set_option linter.unusedVariables false
set_option linter.unusedSimpArgs false
set_option maxRecDepth 100000
set_option maxHeartbeats 4000000
namespace Go.Proofs.Ytmakaofdpoiaaaa
open Sx
def masOf (m : M) : Mas := ⟨m.node, m.prio, m.on⟩
/-- What holds of a net always. -/
structure St (slot lost : Int) (l : List M) : Prop where
  off : ∀ m ∈ l, m.on = false → m.is = 0
  on : ∀ m ∈ l, m.on = true → m.is = 1 ∨ m.is = 2 ∨ m.is = 3
  wt : ∀ m ∈ l, m.is = 1 → 1 ≤ m.left ∧ m.left ≤ 383 * slot
  fo : ∀ m ∈ l, m.is = 3 → 0 ≤ m.mute ∧ m.mute < lost
  one : ∀ m ∈ l, ∀ m' ∈ l, m.is = 2 → m'.is = 2 → m.node = m'.node
  ok : NetOk l
/-- A node leads, and all others heard it just now. -/
structure Calm (node : Int) (l : List M) : Prop where
  top : ∃ m ∈ l, m.is = 2 ∧ m.node = node
  rest : ∀ m ∈ l, m.node ≠ node → m.is = 0 ∨ (m.is = 3 ∧ m.mute = 0)
def NoLead (l : List M) : Prop := ∀ m ∈ l, m.is ≠ 2
def LeadBy (node : Int) (l : List M) : Prop := ∃ m ∈ l, m.is = 2 ∧ m.node = node
def pot (slot lost : Int) (m : M) : Int := if m.is = 1 then m.left else lost - m.mute + 383 * slot
section
variable {slot lost node : Int} {l : List M}
theorem keyM {m : M} (h : m.Ok) : 1 ≤ 128 * m.prio + m.node ∧ 128 * m.prio + m.node ≤ 383 := by obtain ⟨h1, h2⟩ := h; omega
theorem begM_left {m : M} (h : m.Ok) (hs : 1 ≤ slot ∧ slot ≤ 3) : (begM slot m).left = (128 * m.prio + m.node) * slot ∧ 1 ≤ (begM slot m).left ∧ (begM slot m).left ≤ 383 * slot := by
  have hk := keyM h
  have u1 : (128 * m.prio + m.node) * slot ≤ 383 * slot := Int.mul_le_mul_of_nonneg_right hk.2 (by omega)
  have u2 : 1 * 1 ≤ (128 * m.prio + m.node) * slot := Int.mul_le_mul hk.1 hs.1 (by omega) (by omega)
  have e : (begM slot m).left = (128 * m.prio + m.node) * slot := by
    show (128 * m.prio + m.node) * slot % 18446744073709551616 = _
    exact Int.emod_eq_of_lt (by omega) (by omega)
  rw [e]
  exact ⟨rfl, by omega, u1⟩
theorem t1M_is (m : M) : (t1M m).is = m.is := by unfold t1M; (repeat' split) <;> rfl
theorem t1M_on (m : M) : (t1M m).on = m.on := by unfold t1M; (repeat' split) <;> rfl
theorem folMM_node (t m : M) : (folMM t m).node = m.node := by unfold folMM; split <;> rfl
theorem folMM_on (t m : M) : (folMM t m).on = m.on := by unfold folMM; split <;> rfl
theorem lead_of (h : LeadBy node l) (h1 : ∀ m ∈ l, ∀ m' ∈ l, m.is = 2 → m'.is = 2 → m.node = m'.node) : ∃ t ∈ l, leadL l = some t ∧ t.is = 2 ∧ t.node = node := by
  obtain ⟨m, hm, h2, h3⟩ := h
  cases hf : leadL l with
  | none =>
    have := List.find?_eq_none.1 hf m hm
    simp [h2] at this
  | some t =>
    have ht := List.mem_of_find?_eq_some hf
    have ht2 : t.is = 2 := by simpa using List.find?_some hf
    exact ⟨t, ht, rfl, ht2, by rw [h1 t ht m hm ht2 h2]; exact h3⟩
theorem lead_none (h : NoLead l) : leadL l = none := List.find?_eq_none.2 fun m hm => by simpa using h m hm
theorem calm_lead (h : Calm node l) : LeadBy node l := h.top
/-- Others follow. -/
theorem follow_calm (hst : ∀ m ∈ l, m.on = false → m.is = 0) (hon : ∀ m ∈ l, m.on = true → m.is = 1 ∨ m.is = 2 ∨ m.is = 3) (hok : NetOk l) (hlo : 1 ≤ lost) {t : M} (ht : t ∈ l) (ht2 : t.is = 2) (ht3 : t.node = node) :
    St slot lost (l.map (folMM t)) ∧ Calm node (l.map (folMM t)) := by
  have hself : folMM t t = t := if_pos (.inr rfl)
  have hrest : ∀ m ∈ l, m.node ≠ node → (folMM t m).is = 0 ∨ ((folMM t m).is = 3 ∧ (folMM t m).mute = 0) := by
    intro m hm hn
    unfold folMM
    by_cases h0 : m.is = 0
    · rw [if_pos (.inl h0)]; exact .inl h0
    · rw [if_neg (by rintro (z | z); exact h0 z; exact hn (z.trans ht3))]; exact .inr ⟨rfl, rfl⟩
  have hsame : ∀ m ∈ l, m.node = node → m = t := fun m hm hn => node_inj hok.nd hm ht (hn.trans ht3.symm)
  have hcase : ∀ m ∈ l, folMM t m = t ∨ (m.node ≠ node ∧ ((folMM t m).is = 0 ∨ ((folMM t m).is = 3 ∧ (folMM t m).mute = 0))) := by
    intro m hm
    by_cases e : m.node = node
    · rw [hsame m hm e]; exact .inl hself
    · exact .inr ⟨e, hrest m hm e⟩
  refine ⟨⟨?_, ?_, ?_, ?_, ?_, hok.map fun m => ⟨folMM_node t m, by unfold folMM; split <;> rfl⟩⟩, ⟨⟨t, List.mem_map.2 ⟨t, ht, hself⟩, ht2, ht3⟩, ?_⟩⟩
  · intro m hm ho
    obtain ⟨x, hx, rfl⟩ := List.mem_map.1 hm
    rw [folMM_on] at ho
    have := hst x hx ho
    unfold folMM
    rw [if_pos (.inl this)]; exact this
  · intro m hm ho
    obtain ⟨x, hx, rfl⟩ := List.mem_map.1 hm
    rw [folMM_on] at ho
    have hx' := hon x hx ho
    unfold folMM
    split
    · exact hx'
    · exact .inr (.inr rfl)
  · intro m hm h1
    obtain ⟨x, hx, rfl⟩ := List.mem_map.1 hm
    rcases hcase x hx with e | ⟨_, e | ⟨e, _⟩⟩
    · rw [e] at h1; omega
    · omega
    · omega
  · intro m hm h1
    obtain ⟨x, hx, rfl⟩ := List.mem_map.1 hm
    rcases hcase x hx with e | ⟨_, e | ⟨_, e⟩⟩
    · rw [e] at h1; omega
    · omega
    · rw [e]; omega
  · intro m hm m' hm' h1 h2
    obtain ⟨x, hx, rfl⟩ := List.mem_map.1 hm
    obtain ⟨y, hy, rfl⟩ := List.mem_map.1 hm'
    rcases hcase x hx with e | ⟨_, e | ⟨e, _⟩⟩
    · rcases hcase y hy with g | ⟨_, g | ⟨g, _⟩⟩
      · rw [e, g]
      · omega
      · omega
    · omega
    · omega
  · intro m hm hn
    obtain ⟨x, hx, rfl⟩ := List.mem_map.1 hm
    rw [folMM_node] at hn
    exact hrest x hx hn
theorem St.t1 (h : St slot lost l) : (∀ m ∈ l.map t1M, m.on = false → m.is = 0) ∧ (∀ m ∈ l.map t1M, m.on = true → m.is = 1 ∨ m.is = 2 ∨ m.is = 3) ∧ NetOk (l.map t1M) ∧ (∀ m ∈ l.map t1M, ∀ m' ∈ l.map t1M, m.is = 2 → m'.is = 2 → m.node = m'.node) := by
  refine ⟨fun m hm ho => ?_, fun m hm ho => ?_, h.ok.map fun m => ⟨t1M_node m, by unfold t1M; (repeat' split) <;> rfl⟩, fun m hm m' hm' h1 h2 => ?_⟩
  · obtain ⟨x, hx, rfl⟩ := List.mem_map.1 hm
    rw [t1M_on] at ho; rw [t1M_is]; exact h.off x hx ho
  · obtain ⟨x, hx, rfl⟩ := List.mem_map.1 hm
    rw [t1M_on] at ho; rw [t1M_is]; exact h.on x hx ho
  · obtain ⟨x, hx, rfl⟩ := List.mem_map.1 hm
    obtain ⟨y, hy, rfl⟩ := List.mem_map.1 hm'
    rw [t1M_is] at h1 h2; rw [t1M_node, t1M_node]; exact h.one x hx y hy h1 h2
/-- A master that has power stays. -/
theorem tick_led (h : St slot lost l) (hlo : 1 ≤ lost) (hl : LeadBy node l) : ∃ l', tickM slot lost l = (l', none) ∧ St slot lost l' ∧ Calm node l' := by
  obtain ⟨h1, h2, h3, h4⟩ := h.t1
  have hl1 : LeadBy node (l.map t1M) := by
    obtain ⟨m, hm, g1, g2⟩ := hl
    exact ⟨t1M m, List.mem_map_of_mem hm, by rw [t1M_is]; exact g1, by rw [t1M_node]; exact g2⟩
  obtain ⟨t, ht, hL, ht2, ht3⟩ := lead_of hl1 h4
  obtain ⟨g1, g2⟩ := follow_calm (slot := slot) h1 h2 h3 hlo ht ht2 ht3
  refine ⟨_, ?_, g1, g2⟩
  unfold tickM
  dsimp only
  rw [hL]
theorem claim_mem {x : M} (h : claimM l = some x) : x ∈ l ∧ x.is = 1 ∧ x.left = 0 := by
  have key : ∀ (l : List M) (b : Option M), l.foldl stepM b = some x → (x ∈ l ∧ x.is = 1 ∧ x.left = 0) ∨ b = some x := by
    intro l
    induction l with
    | nil => intro b h; exact .inr h
    | cons y l ih =>
      intro b h
      rcases ih _ h with ⟨h1, h2⟩ | h1
      · exact .inl ⟨List.mem_cons_of_mem _ h1, h2⟩
      · unfold stepM at h1
        split at h1
        · rename_i hy
          cases b with
          | none => injection h1 with h1; subst h1; exact .inl ⟨List.mem_cons_self, hy⟩
          | some b =>
            dsimp only at h1
            split at h1
            · injection h1 with h1; subst h1; exact .inl ⟨List.mem_cons_self, hy⟩
            · exact .inr h1
        · exact .inr h1
  rcases key l none h with h | h
  · exact h
  · cases h
theorem claim_no (h : claimM l = none) : ∀ m ∈ l, ¬ (m.is = 1 ∧ m.left = 0) := by
  have some_ : ∀ (l : List M) (b : M), l.foldl stepM (some b) ≠ none := by
    intro l
    induction l with
    | nil => intro b h; cases h
    | cons y l ih =>
      intro b
      rw [List.foldl_cons]
      unfold stepM
      split
      · dsimp only; split <;> exact ih _
      · exact ih _
  have key : ∀ l : List M, l.foldl stepM none = none → ∀ m ∈ l, ¬ (m.is = 1 ∧ m.left = 0) := by
    intro l
    induction l with
    | nil => intro _ m hm; cases hm
    | cons y l ih =>
      intro h m hm
      rw [List.foldl_cons] at h
      by_cases hy : y.is = 1 ∧ y.left = 0
      · rw [show stepM none y = some y from if_pos hy] at h
        exact absurd h (some_ l y)
      · rw [show stepM none y = none from if_neg hy] at h
        rcases List.mem_cons.1 hm with rfl | hm
        · exact hy
        · exact ih h m hm
  exact key l h
theorem tick_free (h : St slot lost l) (hs : 1 ≤ slot ∧ slot ≤ 3) (hlo : 1 ≤ lost ∧ lost ≤ 9) (hn : NoLead l) : (∃ l' n, tickM slot lost l = (l', some n) ∧ St slot lost l' ∧ Calm n l') ∨
    (∃ l', tickM slot lost l = (l', none) ∧ St slot lost l' ∧ NoLead l' ∧ ∀ p, (∀ m ∈ l, m.on = true → pot slot lost m ≤ p) → ∀ m ∈ l', m.on = true → pot slot lost m ≤ p - 1) := by
  obtain ⟨h1, h2, h3, h4⟩ := h.t1
  have hn1 : NoLead (l.map t1M) := by
    intro m hm
    obtain ⟨x, hx, rfl⟩ := List.mem_map.1 hm
    rw [t1M_is]; exact hn x hx
  have hL := lead_none hn1
  cases hc : claimM (l.map t1M) with
  | some top =>
    left
    obtain ⟨ht, ht1, ht2⟩ := claim_mem hc
    let l2 := (l.map t1M).map fun m => if m.node = top.node then leadMM m else m
    have e : ∀ m ∈ l.map t1M, (if m.node = top.node then leadMM m else m) = m ∨ (m = top ∧ (if m.node = top.node then leadMM m else m) = leadMM top) := by
      intro m hm
      by_cases z : m.node = top.node
      · have := node_inj h3.nd hm ht z
        subst this
        exact .inr ⟨rfl, if_pos rfl⟩
      · exact .inl (if_neg z)
    have k3 : NetOk l2 := h3.map fun m => by split <;> exact ⟨rfl, rfl⟩
    have k1 : ∀ m ∈ l2, m.on = false → m.is = 0 := by
      intro m hm ho
      obtain ⟨x, hx, rfl⟩ := List.mem_map.1 hm
      rcases e x hx with z | ⟨rfl, z⟩
      · rw [z] at ho ⊢; exact h1 x hx ho
      · rw [z] at ho ⊢
        have := h1 x hx ho; omega
    have k2 : ∀ m ∈ l2, m.on = true → m.is = 1 ∨ m.is = 2 ∨ m.is = 3 := by
      intro m hm ho
      obtain ⟨x, hx, rfl⟩ := List.mem_map.1 hm
      rcases e x hx with z | ⟨rfl, z⟩
      · rw [z] at ho ⊢; exact h2 x hx ho
      · rw [z]; exact .inr (.inl rfl)
    have htm : leadMM top ∈ l2 := List.mem_map.2 ⟨top, ht, if_pos rfl⟩
    obtain ⟨g1, g2⟩ := follow_calm (slot := slot) (t := leadMM top) (node := top.node) k1 k2 k3 hlo.1 htm rfl rfl
    refine ⟨_, top.node, ?_, g1, g2⟩
    unfold tickM
    dsimp only
    rw [hL]
    dsimp only
    rw [hc]
    dsimp only
    congr 1
  | none =>
    right
    have hno := claim_no hc
    have ht : tickM slot lost l = ((l.map t1M).map (lostMM slot lost), none) := by
      unfold tickM
      dsimp only
      rw [hL]
      dsimp only
      rw [hc]
    -- what becomes of one
    have step : ∀ x ∈ l, (lostMM slot lost (t1M x)).on = x.on ∧ (x.is = 0 → (lostMM slot lost (t1M x)).is = 0) ∧
        (x.is = 1 → (lostMM slot lost (t1M x)).is = 1 ∧ (lostMM slot lost (t1M x)).left = x.left - 1 ∧ 1 ≤ x.left - 1) ∧
        (x.is = 3 → ((lostMM slot lost (t1M x)).is = 1 ∧ 1 ≤ (lostMM slot lost (t1M x)).left ∧ (lostMM slot lost (t1M x)).left ≤ 383 * slot) ∨ ((lostMM slot lost (t1M x)).is = 3 ∧ (lostMM slot lost (t1M x)).mute = x.mute + 1 ∧ x.mute + 1 < lost)) := by
      intro x hx
      have hok := h.ok.ok x hx
      refine ⟨by unfold lostMM; split; exact t1M_on x; exact t1M_on x, fun h0 => ?_, fun h1 => ?_, fun h3 => ?_⟩
      · have e : t1M x = x := by unfold t1M; rw [if_neg (by omega), if_neg (by omega)]
        rw [e]; unfold lostMM; rw [if_neg (by omega)]; exact h0
      · have hw := h.wt x hx h1
        have e : t1M x = { x with left := x.left - 1 } := by unfold t1M; rw [if_pos h1, Int.emod_eq_of_lt (by omega) (by omega)]
        have hz := hno (t1M x) (List.mem_map_of_mem hx)
        rw [e] at hz ⊢
        unfold lostMM
        rw [if_neg (by dsimp only; omega)]
        exact ⟨h1, rfl, by dsimp only at hz; omega⟩
      · have hw := h.fo x hx h3
        have e : t1M x = { x with mute := x.mute + 1 } := by unfold t1M; rw [if_neg (by omega), if_pos h3, Int.emod_eq_of_lt (by omega) (by omega)]
        rw [e]
        unfold lostMM
        by_cases z : lost ≤ x.mute + 1
        · rw [if_pos ⟨h3, z⟩]
          have := begM_left (m := { x with mute := x.mute + 1 }) ⟨hok.node, hok.prio⟩ hs
          exact .inl ⟨rfl, this.2.1, this.2.2⟩
        · rw [if_neg (fun q => z q.2)]
          exact .inr ⟨h3, rfl, by omega⟩
    have cases4 : ∀ x ∈ l, x.is = 0 ∨ x.is = 1 ∨ x.is = 3 := by
      intro x hx
      cases ho : x.on with
      | false => exact .inl (h.off x hx ho)
      | true => rcases h.on x hx ho with z | z | z; exact .inr (.inl z); exact absurd z (hn x hx); exact .inr (.inr z)
    refine ⟨_, ht, ⟨?_, ?_, ?_, ?_, ?_, ?_⟩, ?_, ?_⟩
    · intro m hm ho
      rw [List.map_map] at hm
      obtain ⟨x, hx, rfl⟩ := List.mem_map.1 hm
      simp only [Function.comp_apply] at ho ⊢
      rw [(step x hx).1] at ho
      exact (step x hx).2.1 (h.off x hx ho)
    · intro m hm ho
      rw [List.map_map] at hm
      obtain ⟨x, hx, rfl⟩ := List.mem_map.1 hm
      simp only [Function.comp_apply] at ho ⊢
      rw [(step x hx).1] at ho
      rcases cases4 x hx with z | z | z
      · rcases h.on x hx ho with y | y | y <;> omega
      · exact .inl ((step x hx).2.2.1 z).1
      · rcases (step x hx).2.2.2 z with y | y; exact .inl y.1; exact .inr (.inr y.1)
    · intro m hm h1
      rw [List.map_map] at hm
      obtain ⟨x, hx, rfl⟩ := List.mem_map.1 hm
      simp only [Function.comp_apply] at h1 ⊢
      rcases cases4 x hx with z | z | z
      · have := (step x hx).2.1 z; omega
      · have hw := h.wt x hx z
        have := (step x hx).2.2.1 z; omega
      · rcases (step x hx).2.2.2 z with y | y <;> omega
    · intro m hm h1
      rw [List.map_map] at hm
      obtain ⟨x, hx, rfl⟩ := List.mem_map.1 hm
      simp only [Function.comp_apply] at h1 ⊢
      rcases cases4 x hx with z | z | z
      · have := (step x hx).2.1 z; omega
      · have := (step x hx).2.2.1 z; omega
      · have hw := h.fo x hx z
        rcases (step x hx).2.2.2 z with y | y <;> omega
    · intro m hm m' _ h1 _
      rw [List.map_map] at hm
      obtain ⟨x, hx, rfl⟩ := List.mem_map.1 hm
      simp only [Function.comp_apply] at h1
      rcases cases4 x hx with z | z | z
      · have := (step x hx).2.1 z; omega
      · have := (step x hx).2.2.1 z; omega
      · rcases (step x hx).2.2.2 z with y | y <;> omega
    · exact h3.map fun m => by unfold lostMM; split <;> exact ⟨rfl, rfl⟩
    · intro m hm h1
      rw [List.map_map] at hm
      obtain ⟨x, hx, rfl⟩ := List.mem_map.1 hm
      simp only [Function.comp_apply] at h1
      rcases cases4 x hx with z | z | z
      · have := (step x hx).2.1 z; omega
      · have := (step x hx).2.2.1 z; omega
      · rcases (step x hx).2.2.2 z with y | y <;> omega
    · intro p hp m hm ho
      rw [List.map_map] at hm
      obtain ⟨x, hx, rfl⟩ := List.mem_map.1 hm
      simp only [Function.comp_apply] at ho ⊢
      rw [(step x hx).1] at ho
      have hpx := hp x hx ho
      unfold pot at hpx ⊢
      rcases cases4 x hx with z | z | z
      · rcases h.on x hx ho with y | y | y <;> omega
      · have := (step x hx).2.2.1 z
        rw [if_pos this.1, this.2.1]; rw [if_pos z] at hpx; omega
      · rw [if_neg (by omega)] at hpx
        have hw := h.fo x hx z
        rcases (step x hx).2.2.2 z with y | y
        · rw [if_pos y.1]; omega
        · rw [if_neg (by omega), y.2.1]; omega
theorem pot_pos (h : St slot lost l) (hs : 1 ≤ slot) (hlo : 1 ≤ lost) : ∀ m ∈ l, m.on = true → m.is ≠ 2 → 1 ≤ pot slot lost m ∧ pot slot lost m ≤ lost + 383 * slot := by
  intro m hm ho h2
  unfold pot
  rcases h.on m hm ho with z | z | z
  · have := h.wt m hm z
    rw [if_pos z]; omega
  · exact absurd z h2
  · have := h.fo m hm z
    rw [if_neg (by omega)]; omega
/-- On the way to a master. -/
def Way (slot lost : Int) (k : Int) (l : List M) : Prop := St slot lost l ∧ (k = 0 ∨ (∃ n, Calm n l) ∨ (NoLead l ∧ ∀ m ∈ l, m.on = true → pot slot lost m ≤ lost + 383 * slot - k))
theorem lead_cases (l : List M) : NoLead l ∨ ∃ n, LeadBy n l := by
  by_cases h : ∃ m ∈ l, m.is = 2
  · obtain ⟨m, h1, h2⟩ := h
    exact .inr ⟨m.node, m, h1, h2, rfl⟩
  · exact .inl fun m hm h2 => h ⟨m, hm, h2⟩
theorem way_tick (hs : 1 ≤ slot ∧ slot ≤ 3) (hlo : 1 ≤ lost ∧ lost ≤ 9) {k : Int} (h : Way slot lost k l) : ∃ l' t, tickM slot lost l = (l', t) ∧ Way slot lost (k + 1) l' := by
  obtain ⟨hst, hk⟩ := h
  have led : ∀ n, LeadBy n l → ∃ l' t, tickM slot lost l = (l', t) ∧ Way slot lost (k + 1) l' := by
    intro n hn
    obtain ⟨l', h1, h2, h3⟩ := tick_led hst hlo.1 hn
    exact ⟨l', none, h1, h2, .inr (.inl ⟨n, h3⟩)⟩
  have free : NoLead l → (∀ m ∈ l, m.on = true → pot slot lost m ≤ lost + 383 * slot - k) → ∃ l' t, tickM slot lost l = (l', t) ∧ Way slot lost (k + 1) l' := by
    intro hn hp
    rcases tick_free hst hs hlo hn with ⟨l', n, h1, h2, h3⟩ | ⟨l', h1, h2, h3, h4⟩
    · exact ⟨l', some n, h1, h2, .inr (.inl ⟨n, h3⟩)⟩
    · refine ⟨l', none, h1, h2, .inr (.inr ⟨h3, fun m hm ho => ?_⟩)⟩
      have := h4 _ hp m hm ho
      omega
  rcases hk with rfl | ⟨n, hc⟩ | ⟨hn, hp⟩
  · rcases lead_cases l with hn | ⟨n, hn⟩
    · exact free hn fun m hm ho => by have := (pot_pos hst hs.1 hlo.1 m hm ho (hn m hm)).2; omega
    · exact led n hn
  · exact led n hc.top
  · exact free hn hp
theorem way_end (hs : 1 ≤ slot ∧ slot ≤ 3) (hlo : 1 ≤ lost ∧ lost ≤ 9) {k : Int} (hk : lost + 383 * slot ≤ k) (h : Way slot lost k l) : (∃ n, Calm n l) ∨ (NoLead l ∧ ∀ m ∈ l, m.on = false) := by
  obtain ⟨hst, hc⟩ := h
  rcases hc with h | h | ⟨hn, hp⟩
  · exfalso; omega
  · exact .inl h
  · refine .inr ⟨hn, fun m hm => ?_⟩
    cases ho : m.on with
    | false => rfl
    | true =>
      have := hp m hm ho
      have := (pot_pos hst hs.1 hlo.1 m hm ho (hn m hm)).1
      omega
/-- How a new net stands. -/
theorem st_new {L : List Mas} (hs : 1 ≤ slot ∧ slot ≤ 3) (hlo : 1 ≤ lost ∧ lost ≤ 9) (h : newF slot lost L = .ok l) : St slot lost l ∧ NoLead l ∧ l.map masOf = L := by
  have hok := newF_ok h
  obtain ⟨e, hb, _, _, _⟩ := newF_map h
  subst e
  have hmk : ∀ x : Mas, ¬ Bad x → ((mkM slot x).on = x.on ∧ masOf (mkM slot x) = x) ∧ (x.on = false → (mkM slot x).is = 0) ∧ (x.on = true → (mkM slot x).is = 1 ∧ 1 ≤ (mkM slot x).left ∧ (mkM slot x).left ≤ 383 * slot) := by
    intro x hx
    unfold Bad at hx
    obtain ⟨nd, pq, on⟩ := x
    dsimp only at hx
    cases on with
    | false => exact ⟨⟨rfl, rfl⟩, fun _ => rfl, fun z => (by cases z)⟩
    | true =>
      have := begM_left (m := ⟨nd, pq, true, 0, 0, 0, 0⟩) ⟨by dsimp only; omega, by dsimp only; omega⟩ hs
      exact ⟨⟨rfl, rfl⟩, fun z => (by cases z), fun _ => ⟨rfl, this.2.1, this.2.2⟩⟩
  have is01 : ∀ x ∈ L, (mkM slot x).is = 0 ∨ (mkM slot x).is = 1 := by
    intro x hx
    cases ho : x.on with
    | false => exact .inl ((hmk x (hb x hx)).2.1 ho)
    | true => exact .inr ((hmk x (hb x hx)).2.2 ho).1
  refine ⟨⟨?_, ?_, ?_, ?_, ?_, hok⟩, ?_, ?_⟩
  · intro m hm ho
    obtain ⟨x, hx, rfl⟩ := List.mem_map.1 hm
    rw [(hmk x (hb x hx)).1.1] at ho
    exact (hmk x (hb x hx)).2.1 ho
  · intro m hm ho
    obtain ⟨x, hx, rfl⟩ := List.mem_map.1 hm
    rw [(hmk x (hb x hx)).1.1] at ho
    exact .inl ((hmk x (hb x hx)).2.2 ho).1
  · intro m hm h1
    obtain ⟨x, hx, rfl⟩ := List.mem_map.1 hm
    cases ho : x.on with
    | false => have := (hmk x (hb x hx)).2.1 ho; omega
    | true => exact ((hmk x (hb x hx)).2.2 ho).2
  · intro m hm h1
    obtain ⟨x, hx, rfl⟩ := List.mem_map.1 hm
    rcases is01 x hx with z | z <;> omega
  · intro m hm m' _ h1 _
    obtain ⟨x, hx, rfl⟩ := List.mem_map.1 hm
    rcases is01 x hx with z | z <;> omega
  · intro m hm h1
    obtain ⟨x, hx, rfl⟩ := List.mem_map.1 hm
    rcases is01 x hx with z | z <;> omega
  · rw [List.map_map]
    refine (List.map_congr_left fun x hx => ?_).trans (List.map_id L)
    exact (hmk x (hb x hx)).1.2
theorem tick_mas (slot lost : Int) (l : List M) : (tickM slot lost l).1.map masOf = l.map masOf := by
  obtain ⟨f, e, hf⟩ := tickM_same slot lost l
  rw [e, List.map_map]
  refine List.map_congr_left fun m _ => ?_
  obtain ⟨h1, h2, h3⟩ := hf m
  simp [masOf, h1, h2, h3]
def setOn (n : Int) (on : Bool) (x : Mas) : Mas := if x.node = n then ⟨x.node, x.prio, on⟩ else x
theorem pow_mas (hok : NetOk l) (slot n : Int) (on : Bool) : (powL slot l n on).2.map masOf = (l.map masOf).map (setOn n on) := by
  unfold powL
  cases hf : findL n l with
  | none =>
    have := List.find?_eq_none.1 hf
    rw [List.map_map]
    refine List.map_congr_left fun m hm => ?_
    have hn : ¬ m.node = n := by simpa using this m hm
    simp [setOn, masOf, hn]
  | some x =>
    have hx := List.mem_of_find?_eq_some hf
    have hxn : x.node = n := by simpa using List.find?_some hf
    dsimp only
    split
    · rename_i ho
      rw [List.map_map]
      refine List.map_congr_left fun m hm => ?_
      by_cases z : m.node = n
      · have := node_inj hok.nd hm hx (z.trans hxn.symm)
        subst this
        simp [setOn, masOf, z, ho]
      · simp [setOn, masOf, z]
    · rw [List.map_map, List.map_map]
      refine List.map_congr_left fun m hm => ?_
      by_cases z : m.node = n
      · cases on <;> simp [setOn, masOf, z, powM, begM]
      · simp [setOn, masOf, z]
/-- Power that comes and goes, but for who leads. -/
theorem pow_st (hs : 1 ≤ slot ∧ slot ≤ 3) (h : St slot lost l) (n : Int) (on : Bool) (hn : ¬ LeadBy n l) : St slot lost (powL slot l n on).2 ∧ (NoLead l → NoLead (powL slot l n on).2) ∧ ∀ k, LeadBy k l → LeadBy k (powL slot l n on).2 := by
  have hok := h.ok.pow slot n on
  unfold powL at hok ⊢
  cases hf : findL n l with
  | none => exact ⟨h, fun z => z, fun k z => z⟩
  | some x =>
    rw [hf] at hok
    dsimp only at hok ⊢
    split
    · exact ⟨h, fun z => z, fun k z => z⟩
    · rename_i ho
      rw [if_neg ho] at hok
      have hp : ∀ m ∈ l, (powM slot on m).on = on ∧ (on = false → (powM slot on m).is = 0) ∧ (on = true → (powM slot on m).is = 1 ∧ 1 ≤ (powM slot on m).left ∧ (powM slot on m).left ≤ 383 * slot) := by
        intro m hm
        have hmo := h.ok.ok m hm
        cases on with
        | false => exact ⟨rfl, fun _ => rfl, fun z => (by cases z)⟩
        | true =>
          have := begM_left (m := { m with on := true }) ⟨hmo.node, hmo.prio⟩ hs
          exact ⟨rfl, fun z => (by cases z), fun _ => ⟨rfl, this.2.1, this.2.2⟩⟩
      have hp2 : ∀ m ∈ l, (powM slot on m).is = 0 ∨ (powM slot on m).is = 1 := by
        intro m hm
        cases on with
        | false => exact .inl ((hp m hm).2.1 rfl)
        | true => exact .inr ((hp m hm).2.2 rfl).1
      refine ⟨⟨?_, ?_, ?_, ?_, ?_, hok⟩, ?_, ?_⟩
      · intro m hm ho
        obtain ⟨y, hy, rfl⟩ := List.mem_map.1 hm
        by_cases z : y.node = n
        · rw [if_pos z] at ho ⊢; rw [(hp y hy).1] at ho; exact (hp y hy).2.1 ho
        · rw [if_neg z] at ho ⊢; exact h.off y hy ho
      · intro m hm ho
        obtain ⟨y, hy, rfl⟩ := List.mem_map.1 hm
        by_cases z : y.node = n
        · rw [if_pos z] at ho ⊢; rw [(hp y hy).1] at ho; exact .inl ((hp y hy).2.2 ho).1
        · rw [if_neg z] at ho ⊢; exact h.on y hy ho
      · intro m hm h1
        obtain ⟨y, hy, rfl⟩ := List.mem_map.1 hm
        by_cases z : y.node = n
        · rw [if_pos z] at h1 ⊢
          cases hon : on with
          | false => have := (hp y hy).2.1 hon; omega
          | true => rw [← hon]; exact ((hp y hy).2.2 hon).2
        · rw [if_neg z] at h1 ⊢; exact h.wt y hy h1
      · intro m hm h1
        obtain ⟨y, hy, rfl⟩ := List.mem_map.1 hm
        by_cases z : y.node = n
        · rw [if_pos z] at h1; rcases hp2 y hy with q | q <;> omega
        · rw [if_neg z] at h1 ⊢; exact h.fo y hy h1
      · intro m hm m' hm' h1 h2
        obtain ⟨y, hy, rfl⟩ := List.mem_map.1 hm
        obtain ⟨y', hy', rfl⟩ := List.mem_map.1 hm'
        by_cases z : y.node = n
        · rw [if_pos z] at h1; rcases hp2 y hy with q | q <;> omega
        · by_cases z' : y'.node = n
          · rw [if_pos z'] at h2; rcases hp2 y' hy' with q | q <;> omega
          · rw [if_neg z] at h1 ⊢; rw [if_neg z'] at h2 ⊢; exact h.one y hy y' hy' h1 h2
      · intro hno m hm h2
        obtain ⟨y, hy, rfl⟩ := List.mem_map.1 hm
        by_cases z : y.node = n
        · rw [if_pos z] at h2; rcases hp2 y hy with q | q <;> omega
        · rw [if_neg z] at h2; exact hno y hy h2
      · rintro k ⟨m, hm, h1, h2⟩
        have z : ¬ m.node = n := fun z => hn ⟨m, hm, h1, z⟩
        exact ⟨m, List.mem_map.2 ⟨m, hm, if_neg z⟩, h1, h2⟩
/-- All that have power begin at once. -/
theorem fresh_all {f : Mas} (hs : 1 ≤ slot ∧ slot ≤ 3) (hok : NetOk l) (h0 : ∀ m ∈ l, m.on = false → m.is = 0) (h1 : ∀ m ∈ l, m.on = true → m.is = 1 ∧ m.left = (128 * m.prio + m.node) * slot) (hf : firstF (l.map masOf) = some f) :
    Fresh (key f * slot) f.node l := by
  have hb : ∀ x ∈ l.map masOf, ¬ Bad x := by
    intro x hx
    obtain ⟨m, hm, rfl⟩ := List.mem_map.1 hx
    obtain ⟨g1, g2⟩ := hok.ok m hm
    unfold Bad masOf; dsimp only; omega
  obtain ⟨k1, k2, k3⟩ := firstF_some hf hb
  obtain ⟨mf, hmf, rfl⟩ := List.mem_map.1 k1
  have hmul : ∀ m ∈ l, 1 ≤ (128 * m.prio + m.node) * slot ∧ (128 * m.prio + m.node) * slot ≤ 383 * slot := by
    intro m hm
    have hk := keyM (hok.ok m hm)
    have u1 : (128 * m.prio + m.node) * slot ≤ 383 * slot := Int.mul_le_mul_of_nonneg_right hk.2 (by omega)
    have u2 : 1 * 1 ≤ (128 * m.prio + m.node) * slot := Int.mul_le_mul hk.1 hs.1 (by omega) (by omega)
    omega
  have hkf : key (masOf mf) = 128 * mf.prio + mf.node := rfl
  refine ⟨fun m hm => ?_, ⟨mf, hmf, (h1 mf hmf k2).1, (h1 mf hmf k2).2, rfl⟩, fun m hm him hlm => ?_, (hmul mf hmf).1, hok.nd⟩
  · cases ho : m.on with
    | false => exact .inl (h0 m hm ho)
    | true =>
      obtain ⟨g1, g2⟩ := h1 m hm ho
      refine .inr ⟨g1, ?_, by rw [g2]; have := hmul m hm; omega⟩
      rw [g2]
      exact Int.mul_le_mul_of_nonneg_right (k3 (masOf m) (List.mem_map_of_mem hm) ho) (by omega)
  · cases ho : m.on with
    | false => have := h0 m hm ho; omega
    | true =>
      rw [(h1 m hm ho).2, hkf] at hlm
      have hk : 128 * m.prio + m.node = 128 * mf.prio + mf.node := Int.eq_of_mul_eq_mul_right (by omega) hlm
      obtain ⟨a1, a2⟩ := hok.ok m hm
      obtain ⟨b1, b2⟩ := hok.ok mf hmf
      show m.node = mf.node
      omega
def muteM (k : Int) (m : M) : M := if m.is = 3 then { m with mute := k } else m
def begAll (slot : Int) (m : M) : M := if m.is = 3 then begM slot m else m
/-- Who led has lost its power: what the others do. -/
theorem mach_lost {f : Option Mas} (hs : 1 ≤ slot ∧ slot ≤ 3) (hlo : 1 ≤ lost ∧ lost ≤ 9) (hok : NetOk l) (h0 : ∀ m ∈ l, m.on = false → m.is = 0) (h1 : ∀ m ∈ l, m.on = true → m.is = 3 ∧ m.mute = 0) (hf : firstF (l.map masOf) = f) :
    ∃ W node P, Mach slot lost W node P ∧ Leads W node P ∧ P 0 l ∧ ((f = none ∧ W = 0) ∨ ∃ x, f = some x ∧ node = x.node ∧ 1 ≤ W ∧ W ≤ lost + 383 * slot ∧ 1 ≤ node) := by
  cases f with
  | none =>
    have hoff := firstF_none hf
    have hd : Dead l := fun m hm => h0 m hm (hoff (masOf m) (List.mem_map_of_mem hm))
    refine ⟨0, 0, fun k l' => Dead l', ?_, ?_, hd, .inl ⟨rfl, rfl⟩⟩
    · intro k l hk hd
      exact ⟨l, by rw [dead_tick slot lost hd, if_neg (by omega)], hd⟩
    · intro k l hd
      exact ⟨fun z => by omega, fun _ => dead_lead hd⟩
  | some f =>
    have hmas : (l.map (begAll slot)).map masOf = l.map masOf := by
      rw [List.map_map]
      refine List.map_congr_left fun m _ => ?_
      simp only [Function.comp_apply]; unfold begAll; split <;> rfl
    have hok3 : NetOk (l.map (begAll slot)) := hok.map fun m => by unfold begAll; split <;> exact ⟨rfl, rfl⟩
    have hfr : Fresh (key f * slot) f.node (l.map (begAll slot)) := by
      refine fresh_all hs hok3 ?_ ?_ (by rw [hmas]; exact hf)
      · intro m hm ho
        obtain ⟨x, hx, rfl⟩ := List.mem_map.1 hm
        have e : (begAll slot x).on = x.on := by unfold begAll; split <;> rfl
        rw [e] at ho
        have := h0 x hx ho
        unfold begAll; rw [if_neg (by omega)]; exact this
      · intro m hm ho
        obtain ⟨x, hx, rfl⟩ := List.mem_map.1 hm
        have e : (begAll slot x).on = x.on := by unfold begAll; split <;> rfl
        rw [e] at ho
        have := h1 x hx ho
        unfold begAll; rw [if_pos this.1]
        exact ⟨rfl, (begM_left (hok.ok x hx) hs).1⟩
    have hb : ∀ x ∈ l.map masOf, ¬ Bad x := by
      intro x hx
      obtain ⟨m, hm, rfl⟩ := List.mem_map.1 hx
      obtain ⟨g1, g2⟩ := hok.ok m hm
      unfold Bad masOf; dsimp only; omega
    have hbf := hb f (firstF_some hf hb).1
    have hkf : 1 ≤ key f ∧ key f ≤ 383 := by unfold Bad at hbf; unfold key; omega
    have hW : key f * slot ≤ 383 * slot := Int.mul_le_mul_of_nonneg_right hkf.2 (by omega)
    have his : ∀ m ∈ l, m.is = 0 ∨ (m.is = 3 ∧ m.mute = 0) := by
      intro m hm
      cases ho : m.on with
      | false => exact .inl (h0 m hm ho)
      | true => exact .inr (h1 m hm ho)
    have hmi : ∀ k m, (muteM k m).is = m.is := fun k m => by unfold muteM; split <;> rfl
    have hfree : ∀ k, leadL (l.map (muteM k)) = none ∧ claimM (l.map (muteM k)) = none := by
      intro k
      refine ⟨lead_none fun m hm => ?_, claim_none fun m hm => ?_⟩
      · obtain ⟨x, hx, rfl⟩ := List.mem_map.1 hm
        rw [hmi]; rcases his x hx with z | z <;> omega
      · obtain ⟨x, hx, rfl⟩ := List.mem_map.1 hm
        rw [hmi]; rcases his x hx with z | z <;> omega
    have ht1 : ∀ k, 0 ≤ k → k < lost → (l.map (muteM k)).map t1M = l.map (muteM (k + 1)) := by
      intro k hk hk2
      rw [List.map_map]
      refine List.map_congr_left fun m hm => ?_
      simp only [Function.comp_apply]
      rcases his m hm with z | ⟨z, _⟩
      · unfold muteM
        rw [if_neg (by omega), if_neg (by omega)]
        unfold t1M
        rw [if_neg (by omega), if_neg (by omega)]
      · unfold muteM
        rw [if_pos z, if_pos z]
        unfold t1M
        rw [if_neg (by dsimp only; omega), if_pos z]
        dsimp only
        rw [Int.emod_eq_of_lt (by omega) (by omega)]
    have htick : ∀ k, 0 ≤ k → k < lost → tickM slot lost (l.map (muteM k)) = ((l.map (muteM (k + 1))).map (lostMM slot lost), none) := by
      intro k hk hk2
      unfold tickM
      dsimp only
      rw [ht1 k hk hk2, (hfree (k + 1)).1]
      dsimp only
      rw [(hfree (k + 1)).2]
    refine ⟨lost + key f * slot, f.node, fun k l' => (k < lost ∧ l' = l.map (muteM k)) ∨ (lost ≤ k ∧ Phase (key f * slot) f.node (l.map (begAll slot)) (k - lost) l'), ?_, ?_, ?_, .inr ⟨f, rfl, rfl, by have := hfr.pos; omega, by omega, by unfold Bad at hbf; omega⟩⟩
    · rintro k l' hk (⟨g1, rfl⟩ | ⟨g1, g2⟩)
      · refine ⟨_, by rw [htick k hk g1, if_neg (by have := hfr.pos; omega)], ?_⟩
        by_cases e : k + 1 < lost
        · refine .inl ⟨e, ?_⟩
          refine (List.map_congr_left fun m hm => ?_).trans (List.map_id _)
          obtain ⟨x, hx, rfl⟩ := List.mem_map.1 hm
          unfold lostMM
          rw [if_neg]
          · rfl
          · rw [hmi]
            rintro ⟨z1, z2⟩
            unfold muteM at z2
            rw [if_pos z1] at z2
            dsimp only at z2; omega
        · refine .inr ⟨by omega, ?_⟩
          have ek : k + 1 = lost := by omega
          rw [ek, show lost - lost = 0 by omega]
          have e3 : (l.map (muteM lost)).map (lostMM slot lost) = l.map (begAll slot) := by
            rw [List.map_map]
            refine List.map_congr_left fun m hm => ?_
            simp only [Function.comp_apply]
            rcases his m hm with z | ⟨z, _⟩
            · unfold muteM begAll
              rw [if_neg (by omega), if_neg (by omega)]
              unfold lostMM
              rw [if_neg (by omega)]
            · unfold muteM begAll
              rw [if_pos z, if_pos z]
              unfold lostMM
              rw [if_pos ⟨z, Int.le_refl _⟩]; rfl
          rw [e3]
          exact phase_0 hfr
      · obtain ⟨l2, q1, q2⟩ := phase_tick (slot := slot) (lost := lost) hfr (by omega) g2
        refine ⟨l2, ?_, .inr ⟨by omega, by rw [show k + 1 - lost = k - lost + 1 by omega]; exact q2⟩⟩
        rw [q1]
        by_cases z : k - lost + 1 = key f * slot
        · rw [if_pos z, if_pos (by omega)]
        · rw [if_neg z, if_neg (by omega)]
    · rintro k l' (⟨g1, rfl⟩ | ⟨g1, g2⟩)
      · exact ⟨fun z => by have := hfr.pos; omega, fun _ => (hfree k).1⟩
      · rcases g2 with ⟨q1, rfl⟩ | ⟨q1, q2⟩
        · exact ⟨fun z => by omega, fun _ => fresh_lead hfr _⟩
        · exact ⟨fun _ => led_lead q2, fun z => by have := hfr.pos; omega⟩
    · refine .inl ⟨by omega, ?_⟩
      refine ((List.map_congr_left fun m hm => ?_).trans (List.map_id l)).symm
      unfold muteM
      split
      · rename_i z
        rcases his m hm with y | ⟨_, y⟩
        · omega
        · rw [← y]; rfl
      · rfl
end
end Go.Proofs.Ytmakaofdpoiaaaa
