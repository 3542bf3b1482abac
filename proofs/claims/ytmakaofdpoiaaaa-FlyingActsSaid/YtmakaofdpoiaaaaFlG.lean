/- Layer 24: what a net does, told of its masters alone: plain laws, and the walks' contracts in these words. -/
import Derived.Test.YtmakaofdpoiaaaaFlF
set_option linter.unusedVariables false
set_option linter.unusedSimpArgs false
set_option maxRecDepth 100000
set_option maxHeartbeats 4000000
namespace Go.Proofs.Ytmakaofdpoiaaaa
open Sx
def t1M (m : M) : M := if m.is = 1 then { m with left := (m.left - 1) % 18446744073709551616 } else if m.is = 3 then { m with mute := (m.mute + 1) % 18446744073709551616 } else m
def stepM (best : Option M) (x : M) : Option M := if x.is = 1 ∧ x.left = 0 then (match best with | none => some x | some b => if ord x.prio x.node b.prio b.node < 0 then some x else some b) else best
def claimM (l : List M) : Option M := l.foldl stepM none
def leadL (l : List M) : Option M := l.find? fun m => decide (m.is = 2)
def folMM (top m : M) : M := if m.is = 0 ∨ m.node = top.node then m else { m with is := 3, left := 0, of_ := top.node, mute := 0 }
def leadMM (m : M) : M := { m with is := 2, left := 0, of_ := 0, mute := 0 }
def lostMM (slot lost : Int) (m : M) : M := if m.is = 3 ∧ lost ≤ m.mute then begM slot m else m
/-- A tick. -/
def tickM (slot lost : Int) (l : List M) : List M × Option Int :=
  let l1 := l.map t1M
  match leadL l1 with
  | some top => (l1.map (folMM top), none)
  | none => match claimM l1 with
    | some top => ((l1.map fun m => if m.node = top.node then leadMM m else m).map (folMM top), some top.node)
    | none => (l1.map (lostMM slot lost), none)
structure NetOk (l : List M) : Prop where
  len : l.length ≤ 8
  ok : ∀ m ∈ l, m.Ok
  nd : (l.map M.node).Nodup
structure Net (a : Option Addr) (cap : Nat) (Bh : Heap) (ms : List PM) (l : List M) : Prop where
  sl : SlOk a cap Bh ms
  eq : ms.map Prod.snd = l
  ok : NetOk l
theorem t1_snd (x : PM) : (t1 x).2 = t1M x.2 := by unfold t1 t1M; (repeat' split) <;> rfl
theorem lostM_snd (slot lost : Int) (x : PM) : (lostM slot lost x).2 = lostMM slot lost x.2 := by unfold lostM lostMM; split <;> rfl
theorem map_snd {f : PM → PM} {h : M → M} (hf : ∀ x, (f x).2 = h x.2) (ms : List PM) : (ms.map f).map Prod.snd = (ms.map Prod.snd).map h := by simp [Function.comp_def, hf]
theorem map_snd_mem {f : PM → PM} {h : M → M} (ms : List PM) (hf : ∀ x ∈ ms, (f x).2 = h x.2) : (ms.map f).map Prod.snd = (ms.map Prod.snd).map h := by
  rw [List.map_map, List.map_map]
  exact List.map_congr_left hf
theorem claim_snd (ms : List PM) : (claimF ms).map Prod.snd = claimM (ms.map Prod.snd) := by
  have key : ∀ (l : List PM) (b : Option PM), (l.foldl stepC b).map Prod.snd = (l.map Prod.snd).foldl stepM (b.map Prod.snd) := by
    intro l
    induction l with
    | nil => intro b; rfl
    | cons x l ih =>
      intro b
      rw [List.foldl_cons, ih, List.map_cons, List.foldl_cons]
      congr 1
      unfold stepC stepM
      cases b with
      | none => split <;> rfl
      | some b =>
        by_cases h1 : x.2.is = 1 ∧ x.2.left = 0
        · by_cases h2 : ord x.2.prio x.2.node b.2.prio b.2.node < 0 <;> simp [h1, h2]
        · simp [h1]
  exact key ms none
theorem lead_snd (ms : List PM) : (leadF ms).map Prod.snd = leadL (ms.map Prod.snd) := by
  unfold leadF leadL
  rw [List.find?_map]; rfl
theorem find_snd (n : Int) (ms : List PM) : (findN n ms).map Prod.snd = (ms.map Prod.snd).find? fun m => decide (m.node = n) := by
  unfold findN
  rw [List.find?_map]; rfl
/-- The same address is the same node. -/
theorem same_iff {ms : List PM} (h1 : (ms.map Prod.fst).Nodup) (h2 : ((ms.map Prod.snd).map M.node).Nodup) {x y : PM} (hx : x ∈ ms) (hy : y ∈ ms) : x.1 = y.1 ↔ x.2.node = y.2.node := by
  obtain ⟨i, hi, rfl⟩ := List.getElem_of_mem hx
  obtain ⟨j, hj, rfl⟩ := List.getElem_of_mem hy
  constructor
  · intro e
    have : i = j := (List.getElem?_inj (l := ms.map Prod.fst) (by simpa using hi) h1).1 (by simp [hi, hj, e])
    subst this; rfl
  · intro e
    have : i = j := (List.getElem?_inj (l := (ms.map Prod.snd).map M.node) (by simpa using hi) h2).1 (by simp [hi, hj, e])
    subst this; rfl
theorem t1M_node (m : M) : (t1M m).node = m.node := by unfold t1M; (repeat' split) <;> rfl
theorem lead_mem {ms : List PM} {x : PM} (h : leadF ms = some x) : x ∈ ms := List.mem_of_find?_eq_some h
theorem tick_snd (slot lost : Int) (ms : List PM) (h1 : (ms.map Prod.fst).Nodup) (h2 : ((ms.map Prod.snd).map M.node).Nodup) :
    (tickF slot lost ms).1.map Prod.snd = (tickM slot lost (ms.map Prod.snd)).1 ∧ (tickF slot lost ms).2 = (tickM slot lost (ms.map Prod.snd)).2 := by
  have e1 : (ms.map t1).map Prod.snd = (ms.map Prod.snd).map t1M := map_snd t1_snd ms
  have k1 : ((ms.map t1).map Prod.fst).Nodup := by rw [map_fst t1_fst]; exact h1
  have k2 : (((ms.map t1).map Prod.snd).map M.node).Nodup := by
    rw [e1, List.map_map, show M.node ∘ t1M = M.node from funext t1M_node]; exact h2
  have hl := lead_snd (ms.map t1)
  have hc := claim_snd (ms.map t1)
  rw [e1] at hl hc
  unfold tickF tickM
  dsimp only
  rw [← hl, ← hc, ← e1]
  generalize ms.map t1 = m1 at *
  cases hL : leadF m1 with
  | some top =>
    refine ⟨map_snd_mem m1 fun x hx => ?_, rfl⟩
    unfold folM folMM
    have := same_iff k1 k2 hx (lead_mem hL)
    simp only [this]
    split <;> rfl
  | none =>
    cases hC : claimF m1 with
    | some top =>
      refine ⟨?_, rfl⟩
      have ht := claimF_mem hC
      simp only [Option.map_some, Option.map_none]
      rw [List.map_map, List.map_map, List.map_map, List.map_map]
      refine List.map_congr_left fun x hx => ?_
      have := same_iff k1 k2 hx ht
      simp only [Function.comp_apply, this]
      by_cases e : x.2.node = top.2.node
      · rw [if_pos e, if_pos e]
        have e' := this.2 e
        unfold folM folMM
        rw [if_pos (.inr (by simpa [leadM] using e')), if_pos (.inr (by simpa [leadMM] using e))]; rfl
      · rw [if_neg e, if_neg e]
        unfold folM folMM
        have e' : ¬ x.1 = (leadM top).1 := fun h => e (this.1 (by simpa [leadM] using h))
        by_cases z : x.2.is = 0
        · rw [if_pos (.inl z), if_pos (.inl z)]
        · rw [if_neg (by rintro (h | h); exact z h; exact e' h), if_neg (by rintro (h | h); exact z h; exact e h)]; rfl
    | none => exact ⟨map_snd (lostM_snd slot lost) m1, rfl⟩
theorem tickM_same (slot lost : Int) (l : List M) : ∃ f : M → M, (tickM slot lost l).1 = l.map f ∧ ∀ m, (f m).node = m.node ∧ (f m).prio = m.prio ∧ (f m).on = m.on := by
  have ht : ∀ m, (t1M m).node = m.node ∧ (t1M m).prio = m.prio ∧ (t1M m).on = m.on := by intro m; unfold t1M; (repeat' split) <;> exact ⟨rfl, rfl, rfl⟩
  have hf : ∀ top m, (folMM top m).node = m.node ∧ (folMM top m).prio = m.prio ∧ (folMM top m).on = m.on := by intro top m; unfold folMM; split <;> exact ⟨rfl, rfl, rfl⟩
  have hl : ∀ m, (lostMM slot lost m).node = m.node ∧ (lostMM slot lost m).prio = m.prio ∧ (lostMM slot lost m).on = m.on := by intro m; unfold lostMM; split <;> exact ⟨rfl, rfl, rfl⟩
  have comp : ∀ {f h : M → M}, (∀ m, (f m).node = m.node ∧ (f m).prio = m.prio ∧ (f m).on = m.on) → (∀ m, (h m).node = m.node ∧ (h m).prio = m.prio ∧ (h m).on = m.on) → ∀ m, ((h ∘ f) m).node = m.node ∧ ((h ∘ f) m).prio = m.prio ∧ ((h ∘ f) m).on = m.on :=
    fun a b m => ⟨(b _).1.trans (a m).1, (b _).2.1.trans (a m).2.1, (b _).2.2.trans (a m).2.2⟩
  unfold tickM
  dsimp only
  split
  · exact ⟨folMM _ ∘ t1M, by rw [List.map_map], comp ht (hf _)⟩
  · split
    · rename_i top _
      exact ⟨folMM top ∘ (fun m => if m.node = top.node then leadMM m else m) ∘ t1M, by rw [List.map_map, List.map_map]; rfl, comp (comp ht (h := fun m => if m.node = top.node then leadMM m else m) (fun m => by show (if m.node = top.node then leadMM m else m).node = m.node ∧ _; split <;> exact ⟨rfl, rfl, rfl⟩)) (hf _)⟩
    · exact ⟨lostMM slot lost ∘ t1M, by rw [List.map_map], comp ht hl⟩
theorem NetOk.map {l : List M} (h : NetOk l) {f : M → M} (hf : ∀ m, (f m).node = m.node ∧ (f m).prio = m.prio) : NetOk (l.map f) := by
  refine ⟨by simpa using h.len, fun m hm => ?_, by rw [List.map_map, show M.node ∘ f = M.node from funext fun m => (hf m).1]; exact h.nd⟩
  obtain ⟨x, hx, rfl⟩ := List.mem_map.1 hm
  obtain ⟨h1, h2⟩ := h.ok x hx
  exact ⟨by rw [(hf x).1]; exact h1, by rw [(hf x).2]; exact h2⟩
theorem NetOk.tick {l : List M} (h : NetOk l) (slot lost : Int) : NetOk (tickM slot lost l).1 := by
  obtain ⟨f, e, hf⟩ := tickM_same slot lost l
  rw [e]
  exact h.map fun m => ⟨(hf m).1, (hf m).2.1⟩
theorem newGo_nd {slot : Int} : ∀ {r : List Mas} {acc l : List M}, newGo slot r acc = .ok l → (acc.map M.node).Nodup → (∀ m ∈ acc, m.Ok) → (l.map M.node).Nodup ∧ (∀ m ∈ l, m.Ok) ∧ l.length = acc.length + r.length
  | [], acc, l, h, h1, h2 => by
    injection h with h
    subst h
    exact ⟨h1, h2, rfl⟩
  | x :: r, acc, l, h, h1, h2 => by
    by_cases hb : Bad x
    · rw [newGo_bad hb] at h; cases h
    · cases hd : acc.any (fun m => decide (m.node = x.node)) with
      | true => rw [newGo_dup hb hd] at h; cases h
      | false =>
        rw [newGo_ok hb hd] at h
        have hn : (mkM slot x).node = x.node := by unfold mkM; split <;> rfl
        have hp : (mkM slot x).prio = x.prio := by unfold mkM; split <;> rfl
        unfold Bad at hb
        obtain ⟨g1, g2, g3⟩ := newGo_nd h (by
          rw [List.map_append, List.nodup_append]
          refine ⟨h1, by simp, ?_⟩
          intro a ha b hb e
          obtain ⟨m, hm, rfl⟩ := List.mem_map.1 ha
          simp only [List.map_cons, List.map_nil, List.mem_singleton] at hb
          have := List.any_eq_false.1 hd m hm
          rw [hn] at hb
          exact this (by simp [e, hb])) (fun m hm => by
          rcases List.mem_append.1 hm with hm | hm
          · exact h2 m hm
          · obtain rfl := List.mem_singleton.1 hm
            exact ⟨by rw [hn]; omega, by rw [hp]; omega⟩)
        refine ⟨g1, g2, ?_⟩
        rw [g3]; simp; omega
theorem newF_ok {slot lost : Int} {L : List Mas} {l : List M} (h : newF slot lost L = .ok l) : NetOk l := by
  unfold newF at h
  split at h
  · cases h
  · rename_i h8
    cases hg : newGo slot L [] with
    | error e => rw [hg] at h; cases h
    | ok l' =>
      rw [hg] at h
      dsimp only at h
      split at h
      · cases h
      · injection h with h
        subst h
        obtain ⟨g1, g2, g3⟩ := newGo_nd hg List.nodup_nil (fun m hm => by cases hm)
        exact ⟨by rw [g3]; simp; omega, g2, g1⟩
section
variable {K : Value → Heap → Prop} {g cap : Nat} {a : Option Addr} {Bh : Heap} {slot lost : Int} {ms : List PM} {l : List M}
theorem Net.len (h : Net a cap Bh ms l) : ms.length ≤ 8 := by have := h.ok.len; rw [← h.eq] at this; simpa using this
theorem Net.oks (h : Net a cap Bh ms l) : ∀ x ∈ ms, x.2.Ok := fun x hx => h.ok.ok x.2 (by rw [← h.eq]; exact List.mem_map_of_mem hx)
theorem c12N (hn : Net a cap Bh ms l) (h : ∀ q c ms', 1 ≤ c → Net a cap Bh ms' (tickM slot lost l).1 → K (toldV q c (tickM slot lost l).2) (toldH q c (tickM slot lost l).2 ++ netH g a cap Bh slot lost ms')) :
    SCalls Try.prog 12 [.pointer (some ⟨g, 0, none⟩)] (netH g a cap Bh slot lost ms) K := by
  refine SCalls.sep (fun w => Try.call12 _ w) fun hsep => ?_
  have hnd : (ms.map Prod.fst).Nodup := sep_nodup (H := netR g a ms.length cap slot lost :: Bh) (f := rw_) hsep
  have hb := hn.ok.nd
  rw [← hn.eq] at hb
  obtain ⟨e1, e2⟩ := tick_snd slot lost ms hnd hb
  rw [hn.eq] at e1 e2
  refine c12' hn.sl hn.len hn.oks fun q c hc => ?_
  rw [e2]
  exact h q c _ hc ⟨hn.sl.upd (tickF_fst slot lost ms), e1, hn.ok.tick slot lost⟩
theorem c13N (hn : Net a cap Bh ms l) (h0 : leadL l = none → K (.slice none 0 0) (netH g a cap Bh slot lost ms))
    (h1 : ∀ q m, leadL l = some m → K (.slice (some ⟨q, 0, none⟩) 1 1) ((q, .row 3 [.int .i64 m.node] (0, 0)) :: netH g a cap Bh slot lost ms)) :
    SCalls Try.prog 13 [.pointer (some ⟨g, 0, none⟩)] (netH g a cap Bh slot lost ms) K := by
  have e := lead_snd ms
  rw [hn.eq] at e
  refine c13 hn.sl hn.len (fun hL => h0 ?_) (fun q x hL => h1 q x.2 ?_) <;> rw [← e, hL] <;> rfl
def findL (n : Int) (l : List M) : Option M := l.find? fun m => decide (m.node = n)
def knowsM (l : List M) (n : Int) : Int × Bool := match findL n l with | none => (0, false) | some m => if m.is = 2 then (n, true) else (m.of_, decide (m.is = 3))
def leftM (l : List M) (n : Int) : Int × Bool := match findL n l with | none => (0, false) | some m => if m.is = 1 then (m.left, true) else (0, false)
theorem c14N (hn : Net a cap Bh ms l) (n : Int) (h : K (.tuple ⟨[.int .i64 (knowsM l n).1, .bool (knowsM l n).2]⟩) (netH g a cap Bh slot lost ms)) :
    SCalls Try.prog 14 [.pointer (some ⟨g, 0, none⟩), .int .i64 n] (netH g a cap Bh slot lost ms) K := by
  have e : knowsF ms n = knowsM l n := by
    have := find_snd n ms
    rw [hn.eq] at this
    unfold knowsF knowsM findL
    rw [← this]
    cases findN n ms <;> rfl
  exact c14 hn.sl hn.len n (by rw [e]; exact h)
theorem c15N (hn : Net a cap Bh ms l) (n : Int) (h : K (.tuple ⟨[.int .u64 (leftM l n).1, .bool (leftM l n).2]⟩) (netH g a cap Bh slot lost ms)) :
    SCalls Try.prog 15 [.pointer (some ⟨g, 0, none⟩), .int .i64 n] (netH g a cap Bh slot lost ms) K := by
  have e : leftF ms n = leftM l n := by
    have := find_snd n ms
    rw [hn.eq] at this
    unfold leftF leftM findL
    rw [← this]
    cases findN n ms <;> rfl
  exact c15 hn.sl hn.len n (by rw [e]; exact h)
def powL (slot : Int) (l : List M) (n : Int) (on : Bool) : Int × List M := match findL n l with
  | none => (4, l)
  | some m => if m.on = on then (0, l) else (0, l.map fun y => if y.node = n then powM slot on y else y)
theorem powM_same (slot : Int) (on : Bool) (m : M) : (powM slot on m).node = m.node ∧ (powM slot on m).prio = m.prio := by unfold powM; split <;> exact ⟨rfl, rfl⟩
theorem NetOk.pow (h : NetOk l) (slot n : Int) (on : Bool) : NetOk (powL slot l n on).2 := by
  unfold powL
  split
  · exact h
  · split
    · exact h
    · refine h.map fun m => ?_
      split
      · exact powM_same slot on m
      · exact ⟨rfl, rfl⟩
theorem c20N (hn : Net a cap Bh ms l) (n : Int) (on : Bool) (h : ∀ ms', Net a cap Bh ms' (powL slot l n on).2 → K (.int .i64 (powL slot l n on).1) (netH g a cap Bh slot lost ms')) :
    SCalls Try.prog 20 [.pointer (some ⟨g, 0, none⟩), .int .i64 n, .bool on] (netH g a cap Bh slot lost ms) K := by
  refine SCalls.sep (fun w => Try.call20 _ w) fun hsep => ?_
  have hnd : (ms.map Prod.fst).Nodup := sep_nodup (H := netR g a ms.length cap slot lost :: Bh) (f := rw_) hsep
  have hb := hn.ok.nd
  rw [← hn.eq] at hb
  have e := find_snd n ms
  rw [hn.eq] at e
  have key : (powF slot ms n on).1 = (powL slot l n on).1 ∧ (powF slot ms n on).2.map Prod.snd = (powL slot l n on).2 ∧ (powF slot ms n on).2.map Prod.fst = ms.map Prod.fst := by
    unfold powF powL findL
    rw [← e]
    cases hf : findN n ms with
    | none => exact ⟨rfl, hn.eq, rfl⟩
    | some x =>
      have hx : x ∈ ms := List.mem_of_find?_eq_some hf
      have hxn : x.2.node = n := by simpa using List.find?_some hf
      dsimp only [Option.map]
      split
      · exact ⟨rfl, hn.eq, rfl⟩
      · refine ⟨rfl, ?_, map_fst (by intro y; split <;> rfl) ms⟩
        rw [← hn.eq]
        refine map_snd_mem ms fun y hy => ?_
        have := same_iff hnd hb hy hx
        rw [hxn] at this
        by_cases z : y.2.node = n
        · rw [if_pos (this.2 z), if_pos z]
        · rw [if_neg (fun h => z (this.1 h)), if_neg z]
  refine c20 hn.sl hn.len hn.oks n on ?_
  rw [key.1]
  exact h _ ⟨hn.sl.upd key.2.2, key.2.1, hn.ok.pow slot n on⟩
theorem c10N {b o c : Nat} {blk : Blk} {L : List Mas} (hc : ∀ (j : Nat) m, L[j]? = some m → ∀ i v, m.cells[i]? = some v → blk.cell (o + j * 3 + i) = some v) (hsl : 0 ≤ slot ∧ slot ≤ 18446744073709551615)
    (hE : ∀ e, newF slot lost L = .error e → K (.tuple ⟨[.pointer none, .int .i64 e]⟩) [(b, blk)])
    (hN : ∀ ms g a cap Bh l, newF slot lost L = .ok l → Net a cap Bh ms l → K (.tuple ⟨[.pointer (some ⟨g, 0, none⟩), .int .i64 0]⟩) ((b, blk) :: netH g a cap Bh slot lost ms)) :
    SCalls Try.prog 10 [.slice (some ⟨b, o, none⟩) L.length c, .int .u64 slot, .int .u64 lost] [(b, blk)] K :=
  c10 hc hsl hE fun ms g a cap Bh e hs => hN ms g a cap Bh _ e ⟨hs, rfl, newF_ok e⟩
end
end Go.Proofs.Ytmakaofdpoiaaaa
