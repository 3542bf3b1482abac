/- Layer 24: a tick of any net; who leads, who is known, how long one waits; power: by walks. -/
import Derived.Test.YtmakaofdpoiaaaaFlD
import Derived.Test.YtmakaofdpoiaaaaXb
set_option linter.unusedVariables false
set_option linter.unusedSimpArgs false
set_option maxRecDepth 100000
set_option maxHeartbeats 4000000
namespace Go.Proofs.Ytmakaofdpoiaaaa
open Sx
theorem folM_fst (top x : PM) : (folM top x).1 = x.1 := by unfold folM; split <;> rfl
theorem lostM_fst (slot lost : Int) (x : PM) : (lostM slot lost x).1 = x.1 := by unfold lostM; split <;> rfl
theorem claimF_mem {ms : List PM} {x : PM} (h : claimF ms = some x) : x ∈ ms := by
  have key : ∀ (l : List PM) (b : Option PM), l.foldl stepC b = some x → x ∈ l ∨ b = some x := by
    intro l
    induction l with
    | nil => intro b h; exact .inr h
    | cons y l ih =>
      intro b h
      rcases ih _ h with h1 | h1
      · exact .inl (List.mem_cons_of_mem _ h1)
      · unfold stepC at h1
        split at h1
        · cases b with
          | none => injection h1 with h1; exact .inl (h1 ▸ List.mem_cons_self)
          | some b =>
            dsimp only at h1
            split at h1
            · injection h1 with h1; exact .inl (h1 ▸ List.mem_cons_self)
            · exact .inr h1
        · exact .inr h1
  rcases key ms none h with h | h
  · exact h
  · cases h
theorem map_pr_set {ms : List PM} {j : Nat} {x x' : PM} (hj : ms[j]? = some x) (he : x'.1 = x.1) : (ms.set j x').map pr = ms.map pr := by
  rw [list_set hj]
  conv => rhs; rw [list_split hj]
  simp [pr, he]
theorem tickF_fst (slot lost : Int) (ms : List PM) : (tickF slot lost ms).1.map Prod.fst = ms.map Prod.fst := by
  unfold tickF
  dsimp only
  split
  · rw [map_fst (folM_fst _), map_fst t1_fst]
  · split
    · rw [map_fst (folM_fst _), map_fst (by intro y; split <;> rfl), map_fst t1_fst]
    · rw [map_fst (lostM_fst _ _), map_fst t1_fst]

/-- Behind a tick each one is where it was, of the same node and priority. -/
theorem tickF_same (slot lost : Int) (ms : List PM) : ∃ f : PM → PM, (tickF slot lost ms).1 = ms.map f ∧ ∀ x, (f x).1 = x.1 ∧ (f x).2.node = x.2.node ∧ (f x).2.prio = x.2.prio ∧ (f x).2.on = x.2.on := by
  have hfol : ∀ top x, (folM top x).1 = x.1 ∧ (folM top x).2.node = x.2.node ∧ (folM top x).2.prio = x.2.prio ∧ (folM top x).2.on = x.2.on := by
    intro top x; unfold folM; split <;> exact ⟨rfl, rfl, rfl, rfl⟩
  have hlos : ∀ x, (lostM slot lost x).1 = x.1 ∧ (lostM slot lost x).2.node = x.2.node ∧ (lostM slot lost x).2.prio = x.2.prio ∧ (lostM slot lost x).2.on = x.2.on := by
    intro x; unfold lostM; split <;> exact ⟨rfl, rfl, rfl, rfl⟩
  have ht : ∀ x, (t1 x).1 = x.1 ∧ (t1 x).2.node = x.2.node ∧ (t1 x).2.prio = x.2.prio ∧ (t1 x).2.on = x.2.on := fun x => ⟨t1_fst x, t1_node x, t1_prio x, t1_on x⟩
  have comp : ∀ f h : PM → PM, (∀ x, (f x).1 = x.1 ∧ (f x).2.node = x.2.node ∧ (f x).2.prio = x.2.prio ∧ (f x).2.on = x.2.on) → (∀ x, (h x).1 = x.1 ∧ (h x).2.node = x.2.node ∧ (h x).2.prio = x.2.prio ∧ (h x).2.on = x.2.on) →
      ∀ x, ((h ∘ f) x).1 = x.1 ∧ ((h ∘ f) x).2.node = x.2.node ∧ ((h ∘ f) x).2.prio = x.2.prio ∧ ((h ∘ f) x).2.on = x.2.on := by
    intro f h hf hh x
    obtain ⟨a1, a2, a3, a4⟩ := hf x
    obtain ⟨b1, b2, b3, b4⟩ := hh (f x)
    exact ⟨b1.trans a1, b2.trans a2, b3.trans a3, b4.trans a4⟩
  unfold tickF
  dsimp only
  split
  · rename_i top _
    exact ⟨folM top ∘ t1, by rw [List.map_map], comp _ _ ht (hfol top)⟩
  · split
    · rename_i top hc
      exact ⟨folM (leadM top) ∘ (fun x => if x.1 = top.1 then leadM x else x) ∘ t1, by rw [List.map_map, List.map_map]; rfl, comp _ _ (comp _ (fun x => if x.1 = top.1 then leadM x else x) ht (fun x => by show (if x.1 = top.1 then leadM x else x).1 = x.1 ∧ _; split <;> exact ⟨rfl, rfl, rfl, rfl⟩)) (hfol _)⟩
    · exact ⟨lostM slot lost ∘ t1, by rw [List.map_map], comp _ _ ht hlos⟩
section
variable {K : Value → Heap → Prop} {g cap : Nat} {a : Option Addr} {Bh : Heap} {slot lost : Int} {ms : List PM}
theorem c12' (hok : SlOk a cap Bh ms) (hlen : ms.length ≤ 8) (hOk : ∀ x ∈ ms, x.2.Ok)
    (h : ∀ q c, 1 ≤ c → K (toldV q c (tickF slot lost ms).2) (toldH q c (tickF slot lost ms).2 ++ netH g a cap Bh slot lost (tickF slot lost ms).1)) :
    SCalls Try.prog 12 [.pointer (some ⟨g, 0, none⟩)] (netH g a cap Bh slot lost ms) K := by
  have hf := tickF_fst slot lost ms
  have hl : (tickF slot lost ms).1.length = ms.length := by simpa using congrArg List.length hf
  obtain ⟨h1, h2, ⟨rfl, rfl, rfl, rfl⟩ | ⟨r, rfl, rfl⟩⟩ := hok
  · have h := h 0 1 (by omega)
    unfold netH at *
    refine enter12 ?_
    have hsl : SlOk none 0 [] [] := ⟨by simp, by simp, .inl ⟨rfl, rfl, rfl, rfl⟩⟩
    repeat' ((conv => whnf); (first
        | refine c29 hsl (by simp) (fun hno => ?_) (fun j x hx h2 hno => ?_)
        | refine SLoop.round ?_
        | refine enter30 ?_
        | refine Keep.all ?_
        | refine New.mk (fun _ => ?_)
        | refine Look.at0 ?_
        | refine Cell.row ?_
        | refine Cell.buf ?_
        | refine Cells.row rfl ?_
        | refine Put.row rfl ?_
        | refine Put.buf rfl ?_
        | refine Look.at1 ?_
        | refine Look.at2 ?_
        | refine Look.at3 ?_
        | refine Look.at4 ?_
        | refine Look.at5 ?_
        | refine Look.at6 ?_
        | refine Look.at7 ?_
        | refine Look.at8 ?_
        | with_reducible refine Val.i64 (by omega) (by omega) ?_
        | with_reducible refine Val.u8 (by omega) (by omega) ?_
        | with_reducible refine Val.u32 (by omega) (by omega) ?_
        | with_reducible refine Val.u64 (by omega) (by omega) ?_
        | with_reducible refine Val.u8m ?_
        | with_reducible refine Val.u32m ?_
        | with_reducible refine Val.u64m ?_
        | with_reducible refine Val.shr8 ?_
        | with_reducible refine Val.shr16 (by decide) ?_
        | with_reducible refine Val.shr24 (by decide) ?_
        | with_reducible refine Val.raw ?_
        | refine Branch.not ?_
        | refine Branch.and ?_
        | refine Branch.or ?_
        | refine Branch.dt (by assumption) ?_
        | refine Branch.df (by assumption) ?_
        | refine Branch.dt rfl ?_
        | refine Branch.dt (by omega) ?_
        | refine Branch.df (by omega) ?_
        | refine Branch.t rfl ?_
        | refine Branch.f rfl ?_
        | refine Branch.t (by assumption) ?_
        | refine Branch.f (by assumption) ?_
        | refine Branch.d (fun _ => ?_) (fun _ => ?_)
        | refine Branch.mk (fun _ => ?_) (fun _ => ?_)
        | refine Need.mk (by first | omega | decide | rfl) ?_
        | refine Idx.nat (by omega) ?_
        | refine Idx.auto (by first | omega | decide) (by first | omega | decide) ?_
        | refine Cell.ro rfl ?_
        | refine SDraw.all (by kernel_rfl) ?_
        | refine Kept.k0 ?_
        | refine Kept.k1 ?_
        | refine Kept.k2 ?_
        | refine Kept.k3 ?_
        | refine Kept.k4 ?_))
    all_goals exact h
  · refine c12 hlen hOk (fun q c hc => ?_) h1 h2
    have h := h q c hc
    unfold netH at h
    rw [hl] at h
    exact h
def findN (n : Int) (ms : List PM) : Option PM := ms.find? fun x => decide (x.2.node = n)
theorem findN_none {n : Int} (h : ∀ x ∈ ms, x.2.node ≠ n) : findN n ms = none := List.find?_eq_none.2 fun x hx => by simpa using h x hx
theorem findN_some {n : Int} {j : Nat} {x : PM} (hj : ms[j]? = some x) (h2 : x.2.node = n) (hno : ∀ (i : Nat) y, i < j → ms[i]? = some y → y.2.node ≠ n) : findN n ms = some x := by
  unfold findN
  rw [List.find?_eq_some_iff_getElem]
  obtain ⟨hlt, e⟩ := List.getElem?_eq_some_iff.1 hj
  exact ⟨by simpa using h2, j, hlt, e, fun i hi => by simpa using hno i _ hi (List.getElem?_eq_getElem (by omega))⟩
/-- Who leads. -/
theorem c13 (hok : SlOk a cap Bh ms) (hlen : ms.length ≤ 8) (h0 : leadF ms = none → K (.slice none 0 0) (netH g a cap Bh slot lost ms))
    (h1 : ∀ q x, leadF ms = some x → K (.slice (some ⟨q, 0, none⟩) 1 1) ((q, .row 3 [.int .i64 x.2.node] (0, 0)) :: netH g a cap Bh slot lost ms)) :
    SCalls Try.prog 13 [.pointer (some ⟨g, 0, none⟩)] (netH g a cap Bh slot lost ms) K := by
  refine enter13 ?_
  repeat' ((conv => whnf); (first
      | refine c29 hok hlen (fun hno => ?_) (fun j x hx h2 hno => ?_)
      | refine New.mk (fun _ => ?_)
      | refine Look.at0 ?_
      | refine Cell.row ?_
      | refine Cell.buf ?_
      | refine Cells.row rfl ?_
      | refine Put.row rfl ?_
      | refine Put.buf rfl ?_
      | refine Look.at1 ?_
      | refine Look.at2 ?_
      | refine Look.at3 ?_
      | refine Look.at4 ?_
      | refine Look.at5 ?_
      | refine Look.at6 ?_
      | refine Look.at7 ?_
      | refine Look.at8 ?_
      | with_reducible refine Val.i64 (by omega) (by omega) ?_
      | with_reducible refine Val.u8 (by omega) (by omega) ?_
      | with_reducible refine Val.u32 (by omega) (by omega) ?_
      | with_reducible refine Val.u64 (by omega) (by omega) ?_
      | with_reducible refine Val.u8m ?_
      | with_reducible refine Val.u32m ?_
      | with_reducible refine Val.u64m ?_
      | with_reducible refine Val.shr8 ?_
      | with_reducible refine Val.shr16 (by decide) ?_
      | with_reducible refine Val.shr24 (by decide) ?_
      | with_reducible refine Val.raw ?_
      | refine Branch.not ?_
      | refine Branch.and ?_
      | refine Branch.or ?_
      | refine Branch.dt (by assumption) ?_
      | refine Branch.df (by assumption) ?_
      | refine Branch.dt rfl ?_
      | refine Branch.dt (by omega) ?_
      | refine Branch.df (by omega) ?_
      | refine Branch.t rfl ?_
      | refine Branch.f rfl ?_
      | refine Branch.t (by assumption) ?_
      | refine Branch.f (by assumption) ?_
      | refine Branch.d (fun _ => ?_) (fun _ => ?_)
      | refine Branch.mk (fun _ => ?_) (fun _ => ?_)
      | refine Need.mk (by first | omega | decide | rfl) ?_
      | refine Idx.nat (by omega) ?_
      | refine Idx.auto (by first | omega | decide) (by first | omega | decide) ?_
      | refine Cell.ro rfl ?_
      | refine SDraw.all (by kernel_rfl) ?_
      | refine Kept.k0 ?_
      | refine Kept.k1 ?_
      | refine Kept.k2 ?_
      | refine Kept.k3 ?_
      | refine Kept.k4 ?_))
  · exact Keep.all (h0 (leadF_none hno))
  · have h1 := fun q => h1 q x (leadF_some hx h2 hno)
    obtain ⟨r, rfl, rfl⟩ := hok.has (by have := (List.getElem?_eq_some_iff.1 hx).1; omega)
    unfold netH at *
    repeat' ((conv => whnf); (first
        | refine Look.skip (Look.skip (Look.nth hx rfl ?_))
        | unfold M.row M.cells
        | refine New.mk (fun _ => ?_)
        | refine Look.at0 ?_
        | refine Cell.row ?_
        | refine Cell.buf ?_
        | refine Cells.row rfl ?_
        | refine Put.row rfl ?_
        | refine Put.buf rfl ?_
        | refine Look.at1 ?_
        | refine Look.at2 ?_
        | refine Look.at3 ?_
        | refine Look.at4 ?_
        | refine Look.at5 ?_
        | refine Look.at6 ?_
        | refine Look.at7 ?_
        | refine Look.at8 ?_
        | with_reducible refine Val.i64 (by omega) (by omega) ?_
        | with_reducible refine Val.u8 (by omega) (by omega) ?_
        | with_reducible refine Val.u32 (by omega) (by omega) ?_
        | with_reducible refine Val.u64 (by omega) (by omega) ?_
        | with_reducible refine Val.u8m ?_
        | with_reducible refine Val.u32m ?_
        | with_reducible refine Val.u64m ?_
        | with_reducible refine Val.shr8 ?_
        | with_reducible refine Val.shr16 (by decide) ?_
        | with_reducible refine Val.shr24 (by decide) ?_
        | with_reducible refine Val.raw ?_
        | refine Branch.not ?_
        | refine Branch.and ?_
        | refine Branch.or ?_
        | refine Branch.dt (by assumption) ?_
        | refine Branch.df (by assumption) ?_
        | refine Branch.dt rfl ?_
        | refine Branch.dt (by omega) ?_
        | refine Branch.df (by omega) ?_
        | refine Branch.t rfl ?_
        | refine Branch.f rfl ?_
        | refine Branch.t (by assumption) ?_
        | refine Branch.f (by assumption) ?_
        | refine Branch.d (fun _ => ?_) (fun _ => ?_)
        | refine Branch.mk (fun _ => ?_) (fun _ => ?_)
        | refine Need.mk (by first | omega | decide | rfl) ?_
        | refine Idx.nat (by omega) ?_
        | refine Idx.auto (by first | omega | decide) (by first | omega | decide) ?_
        | refine Cell.ro rfl ?_
        | refine SDraw.all (by kernel_rfl) ?_
        | refine Kept.k0 ?_
        | refine Kept.k1 ?_
        | refine Kept.k2 ?_
        | refine Kept.k3 ?_
        | refine Kept.k4 ?_))
    all_goals (conv => whnf)
    exact Keep.all (h1 _)
def knowsF (ms : List PM) (n : Int) : Int × Bool := match findN n ms with | none => (0, false) | some x => if x.2.is = 2 then (n, true) else (x.2.of_, decide (x.2.is = 3))
def leftF (ms : List PM) (n : Int) : Int × Bool := match findN n ms with | none => (0, false) | some x => if x.2.is = 1 then (x.2.left, true) else (0, false)
/-- Whom one knows. -/
theorem c14 (hok : SlOk a cap Bh ms) (hlen : ms.length ≤ 8) (n : Int) (h : K (.tuple ⟨[.int .i64 (knowsF ms n).1, .bool (knowsF ms n).2]⟩) (netH g a cap Bh slot lost ms)) :
    SCalls Try.prog 14 [.pointer (some ⟨g, 0, none⟩), .int .i64 n] (netH g a cap Bh slot lost ms) K := by
  unfold knowsF at h
  refine enter14 ?_
  repeat' ((conv => whnf); (first
      | refine c27 hok hlen n (fun hno => ?_) (fun j x hx h2 hno => ?_)
      | refine New.mk (fun _ => ?_)
      | refine Look.at0 ?_
      | refine Cell.row ?_
      | refine Cell.buf ?_
      | refine Cells.row rfl ?_
      | refine Put.row rfl ?_
      | refine Put.buf rfl ?_
      | refine Look.at1 ?_
      | refine Look.at2 ?_
      | refine Look.at3 ?_
      | refine Look.at4 ?_
      | refine Look.at5 ?_
      | refine Look.at6 ?_
      | refine Look.at7 ?_
      | refine Look.at8 ?_
      | with_reducible refine Val.i64 (by omega) (by omega) ?_
      | with_reducible refine Val.u8 (by omega) (by omega) ?_
      | with_reducible refine Val.u32 (by omega) (by omega) ?_
      | with_reducible refine Val.u64 (by omega) (by omega) ?_
      | with_reducible refine Val.u8m ?_
      | with_reducible refine Val.u32m ?_
      | with_reducible refine Val.u64m ?_
      | with_reducible refine Val.shr8 ?_
      | with_reducible refine Val.shr16 (by decide) ?_
      | with_reducible refine Val.shr24 (by decide) ?_
      | with_reducible refine Val.raw ?_
      | refine Branch.not ?_
      | refine Branch.and ?_
      | refine Branch.or ?_
      | refine Branch.dt (by assumption) ?_
      | refine Branch.df (by assumption) ?_
      | refine Branch.dt rfl ?_
      | refine Branch.dt (by omega) ?_
      | refine Branch.df (by omega) ?_
      | refine Branch.t rfl ?_
      | refine Branch.f rfl ?_
      | refine Branch.t (by assumption) ?_
      | refine Branch.f (by assumption) ?_
      | refine Branch.d (fun _ => ?_) (fun _ => ?_)
      | refine Branch.mk (fun _ => ?_) (fun _ => ?_)
      | refine Need.mk (by first | omega | decide | rfl) ?_
      | refine Idx.nat (by omega) ?_
      | refine Idx.auto (by first | omega | decide) (by first | omega | decide) ?_
      | refine Cell.ro rfl ?_
      | refine SDraw.all (by kernel_rfl) ?_
      | refine Kept.k0 ?_
      | refine Kept.k1 ?_
      | refine Kept.k2 ?_
      | refine Kept.k3 ?_
      | refine Kept.k4 ?_))
  · rw [findN_none hno] at h; exact Keep.all h
  · rw [findN_some hx h2 hno] at h
    dsimp only at h
    obtain ⟨r, rfl, rfl⟩ := hok.has (by have := (List.getElem?_eq_some_iff.1 hx).1; omega)
    unfold netH at *
    repeat' ((conv => whnf); (first
        | refine Look.skip (Look.skip (Look.nth hx rfl ?_))
        | unfold M.row M.cells
        | refine New.mk (fun _ => ?_)
        | refine Look.at0 ?_
        | refine Cell.row ?_
        | refine Cell.buf ?_
        | refine Cells.row rfl ?_
        | refine Put.row rfl ?_
        | refine Put.buf rfl ?_
        | refine Look.at1 ?_
        | refine Look.at2 ?_
        | refine Look.at3 ?_
        | refine Look.at4 ?_
        | refine Look.at5 ?_
        | refine Look.at6 ?_
        | refine Look.at7 ?_
        | refine Look.at8 ?_
        | with_reducible refine Val.i64 (by omega) (by omega) ?_
        | with_reducible refine Val.u8 (by omega) (by omega) ?_
        | with_reducible refine Val.u32 (by omega) (by omega) ?_
        | with_reducible refine Val.u64 (by omega) (by omega) ?_
        | with_reducible refine Val.u8m ?_
        | with_reducible refine Val.u32m ?_
        | with_reducible refine Val.u64m ?_
        | with_reducible refine Val.shr8 ?_
        | with_reducible refine Val.shr16 (by decide) ?_
        | with_reducible refine Val.shr24 (by decide) ?_
        | with_reducible refine Val.raw ?_
        | refine Branch.not ?_
        | refine Branch.and ?_
        | refine Branch.or ?_
        | refine Branch.dt (by assumption) ?_
        | refine Branch.df (by assumption) ?_
        | refine Branch.dt rfl ?_
        | refine Branch.dt (by omega) ?_
        | refine Branch.df (by omega) ?_
        | refine Branch.t rfl ?_
        | refine Branch.f rfl ?_
        | refine Branch.t (by assumption) ?_
        | refine Branch.f (by assumption) ?_
        | refine Branch.d (fun _ => ?_) (fun _ => ?_)
        | refine Branch.mk (fun _ => ?_) (fun _ => ?_)
        | refine Need.mk (by first | omega | decide | rfl) ?_
        | refine Idx.nat (by omega) ?_
        | refine Idx.auto (by first | omega | decide) (by first | omega | decide) ?_
        | refine Cell.ro rfl ?_
        | refine SDraw.all (by kernel_rfl) ?_
        | refine Kept.k0 ?_
        | refine Kept.k1 ?_
        | refine Kept.k2 ?_
        | refine Kept.k3 ?_
        | refine Kept.k4 ?_))
    all_goals (conv => whnf)
    · rw [if_pos ‹_›] at h; exact Keep.all h
    · rw [if_neg ‹_›] at h; exact Keep.all h
/-- How long one waits. -/
theorem c15 (hok : SlOk a cap Bh ms) (hlen : ms.length ≤ 8) (n : Int) (h : K (.tuple ⟨[.int .u64 (leftF ms n).1, .bool (leftF ms n).2]⟩) (netH g a cap Bh slot lost ms)) :
    SCalls Try.prog 15 [.pointer (some ⟨g, 0, none⟩), .int .i64 n] (netH g a cap Bh slot lost ms) K := by
  unfold leftF at h
  refine enter15 ?_
  repeat' ((conv => whnf); (first
      | refine c27 hok hlen n (fun hno => ?_) (fun j x hx h2 hno => ?_)
      | refine New.mk (fun _ => ?_)
      | refine Look.at0 ?_
      | refine Cell.row ?_
      | refine Cell.buf ?_
      | refine Cells.row rfl ?_
      | refine Put.row rfl ?_
      | refine Put.buf rfl ?_
      | refine Look.at1 ?_
      | refine Look.at2 ?_
      | refine Look.at3 ?_
      | refine Look.at4 ?_
      | refine Look.at5 ?_
      | refine Look.at6 ?_
      | refine Look.at7 ?_
      | refine Look.at8 ?_
      | with_reducible refine Val.i64 (by omega) (by omega) ?_
      | with_reducible refine Val.u8 (by omega) (by omega) ?_
      | with_reducible refine Val.u32 (by omega) (by omega) ?_
      | with_reducible refine Val.u64 (by omega) (by omega) ?_
      | with_reducible refine Val.u8m ?_
      | with_reducible refine Val.u32m ?_
      | with_reducible refine Val.u64m ?_
      | with_reducible refine Val.shr8 ?_
      | with_reducible refine Val.shr16 (by decide) ?_
      | with_reducible refine Val.shr24 (by decide) ?_
      | with_reducible refine Val.raw ?_
      | refine Branch.not ?_
      | refine Branch.and ?_
      | refine Branch.or ?_
      | refine Branch.dt (by assumption) ?_
      | refine Branch.df (by assumption) ?_
      | refine Branch.dt rfl ?_
      | refine Branch.dt (by omega) ?_
      | refine Branch.df (by omega) ?_
      | refine Branch.t rfl ?_
      | refine Branch.f rfl ?_
      | refine Branch.t (by assumption) ?_
      | refine Branch.f (by assumption) ?_
      | refine Branch.d (fun _ => ?_) (fun _ => ?_)
      | refine Branch.mk (fun _ => ?_) (fun _ => ?_)
      | refine Need.mk (by first | omega | decide | rfl) ?_
      | refine Idx.nat (by omega) ?_
      | refine Idx.auto (by first | omega | decide) (by first | omega | decide) ?_
      | refine Cell.ro rfl ?_
      | refine SDraw.all (by kernel_rfl) ?_
      | refine Kept.k0 ?_
      | refine Kept.k1 ?_
      | refine Kept.k2 ?_
      | refine Kept.k3 ?_
      | refine Kept.k4 ?_))
  · rw [findN_none hno] at h; exact Keep.all h
  · rw [findN_some hx h2 hno] at h
    dsimp only at h
    obtain ⟨r, rfl, rfl⟩ := hok.has (by have := (List.getElem?_eq_some_iff.1 hx).1; omega)
    unfold netH at *
    repeat' ((conv => whnf); (first
        | refine Look.skip (Look.skip (Look.nth hx rfl ?_))
        | unfold M.row M.cells
        | refine New.mk (fun _ => ?_)
        | refine Look.at0 ?_
        | refine Cell.row ?_
        | refine Cell.buf ?_
        | refine Cells.row rfl ?_
        | refine Put.row rfl ?_
        | refine Put.buf rfl ?_
        | refine Look.at1 ?_
        | refine Look.at2 ?_
        | refine Look.at3 ?_
        | refine Look.at4 ?_
        | refine Look.at5 ?_
        | refine Look.at6 ?_
        | refine Look.at7 ?_
        | refine Look.at8 ?_
        | with_reducible refine Val.i64 (by omega) (by omega) ?_
        | with_reducible refine Val.u8 (by omega) (by omega) ?_
        | with_reducible refine Val.u32 (by omega) (by omega) ?_
        | with_reducible refine Val.u64 (by omega) (by omega) ?_
        | with_reducible refine Val.u8m ?_
        | with_reducible refine Val.u32m ?_
        | with_reducible refine Val.u64m ?_
        | with_reducible refine Val.shr8 ?_
        | with_reducible refine Val.shr16 (by decide) ?_
        | with_reducible refine Val.shr24 (by decide) ?_
        | with_reducible refine Val.raw ?_
        | refine Branch.not ?_
        | refine Branch.and ?_
        | refine Branch.or ?_
        | refine Branch.dt (by assumption) ?_
        | refine Branch.df (by assumption) ?_
        | refine Branch.dt rfl ?_
        | refine Branch.dt (by omega) ?_
        | refine Branch.df (by omega) ?_
        | refine Branch.t rfl ?_
        | refine Branch.f rfl ?_
        | refine Branch.t (by assumption) ?_
        | refine Branch.f (by assumption) ?_
        | refine Branch.d (fun _ => ?_) (fun _ => ?_)
        | refine Branch.mk (fun _ => ?_) (fun _ => ?_)
        | refine Need.mk (by first | omega | decide | rfl) ?_
        | refine Idx.nat (by omega) ?_
        | refine Idx.auto (by first | omega | decide) (by first | omega | decide) ?_
        | refine Cell.ro rfl ?_
        | refine SDraw.all (by kernel_rfl) ?_
        | refine Kept.k0 ?_
        | refine Kept.k1 ?_
        | refine Kept.k2 ?_
        | refine Kept.k3 ?_
        | refine Kept.k4 ?_))
    all_goals (conv => whnf)
    · rw [if_pos ‹_›] at h; exact Keep.all h
    · rw [if_neg ‹_›] at h; exact Keep.all h
/-- Power is given, or taken. -/
def powM (slot : Int) (on : Bool) (m : M) : M := if on then begM slot { m with on := true } else ⟨m.node, m.prio, false, 0, 0, 0, 0⟩
def powF (slot : Int) (ms : List PM) (n : Int) (on : Bool) : Int × List PM := match findN n ms with
  | none => (4, ms)
  | some x => if x.2.on = on then (0, ms) else (0, ms.map fun y => if y.1 = x.1 then (y.1, powM slot on y.2) else y)
theorem c20 (hok : SlOk a cap Bh ms) (hlen : ms.length ≤ 8) (hOk : ∀ x ∈ ms, x.2.Ok) (n : Int) (on : Bool) (h : K (.int .i64 (powF slot ms n on).1) (netH g a cap Bh slot lost (powF slot ms n on).2)) :
    SCalls Try.prog 20 [.pointer (some ⟨g, 0, none⟩), .int .i64 n, .bool on] (netH g a cap Bh slot lost ms) K := by
  refine SCalls.sep (fun w => Try.call20 _ w) fun hsep => ?_
  have hnd : (ms.map Prod.fst).Nodup := sep_nodup (H := netR g a ms.length cap slot lost :: Bh) (f := rw_) hsep
  clear hsep
  unfold powF at h
  refine enter20 ?_
  repeat' ((conv => whnf); (first
      | refine c27 hok hlen n (fun hno => ?_) (fun j x hx h2 hno => ?_)
      | refine New.mk (fun _ => ?_)
      | refine Look.at0 ?_
      | refine Cell.row ?_
      | refine Cell.buf ?_
      | refine Cells.row rfl ?_
      | refine Put.row rfl ?_
      | refine Put.buf rfl ?_
      | refine Look.at1 ?_
      | refine Look.at2 ?_
      | refine Look.at3 ?_
      | refine Look.at4 ?_
      | refine Look.at5 ?_
      | refine Look.at6 ?_
      | refine Look.at7 ?_
      | refine Look.at8 ?_
      | with_reducible refine Val.i64 (by omega) (by omega) ?_
      | with_reducible refine Val.u8 (by omega) (by omega) ?_
      | with_reducible refine Val.u32 (by omega) (by omega) ?_
      | with_reducible refine Val.u64 (by omega) (by omega) ?_
      | with_reducible refine Val.u8m ?_
      | with_reducible refine Val.u32m ?_
      | with_reducible refine Val.u64m ?_
      | with_reducible refine Val.shr8 ?_
      | with_reducible refine Val.shr16 (by decide) ?_
      | with_reducible refine Val.shr24 (by decide) ?_
      | with_reducible refine Val.raw ?_
      | refine Branch.not ?_
      | refine Branch.and ?_
      | refine Branch.or ?_
      | refine Branch.dt (by assumption) ?_
      | refine Branch.df (by assumption) ?_
      | refine Branch.dt rfl ?_
      | refine Branch.dt (by omega) ?_
      | refine Branch.df (by omega) ?_
      | refine Branch.t rfl ?_
      | refine Branch.f rfl ?_
      | refine Branch.t (by assumption) ?_
      | refine Branch.f (by assumption) ?_
      | refine Branch.d (fun _ => ?_) (fun _ => ?_)
      | refine Branch.mk (fun _ => ?_) (fun _ => ?_)
      | refine Need.mk (by first | omega | decide | rfl) ?_
      | refine Idx.nat (by omega) ?_
      | refine Idx.auto (by first | omega | decide) (by first | omega | decide) ?_
      | refine Cell.ro rfl ?_
      | refine SDraw.all (by kernel_rfl) ?_
      | refine Kept.k0 ?_
      | refine Kept.k1 ?_
      | refine Kept.k2 ?_
      | refine Kept.k3 ?_
      | refine Kept.k4 ?_))
  · rw [findN_none hno] at h; exact Keep.all h
  · rw [findN_some hx h2 hno] at h
    have hxo := hOk x (List.mem_of_getElem? hx)
    obtain ⟨hxo1, hxo2⟩ := hxo
    dsimp only at h
    obtain ⟨r, rfl, rfl⟩ := hok.has (by have := (List.getElem?_eq_some_iff.1 hx).1; omega)
    rw [← set_map (fun y => (y.1, powM slot on y.2)) hnd hx] at h
    have hl : ∀ y : PM, (ms.set j y).length = ms.length := fun y => List.length_set
    obtain ⟨xa, xm⟩ := x
    obtain ⟨nd, pq, xon, is, left, of_, mute⟩ := xm
    dsimp only at hxo1 hxo2 h
    unfold netH at *
    cases on <;> cases xon
    all_goals
      repeat' ((conv => whnf); (first
          | refine Look.skip (Look.skip (Look.nth hx rfl ?_))
          | refine Look.skip (Look.skip (Look.nth (List.getElem?_set_self (List.getElem?_eq_some_iff.1 hx).1) rfl ?_))
          | refine appK_set (xa, ⟨nd, pq, false, is, left, of_, mute⟩) hx rfl ?_
          | refine appK_set (xa, ⟨nd, pq, true, is, left, of_, mute⟩) hx rfl ?_
          | refine appK_set (xa, ⟨nd, pq, false, 0, 0, 0, 0⟩) (List.getElem?_set_self (List.getElem?_eq_some_iff.1 hx).1) rfl ?_
          | refine appK_set (xa, (begM slot ⟨nd, pq, true, is, left, of_, mute⟩)) (List.getElem?_set_self (List.getElem?_eq_some_iff.1 hx).1) rfl ?_
          | with_reducible refine Val.i64 (by dsimp only; omega) (by dsimp only; omega) ?_
          | with_reducible refine Val.u64 (by dsimp only; omega) (by dsimp only; omega) ?_
          | refine enter28 ?_
          | refine Keep.all ?_
          | unfold M.row M.cells
          | refine New.mk (fun _ => ?_)
          | refine Look.at0 ?_
          | refine Cell.row ?_
          | refine Cell.buf ?_
          | refine Cells.row rfl ?_
          | refine Put.row rfl ?_
          | refine Put.buf rfl ?_
          | refine Look.at1 ?_
          | refine Look.at2 ?_
          | refine Look.at3 ?_
          | refine Look.at4 ?_
          | refine Look.at5 ?_
          | refine Look.at6 ?_
          | refine Look.at7 ?_
          | refine Look.at8 ?_
          | with_reducible refine Val.i64 (by omega) (by omega) ?_
          | with_reducible refine Val.u8 (by omega) (by omega) ?_
          | with_reducible refine Val.u32 (by omega) (by omega) ?_
          | with_reducible refine Val.u64 (by omega) (by omega) ?_
          | with_reducible refine Val.u8m ?_
          | with_reducible refine Val.u32m ?_
          | with_reducible refine Val.u64m ?_
          | with_reducible refine Val.shr8 ?_
          | with_reducible refine Val.shr16 (by decide) ?_
          | with_reducible refine Val.shr24 (by decide) ?_
          | with_reducible refine Val.raw ?_
          | refine Branch.not ?_
          | refine Branch.and ?_
          | refine Branch.or ?_
          | refine Branch.dt (by assumption) ?_
          | refine Branch.df (by assumption) ?_
          | refine Branch.dt rfl ?_
          | refine Branch.dt (by omega) ?_
          | refine Branch.df (by omega) ?_
          | refine Branch.t rfl ?_
          | refine Branch.f rfl ?_
          | refine Branch.t (by assumption) ?_
          | refine Branch.f (by assumption) ?_
          | refine Branch.d (fun _ => ?_) (fun _ => ?_)
          | refine Branch.mk (fun _ => ?_) (fun _ => ?_)
          | refine Need.mk (by first | omega | decide | rfl) ?_
          | refine Idx.nat (by omega) ?_
          | refine Idx.auto (by first | omega | decide) (by first | omega | decide) ?_
          | refine Cell.ro rfl ?_
          | refine SDraw.all (by kernel_rfl) ?_
          | refine Kept.k0 ?_
          | refine Kept.k1 ?_
          | refine Kept.k2 ?_
          | refine Kept.k3 ?_
          | refine Kept.k4 ?_))
    all_goals first
      | exact h
      | (rw [List.set_set]
         simp only [Bool.false_eq_true, Bool.true_eq_false, if_false, List.length_set, map_pr_set hx] at h
         exact h)
      | trace_state
end
end Go.Proofs.Ytmakaofdpoiaaaa
