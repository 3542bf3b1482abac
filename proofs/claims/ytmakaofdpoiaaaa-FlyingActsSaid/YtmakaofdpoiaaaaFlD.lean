/- Layer 24: a tick, whole: by walks. -/
import Derived.Test.YtmakaofdpoiaaaaFlC
set_option linter.unusedVariables false
set_option linter.unusedSimpArgs false
set_option maxRecDepth 100000
set_option maxHeartbeats 4000000
namespace Go.Proofs.Ytmakaofdpoiaaaa
open Sx
def leadM (x : PM) : PM := (x.1, { x.2 with is := 2, left := 0, of_ := 0, mute := 0 })
def leadF (ms : List PM) : Option PM := ms.find? fun x => decide (x.2.is = 2)
/-- Masters behind a tick, and who became master. -/
def tickF (slot lost : Int) (ms : List PM) : List PM × Option Int :=
  let m1 := ms.map t1
  match leadF m1 with
  | some top => (m1.map (folM top), none)
  | none => match claimF m1 with
    | some top => ((m1.map fun x => if x.1 = top.1 then leadM x else x).map (folM (leadM top)), some top.2.node)
    | none => (m1.map (lostM slot lost), none)
def toldV (q c : Nat) : Option Int → Value | none => .slice none 0 0 | some _ => .slice (some ⟨q, 0, none⟩) 1 c
def toldH (q c : Nat) : Option Int → Heap | none => [] | some n => [(q, .buf 3 [.int .i64 n] (c * 1))]
theorem set_map {ms : List PM} {j : Nat} {x : PM} (f : PM → PM) (hnd : (ms.map Prod.fst).Nodup) (hj : ms[j]? = some x) : ms.set j (f x) = ms.map fun y => if y.1 = x.1 then f y else y := by
  refine List.ext_getElem? fun i => ?_
  rw [List.getElem?_set, List.getElem?_map]
  obtain ⟨hlt, e⟩ := List.getElem?_eq_some_iff.1 hj
  by_cases hij : j = i
  · subst hij
    obtain rfl := e
    simp [hlt]
  · rw [if_neg hij]
    cases hi : ms[i]? with
    | none => rfl
    | some y =>
      have : ¬ y.1 = x.1 := by
        intro e
        have h1 : (ms.map Prod.fst)[i]? = some x.1 := by rw [List.getElem?_map, hi]; exact congrArg some e
        have h2 : (ms.map Prod.fst)[j]? = some x.1 := by rw [List.getElem?_map, hj]; rfl
        exact hij ((List.getElem?_inj (by simpa using hlt) hnd).1 (h2.trans h1.symm))
      simp [this]
theorem leadF_none {ms : List PM} (h : ∀ x ∈ ms, x.2.is ≠ 2) : leadF ms = none := List.find?_eq_none.2 fun x hx => by simpa using h x hx
theorem leadF_some {ms : List PM} {j : Nat} {x : PM} (hj : ms[j]? = some x) (h2 : x.2.is = 2) (hno : ∀ (i : Nat) y, i < j → ms[i]? = some y → y.2.is ≠ 2) : leadF ms = some x := by
  unfold leadF
  rw [List.find?_eq_some_iff_getElem]
  obtain ⟨hlt, e⟩ := List.getElem?_eq_some_iff.1 hj
  exact ⟨by simpa using h2, j, hlt, e, fun i hi => by simpa using hno i _ hi (List.getElem?_eq_getElem (by omega))⟩
section
variable {K : Value → Heap → Prop} {g r cap : Nat} {slot lost : Int} {ms : List PM}
theorem sep_nodup {H : Heap} {f : PM → Nat × Blk} (h : Sep (H ++ ms.map rw_)) : (ms.map Prod.fst).Nodup := by
  have h1 := (List.pairwise_append.1 h).2.1
  rw [List.pairwise_map] at h1
  rw [List.Nodup, List.pairwise_map]
  exact h1.imp fun h => h (.inl rfl)
theorem c12 (hlen : ms.length ≤ 8) (hOk : ∀ x ∈ ms, x.2.Ok)
    (h : ∀ q c, 1 ≤ c → K (toldV q c (tickF slot lost ms).2) (toldH q c (tickF slot lost ms).2 ++ hpu g r cap slot lost ms (tickF slot lost ms).1)) (hcap : ms.length ≤ cap) (hcm : cap ≤ maxLen) :
    SCalls Try.prog 12 [.pointer (some ⟨g, 0, none⟩)] (hpu g r cap slot lost ms ms) K := by
  refine SCalls.sep (fun w => Try.call12 _ w) fun hsep => ?_
  have hnd : (ms.map Prod.fst).Nodup := sep_nodup (H := [_, _]) (f := rw_) hsep
  clear hsep
  have hnd1 : ((ms.map t1).map Prod.fst).Nodup := by rw [map_fst t1_fst]; exact hnd
  have hl1 : (ms.map t1).length = ms.length := List.length_map _
  have hOk1 : ∀ x ∈ ms.map t1, x.2.Ok := by
    intro x hx
    obtain ⟨y, hy, rfl⟩ := List.mem_map.1 hx
    obtain ⟨h1, h2⟩ := hOk y hy
    exact ⟨by rw [t1_node]; exact h1, by rw [t1_prio]; exact h2⟩
  have hp1 : (ms.map t1).map pr = ms.map pr := map_pr (map_fst t1_fst ms)
  have hu : ∀ ms', hpu g r cap slot lost ms ms' = hpu g r cap slot lost (ms.map t1) ms' := fun ms' => by unfold hpu; rw [hp1, hl1]
  unfold tickF at h
  dsimp only at h
  generalize hm1 : ms.map t1 = m1 at *
  have hok1 : SlOk (some ⟨r, 0, none⟩) cap [(r, .buf 61 (m1.map pr) (cap * 1))] m1 := ⟨by omega, hcm, .inr ⟨r, rfl, rfl⟩⟩
  refine enter12 ?_
  repeat' ((conv => whnf); (first
      | unfold hpu
      | refine New.mk (fun _ => ?_)
      | refine Look.at0 ?_
      | refine Cell.row ?_
      | refine Cell.buf ?_
      | refine Cells.row rfl ?_
      | refine Put.row rfl ?_
      | refine Put.buf rfl ?_
      | refine Look.at1 ?_
      | refine Look.at2 ?_
      | refine Look.at3 ?_
      | refine Look.at4 ?_
      | refine Look.at5 ?_
      | refine Look.at6 ?_
      | refine Look.at7 ?_
      | refine Look.at8 ?_
      | with_reducible refine Val.i64 (by omega) (by omega) ?_
      | with_reducible refine Val.u8 (by omega) (by omega) ?_
      | with_reducible refine Val.u32 (by omega) (by omega) ?_
      | with_reducible refine Val.u64 (by omega) (by omega) ?_
      | with_reducible refine Val.u8m ?_
      | with_reducible refine Val.u32m ?_
      | with_reducible refine Val.u64m ?_
      | with_reducible refine Val.shr8 ?_
      | with_reducible refine Val.shr16 (by decide) ?_
      | with_reducible refine Val.shr24 (by decide) ?_
      | with_reducible refine Val.raw ?_
      | refine Branch.not ?_
      | refine Branch.and ?_
      | refine Branch.or ?_
      | refine Branch.dt (by assumption) ?_
      | refine Branch.df (by assumption) ?_
      | refine Branch.dt rfl ?_
      | refine Branch.dt (by omega) ?_
      | refine Branch.df (by omega) ?_
      | refine Branch.t rfl ?_
      | refine Branch.f rfl ?_
      | refine Branch.t (by assumption) ?_
      | refine Branch.f (by assumption) ?_
      | refine Branch.d (fun _ => ?_) (fun _ => ?_)
      | refine Branch.mk (fun _ => ?_) (fun _ => ?_)
      | refine Need.mk (by first | omega | decide | rfl) ?_
      | refine Idx.nat (by omega) ?_
      | refine Idx.auto (by first | omega | decide) (by first | omega | decide) ?_
      | refine Cell.ro rfl ?_
      | refine SDraw.all (by kernel_rfl) ?_
      | refine Kept.k0 ?_
      | refine Kept.k1 ?_
      | refine Kept.k2 ?_
      | refine Kept.k3 ?_
      | refine Kept.k4 ?_))
  refine l12a hlen _ .mk ?_
  intro l v hS
  cases hS
  rw [hm1, hu]
  repeat' ((conv => whnf); (first
      | refine c29 hok1 (by omega) (fun hno => ?_) (fun j x hx h2 hno => ?_)
      | refine c30 (by omega) (fun hc => ?_) (fun j x hc hx => ?_)
      | refine Look.skip (Look.skip (Look.nth hx rfl ?_))
      | refine Look.skip (Look.skip (Look.nth (List.getElem?_set_self (List.getElem?_eq_some_iff.1 hx).1) rfl ?_))
      | refine appK_set (leadM x) hx rfl ?_
      | refine RawV.app0one (bytes := 8) rfl (by kernel_rfl) (by decide) (fun q c h1 h2 => ?_)
      | unfold M.row M.cells
      | refine New.mk (fun _ => ?_)
      | refine Look.at0 ?_
      | refine Cell.row ?_
      | refine Cell.buf ?_
      | refine Cells.row rfl ?_
      | refine Put.row rfl ?_
      | refine Put.buf rfl ?_
      | refine Look.at1 ?_
      | refine Look.at2 ?_
      | refine Look.at3 ?_
      | refine Look.at4 ?_
      | refine Look.at5 ?_
      | refine Look.at6 ?_
      | refine Look.at7 ?_
      | refine Look.at8 ?_
      | with_reducible refine Val.i64 (by omega) (by omega) ?_
      | with_reducible refine Val.u8 (by omega) (by omega) ?_
      | with_reducible refine Val.u32 (by omega) (by omega) ?_
      | with_reducible refine Val.u64 (by omega) (by omega) ?_
      | with_reducible refine Val.u8m ?_
      | with_reducible refine Val.u32m ?_
      | with_reducible refine Val.u64m ?_
      | with_reducible refine Val.shr8 ?_
      | with_reducible refine Val.shr16 (by decide) ?_
      | with_reducible refine Val.shr24 (by decide) ?_
      | with_reducible refine Val.raw ?_
      | refine Branch.not ?_
      | refine Branch.and ?_
      | refine Branch.or ?_
      | refine Branch.dt (by assumption) ?_
      | refine Branch.df (by assumption) ?_
      | refine Branch.dt rfl ?_
      | refine Branch.dt (by omega) ?_
      | refine Branch.df (by omega) ?_
      | refine Branch.t rfl ?_
      | refine Branch.f rfl ?_
      | refine Branch.t (by assumption) ?_
      | refine Branch.f (by assumption) ?_
      | refine Branch.d (fun _ => ?_) (fun _ => ?_)
      | refine Branch.mk (fun _ => ?_) (fun _ => ?_)
      | refine Need.mk (by first | omega | decide | rfl) ?_
      | refine Idx.nat (by omega) ?_
      | refine Idx.auto (by first | omega | decide) (by first | omega | decide) ?_
      | refine Cell.ro rfl ?_
      | refine SDraw.all (by kernel_rfl) ?_
      | refine Kept.k0 ?_
      | refine Kept.k1 ?_
      | refine Kept.k2 ?_
      | refine Kept.k3 ?_
      | refine Kept.k4 ?_))
  all_goals (conv => whnf)
  · refine l12n (by omega) hOk1 _ _ .mk ?_
    intro l v hS
    cases hS
    repeat' ((conv => whnf); (first
        | refine New.mk (fun _ => ?_)
        | refine Look.at0 ?_
        | refine Cell.row ?_
        | refine Cell.buf ?_
        | refine Cells.row rfl ?_
        | refine Put.row rfl ?_
        | refine Put.buf rfl ?_
        | refine Look.at1 ?_
        | refine Look.at2 ?_
        | refine Look.at3 ?_
        | refine Look.at4 ?_
        | refine Look.at5 ?_
        | refine Look.at6 ?_
        | refine Look.at7 ?_
        | refine Look.at8 ?_
        | with_reducible refine Val.i64 (by omega) (by omega) ?_
        | with_reducible refine Val.u8 (by omega) (by omega) ?_
        | with_reducible refine Val.u32 (by omega) (by omega) ?_
        | with_reducible refine Val.u64 (by omega) (by omega) ?_
        | with_reducible refine Val.u8m ?_
        | with_reducible refine Val.u32m ?_
        | with_reducible refine Val.u64m ?_
        | with_reducible refine Val.shr8 ?_
        | with_reducible refine Val.shr16 (by decide) ?_
        | with_reducible refine Val.shr24 (by decide) ?_
        | with_reducible refine Val.raw ?_
        | refine Branch.not ?_
        | refine Branch.and ?_
        | refine Branch.or ?_
        | refine Branch.dt (by assumption) ?_
        | refine Branch.df (by assumption) ?_
        | refine Branch.dt rfl ?_
        | refine Branch.dt (by omega) ?_
        | refine Branch.df (by omega) ?_
        | refine Branch.t rfl ?_
        | refine Branch.f rfl ?_
        | refine Branch.t (by assumption) ?_
        | refine Branch.f (by assumption) ?_
        | refine Branch.d (fun _ => ?_) (fun _ => ?_)
        | refine Branch.mk (fun _ => ?_) (fun _ => ?_)
        | refine Need.mk (by first | omega | decide | rfl) ?_
        | refine Idx.nat (by omega) ?_
        | refine Idx.auto (by first | omega | decide) (by first | omega | decide) ?_
        | refine Cell.ro rfl ?_
        | refine SDraw.all (by kernel_rfl) ?_
        | refine Kept.k0 ?_
        | refine Kept.k1 ?_
        | refine Kept.k2 ?_
        | refine Kept.k3 ?_
        | refine Kept.k4 ?_))
    all_goals (conv => whnf)
    rw [leadF_none hno, hc] at h
    refine Keep.all ?_
    rw [← hu]
    exact h 0 1 (by omega)
  · have e2 := set_map leadM hnd1 hx
    rw [e2]
    have hm2 : (m1.map fun y => if y.1 = x.1 then leadM y else y).map Prod.fst = m1.map Prod.fst := map_fst (by intro y; split <;> rfl) m1
    have htop : (m1.map fun y => if y.1 = x.1 then leadM y else y)[j]? = some (leadM x) := by
      rw [← e2]; exact List.getElem?_set_self (List.getElem?_eq_some_iff.1 hx).1
    rw [leadF_none hno, hc] at h
    dsimp only at h
    generalize (m1.map fun y => if y.1 = x.1 then leadM y else y) = m2 at *
    have hl2 : m2.length = m1.length := by simpa using congrArg List.length hm2
    have hp2 := map_pr hm2
    rw [← hl2, ← hp2]
    refine SLoop.keep (Keep.drop1 ?_)
    refine SLoop.under [_] (l12t (by omega) htop (by rw [hm2]; exact hnd1) _ _ .mk ?_)
    intro l v hS
    cases hS
    repeat' ((conv => whnf); (first
        | refine New.mk (fun _ => ?_)
        | refine Look.at0 ?_
        | refine Cell.row ?_
        | refine Cell.buf ?_
        | refine Cells.row rfl ?_
        | refine Put.row rfl ?_
        | refine Put.buf rfl ?_
        | refine Look.at1 ?_
        | refine Look.at2 ?_
        | refine Look.at3 ?_
        | refine Look.at4 ?_
        | refine Look.at5 ?_
        | refine Look.at6 ?_
        | refine Look.at7 ?_
        | refine Look.at8 ?_
        | with_reducible refine Val.i64 (by omega) (by omega) ?_
        | with_reducible refine Val.u8 (by omega) (by omega) ?_
        | with_reducible refine Val.u32 (by omega) (by omega) ?_
        | with_reducible refine Val.u64 (by omega) (by omega) ?_
        | with_reducible refine Val.u8m ?_
        | with_reducible refine Val.u32m ?_
        | with_reducible refine Val.u64m ?_
        | with_reducible refine Val.shr8 ?_
        | with_reducible refine Val.shr16 (by decide) ?_
        | with_reducible refine Val.shr24 (by decide) ?_
        | with_reducible refine Val.raw ?_
        | refine Branch.not ?_
        | refine Branch.and ?_
        | refine Branch.or ?_
        | refine Branch.dt (by assumption) ?_
        | refine Branch.df (by assumption) ?_
        | refine Branch.dt rfl ?_
        | refine Branch.dt (by omega) ?_
        | refine Branch.df (by omega) ?_
        | refine Branch.t rfl ?_
        | refine Branch.f rfl ?_
        | refine Branch.t (by assumption) ?_
        | refine Branch.f (by assumption) ?_
        | refine Branch.d (fun _ => ?_) (fun _ => ?_)
        | refine Branch.mk (fun _ => ?_) (fun _ => ?_)
        | refine Need.mk (by first | omega | decide | rfl) ?_
        | refine Idx.nat (by omega) ?_
        | refine Idx.auto (by first | omega | decide) (by first | omega | decide) ?_
        | refine Cell.ro rfl ?_
        | refine SDraw.all (by kernel_rfl) ?_
        | refine Kept.k0 ?_
        | refine Kept.k1 ?_
        | refine Kept.k2 ?_
        | refine Kept.k3 ?_
        | refine Kept.k4 ?_))
    all_goals (conv => whnf)
    refine Keep.all ?_
    have h := h q c (by omega)
    unfold hpu at h ⊢
    rw [hl2, hp2, hl1, hp1]
    exact h
  · refine l12t (by omega) hx hnd1 _ _ .mk ?_
    intro l v hS
    cases hS
    repeat' ((conv => whnf); (first
        | refine New.mk (fun _ => ?_)
        | refine Look.at0 ?_
        | refine Cell.row ?_
        | refine Cell.buf ?_
        | refine Cells.row rfl ?_
        | refine Put.row rfl ?_
        | refine Put.buf rfl ?_
        | refine Look.at1 ?_
        | refine Look.at2 ?_
        | refine Look.at3 ?_
        | refine Look.at4 ?_
        | refine Look.at5 ?_
        | refine Look.at6 ?_
        | refine Look.at7 ?_
        | refine Look.at8 ?_
        | with_reducible refine Val.i64 (by omega) (by omega) ?_
        | with_reducible refine Val.u8 (by omega) (by omega) ?_
        | with_reducible refine Val.u32 (by omega) (by omega) ?_
        | with_reducible refine Val.u64 (by omega) (by omega) ?_
        | with_reducible refine Val.u8m ?_
        | with_reducible refine Val.u32m ?_
        | with_reducible refine Val.u64m ?_
        | with_reducible refine Val.shr8 ?_
        | with_reducible refine Val.shr16 (by decide) ?_
        | with_reducible refine Val.shr24 (by decide) ?_
        | with_reducible refine Val.raw ?_
        | refine Branch.not ?_
        | refine Branch.and ?_
        | refine Branch.or ?_
        | refine Branch.dt (by assumption) ?_
        | refine Branch.df (by assumption) ?_
        | refine Branch.dt rfl ?_
        | refine Branch.dt (by omega) ?_
        | refine Branch.df (by omega) ?_
        | refine Branch.t rfl ?_
        | refine Branch.f rfl ?_
        | refine Branch.t (by assumption) ?_
        | refine Branch.f (by assumption) ?_
        | refine Branch.d (fun _ => ?_) (fun _ => ?_)
        | refine Branch.mk (fun _ => ?_) (fun _ => ?_)
        | refine Need.mk (by first | omega | decide | rfl) ?_
        | refine Idx.nat (by omega) ?_
        | refine Idx.auto (by first | omega | decide) (by first | omega | decide) ?_
        | refine Cell.ro rfl ?_
        | refine SDraw.all (by kernel_rfl) ?_
        | refine Kept.k0 ?_
        | refine Kept.k1 ?_
        | refine Kept.k2 ?_
        | refine Kept.k3 ?_
        | refine Kept.k4 ?_))
    all_goals (conv => whnf)
    rw [leadF_some hx h2 hno] at h
    refine Keep.all ?_
    rw [← hu]
    exact h 0 1 (by omega)
end
end Go.Proofs.Ytmakaofdpoiaaaa
