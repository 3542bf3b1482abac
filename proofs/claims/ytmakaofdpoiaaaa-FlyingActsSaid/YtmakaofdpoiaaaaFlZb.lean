/- Layer 24: what holds of a net always, and the contracts in these words. -/
import Derived.Test.YtmakaofdpoiaaaaFlZa
set_option linter.unusedVariables false
set_option linter.unusedSimpArgs false
set_option maxRecDepth 100000
set_option maxHeartbeats 4000000
namespace Go.Proofs.Ytmakaofdpoiaaaa
open Sx
structure Gd (l : List M) : Prop where
  ok : NetOk l
  can : ∀ m ∈ l, Canon m
  one : ∀ m ∈ l, ∀ m' ∈ l, m.is = 2 → m'.is = 2 → m.node = m'.node
section
variable {K : Value → Heap → Prop} {g cap : Nat} {a : Option Addr} {Bh : Heap} {d r1 r2 r3 r4 c N q : Nat} {slot lost : Int} {ms : List PM} {L : List Mas} {l l' : List M} {Q : Post} {t : Option Int}
theorem Canon.t1 {m : M} (h : Canon m) : Canon (t1M m) := by
  obtain ⟨r, a0, a1, a2, a3⟩ := h
  unfold t1M
  split
  · rename_i e; exact ⟨r, fun z => absurd z (by show ¬ m.is = 0; omega), fun _ => a1 e, fun z => absurd z (by show ¬ m.is = 2; omega), fun z => absurd z (by show ¬ m.is = 3; omega)⟩
  · split
    · rename_i e; exact ⟨r, fun z => absurd z (by show ¬ m.is = 0; omega), fun z => absurd z (by show ¬ m.is = 1; omega), fun z => absurd z (by show ¬ m.is = 2; omega), fun _ => a3 e⟩
    · exact ⟨r, a0, a1, a2, a3⟩
theorem Canon.fol {m top : M} (h : Canon m) : Canon (folMM top m) := by
  unfold folMM
  split
  · exact h
  · exact ⟨by show (0 : Int) ≤ 3 ∧ (3 : Int) ≤ 3; omega, fun z => absurd z (by show ¬ (3 : Int) = 0; omega), fun z => absurd z (by show ¬ (3 : Int) = 1; omega), fun z => absurd z (by show ¬ (3 : Int) = 2; omega), fun _ => rfl⟩
theorem Canon.beg (m : M) : Canon (begM slot m) := ⟨by show (0 : Int) ≤ 1 ∧ (1 : Int) ≤ 3; omega, fun z => absurd z (by show ¬ (1 : Int) = 0; omega), fun _ => ⟨rfl, rfl⟩, fun z => absurd z (by show ¬ (1 : Int) = 2; omega), fun z => absurd z (by show ¬ (1 : Int) = 3; omega)⟩
theorem Canon.lead (m : M) : Canon (leadMM m) := ⟨by show (0 : Int) ≤ 2 ∧ (2 : Int) ≤ 3; omega, fun z => absurd z (by show ¬ (2 : Int) = 0; omega), fun z => absurd z (by show ¬ (2 : Int) = 1; omega), fun _ => ⟨rfl, rfl, rfl⟩, fun z => absurd z (by show ¬ (2 : Int) = 3; omega)⟩
theorem Canon.off (x y : Int) (b : Bool) : Canon ⟨x, y, b, 0, 0, 0, 0⟩ := ⟨by show (0 : Int) ≤ 0 ∧ (0 : Int) ≤ 3; omega, fun _ => ⟨rfl, rfl, rfl⟩, fun z => absurd z (by show ¬ (0 : Int) = 1; omega), fun z => absurd z (by show ¬ (0 : Int) = 2; omega), fun z => absurd z (by show ¬ (0 : Int) = 3; omega)⟩
theorem fol_one {top : M} (h : ∀ m ∈ l, Canon m) : ∀ m ∈ l.map (folMM top), m.is = 2 → m.node = top.node := by
  intro m hm h2
  obtain ⟨x, hx, rfl⟩ := List.mem_map.1 hm
  unfold folMM at h2 ⊢
  split at h2
  · rename_i e
    rw [if_pos e]
    rcases e with e | e
    · omega
    · exact e
  · exact absurd h2 (by show ¬ (3 : Int) = 2; omega)
theorem Gd.tick (h : Gd l) (he : tickM slot lost l = (l', t)) : Gd l' ∧ t ≠ some 0 := by
  have hok := h.ok.tick slot lost
  rw [he] at hok
  have hc1 : ∀ m ∈ l.map t1M, Canon m := fun m hm => by obtain ⟨x, hx, rfl⟩ := List.mem_map.1 hm; exact (h.can x hx).t1
  have hn1 : ∀ m ∈ l.map t1M, 1 ≤ m.node := fun m hm => by
    obtain ⟨x, hx, rfl⟩ := List.mem_map.1 hm
    have := (h.ok.ok x hx).node
    have e : (t1M x).node = x.node := by unfold t1M; (repeat' split) <;> rfl
    omega
  unfold tickM at he
  generalize l.map t1M = l1 at *
  cases hld : leadL l1 with
  | some top =>
    simp only [hld] at he
    injection he with e1 e2
    subst e1 e2
    refine ⟨⟨hok, fun m hm => ?_, fun m hm m' hm' h2 h3 => by rw [fol_one hc1 m hm h2, fol_one hc1 m' hm' h3]⟩, by simp⟩
    obtain ⟨x, hx, rfl⟩ := List.mem_map.1 hm
    exact (hc1 x hx).fol
  | none =>
    simp only [hld] at he
    cases hcl : claimM l1 with
    | some top =>
      simp only [hcl] at he
      injection he with e1 e2
      subst e1 e2
      have hc2 : ∀ m ∈ l1.map (fun m => if m.node = top.node then leadMM m else m), Canon m := fun m hm => by
        obtain ⟨x, hx, rfl⟩ := List.mem_map.1 hm
        split
        · exact .lead x
        · exact hc1 x hx
      refine ⟨⟨hok, fun m hm => ?_, fun m hm m' hm' h2 h3 => by rw [fol_one hc2 m hm h2, fol_one hc2 m' hm' h3]⟩, ?_⟩
      · obtain ⟨x, hx, rfl⟩ := List.mem_map.1 hm
        exact (hc2 x hx).fol
      · have := hn1 top (claim_mem hcl).1
        intro z
        injection z with z
        omega
    | none =>
      simp only [hcl] at he
      injection he with e1 e2
      subst e1 e2
      have hno : ∀ m ∈ l1, ¬ m.is = 2 := fun m hm => by simpa using List.find?_eq_none.1 hld m hm
      have hno2 : ∀ m ∈ l1.map (lostMM slot lost), ¬ m.is = 2 := fun m hm => by
        obtain ⟨x, hx, rfl⟩ := List.mem_map.1 hm
        unfold lostMM
        split
        · show ¬ (1 : Int) = 2; omega
        · exact hno x hx
      refine ⟨⟨hok, fun m hm => ?_, fun m hm m' hm' h2 h3 => absurd h2 (hno2 m hm)⟩, by simp⟩
      obtain ⟨x, hx, rfl⟩ := List.mem_map.1 hm
      unfold lostMM
      split
      · exact .beg x
      · exact hc1 x hx
theorem powM_can (on : Bool) (m : M) : Canon (powM slot on m) := by
  unfold powM
  split
  · exact .beg _
  · exact .off _ _ _
theorem powM_is (on : Bool) (m : M) : ¬ (powM slot on m).is = 2 := by
  unfold powM
  split
  · show ¬ (1 : Int) = 2; omega
  · show ¬ (0 : Int) = 2; omega
theorem Gd.pow (h : Gd l) {n : Int} {on : Bool} {code : Int} (he : powL slot l n on = (code, l')) : Gd l' := by
  have hok := h.ok.pow slot n on
  rw [he] at hok
  unfold powL at he
  split at he
  · injection he with e1 e2; subst e2; exact h
  · split at he
    · injection he with e1 e2; subst e2; exact h
    · injection he with e1 e2
      subst e2
      have key : ∀ m ∈ l.map (fun y => if y.node = n then powM slot on y else y), m.is = 2 → m ∈ l := fun m hm h2 => by
        obtain ⟨x, hx, rfl⟩ := List.mem_map.1 hm
        split at h2
        · exact absurd h2 (powM_is on x)
        · rename_i z; rw [if_neg z]; exact hx
      refine ⟨hok, fun m hm => ?_, fun m hm m' hm' h2 h3 => h.one m (key m hm h2) m' (key m' hm' h3) h2 h3⟩
      obtain ⟨x, hx, rfl⟩ := List.mem_map.1 hm
      split
      · exact powM_can on x
      · exact h.can x hx
theorem Gd.new (h : newF slot lost L = .ok l) : Gd l ∧ l.map masOf = L := by
  have hok := newF_ok h
  obtain ⟨hm, _⟩ := newF_map h
  subst hm
  have hno : ∀ m ∈ L.map (mkM slot), ¬ m.is = 2 := fun m hm => by
    obtain ⟨x, hx, rfl⟩ := List.mem_map.1 hm
    unfold mkM
    split
    · show ¬ (1 : Int) = 2; omega
    · show ¬ (0 : Int) = 2; omega
  refine ⟨⟨hok, fun m hm => ?_, fun m hm m' hm' h2 h3 => absurd h2 (hno m hm)⟩, ?_⟩
  · obtain ⟨x, hx, rfl⟩ := List.mem_map.1 hm
    unfold mkM
    split
    · exact .beg _
    · exact .off _ _ _
  · rw [List.map_map]
    refine List.map_id'' (fun x => ?_) L
    obtain ⟨a, b, o⟩ := x
    cases o <;> rfl
/-- The document's net of some masters. -/
def rN (d r1 r2 r3 r4 c N : Nat) (slot lost : Int) (l : List M) : Heap := rM d r1 r2 r3 r4 l.length c N slot lost (l.map masOf) l
theorem bad_of (ok : NetOk l) : ∀ x ∈ l.map masOf, ¬ Bad x := fun x hx => by
  obtain ⟨m, hm, rfl⟩ := List.mem_map.1 hx
  obtain ⟨g1, g2⟩ := ok.ok m hm
  unfold Bad masOf
  simp only []
  omega
theorem tick_len (he : tickM slot lost l = (l', t)) : l'.length = l.length := by
  obtain ⟨f, e, _⟩ := tickM_same slot lost l
  rw [he] at e
  have e : l' = l.map f := e
  rw [e, List.length_map]
theorem c25N (h : Gd l) (he : tickM slot lost l = (l', t)) (hk : K (.int .i64 (t.getD 0)) (rN d r1 r2 r3 r4 c N slot lost l')) :
    SCalls Try.prog 25 [.pointer (some ⟨d, 0, none⟩)] (rN d r1 r2 r3 r4 c N slot lost l) K := by
  refine c25 rfl rfl h.ok h.can h.one he ?_
  have e := tick_mas slot lost l
  rw [he] at e
  unfold rN at hk
  rw [tick_len he, e] at hk
  exact hk
theorem got {j : Nat} {x : Mas} (hx : (l.map masOf)[j]? = some x) : ∃ m, l[j]? = some m ∧ x = masOf m := by
  rw [List.getElem?_map] at hx
  cases hm : l[j]? with
  | none => rw [hm] at hx; cases hx
  | some m => rw [hm] at hx; injection hx with hx; exact ⟨m, rfl, hx.symm⟩
theorem c24N (h : Gd l) {n : Int} {on : Bool} {code : Int} (he : powL slot l n on = (code, l')) (hk : K (.int .i64 code) (rN d r1 r2 r3 r4 c N slot lost l')) :
    SCalls Try.prog 24 [.pointer (some ⟨d, 0, none⟩), .int .i64 n, .bool on] (rN d r1 r2 r3 r4 c N slot lost l) K := by
  have hnd := h.ok.nd
  refine c24 (List.length_map ..).symm (List.length_map ..) (List.length_map ..) (List.length_map ..) (bad_of h.ok) (by rw [List.length_map]; exact h.ok.len) n on (fun hno => ?_) (fun j x hx hxn hon => ?_) (fun j x hx hxn hon _ => ?_)
  · have hf : findL n l = none := List.find?_eq_none.2 fun m hm => by
      have h1 : ¬ m.node = n := hno (masOf m) (List.mem_map_of_mem hm)
      simpa using h1
    unfold powL at he
    rw [hf] at he
    injection he with e1 e2
    subst e1 e2
    exact hk
  · obtain ⟨m, hm, rfl⟩ := got hx
    have hf := find_uniq (List.mem_of_getElem? hm) hnd hxn
    unfold powL at he
    rw [hf] at he
    have hon : m.on = on := hon
    simp only [if_pos hon] at he
    injection he with e1 e2
    subst e1 e2
    exact hk
  · obtain ⟨m, hm, rfl⟩ := got hx
    have hf := find_uniq (List.mem_of_getElem? hm) hnd hxn
    unfold powL at he
    rw [hf] at he
    have hon : ¬ m.on = on := hon
    have hxn : m.node = n := hxn
    simp only [if_neg hon] at he
    injection he with e1 e2
    subst e1 e2
    subst hxn
    rw [map_set_at hm hnd] at hk
    unfold rN rM at hk
    rw [List.length_set, List.map_set, List.map_set, List.map_set, List.map_set] at hk
    cases on <;> exact hk
theorem c26 (hn : Net a cap Bh ms l) (h : Gd l) (hk : K (.bool true) (rN d r1 r2 r3 r4 c N slot lost l ++ netH g a cap Bh slot lost ms)) :
    SCalls Try.prog 26 [.pointer (some ⟨g, 0, none⟩), .pointer (some ⟨d, 0, none⟩)] (rN d r1 r2 r3 r4 c N slot lost l ++ netH g a cap Bh slot lost ms) K := by
  have hll : l.length = (l.map masOf).length := (List.length_map ..).symm
  unfold rN at hk ⊢
  rw [hll] at hk ⊢
  refine enter26 ?_
  repeat' ((conv => whnf); (first
      | refine c13A (rM d r1 r2 r3 r4 (l.map masOf).length c N slot lost (l.map masOf) l) hn (fun e => ?_) (fun q m e => ?_)
      | refine New.mk (fun _ => ?_)
      | refine Look.at0 ?_
      | refine Cell.row ?_
      | refine Cell.buf ?_
      | refine Cells.row rfl ?_
      | refine Put.row rfl ?_
      | refine Put.buf rfl ?_
      | refine Look.at1 ?_
      | refine Look.at2 ?_
      | refine Look.at3 ?_
      | refine Look.at4 ?_
      | refine Look.at5 ?_
      | refine Look.at6 ?_
      | refine Look.at7 ?_
      | refine Look.at8 ?_
      | with_reducible refine Val.i64 (by omega) (by omega) ?_
      | with_reducible refine Val.u8 (by omega) (by omega) ?_
      | with_reducible refine Val.u32 (by omega) (by omega) ?_
      | with_reducible refine Val.u64 (by omega) (by omega) ?_
      | with_reducible refine Val.u8m ?_
      | with_reducible refine Val.u32m ?_
      | with_reducible refine Val.u64m ?_
      | with_reducible refine Val.shr8 ?_
      | with_reducible refine Val.shr16 (by decide) ?_
      | with_reducible refine Val.shr24 (by decide) ?_
      | with_reducible refine Val.raw ?_
      | refine Branch.not ?_
      | refine Branch.and ?_
      | refine Branch.or ?_
      | refine Branch.dt (by assumption) ?_
      | refine Branch.df (by assumption) ?_
      | refine Branch.dt rfl ?_
      | refine Branch.dt (by omega) ?_
      | refine Branch.df (by omega) ?_
      | refine Branch.t rfl ?_
      | refine Branch.f rfl ?_
      | refine Branch.t (by assumption) ?_
      | refine Branch.f (by assumption) ?_
      | refine Branch.d (fun _ => ?_) (fun _ => ?_)
      | refine Branch.mk (fun _ => ?_) (fun _ => ?_)
      | refine Need.mk (by first | omega | decide | rfl) ?_
      | refine Idx.nat (by omega) ?_
      | refine Idx.auto (by first | omega | decide) (by first | omega | decide) ?_
      | refine Cell.ro rfl ?_
      | refine SDraw.all (by kernel_rfl) ?_
      | refine Kept.k0 ?_
      | refine Kept.k1 ?_
      | refine Kept.k2 ?_
      | refine Kept.k3 ?_
      | refine Kept.k4 ?_))
  · refine l26 (q := 0) (t := none) hn rfl h.can h.one (by rw [e]; rfl) _ .mk (fun S v hS => ?_)
    cases hS
    repeat' ((conv => whnf); (first
        | refine New.mk (fun _ => ?_)
        | refine Look.at0 ?_
        | refine Cell.row ?_
        | refine Cell.buf ?_
        | refine Cells.row rfl ?_
        | refine Put.row rfl ?_
        | refine Put.buf rfl ?_
        | refine Look.at1 ?_
        | refine Look.at2 ?_
        | refine Look.at3 ?_
        | refine Look.at4 ?_
        | refine Look.at5 ?_
        | refine Look.at6 ?_
        | refine Look.at7 ?_
        | refine Look.at8 ?_
        | with_reducible refine Val.i64 (by omega) (by omega) ?_
        | with_reducible refine Val.u8 (by omega) (by omega) ?_
        | with_reducible refine Val.u32 (by omega) (by omega) ?_
        | with_reducible refine Val.u64 (by omega) (by omega) ?_
        | with_reducible refine Val.u8m ?_
        | with_reducible refine Val.u32m ?_
        | with_reducible refine Val.u64m ?_
        | with_reducible refine Val.shr8 ?_
        | with_reducible refine Val.shr16 (by decide) ?_
        | with_reducible refine Val.shr24 (by decide) ?_
        | with_reducible refine Val.raw ?_
        | refine Branch.not ?_
        | refine Branch.and ?_
        | refine Branch.or ?_
        | refine Branch.dt (by assumption) ?_
        | refine Branch.df (by assumption) ?_
        | refine Branch.dt rfl ?_
        | refine Branch.dt (by omega) ?_
        | refine Branch.df (by omega) ?_
        | refine Branch.t rfl ?_
        | refine Branch.f rfl ?_
        | refine Branch.t (by assumption) ?_
        | refine Branch.f (by assumption) ?_
        | refine Branch.d (fun _ => ?_) (fun _ => ?_)
        | refine Branch.mk (fun _ => ?_) (fun _ => ?_)
        | refine Need.mk (by first | omega | decide | rfl) ?_
        | refine Idx.nat (by omega) ?_
        | refine Idx.auto (by first | omega | decide) (by first | omega | decide) ?_
        | refine Cell.ro rfl ?_
        | refine SDraw.all (by kernel_rfl) ?_
        | refine Kept.k0 ?_
        | refine Kept.k1 ?_
        | refine Kept.k2 ?_
        | refine Kept.k3 ?_
        | refine Kept.k4 ?_))
    all_goals (conv => whnf)
    all_goals exact Keep.all hk
  · refine l26 (q := q) (t := some m.node) hn rfl h.can h.one (by rw [e]; rfl) _ .mk (fun S v hS => ?_)
    cases hS
    repeat' ((conv => whnf); (first
        | refine New.mk (fun _ => ?_)
        | refine Look.at0 ?_
        | refine Cell.row ?_
        | refine Cell.buf ?_
        | refine Cells.row rfl ?_
        | refine Put.row rfl ?_
        | refine Put.buf rfl ?_
        | refine Look.at1 ?_
        | refine Look.at2 ?_
        | refine Look.at3 ?_
        | refine Look.at4 ?_
        | refine Look.at5 ?_
        | refine Look.at6 ?_
        | refine Look.at7 ?_
        | refine Look.at8 ?_
        | with_reducible refine Val.i64 (by omega) (by omega) ?_
        | with_reducible refine Val.u8 (by omega) (by omega) ?_
        | with_reducible refine Val.u32 (by omega) (by omega) ?_
        | with_reducible refine Val.u64 (by omega) (by omega) ?_
        | with_reducible refine Val.u8m ?_
        | with_reducible refine Val.u32m ?_
        | with_reducible refine Val.u64m ?_
        | with_reducible refine Val.shr8 ?_
        | with_reducible refine Val.shr16 (by decide) ?_
        | with_reducible refine Val.shr24 (by decide) ?_
        | with_reducible refine Val.raw ?_
        | refine Branch.not ?_
        | refine Branch.and ?_
        | refine Branch.or ?_
        | refine Branch.dt (by assumption) ?_
        | refine Branch.df (by assumption) ?_
        | refine Branch.dt rfl ?_
        | refine Branch.dt (by omega) ?_
        | refine Branch.df (by omega) ?_
        | refine Branch.t rfl ?_
        | refine Branch.f rfl ?_
        | refine Branch.t (by assumption) ?_
        | refine Branch.f (by assumption) ?_
        | refine Branch.d (fun _ => ?_) (fun _ => ?_)
        | refine Branch.mk (fun _ => ?_) (fun _ => ?_)
        | refine Need.mk (by first | omega | decide | rfl) ?_
        | refine Idx.nat (by omega) ?_
        | refine Idx.auto (by first | omega | decide) (by first | omega | decide) ?_
        | refine Cell.ro rfl ?_
        | refine SDraw.all (by kernel_rfl) ?_
        | refine Kept.k0 ?_
        | refine Kept.k1 ?_
        | refine Kept.k2 ?_
        | refine Kept.k3 ?_
        | refine Kept.k4 ?_))
    all_goals (conv => whnf)
    all_goals exact Keep.glue [[(q, .row 3 [.int .i64 m.node] (0, 0))], rM d r1 r2 r3 r4 (l.map masOf).length c N slot lost (l.map masOf) l ++ netH g a cap Bh slot lost ms] [0, 1] [1] [0] (by decide) rfl hk
end
end Go.Proofs.Ytmakaofdpoiaaaa
