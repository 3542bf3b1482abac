/- Layer 24: the document's tick: those that follow; the whole of it. -/
import Derived.Test.YtmakaofdpoiaaaaFlT
set_option linter.unusedVariables false
set_option linter.unusedSimpArgs false
set_option maxRecDepth 100000
set_option maxHeartbeats 4000000
namespace Go.Proofs.Ytmakaofdpoiaaaa
open Sx
section
variable {K : Value → Heap → Prop} {d r1 r2 r3 r4 n c N : Nat} {slot lost : Int} {L : List Mas} {l : List M} {Q : Post}
def I25c (t told : Value) (f : M → M) (d r1 r2 r3 r4 n c N : Nat) (slot lost : Int) (L : List Mas) (l : List M) (S : List Value) (H : Heap) : Prop :=
  ∃ j : Nat, j ≤ n ∧ S25c (.pointer (some ⟨d, 0, none⟩)) t told (.int .i64 (j : Int)) S ∧ H = rh d r1 r2 r3 r4 n c N slot lost L ((updTo f j l).map M.is) ((updTo f j l).map tOf) ((updTo f j l).map M.of_)
theorem fol_same {top x : M} (h : x.is = 0 ∨ x.node = top.node) : folMM top x = x := if_pos h
theorem fol_yes {top x : M} (h : ¬ x.is = 0) (h2 : ¬ x.node = top.node) : folMM top x = { x with is := 3, left := 0, of_ := top.node, mute := 0 } := if_neg fun e => e.elim h h2
theorem l25t {k : Nat} {top : M} {told : Value} (hn : n = l.length) (hL : L = l.map masOf) (hlen : l.length ≤ 8) (hnd : (l.map M.node).Nodup) (hk : l[k]? = some top) (S : List Value) (hS : S25c (.pointer (some ⟨d, 0, none⟩)) (.int .i64 (k : Int)) told (.int .i64 0) S)
    (hQ : ∀ S v, S25c (.pointer (some ⟨d, 0, none⟩)) (.int .i64 (k : Int)) told v S → Q (.exit 4) S (rM d r1 r2 r3 r4 n c N slot lost L (l.map (folMM top)))) :
    SLoop Try.prog X25_l0 Q S (rM d r1 r2 r3 r4 n c N slot lost L l) := by
  refine SLoop.inv (I25c (.int .i64 (k : Int)) told (folMM top) d r1 r2 r3 r4 n c N slot lost L l) (M25 7 n) (Keep.all ⟨0, by omega, hS, by rw [updTo_zero]; rfl⟩) ?_
  clear hS S
  rintro S H ⟨j, hj, hS, rfl⟩ R hR
  have hLn : L.length = n := by rw [hL, List.length_map, hn]
  have hkn := (List.getElem?_eq_some_iff.1 hk).1
  by_cases hlt : j < n
  · cases hS
    obtain ⟨x, hx⟩ : ∃ x, l[j]? = some x := ⟨_, List.getElem?_eq_getElem (by omega)⟩
    have fin : ∀ (S : List Value) (is ts os : List Int), is = (updTo (folMM top) (j + 1) l).map M.is → ts = (updTo (folMM top) (j + 1) l).map tOf → os = (updTo (folMM top) (j + 1) l).map M.of_ → S25c (.pointer (some ⟨d, 0, none⟩)) (.int .i64 (k : Int)) told (.int .i64 ((j + 1 : Nat) : Int)) S → atN S 7 = j + 1 → R S (rh d r1 r2 r3 r4 n c N slot lost L is ts os) := by
      rintro S is ts os rfl rfl rfl e2 e3
      refine hR _ _ (Keep.all ⟨⟨j + 1, by omega, e2, rfl⟩, ?_⟩)
      unfold M25
      rw [e3]
      show n - (j + 1) < n - Int.toNat (j : Int)
      omega
    have hI := nthI (f := folMM top) (p := M.is) hx
    have hIl : j < ((updTo (folMM top) j l).map M.is).length := (List.getElem?_eq_some_iff.1 hI).1
    have hTl : j < ((updTo (folMM top) j l).map tOf).length := by simpa using hIl
    have hOl : j < ((updTo (folMM top) j l).map M.of_).length := by simpa using hIl
    have hLk : L[k]? = some (masOf top) := by rw [hL, List.getElem?_map, hk]; rfl
    have hjk : (j : Int) = (k : Int) → folMM top x = x := fun e => by
      have : j = k := by omega
      subst this; rw [hx] at hk; injection hk with hk; subst hk; exact fol_same (.inr rfl)
    have hnk : ¬ (j : Int) = (k : Int) → ¬ x.node = top.node := fun e he => e (by
      obtain ⟨h1, e1⟩ := List.getElem?_eq_some_iff.1 hx
      obtain ⟨h2, e2⟩ := List.getElem?_eq_some_iff.1 hk
      have := (List.getElem?_inj (l := l.map M.node) (i := j) (j := k) (by simpa using h1) hnd).1 (by simp [h1, h2, e1, e2, he])
      omega)
    unfold rh at fin ⊢
    repeat' ((conv => whnf); (first
        | refine SDraw.held (by kernel_rfl) [(d, .row 76 [.slice (some ⟨r1, 0, none⟩) n c, .slice (some ⟨r2, 0, none⟩) n n, .slice (some ⟨r3, 0, none⟩) n n, .slice (some ⟨r4, 0, none⟩) n n, .int .u64 slot, .int .u64 lost] (0, 0)), (r1, .buf 30 (L.flatMap Mas.cells) N)] (.same (.head _) (.same (.tail _ (.head _)) .nil)) ?_
        | refine Kept.sub (List.Sublist.cons_cons _ (List.Sublist.cons_cons _ (List.nil_sublist _))) ?_
        | refine Cell.nthI hI ?_
        | refine Cell.flat Mas.len (i := 0) hLk (by decide) rfl ?_
        | refine Put.nthI hIl ?_
        | refine Put.nthI hTl ?_
        | refine Put.nthI hOl ?_
        | refine New.mk (fun _ => ?_)
        | refine Look.at0 ?_
        | refine Cell.row ?_
        | refine Cell.buf ?_
        | refine Cells.row rfl ?_
        | refine Put.row rfl ?_
        | refine Put.buf rfl ?_
        | refine Look.at1 ?_
        | refine Look.at2 ?_
        | refine Look.at3 ?_
        | refine Look.at4 ?_
        | refine Look.at5 ?_
        | refine Look.at6 ?_
        | refine Look.at7 ?_
        | refine Look.at8 ?_
        | with_reducible refine Val.i64 (by omega) (by omega) ?_
        | with_reducible refine Val.u8 (by omega) (by omega) ?_
        | with_reducible refine Val.u32 (by omega) (by omega) ?_
        | with_reducible refine Val.u64 (by omega) (by omega) ?_
        | with_reducible refine Val.u8m ?_
        | with_reducible refine Val.u32m ?_
        | with_reducible refine Val.u64m ?_
        | with_reducible refine Val.shr8 ?_
        | with_reducible refine Val.shr16 (by decide) ?_
        | with_reducible refine Val.shr24 (by decide) ?_
        | with_reducible refine Val.raw ?_
        | refine Branch.not ?_
        | refine Branch.and ?_
        | refine Branch.or ?_
        | refine Branch.dt (by assumption) ?_
        | refine Branch.df (by assumption) ?_
        | refine Branch.dt rfl ?_
        | refine Branch.dt (by omega) ?_
        | refine Branch.df (by omega) ?_
        | refine Branch.t rfl ?_
        | refine Branch.f rfl ?_
        | refine Branch.t (by assumption) ?_
        | refine Branch.f (by assumption) ?_
        | refine Branch.d (fun _ => ?_) (fun _ => ?_)
        | refine Branch.mk (fun _ => ?_) (fun _ => ?_)
        | refine Need.mk (by first | omega | decide | rfl) ?_
        | refine Idx.nat (by omega) ?_
        | refine Idx.auto (by first | omega | decide) (by first | omega | decide) ?_
        | refine Cell.ro rfl ?_
        | refine SDraw.all (by kernel_rfl) ?_
        | refine Kept.k0 ?_
        | refine Kept.k1 ?_
        | refine Kept.k2 ?_
        | refine Kept.k3 ?_
        | refine Kept.k4 ?_))
    all_goals (conv => whnf)
    all_goals first
      | (have e := fol_same (top := top) (x := x) (.inl ‹_›)
         exact fin _ _ _ _ (sameI hx (by rw [e])) (sameI hx (by rw [e])) (sameI hx (by rw [e])) .mk rfl)
      | (have e := hjk ‹_›
         exact fin _ _ _ _ (sameI hx (by rw [e])) (sameI hx (by rw [e])) (sameI hx (by rw [e])) .mk rfl)
      | (have e := fol_yes (top := top) (x := x) ‹_› (hnk ‹_›)
         exact fin _ _ _ _ (upI hx (by rw [e])) (upI hx (by rw [e]; exact tOf_3 rfl)) (upI hx (by rw [e]; rfl)) .mk rfl)
      | trace_state
  · have e : j = n := by omega
    subst e
    rw [updTo_all (by omega)]
    cases hS
    unfold rM rh at hQ
    unfold rh
    repeat' ((conv => whnf); (first
        | refine New.mk (fun _ => ?_)
        | refine Look.at0 ?_
        | refine Cell.row ?_
        | refine Cell.buf ?_
        | refine Cells.row rfl ?_
        | refine Put.row rfl ?_
        | refine Put.buf rfl ?_
        | refine Look.at1 ?_
        | refine Look.at2 ?_
        | refine Look.at3 ?_
        | refine Look.at4 ?_
        | refine Look.at5 ?_
        | refine Look.at6 ?_
        | refine Look.at7 ?_
        | refine Look.at8 ?_
        | with_reducible refine Val.i64 (by omega) (by omega) ?_
        | with_reducible refine Val.u8 (by omega) (by omega) ?_
        | with_reducible refine Val.u32 (by omega) (by omega) ?_
        | with_reducible refine Val.u64 (by omega) (by omega) ?_
        | with_reducible refine Val.u8m ?_
        | with_reducible refine Val.u32m ?_
        | with_reducible refine Val.u64m ?_
        | with_reducible refine Val.shr8 ?_
        | with_reducible refine Val.shr16 (by decide) ?_
        | with_reducible refine Val.shr24 (by decide) ?_
        | with_reducible refine Val.raw ?_
        | refine Branch.not ?_
        | refine Branch.and ?_
        | refine Branch.or ?_
        | refine Branch.dt (by assumption) ?_
        | refine Branch.df (by assumption) ?_
        | refine Branch.dt rfl ?_
        | refine Branch.dt (by omega) ?_
        | refine Branch.df (by omega) ?_
        | refine Branch.t rfl ?_
        | refine Branch.f rfl ?_
        | refine Branch.t (by assumption) ?_
        | refine Branch.f (by assumption) ?_
        | refine Branch.d (fun _ => ?_) (fun _ => ?_)
        | refine Branch.mk (fun _ => ?_) (fun _ => ?_)
        | refine Need.mk (by first | omega | decide | rfl) ?_
        | refine Idx.nat (by omega) ?_
        | refine Idx.auto (by first | omega | decide) (by first | omega | decide) ?_
        | refine Cell.ro rfl ?_
        | refine SDraw.all (by kernel_rfl) ?_
        | refine Kept.k0 ?_
        | refine Kept.k1 ?_
        | refine Kept.k2 ?_
        | refine Kept.k3 ?_
        | refine Kept.k4 ?_))
    all_goals (conv => whnf)
    exact hQ _ _ .mk
theorem lost_yes {x : M} (h1 : x.is = 3) (h2 : lost ≤ x.mute) : lostMM slot lost x = begM slot x := if_pos ⟨h1, h2⟩
theorem lost_no {x : M} (h : ¬ (x.is = 3 ∧ lost ≤ x.mute)) : lostMM slot lost x = x := if_neg h
theorem l25n {told : Value} (hn : n = l.length) (hL : L = l.map masOf) (hlen : l.length ≤ 8) (hb : ∀ x ∈ L, ¬ Bad x) (S : List Value) (hS : S25c (.pointer (some ⟨d, 0, none⟩)) (.int .i64 (-1)) told (.int .i64 0) S)
    (hQ : ∀ S v, S25c (.pointer (some ⟨d, 0, none⟩)) (.int .i64 (-1)) told v S → Q (.exit 4) S (rM d r1 r2 r3 r4 n c N slot lost L (l.map (lostMM slot lost)))) :
    SLoop Try.prog X25_l0 Q S (rM d r1 r2 r3 r4 n c N slot lost L l) := by
  refine SLoop.inv (I25c (.int .i64 (-1)) told (lostMM slot lost) d r1 r2 r3 r4 n c N slot lost L l) (M25 7 n) (Keep.all ⟨0, by omega, hS, by rw [updTo_zero]; rfl⟩) ?_
  clear hS S
  rintro S H ⟨j, hj, hS, rfl⟩ R hR
  have hLn : L.length = n := by rw [hL, List.length_map, hn]
  by_cases hlt : j < n
  · cases hS
    obtain ⟨x, hx⟩ : ∃ x, l[j]? = some x := ⟨_, List.getElem?_eq_getElem (by omega)⟩
    have fin : ∀ (S : List Value) (is ts os : List Int), is = (updTo (lostMM slot lost) (j + 1) l).map M.is → ts = (updTo (lostMM slot lost) (j + 1) l).map tOf → os = (updTo (lostMM slot lost) (j + 1) l).map M.of_ → S25c (.pointer (some ⟨d, 0, none⟩)) (.int .i64 (-1)) told (.int .i64 ((j + 1 : Nat) : Int)) S → atN S 7 = j + 1 → R S (rh d r1 r2 r3 r4 n c N slot lost L is ts os) := by
      rintro S is ts os rfl rfl rfl e2 e3
      refine hR _ _ (Keep.all ⟨⟨j + 1, by omega, e2, rfl⟩, ?_⟩)
      unfold M25
      rw [e3]
      show n - (j + 1) < n - Int.toNat (j : Int)
      omega
    have hI := nthI (f := lostMM slot lost) (p := M.is) hx
    have hT := nthI (f := lostMM slot lost) (p := tOf) hx
    have hul : (updTo (lostMM slot lost) j l).length = n := by rw [updTo_length, hn]
    have hIl : ((updTo (lostMM slot lost) j l).map M.is).length = n := by rw [List.length_map, hul]
    have hTl : ((updTo (lostMM slot lost) j l).map tOf).length = n := by rw [List.length_map, hul]
    have hOl : ((updTo (lostMM slot lost) j l).map M.of_).length = n := by rw [List.length_map, hul]
    have hLx : L[j]? = some (masOf x) := by rw [hL, List.getElem?_map, hx]; rfl
    have hbx := hb _ (List.mem_of_getElem? hLx)
    have tl : x.is = 3 → tOf x = x.mute := tOf_3
    have hL8 : L.length ≤ 8 := by omega
    unfold rh at fin ⊢
    repeat' ((conv => whnf); (first
        | refine Cell.nthI hI ?_
        | refine Cell.nthI hT ?_
        | refine c38 hLn.symm hIl hTl hOl hLx hbx hL8 ?_
        | refine New.mk (fun _ => ?_)
        | refine Look.at0 ?_
        | refine Cell.row ?_
        | refine Cell.buf ?_
        | refine Cells.row rfl ?_
        | refine Put.row rfl ?_
        | refine Put.buf rfl ?_
        | refine Look.at1 ?_
        | refine Look.at2 ?_
        | refine Look.at3 ?_
        | refine Look.at4 ?_
        | refine Look.at5 ?_
        | refine Look.at6 ?_
        | refine Look.at7 ?_
        | refine Look.at8 ?_
        | with_reducible refine Val.i64 (by omega) (by omega) ?_
        | with_reducible refine Val.u8 (by omega) (by omega) ?_
        | with_reducible refine Val.u32 (by omega) (by omega) ?_
        | with_reducible refine Val.u64 (by omega) (by omega) ?_
        | with_reducible refine Val.u8m ?_
        | with_reducible refine Val.u32m ?_
        | with_reducible refine Val.u64m ?_
        | with_reducible refine Val.shr8 ?_
        | with_reducible refine Val.shr16 (by decide) ?_
        | with_reducible refine Val.shr24 (by decide) ?_
        | with_reducible refine Val.raw ?_
        | refine Branch.not ?_
        | refine Branch.and ?_
        | refine Branch.or ?_
        | refine Branch.dt (by assumption) ?_
        | refine Branch.df (by assumption) ?_
        | refine Branch.dt rfl ?_
        | refine Branch.dt (by omega) ?_
        | refine Branch.df (by omega) ?_
        | refine Branch.t rfl ?_
        | refine Branch.f rfl ?_
        | refine Branch.t (by assumption) ?_
        | refine Branch.f (by assumption) ?_
        | refine Branch.d (fun _ => ?_) (fun _ => ?_)
        | refine Branch.mk (fun _ => ?_) (fun _ => ?_)
        | refine Need.mk (by first | omega | decide | rfl) ?_
        | refine Idx.nat (by omega) ?_
        | refine Idx.auto (by first | omega | decide) (by first | omega | decide) ?_
        | refine Cell.ro rfl ?_
        | refine SDraw.all (by kernel_rfl) ?_
        | refine Kept.k0 ?_
        | refine Kept.k1 ?_
        | refine Kept.k2 ?_
        | refine Kept.k3 ?_
        | refine Kept.k4 ?_))
    all_goals (conv => whnf)
    all_goals first
      | (have e := lost_yes (slot := slot) (lost := lost) (x := x) ‹_› (by rw [← tl ‹_›]; assumption)
         exact fin _ _ _ _ (upI hx (by rw [e]; rfl)) (upI hx (by rw [e]; rfl)) (upI hx (by rw [e]; rfl)) .mk rfl)
      | (have e := lost_no (slot := slot) (lost := lost) (x := x) (fun h => by have := tl h.1; omega)
         exact fin _ _ _ _ (sameI hx (by rw [e])) (sameI hx (by rw [e])) (sameI hx (by rw [e])) .mk rfl)
      | trace_state
  · have e : j = n := by omega
    subst e
    rw [updTo_all (by omega)]
    cases hS
    unfold rM rh at hQ
    unfold rh
    repeat' ((conv => whnf); (first
        | refine New.mk (fun _ => ?_)
        | refine Look.at0 ?_
        | refine Cell.row ?_
        | refine Cell.buf ?_
        | refine Cells.row rfl ?_
        | refine Put.row rfl ?_
        | refine Put.buf rfl ?_
        | refine Look.at1 ?_
        | refine Look.at2 ?_
        | refine Look.at3 ?_
        | refine Look.at4 ?_
        | refine Look.at5 ?_
        | refine Look.at6 ?_
        | refine Look.at7 ?_
        | refine Look.at8 ?_
        | with_reducible refine Val.i64 (by omega) (by omega) ?_
        | with_reducible refine Val.u8 (by omega) (by omega) ?_
        | with_reducible refine Val.u32 (by omega) (by omega) ?_
        | with_reducible refine Val.u64 (by omega) (by omega) ?_
        | with_reducible refine Val.u8m ?_
        | with_reducible refine Val.u32m ?_
        | with_reducible refine Val.u64m ?_
        | with_reducible refine Val.shr8 ?_
        | with_reducible refine Val.shr16 (by decide) ?_
        | with_reducible refine Val.shr24 (by decide) ?_
        | with_reducible refine Val.raw ?_
        | refine Branch.not ?_
        | refine Branch.and ?_
        | refine Branch.or ?_
        | refine Branch.dt (by assumption) ?_
        | refine Branch.df (by assumption) ?_
        | refine Branch.dt rfl ?_
        | refine Branch.dt (by omega) ?_
        | refine Branch.df (by omega) ?_
        | refine Branch.t rfl ?_
        | refine Branch.f rfl ?_
        | refine Branch.t (by assumption) ?_
        | refine Branch.f (by assumption) ?_
        | refine Branch.d (fun _ => ?_) (fun _ => ?_)
        | refine Branch.mk (fun _ => ?_) (fun _ => ?_)
        | refine Need.mk (by first | omega | decide | rfl) ?_
        | refine Idx.nat (by omega) ?_
        | refine Idx.auto (by first | omega | decide) (by first | omega | decide) ?_
        | refine Cell.ro rfl ?_
        | refine SDraw.all (by kernel_rfl) ?_
        | refine Kept.k0 ?_
        | refine Kept.k1 ?_
        | refine Kept.k2 ?_
        | refine Kept.k3 ?_
        | refine Kept.k4 ?_))
    all_goals (conv => whnf)
    exact hQ _ _ .mk
end
end Go.Proofs.Ytmakaofdpoiaaaa
