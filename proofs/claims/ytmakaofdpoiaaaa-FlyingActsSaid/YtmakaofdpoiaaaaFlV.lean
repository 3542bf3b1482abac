/- Layer 24: the document's tick, whole. -/
import Derived.Test.YtmakaofdpoiaaaaFlU
set_option linter.unusedVariables false
set_option linter.unusedSimpArgs false
set_option maxRecDepth 100000
set_option maxHeartbeats 4000000
namespace Go.Proofs.Ytmakaofdpoiaaaa
open Sx
section
variable {K : Value → Heap → Prop} {d r1 r2 r3 r4 n c N : Nat} {slot lost : Int} {L : List Mas} {l l' : List M} {Q : Post}
theorem t1_isl (l : List M) : (l.map t1M).map M.is = l.map M.is := by rw [List.map_map]; exact List.map_congr_left fun x _ => t1M_is' x
theorem t1M_of (x : M) : (t1M x).of_ = x.of_ := by unfold t1M; (repeat' split) <;> rfl
theorem t1_ofl (l : List M) : (l.map t1M).map M.of_ = l.map M.of_ := by rw [List.map_map]; exact List.map_congr_left fun x _ => t1M_of x
theorem t1M_mas (x : M) : masOf (t1M x) = masOf x := by unfold t1M; (repeat' split) <;> rfl
theorem t1_mas (l : List M) : (l.map t1M).map masOf = l.map masOf := by rw [List.map_map]; exact List.map_congr_left fun x _ => t1M_mas x
theorem t1_nd (l : List M) : (l.map t1M).map M.node = l.map M.node := by rw [List.map_map]; exact List.map_congr_left fun x _ => by show (t1M x).node = _; unfold t1M; (repeat' split) <;> rfl
theorem Lead.t1 {t : Int} {j : Nat} (h : Lead t j l) : Lead t j (l.map t1M) := by
  rcases h with ⟨rfl, h⟩ | ⟨k, x, hk, rfl, hx, h2⟩
  · refine .inl ⟨rfl, fun i x hi hx => ?_⟩
    rw [List.getElem?_map] at hx
    cases hy : l[i]? with
    | none => rw [hy] at hx; cases hx
    | some y => rw [hy] at hx; injection hx with hx; subst hx; rw [t1M_is']; exact h i y hi hy
  · exact .inr ⟨k, t1M x, hk, rfl, by rw [List.getElem?_map, hx]; rfl, by rw [t1M_is']; exact h2⟩
theorem lead_at {k : Nat} {x : M} (hx : l[k]? = some x) (h2 : x.is = 2) (h1 : ∀ m ∈ l, ∀ m' ∈ l, m.is = 2 → m'.is = 2 → m.node = m'.node) (hnd : (l.map M.node).Nodup) : leadL l = some x := by
  have hm := List.mem_of_getElem? hx
  cases hf : leadL l with
  | none => have := List.find?_eq_none.1 hf x hm; simp [h2] at this
  | some y =>
    have hy := List.mem_of_find?_eq_some hf
    have hy2 : y.is = 2 := by simpa using List.find?_some hf
    rw [node_inj hnd hy hm (h1 y hy x hm hy2 h2)]
theorem map_set_at {k : Nat} {x : M} {f : M → M} (hx : l[k]? = some x) (hnd : (l.map M.node).Nodup) : (l.map fun m => if m.node = x.node then f m else m) = l.set k (f x) := by
  apply List.ext_getElem?
  intro i
  rw [List.getElem?_map, List.getElem?_set]
  have hk := (List.getElem?_eq_some_iff.1 hx).1
  by_cases e : k = i
  · subst e
    rw [if_pos rfl, if_pos hk, hx]
    exact congrArg some (if_pos rfl)
  · rw [if_neg e]
    cases hy : l[i]? with
    | none => rfl
    | some y =>
      obtain ⟨h1, e1⟩ := List.getElem?_eq_some_iff.1 hx
      obtain ⟨h2, e2⟩ := List.getElem?_eq_some_iff.1 hy
      refine congrArg some (if_neg fun he => e ?_)
      exact (List.getElem?_inj (l := l.map M.node) (i := k) (j := i) (by simpa using h1) hnd).1 (by simp [h1, h2, e1, e2, he])
theorem c25 (hn : n = l.length) (hL : L = l.map masOf) (ok : NetOk l) (hc : ∀ m ∈ l, Canon m) (h1 : ∀ m ∈ l, ∀ m' ∈ l, m.is = 2 → m'.is = 2 → m.node = m'.node) {t : Option Int} (he : tickM slot lost l = (l', t))
    (h : K (.int .i64 (t.getD 0)) (rM d r1 r2 r3 r4 n c N slot lost L l')) :
    SCalls Try.prog 25 [.pointer (some ⟨d, 0, none⟩)] (rM d r1 r2 r3 r4 n c N slot lost L l) K := by
  have hLn : L.length = n := by rw [hL, List.length_map, hn]
  have hb : ∀ x ∈ L, ¬ Bad x := fun x hx => by
    rw [hL] at hx
    obtain ⟨m, hm, rfl⟩ := List.mem_map.1 hx
    have := ok.ok m hm
    obtain ⟨g1, g2⟩ := this
    unfold Bad masOf
    simp only []
    omega
  have hl1 : (l.map t1M).length ≤ 8 := by rw [List.length_map]; exact ok.len
  have hn1 : n = (l.map t1M).length := by rw [List.length_map]; exact hn
  have hL1 : L = (l.map t1M).map masOf := by rw [t1_mas]; exact hL
  have hnd1 : ((l.map t1M).map M.node).Nodup := by rw [t1_nd]; exact ok.nd
  have h11 : ∀ m ∈ l.map t1M, ∀ m' ∈ l.map t1M, m.is = 2 → m'.is = 2 → m.node = m'.node := by
    intro m hm m' hm' h2 h3
    obtain ⟨x, hx, rfl⟩ := List.mem_map.1 hm
    obtain ⟨x', hx', rfl⟩ := List.mem_map.1 hm'
    rw [t1M_is'] at h2 h3
    have e : ∀ y : M, (t1M y).node = y.node := fun y => by unfold t1M; (repeat' split) <;> rfl
    rw [e, e]; exact h1 x hx x' hx' h2 h3
  have hc1 : ∀ m ∈ l.map t1M, m.is = 1 → m.of_ = 0 := by
    intro m hm h2
    obtain ⟨x, hx, rfl⟩ := List.mem_map.1 hm
    rw [t1M_is'] at h2
    rw [t1M_of]; exact ((hc x hx).a1 h2).2
  have e0 : rh d r1 r2 r3 r4 n c N slot lost L (l.map M.is) ((l.map t1M).map tOf) (l.map M.of_) = rM d r1 r2 r3 r4 n c N slot lost L (l.map t1M) := by unfold rM; rw [t1_isl, t1_ofl]
  refine enter25 ?_
  repeat' ((conv => whnf); (first
      | refine l25a hn hLn ok.len _ .mk (fun S t v hlead hS => ?_)
      | refine New.mk (fun _ => ?_)
      | refine Look.at0 ?_
      | refine Cell.row ?_
      | refine Cell.buf ?_
      | refine Cells.row rfl ?_
      | refine Put.row rfl ?_
      | refine Put.buf rfl ?_
      | refine Look.at1 ?_
      | refine Look.at2 ?_
      | refine Look.at3 ?_
      | refine Look.at4 ?_
      | refine Look.at5 ?_
      | refine Look.at6 ?_
      | refine Look.at7 ?_
      | refine Look.at8 ?_
      | with_reducible refine Val.i64 (by omega) (by omega) ?_
      | with_reducible refine Val.u8 (by omega) (by omega) ?_
      | with_reducible refine Val.u32 (by omega) (by omega) ?_
      | with_reducible refine Val.u64 (by omega) (by omega) ?_
      | with_reducible refine Val.u8m ?_
      | with_reducible refine Val.u32m ?_
      | with_reducible refine Val.u64m ?_
      | with_reducible refine Val.shr8 ?_
      | with_reducible refine Val.shr16 (by decide) ?_
      | with_reducible refine Val.shr24 (by decide) ?_
      | with_reducible refine Val.raw ?_
      | refine Branch.not ?_
      | refine Branch.and ?_
      | refine Branch.or ?_
      | refine Branch.dt (by assumption) ?_
      | refine Branch.df (by assumption) ?_
      | refine Branch.dt rfl ?_
      | refine Branch.dt (by omega) ?_
      | refine Branch.df (by omega) ?_
      | refine Branch.t rfl ?_
      | refine Branch.f rfl ?_
      | refine Branch.t (by assumption) ?_
      | refine Branch.f (by assumption) ?_
      | refine Branch.d (fun _ => ?_) (fun _ => ?_)
      | refine Branch.mk (fun _ => ?_) (fun _ => ?_)
      | refine Need.mk (by first | omega | decide | rfl) ?_
      | refine Idx.nat (by omega) ?_
      | refine Idx.auto (by first | omega | decide) (by first | omega | decide) ?_
      | refine Cell.ro rfl ?_
      | refine SDraw.all (by kernel_rfl) ?_
      | refine Kept.k0 ?_
      | refine Kept.k1 ?_
      | refine Kept.k2 ?_
      | refine Kept.k3 ?_
      | refine Kept.k4 ?_))
  rw [e0]
  replace hlead := hlead.t1
  unfold tickM at he
  generalize l.map t1M = l1 at *
  cases hS
  rcases hlead with ⟨rfl, hno⟩ | ⟨k, top, hk, rfl, hx, h2⟩
  · have hnl : leadL l1 = none := lead_none fun m hm => by
      obtain ⟨i, hi, rfl⟩ := List.getElem_of_mem hm
      exact hno i _ (by omega) (List.getElem?_eq_getElem hi)
    simp only [hnl] at he
    repeat' ((conv => whnf); (first
        | refine l25b hn1 hL1 hl1 _ .mk (fun S t v hbest hS => ?_)
        | refine New.mk (fun _ => ?_)
        | refine Look.at0 ?_
        | refine Cell.row ?_
        | refine Cell.buf ?_
        | refine Cells.row rfl ?_
        | refine Put.row rfl ?_
        | refine Put.buf rfl ?_
        | refine Look.at1 ?_
        | refine Look.at2 ?_
        | refine Look.at3 ?_
        | refine Look.at4 ?_
        | refine Look.at5 ?_
        | refine Look.at6 ?_
        | refine Look.at7 ?_
        | refine Look.at8 ?_
        | with_reducible refine Val.i64 (by omega) (by omega) ?_
        | with_reducible refine Val.u8 (by omega) (by omega) ?_
        | with_reducible refine Val.u32 (by omega) (by omega) ?_
        | with_reducible refine Val.u64 (by omega) (by omega) ?_
        | with_reducible refine Val.u8m ?_
        | with_reducible refine Val.u32m ?_
        | with_reducible refine Val.u64m ?_
        | with_reducible refine Val.shr8 ?_
        | with_reducible refine Val.shr16 (by decide) ?_
        | with_reducible refine Val.shr24 (by decide) ?_
        | with_reducible refine Val.raw ?_
        | refine Branch.not ?_
        | refine Branch.and ?_
        | refine Branch.or ?_
        | refine Branch.dt (by assumption) ?_
        | refine Branch.df (by assumption) ?_
        | refine Branch.dt rfl ?_
        | refine Branch.dt (by omega) ?_
        | refine Branch.df (by omega) ?_
        | refine Branch.t rfl ?_
        | refine Branch.f rfl ?_
        | refine Branch.t (by assumption) ?_
        | refine Branch.f (by assumption) ?_
        | refine Branch.d (fun _ => ?_) (fun _ => ?_)
        | refine Branch.mk (fun _ => ?_) (fun _ => ?_)
        | refine Need.mk (by first | omega | decide | rfl) ?_
        | refine Idx.nat (by omega) ?_
        | refine Idx.auto (by first | omega | decide) (by first | omega | decide) ?_
        | refine Cell.ro rfl ?_
        | refine SDraw.all (by kernel_rfl) ?_
        | refine Kept.k0 ?_
        | refine Kept.k1 ?_
        | refine Kept.k2 ?_
        | refine Kept.k3 ?_
        | refine Kept.k4 ?_))
    cases hS
    rw [hn1] at hbest
    rcases hbest with ⟨rfl, hcl⟩ | ⟨k, top, rfl, hx, hcl⟩
    · rw [List.take_length] at hcl
      simp only [hcl] at he
      injection he with e1 e2
      subst e1 e2
      repeat' ((conv => whnf); (first
          | refine l25n hn1 hL1 hl1 hb _ .mk (fun S v hS => ?_)
          | refine New.mk (fun _ => ?_)
          | refine Look.at0 ?_
          | refine Cell.row ?_
          | refine Cell.buf ?_
          | refine Cells.row rfl ?_
          | refine Put.row rfl ?_
          | refine Put.buf rfl ?_
          | refine Look.at1 ?_
          | refine Look.at2 ?_
          | refine Look.at3 ?_
          | refine Look.at4 ?_
          | refine Look.at5 ?_
          | refine Look.at6 ?_
          | refine Look.at7 ?_
          | refine Look.at8 ?_
          | with_reducible refine Val.i64 (by omega) (by omega) ?_
          | with_reducible refine Val.u8 (by omega) (by omega) ?_
          | with_reducible refine Val.u32 (by omega) (by omega) ?_
          | with_reducible refine Val.u64 (by omega) (by omega) ?_
          | with_reducible refine Val.u8m ?_
          | with_reducible refine Val.u32m ?_
          | with_reducible refine Val.u64m ?_
          | with_reducible refine Val.shr8 ?_
          | with_reducible refine Val.shr16 (by decide) ?_
          | with_reducible refine Val.shr24 (by decide) ?_
          | with_reducible refine Val.raw ?_
          | refine Branch.not ?_
          | refine Branch.and ?_
          | refine Branch.or ?_
          | refine Branch.dt (by assumption) ?_
          | refine Branch.df (by assumption) ?_
          | refine Branch.dt rfl ?_
          | refine Branch.dt (by omega) ?_
          | refine Branch.df (by omega) ?_
          | refine Branch.t rfl ?_
          | refine Branch.f rfl ?_
          | refine Branch.t (by assumption) ?_
          | refine Branch.f (by assumption) ?_
          | refine Branch.d (fun _ => ?_) (fun _ => ?_)
          | refine Branch.mk (fun _ => ?_) (fun _ => ?_)
          | refine Need.mk (by first | omega | decide | rfl) ?_
          | refine Idx.nat (by omega) ?_
          | refine Idx.auto (by first | omega | decide) (by first | omega | decide) ?_
          | refine Cell.ro rfl ?_
          | refine SDraw.all (by kernel_rfl) ?_
          | refine Kept.k0 ?_
          | refine Kept.k1 ?_
          | refine Kept.k2 ?_
          | refine Kept.k3 ?_
          | refine Kept.k4 ?_))
      cases hS
      repeat' ((conv => whnf); (first
          | refine New.mk (fun _ => ?_)
          | refine Look.at0 ?_
          | refine Cell.row ?_
          | refine Cell.buf ?_
          | refine Cells.row rfl ?_
          | refine Put.row rfl ?_
          | refine Put.buf rfl ?_
          | refine Look.at1 ?_
          | refine Look.at2 ?_
          | refine Look.at3 ?_
          | refine Look.at4 ?_
          | refine Look.at5 ?_
          | refine Look.at6 ?_
          | refine Look.at7 ?_
          | refine Look.at8 ?_
          | with_reducible refine Val.i64 (by omega) (by omega) ?_
          | with_reducible refine Val.u8 (by omega) (by omega) ?_
          | with_reducible refine Val.u32 (by omega) (by omega) ?_
          | with_reducible refine Val.u64 (by omega) (by omega) ?_
          | with_reducible refine Val.u8m ?_
          | with_reducible refine Val.u32m ?_
          | with_reducible refine Val.u64m ?_
          | with_reducible refine Val.shr8 ?_
          | with_reducible refine Val.shr16 (by decide) ?_
          | with_reducible refine Val.shr24 (by decide) ?_
          | with_reducible refine Val.raw ?_
          | refine Branch.not ?_
          | refine Branch.and ?_
          | refine Branch.or ?_
          | refine Branch.dt (by assumption) ?_
          | refine Branch.df (by assumption) ?_
          | refine Branch.dt rfl ?_
          | refine Branch.dt (by omega) ?_
          | refine Branch.df (by omega) ?_
          | refine Branch.t rfl ?_
          | refine Branch.f rfl ?_
          | refine Branch.t (by assumption) ?_
          | refine Branch.f (by assumption) ?_
          | refine Branch.d (fun _ => ?_) (fun _ => ?_)
          | refine Branch.mk (fun _ => ?_) (fun _ => ?_)
          | refine Need.mk (by first | omega | decide | rfl) ?_
          | refine Idx.nat (by omega) ?_
          | refine Idx.auto (by first | omega | decide) (by first | omega | decide) ?_
          | refine Cell.ro rfl ?_
          | refine SDraw.all (by kernel_rfl) ?_
          | refine Kept.k0 ?_
          | refine Kept.k1 ?_
          | refine Kept.k2 ?_
          | refine Kept.k3 ?_
          | refine Kept.k4 ?_))
      all_goals (conv => whnf)
      all_goals exact Keep.all h
    · rw [List.take_length] at hcl
      simp only [hcl] at he
      injection he with e1 e2
      subst e1 e2
      obtain ⟨_, g1, g2⟩ := claim_mem hcl
      have hk := (List.getElem?_eq_some_iff.1 hx).1
      have hLk : L[k]? = some (masOf top) := by rw [hL1, List.getElem?_map, hx]; rfl
      rw [map_set_at hx hnd1] at h
      have hx2 : (l1.set k (leadMM top))[k]? = some (leadMM top) := List.getElem?_set_self hk
      have hfe : folMM top = folMM (leadMM top) := rfl
      rw [hfe] at h
      have hn2 : n = (l1.set k (leadMM top)).length := by rw [List.length_set]; exact hn1
      have hl2 : (l1.set k (leadMM top)).length ≤ 8 := by rw [List.length_set]; exact hl1
      have hL2 : L = (l1.set k (leadMM top)).map masOf := by rw [map_set_same hx (show masOf (leadMM top) = masOf top from rfl)]; exact hL1
      have hnd2 : ((l1.set k (leadMM top)).map M.node).Nodup := by rw [map_set_same hx (show (leadMM top).node = top.node from rfl)]; exact hnd1
      have hIl : k < (l1.map M.is).length := by rw [List.length_map]; exact hk
      have hTl : k < (l1.map tOf).length := by rw [List.length_map]; exact hk
      have e3 : rM d r1 r2 r3 r4 n c N slot lost L (l1.set k (leadMM top)) = rh d r1 r2 r3 r4 n c N slot lost L ((l1.map M.is).set k 2) ((l1.map tOf).set k 0) (l1.map M.of_) := by
        unfold rM
        rw [List.map_set, List.map_set, map_set_same hx (show (leadMM top).of_ = top.of_ from (hc1 top (List.mem_of_getElem? hx) g1).symm)]
        rfl
      have hloop := fun Q S => l25t (Q := Q) (d := d) (r1 := r1) (r2 := r2) (r3 := r3) (r4 := r4) (c := c) (N := N) (slot := slot) (lost := lost) (told := .int .i64 top.node) hn2 hL2 hl2 hnd2 hx2 S
      rw [e3] at hloop
      clear e3
      unfold rM
      unfold rh at hloop ⊢
      repeat' ((conv => whnf); (first
          | refine SDraw.held (by kernel_rfl) [(d, .row 76 [.slice (some ⟨r1, 0, none⟩) n c, .slice (some ⟨r2, 0, none⟩) n n, .slice (some ⟨r3, 0, none⟩) n n, .slice (some ⟨r4, 0, none⟩) n n, .int .u64 slot, .int .u64 lost] (0, 0)), (r1, .buf 30 (L.flatMap Mas.cells) N)] (.same (.head _) (.same (.tail _ (.head _)) .nil)) ?_
          | refine Kept.sub (List.Sublist.cons_cons _ (List.Sublist.cons_cons _ (List.nil_sublist _))) ?_
          | refine Cell.flat Mas.len (i := 0) hLk (by decide) rfl ?_
          | refine Put.nthI hIl ?_
          | refine Put.nthI hTl ?_
          | refine hloop _ _ .mk (fun S v hS => ?_)
          | refine New.mk (fun _ => ?_)
          | refine Look.at0 ?_
          | refine Cell.row ?_
          | refine Cell.buf ?_
          | refine Cells.row rfl ?_
          | refine Put.row rfl ?_
          | refine Put.buf rfl ?_
          | refine Look.at1 ?_
          | refine Look.at2 ?_
          | refine Look.at3 ?_
          | refine Look.at4 ?_
          | refine Look.at5 ?_
          | refine Look.at6 ?_
          | refine Look.at7 ?_
          | refine Look.at8 ?_
          | with_reducible refine Val.i64 (by omega) (by omega) ?_
          | with_reducible refine Val.u8 (by omega) (by omega) ?_
          | with_reducible refine Val.u32 (by omega) (by omega) ?_
          | with_reducible refine Val.u64 (by omega) (by omega) ?_
          | with_reducible refine Val.u8m ?_
          | with_reducible refine Val.u32m ?_
          | with_reducible refine Val.u64m ?_
          | with_reducible refine Val.shr8 ?_
          | with_reducible refine Val.shr16 (by decide) ?_
          | with_reducible refine Val.shr24 (by decide) ?_
          | with_reducible refine Val.raw ?_
          | refine Branch.not ?_
          | refine Branch.and ?_
          | refine Branch.or ?_
          | refine Branch.dt (by assumption) ?_
          | refine Branch.df (by assumption) ?_
          | refine Branch.dt rfl ?_
          | refine Branch.dt (by omega) ?_
          | refine Branch.df (by omega) ?_
          | refine Branch.t rfl ?_
          | refine Branch.f rfl ?_
          | refine Branch.t (by assumption) ?_
          | refine Branch.f (by assumption) ?_
          | refine Branch.d (fun _ => ?_) (fun _ => ?_)
          | refine Branch.mk (fun _ => ?_) (fun _ => ?_)
          | refine Need.mk (by first | omega | decide | rfl) ?_
          | refine Idx.nat (by omega) ?_
          | refine Idx.auto (by first | omega | decide) (by first | omega | decide) ?_
          | refine Cell.ro rfl ?_
          | refine SDraw.all (by kernel_rfl) ?_
          | refine Kept.k0 ?_
          | refine Kept.k1 ?_
          | refine Kept.k2 ?_
          | refine Kept.k3 ?_
          | refine Kept.k4 ?_))
      cases hS
      repeat' ((conv => whnf); (first
          | refine New.mk (fun _ => ?_)
          | refine Look.at0 ?_
          | refine Cell.row ?_
          | refine Cell.buf ?_
          | refine Cells.row rfl ?_
          | refine Put.row rfl ?_
          | refine Put.buf rfl ?_
          | refine Look.at1 ?_
          | refine Look.at2 ?_
          | refine Look.at3 ?_
          | refine Look.at4 ?_
          | refine Look.at5 ?_
          | refine Look.at6 ?_
          | refine Look.at7 ?_
          | refine Look.at8 ?_
          | with_reducible refine Val.i64 (by omega) (by omega) ?_
          | with_reducible refine Val.u8 (by omega) (by omega) ?_
          | with_reducible refine Val.u32 (by omega) (by omega) ?_
          | with_reducible refine Val.u64 (by omega) (by omega) ?_
          | with_reducible refine Val.u8m ?_
          | with_reducible refine Val.u32m ?_
          | with_reducible refine Val.u64m ?_
          | with_reducible refine Val.shr8 ?_
          | with_reducible refine Val.shr16 (by decide) ?_
          | with_reducible refine Val.shr24 (by decide) ?_
          | with_reducible refine Val.raw ?_
          | refine Branch.not ?_
          | refine Branch.and ?_
          | refine Branch.or ?_
          | refine Branch.dt (by assumption) ?_
          | refine Branch.df (by assumption) ?_
          | refine Branch.dt rfl ?_
          | refine Branch.dt (by omega) ?_
          | refine Branch.df (by omega) ?_
          | refine Branch.t rfl ?_
          | refine Branch.f rfl ?_
          | refine Branch.t (by assumption) ?_
          | refine Branch.f (by assumption) ?_
          | refine Branch.d (fun _ => ?_) (fun _ => ?_)
          | refine Branch.mk (fun _ => ?_) (fun _ => ?_)
          | refine Need.mk (by first | omega | decide | rfl) ?_
          | refine Idx.nat (by omega) ?_
          | refine Idx.auto (by first | omega | decide) (by first | omega | decide) ?_
          | refine Cell.ro rfl ?_
          | refine SDraw.all (by kernel_rfl) ?_
          | refine Kept.k0 ?_
          | refine Kept.k1 ?_
          | refine Kept.k2 ?_
          | refine Kept.k3 ?_
          | refine Kept.k4 ?_))
      all_goals (conv => whnf)
      all_goals exact Keep.all h
  · have hld : leadL l1 = some top := lead_at hx h2 h11 hnd1
    simp only [hld] at he
    injection he with e1 e2
    subst e1 e2
    repeat' ((conv => whnf); (first
        | refine l25t hn1 hL1 hl1 hnd1 hx _ .mk (fun S v hS => ?_)
        | refine New.mk (fun _ => ?_)
        | refine Look.at0 ?_
        | refine Cell.row ?_
        | refine Cell.buf ?_
        | refine Cells.row rfl ?_
        | refine Put.row rfl ?_
        | refine Put.buf rfl ?_
        | refine Look.at1 ?_
        | refine Look.at2 ?_
        | refine Look.at3 ?_
        | refine Look.at4 ?_
        | refine Look.at5 ?_
        | refine Look.at6 ?_
        | refine Look.at7 ?_
        | refine Look.at8 ?_
        | with_reducible refine Val.i64 (by omega) (by omega) ?_
        | with_reducible refine Val.u8 (by omega) (by omega) ?_
        | with_reducible refine Val.u32 (by omega) (by omega) ?_
        | with_reducible refine Val.u64 (by omega) (by omega) ?_
        | with_reducible refine Val.u8m ?_
        | with_reducible refine Val.u32m ?_
        | with_reducible refine Val.u64m ?_
        | with_reducible refine Val.shr8 ?_
        | with_reducible refine Val.shr16 (by decide) ?_
        | with_reducible refine Val.shr24 (by decide) ?_
        | with_reducible refine Val.raw ?_
        | refine Branch.not ?_
        | refine Branch.and ?_
        | refine Branch.or ?_
        | refine Branch.dt (by assumption) ?_
        | refine Branch.df (by assumption) ?_
        | refine Branch.dt rfl ?_
        | refine Branch.dt (by omega) ?_
        | refine Branch.df (by omega) ?_
        | refine Branch.t rfl ?_
        | refine Branch.f rfl ?_
        | refine Branch.t (by assumption) ?_
        | refine Branch.f (by assumption) ?_
        | refine Branch.d (fun _ => ?_) (fun _ => ?_)
        | refine Branch.mk (fun _ => ?_) (fun _ => ?_)
        | refine Need.mk (by first | omega | decide | rfl) ?_
        | refine Idx.nat (by omega) ?_
        | refine Idx.auto (by first | omega | decide) (by first | omega | decide) ?_
        | refine Cell.ro rfl ?_
        | refine SDraw.all (by kernel_rfl) ?_
        | refine Kept.k0 ?_
        | refine Kept.k1 ?_
        | refine Kept.k2 ?_
        | refine Kept.k3 ?_
        | refine Kept.k4 ?_))
    cases hS
    repeat' ((conv => whnf); (first
        | refine New.mk (fun _ => ?_)
        | refine Look.at0 ?_
        | refine Cell.row ?_
        | refine Cell.buf ?_
        | refine Cells.row rfl ?_
        | refine Put.row rfl ?_
        | refine Put.buf rfl ?_
        | refine Look.at1 ?_
        | refine Look.at2 ?_
        | refine Look.at3 ?_
        | refine Look.at4 ?_
        | refine Look.at5 ?_
        | refine Look.at6 ?_
        | refine Look.at7 ?_
        | refine Look.at8 ?_
        | with_reducible refine Val.i64 (by omega) (by omega) ?_
        | with_reducible refine Val.u8 (by omega) (by omega) ?_
        | with_reducible refine Val.u32 (by omega) (by omega) ?_
        | with_reducible refine Val.u64 (by omega) (by omega) ?_
        | with_reducible refine Val.u8m ?_
        | with_reducible refine Val.u32m ?_
        | with_reducible refine Val.u64m ?_
        | with_reducible refine Val.shr8 ?_
        | with_reducible refine Val.shr16 (by decide) ?_
        | with_reducible refine Val.shr24 (by decide) ?_
        | with_reducible refine Val.raw ?_
        | refine Branch.not ?_
        | refine Branch.and ?_
        | refine Branch.or ?_
        | refine Branch.dt (by assumption) ?_
        | refine Branch.df (by assumption) ?_
        | refine Branch.dt rfl ?_
        | refine Branch.dt (by omega) ?_
        | refine Branch.df (by omega) ?_
        | refine Branch.t rfl ?_
        | refine Branch.f rfl ?_
        | refine Branch.t (by assumption) ?_
        | refine Branch.f (by assumption) ?_
        | refine Branch.d (fun _ => ?_) (fun _ => ?_)
        | refine Branch.mk (fun _ => ?_) (fun _ => ?_)
        | refine Need.mk (by first | omega | decide | rfl) ?_
        | refine Idx.nat (by omega) ?_
        | refine Idx.auto (by first | omega | decide) (by first | omega | decide) ?_
        | refine Cell.ro rfl ?_
        | refine SDraw.all (by kernel_rfl) ?_
        | refine Kept.k0 ?_
        | refine Kept.k1 ?_
        | refine Kept.k2 ?_
        | refine Kept.k3 ?_
        | refine Kept.k4 ?_))
    all_goals (conv => whnf)
    all_goals exact Keep.all h
end
end Go.Proofs.Ytmakaofdpoiaaaa
