/- Layer 5: DriverActs: a call by the program and by the document: by walks. -/
import Derived.Test.YthgpikgbhkcnbaaDoorBMain2

set_option linter.unusedVariables false
set_option linter.unusedSimpArgs false
set_option maxRecDepth 100000
set_option maxHeartbeats 4000000
namespace Go.Proofs.YthgpikgbhkcnbaaDoor
open Sx
/-- The program's driver at p, the document's at g. -/
inductive Both (p g : Nat) (s : Dr) (t : Rf) (Hb : Heap) : Heap → Prop
  | mk {G F : Heap} : RfO g t Hb G → DrO p s G F → Both p g s t Hb F
structure ActI (k : Nat) (s : Dr) (t : Rf) : Prop where
  W : DrW s
  V : RfW t
  A : Agree s t
  tk : s.tk ≤ k
  lost : s.lost ≤ k
theorem ActI.up {k : Nat} {s : Dr} {t : Rf} (h : ActI k s t) : ActI (k + 1) s t := ⟨h.W, h.V, h.A, Nat.le_succ_of_le h.tk, Nat.le_succ_of_le h.lost⟩
theorem RfO.has {g : Nat} {t : Rf} {Hb G : Heap} (h : RfO g t Hb G) : ∀ z ∈ Hb, z ∈ G := by
  obtain ⟨h1, h2, h3, h4⟩ := h
  exact fun z hz => .tail _ (h4 z hz)
section
variable {K : Value → Heap → Prop} {p g : Nat} {s : Dr} {t : Rf} {Hb F G : Heap}
/-- A call of the document's, where the program's lies ahead. -/
theorem refcall {fid : Nat} {args : List Value} (h : DrO p s G F) (hc : ∀ A : Heap, A ++ G = F → (∀ H', DrO p s H' (A ++ H')) → SCalls Tryd.prog fid args G fun v G' => K v (A ++ G')) : SCalls Tryd.prog fid args F K := by
  obtain ⟨F0, rfl, h1⟩ := h.split
  exact SCalls.under F0 (hc F0 rfl h1)
theorem takeR_ok {f : Fm} (h : RfW t) (hl : t.lost < 140737488355328) (hf : okF f = true → okF (plF f) = true) : RfW (takeR t f) := by
  unfold takeR
  cases okF f with
  | false => exact h
  | true =>
    rw [if_pos rfl]
    cases pas t.L f with
    | false => exact h
    | true =>
      rw [if_pos rfl]
      by_cases hr : t.room ≤ t.I.length
      · rw [if_pos hr]
        exact ⟨h.most, h.room, h.L, h.Lw, h.O, h.I, h.tk, by show t.lost + 1 ≤ _; omega, h.ok⟩
      · rw [if_neg hr]
        exact ⟨h.most, h.room, h.L, h.Lw, h.O, by show (t.I ++ [plF f]).length ≤ t.room; rw [List.length_append, List.length_singleton]; omega, h.tk, h.lost, h.ok⟩
theorem insO_mem {x y : Wn} {O : List Wn} (h : y ∈ insO x O) : y = x ∨ y ∈ O := by
  unfold insO at h
  rcases List.mem_append.1 h with h | h
  · rcases List.mem_append.1 h with h | h
    · exact .inr (List.mem_of_mem_take h)
    · exact .inl (List.mem_singleton.1 h)
  · exact .inr (List.mem_of_mem_drop h)
theorem c20 {a : Act} {k : Nat} (hI : ActI k s t) (hk64 : k < 140737488355328) (hD : Db Hb) (h : Both p g s t Hb F) (hf : a.f.id < 4294967296) (hK : ∀ s' t' F', Both p g s' t' Hb F' → ActI (k + 1) s' t' → K (.bool true) F') : SCalls Tryd.prog 20 [ptr p, ptr g, .agg ⟨aC a⟩] F K := by
  obtain ⟨ak, at_, f⟩ := a
  dsimp only at hf
  obtain ⟨hR, hDr⟩ := h
  rename_i G
  have hDG : Db G := hD.mono hR.has
  obtain ⟨hW, hV, hA, htk, hlo⟩ := hI
  have hlen := hA.perm.length_eq
  have hfin : ∀ (v : Bool) (A : Heap) s' t' G' F', v = true → RfO g t' Hb G' → DrO p s' G' F' → ActI (k + 1) s' t' → Keep (A ++ F') fun H' => K (.bool v) H' := fun v A s' t' G' F' hv h1 h2 h3 => by
    subst hv
    exact Keep.sub F' (List.sublist_append_right A F') (hK s' t' F' (.mk h1 h2) h3)
  clear hK
  have hup := (ActI.mk hW hV hA htk hlo : ActI k s t).up
  dsimp only [aC]
  refine enter20 ?_
  by_cases k0 : ak = 0
  · by_cases hok : okF f = true
    · by_cases hroom : s.q.length < s.most
      · have h10 : ∀ K2 : Value → Heap → Prop, (∀ s' F', DrO p s' G F' → DrW s' → Agree s' { t with tk := t.tk + 1, O := insO (mailW f (t.tk + 1)) t.O } → s'.tk ≤ k + 1 → s'.lost ≤ k + 1 → K2 (tup2 ((s.tk + 1 : Nat) : Int) 0) F') → SCalls Tryd.prog 10 [ptr p, frV f] F K2 := fun K2 hk =>
          c10 hW hDr hDG hf (fun h => by rw [hok] at h; cases h) (fun _ h => by omega) (fun _ _ q' F' j1 j2 j3 => hk _ _ j1 ⟨hW.most, hW.room, hW.L, hW.Lw, hW.I, by
            have := j2.length_eq
            rw [List.length_append, List.length_singleton] at this
            show q'.length ≤ s.most
            omega, by show s.tk + 1 ≤ _; omega, hW.lost, j3⟩ (hA.send j2) (by show s.tk + 1 ≤ _; omega) (Nat.le_succ_of_le hlo))
        have h31 : ∀ s' F1 (K2 : Value → Heap → Prop), DrO p s' G F1 → (∀ G' F', RfO g { t with tk := t.tk + 1, O := insO (mailW f (t.tk + 1)) t.O } Hb G' → RfW { t with tk := t.tk + 1, O := insO (mailW f (t.tk + 1)) t.O } → DrO p s' G' F' → K2 (tup2 ((s.tk + 1 : Nat) : Int) 0) F') → SCalls Tryd.prog 31 [ptr g, frV f] F1 K2 := fun s' F1 K2 h hk =>
          refcall h (fun A e hA2 => c31 hV hR (fun h => by rw [hok] at h; cases h) (fun _ h => by rw [hA.most] at h; omega) (fun _ _ F' j => by
            rw [hA.tk]
            refine hk _ _ j ⟨hV.most, hV.room, hV.L, hV.Lw, by
              show (insO (mailW f (t.tk + 1)) t.O).length ≤ t.most
              rw [insO_len, hA.most]
              omega, hV.I, by
              have := hA.tk
              show t.tk + 1 ≤ _
              omega, hV.lost, fun y hy => ?_⟩ (hA2 F')
            rcases insO_mem hy with rfl | hy
            · exact ⟨hok, rfl⟩
            · exact hV.ok y hy))
        repeat' ((conv => whnf); (first | refine Branch.dt k0 ?_ | refine SCalls.under [_] (h10 _ (fun s' F' j1 j2 j3 j4 j5 => ?_)) | refine SCalls.under [_] (h31 _ _ _ j1 (fun G' F2 j6 j7 j8 => ?_)) | refine Branch.dt rfl ?_ | exact hfin _ [_] _ _ _ _ (decide_eq_true rfl) j6 j8 ⟨j2, j7, j3, j4, j5⟩ | refine New.mk (fun _ => ?_) | refine Look.at0 ?_ | refine Cell.row ?_ | refine Cell.buf ?_ | refine Cells.row rfl ?_ | refine Put.row rfl ?_ | refine Put.buf rfl ?_ | refine Look.at1 ?_ | refine Look.at2 ?_ | refine Look.at3 ?_ | refine Look.at4 ?_ | refine Look.at5 ?_ | refine Look.at6 ?_ | refine Look.at7 ?_ | refine Look.at8 ?_ | with_reducible refine Val.i64 (by omega) (by omega) ?_ | with_reducible refine Val.u8 (by omega) (by omega) ?_ | with_reducible refine Val.u32 (by omega) (by omega) ?_ | with_reducible refine Val.u64 (by omega) (by omega) ?_ | with_reducible refine Val.u8m ?_ | with_reducible refine Val.u32m ?_ | with_reducible refine Val.u64m ?_ | with_reducible refine Val.shr8 ?_ | with_reducible refine Val.shr16 (by decide) ?_ | with_reducible refine Val.shr24 (by decide) ?_ | with_reducible refine Val.raw ?_ | refine Branch.not ?_ | refine Branch.and ?_ | refine Branch.or ?_ | refine Branch.dt (by assumption) ?_ | refine Branch.df (by assumption) ?_ | refine Branch.dt rfl ?_ | refine Branch.dt (by omega) ?_ | refine Branch.df (by omega) ?_ | refine Branch.t rfl ?_ | refine Branch.f rfl ?_ | refine Branch.t (by assumption) ?_ | refine Branch.f (by assumption) ?_ | refine Branch.d (fun _ => ?_) (fun _ => ?_) | refine Branch.mk (fun _ => ?_) (fun _ => ?_) | refine Need.mk (by first | omega | decide | rfl) ?_ | refine Idx.nat (by omega) ?_ | refine Idx.auto (by first | omega | decide) (by first | omega | decide) ?_ | refine Cell.ro rfl ?_ | refine SDraw.all (by kernel_rfl) ?_ | refine Kept.k0 ?_ | refine Kept.k1 ?_ | refine Kept.k2 ?_ | refine Kept.k3 ?_ | refine Kept.k4 ?_))
      · have h10 : ∀ K2 : Value → Heap → Prop, K2 (tup2 0 31) F → SCalls Tryd.prog 10 [ptr p, frV f] F K2 := fun K2 hk => c10 hW hDr hDG hf (fun h => by rw [hok] at h; cases h) (fun _ _ => hk) (fun _ h => by omega)
        have h31 : ∀ K2 : Value → Heap → Prop, K2 (tup2 0 31) F → SCalls Tryd.prog 31 [ptr g, frV f] F K2 := fun K2 hk => refcall hDr (fun A e _ => c31 hV hR (fun h => by rw [hok] at h; cases h) (fun _ _ => by rw [e]; exact hk) (fun _ h => by rw [hA.most] at h; omega))
        repeat' ((conv => whnf); (first | refine Branch.dt k0 ?_ | refine SCalls.under [_] (h10 _ ?_) | refine SCalls.under [_] (h31 _ ?_) | refine Branch.dt rfl ?_ | exact hfin _ [_] _ _ _ _ rfl hR hDr hup | refine New.mk (fun _ => ?_) | refine Look.at0 ?_ | refine Cell.row ?_ | refine Cell.buf ?_ | refine Cells.row rfl ?_ | refine Put.row rfl ?_ | refine Put.buf rfl ?_ | refine Look.at1 ?_ | refine Look.at2 ?_ | refine Look.at3 ?_ | refine Look.at4 ?_ | refine Look.at5 ?_ | refine Look.at6 ?_ | refine Look.at7 ?_ | refine Look.at8 ?_ | with_reducible refine Val.i64 (by omega) (by omega) ?_ | with_reducible refine Val.u8 (by omega) (by omega) ?_ | with_reducible refine Val.u32 (by omega) (by omega) ?_ | with_reducible refine Val.u64 (by omega) (by omega) ?_ | with_reducible refine Val.u8m ?_ | with_reducible refine Val.u32m ?_ | with_reducible refine Val.u64m ?_ | with_reducible refine Val.shr8 ?_ | with_reducible refine Val.shr16 (by decide) ?_ | with_reducible refine Val.shr24 (by decide) ?_ | with_reducible refine Val.raw ?_ | refine Branch.not ?_ | refine Branch.and ?_ | refine Branch.or ?_ | refine Branch.dt (by assumption) ?_ | refine Branch.df (by assumption) ?_ | refine Branch.dt rfl ?_ | refine Branch.dt (by omega) ?_ | refine Branch.df (by omega) ?_ | refine Branch.t rfl ?_ | refine Branch.f rfl ?_ | refine Branch.t (by assumption) ?_ | refine Branch.f (by assumption) ?_ | refine Branch.d (fun _ => ?_) (fun _ => ?_) | refine Branch.mk (fun _ => ?_) (fun _ => ?_) | refine Need.mk (by first | omega | decide | rfl) ?_ | refine Idx.nat (by omega) ?_ | refine Idx.auto (by first | omega | decide) (by first | omega | decide) ?_ | refine Cell.ro rfl ?_ | refine SDraw.all (by kernel_rfl) ?_ | refine Kept.k0 ?_ | refine Kept.k1 ?_ | refine Kept.k2 ?_ | refine Kept.k3 ?_ | refine Kept.k4 ?_))
    · have hok : okF f = false := by simpa using hok
      have h10 : ∀ K2 : Value → Heap → Prop, K2 (tup2 0 1) F → SCalls Tryd.prog 10 [ptr p, frV f] F K2 := fun K2 hk => c10 hW hDr hDG hf (fun _ => hk) (fun h => by rw [hok] at h; cases h) (fun h => by rw [hok] at h; cases h)
      have h31 : ∀ K2 : Value → Heap → Prop, K2 (tup2 0 1) F → SCalls Tryd.prog 31 [ptr g, frV f] F K2 := fun K2 hk => refcall hDr (fun A e _ => c31 hV hR (fun _ => by rw [e]; exact hk) (fun h => by rw [hok] at h; cases h) (fun h => by rw [hok] at h; cases h))
      repeat' ((conv => whnf); (first | refine Branch.dt k0 ?_ | refine SCalls.under [_] (h10 _ ?_) | refine SCalls.under [_] (h31 _ ?_) | refine Branch.dt rfl ?_ | exact hfin _ [_] _ _ _ _ rfl hR hDr hup | refine New.mk (fun _ => ?_) | refine Look.at0 ?_ | refine Cell.row ?_ | refine Cell.buf ?_ | refine Cells.row rfl ?_ | refine Put.row rfl ?_ | refine Put.buf rfl ?_ | refine Look.at1 ?_ | refine Look.at2 ?_ | refine Look.at3 ?_ | refine Look.at4 ?_ | refine Look.at5 ?_ | refine Look.at6 ?_ | refine Look.at7 ?_ | refine Look.at8 ?_ | with_reducible refine Val.i64 (by omega) (by omega) ?_ | with_reducible refine Val.u8 (by omega) (by omega) ?_ | with_reducible refine Val.u32 (by omega) (by omega) ?_ | with_reducible refine Val.u64 (by omega) (by omega) ?_ | with_reducible refine Val.u8m ?_ | with_reducible refine Val.u32m ?_ | with_reducible refine Val.u64m ?_ | with_reducible refine Val.shr8 ?_ | with_reducible refine Val.shr16 (by decide) ?_ | with_reducible refine Val.shr24 (by decide) ?_ | with_reducible refine Val.raw ?_ | refine Branch.not ?_ | refine Branch.and ?_ | refine Branch.or ?_ | refine Branch.dt (by assumption) ?_ | refine Branch.df (by assumption) ?_ | refine Branch.dt rfl ?_ | refine Branch.dt (by omega) ?_ | refine Branch.df (by omega) ?_ | refine Branch.t rfl ?_ | refine Branch.f rfl ?_ | refine Branch.t (by assumption) ?_ | refine Branch.f (by assumption) ?_ | refine Branch.d (fun _ => ?_) (fun _ => ?_) | refine Branch.mk (fun _ => ?_) (fun _ => ?_) | refine Need.mk (by first | omega | decide | rfl) ?_ | refine Idx.nat (by omega) ?_ | refine Idx.auto (by first | omega | decide) (by first | omega | decide) ?_ | refine Cell.ro rfl ?_ | refine SDraw.all (by kernel_rfl) ?_ | refine Kept.k0 ?_ | refine Kept.k1 ?_ | refine Kept.k2 ?_ | refine Kept.k3 ?_ | refine Kept.k4 ?_))
  · by_cases k1 : ak = 1
    · obtain ⟨e1, e2⟩ := hA.next hW
      obtain ⟨fr, hfr⟩ : ∃ fr, hd1 (s.q.map Wn.f) = fr := ⟨_, rfl⟩
      obtain ⟨b, hb⟩ : ∃ b, decide (0 < s.q.length) = b := ⟨_, rfl⟩
      have h11 : ∀ K2 : Value → Heap → Prop, K2 (.tuple ⟨[frV fr, .bool b]⟩) F → SCalls Tryd.prog 11 [ptr p] F K2 := fun K2 hk => c11 hDr (by rw [hfr, hb]; exact hk)
      have h32 : ∀ K2 : Value → Heap → Prop, K2 (.tuple ⟨[frV fr, .bool b]⟩) F → SCalls Tryd.prog 32 [ptr g] F K2 := fun K2 hk => refcall hDr (fun A e _ => c32 hR (by rw [← e1, ← e2, hfr, hb, e]; exact hk))
      obtain ⟨id, xx, rm, nn, d0, d1, d2, d3, d4, d5, d6, d7⟩ := fr
      dsimp only [frV, frC] at h11 h32
      repeat' ((conv => whnf); (first | refine Branch.df k0 ?_ | refine Branch.dt k1 ?_ | refine SCalls.under [_] (h11 _ ?_) | refine SCalls.under [_, _] (h32 _ ?_) | refine Branch.dt rfl ?_ | refine Branch.t (beq_self_eq_true _) ?_ | exact hfin _ [_, _, _] _ _ _ _ (beq_self_eq_true _) hR hDr hup | refine New.mk (fun _ => ?_) | refine Look.at0 ?_ | refine Cell.row ?_ | refine Cell.buf ?_ | refine Cells.row rfl ?_ | refine Put.row rfl ?_ | refine Put.buf rfl ?_ | refine Look.at1 ?_ | refine Look.at2 ?_ | refine Look.at3 ?_ | refine Look.at4 ?_ | refine Look.at5 ?_ | refine Look.at6 ?_ | refine Look.at7 ?_ | refine Look.at8 ?_ | with_reducible refine Val.i64 (by omega) (by omega) ?_ | with_reducible refine Val.u8 (by omega) (by omega) ?_ | with_reducible refine Val.u32 (by omega) (by omega) ?_ | with_reducible refine Val.u64 (by omega) (by omega) ?_ | with_reducible refine Val.u8m ?_ | with_reducible refine Val.u32m ?_ | with_reducible refine Val.u64m ?_ | with_reducible refine Val.shr8 ?_ | with_reducible refine Val.shr16 (by decide) ?_ | with_reducible refine Val.shr24 (by decide) ?_ | with_reducible refine Val.raw ?_ | refine Branch.not ?_ | refine Branch.and ?_ | refine Branch.or ?_ | refine Branch.dt (by assumption) ?_ | refine Branch.df (by assumption) ?_ | refine Branch.dt rfl ?_ | refine Branch.dt (by omega) ?_ | refine Branch.df (by omega) ?_ | refine Branch.t rfl ?_ | refine Branch.f rfl ?_ | refine Branch.t (by assumption) ?_ | refine Branch.f (by assumption) ?_ | refine Branch.d (fun _ => ?_) (fun _ => ?_) | refine Branch.mk (fun _ => ?_) (fun _ => ?_) | refine Need.mk (by first | omega | decide | rfl) ?_ | refine Idx.nat (by omega) ?_ | refine Idx.auto (by first | omega | decide) (by first | omega | decide) ?_ | refine Cell.ro rfl ?_ | refine SDraw.all (by kernel_rfl) ?_ | refine Kept.k0 ?_ | refine Kept.k1 ?_ | refine Kept.k2 ?_ | refine Kept.k3 ?_ | refine Kept.k4 ?_))
    · by_cases k2 : ak = 2
      · by_cases hq : s.q = []
        · have h14 : ∀ K2 : Value → Heap → Prop, K2 (.bool false) F → SCalls Tryd.prog 14 [ptr p] F K2 := fun K2 hk => c14 hW hDr (fun _ => hk) (fun y q' F' j1 j2 => by rw [hq] at j2; have := j2.length_eq; simp at this)
          have hO : t.O = [] := List.length_eq_zero_iff.1 (by rw [← hlen, hq]; rfl)
          have h33 : ∀ K2 : Value → Heap → Prop, K2 (.bool false) F → SCalls Tryd.prog 33 [ptr g, .int .i64 0, .bool true] F K2 := fun K2 hk => refcall hDr (fun A e _ => c33 hV hR (fun _ => by rw [e]; exact hk) (fun n y hn => by rw [hO] at hn; simp at hn))
          repeat' ((conv => whnf); (first | refine Branch.df k0 ?_ | refine Branch.df k1 ?_ | refine Branch.dt k2 ?_ | refine SCalls.under [_] (h14 _ ?_) | refine SCalls.under [_] (h33 _ ?_) | exact hfin _ [_] _ _ _ _ rfl hR hDr hup | refine New.mk (fun _ => ?_) | refine Look.at0 ?_ | refine Cell.row ?_ | refine Cell.buf ?_ | refine Cells.row rfl ?_ | refine Put.row rfl ?_ | refine Put.buf rfl ?_ | refine Look.at1 ?_ | refine Look.at2 ?_ | refine Look.at3 ?_ | refine Look.at4 ?_ | refine Look.at5 ?_ | refine Look.at6 ?_ | refine Look.at7 ?_ | refine Look.at8 ?_ | with_reducible refine Val.i64 (by omega) (by omega) ?_ | with_reducible refine Val.u8 (by omega) (by omega) ?_ | with_reducible refine Val.u32 (by omega) (by omega) ?_ | with_reducible refine Val.u64 (by omega) (by omega) ?_ | with_reducible refine Val.u8m ?_ | with_reducible refine Val.u32m ?_ | with_reducible refine Val.u64m ?_ | with_reducible refine Val.shr8 ?_ | with_reducible refine Val.shr16 (by decide) ?_ | with_reducible refine Val.shr24 (by decide) ?_ | with_reducible refine Val.raw ?_ | refine Branch.not ?_ | refine Branch.and ?_ | refine Branch.or ?_ | refine Branch.dt (by assumption) ?_ | refine Branch.df (by assumption) ?_ | refine Branch.dt rfl ?_ | refine Branch.dt (by omega) ?_ | refine Branch.df (by omega) ?_ | refine Branch.t rfl ?_ | refine Branch.f rfl ?_ | refine Branch.t (by assumption) ?_ | refine Branch.f (by assumption) ?_ | refine Branch.d (fun _ => ?_) (fun _ => ?_) | refine Branch.mk (fun _ => ?_) (fun _ => ?_) | refine Need.mk (by first | omega | decide | rfl) ?_ | refine Idx.nat (by omega) ?_ | refine Idx.auto (by first | omega | decide) (by first | omega | decide) ?_ | refine Cell.ro rfl ?_ | refine SDraw.all (by kernel_rfl) ?_ | refine Kept.k0 ?_ | refine Kept.k1 ?_ | refine Kept.k2 ?_ | refine Kept.k3 ?_ | refine Kept.k4 ?_))
        · have h14 : ∀ K2 : Value → Heap → Prop, (∀ s' F', DrO p s' G F' → DrW s' → Agree s' { t with O := t.O.eraseIdx 0 } → s'.tk ≤ k + 1 → s'.lost ≤ k + 1 → K2 (.bool true) F') → SCalls Tryd.prog 14 [ptr p] F K2 := fun K2 hk =>
            c14 hW hDr (fun h => absurd h hq) (fun y q' F' j1 j2 j3 j4 => hk _ _ j1 ⟨hW.most, hW.room, hW.L, hW.Lw, hW.I, by
              have h1 := j2.length_eq
              have h2 := hW.q
              rw [List.length_cons] at h1
              show q'.length ≤ s.most
              omega, hW.tk, hW.lost, j4⟩ (hA.done j2 j3).2 (Nat.le_succ_of_le htk) (Nat.le_succ_of_le hlo))
          have h33 : ∀ s' F1 (K2 : Value → Heap → Prop), DrO p s' G F1 → (∀ G' F', RfO g { t with O := t.O.eraseIdx 0 } Hb G' → RfW { t with O := t.O.eraseIdx 0 } → DrO p s' G' F' → K2 (.bool true) F') → SCalls Tryd.prog 33 [ptr g, .int .i64 0, .bool true] F1 K2 := fun s' F1 K2 h hk =>
            refcall h (fun A e hA2 => c33 hV hR (fun h0 => by
              exfalso
              cases hO : t.O with
              | nil =>
                rw [hO] at hlen
                exact hq (List.length_eq_zero_iff.1 hlen)
              | cons y r =>
                have := (h0 y (by rw [hO]; exact .head _)).1
                cases this) (fun n y hn _ hno F' j => by
              have hn0 : n = 0 := by
                rcases Nat.eq_zero_or_pos n with h | h
                · exact h
                · obtain ⟨z, hz⟩ : ∃ z, t.O[0]? = some z := ⟨_, List.getElem?_eq_getElem (by have := (List.getElem?_eq_some_iff.1 hn).1; omega)⟩
                  have := (hno 0 z h hz).1
                  cases this
              subst hn0
              exact hk _ _ j ⟨hV.most, hV.room, hV.L, hV.Lw, Nat.le_trans (List.eraseIdx_sublist _ _).length_le hV.O, hV.I, hV.tk, hV.lost, fun y hy => hV.ok y ((List.eraseIdx_sublist _ _).subset hy)⟩ (hA2 F')))
          repeat' ((conv => whnf); (first | refine Branch.df k0 ?_ | refine Branch.df k1 ?_ | refine Branch.dt k2 ?_ | refine SCalls.under [_] (h14 _ (fun s' F' j1 j2 j3 j4 j5 => ?_)) | refine SCalls.under [_] (h33 _ _ _ j1 (fun G' F2 j6 j7 j8 => ?_)) | exact hfin _ [_] _ _ _ _ rfl j6 j8 ⟨j2, j7, j3, j4, j5⟩ | refine New.mk (fun _ => ?_) | refine Look.at0 ?_ | refine Cell.row ?_ | refine Cell.buf ?_ | refine Cells.row rfl ?_ | refine Put.row rfl ?_ | refine Put.buf rfl ?_ | refine Look.at1 ?_ | refine Look.at2 ?_ | refine Look.at3 ?_ | refine Look.at4 ?_ | refine Look.at5 ?_ | refine Look.at6 ?_ | refine Look.at7 ?_ | refine Look.at8 ?_ | with_reducible refine Val.i64 (by omega) (by omega) ?_ | with_reducible refine Val.u8 (by omega) (by omega) ?_ | with_reducible refine Val.u32 (by omega) (by omega) ?_ | with_reducible refine Val.u64 (by omega) (by omega) ?_ | with_reducible refine Val.u8m ?_ | with_reducible refine Val.u32m ?_ | with_reducible refine Val.u64m ?_ | with_reducible refine Val.shr8 ?_ | with_reducible refine Val.shr16 (by decide) ?_ | with_reducible refine Val.shr24 (by decide) ?_ | with_reducible refine Val.raw ?_ | refine Branch.not ?_ | refine Branch.and ?_ | refine Branch.or ?_ | refine Branch.dt (by assumption) ?_ | refine Branch.df (by assumption) ?_ | refine Branch.dt rfl ?_ | refine Branch.dt (by omega) ?_ | refine Branch.df (by omega) ?_ | refine Branch.t rfl ?_ | refine Branch.f rfl ?_ | refine Branch.t (by assumption) ?_ | refine Branch.f (by assumption) ?_ | refine Branch.d (fun _ => ?_) (fun _ => ?_) | refine Branch.mk (fun _ => ?_) (fun _ => ?_) | refine Need.mk (by first | omega | decide | rfl) ?_ | refine Idx.nat (by omega) ?_ | refine Idx.auto (by first | omega | decide) (by first | omega | decide) ?_ | refine Cell.ro rfl ?_ | refine SDraw.all (by kernel_rfl) ?_ | refine Kept.k0 ?_ | refine Kept.k1 ?_ | refine Kept.k2 ?_ | refine Kept.k3 ?_ | refine Kept.k4 ?_))
      · by_cases k3 : ak = 3
        · by_cases hex : ∃ y ∈ s.q, (y.ask : Int) = at_
          · have h34 : ∀ K2 : Value → Heap → Prop, (∀ (y : Wn) s' F', (y.ask : Int) = at_ → DrO p s' G F' → DrW s' → (∀ (n : Nat) (z : Wn), t.O[n]? = some z → y.ask = z.ask → Agree s' { t with O := t.O.eraseIdx n }) → s'.tk ≤ k + 1 → s'.lost ≤ k + 1 → K2 (.bool true) F') → SCalls Tryd.prog 34 [ptr p, .int .i64 at_] F K2 := fun K2 hk =>
              c34 hW hDr (fun h => by
                obtain ⟨y, hy, he⟩ := hex
                exact absurd he (h y hy)) (fun y q' F' j0 j1 j2 j3 => hk y _ _ j0 j1 ⟨hW.most, hW.room, hW.L, hW.Lw, hW.I, by
                have h1 := j2.length_eq
                have h2 := hW.q
                rw [List.length_cons] at h1
                show q'.length ≤ s.most
                omega, hW.tk, hW.lost, j3⟩ (fun n z hn he => hA.drop j2 hn he) (Nat.le_succ_of_le htk) (Nat.le_succ_of_le hlo))
            have h33 : ∀ s' F1 (K2 : Value → Heap → Prop), DrO p s' G F1 → (∀ (n : Nat) (z : Wn) G' F', t.O[n]? = some z → (z.ask : Int) = at_ → RfO g { t with O := t.O.eraseIdx n } Hb G' → RfW { t with O := t.O.eraseIdx n } → DrO p s' G' F' → K2 (.bool true) F') → SCalls Tryd.prog 33 [ptr g, .int .i64 at_, .bool false] F1 K2 := fun s' F1 K2 h hk =>
              refcall h (fun A e hA2 => c33 hV hR (fun h0 => by
                obtain ⟨y, hy, he⟩ := hex
                exact absurd he (h0 y (hA.perm.subset hy)).2) (fun n y hn hy _ F' j => hk n y _ _ hn (hy.resolve_left (by decide)) j ⟨hV.most, hV.room, hV.L, hV.Lw, Nat.le_trans (List.eraseIdx_sublist _ _).length_le hV.O, hV.I, hV.tk, hV.lost, fun y hy => hV.ok y ((List.eraseIdx_sublist _ _).subset hy)⟩ (hA2 F')))
            repeat' ((conv => whnf); (first | refine Branch.df k0 ?_ | refine Branch.df k1 ?_ | refine Branch.df k2 ?_ | refine Branch.dt k3 ?_ | refine SDraw.held (by kernel_rfl) [_] (.same (.head _) .nil) ?_ | refine Kept.mk (.same (.head _) .nil) ?_ | refine SCalls.under [_] (h34 _ (fun y s' F' j0 j1 j2 j3 j4 j5 => ?_)) | refine SCalls.under [_] (h33 _ _ _ j1 (fun n z G' F2 i1 i2 j6 j7 j8 => ?_)) | exact hfin _ [_] _ _ _ _ rfl j6 j8 ⟨j2, j7, j3 _ _ i1 (by omega), j4, j5⟩ | refine New.mk (fun _ => ?_) | refine Look.at0 ?_ | refine Cell.row ?_ | refine Cell.buf ?_ | refine Cells.row rfl ?_ | refine Put.row rfl ?_ | refine Put.buf rfl ?_ | refine Look.at1 ?_ | refine Look.at2 ?_ | refine Look.at3 ?_ | refine Look.at4 ?_ | refine Look.at5 ?_ | refine Look.at6 ?_ | refine Look.at7 ?_ | refine Look.at8 ?_ | with_reducible refine Val.i64 (by omega) (by omega) ?_ | with_reducible refine Val.u8 (by omega) (by omega) ?_ | with_reducible refine Val.u32 (by omega) (by omega) ?_ | with_reducible refine Val.u64 (by omega) (by omega) ?_ | with_reducible refine Val.u8m ?_ | with_reducible refine Val.u32m ?_ | with_reducible refine Val.u64m ?_ | with_reducible refine Val.shr8 ?_ | with_reducible refine Val.shr16 (by decide) ?_ | with_reducible refine Val.shr24 (by decide) ?_ | with_reducible refine Val.raw ?_ | refine Branch.not ?_ | refine Branch.and ?_ | refine Branch.or ?_ | refine Branch.dt (by assumption) ?_ | refine Branch.df (by assumption) ?_ | refine Branch.dt rfl ?_ | refine Branch.dt (by omega) ?_ | refine Branch.df (by omega) ?_ | refine Branch.t rfl ?_ | refine Branch.f rfl ?_ | refine Branch.t (by assumption) ?_ | refine Branch.f (by assumption) ?_ | refine Branch.d (fun _ => ?_) (fun _ => ?_) | refine Branch.mk (fun _ => ?_) (fun _ => ?_) | refine Need.mk (by first | omega | decide | rfl) ?_ | refine Idx.nat (by omega) ?_ | refine Idx.auto (by first | omega | decide) (by first | omega | decide) ?_ | refine Cell.ro rfl ?_ | refine SDraw.all (by kernel_rfl) ?_ | refine Kept.k0 ?_ | refine Kept.k1 ?_ | refine Kept.k2 ?_ | refine Kept.k3 ?_ | refine Kept.k4 ?_))
          · have h34 : ∀ K2 : Value → Heap → Prop, K2 (.bool false) F → SCalls Tryd.prog 34 [ptr p, .int .i64 at_] F K2 := fun K2 hk =>
              c34 hW hDr (fun _ => hk) (fun y q' F' j0 _ j2 _ => absurd ⟨y, j2.symm.subset (.head _), j0⟩ hex)
            have h33 : ∀ K2 : Value → Heap → Prop, K2 (.bool false) F → SCalls Tryd.prog 33 [ptr g, .int .i64 at_, .bool false] F K2 := fun K2 hk =>
              refcall hDr (fun A e _ => c33 hV hR (fun _ => by rw [e]; exact hk) (fun n y hn hy _ _ _ => absurd ⟨y, hA.perm.symm.subset (List.mem_of_getElem? hn), hy.resolve_left (by decide)⟩ hex))
            repeat' ((conv => whnf); (first | refine Branch.df k0 ?_ | refine Branch.df k1 ?_ | refine Branch.df k2 ?_ | refine Branch.dt k3 ?_ | refine SDraw.held (by kernel_rfl) [_] (.same (.head _) .nil) ?_ | refine Kept.mk (.same (.head _) .nil) ?_ | refine SCalls.under [_] (h34 _ ?_) | refine SCalls.under [_] (h33 _ ?_) | exact hfin _ [_] _ _ _ _ rfl hR hDr hup | refine New.mk (fun _ => ?_) | refine Look.at0 ?_ | refine Cell.row ?_ | refine Cell.buf ?_ | refine Cells.row rfl ?_ | refine Put.row rfl ?_ | refine Put.buf rfl ?_ | refine Look.at1 ?_ | refine Look.at2 ?_ | refine Look.at3 ?_ | refine Look.at4 ?_ | refine Look.at5 ?_ | refine Look.at6 ?_ | refine Look.at7 ?_ | refine Look.at8 ?_ | with_reducible refine Val.i64 (by omega) (by omega) ?_ | with_reducible refine Val.u8 (by omega) (by omega) ?_ | with_reducible refine Val.u32 (by omega) (by omega) ?_ | with_reducible refine Val.u64 (by omega) (by omega) ?_ | with_reducible refine Val.u8m ?_ | with_reducible refine Val.u32m ?_ | with_reducible refine Val.u64m ?_ | with_reducible refine Val.shr8 ?_ | with_reducible refine Val.shr16 (by decide) ?_ | with_reducible refine Val.shr24 (by decide) ?_ | with_reducible refine Val.raw ?_ | refine Branch.not ?_ | refine Branch.and ?_ | refine Branch.or ?_ | refine Branch.dt (by assumption) ?_ | refine Branch.df (by assumption) ?_ | refine Branch.dt rfl ?_ | refine Branch.dt (by omega) ?_ | refine Branch.df (by omega) ?_ | refine Branch.t rfl ?_ | refine Branch.f rfl ?_ | refine Branch.t (by assumption) ?_ | refine Branch.f (by assumption) ?_ | refine Branch.d (fun _ => ?_) (fun _ => ?_) | refine Branch.mk (fun _ => ?_) (fun _ => ?_) | refine Need.mk (by first | omega | decide | rfl) ?_ | refine Idx.nat (by omega) ?_ | refine Idx.auto (by first | omega | decide) (by first | omega | decide) ?_ | refine Cell.ro rfl ?_ | refine SDraw.all (by kernel_rfl) ?_ | refine Kept.k0 ?_ | refine Kept.k1 ?_ | refine Kept.k2 ?_ | refine Kept.k3 ?_ | refine Kept.k4 ?_))
        · by_cases k4 : ak = 4
          · obtain ⟨he, hag⟩ := take_agree hA f
            obtain ⟨g1, g2, g3, g4, g5, g6⟩ := takeS_ok (f := f) hW (by omega)
            have hV2 := takeR_ok (f := f) hV (by have := hA.lost; omega) (fun h => h)
            obtain ⟨x, hx⟩ : ∃ x, takeE s f = x := ⟨_, rfl⟩
            obtain ⟨b, hb⟩ : ∃ b, (okF f && pas s.L f) = b := ⟨_, rfl⟩
            have hI2 : ActI (k + 1) (takeS s f) (takeR t f) := ⟨g1, hV2, hag, by rw [g5]; exact Nat.le_succ_of_le htk, by rw [g6]; split <;> omega⟩
            have hLt : (takeR t f).L = t.L := by
              unfold takeR
              repeat' split
              all_goals rfl
            have h16 : ∀ K2 : Value → Heap → Prop, (∀ F', DrO p (takeS s f) G F' → K2 (.int .i64 x) F') → SCalls Tryd.prog 16 [ptr p, frV f] F K2 := fun K2 hk => c16 hW hDr hf (fun F' j => by rw [hx]; exact hk F' j)
            have h35 : ∀ s' F1 (K2 : Value → Heap → Prop), DrO p s' G F1 → (∀ G' F', RfO g (takeR t f) Hb G' → DrO p s' G' F' → K2 (.int .i64 x) F') → SCalls Tryd.prog 35 [ptr g, frV f] F1 K2 := fun s' F1 K2 h hk => refcall h (fun A e hA2 => c35 hV hR hf (fun F' j => by rw [← he, hx]; exact hk _ _ j (hA2 F')))
            have h9 : ∀ G' F1 (K2 : Value → Heap → Prop), DrO p (takeS s f) G' F1 → K2 (.bool b) F1 → SCalls Tryd.prog 9 [ptr p, frV f] F1 K2 := fun G' F1 K2 h hk => c9 g1 h hf (by rw [g4, hb]; exact hk)
            have h36 : ∀ s' G' F1 (K2 : Value → Heap → Prop), RfO g (takeR t f) Hb G' → DrO p s' G' F1 → K2 (.bool b) F1 → SCalls Tryd.prog 36 [ptr g, frV f] F1 K2 := fun s' G' F1 K2 h1 h hk => refcall h (fun A e _ => c36 hV2 h1 hf (by rw [hLt, hA.L, hb, e]; exact hk))
            clear hup
            repeat' ((conv => whnf); (first | refine Branch.df k0 ?_ | refine Branch.df k1 ?_ | refine Branch.df k2 ?_ | refine Branch.df k3 ?_ | refine Branch.dt k4 ?_ | refine SDraw.held (by kernel_rfl) [_] (.same (.head _) .nil) ?_ | refine Kept.mk (.same (.head _) .nil) ?_ | refine SCalls.under [_] (h16 _ (fun F' j1 => ?_)) | refine SCalls.under [_] (h35 _ _ _ j1 (fun G' F2 j2 j3 => ?_)) | refine SCalls.under [_] (h9 _ _ _ j3 ?_) | refine SCalls.under [_] (h36 _ _ _ _ j2 j3 ?_) | refine Branch.dt rfl ?_ | exact hfin _ [_] _ _ _ _ (beq_self_eq_true _) j2 j3 hI2 | refine New.mk (fun _ => ?_) | refine Look.at0 ?_ | refine Cell.row ?_ | refine Cell.buf ?_ | refine Cells.row rfl ?_ | refine Put.row rfl ?_ | refine Put.buf rfl ?_ | refine Look.at1 ?_ | refine Look.at2 ?_ | refine Look.at3 ?_ | refine Look.at4 ?_ | refine Look.at5 ?_ | refine Look.at6 ?_ | refine Look.at7 ?_ | refine Look.at8 ?_ | with_reducible refine Val.i64 (by omega) (by omega) ?_ | with_reducible refine Val.u8 (by omega) (by omega) ?_ | with_reducible refine Val.u32 (by omega) (by omega) ?_ | with_reducible refine Val.u64 (by omega) (by omega) ?_ | with_reducible refine Val.u8m ?_ | with_reducible refine Val.u32m ?_ | with_reducible refine Val.u64m ?_ | with_reducible refine Val.shr8 ?_ | with_reducible refine Val.shr16 (by decide) ?_ | with_reducible refine Val.shr24 (by decide) ?_ | with_reducible refine Val.raw ?_ | refine Branch.not ?_ | refine Branch.and ?_ | refine Branch.or ?_ | refine Branch.dt (by assumption) ?_ | refine Branch.df (by assumption) ?_ | refine Branch.dt rfl ?_ | refine Branch.dt (by omega) ?_ | refine Branch.df (by omega) ?_ | refine Branch.t rfl ?_ | refine Branch.f rfl ?_ | refine Branch.t (by assumption) ?_ | refine Branch.f (by assumption) ?_ | refine Branch.d (fun _ => ?_) (fun _ => ?_) | refine Branch.mk (fun _ => ?_) (fun _ => ?_) | refine Need.mk (by first | omega | decide | rfl) ?_ | refine Idx.nat (by omega) ?_ | refine Idx.auto (by first | omega | decide) (by first | omega | decide) ?_ | refine Cell.ro rfl ?_ | refine SDraw.all (by kernel_rfl) ?_ | refine Kept.k0 ?_ | refine Kept.k1 ?_ | refine Kept.k2 ?_ | refine Kept.k3 ?_ | refine Kept.k4 ?_))
          · by_cases k5 : ak = 5
            · obtain ⟨fr, hfr⟩ : ∃ fr, hd1 s.I = fr := ⟨_, rfl⟩
              obtain ⟨b, hb⟩ : ∃ b, decide (0 < s.I.length) = b := ⟨_, rfl⟩
              have htl : s.I.tail.length ≤ s.room := by
                have := hW.I
                rw [List.length_tail]
                omega
              have h17 : ∀ K2 : Value → Heap → Prop, (∀ F', DrO p { s with I := s.I.tail } G F' → K2 (.tuple ⟨[frV fr, .bool b]⟩) F') → SCalls Tryd.prog 17 [ptr p] F K2 := fun K2 hk => c17 hW hDr (fun F' j => by rw [hfr, hb]; exact hk F' j)
              have h37 : ∀ s' F1 (K2 : Value → Heap → Prop), DrO p s' G F1 → (∀ G' F', RfO g { t with I := t.I.tail } Hb G' → DrO p s' G' F' → K2 (.tuple ⟨[frV fr, .bool b]⟩) F') → SCalls Tryd.prog 37 [ptr g] F1 K2 := fun s' F1 K2 h hk => refcall h (fun A e hA2 => c37 hV hR (fun F' j => by rw [hA.I, hfr, hb]; exact hk _ _ j (hA2 F')))
              have hI2 : ActI (k + 1) { s with I := s.I.tail } { t with I := t.I.tail } := ⟨⟨hW.most, hW.room, hW.L, hW.Lw, htl, hW.q, hW.tk, hW.lost, hW.heap⟩, ⟨hV.most, hV.room, hV.L, hV.Lw, hV.O, by show t.I.tail.length ≤ t.room; rw [hA.I, hA.room]; exact htl, hV.tk, hV.lost, hV.ok⟩, ⟨hA.most, hA.room, hA.L, hA.tk, hA.lost, by show t.I.tail = s.I.tail; rw [hA.I], hA.perm, hA.ord, hA.ask, hA.uni⟩, Nat.le_succ_of_le htk, Nat.le_succ_of_le hlo⟩
              clear hup
              obtain ⟨id, xx, rm, nn, d0, d1, d2, d3, d4, d5, d6, d7⟩ := fr
              dsimp only [frV, frC] at h17 h37
              repeat' ((conv => whnf); (first | refine Branch.df k0 ?_ | refine Branch.df k1 ?_ | refine Branch.df k2 ?_ | refine Branch.df k3 ?_ | refine Branch.df k4 ?_ | refine Branch.dt k5 ?_ | refine SCalls.under [_] (h17 _ (fun F' j1 => ?_)) | refine SCalls.under [_, _] (h37 _ _ _ j1 (fun G' F2 j2 j3 => ?_)) | refine Branch.dt rfl ?_ | refine Branch.t (beq_self_eq_true _) ?_ | exact hfin _ [_, _, _] _ _ _ _ (beq_self_eq_true _) j2 j3 hI2 | refine New.mk (fun _ => ?_) | refine Look.at0 ?_ | refine Cell.row ?_ | refine Cell.buf ?_ | refine Cells.row rfl ?_ | refine Put.row rfl ?_ | refine Put.buf rfl ?_ | refine Look.at1 ?_ | refine Look.at2 ?_ | refine Look.at3 ?_ | refine Look.at4 ?_ | refine Look.at5 ?_ | refine Look.at6 ?_ | refine Look.at7 ?_ | refine Look.at8 ?_ | with_reducible refine Val.i64 (by omega) (by omega) ?_ | with_reducible refine Val.u8 (by omega) (by omega) ?_ | with_reducible refine Val.u32 (by omega) (by omega) ?_ | with_reducible refine Val.u64 (by omega) (by omega) ?_ | with_reducible refine Val.u8m ?_ | with_reducible refine Val.u32m ?_ | with_reducible refine Val.u64m ?_ | with_reducible refine Val.shr8 ?_ | with_reducible refine Val.shr16 (by decide) ?_ | with_reducible refine Val.shr24 (by decide) ?_ | with_reducible refine Val.raw ?_ | refine Branch.not ?_ | refine Branch.and ?_ | refine Branch.or ?_ | refine Branch.dt (by assumption) ?_ | refine Branch.df (by assumption) ?_ | refine Branch.dt rfl ?_ | refine Branch.dt (by omega) ?_ | refine Branch.df (by omega) ?_ | refine Branch.t rfl ?_ | refine Branch.f rfl ?_ | refine Branch.t (by assumption) ?_ | refine Branch.f (by assumption) ?_ | refine Branch.d (fun _ => ?_) (fun _ => ?_) | refine Branch.mk (fun _ => ?_) (fun _ => ?_) | refine Need.mk (by first | omega | decide | rfl) ?_ | refine Idx.nat (by omega) ?_ | refine Idx.auto (by first | omega | decide) (by first | omega | decide) ?_ | refine Cell.ro rfl ?_ | refine SDraw.all (by kernel_rfl) ?_ | refine Kept.k0 ?_ | refine Kept.k1 ?_ | refine Kept.k2 ?_ | refine Kept.k3 ?_ | refine Kept.k4 ?_))
            · repeat' ((conv => whnf); (first | refine Branch.df k0 ?_ | refine Branch.df k1 ?_ | refine Branch.df k2 ?_ | refine Branch.df k3 ?_ | refine Branch.df k4 ?_ | refine Branch.df k5 ?_ | exact hfin _ [_] _ _ _ _ rfl hR hDr hup | refine New.mk (fun _ => ?_) | refine Look.at0 ?_ | refine Cell.row ?_ | refine Cell.buf ?_ | refine Cells.row rfl ?_ | refine Put.row rfl ?_ | refine Put.buf rfl ?_ | refine Look.at1 ?_ | refine Look.at2 ?_ | refine Look.at3 ?_ | refine Look.at4 ?_ | refine Look.at5 ?_ | refine Look.at6 ?_ | refine Look.at7 ?_ | refine Look.at8 ?_ | with_reducible refine Val.i64 (by omega) (by omega) ?_ | with_reducible refine Val.u8 (by omega) (by omega) ?_ | with_reducible refine Val.u32 (by omega) (by omega) ?_ | with_reducible refine Val.u64 (by omega) (by omega) ?_ | with_reducible refine Val.u8m ?_ | with_reducible refine Val.u32m ?_ | with_reducible refine Val.u64m ?_ | with_reducible refine Val.shr8 ?_ | with_reducible refine Val.shr16 (by decide) ?_ | with_reducible refine Val.shr24 (by decide) ?_ | with_reducible refine Val.raw ?_ | refine Branch.not ?_ | refine Branch.and ?_ | refine Branch.or ?_ | refine Branch.dt (by assumption) ?_ | refine Branch.df (by assumption) ?_ | refine Branch.dt rfl ?_ | refine Branch.dt (by omega) ?_ | refine Branch.df (by omega) ?_ | refine Branch.t rfl ?_ | refine Branch.f rfl ?_ | refine Branch.t (by assumption) ?_ | refine Branch.f (by assumption) ?_ | refine Branch.d (fun _ => ?_) (fun _ => ?_) | refine Branch.mk (fun _ => ?_) (fun _ => ?_) | refine Need.mk (by first | omega | decide | rfl) ?_ | refine Idx.nat (by omega) ?_ | refine Idx.auto (by first | omega | decide) (by first | omega | decide) ?_ | refine Cell.ro rfl ?_ | refine SDraw.all (by kernel_rfl) ?_ | refine Kept.k0 ?_ | refine Kept.k1 ?_ | refine Kept.k2 ?_ | refine Kept.k3 ?_ | refine Kept.k4 ?_))
end
end Go.Proofs.YthgpikgbhkcnbaaDoor

/- Layer 5: DriverActs: by walks. -/
set_option linter.unusedVariables false
set_option linter.unusedSimpArgs false
set_option maxRecDepth 100000
set_option maxHeartbeats 4000000
namespace Go.Proofs.YthgpikgbhkcnbaaDoor
open Sx
inductive S6 (A1 A5 A7 A9 : Value) : List Value → Prop
  | mk {r0 r2 r3 r4 r6 r8 r10 r11 r12 r13 r14 r15 r16 r17 r18 r19 r20 r21 r22 r23 r24 r25 r26 r27 r28 r29 r30 r31 r32 r33 r34 r35 r36 r37 r38 r39 r40 r41 r42 r43 r44 r45 r46 r47 r48 r49 r50 r51 r52 r53 r54 r55 r56 r57 r58 r59 r60 r61 r62 r63 r64 r65 r66 r67 r68 r69 r70 r71 r72 r73 r74 r75 r76 r77 r78 r79 r80 r81 r82 r83 r84 r85 r86 r87 r88 r89 r90 r91 r92 r93 : Value} : S6 A1 A5 A7 A9 [r0, A1, r2, r3, r4, A5, r6, A7, r8, A9, r10, r11, r12, r13, r14, r15, r16, r17, r18, r19, r20, r21, r22, r23, r24, r25, r26, r27, r28, r29, r30, r31, r32, r33, r34, r35, r36, r37, r38, r39, r40, r41, r42, r43, r44, r45, r46, r47, r48, r49, r50, r51, r52, r53, r54, r55, r56, r57, r58, r59, r60, r61, r62, r63, r64, r65, r66, r67, r68, r69, r70, r71, r72, r73, r74, r75, r76, r77, r78, r79, r80, r81, r82, r83, r84, r85, r86, r87, r88, r89, r90, r91, r92, r93]
section
variable {K : Value → Heap → Prop} {H : Heap} {sv : Value}
def I6 (asv : Value) (p g : Nat) (acts : List Act) (Hb : Heap) (y : Nat × Dr × Rf) (S : List Value) (H' : Heap) : Prop :=
  y.1 ≤ acts.length ∧ Both p g y.2.1 y.2.2 Hb H' ∧ ActI y.1 y.2.1 y.2.2 ∧ S6 asv (ptr p) (ptr g) (i64 y.1) S
theorem acts_c {mo ro : Int} {fs asv : Value} {L : List Fl} {acts : List Act} (hD : Db H) (hin : InS fC 3 fs H L) (hLw : ∀ l ∈ L, l.wf) (hbL : L.length * 12 ≤ 140737488355328) (hac : InS aC 14 asv H acts) (haw : ∀ a ∈ acts, a.f.wf) (hba : acts.length * 40 ≤ 140737488355328) :
    SCalls Tryd.prog 6 [.agg ⟨[.int .i64 mo, .int .i64 ro, fs]⟩, asv] H fun v _ => v = .bool true := by
  obtain ⟨fa, fc, rfl, hfl⟩ := hin.sv
  obtain ⟨aa, ac, rfl, hal⟩ := hac.sv
  have hk0 : ∀ F', (∀ z ∈ H, z ∈ F') → Db F' := fun F' h => hD.mono h
  refine enter6 ?_
  by_cases hok : okN mo ro ∧ L.length ≤ 32
  · obtain ⟨hok, hL32⟩ := hok
    have h8 : ∀ (q c : Nat) (t2 : Nat × Blk) (K2 : Value → Heap → Prop), (∀ p F, DrO p (dr0 mo ro L) ((q, .buf 33 (L.flatMap fC) (c * 3)) :: t2 :: H) F → K2 (.tuple ⟨[ptr p, .int .i64 0]⟩) F) →
        SCalls Tryd.prog 8 [.int .i64 mo, .int .i64 ro, .slice (some ⟨q, 0, none⟩) L.length c] ((q, .buf 33 (L.flatMap fC) (c * 3)) :: t2 :: H) K2 :=
      fun q c t2 K2 h1 => c8 (L := L) (InS.buf (.head _) rfl fC_len hfl) (.inr ⟨_, _, rfl⟩) (fun h => absurd hok h) (fun _ h => by omega) (fun _ _ => h1)
    have h19 : ∀ p (G F : Heap) (K2 : Value → Heap → Prop), DrO p (dr0 mo ro L) G F → (∀ z ∈ H, z ∈ G) → (∀ g G' F', RfO g (rf0 mo ro L) G G' → DrO p (dr0 mo ro L) G' F' → K2 (.tuple ⟨[ptr g, .int .i64 0]⟩) F') → SCalls Tryd.prog 19 [.int .i64 mo, .int .i64 ro, .slice fa L.length fc] F K2 :=
      fun p G F K2 h hG hk => refcall h (fun A e hA2 => c19 (hin.mono hG) (fun h => absurd hok h) (fun _ h => by omega) (fun _ _ g F' j => hk g F' _ j (hA2 F')))
    repeat' ((conv => whnf); (first | refine SDraw.held (by kernel_rfl) [_] (.same (.head _) .nil) ?_ | refine RawV.copyS (bytes := 12) (hin.mono fun z hz => .tail _ hz) rfl (by kernel_rfl) (by decide) fC_len fC_one (by omega) (fun q c k1 k2 => ?_) | refine h8 _ _ _ _ (fun p F g1 => ?_) | refine Kept.mk (.same (.tail _ (.head _)) .nil) ?_ | refine Kept.mk (.same (g1.has _ (.tail _ (.head _))) .nil) ?_ | refine Look.cell (g1.has _ (.tail _ (.head _))) rfl ?_ | refine h19 _ _ _ _ g1 (fun z hz => .tail _ (.tail _ hz)) (fun g G' F' g2 g3 => ?_) | refine Branch.f rfl ?_ | refine New.mk (fun _ => ?_) | refine Look.at0 ?_ | refine Cell.row ?_ | refine Cell.buf ?_ | refine Cells.row rfl ?_ | refine Put.row rfl ?_ | refine Put.buf rfl ?_ | refine Look.at1 ?_ | refine Look.at2 ?_ | refine Look.at3 ?_ | refine Look.at4 ?_ | refine Look.at5 ?_ | refine Look.at6 ?_ | refine Look.at7 ?_ | refine Look.at8 ?_ | with_reducible refine Val.i64 (by omega) (by omega) ?_ | with_reducible refine Val.u8 (by omega) (by omega) ?_ | with_reducible refine Val.u32 (by omega) (by omega) ?_ | with_reducible refine Val.u64 (by omega) (by omega) ?_ | with_reducible refine Val.u8m ?_ | with_reducible refine Val.u32m ?_ | with_reducible refine Val.u64m ?_ | with_reducible refine Val.shr8 ?_ | with_reducible refine Val.shr16 (by decide) ?_ | with_reducible refine Val.shr24 (by decide) ?_ | with_reducible refine Val.raw ?_ | refine Branch.not ?_ | refine Branch.and ?_ | refine Branch.or ?_ | refine Branch.dt (by assumption) ?_ | refine Branch.df (by assumption) ?_ | refine Branch.dt rfl ?_ | refine Branch.dt (by omega) ?_ | refine Branch.df (by omega) ?_ | refine Branch.t rfl ?_ | refine Branch.f rfl ?_ | refine Branch.t (by assumption) ?_ | refine Branch.f (by assumption) ?_ | refine Branch.d (fun _ => ?_) (fun _ => ?_) | refine Branch.mk (fun _ => ?_) (fun _ => ?_) | refine Need.mk (by first | omega | decide | rfl) ?_ | refine Idx.nat (by omega) ?_ | refine Idx.auto (by first | omega | decide) (by first | omega | decide) ?_ | refine Cell.ro rfl ?_ | refine SDraw.all (by kernel_rfl) ?_ | refine Kept.k0 ?_ | refine Kept.k1 ?_ | refine Kept.k2 ?_ | refine Kept.k3 ?_ | refine Kept.k4 ?_))
    rename_i t2 _
    have hw0 : ActI 0 (dr0 mo ro L) (rf0 mo ro L) := ⟨dr0_ok hok hL32 hLw, rf0_ok hok hL32 hLw, ⟨rfl, rfl, rfl, rfl, rfl, rfl, .refl _, List.Pairwise.nil, (fun y hy => by cases hy), List.Pairwise.nil⟩, Nat.le_refl _, Nat.le_refl _⟩
    generalize hHb : (q, Blk.buf 33 (L.flatMap fC) (c * 3)) :: (t2, Blk.row 46 [Value.int .i64 mo, .int .i64 ro, .slice fa L.length fc] (0, 0)) :: H = Hb at *
    have hHbH : ∀ z ∈ H, z ∈ Hb := fun z hz => by rw [← hHb]; exact .tail _ (.tail _ hz)
    have hDb : Db Hb := hD.mono hHbH
    clear h8 h19 hk0 hHb g1
    refine SLoop.invA (I6 (.slice aa acts.length ac) p g acts Hb) (fun y => acts.length - y.1) (0, dr0 mo ro L, rf0 mo ro L) (Keep.all ⟨Nat.zero_le _, .mk g2 g3, hw0, .mk⟩) ?_
    clear g2 g3 hw0 k1 k2
    rintro ⟨k, s, t⟩ S F ⟨hk, hB, hI, hS⟩ R hR
    dsimp only at hk hB hI hS hR ⊢
    cases hS
    have hB' := hB
    obtain ⟨hR', hDr⟩ := hB'
    rename_i G
    have hGF := hDr.has
    have hHbF : ∀ z ∈ Hb, z ∈ F := fun z hz => hGF z (hR'.has z hz)
    by_cases hlt : k < acts.length
    · obtain ⟨a, hx, hdrop, htake⟩ := list_at hlt
      obtain ⟨r, o, c1, b, e1, hrb, hcc⟩ := inS_at hac aC_len hx
      injection e1 with e1 _ e3
      subst e1
      have hfw := haw a (List.mem_of_getElem? hx)
      have hrbF := hHbF _ (hHbH _ hrb)
      obtain ⟨la, lc, oa, oc, ia, ic, M, rfl, _⟩ := hR'.look
      have hgF := hGF _ (.head _)
      have hql := hI.A.perm.length_eq
      have hIl : t.I.length = s.I.length := by rw [hI.A.I]
      have hlo : t.lost = s.lost := hI.A.lost
      have h15 : ∀ K2 : Value → Heap → Prop, K2 (.tuple ⟨[i64 s.q.length, i64 s.I.length]⟩) F → SCalls Tryd.prog 15 [ptr p] F K2 := fun K2 hk => c15 hDr hk
      have h18 : ∀ K2 : Value → Heap → Prop, K2 (i64 s.lost) F → SCalls Tryd.prog 18 [ptr p] F K2 := fun K2 hk => c18 hDr hk
      have h20 : ∀ K2 : Value → Heap → Prop, (∀ s' t' F', Both p g s' t' Hb F' → ActI (k + 1) s' t' → K2 (.bool true) F') → SCalls Tryd.prog 20 [ptr p, ptr g, .agg ⟨aC a⟩] F K2 := fun K2 hk => c20 hI (by omega) hDb hB hfw.1 hk
      have hnext : ∀ S s' t' F', Both p g s' t' Hb F' → ActI (k + 1) s' t' → S6 (.slice (some ⟨r, o, none⟩) acts.length ac) (ptr p) (ptr g) (i64 (k + 1)) S → R S F' := fun S s' t' F' j1 j2 hS => hR (k + 1, s', t') S F' (by show acts.length - (k + 1) < acts.length - k; omega) (Keep.all ⟨hlt, j1, j2, hS⟩)
      have n1 : (!decide ((s.q.length : Int) = (t.O.length : Int))) = false := by rw [hql]; simp
      have n2 : (!decide ((s.I.length : Int) = (t.I.length : Int))) = false := by rw [hIl]; simp
      have n3 : (!decide ((s.lost : Int) = (t.lost : Int))) = false := by rw [hlo]; simp
      clear hR hac hin haw hB hR' hDr
      obtain ⟨ak, at_, f⟩ := a
      repeat' ((conv => whnf); (first | refine h15 _ ?_ | refine SDraw.held (by kernel_rfl) [_, (r, b)] (.same hgF (.same hrbF .nil)) ?_ | refine Kept.mk (.same hgF (.same hrbF .nil)) ?_ | refine h18 _ ?_ | refine h20 _ (fun s' t' F' j1 j2 => ?_) | refine Look.cells (.tail _ (.head _)) rfl hcc ?_ | refine Branch.f n1 ?_ | refine Branch.f n2 ?_ | refine Branch.f n3 ?_ | refine Branch.f rfl ?_ | exact hnext _ _ _ _ j1 j2 .mk | refine New.mk (fun _ => ?_) | refine Look.at0 ?_ | refine Cell.row ?_ | refine Cell.buf ?_ | refine Cells.row rfl ?_ | refine Put.row rfl ?_ | refine Put.buf rfl ?_ | refine Look.at1 ?_ | refine Look.at2 ?_ | refine Look.at3 ?_ | refine Look.at4 ?_ | refine Look.at5 ?_ | refine Look.at6 ?_ | refine Look.at7 ?_ | refine Look.at8 ?_ | with_reducible refine Val.i64 (by omega) (by omega) ?_ | with_reducible refine Val.u8 (by omega) (by omega) ?_ | with_reducible refine Val.u32 (by omega) (by omega) ?_ | with_reducible refine Val.u64 (by omega) (by omega) ?_ | with_reducible refine Val.u8m ?_ | with_reducible refine Val.u32m ?_ | with_reducible refine Val.u64m ?_ | with_reducible refine Val.shr8 ?_ | with_reducible refine Val.shr16 (by decide) ?_ | with_reducible refine Val.shr24 (by decide) ?_ | with_reducible refine Val.raw ?_ | refine Branch.not ?_ | refine Branch.and ?_ | refine Branch.or ?_ | refine Branch.dt (by assumption) ?_ | refine Branch.df (by assumption) ?_ | refine Branch.dt rfl ?_ | refine Branch.dt (by omega) ?_ | refine Branch.df (by omega) ?_ | refine Branch.t rfl ?_ | refine Branch.f rfl ?_ | refine Branch.t (by assumption) ?_ | refine Branch.f (by assumption) ?_ | refine Branch.d (fun _ => ?_) (fun _ => ?_) | refine Branch.mk (fun _ => ?_) (fun _ => ?_) | refine Need.mk (by first | omega | decide | rfl) ?_ | refine Idx.nat (by omega) ?_ | refine Idx.auto (by first | omega | decide) (by first | omega | decide) ?_ | refine Cell.ro rfl ?_ | refine SDraw.all (by kernel_rfl) ?_ | refine Kept.k0 ?_ | refine Kept.k1 ?_ | refine Kept.k2 ?_ | refine Kept.k3 ?_ | refine Kept.k4 ?_))
    · clear hR
      have hDF : Db F := hDb.mono hHbF
      repeat' ((conv => whnf); (first | refine Branch.df (by omega) ?_ | refine c7 hDF ?_ | exact Keep.all rfl | refine New.mk (fun _ => ?_) | refine Look.at0 ?_ | refine Cell.row ?_ | refine Cell.buf ?_ | refine Cells.row rfl ?_ | refine Put.row rfl ?_ | refine Put.buf rfl ?_ | refine Look.at1 ?_ | refine Look.at2 ?_ | refine Look.at3 ?_ | refine Look.at4 ?_ | refine Look.at5 ?_ | refine Look.at6 ?_ | refine Look.at7 ?_ | refine Look.at8 ?_ | with_reducible refine Val.i64 (by omega) (by omega) ?_ | with_reducible refine Val.u8 (by omega) (by omega) ?_ | with_reducible refine Val.u32 (by omega) (by omega) ?_ | with_reducible refine Val.u64 (by omega) (by omega) ?_ | with_reducible refine Val.u8m ?_ | with_reducible refine Val.u32m ?_ | with_reducible refine Val.u64m ?_ | with_reducible refine Val.shr8 ?_ | with_reducible refine Val.shr16 (by decide) ?_ | with_reducible refine Val.shr24 (by decide) ?_ | with_reducible refine Val.raw ?_ | refine Branch.not ?_ | refine Branch.and ?_ | refine Branch.or ?_ | refine Branch.dt (by assumption) ?_ | refine Branch.df (by assumption) ?_ | refine Branch.dt rfl ?_ | refine Branch.dt (by omega) ?_ | refine Branch.df (by omega) ?_ | refine Branch.t rfl ?_ | refine Branch.f rfl ?_ | refine Branch.t (by assumption) ?_ | refine Branch.f (by assumption) ?_ | refine Branch.d (fun _ => ?_) (fun _ => ?_) | refine Branch.mk (fun _ => ?_) (fun _ => ?_) | refine Need.mk (by first | omega | decide | rfl) ?_ | refine Idx.nat (by omega) ?_ | refine Idx.auto (by first | omega | decide) (by first | omega | decide) ?_ | refine Cell.ro rfl ?_ | refine SDraw.all (by kernel_rfl) ?_ | refine Kept.k0 ?_ | refine Kept.k1 ?_ | refine Kept.k2 ?_ | refine Kept.k3 ?_ | refine Kept.k4 ?_))
  · obtain ⟨e, he0, h8, h19⟩ : ∃ e : Int, e ≠ 0 ∧ (∀ (q c : Nat) (X : Heap) (K2 : Value → Heap → Prop), K2 (.tuple ⟨[.pointer none, .int .i64 e]⟩) ((q, .buf 33 (L.flatMap fC) (c * 3)) :: X) →
        SCalls Tryd.prog 8 [.int .i64 mo, .int .i64 ro, .slice (some ⟨q, 0, none⟩) L.length c] ((q, .buf 33 (L.flatMap fC) (c * 3)) :: X) K2) ∧
        (∀ (X : Heap) (K2 : Value → Heap → Prop), InS fC 3 (.slice fa L.length fc) X L → K2 (.tuple ⟨[.pointer none, .int .i64 e]⟩) X → SCalls Tryd.prog 19 [.int .i64 mo, .int .i64 ro, .slice fa L.length fc] X K2) := by
      by_cases h1 : okN mo ro
      · have h2 : 32 < L.length := by
          rcases Nat.lt_or_ge 32 L.length with h | h
          · exact h
          · exact absurd ⟨h1, h⟩ hok
        exact ⟨2, by decide, fun q c X K2 hk => c8 (L := L) (InS.buf (.head _) rfl fC_len hfl) (.inr ⟨_, _, rfl⟩) (fun h => absurd h1 h) (fun _ _ => hk) (fun _ h => by omega), fun X K2 hi hk => c19 hi (fun h => absurd h1 h) (fun _ _ => hk) (fun _ h => by omega)⟩
      · exact ⟨1, by decide, fun q c X K2 hk => c8 (L := L) (InS.buf (.head _) rfl fC_len hfl) (.inr ⟨_, _, rfl⟩) (fun _ => hk) (fun h => absurd h h1) (fun h => absurd h h1), fun X K2 hi hk => c19 hi (fun _ => hk) (fun h => absurd h h1) (fun h => absurd h h1)⟩
    have hee : (!decide (e = e)) = false := by simp
    repeat' ((conv => whnf); (first | refine SDraw.held (by kernel_rfl) [_] (.same (.head _) .nil) ?_ | refine RawV.copyS (bytes := 12) (hin.mono fun z hz => .tail _ hz) rfl (by kernel_rfl) (by decide) fC_len fC_one (by omega) (fun q c k1 k2 => ?_) | refine h8 _ _ _ _ ?_ | refine Kept.mk (.same (.tail _ (.head _)) .nil) ?_ | refine h19 _ _ (hin.mono fun z hz => .tail _ (.tail _ hz)) ?_ | refine Branch.f hee ?_ | refine Branch.f rfl ?_ | refine Branch.t rfl ?_ | refine c7 (hk0 _ fun z hz => .tail _ (.tail _ hz)) ?_ | exact Keep.all rfl | refine New.mk (fun _ => ?_) | refine Look.at0 ?_ | refine Cell.row ?_ | refine Cell.buf ?_ | refine Cells.row rfl ?_ | refine Put.row rfl ?_ | refine Put.buf rfl ?_ | refine Look.at1 ?_ | refine Look.at2 ?_ | refine Look.at3 ?_ | refine Look.at4 ?_ | refine Look.at5 ?_ | refine Look.at6 ?_ | refine Look.at7 ?_ | refine Look.at8 ?_ | with_reducible refine Val.i64 (by omega) (by omega) ?_ | with_reducible refine Val.u8 (by omega) (by omega) ?_ | with_reducible refine Val.u32 (by omega) (by omega) ?_ | with_reducible refine Val.u64 (by omega) (by omega) ?_ | with_reducible refine Val.u8m ?_ | with_reducible refine Val.u32m ?_ | with_reducible refine Val.u64m ?_ | with_reducible refine Val.shr8 ?_ | with_reducible refine Val.shr16 (by decide) ?_ | with_reducible refine Val.shr24 (by decide) ?_ | with_reducible refine Val.raw ?_ | refine Branch.not ?_ | refine Branch.and ?_ | refine Branch.or ?_ | refine Branch.dt (by assumption) ?_ | refine Branch.df (by assumption) ?_ | refine Branch.dt rfl ?_ | refine Branch.dt (by omega) ?_ | refine Branch.df (by omega) ?_ | refine Branch.t rfl ?_ | refine Branch.f rfl ?_ | refine Branch.t (by assumption) ?_ | refine Branch.f (by assumption) ?_ | refine Branch.d (fun _ => ?_) (fun _ => ?_) | refine Branch.mk (fun _ => ?_) (fun _ => ?_) | refine Need.mk (by first | omega | decide | rfl) ?_ | refine Idx.nat (by omega) ?_ | refine Idx.auto (by first | omega | decide) (by first | omega | decide) ?_ | refine Cell.ro rfl ?_ | refine SDraw.all (by kernel_rfl) ?_ | refine Kept.k0 ?_ | refine Kept.k1 ?_ | refine Kept.k2 ?_ | refine Kept.k3 ?_ | refine Kept.k4 ?_))
end
theorem DriverActsW (a0x0 : Int) (a0x1 : Int) (a0x2a : Option Addr) (a0x2l : Nat) (a0x2c : Nat) (a1a : Option Addr) (a1l : Nat) (a1c : Nat) (w : World) (h0_0 : (Lit.int .i64 a0x0).wf = true) (h0_1 : (Lit.int .i64 a0x1).wf = true) (h0_2 : SliceAt 3 B33 R33 w a0x2a a0x2l a0x2c) (h1_0 : SliceAt 14 B49 R49 w a1a a1l a1c) (hL : laidMet Tryd.prog Rows.driverActsRow.laid w) :
    Calls Tryd.prog 6 #[.agg #[.int .i64 a0x0, .int .i64 a0x1, .slice a0x2a a0x2l a0x2c], .slice a1a a1l a1c] w fun e w' => e = .returned (.bool true) ∧ Go.RowKit.Below w.heap.size w w' := by
  obtain ⟨hD, hw, hx⟩ := db_of hL
  obtain ⟨H, L, rfl, hin, hwf, hw2, x2, hb⟩ := filters_of h0_2
  obtain ⟨G, acts, rfl, hac, haw, hw3, x3, hb3⟩ := acts_of h1_0
  have hj := Holds.join (Holds.join hw hw2 hx x2) hw3 (excl_join hx x2) x3
  exact (acts_c (mo := a0x0) (ro := a0x1) (hD.mono fun p hp => List.mem_append_left _ (List.mem_append_left _ hp)) (hin.mono fun p hp => List.mem_append_left _ (List.mem_append_right _ hp)) hwf hb (hac.mono fun p hp => List.mem_append_right _ hp) haw hb3).fin w hj (excl_join (excl_join hx x2) x3)
end Go.Proofs.YthgpikgbhkcnbaaDoor

