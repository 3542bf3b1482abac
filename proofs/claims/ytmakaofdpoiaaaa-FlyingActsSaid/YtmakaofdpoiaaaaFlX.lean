/- Layer 24: the document's new net: those that begin; New. -/
import Derived.Test.YtmakaofdpoiaaaaFlW
set_option linter.unusedVariables false
set_option linter.unusedSimpArgs false
set_option maxRecDepth 100000
set_option maxHeartbeats 40000000
namespace Go.Proofs.Ytmakaofdpoiaaaa
open Sx
theorem SCalls.front {P : Program} {f : FuncId} {args : List Value} {H : Heap} {K : Value → Heap → Prop} (R : Heap) (h : SCalls P f args H fun v H' => K v (H' ++ R)) : SCalls P f args (H ++ R) K :=
  (h.frame (R := R)).mono fun v H' ⟨H1, e, hk⟩ => by subst e; exact hk
def m0 (x : Mas) : M := ⟨x.node, x.prio, x.on, 0, 0, 0, 0⟩
def ini (slot : Int) (m : M) : M := if m.on then begM slot m else m
section
variable {K : Value → Heap → Prop} {d r1 r2 r3 r4 n c N : Nat} {slot lost : Int} {L : List Mas} {l l' : List M} {Q : Post}
theorem ini_map (L : List Mas) : (L.map m0).map (ini slot) = L.map (mkM slot) := by
  rw [List.map_map]
  refine List.map_congr_left fun x _ => ?_
  obtain ⟨a, b, o⟩ := x
  cases o <;> rfl
theorem ini_yes {x : Mas} (h : x.on = true) : ini slot (m0 x) = begM slot (m0 x) := if_pos h
theorem ini_no {x : Mas} (h : x.on = false) : ini slot (m0 x) = m0 x := if_neg (by show ¬ x.on = true; rw [h]; exact Bool.false_ne_true)
theorem m0_mas (L : List Mas) : (L.map m0).map masOf = L := by
  rw [List.map_map]
  exact List.map_id'' (fun x => rfl) L
def I21c (sv : Value) (d r1 r2 r3 r4 n c N : Nat) (slot lost : Int) (L : List Mas) (l : List M) (H0 : Heap) (S : List Value) (H : Heap) : Prop :=
  ∃ j : Nat, j ≤ n ∧ S21c sv (.pointer (some ⟨d, 0, none⟩)) (.int .i64 (j : Int)) S ∧ H = rh d r1 r2 r3 r4 n c N slot lost L ((updTo (ini slot) j l).map M.is) ((updTo (ini slot) j l).map tOf) ((updTo (ini slot) j l).map M.of_) ++ H0
theorem l21c {sv : Value} {H : Heap} (hin : InL sv H L) (hlen : L.length ≤ 8) (hb : ∀ x ∈ L, ¬ Bad x) (S : List Value) (hS : S21c sv (.pointer (some ⟨d, 0, none⟩)) (.int .i64 0) S)
    (hQ : ∀ S v, S21c sv (.pointer (some ⟨d, 0, none⟩)) v S → Q (.exit 4) S (rM d r1 r2 r3 r4 L.length c N slot lost L (L.map (mkM slot)) ++ H)) :
    SLoop Try.prog X21_l0 Q S ([(d, .row 76 [.slice (some ⟨r1, 0, none⟩) L.length c, .slice (some ⟨r2, 0, none⟩) L.length L.length, .slice (some ⟨r3, 0, none⟩) L.length L.length, .slice (some ⟨r4, 0, none⟩) L.length L.length, .int .u64 slot, .int .u64 lost] (0, 0)),
      (r1, .buf 30 (L.flatMap Mas.cells) N), (r2, .buf 3 (List.replicate L.length (.int .i64 0)) L.length), (r3, .buf 23 (List.replicate L.length (.int .u64 0)) L.length), (r4, .buf 3 (List.replicate L.length (.int .i64 0)) L.length)] ++ H) := by
  obtain ⟨a, c', rfl, _, hs⟩ := hin
  have e1 : ∀ (k : IntKind) (p : M → Int), (∀ x : Mas, p (m0 x) = 0) → ((L.map m0).map p).map (Value.int k) = List.replicate L.length (.int k 0) := by
    intro k p hp
    rw [List.map_map, List.map_map]
    refine List.eq_replicate_iff.2 ⟨by simp, fun v hv => ?_⟩
    obtain ⟨x, _, rfl⟩ := List.mem_map.1 hv
    show Value.int k (p (m0 x)) = _
    rw [hp]
  have e0 : [(d, .row 76 [.slice (some ⟨r1, 0, none⟩) L.length c, .slice (some ⟨r2, 0, none⟩) L.length L.length, .slice (some ⟨r3, 0, none⟩) L.length L.length, .slice (some ⟨r4, 0, none⟩) L.length L.length, .int .u64 slot, .int .u64 lost] (0, 0)),
      (r1, .buf 30 (L.flatMap Mas.cells) N), (r2, .buf 3 (List.replicate L.length (.int .i64 0)) L.length), (r3, .buf 23 (List.replicate L.length (.int .u64 0)) L.length), (r4, .buf 3 (List.replicate L.length (.int .i64 0)) L.length)] = rh d r1 r2 r3 r4 L.length c N slot lost L ((L.map m0).map M.is) ((L.map m0).map tOf) ((L.map m0).map M.of_) := by
    unfold rh
    rw [e1 .i64 M.is (fun x => rfl), e1 .u64 tOf (fun x => rfl), e1 .i64 M.of_ (fun x => rfl)]
  rw [e0]
  clear e0 e1
  refine SLoop.inv (I21c _ d r1 r2 r3 r4 L.length c N slot lost L (L.map m0) H) (MM 11 L.length) (Keep.all ⟨0, by omega, hS, by rw [updTo_zero]⟩) ?_
  clear hS S
  rintro S H1 ⟨j, hj, hS, rfl⟩ R hR
  cases hS
  by_cases hlt : j < L.length
  · obtain ⟨b, o, f, rfl, rfl, hc⟩ := hs (by omega)
    obtain ⟨x, hLx⟩ : ∃ x, L[j]? = some x := ⟨_, List.getElem?_eq_getElem hlt⟩
    have f2 : f (o + j * 3 + 2) = some (.bool x.on) := hc j x hLx 2 _ rfl
    have hx : (L.map m0)[j]? = some (m0 x) := by rw [List.getElem?_map, hLx]; rfl
    have fin : ∀ (S : List Value) (is ts os : List Int), is = (updTo (ini slot) (j + 1) (L.map m0)).map M.is → ts = (updTo (ini slot) (j + 1) (L.map m0)).map tOf → os = (updTo (ini slot) (j + 1) (L.map m0)).map M.of_ → S21c (.slice (some ⟨b, o, none⟩) L.length c') (.pointer (some ⟨d, 0, none⟩)) (.int .i64 ((j + 1 : Nat) : Int)) S → atN S 11 = j + 1 → R S (rh d r1 r2 r3 r4 L.length c N slot lost L is ts os ++ [(b, .ro f)]) := by
      rintro S is ts os rfl rfl rfl e2 e3
      refine hR _ _ (Keep.all ⟨⟨j + 1, by omega, e2, rfl⟩, ?_⟩)
      unfold MM
      rw [e3]
      show L.length - (j + 1) < L.length - Int.toNat (j : Int)
      omega
    have hul : (updTo (ini slot) j (L.map m0)).length = L.length := by rw [updTo_length, List.length_map]
    have hIl : ((updTo (ini slot) j (L.map m0)).map M.is).length = L.length := by rw [List.length_map, hul]
    have hTl : ((updTo (ini slot) j (L.map m0)).map tOf).length = L.length := by rw [List.length_map, hul]
    have hOl : ((updTo (ini slot) j (L.map m0)).map M.of_).length = L.length := by rw [List.length_map, hul]
    have hbx := hb _ (List.mem_of_getElem? hLx)
    unfold rh at fin ⊢
    repeat' ((conv => whnf); (first
        | refine Cell.ro f2 ?_
        | refine SCalls.front [(b, .ro f)] (c38 rfl hIl hTl hOl hLx hbx hlen ?_)
        | refine New.mk (fun _ => ?_)
        | refine Look.at0 ?_
        | refine Cell.row ?_
        | refine Cell.buf ?_
        | refine Cells.row rfl ?_
        | refine Put.row rfl ?_
        | refine Put.buf rfl ?_
        | refine Look.at1 ?_
        | refine Look.at2 ?_
        | refine Look.at3 ?_
        | refine Look.at4 ?_
        | refine Look.at5 ?_
        | refine Look.at6 ?_
        | refine Look.at7 ?_
        | refine Look.at8 ?_
        | with_reducible refine Val.i64 (by omega) (by omega) ?_
        | with_reducible refine Val.u8 (by omega) (by omega) ?_
        | with_reducible refine Val.u32 (by omega) (by omega) ?_
        | with_reducible refine Val.u64 (by omega) (by omega) ?_
        | with_reducible refine Val.u8m ?_
        | with_reducible refine Val.u32m ?_
        | with_reducible refine Val.u64m ?_
        | with_reducible refine Val.shr8 ?_
        | with_reducible refine Val.shr16 (by decide) ?_
        | with_reducible refine Val.shr24 (by decide) ?_
        | with_reducible refine Val.raw ?_
        | refine Branch.not ?_
        | refine Branch.and ?_
        | refine Branch.or ?_
        | refine Branch.dt (by assumption) ?_
        | refine Branch.df (by assumption) ?_
        | refine Branch.dt rfl ?_
        | refine Branch.dt (by omega) ?_
        | refine Branch.df (by omega) ?_
        | refine Branch.t rfl ?_
        | refine Branch.f rfl ?_
        | refine Branch.t (by assumption) ?_
        | refine Branch.f (by assumption) ?_
        | refine Branch.d (fun _ => ?_) (fun _ => ?_)
        | refine Branch.mk (fun _ => ?_) (fun _ => ?_)
        | refine Need.mk (by first | omega | decide | rfl) ?_
        | refine Idx.nat (by omega) ?_
        | refine Idx.auto (by first | omega | decide) (by first | omega | decide) ?_
        | refine Cell.ro rfl ?_
        | refine SDraw.all (by kernel_rfl) ?_
        | refine Kept.k0 ?_
        | refine Kept.k1 ?_
        | refine Kept.k2 ?_
        | refine Kept.k3 ?_
        | refine Kept.k4 ?_))
    all_goals (conv => whnf)
    · have e := ini_yes (slot := slot) ‹x.on = true›
      exact fin _ _ _ _ (upI hx (by rw [e]; rfl)) (upI hx (by rw [e]; rfl)) (upI hx (by rw [e]; rfl)) .mk rfl
    · have e := ini_no (slot := slot) ‹x.on = false›
      exact fin _ _ _ _ (sameI hx (by rw [e])) (sameI hx (by rw [e])) (sameI hx (by rw [e])) .mk rfl
  · have e : j = L.length := by omega
    subst e
    rw [updTo_all (by rw [List.length_map]; omega), ini_map]
    repeat' ((conv => whnf); (first
        | refine New.mk (fun _ => ?_)
        | refine Look.at0 ?_
        | refine Cell.row ?_
        | refine Cell.buf ?_
        | refine Cells.row rfl ?_
        | refine Put.row rfl ?_
        | refine Put.buf rfl ?_
        | refine Look.at1 ?_
        | refine Look.at2 ?_
        | refine Look.at3 ?_
        | refine Look.at4 ?_
        | refine Look.at5 ?_
        | refine Look.at6 ?_
        | refine Look.at7 ?_
        | refine Look.at8 ?_
        | with_reducible refine Val.i64 (by omega) (by omega) ?_
        | with_reducible refine Val.u8 (by omega) (by omega) ?_
        | with_reducible refine Val.u32 (by omega) (by omega) ?_
        | with_reducible refine Val.u64 (by omega) (by omega) ?_
        | with_reducible refine Val.u8m ?_
        | with_reducible refine Val.u32m ?_
        | with_reducible refine Val.u64m ?_
        | with_reducible refine Val.shr8 ?_
        | with_reducible refine Val.shr16 (by decide) ?_
        | with_reducible refine Val.shr24 (by decide) ?_
        | with_reducible refine Val.raw ?_
        | refine Branch.not ?_
        | refine Branch.and ?_
        | refine Branch.or ?_
        | refine Branch.dt (by assumption) ?_
        | refine Branch.df (by assumption) ?_
        | refine Branch.dt rfl ?_
        | refine Branch.dt (by omega) ?_
        | refine Branch.df (by omega) ?_
        | refine Branch.t rfl ?_
        | refine Branch.f rfl ?_
        | refine Branch.t (by assumption) ?_
        | refine Branch.f (by assumption) ?_
        | refine Branch.d (fun _ => ?_) (fun _ => ?_)
        | refine Branch.mk (fun _ => ?_) (fun _ => ?_)
        | refine Need.mk (by first | omega | decide | rfl) ?_
        | refine Idx.nat (by omega) ?_
        | refine Idx.auto (by first | omega | decide) (by first | omega | decide) ?_
        | refine Cell.ro rfl ?_
        | refine SDraw.all (by kernel_rfl) ?_
        | refine Kept.k0 ?_
        | refine Kept.k1 ?_
        | refine Kept.k2 ?_
        | refine Kept.k3 ?_
        | refine Kept.k4 ?_))
    all_goals (conv => whnf)
    exact hQ _ _ .mk
end
end Go.Proofs.Ytmakaofdpoiaaaa
