/- Layer 25: the document's Play: what is queued by a time, and which comes first: by walks. -/
import Derived.Test.YtjleekdidedhaaaDoorBMain2

set_option linter.unusedVariables false
set_option linter.unusedSimpArgs false
set_option maxRecDepth 100000
set_option maxHeartbeats 4000000
namespace Go.Proofs.YtjleekdidedhaaaDoor
open Sx
section
variable {H : Heap} {L : List Msg} {ss : List Sr}
theorem set_map {α β : Type} (f : α → β) (l : List α) (i : Nat) (x : α) : (l.map f).set i (f x) = (l.set i x).map f := by
  rw [List.map_set]
def I18m (sv vo fv va vb : Value) (un now : Nat) (ss : List Sr) (out : List Nat) (ra rb ro n nb : Nat) (Qs : List Wn) (H : Heap) (i : Nat) (S : List Value) (H' : Heap) : Prop :=
  i ≤ ss.length ∧ ∃ (qa : Option Addr) (qc : Nat) (M : Heap) (nx : Nat × Bool), nx = nxt un ((ss.take i).map (drS un now)) ∧ Grow qC 2 80 (.slice qa (Qs ++ wants un now 0 (ss.take i)).length qc) (Qs ++ wants un now 0 (ss.take i)) M ∧
    S18a sv (.int .u64 (un : Int)) va vb vo (.slice qa (Qs ++ wants un now 0 (ss.take i)).length qc) (.int .u64 (now : Int)) fv (.int .u64 (nx.1 : Int)) (.bool nx.2) (.int .i64 (i : Int)) S ∧
      H' = aB ra ((updTo (drS un now) i ss).map Sr.a) n :: aB rb ((updTo (drS un now) i ss).map Sr.q) nb :: aB ro out n :: (M ++ H)
theorem l18m {Q : Post} {S0 : List Value} {sa : Option Addr} {sc : Nat} {vo fv : Value} {un now n nb ra rb ro qc : Nat} {qa : Option Addr} {out : List Nat} {Qs : List Wn} {M0 : Heap}
    (hin : InS mC 5 (.slice sa L.length sc) H L) (hok : ∀ s ∈ ss, SrOk un s) (hms : ss.map Sr.m = L) (hcap : (Qs ++ wants un now 0 ss).length ≤ 67108864) (hG : Grow qC 2 80 (.slice qa Qs.length qc) Qs M0) (hun : un ≤ 1048576)
    (hS : S18a (.slice sa L.length sc) (.int .u64 (un : Int)) (.slice (some ⟨ra, 0, none⟩) L.length n) (.slice (some ⟨rb, 0, none⟩) L.length nb) vo (.slice qa Qs.length qc) (.int .u64 (now : Int)) fv (.int .u64 0) (.bool false) (.int .i64 0) S0)
    (hQ : ∀ qa qc M S nx, nxt un (ss.map (drS un now)) = nx → Grow qC 2 80 (.slice qa (Qs ++ wants un now 0 ss).length qc) (Qs ++ wants un now 0 ss) M →
      S18a (.slice sa L.length sc) (.int .u64 (un : Int)) (.slice (some ⟨ra, 0, none⟩) L.length n) (.slice (some ⟨rb, 0, none⟩) L.length nb) vo (.slice qa (Qs ++ wants un now 0 ss).length qc) (.int .u64 (now : Int)) fv (.int .u64 (nx.1 : Int)) (.bool nx.2) (.int .i64 (L.length : Int)) S →
      Q (.exit 2) S (aB ra ((ss.map (drS un now)).map Sr.a) n :: aB rb ((ss.map (drS un now)).map Sr.q) nb :: aB ro out n :: (M ++ H))) :
    SLoop Tryd.prog X18_l2 Q S0 (aB ra (ss.map Sr.a) n :: aB rb (ss.map Sr.q) nb :: aB ro out n :: (M0 ++ H)) := by
  have hsl : ss.length = L.length := by rw [← hms, List.length_map]
  refine SLoop.invA (I18m (.slice sa L.length sc) vo fv (.slice (some ⟨ra, 0, none⟩) L.length n) (.slice (some ⟨rb, 0, none⟩) L.length nb) un now ss out ra rb ro n nb Qs H) (fun i => ss.length - i) 0 (Keep.all ⟨Nat.zero_le _, qa, qc, M0, (0, false), rfl, by simpa [wants] using hG, by simpa [wants] using hS, by rw [updTo_zero]⟩) ?_
  clear hG hS
  rintro i S H' ⟨hk, qa, qc, M, nx, hnx, hG, hS, rfl⟩ R hR
  cases hS
  by_cases hlt : i < ss.length
  · obtain ⟨s, hx, hdrop, htake⟩ := list_at hlt
    have hso := hok s (List.mem_of_getElem? hx)
    have hLm : L[i]? = some s.m := by rw [← hms, List.getElem?_map, hx]; rfl
    have hux := updTo_nth (f := drS un now) (j := i) hx
    have hset := updTo_set (f := drS un now) (j := i) hx
    have ha0 : ((updTo (drS un now) i ss).map Sr.a)[i]? = some s.a := by rw [List.getElem?_map, hux]; rfl
    have hq0 : ((updTo (drS un now) i ss).map Sr.q)[i]? = some s.q := by rw [List.getElem?_map, hux]; rfl
    have hul : ∀ {β : Type} (f : Sr → β), ((updTo (drS un now) i ss).map f).length = L.length := fun f => by rw [List.length_map, updTo_length, hsl]
    have hw1 : wants un now 0 (ss.take (i + 1)) = wants un now 0 (ss.take i) ++ nW i s.m (dr un now s).1 := by
      have hl : 0 + (ss.take i).length = i := by simp; omega
      rw [htake, wants_snoc, hl]
    have hcap2 : (Qs ++ wants un now 0 (ss.take i) ++ nW i s.m (dr un now s).1).length ≤ 67108864 := by
      rw [List.append_assoc, ← hw1]
      refine Nat.le_trans ?_ hcap
      rw [List.length_append, List.length_append]
      have : wants un now 0 ss = wants un now 0 (ss.take (i + 1)) ++ wants un now (0 + (ss.take (i + 1)).length) (ss.drop (i + 1)) := by
        rw [← wants_app, List.take_append_drop]
      rw [this, List.length_append]; omega
    have hseta : ((updTo (drS un now) i ss).map Sr.a).set i (dr un now s).2.1 = (updTo (drS un now) (i + 1) ss).map Sr.a := by
      rw [← hset]
      exact set_map Sr.a _ i (drS un now s)
    have hsetq : ((updTo (drS un now) i ss).map Sr.q).set i (dr un now s).2.2 = (updTo (drS un now) (i + 1) ss).map Sr.q := by
      rw [← hset]
      exact set_map Sr.q _ i (drS un now s)
    have hvq : ((updTo (drS un now) (i + 1) ss).map Sr.q)[i]? = some (dr un now s).2.2 := by
      rw [← hsetq, List.getElem?_set_self (by rw [hul]; omega)]
    have hnx1 : nxt un ((ss.take (i + 1)).map (drS un now)) = nxtK un nx (drS un now s) := by
      rw [htake, List.map_append, hnx]
      show (_ ++ [drS un now s]).foldl (nxtK un) (0, false) = _
      rw [List.foldl_append]; rfl
    have hnext : ∀ qa qc M S nx', nx' = nxtK un nx (drS un now s) → Grow qC 2 80 (.slice qa (Qs ++ wants un now 0 (ss.take i) ++ nW i s.m (dr un now s).1).length qc) (Qs ++ wants un now 0 (ss.take i) ++ nW i s.m (dr un now s).1) M →
        S18a (.slice sa L.length sc) (.int .u64 (un : Int)) (.slice (some ⟨ra, 0, none⟩) L.length n) (.slice (some ⟨rb, 0, none⟩) L.length nb) vo (.slice qa (Qs ++ wants un now 0 (ss.take i) ++ nW i s.m (dr un now s).1).length qc) (.int .u64 (now : Int)) fv (.int .u64 (nx'.1 : Int)) (.bool nx'.2) (.int .i64 ((i + 1 : Nat) : Int)) S →
        R S (aB ra ((updTo (drS un now) (i + 1) ss).map Sr.a) n :: aB rb ((updTo (drS un now) (i + 1) ss).map Sr.q) nb :: aB ro out n :: (M ++ H)) := by
      intro qa qc M S nx' e g1 g2
      rw [List.append_assoc, ← hw1] at g1 g2
      exact hR (i + 1) S _ (by omega) (Keep.all ⟨hlt, qa, qc, M, nx', by rw [e, hnx1], g1, g2, rfl⟩)
    have hla : ∀ (Q2 : Post) (S0 : List Value), S18a (.slice sa L.length sc) (.int .u64 (un : Int)) (.slice (some ⟨ra, 0, none⟩) L.length n) (.slice (some ⟨rb, 0, none⟩) L.length nb) vo (.slice qa (Qs ++ wants un now 0 (ss.take i)).length qc) (.int .u64 (now : Int)) fv (.int .u64 (nx.1 : Int)) (.bool nx.2) (.int .i64 (i : Int)) S0 →
        (∀ qa qc M S, Grow qC 2 80 (.slice qa (Qs ++ wants un now 0 (ss.take i) ++ nW i s.m (dr un now s).1).length qc) (Qs ++ wants un now 0 (ss.take i) ++ nW i s.m (dr un now s).1) M → S18a (.slice sa L.length sc) (.int .u64 (un : Int)) (.slice (some ⟨ra, 0, none⟩) L.length n) (.slice (some ⟨rb, 0, none⟩) L.length nb) vo (.slice qa (Qs ++ wants un now 0 (ss.take i) ++ nW i s.m (dr un now s).1).length qc) (.int .u64 (now : Int)) fv (.int .u64 (nx.1 : Int)) (.bool nx.2) (.int .i64 (i : Int)) S →
          Q2 (.exit 4) S (aB ra ((updTo (drS un now) (i + 1) ss).map Sr.a) n :: aB rb ((updTo (drS un now) (i + 1) ss).map Sr.q) nb :: aB ro out n :: (M ++ H))) →
        SLoop Tryd.prog X18_l1 Q2 S0 (aB ra ((updTo (drS un now) i ss).map Sr.a) n :: aB rb ((updTo (drS un now) i ss).map Sr.q) nb :: aB ro out n :: (M ++ H)) := by
      intro Q2 S0 hS hk
      refine l18a (m := s.m) hin hLm hso.good ha0 hq0 (hul _) (hul _) hso.aq hso.qa hso.qb rfl hcap2 hG hun hS (fun qa qc M S g1 g2 => ?_)
      have := hk qa qc M S g1 g2
      rw [← hseta, ← hsetq] at this
      exact this
    clear hR hQ hG
    obtain ⟨least, any⟩ := nx
    dsimp only at hnext hla
    have hiL : i < L.length := by omega
    obtain ⟨_, _, _, hmaxL⟩ := hin.sv
    simp only [maxLen] at hmaxL
    by_cases hc : (dr un now s).2.2 < un ∧ (any = false ∨ (dr un now s).2.2 < least)
    · have hn1 := fun qa qc M S => hnext qa qc M S ((dr un now s).2.2, true) (by unfold nxtK; rw [if_pos hc])
      clear hnext
      dsimp only at hn1
      generalize (dr un now s).2.2 = q1 at *
      obtain ⟨hc1, hc2⟩ := hc
      cases any with
      | false =>
        repeat' ((conv => whnf); (first | refine Branch.dt (by omega) ?_ | (refine hla _ _ .mk (fun qa2 qc2 M2 S2 g1 g2 => ?_); cases g2) | refine Cell.nth hvq ?_ | refine Branch.t rfl ?_ | refine Idx.nat hiL ?_ | exact hn1 _ _ _ _ g1 .mk | refine New.mk (fun _ => ?_) | refine Look.at0 ?_ | refine Cell.row ?_ | refine Cell.buf ?_ | refine Cells.row rfl ?_ | refine Put.row rfl ?_ | refine Put.buf rfl ?_ | refine Look.at1 ?_ | refine Look.at2 ?_ | refine Look.at3 ?_ | refine Look.at4 ?_ | refine Look.at5 ?_ | refine Look.at6 ?_ | refine Look.at7 ?_ | refine Look.at8 ?_ | with_reducible refine Val.i64 (by omega) (by omega) ?_ | with_reducible refine Val.u8 (by omega) (by omega) ?_ | with_reducible refine Val.u32 (by omega) (by omega) ?_ | with_reducible refine Val.u64 (by omega) (by omega) ?_ | with_reducible refine Val.u8m ?_ | with_reducible refine Val.u32m ?_ | with_reducible refine Val.u64m ?_ | with_reducible refine Val.shr8 ?_ | with_reducible refine Val.shr16 (by decide) ?_ | with_reducible refine Val.shr24 (by decide) ?_ | with_reducible refine Val.raw ?_ | refine Branch.not ?_ | refine Branch.and ?_ | refine Branch.or ?_ | refine Branch.dt (by assumption) ?_ | refine Branch.df (by assumption) ?_ | refine Branch.dt rfl ?_ | refine Branch.dt (by omega) ?_ | refine Branch.df (by omega) ?_ | refine Branch.t rfl ?_ | refine Branch.f rfl ?_ | refine Branch.t (by assumption) ?_ | refine Branch.f (by assumption) ?_ | refine Branch.d (fun _ => ?_) (fun _ => ?_) | refine Branch.mk (fun _ => ?_) (fun _ => ?_) | refine Need.mk (by first | omega | decide | rfl) ?_ | refine Idx.nat (by omega) ?_ | refine Idx.auto (by first | omega | decide) (by first | omega | decide) ?_ | refine Cell.ro rfl ?_ | refine SDraw.all (by kernel_rfl) ?_ | refine Kept.k0 ?_ | refine Kept.k1 ?_ | refine Kept.k2 ?_ | refine Kept.k3 ?_ | refine Kept.k4 ?_))
      | true =>
        have hc3 : q1 < least := hc2.resolve_left (by decide)
        repeat' ((conv => whnf); (first | refine Branch.dt (by omega) ?_ | (refine hla _ _ .mk (fun qa2 qc2 M2 S2 g1 g2 => ?_); cases g2) | refine Cell.nth hvq ?_ | refine Branch.t rfl ?_ | refine Branch.f rfl ?_ | refine Idx.nat hiL ?_ | exact hn1 _ _ _ _ g1 .mk | refine New.mk (fun _ => ?_) | refine Look.at0 ?_ | refine Cell.row ?_ | refine Cell.buf ?_ | refine Cells.row rfl ?_ | refine Put.row rfl ?_ | refine Put.buf rfl ?_ | refine Look.at1 ?_ | refine Look.at2 ?_ | refine Look.at3 ?_ | refine Look.at4 ?_ | refine Look.at5 ?_ | refine Look.at6 ?_ | refine Look.at7 ?_ | refine Look.at8 ?_ | with_reducible refine Val.i64 (by omega) (by omega) ?_ | with_reducible refine Val.u8 (by omega) (by omega) ?_ | with_reducible refine Val.u32 (by omega) (by omega) ?_ | with_reducible refine Val.u64 (by omega) (by omega) ?_ | with_reducible refine Val.u8m ?_ | with_reducible refine Val.u32m ?_ | with_reducible refine Val.u64m ?_ | with_reducible refine Val.shr8 ?_ | with_reducible refine Val.shr16 (by decide) ?_ | with_reducible refine Val.shr24 (by decide) ?_ | with_reducible refine Val.raw ?_ | refine Branch.not ?_ | refine Branch.and ?_ | refine Branch.or ?_ | refine Branch.dt (by assumption) ?_ | refine Branch.df (by assumption) ?_ | refine Branch.dt rfl ?_ | refine Branch.dt (by omega) ?_ | refine Branch.df (by omega) ?_ | refine Branch.t rfl ?_ | refine Branch.f rfl ?_ | refine Branch.t (by assumption) ?_ | refine Branch.f (by assumption) ?_ | refine Branch.d (fun _ => ?_) (fun _ => ?_) | refine Branch.mk (fun _ => ?_) (fun _ => ?_) | refine Need.mk (by first | omega | decide | rfl) ?_ | refine Idx.nat (by omega) ?_ | refine Idx.auto (by first | omega | decide) (by first | omega | decide) ?_ | refine Cell.ro rfl ?_ | refine SDraw.all (by kernel_rfl) ?_ | refine Kept.k0 ?_ | refine Kept.k1 ?_ | refine Kept.k2 ?_ | refine Kept.k3 ?_ | refine Kept.k4 ?_))
    · have hn1 := fun qa qc M S => hnext qa qc M S (least, any) (by unfold nxtK; rw [if_neg hc])
      clear hnext
      dsimp only at hn1
      generalize (dr un now s).2.2 = q1 at *
      by_cases hc1 : q1 < un
      · cases any with
        | false => exact absurd ⟨hc1, .inl rfl⟩ hc
        | true =>
          have hc3 : ¬ q1 < least := fun h => hc ⟨hc1, .inr h⟩
          repeat' ((conv => whnf); (first | refine Branch.dt (by omega) ?_ | refine Branch.df (by omega) ?_ | (refine hla _ _ .mk (fun qa2 qc2 M2 S2 g1 g2 => ?_); cases g2) | refine Cell.nth hvq ?_ | refine Branch.t rfl ?_ | refine Branch.f rfl ?_ | refine Idx.nat hiL ?_ | exact hn1 _ _ _ _ g1 .mk | refine New.mk (fun _ => ?_) | refine Look.at0 ?_ | refine Cell.row ?_ | refine Cell.buf ?_ | refine Cells.row rfl ?_ | refine Put.row rfl ?_ | refine Put.buf rfl ?_ | refine Look.at1 ?_ | refine Look.at2 ?_ | refine Look.at3 ?_ | refine Look.at4 ?_ | refine Look.at5 ?_ | refine Look.at6 ?_ | refine Look.at7 ?_ | refine Look.at8 ?_ | with_reducible refine Val.i64 (by omega) (by omega) ?_ | with_reducible refine Val.u8 (by omega) (by omega) ?_ | with_reducible refine Val.u32 (by omega) (by omega) ?_ | with_reducible refine Val.u64 (by omega) (by omega) ?_ | with_reducible refine Val.u8m ?_ | with_reducible refine Val.u32m ?_ | with_reducible refine Val.u64m ?_ | with_reducible refine Val.shr8 ?_ | with_reducible refine Val.shr16 (by decide) ?_ | with_reducible refine Val.shr24 (by decide) ?_ | with_reducible refine Val.raw ?_ | refine Branch.not ?_ | refine Branch.and ?_ | refine Branch.or ?_ | refine Branch.dt (by assumption) ?_ | refine Branch.df (by assumption) ?_ | refine Branch.dt rfl ?_ | refine Branch.dt (by omega) ?_ | refine Branch.df (by omega) ?_ | refine Branch.t rfl ?_ | refine Branch.f rfl ?_ | refine Branch.t (by assumption) ?_ | refine Branch.f (by assumption) ?_ | refine Branch.d (fun _ => ?_) (fun _ => ?_) | refine Branch.mk (fun _ => ?_) (fun _ => ?_) | refine Need.mk (by first | omega | decide | rfl) ?_ | refine Idx.nat (by omega) ?_ | refine Idx.auto (by first | omega | decide) (by first | omega | decide) ?_ | refine Cell.ro rfl ?_ | refine SDraw.all (by kernel_rfl) ?_ | refine Kept.k0 ?_ | refine Kept.k1 ?_ | refine Kept.k2 ?_ | refine Kept.k3 ?_ | refine Kept.k4 ?_))
      · repeat' ((conv => whnf); (first | refine Branch.dt (by omega) ?_ | refine Branch.df (by omega) ?_ | (refine hla _ _ .mk (fun qa2 qc2 M2 S2 g1 g2 => ?_); cases g2) | refine Cell.nth hvq ?_ | refine Branch.t rfl ?_ | refine Branch.f rfl ?_ | refine Idx.nat hiL ?_ | exact hn1 _ _ _ _ g1 .mk | refine New.mk (fun _ => ?_) | refine Look.at0 ?_ | refine Cell.row ?_ | refine Cell.buf ?_ | refine Cells.row rfl ?_ | refine Put.row rfl ?_ | refine Put.buf rfl ?_ | refine Look.at1 ?_ | refine Look.at2 ?_ | refine Look.at3 ?_ | refine Look.at4 ?_ | refine Look.at5 ?_ | refine Look.at6 ?_ | refine Look.at7 ?_ | refine Look.at8 ?_ | with_reducible refine Val.i64 (by omega) (by omega) ?_ | with_reducible refine Val.u8 (by omega) (by omega) ?_ | with_reducible refine Val.u32 (by omega) (by omega) ?_ | with_reducible refine Val.u64 (by omega) (by omega) ?_ | with_reducible refine Val.u8m ?_ | with_reducible refine Val.u32m ?_ | with_reducible refine Val.u64m ?_ | with_reducible refine Val.shr8 ?_ | with_reducible refine Val.shr16 (by decide) ?_ | with_reducible refine Val.shr24 (by decide) ?_ | with_reducible refine Val.raw ?_ | refine Branch.not ?_ | refine Branch.and ?_ | refine Branch.or ?_ | refine Branch.dt (by assumption) ?_ | refine Branch.df (by assumption) ?_ | refine Branch.dt rfl ?_ | refine Branch.dt (by omega) ?_ | refine Branch.df (by omega) ?_ | refine Branch.t rfl ?_ | refine Branch.f rfl ?_ | refine Branch.t (by assumption) ?_ | refine Branch.f (by assumption) ?_ | refine Branch.d (fun _ => ?_) (fun _ => ?_) | refine Branch.mk (fun _ => ?_) (fun _ => ?_) | refine Need.mk (by first | omega | decide | rfl) ?_ | refine Idx.nat (by omega) ?_ | refine Idx.auto (by first | omega | decide) (by first | omega | decide) ?_ | refine Cell.ro rfl ?_ | refine SDraw.all (by kernel_rfl) ?_ | refine Kept.k0 ?_ | refine Kept.k1 ?_ | refine Kept.k2 ?_ | refine Kept.k3 ?_ | refine Kept.k4 ?_))
  · have hil : i = ss.length := by omega
    subst hil
    rw [List.take_length] at hG hnx ⊢
    rw [updTo_all (Nat.le_refl _)]
    have hq := fun S => hQ qa qc M S nx hnx.symm hG
    rw [← hsl] at hq ⊢
    clear hR hQ
    repeat' ((conv => whnf); (first | refine Branch.df (by omega) ?_ | exact Keep.all (hq _ .mk) | exact hq _ .mk | refine New.mk (fun _ => ?_) | refine Look.at0 ?_ | refine Cell.row ?_ | refine Cell.buf ?_ | refine Cells.row rfl ?_ | refine Put.row rfl ?_ | refine Put.buf rfl ?_ | refine Look.at1 ?_ | refine Look.at2 ?_ | refine Look.at3 ?_ | refine Look.at4 ?_ | refine Look.at5 ?_ | refine Look.at6 ?_ | refine Look.at7 ?_ | refine Look.at8 ?_ | with_reducible refine Val.i64 (by omega) (by omega) ?_ | with_reducible refine Val.u8 (by omega) (by omega) ?_ | with_reducible refine Val.u32 (by omega) (by omega) ?_ | with_reducible refine Val.u64 (by omega) (by omega) ?_ | with_reducible refine Val.u8m ?_ | with_reducible refine Val.u32m ?_ | with_reducible refine Val.u64m ?_ | with_reducible refine Val.shr8 ?_ | with_reducible refine Val.shr16 (by decide) ?_ | with_reducible refine Val.shr24 (by decide) ?_ | with_reducible refine Val.raw ?_ | refine Branch.not ?_ | refine Branch.and ?_ | refine Branch.or ?_ | refine Branch.dt (by assumption) ?_ | refine Branch.df (by assumption) ?_ | refine Branch.dt rfl ?_ | refine Branch.dt (by omega) ?_ | refine Branch.df (by omega) ?_ | refine Branch.t rfl ?_ | refine Branch.f rfl ?_ | refine Branch.t (by assumption) ?_ | refine Branch.f (by assumption) ?_ | refine Branch.d (fun _ => ?_) (fun _ => ?_) | refine Branch.mk (fun _ => ?_) (fun _ => ?_) | refine Need.mk (by first | omega | decide | rfl) ?_ | refine Idx.nat (by omega) ?_ | refine Idx.auto (by first | omega | decide) (by first | omega | decide) ?_ | refine Cell.ro rfl ?_ | refine SDraw.all (by kernel_rfl) ?_ | refine Kept.k0 ?_ | refine Kept.k1 ?_ | refine Kept.k2 ?_ | refine Kept.k3 ?_ | refine Kept.k4 ?_))
def I18b (sv va vb vo qv nv fv uv : Value) (Qq : List Wn) (H : Heap) (k : Nat) (S : List Value) (H' : Heap) : Prop :=
  k + 1 ≤ Qq.length ∧ S18b sv uv va vb vo qv nv fv (.int .i64 (bestK Qq k : Int)) (.int .i64 ((k + 1 : Nat) : Int)) S ∧ H' = H
theorem l18b {Q : Post} {S0 : List Value} {sv va vb vo qv nv fv uv : Value} {Qq : List Wn} (hq : InS qC 2 qv H Qq) (hf : InS fS 1 fv H (L.map fld)) (hwk : ∀ x ∈ Qq, ∃ m, L[x.who]? = some m ∧ x.fl = fld m) (h0 : 1 ≤ Qq.length) (hmax : Qq.length ≤ 67108864)
    (hS : S18b sv uv va vb vo qv nv fv (.int .i64 0) (.int .i64 1) S0) (hQ : ∀ S, S18b sv uv va vb vo qv nv fv (.int .i64 (best Qq : Int)) (.int .i64 (Qq.length : Int)) S → Q (.exit 6) S H) : SLoop Tryd.prog X18_l0 Q S0 H := by
  obtain ⟨qa, qc, rfl, _⟩ := hq.sv
  refine SLoop.invA (I18b sv va vb vo (.slice qa Qq.length qc) nv fv uv Qq H) (fun k => Qq.length - k) 0 (Keep.all ⟨h0, hS, rfl⟩) ?_
  rintro k S H' ⟨hk, hS, rfl⟩ R hR
  cases hS
  by_cases hlt : k + 1 < Qq.length
  · obtain ⟨hb1, w, hb2, _⟩ := best_ok Qq k (by omega)
    have hx := List.getElem?_eq_getElem hlt
    generalize Qq[k + 1] = x at hx
    obtain ⟨mx, hx1, hx2⟩ := hwk x (List.mem_of_getElem? hx)
    obtain ⟨mw, hw1, hw2⟩ := hwk w (List.mem_of_getElem? hb2)
    obtain ⟨r1, o1, c1, b1, e1, hrb1, hc1⟩ := inS_at hq qC_len hx
    injection e1 with e1 _ e3
    subst e1
    obtain ⟨r2, o2, c2, b2, e2, hrb2, hc2⟩ := inS_at hq qC_len hb2
    injection e2 with e2 _ e4
    injection e2 with e2
    injection e2 with e5 e6
    subst e5 e6
    have hcx := hc1 0 _ rfl
    have hcw := hc2 0 _ rfl
    obtain ⟨r3, o3, c3, b3, e5, hrb3, hc3⟩ := hf.at1 (j := x.who) (x := fld mx) (by rw [List.getElem?_map, hx1]; rfl) rfl
    subst e5
    obtain ⟨r4, o4, c4, b4, e6, hrb4, hc4⟩ := hf.at1 (j := w.who) (x := fld mw) (by rw [List.getElem?_map, hw1]; rfl) rfl
    injection e6 with e6 _ e7
    injection e6 with e6
    injection e6 with e8 e9
    subst e8 e9
    have hxl : x.who < (L.map fld).length := by rw [List.length_map]; exact (List.getElem?_eq_some_iff.1 hx1).1
    have hwl : w.who < (L.map fld).length := by rw [List.length_map]; exact (List.getElem?_eq_some_iff.1 hw1).1
    have hbl := (List.getElem?_eq_some_iff.1 hb2).1
    have hlts := strLt_of (fld mx) (fld mw)
    have hbs : bestK Qq (k + 1) = if tlt x.fl w.fl then k + 1 else bestK Qq k := by rw [bestK, hx, hb2]
    rw [hx2, hw2] at hbs
    have hnext := fun S hS => hR (k + 1) S H' (by omega) (Keep.all ⟨by omega, hS, rfl⟩)
    clear hR hQ
    rw [hbs] at hnext
    cases htl : tlt (fld mx) (fld mw) with
    | true =>
      rw [htl] at hnext hlts
      rw [if_pos rfl] at hnext
      repeat' ((conv => whnf); (first | refine Branch.dt (by omega) ?_ | refine Idx.of _ rfl hlt ?_ | refine Idx.of _ rfl hbl ?_ | refine Idx.of _ rfl hxl ?_ | refine Idx.of _ rfl hwl ?_ | refine Look.cell hrb1 hcx ?_ | refine Look.cell hrb2 hcw ?_ | refine Look.cell hrb3 hc3 ?_ | refine Look.cell hrb4 hc4 ?_ | refine Branch.t hlts ?_ | exact hnext _ .mk | refine New.mk (fun _ => ?_) | refine Look.at0 ?_ | refine Cell.row ?_ | refine Cell.buf ?_ | refine Cells.row rfl ?_ | refine Put.row rfl ?_ | refine Put.buf rfl ?_ | refine Look.at1 ?_ | refine Look.at2 ?_ | refine Look.at3 ?_ | refine Look.at4 ?_ | refine Look.at5 ?_ | refine Look.at6 ?_ | refine Look.at7 ?_ | refine Look.at8 ?_ | with_reducible refine Val.i64 (by omega) (by omega) ?_ | with_reducible refine Val.u8 (by omega) (by omega) ?_ | with_reducible refine Val.u32 (by omega) (by omega) ?_ | with_reducible refine Val.u64 (by omega) (by omega) ?_ | with_reducible refine Val.u8m ?_ | with_reducible refine Val.u32m ?_ | with_reducible refine Val.u64m ?_ | with_reducible refine Val.shr8 ?_ | with_reducible refine Val.shr16 (by decide) ?_ | with_reducible refine Val.shr24 (by decide) ?_ | with_reducible refine Val.raw ?_ | refine Branch.not ?_ | refine Branch.and ?_ | refine Branch.or ?_ | refine Branch.dt (by assumption) ?_ | refine Branch.df (by assumption) ?_ | refine Branch.dt rfl ?_ | refine Branch.dt (by omega) ?_ | refine Branch.df (by omega) ?_ | refine Branch.t rfl ?_ | refine Branch.f rfl ?_ | refine Branch.t (by assumption) ?_ | refine Branch.f (by assumption) ?_ | refine Branch.d (fun _ => ?_) (fun _ => ?_) | refine Branch.mk (fun _ => ?_) (fun _ => ?_) | refine Need.mk (by first | omega | decide | rfl) ?_ | refine Idx.nat (by omega) ?_ | refine Idx.auto (by first | omega | decide) (by first | omega | decide) ?_ | refine Cell.ro rfl ?_ | refine SDraw.all (by kernel_rfl) ?_ | refine Kept.k0 ?_ | refine Kept.k1 ?_ | refine Kept.k2 ?_ | refine Kept.k3 ?_ | refine Kept.k4 ?_))
    | false =>
      rw [htl] at hnext hlts
      rw [if_neg (by decide)] at hnext
      repeat' ((conv => whnf); (first | refine Branch.dt (by omega) ?_ | refine Idx.of _ rfl hlt ?_ | refine Idx.of _ rfl hbl ?_ | refine Idx.of _ rfl hxl ?_ | refine Idx.of _ rfl hwl ?_ | refine Look.cell hrb1 hcx ?_ | refine Look.cell hrb2 hcw ?_ | refine Look.cell hrb3 hc3 ?_ | refine Look.cell hrb4 hc4 ?_ | refine Branch.f hlts ?_ | exact hnext _ .mk | refine New.mk (fun _ => ?_) | refine Look.at0 ?_ | refine Cell.row ?_ | refine Cell.buf ?_ | refine Cells.row rfl ?_ | refine Put.row rfl ?_ | refine Put.buf rfl ?_ | refine Look.at1 ?_ | refine Look.at2 ?_ | refine Look.at3 ?_ | refine Look.at4 ?_ | refine Look.at5 ?_ | refine Look.at6 ?_ | refine Look.at7 ?_ | refine Look.at8 ?_ | with_reducible refine Val.i64 (by omega) (by omega) ?_ | with_reducible refine Val.u8 (by omega) (by omega) ?_ | with_reducible refine Val.u32 (by omega) (by omega) ?_ | with_reducible refine Val.u64 (by omega) (by omega) ?_ | with_reducible refine Val.u8m ?_ | with_reducible refine Val.u32m ?_ | with_reducible refine Val.u64m ?_ | with_reducible refine Val.shr8 ?_ | with_reducible refine Val.shr16 (by decide) ?_ | with_reducible refine Val.shr24 (by decide) ?_ | with_reducible refine Val.raw ?_ | refine Branch.not ?_ | refine Branch.and ?_ | refine Branch.or ?_ | refine Branch.dt (by assumption) ?_ | refine Branch.df (by assumption) ?_ | refine Branch.dt rfl ?_ | refine Branch.dt (by omega) ?_ | refine Branch.df (by omega) ?_ | refine Branch.t rfl ?_ | refine Branch.f rfl ?_ | refine Branch.t (by assumption) ?_ | refine Branch.f (by assumption) ?_ | refine Branch.d (fun _ => ?_) (fun _ => ?_) | refine Branch.mk (fun _ => ?_) (fun _ => ?_) | refine Need.mk (by first | omega | decide | rfl) ?_ | refine Idx.nat (by omega) ?_ | refine Idx.auto (by first | omega | decide) (by first | omega | decide) ?_ | refine Cell.ro rfl ?_ | refine SDraw.all (by kernel_rfl) ?_ | refine Kept.k0 ?_ | refine Kept.k1 ?_ | refine Kept.k2 ?_ | refine Kept.k3 ?_ | refine Kept.k4 ?_))
  · have hkl : Qq.length = k + 1 := by omega
    have hb : best Qq = bestK Qq k := by unfold best; rw [hkl]; rfl
    have hq := fun S hS => hQ S hS
    rw [hb, hkl] at hq
    rw [hkl]
    clear hR hQ
    repeat' ((conv => whnf); (first | refine Branch.df (by omega) ?_ | exact Keep.all (hq _ .mk) | exact hq _ .mk | refine New.mk (fun _ => ?_) | refine Look.at0 ?_ | refine Cell.row ?_ | refine Cell.buf ?_ | refine Cells.row rfl ?_ | refine Put.row rfl ?_ | refine Put.buf rfl ?_ | refine Look.at1 ?_ | refine Look.at2 ?_ | refine Look.at3 ?_ | refine Look.at4 ?_ | refine Look.at5 ?_ | refine Look.at6 ?_ | refine Look.at7 ?_ | refine Look.at8 ?_ | with_reducible refine Val.i64 (by omega) (by omega) ?_ | with_reducible refine Val.u8 (by omega) (by omega) ?_ | with_reducible refine Val.u32 (by omega) (by omega) ?_ | with_reducible refine Val.u64 (by omega) (by omega) ?_ | with_reducible refine Val.u8m ?_ | with_reducible refine Val.u32m ?_ | with_reducible refine Val.u64m ?_ | with_reducible refine Val.shr8 ?_ | with_reducible refine Val.shr16 (by decide) ?_ | with_reducible refine Val.shr24 (by decide) ?_ | with_reducible refine Val.raw ?_ | refine Branch.not ?_ | refine Branch.and ?_ | refine Branch.or ?_ | refine Branch.dt (by assumption) ?_ | refine Branch.df (by assumption) ?_ | refine Branch.dt rfl ?_ | refine Branch.dt (by omega) ?_ | refine Branch.df (by omega) ?_ | refine Branch.t rfl ?_ | refine Branch.f rfl ?_ | refine Branch.t (by assumption) ?_ | refine Branch.f (by assumption) ?_ | refine Branch.d (fun _ => ?_) (fun _ => ?_) | refine Branch.mk (fun _ => ?_) (fun _ => ?_) | refine Need.mk (by first | omega | decide | rfl) ?_ | refine Idx.nat (by omega) ?_ | refine Idx.auto (by first | omega | decide) (by first | omega | decide) ?_ | refine Cell.ro rfl ?_ | refine SDraw.all (by kernel_rfl) ?_ | refine Kept.k0 ?_ | refine Kept.k1 ?_ | refine Kept.k2 ?_ | refine Kept.k3 ?_ | refine Kept.k4 ?_))
end
end Go.Proofs.YtjleekdidedhaaaDoor

/- Layer 25: the document's Play, whole: by walks. -/
set_option linter.unusedVariables false
set_option linter.unusedSimpArgs false
set_option maxRecDepth 100000
set_option maxHeartbeats 4000000
namespace Go.Proofs.YtjleekdidedhaaaDoor
open Sx
theorem RawV.turn {P : Program} {o : Oper} {vs : List Value} {H H2 : Heap} {K : Value → Heap → Prop} (hp : H.Perm H2) (h : RawV P o vs H2 K) : RawV P o vs H K :=
  ⟨fun ρ w hm hw => by
    rcases h.run ρ w hm (hw.perm hp) with ⟨v, w', H', h1, h2, h3, h4⟩ | ⟨f, args, h1, h2⟩
    · exact .inl ⟨v, w', H', h1, h2, h3.permL hp.symm, h4⟩
    · exact .inr ⟨f, args, h1, h2.mono fun e w' ⟨v, H', g1, g2, g3, g4⟩ => ⟨v, H', g1, g2, g3.permL hp.symm, g4⟩⟩⟩
theorem flat_u64 : ∀ l : List Nat, l.flatMap fU = l.map u64
  | [] => rfl
  | x :: l => by rw [List.flatMap_cons, flat_u64 l]; rfl
theorem runs_det {un : Nat} {ss : List Sr} {Q : List Wn} {now : Nat} {out r : List Nat} (h : Runs un ss Q now out r) : ∀ {r' : List Nat}, Runs un ss Q now out r' → r = r' := by
  induction h with
  | @halt ss Q now out h1 h2 =>
    intro r' h'
    cases h' with
    | halt => rfl
    | wait g1 g2 g3 => rw [g2] at h2; cases h2
    | go g1 g2 g3 => rw [h1] at g1; simp at g1
  | @wait ss Q now t out r h1 h2 h3 ih =>
    intro r' h'
    cases h' with
    | halt g1 g2 => rw [h2] at g2; cases g2
    | wait g1 g2 g3 =>
      rw [h2] at g2
      injection g2 with g2 _
      subst g2
      exact ih g3
    | go g1 g2 g3 => rw [h1] at g1; simp at g1
  | @go ss Q now out r w s h1 h2 h3 ih =>
    intro r' h'
    cases h' with
    | halt g1 g2 => rw [g1] at h1; simp at h1
    | wait g1 g2 g3 => rw [g1] at h1; simp at h1
    | go g1 g2 g3 =>
      rw [h1] at g1
      injection g1 with g1
      subst g1
      rw [h2] at g2
      injection g2 with g2
      subst g2
      exact ih g3
section
variable {K : Value → Heap → Prop} {H : Heap} {L : List Msg} {un : Nat}
def I18o (sv va vb vo fv : Value) (un : Nat) (L : List Msg) (ra rb ro n nb : Nat) (r : List Nat) (H : Heap) (y : List Sr × List Wn × Nat × List Nat) (S : List Value) (H' : Heap) : Prop :=
  PInv un L y.1 y.2.1 y.2.2.1 y.2.2.2 ∧ Runs un y.1 y.2.1 y.2.2.1 y.2.2.2 r ∧ ∃ (qa : Option Addr) (qc : Nat) (M : Heap), Grow qC 2 80 (.slice qa y.2.1.length qc) y.2.1 M ∧
    S18o sv (.int .u64 (un : Int)) va vb vo (.slice qa y.2.1.length qc) (.int .u64 (y.2.2.1 : Int)) fv S ∧ H' = aB ra (y.1.map Sr.a) n :: aB rb (y.1.map Sr.q) nb :: aB ro y.2.2.2 n :: (M ++ H)
theorem loop18 {sa : Option Addr} {sc ra rb ro n nb : Nat} {fv : Value} {ss : List Sr} {Q : List Wn} {now : Nat} {out r : List Nat} {qa : Option Addr} {qc : Nat} {M : Heap} {S : List Value} (hin : InS mC 5 (.slice sa L.length sc) H L) (hf : InS fS 1 fv H (L.map fld)) (hI : PInv un L ss Q now out) (hr : Runs un ss Q now out r)
    (hG : Grow qC 2 80 (.slice qa Q.length qc) Q M) (hS : S18o (.slice sa L.length sc) (.int .u64 (un : Int)) (.slice (some ⟨ra, 0, none⟩) L.length n) (.slice (some ⟨rb, 0, none⟩) L.length nb) (.slice (some ⟨ro, 0, none⟩) L.length n) (.slice qa Q.length qc) (.int .u64 (now : Int)) fv S)
    (hK : K (.slice (some ⟨ro, 0, none⟩) L.length n) (aB ro r n :: H)) :
    SLoop Tryd.prog X18_l3 (blockQ 0 (retQ [RV.tmp 6] K)) S (aB ra (ss.map Sr.a) n :: aB rb (ss.map Sr.q) nb :: aB ro out n :: (M ++ H)) := by
  refine SLoop.invA (I18o (.slice sa L.length sc) (.slice (some ⟨ra, 0, none⟩) L.length n) (.slice (some ⟨rb, 0, none⟩) L.length nb) (.slice (some ⟨ro, 0, none⟩) L.length n) fv un L ra rb ro n nb r H) (fun y => mu un y.1 y.2.1 y.2.2.1) (ss, Q, now, out) (Keep.all ⟨hI, hr, qa, qc, M, hG, hS, rfl⟩) ?_
  clear hI hr hG hS
  rintro ⟨ss, Q, now, out⟩ S H' ⟨h1, h2, qa, qc, M, hG, hS, rfl⟩ R hR
  dsimp only at h1 h2 hG hS hR ⊢
  cases hS
  have hun := h1.unb
  have hpot := h1.takes.potb
  have hnb := h1.nowb
  have h64 := h1.goods.len
  have hQl : (Q ++ wants un now 0 ss).length ≤ 67108864 := by
    unfold pot at hpot
    omega
  have hlm : ∀ (Q2 : Post) (S0 : List Value), S18a (.slice sa L.length sc) (.int .u64 (un : Int)) (.slice (some ⟨ra, 0, none⟩) L.length n) (.slice (some ⟨rb, 0, none⟩) L.length nb) (.slice (some ⟨ro, 0, none⟩) L.length n) (.slice qa Q.length qc) (.int .u64 (now : Int)) fv (.int .u64 0) (.bool false) (.int .i64 0) S0 →
      (∀ qa qc M S nx, nxt un (ss.map (drS un now)) = nx → Grow qC 2 80 (.slice qa (Q ++ wants un now 0 ss).length qc) (Q ++ wants un now 0 ss) M →
        S18a (.slice sa L.length sc) (.int .u64 (un : Int)) (.slice (some ⟨ra, 0, none⟩) L.length n) (.slice (some ⟨rb, 0, none⟩) L.length nb) (.slice (some ⟨ro, 0, none⟩) L.length n) (.slice qa (Q ++ wants un now 0 ss).length qc) (.int .u64 (now : Int)) fv (.int .u64 (nx.1 : Int)) (.bool nx.2) (.int .i64 (L.length : Int)) S →
        Q2 (.exit 2) S (aB ra ((ss.map (drS un now)).map Sr.a) n :: aB rb ((ss.map (drS un now)).map Sr.q) nb :: aB ro out n :: (M ++ H))) →
      SLoop Tryd.prog X18_l2 Q2 S0 (aB ra (ss.map Sr.a) n :: aB rb (ss.map Sr.q) nb :: aB ro out n :: (M ++ H)) := fun Q2 S0 hS hk => l18m hin h1.ok h1.ms hQl hG hun hS hk
  have hwkQ : ∀ x ∈ Q ++ wants un now 0 ss, ∃ m, L[x.who]? = some m ∧ x.fl = fld m := by
    intro x hx
    have h3 := h1.takes
    obtain ⟨s, g1, g2, _⟩ := h3.wk x hx
    refine ⟨s.m, ?_, g2⟩
    rw [← h3.ms, List.getElem?_map, g1]; rfl
  rcases runs_cases h1 h2 with ⟨c1, c2, c3⟩ | ⟨t, c1, c2, c3, c4, c5⟩ | ⟨w, s, c1, c2, c3, c4, c5, c6⟩
  · have hN : decide (((Q ++ wants un now 0 ss).length : Int) = 0) = true := by rw [c1]; rfl
    subst c3
    have hk : ∀ M2 : Heap, Keep (aB ra ((ss.map (drS un now)).map Sr.a) n :: aB rb ((ss.map (drS un now)).map Sr.q) nb :: aB ro out n :: (M2 ++ H)) fun H' => K (.slice (some ⟨ro, 0, none⟩) L.length n) H' := fun M2 =>
      Keep.glue [[aB ra ((ss.map (drS un now)).map Sr.a) n, aB rb ((ss.map (drS un now)).map Sr.q) nb], [aB ro out n], M2, H] [0, 1, 2, 3] [1, 3] [0, 2] (by decide) rfl hK
    clear hR hK
    repeat' ((conv => whnf); (first | (refine hlm _ _ .mk (fun qa2 qc2 M2 S2 nx hnx g1 g2 => ?_); obtain ⟨l, any⟩ := nx; rw [hnx] at c2; dsimp only at c2; subst c2; cases g2) | refine Branch.t hN ?_ | refine Branch.t rfl ?_ | exact hk _ | refine New.mk (fun _ => ?_) | refine Look.at0 ?_ | refine Cell.row ?_ | refine Cell.buf ?_ | refine Cells.row rfl ?_ | refine Put.row rfl ?_ | refine Put.buf rfl ?_ | refine Look.at1 ?_ | refine Look.at2 ?_ | refine Look.at3 ?_ | refine Look.at4 ?_ | refine Look.at5 ?_ | refine Look.at6 ?_ | refine Look.at7 ?_ | refine Look.at8 ?_ | with_reducible refine Val.i64 (by omega) (by omega) ?_ | with_reducible refine Val.u8 (by omega) (by omega) ?_ | with_reducible refine Val.u32 (by omega) (by omega) ?_ | with_reducible refine Val.u64 (by omega) (by omega) ?_ | with_reducible refine Val.u8m ?_ | with_reducible refine Val.u32m ?_ | with_reducible refine Val.u64m ?_ | with_reducible refine Val.shr8 ?_ | with_reducible refine Val.shr16 (by decide) ?_ | with_reducible refine Val.shr24 (by decide) ?_ | with_reducible refine Val.raw ?_ | refine Branch.not ?_ | refine Branch.and ?_ | refine Branch.or ?_ | refine Branch.dt (by assumption) ?_ | refine Branch.df (by assumption) ?_ | refine Branch.dt rfl ?_ | refine Branch.dt (by omega) ?_ | refine Branch.df (by omega) ?_ | refine Branch.t rfl ?_ | refine Branch.f rfl ?_ | refine Branch.t (by assumption) ?_ | refine Branch.f (by assumption) ?_ | refine Branch.d (fun _ => ?_) (fun _ => ?_) | refine Branch.mk (fun _ => ?_) (fun _ => ?_) | refine Need.mk (by first | omega | decide | rfl) ?_ | refine Idx.nat (by omega) ?_ | refine Idx.auto (by first | omega | decide) (by first | omega | decide) ?_ | refine Cell.ro rfl ?_ | refine SDraw.all (by kernel_rfl) ?_ | refine Kept.k0 ?_ | refine Kept.k1 ?_ | refine Kept.k2 ?_ | refine Kept.k3 ?_ | refine Kept.k4 ?_))
  · have hN : decide (((Q ++ wants un now 0 ss).length : Int) = 0) = true := by rw [c1]; rfl
    have hl0 : (Q ++ wants un now 0 ss).length = ([] : List Wn).length := by rw [c1]
    have hnext : ∀ S qa2 qc2 M2, Grow qC 2 80 (.slice qa2 (Q ++ wants un now 0 ss).length qc2) (Q ++ wants un now 0 ss) M2 → S18o (.slice sa L.length sc) (.int .u64 (un : Int)) (.slice (some ⟨ra, 0, none⟩) L.length n) (.slice (some ⟨rb, 0, none⟩) L.length nb) (.slice (some ⟨ro, 0, none⟩) L.length n) (.slice qa2 (Q ++ wants un now 0 ss).length qc2) (.int .u64 (t : Int)) fv S →
        R S (aB ra ((ss.map (drS un now)).map Sr.a) n :: aB rb ((ss.map (drS un now)).map Sr.q) nb :: aB ro out n :: (M2 ++ H)) := fun S qa2 qc2 M2 g1 g2 => by
      rw [c1] at g1 g2
      exact hR (ss.map (drS un now), [], t, out) S _ c5 (Keep.all ⟨c4, c3, qa2, qc2, M2, g1, g2, rfl⟩)
    clear hR hK
    repeat' ((conv => whnf); (first | (refine hlm _ _ .mk (fun qa2 qc2 M2 S2 nx hnx g1 g2 => ?_); rw [c2] at hnx; subst hnx; cases g2) | refine Branch.t hN ?_ | refine Branch.f rfl ?_ | exact hnext _ _ _ _ g1 .mk | refine New.mk (fun _ => ?_) | refine Look.at0 ?_ | refine Cell.row ?_ | refine Cell.buf ?_ | refine Cells.row rfl ?_ | refine Put.row rfl ?_ | refine Put.buf rfl ?_ | refine Look.at1 ?_ | refine Look.at2 ?_ | refine Look.at3 ?_ | refine Look.at4 ?_ | refine Look.at5 ?_ | refine Look.at6 ?_ | refine Look.at7 ?_ | refine Look.at8 ?_ | with_reducible refine Val.i64 (by omega) (by omega) ?_ | with_reducible refine Val.u8 (by omega) (by omega) ?_ | with_reducible refine Val.u32 (by omega) (by omega) ?_ | with_reducible refine Val.u64 (by omega) (by omega) ?_ | with_reducible refine Val.u8m ?_ | with_reducible refine Val.u32m ?_ | with_reducible refine Val.u64m ?_ | with_reducible refine Val.shr8 ?_ | with_reducible refine Val.shr16 (by decide) ?_ | with_reducible refine Val.shr24 (by decide) ?_ | with_reducible refine Val.raw ?_ | refine Branch.not ?_ | refine Branch.and ?_ | refine Branch.or ?_ | refine Branch.dt (by assumption) ?_ | refine Branch.df (by assumption) ?_ | refine Branch.dt rfl ?_ | refine Branch.dt (by omega) ?_ | refine Branch.df (by omega) ?_ | refine Branch.t rfl ?_ | refine Branch.f rfl ?_ | refine Branch.t (by assumption) ?_ | refine Branch.f (by assumption) ?_ | refine Branch.d (fun _ => ?_) (fun _ => ?_) | refine Branch.mk (fun _ => ?_) (fun _ => ?_) | refine Need.mk (by first | omega | decide | rfl) ?_ | refine Idx.nat (by omega) ?_ | refine Idx.auto (by first | omega | decide) (by first | omega | decide) ?_ | refine Cell.ro rfl ?_ | refine SDraw.all (by kernel_rfl) ?_ | refine Kept.k0 ?_ | refine Kept.k1 ?_ | refine Kept.k2 ?_ | refine Kept.k3 ?_ | refine Kept.k4 ?_))
  · have hne : Q ++ wants un now 0 ss ≠ [] := fun h => by rw [h] at c1; simp at c1
    obtain ⟨hbl, _⟩ := List.getElem?_eq_some_iff.1 c1
    have hN : ¬ ((Q ++ wants un now 0 ss).length : Int) = 0 := by omega
    have hms := h1.ms
    have hsm : L[w.who]? = some s.m := by rw [← hms, List.getElem?_map, c2]; rfl
    have hwl := (List.getElem?_eq_some_iff.1 hsm).1
    have hgm := h1.goods.good s.m (List.mem_of_getElem? hsm)
    have htm := hgm.tm
    obtain ⟨mr, mo, mc, mb, e1, hmb, hmc⟩ := inS_at hin (fun _ => rfl) hsm
    injection e1 with e1 _ e3
    subst e1
    obtain ⟨v, hv⟩ : ∃ v, out[w.who]? = some v := ⟨_, List.getElem?_eq_getElem (by rw [h1.outl]; exact hwl)⟩
    have hvl : w.who < out.length := (List.getElem?_eq_some_iff.1 hv).1
    have hup : upd out w.who (now + tm s.m - w.ask) = out.set w.who (max v (now + tm s.m - w.ask)) := by
      unfold upd
      rw [List.getD_eq_getElem?_getD, hv]; rfl
    rw [hup] at c4 c5
    have hvn : IntKind.u64.wrap ((now : Int) + (tm s.m : Int)) = ((now + tm s.m : Nat) : Int) := by
      rw [← Int.natCast_add]; exact wrap_nat rfl (by show _ < 18446744073709551616; omega)
    have hvs : IntKind.u64.wrap (((now + tm s.m : Nat) : Int) - (w.ask : Int)) = ((now + tm s.m - w.ask : Nat) : Int) := by
      rw [show ((now + tm s.m : Nat) : Int) - (w.ask : Int) = ((now + tm s.m - w.ask : Nat) : Int) by omega]
      exact wrap_nat rfl (by show _ < 18446744073709551616; omega)
    generalize hQq : Q ++ wants un now 0 ss = Qq at *
    generalize hbq : best Qq = b at *
    have herl : (Qq.take b ++ Qq.drop (b + 1)).length = Qq.length - 1 := by simp; omega
    have her : Qq.take b ++ Qq.drop (b + 1) = Qq.eraseIdx b := (List.eraseIdx_eq_take_drop_succ Qq b).symm
    have hel : (Qq.eraseIdx b).length = Qq.length - 1 := List.length_eraseIdx_of_lt hbl
    have hlb : ∀ (q0 qc2 : Nat) (X : Heap) (Q2 : Post) (S0 : List Value) va vb vo nv uv sv, (q0, Blk.buf 80 (Qq.flatMap qC) (qc2 * 2)) ∈ X → (∀ z ∈ H, z ∈ X) → S18b sv uv va vb vo (.slice (some ⟨q0, 0, none⟩) Qq.length qc2) nv fv (.int .i64 0) (.int .i64 1) S0 →
        (∀ S, S18b sv uv va vb vo (.slice (some ⟨q0, 0, none⟩) Qq.length qc2) nv fv (.int .i64 (b : Int)) (.int .i64 (Qq.length : Int)) S → Q2 (.exit 6) S X) → SLoop Tryd.prog X18_l0 Q2 S0 X := by
      intro q0 qc2 X Q2 S0 va vb vo nv uv sv hm hX hS hk
      refine l18b (InS.buf hm rfl qC_len (by simp only [maxLen]; omega)) (hf.mono hX) hwkQ (by omega) hQl hS (fun S hS => hk S ?_)
      rw [hbq] at hS
      exact hS
    have hcopy : ∀ (q0 qc2 : Nat) (X : Heap) p (o' : Oper) (xs xx : Operand) (K2 : Value → Heap → Prop), (q0, Blk.buf 80 (Qq.flatMap qC) (qc2 * 2)) ∈ X → Qq.length ≤ qc2 → qc2 ≤ maxLen → o'.op = .call { callee := .builtin .append, args := #[xs, xx], argTypes := #[76, 76] } →
        (∀ q c, b ≤ c → c ≤ maxLen → K2 (.slice (some ⟨q, 0, none⟩) b c) ((q, .buf 80 ((Qq.take b).flatMap qC) (c * 2)) :: X)) → RawV Tryd.prog o' [.slice (some ⟨p, 0, none⟩) 0 0, .slice (some ⟨q0, 0, none⟩) b qc2] ((p, .row 80 [] (0, 0)) :: X) K2 := by
      intro q0 qc2 X p o' xs xx K2 hm k1 k2 ho hk
      obtain ⟨g1, g2⟩ := (Sl.buf (L := Qq) qC_len k1 k2 hm).take (show b ≤ Qq.length by omega)
      refine RawV.copyS (bytes := 16) (sv := .slice (some ⟨q0, 0, none⟩) b qc2) g1 ho (by kernel_rfl) (by decide) qC_len qC_one (by rw [g2]; omega) (fun q c j1 j2 => ?_)
      rw [g2] at j1 ⊢
      exact hk q c j1 j2
    have hend : ∀ (q0 qc2 o2 l2 c2 : Nat) (X : Heap) q c (o' : Oper) (xs xx : Operand) (K2 : Value → Heap → Prop), (qc2 = b + 1 ∧ o2 = 0 ∨ qc2 ≠ b + 1 ∧ o2 = 0 + (b + 1) * 2) → l2 = Qq.length - (b + 1) → c2 = qc2 - (b + 1) → (q0, Blk.buf 80 (Qq.flatMap qC) (qc2 * 2)) ∈ X → Qq.length ≤ qc2 → qc2 ≤ maxLen → b ≤ c → c ≤ maxLen → o'.op = .call { callee := .builtin .append, args := #[xs, xx], argTypes := #[76, 76] } →
        (∀ q' c', Qq.length - 1 ≤ c' → c' ≤ maxLen → K2 (.slice (some ⟨q', 0, none⟩) (Qq.length - 1) c') ((q', .buf 80 ((Qq.eraseIdx b).flatMap qC) (c' * 2)) :: X)) →
        RawV Tryd.prog o' [.slice (some ⟨q, 0, none⟩) b c, .slice (some ⟨q0, o2, none⟩) l2 c2] ((q, .buf 80 ((Qq.take b).flatMap qC) (c * 2)) :: X) K2 := by
      intro q0 qc2 o2 l2 c2 X q c o' xs xx K2 ho2 hl2 hc2 hm k1 k2 k3 k4 ho hk
      subst hl2 hc2
      have hgl : (Qq.take b).length = b := by simp; omega
      obtain ⟨hd1, hd2⟩ := (Sl.buf (L := Qq) qC_len k1 k2 hm).drop (show b + 1 ≤ Qq.length by omega)
      have hin2 : InS qC 2 (.slice (some ⟨q0, o2, none⟩) (Qq.length - (b + 1)) (qc2 - (b + 1))) X (Qq.drop (b + 1)) := by
        rcases ho2 with ⟨h, rfl⟩ | ⟨h, rfl⟩
        · obtain ⟨_, _, _, _, _, h⟩ := hd1 h
          exact h
        · obtain ⟨_, _, _, _, _, h⟩ := hd2 q0 0 rfl
          exact h
      have := RawV.appS (P := Tryd.prog) (K := K2) (o := o') (L1 := Qq.take b) (c := c) (q := q) (bytes := 16) hin2 (by rw [hgl]; exact k3) k4 ho (e := 80) (by kernel_rfl) (by decide) qC_len qC_one (by rw [herl]; simp only [maxLen]; omega) (by rw [herl]; omega) (fun q' c' j1 j2 => by
        rw [herl] at j1 ⊢
        rw [her]
        exact hk q' c' j1 j2)
      rw [hgl] at this
      exact this
    have hnext : ∀ S q3 c3 (t18 q0 : Nat × Blk) out', Qq.length - 1 ≤ c3 → c3 ≤ maxLen → out' = out.set w.who (max v (now + tm s.m - w.ask)) → S18o (.slice (some ⟨mr, mo, none⟩) L.length sc) (.int .u64 (un : Int)) (.slice (some ⟨ra, 0, none⟩) L.length n) (.slice (some ⟨rb, 0, none⟩) L.length nb) (.slice (some ⟨ro, 0, none⟩) L.length n) (.slice (some ⟨q3, 0, none⟩) (Qq.length - 1) c3) (.int .u64 ((now + tm s.m : Nat) : Int)) fv S →
        R S ((q3, .buf 80 ((Qq.eraseIdx b).flatMap qC) (c3 * 2)) :: t18 :: aB ra ((ss.map (drS un now)).map Sr.a) n :: aB rb ((ss.map (drS un now)).map Sr.q) nb :: aB ro out' n :: q0 :: H) := by
      intro S q3 c3 t18 q0 out' j1 j2 e hS
      subst e
      have hgb := Grow.buf (f := qC) (k := 2) (e := 80) (q := q3) (c := c3) (L := Qq.eraseIdx b) (by rw [hel]; exact j1) j2
      rw [← hel] at hS
      exact hR (ss.map (drS un now), Qq.eraseIdx b, now + tm s.m, out.set w.who (max v (now + tm s.m - w.ask))) S _ c6 (Keep.glue [[(q3, .buf 80 ((Qq.eraseIdx b).flatMap qC) (c3 * 2))], [t18], [aB ra ((ss.map (drS un now)).map Sr.a) n, aB rb ((ss.map (drS un now)).map Sr.q) nb, aB ro (out.set w.who (max v (now + tm s.m - w.ask))) n], [q0], H] [0, 1, 2, 3, 4] [2, 0, 4] [1, 3] (by decide) rfl ⟨c5, c4, _, _, _, hgb, hS, rfl⟩)
    clear hR hK hG
    by_cases hgt : v < now + tm s.m - w.ask
    · have hset : out.set w.who (now + tm s.m - w.ask) = out.set w.who (max v (now + tm s.m - w.ask)) := by rw [Nat.max_eq_right (by omega)]
      repeat' ((conv => whnf); (first | (refine hlm _ _ .mk (fun qa2 qc2 M2 S2 nx hnx g1 g2 => ?_); cases g2; obtain ⟨q0, rfl, _, j1, j2, rfl⟩ := g1.inv hne) | refine Branch.df hN ?_ | (refine hlb _ _ _ _ _ _ _ _ _ _ _ (.tail _ (.tail _ (.tail _ (.head _)))) (fun z hz => .tail _ (.tail _ (.tail _ (.tail _ hz)))) .mk (fun S3 g3 => ?_); cases g3) | with_reducible refine Val.to ((b + 1 : Nat) : Int) (by rw [wrap_i64 (by omega) (by omega)]; omega) ?_ | refine Idx.of b rfl (by omega) ?_ | refine Idx.of (b + 1) rfl (by omega) ?_ | refine Idx.of w.who rfl hwl ?_ | refine Cells.flat (f := qC) qC_len c1 ?_ | refine hcopy _ _ _ _ _ _ _ _ (.tail _ (.tail _ (.tail _ (.tail _ (.head _))))) j1 j2 rfl (fun q c i1 i2 => ?_) | refine hend _ _ _ _ _ _ _ _ _ _ _ _ (by first | exact .inl ⟨hcp, rfl⟩ | exact .inr ⟨hcp, rfl⟩) rfl rfl (.tail _ (.tail _ (.tail _ (.tail _ (.head _))))) j1 j2 i1 i2 rfl (fun q3 c3 i3 i4 => ?_) | refine Look.cells (.tail _ (.tail _ (.tail _ (.tail _ (.tail _ (.tail _ hmb)))))) rfl hmc ?_ | refine t12 hgm ?_ | with_reducible refine Val.to _ hvn ?_ | with_reducible refine Val.to _ hvs ?_ | refine Cell.nth hv ?_ | refine Branch.dt (by omega) ?_ | refine Branch.d (fun hcp => ?_) (fun hcp => ?_) | refine Put.nthG (g := u64) (now + tm s.m - w.ask) hvl ?_ | exact hnext _ _ _ _ _ _ i3 i4 hset .mk | refine New.mk (fun _ => ?_) | refine Look.at0 ?_ | refine Cell.row ?_ | refine Cell.buf ?_ | refine Cells.row rfl ?_ | refine Put.row rfl ?_ | refine Put.buf rfl ?_ | refine Look.at1 ?_ | refine Look.at2 ?_ | refine Look.at3 ?_ | refine Look.at4 ?_ | refine Look.at5 ?_ | refine Look.at6 ?_ | refine Look.at7 ?_ | refine Look.at8 ?_ | with_reducible refine Val.i64 (by omega) (by omega) ?_ | with_reducible refine Val.u8 (by omega) (by omega) ?_ | with_reducible refine Val.u32 (by omega) (by omega) ?_ | with_reducible refine Val.u64 (by omega) (by omega) ?_ | with_reducible refine Val.u8m ?_ | with_reducible refine Val.u32m ?_ | with_reducible refine Val.u64m ?_ | with_reducible refine Val.shr8 ?_ | with_reducible refine Val.shr16 (by decide) ?_ | with_reducible refine Val.shr24 (by decide) ?_ | with_reducible refine Val.raw ?_ | refine Branch.not ?_ | refine Branch.and ?_ | refine Branch.or ?_ | refine Branch.dt (by assumption) ?_ | refine Branch.df (by assumption) ?_ | refine Branch.dt rfl ?_ | refine Branch.dt (by omega) ?_ | refine Branch.df (by omega) ?_ | refine Branch.t rfl ?_ | refine Branch.f rfl ?_ | refine Branch.t (by assumption) ?_ | refine Branch.f (by assumption) ?_ | refine Branch.d (fun _ => ?_) (fun _ => ?_) | refine Branch.mk (fun _ => ?_) (fun _ => ?_) | refine Need.mk (by first | omega | decide | rfl) ?_ | refine Idx.nat (by omega) ?_ | refine Idx.auto (by first | omega | decide) (by first | omega | decide) ?_ | refine Cell.ro rfl ?_ | refine SDraw.all (by kernel_rfl) ?_ | refine Kept.k0 ?_ | refine Kept.k1 ?_ | refine Kept.k2 ?_ | refine Kept.k3 ?_ | refine Kept.k4 ?_))
    · have hset : out = out.set w.who (max v (now + tm s.m - w.ask)) := by
        rw [Nat.max_eq_left (by omega)]
        obtain ⟨hlt, e⟩ := List.getElem?_eq_some_iff.1 hv
        rw [← e, List.set_getElem_self]
      repeat' ((conv => whnf); (first | (refine hlm _ _ .mk (fun qa2 qc2 M2 S2 nx hnx g1 g2 => ?_); cases g2; obtain ⟨q0, rfl, _, j1, j2, rfl⟩ := g1.inv hne) | refine Branch.df hN ?_ | (refine hlb _ _ _ _ _ _ _ _ _ _ _ (.tail _ (.tail _ (.tail _ (.head _)))) (fun z hz => .tail _ (.tail _ (.tail _ (.tail _ hz)))) .mk (fun S3 g3 => ?_); cases g3) | with_reducible refine Val.to ((b + 1 : Nat) : Int) (by rw [wrap_i64 (by omega) (by omega)]; omega) ?_ | refine Idx.of b rfl (by omega) ?_ | refine Idx.of (b + 1) rfl (by omega) ?_ | refine Idx.of w.who rfl hwl ?_ | refine Cells.flat (f := qC) qC_len c1 ?_ | refine hcopy _ _ _ _ _ _ _ _ (.tail _ (.tail _ (.tail _ (.tail _ (.head _))))) j1 j2 rfl (fun q c i1 i2 => ?_) | refine hend _ _ _ _ _ _ _ _ _ _ _ _ (by first | exact .inl ⟨hcp, rfl⟩ | exact .inr ⟨hcp, rfl⟩) rfl rfl (.tail _ (.tail _ (.tail _ (.tail _ (.head _))))) j1 j2 i1 i2 rfl (fun q3 c3 i3 i4 => ?_) | refine Look.cells (.tail _ (.tail _ (.tail _ (.tail _ (.tail _ (.tail _ hmb)))))) rfl hmc ?_ | refine t12 hgm ?_ | with_reducible refine Val.to _ hvn ?_ | with_reducible refine Val.to _ hvs ?_ | refine Cell.nth hv ?_ | refine Branch.df (by omega) ?_ | refine Branch.d (fun hcp => ?_) (fun hcp => ?_) | exact hnext _ _ _ _ _ _ i3 i4 hset .mk | refine New.mk (fun _ => ?_) | refine Look.at0 ?_ | refine Cell.row ?_ | refine Cell.buf ?_ | refine Cells.row rfl ?_ | refine Put.row rfl ?_ | refine Put.buf rfl ?_ | refine Look.at1 ?_ | refine Look.at2 ?_ | refine Look.at3 ?_ | refine Look.at4 ?_ | refine Look.at5 ?_ | refine Look.at6 ?_ | refine Look.at7 ?_ | refine Look.at8 ?_ | with_reducible refine Val.i64 (by omega) (by omega) ?_ | with_reducible refine Val.u8 (by omega) (by omega) ?_ | with_reducible refine Val.u32 (by omega) (by omega) ?_ | with_reducible refine Val.u64 (by omega) (by omega) ?_ | with_reducible refine Val.u8m ?_ | with_reducible refine Val.u32m ?_ | with_reducible refine Val.u64m ?_ | with_reducible refine Val.shr8 ?_ | with_reducible refine Val.shr16 (by decide) ?_ | with_reducible refine Val.shr24 (by decide) ?_ | with_reducible refine Val.raw ?_ | refine Branch.not ?_ | refine Branch.and ?_ | refine Branch.or ?_ | refine Branch.dt (by assumption) ?_ | refine Branch.df (by assumption) ?_ | refine Branch.dt rfl ?_ | refine Branch.dt (by omega) ?_ | refine Branch.df (by omega) ?_ | refine Branch.t rfl ?_ | refine Branch.f rfl ?_ | refine Branch.t (by assumption) ?_ | refine Branch.f (by assumption) ?_ | refine Branch.d (fun _ => ?_) (fun _ => ?_) | refine Branch.mk (fun _ => ?_) (fun _ => ?_) | refine Need.mk (by first | omega | decide | rfl) ?_ | refine Idx.nat (by omega) ?_ | refine Idx.auto (by first | omega | decide) (by first | omega | decide) ?_ | refine Cell.ro rfl ?_ | refine SDraw.all (by kernel_rfl) ?_ | refine Kept.k0 ?_ | refine Kept.k1 ?_ | refine Kept.k2 ?_ | refine Kept.k3 ?_ | refine Kept.k4 ?_))
end
end Go.Proofs.YtjleekdidedhaaaDoor

/- Layer 25: LoadPlays: by walks. -/
set_option linter.unusedVariables false
set_option linter.unusedSimpArgs false
set_option maxRecDepth 100000
set_option maxHeartbeats 4000000
namespace Go.Proofs.YtjleekdidedhaaaDoor
open Sx
inductive S17 (A0 A1 A5 A6 : Value) : List Value → Prop
  | mk {r2 r3 r4 r7 r8 r9 r10 r11 r12 r13 r14 r15 r16 r17 r18 r19 r20 r21 r22 r23 r24 : Value} : S17 A0 A1 A5 A6 [A0, A1, r2, r3, r4, A5, A6, r7, r8, r9, r10, r11, r12, r13, r14, r15, r16, r17, r18, r19, r20, r21, r22, r23, r24]
section
variable {K : Value → Heap → Prop} {H : Heap} {L : List Msg} {un : Nat} {sv ov : Value} {offs : List Nat}
theorem c18 {r : List Nat} (hin : InS mC 5 sv H L) (hG : Goods L) (hof : InS fU 1 ov H offs) (hlen : offs.length = L.length) (hun : un ≤ 1048576) (hoff : ∀ (j : Nat) (m : Msg) (o : Nat), L[j]? = some m → offs[j]? = some o → o ≤ m.j)
    (hr : Runs un (start L offs) [] 0 (List.replicate L.length 0) r) (hK : ∀ ro, K (.slice (some ⟨ro, 0, none⟩) L.length L.length) (aB ro r L.length :: H)) : SCalls Tryd.prog 18 [sv, ov, .int .u64 (un : Int)] H K := by
  refine SCalls.keep ?_
  have hI := start_inv hG hlen hun hoff
  obtain ⟨sa, sc, rfl, hml⟩ := hin.sv
  obtain ⟨oa, oc, rfl, hol⟩ := hof.sv
  have hlen64 := hG.len
  have erep : List.replicate L.length (Value.int .u64 0) = (List.replicate L.length 0).map u64 := by simp [u64]
  have hsa : (start L offs).map Sr.a = List.replicate L.length 0 := by
    refine List.ext_getElem? fun j => ?_
    unfold start
    rw [List.getElem?_map, List.getElem?_zipWith]
    by_cases hj : j < L.length
    · rw [List.getElem?_eq_getElem hj, List.getElem?_eq_getElem (show j < offs.length by omega), List.getElem?_replicate, if_pos hj]; rfl
    · rw [List.getElem?_eq_none (show L.length ≤ j by omega), List.getElem?_replicate, if_neg hj]; rfl
  have hsq : (start L offs).map Sr.q = offs := by
    refine List.ext_getElem? fun j => ?_
    unfold start
    rw [List.getElem?_map, List.getElem?_zipWith]
    by_cases hj : j < L.length
    · rw [List.getElem?_eq_getElem hj, List.getElem?_eq_getElem (show j < offs.length by omega)]; rfl
    · rw [List.getElem?_eq_none (by omega), List.getElem?_eq_none (by omega)]; rfl
  have hmk : ∀ (X : Heap) (o : Oper) (xl xc : Operand) (K2 : Value → Heap → Prop), o.op = .makeSlice 36 xl xc → (∀ ra, K2 (.slice (some ⟨ra, 0, none⟩) L.length L.length) (aB ra (List.replicate L.length 0) L.length :: X)) → RawV Tryd.prog o [.int .i64 (L.length : Int), .int .i64 (L.length : Int)] X K2 := fun X o xl xc K2 ho hk =>
    RawV.make1 (e := 28) (bytes := 8) (zv := .int .u64 0) ho (by kernel_rfl) (by kernel_rfl) rfl (by omega) (by simp only [maxLen]; omega) (fun ra => by rw [erep]; exact hk ra)
  have hcp : ∀ (X : Heap) p (o : Oper) (xs xx : Operand) (K2 : Value → Heap → Prop), (∀ z ∈ H, z ∈ X) → o.op = .call { callee := .builtin .append, args := #[xs, xx], argTypes := #[36, 36] } → (∀ rb nb, K2 (.slice (some ⟨rb, 0, none⟩) L.length nb) (aB rb offs nb :: X)) → RawV Tryd.prog o [.slice (some ⟨p, 0, none⟩) 0 0, .slice oa offs.length oc] ((p, .row 28 [] (0, 0)) :: X) K2 := by
    intro X p o xs xx K2 hX ho hk
    refine RawV.copyS (bytes := 8) (hof.mono hX) ho (by kernel_rfl) (by decide) (fun _ => rfl) (fun x u hu => by obtain rfl := List.mem_singleton.1 hu; rfl) (by omega) (fun rb nb _ _ => ?_)
    rw [flat_u64, Nat.mul_one, hlen]
    exact hk rb nb
  have hcp2 : ∀ (y : Nat × Blk) (X : Heap) p (o : Oper) (xs xx : Operand) (K2 : Value → Heap → Prop), (∀ z ∈ H, z ∈ X) → o.op = .call { callee := .builtin .append, args := #[xs, xx], argTypes := #[36, 36] } → (∀ rb nb, K2 (.slice (some ⟨rb, 0, none⟩) L.length nb) (aB rb offs nb :: y :: X)) → RawV Tryd.prog o [.slice (some ⟨p, 0, none⟩) 0 0, .slice oa offs.length oc] (y :: (p, .row 28 [] (0, 0)) :: X) K2 :=
    fun y X p o xs xx K2 hX ho hk => RawV.turn (.swap _ _ _) (hcp (y :: X) p o xs xx K2 (fun z hz => .tail _ (hX z hz)) ho hk)
  have h33 : ∀ (X : Heap) (K2 : Value → Heap → Prop), (∀ z ∈ H, z ∈ X) → (∀ fa fc M, (∀ H', (∀ p ∈ M, p ∈ H') → InS fS 1 (.slice fa L.length fc) H' (L.map fld)) → K2 (.slice fa L.length fc) (M ++ X)) → SCalls Tryd.prog 33 [.slice sa L.length sc] X K2 := fun X K2 hX hk => c33 (hin.mono hX) hlen64 hk
  have hloop : ∀ ra rb ro nb p fa fc (M : Heap) (S : List Value), (∀ H', (∀ p ∈ M, p ∈ H') → InS fS 1 (.slice fa L.length fc) H' (L.map fld)) → S18o (.slice sa L.length sc) (.int .u64 (un : Int)) (.slice (some ⟨ra, 0, none⟩) L.length L.length) (.slice (some ⟨rb, 0, none⟩) L.length nb) (.slice (some ⟨ro, 0, none⟩) L.length L.length) (.slice (some ⟨p, 0, none⟩) 0 0) (.int .u64 0) (.slice fa L.length fc) S →
      ∀ X : Heap, (M ++ (p, .row 80 [] (0, 0)) :: aB ro (List.replicate L.length 0) L.length :: X).Perm ([] ++ (p, .row 80 [] (0, 0)) :: (aB ra (List.replicate L.length 0) L.length :: aB rb offs nb :: aB ro (List.replicate L.length 0) L.length :: (M ++ H))) →
      SLoop Tryd.prog X18_l3 (blockQ 0 (retQ [RV.tmp 6] fun v H' => Keep H' fun H'' => K v H'')) S (M ++ (p, .row 80 [] (0, 0)) :: aB ro (List.replicate L.length 0) L.length :: X) := by
    intro ra rb ro nb p fa fc M S hf hS X hperm
    refine SLoop.keep (Keep.mk _ _ hperm (List.Sublist.refl _) ?_)
    refine SLoop.toBuf ?_
    refine SLoop.keep (Keep.glue [[(p, Blk.buf 80 [] 0)], [aB ra (List.replicate L.length 0) L.length, aB rb offs nb, aB ro (List.replicate L.length 0) L.length], M, H] [0, 1, 2, 3] [1, 0, 2, 3] [] (by decide) rfl ?_)
    have hlp := loop18 (K := fun v H' => Keep H' fun H'' => K v H'') (H := M ++ H) (ra := ra) (rb := rb) (ro := ro) (n := L.length) (nb := nb) (M := [(p, .buf 80 [] (0 * 2))]) (hin.mono fun z hz => List.mem_append_right _ hz) (hf _ fun z hz => List.mem_append_left _ hz) hI hr Grow.zero hS (Keep.sub _ (List.Sublist.cons_cons _ (List.sublist_append_right M H)) (hK ro))
    rw [hsa, hsq] at hlp
    exact hlp
  refine enter18 ?_
  have p1 : ∀ (a b c p : Nat × Blk) (M : Heap), (M ++ p :: c :: b :: a :: H).Perm ([] ++ p :: (a :: b :: c :: (M ++ H))) := fun a b c p M => by
    refine (List.perm_append_comm_assoc M [p, c, b, a] H).trans ?_
    refine List.Perm.cons _ ?_
    exact (List.reverse_perm [a, b, c]).append_right (M ++ H)
  have p2 : ∀ (a b c p : Nat × Blk) (M : Heap), (M ++ p :: c :: a :: b :: H).Perm ([] ++ p :: (a :: b :: c :: (M ++ H))) := fun a b c p M => by
    refine (List.perm_append_comm_assoc M [p, c, a, b] H).trans ?_
    refine List.Perm.cons _ ?_
    exact ((List.Perm.swap a c [b]).trans (List.Perm.cons _ (List.Perm.swap _ _ _))).append_right (M ++ H)
  repeat' ((conv => whnf); (first | refine SDraw.held (by kernel_rfl) [] .nil ?_ | refine And.intro ?_ ?_ | refine Kept.sub (List.nil_sublist _) ?_ | refine hmk _ _ _ _ _ rfl (fun ra => ?_) | refine hcp _ _ _ _ _ _ (fun z hz => by simp only [List.mem_cons, hz, or_true]) rfl (fun rb nb => ?_) | refine hcp2 _ _ _ _ _ _ _ (fun z hz => hz) rfl (fun rb nb => ?_) | refine h33 _ _ (fun z hz => by simp only [List.mem_cons, hz, or_true]) (fun fa fc M hf => ?_) | exact hloop _ _ _ _ _ _ _ _ _ hf .mk _ (p1 _ _ _ _ _) | exact hloop _ _ _ _ _ _ _ _ _ hf .mk _ (p2 _ _ _ _ _) | refine New.mk (fun _ => ?_) | refine Look.at0 ?_ | refine Cell.row ?_ | refine Cell.buf ?_ | refine Cells.row rfl ?_ | refine Put.row rfl ?_ | refine Put.buf rfl ?_ | refine Look.at1 ?_ | refine Look.at2 ?_ | refine Look.at3 ?_ | refine Look.at4 ?_ | refine Look.at5 ?_ | refine Look.at6 ?_ | refine Look.at7 ?_ | refine Look.at8 ?_ | with_reducible refine Val.i64 (by omega) (by omega) ?_ | with_reducible refine Val.u8 (by omega) (by omega) ?_ | with_reducible refine Val.u32 (by omega) (by omega) ?_ | with_reducible refine Val.u64 (by omega) (by omega) ?_ | with_reducible refine Val.u8m ?_ | with_reducible refine Val.u32m ?_ | with_reducible refine Val.u64m ?_ | with_reducible refine Val.shr8 ?_ | with_reducible refine Val.shr16 (by decide) ?_ | with_reducible refine Val.shr24 (by decide) ?_ | with_reducible refine Val.raw ?_ | refine Branch.not ?_ | refine Branch.and ?_ | refine Branch.or ?_ | refine Branch.dt (by assumption) ?_ | refine Branch.df (by assumption) ?_ | refine Branch.dt rfl ?_ | refine Branch.dt (by omega) ?_ | refine Branch.df (by omega) ?_ | refine Branch.t rfl ?_ | refine Branch.f rfl ?_ | refine Branch.t (by assumption) ?_ | refine Branch.f (by assumption) ?_ | refine Branch.d (fun _ => ?_) (fun _ => ?_) | refine Branch.mk (fun _ => ?_) (fun _ => ?_) | refine Need.mk (by first | omega | decide | rfl) ?_ | refine Idx.nat (by omega) ?_ | refine Idx.auto (by first | omega | decide) (by first | omega | decide) ?_ | refine Cell.ro rfl ?_ | refine SDraw.all (by kernel_rfl) ?_ | refine Kept.k0 ?_ | refine Kept.k1 ?_ | refine Kept.k2 ?_ | refine Kept.k3 ?_ | refine Kept.k4 ?_))
end
end Go.Proofs.YtjleekdidedhaaaDoor

/- Layer 25: LoadPlays, whole: by walks. -/
set_option linter.unusedVariables false
set_option linter.unusedSimpArgs false
set_option maxRecDepth 100000
set_option maxHeartbeats 4000000
namespace Go.Proofs.YtjleekdidedhaaaDoor
open Sx
inductive S5a (A0 A1 A2 A7 A8 A10 A11 : Value) : List Value → Prop
  | mk {r3 r4 r5 r6 r9 r12 r13 r14 r15 r16 r17 r18 r19 r20 r21 r22 r23 r24 r25 r26 r27 r28 r29 r30 r31 r32 r33 r34 r35 r36 r37 r38 r39 r40 r41 r42 r43 r44 r45 r46 r47 r48 r49 r50 r51 r52 r53 r54 r55 r56 r57 r58 r59 r60 r61 r62 r63 r64 r65 r66 r67 r68 r69 r70 r71 r72 r73 r74 r75 r76 r77 r78 r79 r80 r81 r82 r83 r84 r85 r86 r87 r88 r89 r90 r91 r92 r93 r94 r95 r96 r97 r98 r99 r100 r101 r102 r103 r104 r105 r106 r107 r108 r109 r110 r111 r112 r113 r114 r115 r116 r117 r118 r119 r120 r121 r122 r123 r124 r125 r126 r127 r128 r129 r130 r131 r132 r133 r134 r135 r136 r137 r138 r139 r140 r141 r142 r143 r144 r145 r146 r147 : Value} : S5a A0 A1 A2 A7 A8 A10 A11 [A0, A1, A2, r3, r4, r5, r6, A7, A8, r9, A10, A11, r12, r13, r14, r15, r16, r17, r18, r19, r20, r21, r22, r23, r24, r25, r26, r27, r28, r29, r30, r31, r32, r33, r34, r35, r36, r37, r38, r39, r40, r41, r42, r43, r44, r45, r46, r47, r48, r49, r50, r51, r52, r53, r54, r55, r56, r57, r58, r59, r60, r61, r62, r63, r64, r65, r66, r67, r68, r69, r70, r71, r72, r73, r74, r75, r76, r77, r78, r79, r80, r81, r82, r83, r84, r85, r86, r87, r88, r89, r90, r91, r92, r93, r94, r95, r96, r97, r98, r99, r100, r101, r102, r103, r104, r105, r106, r107, r108, r109, r110, r111, r112, r113, r114, r115, r116, r117, r118, r119, r120, r121, r122, r123, r124, r125, r126, r127, r128, r129, r130, r131, r132, r133, r134, r135, r136, r137, r138, r139, r140, r141, r142, r143, r144, r145, r146, r147]
inductive S5b (A0 A7 A12 A13 A15 : Value) : List Value → Prop
  | mk {r1 r2 r3 r4 r5 r6 r8 r9 r10 r11 r14 r16 r17 r18 r19 r20 r21 r22 r23 r24 r25 r26 r27 r28 r29 r30 r31 r32 r33 r34 r35 r36 r37 r38 r39 r40 r41 r42 r43 r44 r45 r46 r47 r48 r49 r50 r51 r52 r53 r54 r55 r56 r57 r58 r59 r60 r61 r62 r63 r64 r65 r66 r67 r68 r69 r70 r71 r72 r73 r74 r75 r76 r77 r78 r79 r80 r81 r82 r83 r84 r85 r86 r87 r88 r89 r90 r91 r92 r93 r94 r95 r96 r97 r98 r99 r100 r101 r102 r103 r104 r105 r106 r107 r108 r109 r110 r111 r112 r113 r114 r115 r116 r117 r118 r119 r120 r121 r122 r123 r124 r125 r126 r127 r128 r129 r130 r131 r132 r133 r134 r135 r136 r137 r138 r139 r140 r141 r142 r143 r144 r145 r146 r147 : Value} : S5b A0 A7 A12 A13 A15 [A0, r1, r2, r3, r4, r5, r6, A7, r8, r9, r10, r11, A12, A13, r14, A15, r16, r17, r18, r19, r20, r21, r22, r23, r24, r25, r26, r27, r28, r29, r30, r31, r32, r33, r34, r35, r36, r37, r38, r39, r40, r41, r42, r43, r44, r45, r46, r47, r48, r49, r50, r51, r52, r53, r54, r55, r56, r57, r58, r59, r60, r61, r62, r63, r64, r65, r66, r67, r68, r69, r70, r71, r72, r73, r74, r75, r76, r77, r78, r79, r80, r81, r82, r83, r84, r85, r86, r87, r88, r89, r90, r91, r92, r93, r94, r95, r96, r97, r98, r99, r100, r101, r102, r103, r104, r105, r106, r107, r108, r109, r110, r111, r112, r113, r114, r115, r116, r117, r118, r119, r120, r121, r122, r123, r124, r125, r126, r127, r128, r129, r130, r131, r132, r133, r134, r135, r136, r137, r138, r139, r140, r141, r142, r143, r144, r145, r146, r147]
section
variable {K : Value → Heap → Prop} {H : Heap} {L : List Msg} {un : Nat} {sv ov : Value} {offs : List Nat}
theorem c17 (hin : InS mC 5 sv H L) (hG : Goods L) (hK : ∀ b, K (.bool b) H) : SCalls Tryd.prog 17 [sv, .int .u64 (un : Int)] H K := by
  obtain ⟨sa, sc, rfl, hml⟩ := hin.sv
  have h64 := hG.len
  refine enter17 ?_
  repeat' ((conv => whnf); (first | refine New.mk (fun _ => ?_) | refine Look.at0 ?_ | refine Cell.row ?_ | refine Cell.buf ?_ | refine Cells.row rfl ?_ | refine Put.row rfl ?_ | refine Put.buf rfl ?_ | refine Look.at1 ?_ | refine Look.at2 ?_ | refine Look.at3 ?_ | refine Look.at4 ?_ | refine Look.at5 ?_ | refine Look.at6 ?_ | refine Look.at7 ?_ | refine Look.at8 ?_ | with_reducible refine Val.i64 (by omega) (by omega) ?_ | with_reducible refine Val.u8 (by omega) (by omega) ?_ | with_reducible refine Val.u32 (by omega) (by omega) ?_ | with_reducible refine Val.u64 (by omega) (by omega) ?_ | with_reducible refine Val.u8m ?_ | with_reducible refine Val.u32m ?_ | with_reducible refine Val.u64m ?_ | with_reducible refine Val.shr8 ?_ | with_reducible refine Val.shr16 (by decide) ?_ | with_reducible refine Val.shr24 (by decide) ?_ | with_reducible refine Val.raw ?_ | refine Branch.not ?_ | refine Branch.and ?_ | refine Branch.or ?_ | refine Branch.dt (by assumption) ?_ | refine Branch.df (by assumption) ?_ | refine Branch.dt rfl ?_ | refine Branch.dt (by omega) ?_ | refine Branch.df (by omega) ?_ | refine Branch.t rfl ?_ | refine Branch.f rfl ?_ | refine Branch.t (by assumption) ?_ | refine Branch.f (by assumption) ?_ | refine Branch.d (fun _ => ?_) (fun _ => ?_) | refine Branch.mk (fun _ => ?_) (fun _ => ?_) | refine Need.mk (by first | omega | decide | rfl) ?_ | refine Idx.nat (by omega) ?_ | refine Idx.auto (by first | omega | decide) (by first | omega | decide) ?_ | refine Cell.ro rfl ?_ | refine SDraw.all (by kernel_rfl) ?_ | refine Kept.k0 ?_ | refine Kept.k1 ?_ | refine Kept.k2 ?_ | refine Kept.k3 ?_ | refine Kept.k4 ?_))
  refine SLoop.invA (fun (y : Nat × Int) S H' => y.1 ≤ L.length ∧ S17 (.slice sa L.length sc) (.int .u64 (un : Int)) (.int .u64 y.2) (.int .i64 (y.1 : Int)) S ∧ H' = H) (fun y => L.length - y.1) (0, 0) (Keep.all ⟨Nat.zero_le _, .mk, rfl⟩) ?_
  rintro ⟨k, x⟩ S H' ⟨hk, hS, rfl⟩ R hR
  dsimp only at hk hS hR ⊢
  cases hS
  by_cases hlt : k < L.length
  · obtain ⟨m, hx, hdrop, htake⟩ := list_at hlt
    obtain ⟨r, o, c, b, e1, hrb, hcc⟩ := inS_at hin (fun _ => rfl) hx
    injection e1 with e1 _ e3
    subst e1
    have hgm := hG.good m (List.mem_of_getElem? hx)
    have hp1 := hgm.p1
    have hm3 := hcc 3 _ rfl
    have hp0 : ¬ (m.p : Int) = 0 := by omega
    have hnext : ∀ S x', S17 (.slice (some ⟨r, o, none⟩) L.length sc) (.int .u64 (un : Int)) (.int .u64 x') (.int .i64 ((k + 1 : Nat) : Int)) S → R S H' := fun S x' hS => hR (k + 1, x') S H' (by show L.length - (k + 1) < L.length - k; omega) (Keep.all ⟨hlt, hS, rfl⟩)
    clear hR
    repeat' ((conv => whnf); (first | refine Branch.dt (by omega) ?_ | refine Look.cell hrb hm3 ?_ | refine Need.mk hp0 ?_ | with_reducible refine Val.to ((k + 1 : Nat) : Int) (by rw [wrap_i64 (by omega) (by omega)]; omega) ?_ | exact hnext _ _ .mk | refine New.mk (fun _ => ?_) | refine Look.at0 ?_ | refine Cell.row ?_ | refine Cell.buf ?_ | refine Cells.row rfl ?_ | refine Put.row rfl ?_ | refine Put.buf rfl ?_ | refine Look.at1 ?_ | refine Look.at2 ?_ | refine Look.at3 ?_ | refine Look.at4 ?_ | refine Look.at5 ?_ | refine Look.at6 ?_ | refine Look.at7 ?_ | refine Look.at8 ?_ | with_reducible refine Val.i64 (by omega) (by omega) ?_ | with_reducible refine Val.u8 (by omega) (by omega) ?_ | with_reducible refine Val.u32 (by omega) (by omega) ?_ | with_reducible refine Val.u64 (by omega) (by omega) ?_ | with_reducible refine Val.u8m ?_ | with_reducible refine Val.u32m ?_ | with_reducible refine Val.u64m ?_ | with_reducible refine Val.shr8 ?_ | with_reducible refine Val.shr16 (by decide) ?_ | with_reducible refine Val.shr24 (by decide) ?_ | with_reducible refine Val.raw ?_ | refine Branch.not ?_ | refine Branch.and ?_ | refine Branch.or ?_ | refine Branch.dt (by assumption) ?_ | refine Branch.df (by assumption) ?_ | refine Branch.dt rfl ?_ | refine Branch.dt (by omega) ?_ | refine Branch.df (by omega) ?_ | refine Branch.t rfl ?_ | refine Branch.f rfl ?_ | refine Branch.t (by assumption) ?_ | refine Branch.f (by assumption) ?_ | refine Branch.d (fun _ => ?_) (fun _ => ?_) | refine Branch.mk (fun _ => ?_) (fun _ => ?_) | refine Need.mk (by first | omega | decide | rfl) ?_ | refine Idx.nat (by omega) ?_ | refine Idx.auto (by first | omega | decide) (by first | omega | decide) ?_ | refine Cell.ro rfl ?_ | refine SDraw.all (by kernel_rfl) ?_ | refine Kept.k0 ?_ | refine Kept.k1 ?_ | refine Kept.k2 ?_ | refine Kept.k3 ?_ | refine Kept.k4 ?_))
  · clear hR
    repeat' ((conv => whnf); (first | refine Branch.df (by omega) ?_ | exact Keep.all (hK _) | refine New.mk (fun _ => ?_) | refine Look.at0 ?_ | refine Cell.row ?_ | refine Cell.buf ?_ | refine Cells.row rfl ?_ | refine Put.row rfl ?_ | refine Put.buf rfl ?_ | refine Look.at1 ?_ | refine Look.at2 ?_ | refine Look.at3 ?_ | refine Look.at4 ?_ | refine Look.at5 ?_ | refine Look.at6 ?_ | refine Look.at7 ?_ | refine Look.at8 ?_ | with_reducible refine Val.i64 (by omega) (by omega) ?_ | with_reducible refine Val.u8 (by omega) (by omega) ?_ | with_reducible refine Val.u32 (by omega) (by omega) ?_ | with_reducible refine Val.u64 (by omega) (by omega) ?_ | with_reducible refine Val.u8m ?_ | with_reducible refine Val.u32m ?_ | with_reducible refine Val.u64m ?_ | with_reducible refine Val.shr8 ?_ | with_reducible refine Val.shr16 (by decide) ?_ | with_reducible refine Val.shr24 (by decide) ?_ | with_reducible refine Val.raw ?_ | refine Branch.not ?_ | refine Branch.and ?_ | refine Branch.or ?_ | refine Branch.dt (by assumption) ?_ | refine Branch.df (by assumption) ?_ | refine Branch.dt rfl ?_ | refine Branch.dt (by omega) ?_ | refine Branch.df (by omega) ?_ | refine Branch.t rfl ?_ | refine Branch.f rfl ?_ | refine Branch.t (by assumption) ?_ | refine Branch.f (by assumption) ?_ | refine Branch.d (fun _ => ?_) (fun _ => ?_) | refine Branch.mk (fun _ => ?_) (fun _ => ?_) | refine Need.mk (by first | omega | decide | rfl) ?_ | refine Idx.nat (by omega) ?_ | refine Idx.auto (by first | omega | decide) (by first | omega | decide) ?_ | refine Cell.ro rfl ?_ | refine SDraw.all (by kernel_rfl) ?_ | refine Kept.k0 ?_ | refine Kept.k1 ?_ | refine Kept.k2 ?_ | refine Kept.k3 ?_ | refine Kept.k4 ?_))
def I5a (sv ov pv : Value) (un : Nat) (e : Int) (L : List Msg) (offs : List Nat) (H : Heap) (y : Nat × Bool) (S : List Value) (H' : Heap) : Prop :=
  y.1 ≤ L.length ∧ (y.2 = false → ∀ (j : Nat) (m : Msg) (o : Nat), j < y.1 → L[j]? = some m → offs[j]? = some o → o ≤ m.j) ∧ (y.2 = true → ∃ (j : Nat) (m : Msg) (o : Nat), L[j]? = some m ∧ offs[j]? = some o ∧ m.j < o) ∧
    S5a sv ov (.int .u64 (un : Int)) pv (.int .i64 e) (.bool y.2) (.int .i64 (y.1 : Int)) S ∧ H' = H
/-- Whether an offset is beyond its jitter. -/
theorem l5a {Q : Post} {S0 : List Value} {sa oa : Option Addr} {sc oc : Nat} {pv : Value} {e : Int} (hin : InS mC 5 (.slice sa L.length sc) H L) (hof : InS fU 1 (.slice oa offs.length oc) H offs) (hlen : offs.length = L.length) (hml : L.length ≤ 4398046511104)
    (hS : S5a (.slice sa L.length sc) (.slice oa offs.length oc) (.int .u64 (un : Int)) pv (.int .i64 e) (.bool false) (.int .i64 0) S0)
    (hQ0 : (∀ (j : Nat) (m : Msg) (o : Nat), L[j]? = some m → offs[j]? = some o → o ≤ m.j) → ∀ S i, S5a (.slice sa L.length sc) (.slice oa offs.length oc) (.int .u64 (un : Int)) pv (.int .i64 e) (.bool false) i S → Q (.exit 0) S H)
    (hQ1 : (∃ (j : Nat) (m : Msg) (o : Nat), L[j]? = some m ∧ offs[j]? = some o ∧ m.j < o) → ∀ S i, S5a (.slice sa L.length sc) (.slice oa offs.length oc) (.int .u64 (un : Int)) pv (.int .i64 e) (.bool true) i S → Q (.exit 0) S H) :
    SLoop Tryd.prog X5_l1 Q S0 H := by
  refine SLoop.invA (I5a (.slice sa L.length sc) (.slice oa offs.length oc) pv un e L offs H) (fun y => L.length - y.1) (0, false) (Keep.all ⟨Nat.zero_le _, fun _ j m o h => absurd h (Nat.not_lt_zero _), (fun h => by cases h), hS, rfl⟩) ?_
  rintro ⟨k, bd⟩ S H' ⟨hk, h0, h1, hS, rfl⟩ R hR
  dsimp only at hk h0 h1 hS hR ⊢
  cases hS
  cases bd with
  | true =>
    have hq := hQ1 (h1 rfl)
    clear hR hQ0 hQ1
    by_cases hlt : k < L.length
    · repeat' ((conv => whnf); (first | refine Branch.dt (by omega) ?_ | refine Branch.t rfl ?_ | refine Branch.f rfl ?_ | exact Keep.all (hq _ _ .mk) | exact hq _ _ .mk | refine New.mk (fun _ => ?_) | refine Look.at0 ?_ | refine Cell.row ?_ | refine Cell.buf ?_ | refine Cells.row rfl ?_ | refine Put.row rfl ?_ | refine Put.buf rfl ?_ | refine Look.at1 ?_ | refine Look.at2 ?_ | refine Look.at3 ?_ | refine Look.at4 ?_ | refine Look.at5 ?_ | refine Look.at6 ?_ | refine Look.at7 ?_ | refine Look.at8 ?_ | with_reducible refine Val.i64 (by omega) (by omega) ?_ | with_reducible refine Val.u8 (by omega) (by omega) ?_ | with_reducible refine Val.u32 (by omega) (by omega) ?_ | with_reducible refine Val.u64 (by omega) (by omega) ?_ | with_reducible refine Val.u8m ?_ | with_reducible refine Val.u32m ?_ | with_reducible refine Val.u64m ?_ | with_reducible refine Val.shr8 ?_ | with_reducible refine Val.shr16 (by decide) ?_ | with_reducible refine Val.shr24 (by decide) ?_ | with_reducible refine Val.raw ?_ | refine Branch.not ?_ | refine Branch.and ?_ | refine Branch.or ?_ | refine Branch.dt (by assumption) ?_ | refine Branch.df (by assumption) ?_ | refine Branch.dt rfl ?_ | refine Branch.dt (by omega) ?_ | refine Branch.df (by omega) ?_ | refine Branch.t rfl ?_ | refine Branch.f rfl ?_ | refine Branch.t (by assumption) ?_ | refine Branch.f (by assumption) ?_ | refine Branch.d (fun _ => ?_) (fun _ => ?_) | refine Branch.mk (fun _ => ?_) (fun _ => ?_) | refine Need.mk (by first | omega | decide | rfl) ?_ | refine Idx.nat (by omega) ?_ | refine Idx.auto (by first | omega | decide) (by first | omega | decide) ?_ | refine Cell.ro rfl ?_ | refine SDraw.all (by kernel_rfl) ?_ | refine Kept.k0 ?_ | refine Kept.k1 ?_ | refine Kept.k2 ?_ | refine Kept.k3 ?_ | refine Kept.k4 ?_))
    · repeat' ((conv => whnf); (first | refine Branch.df (by omega) ?_ | refine Branch.t rfl ?_ | refine Branch.f rfl ?_ | exact Keep.all (hq _ _ .mk) | exact hq _ _ .mk | refine New.mk (fun _ => ?_) | refine Look.at0 ?_ | refine Cell.row ?_ | refine Cell.buf ?_ | refine Cells.row rfl ?_ | refine Put.row rfl ?_ | refine Put.buf rfl ?_ | refine Look.at1 ?_ | refine Look.at2 ?_ | refine Look.at3 ?_ | refine Look.at4 ?_ | refine Look.at5 ?_ | refine Look.at6 ?_ | refine Look.at7 ?_ | refine Look.at8 ?_ | with_reducible refine Val.i64 (by omega) (by omega) ?_ | with_reducible refine Val.u8 (by omega) (by omega) ?_ | with_reducible refine Val.u32 (by omega) (by omega) ?_ | with_reducible refine Val.u64 (by omega) (by omega) ?_ | with_reducible refine Val.u8m ?_ | with_reducible refine Val.u32m ?_ | with_reducible refine Val.u64m ?_ | with_reducible refine Val.shr8 ?_ | with_reducible refine Val.shr16 (by decide) ?_ | with_reducible refine Val.shr24 (by decide) ?_ | with_reducible refine Val.raw ?_ | refine Branch.not ?_ | refine Branch.and ?_ | refine Branch.or ?_ | refine Branch.dt (by assumption) ?_ | refine Branch.df (by assumption) ?_ | refine Branch.dt rfl ?_ | refine Branch.dt (by omega) ?_ | refine Branch.df (by omega) ?_ | refine Branch.t rfl ?_ | refine Branch.f rfl ?_ | refine Branch.t (by assumption) ?_ | refine Branch.f (by assumption) ?_ | refine Branch.d (fun _ => ?_) (fun _ => ?_) | refine Branch.mk (fun _ => ?_) (fun _ => ?_) | refine Need.mk (by first | omega | decide | rfl) ?_ | refine Idx.nat (by omega) ?_ | refine Idx.auto (by first | omega | decide) (by first | omega | decide) ?_ | refine Cell.ro rfl ?_ | refine SDraw.all (by kernel_rfl) ?_ | refine Kept.k0 ?_ | refine Kept.k1 ?_ | refine Kept.k2 ?_ | refine Kept.k3 ?_ | refine Kept.k4 ?_))
  | false =>
    by_cases hlt : k < L.length
    · obtain ⟨m, hx, hdrop, htake⟩ := list_at hlt
      obtain ⟨r2, o2, c2, b2, e1, hrb2, hc2⟩ := inS_at hin (fun _ => rfl) hx
      injection e1 with e1 _ e3
      subst e1
      have hd4 := hc2 4 _ rfl
      obtain ⟨of, hof1⟩ : ∃ of, offs[k]? = some of := ⟨_, List.getElem?_eq_getElem (by omega)⟩
      obtain ⟨o3, oo, c3, b3, e2, hob, hoc⟩ := hof.at1 hof1 rfl
      injection e2 with e2 _ e4
      subst e2
      have hkl2 : k < offs.length := by omega
      have hnext : ∀ S bd, bd = decide ((m.j : Int) < (of : Int)) → S5a (.slice (some ⟨r2, o2, none⟩) L.length sc) (.slice (some ⟨o3, oo, none⟩) offs.length oc) (.int .u64 (un : Int)) pv (.int .i64 e) (.bool bd) (.int .i64 ((k + 1 : Nat) : Int)) S → R S H' := by
        intro S bd hbd hS
        refine hR (k + 1, bd) S H' (by show L.length - (k + 1) < L.length - k; omega) (Keep.all ⟨hlt, fun hb j m' o' hj hm' ho' => ?_, fun hb => ⟨k, m, of, hx, hof1, ?_⟩, hS, rfl⟩)
        · rcases Nat.lt_or_ge j k with h | h
          · exact h0 rfl j m' o' h hm' ho'
          · have hj : j < k + 1 := hj
            obtain rfl : j = k := by omega
            rw [hx] at hm'
            rw [hof1] at ho'
            injection hm' with hm'
            injection ho' with ho'
            subst hm' ho'
            have hb : bd = false := hb
            rw [hbd] at hb
            have := of_decide_eq_false hb
            omega
        · have hb : bd = true := hb
          rw [hbd] at hb
          have := of_decide_eq_true hb
          omega
      clear hR hQ0 hQ1
      repeat' ((conv => whnf); (first | refine Branch.dt (by omega) ?_ | refine Branch.t rfl ?_ | refine Branch.f rfl ?_ | refine Idx.of k rfl (by omega) ?_ | refine Look.cell hob hoc ?_ | refine Look.cell hrb2 hd4 ?_ | exact hnext _ _ rfl .mk | refine New.mk (fun _ => ?_) | refine Look.at0 ?_ | refine Cell.row ?_ | refine Cell.buf ?_ | refine Cells.row rfl ?_ | refine Put.row rfl ?_ | refine Put.buf rfl ?_ | refine Look.at1 ?_ | refine Look.at2 ?_ | refine Look.at3 ?_ | refine Look.at4 ?_ | refine Look.at5 ?_ | refine Look.at6 ?_ | refine Look.at7 ?_ | refine Look.at8 ?_ | with_reducible refine Val.i64 (by omega) (by omega) ?_ | with_reducible refine Val.u8 (by omega) (by omega) ?_ | with_reducible refine Val.u32 (by omega) (by omega) ?_ | with_reducible refine Val.u64 (by omega) (by omega) ?_ | with_reducible refine Val.u8m ?_ | with_reducible refine Val.u32m ?_ | with_reducible refine Val.u64m ?_ | with_reducible refine Val.shr8 ?_ | with_reducible refine Val.shr16 (by decide) ?_ | with_reducible refine Val.shr24 (by decide) ?_ | with_reducible refine Val.raw ?_ | refine Branch.not ?_ | refine Branch.and ?_ | refine Branch.or ?_ | refine Branch.dt (by assumption) ?_ | refine Branch.df (by assumption) ?_ | refine Branch.dt rfl ?_ | refine Branch.dt (by omega) ?_ | refine Branch.df (by omega) ?_ | refine Branch.t rfl ?_ | refine Branch.f rfl ?_ | refine Branch.t (by assumption) ?_ | refine Branch.f (by assumption) ?_ | refine Branch.d (fun _ => ?_) (fun _ => ?_) | refine Branch.mk (fun _ => ?_) (fun _ => ?_) | refine Need.mk (by first | omega | decide | rfl) ?_ | refine Idx.nat (by omega) ?_ | refine Idx.auto (by first | omega | decide) (by first | omega | decide) ?_ | refine Cell.ro rfl ?_ | refine SDraw.all (by kernel_rfl) ?_ | refine Kept.k0 ?_ | refine Kept.k1 ?_ | refine Kept.k2 ?_ | refine Kept.k3 ?_ | refine Kept.k4 ?_))
    · have hq := hQ0 (fun j m o hm ho => h0 rfl j m o (by
        have := (List.getElem?_eq_some_iff.1 hm).1
        show j < k
        omega) hm ho)
      clear hR hQ0 hQ1
      repeat' ((conv => whnf); (first | refine Branch.df (by omega) ?_ | refine Branch.t rfl ?_ | refine Branch.f rfl ?_ | exact Keep.all (hq _ _ .mk) | exact hq _ _ .mk | refine New.mk (fun _ => ?_) | refine Look.at0 ?_ | refine Cell.row ?_ | refine Cell.buf ?_ | refine Cells.row rfl ?_ | refine Put.row rfl ?_ | refine Put.buf rfl ?_ | refine Look.at1 ?_ | refine Look.at2 ?_ | refine Look.at3 ?_ | refine Look.at4 ?_ | refine Look.at5 ?_ | refine Look.at6 ?_ | refine Look.at7 ?_ | refine Look.at8 ?_ | with_reducible refine Val.i64 (by omega) (by omega) ?_ | with_reducible refine Val.u8 (by omega) (by omega) ?_ | with_reducible refine Val.u32 (by omega) (by omega) ?_ | with_reducible refine Val.u64 (by omega) (by omega) ?_ | with_reducible refine Val.u8m ?_ | with_reducible refine Val.u32m ?_ | with_reducible refine Val.u64m ?_ | with_reducible refine Val.shr8 ?_ | with_reducible refine Val.shr16 (by decide) ?_ | with_reducible refine Val.shr24 (by decide) ?_ | with_reducible refine Val.raw ?_ | refine Branch.not ?_ | refine Branch.and ?_ | refine Branch.or ?_ | refine Branch.dt (by assumption) ?_ | refine Branch.df (by assumption) ?_ | refine Branch.dt rfl ?_ | refine Branch.dt (by omega) ?_ | refine Branch.df (by omega) ?_ | refine Branch.t rfl ?_ | refine Branch.f rfl ?_ | refine Branch.t (by assumption) ?_ | refine Branch.f (by assumption) ?_ | refine Branch.d (fun _ => ?_) (fun _ => ?_) | refine Branch.mk (fun _ => ?_) (fun _ => ?_) | refine Need.mk (by first | omega | decide | rfl) ?_ | refine Idx.nat (by omega) ?_ | refine Idx.auto (by first | omega | decide) (by first | omega | decide) ?_ | refine Cell.ro rfl ?_ | refine SDraw.all (by kernel_rfl) ?_ | refine Kept.k0 ?_ | refine Kept.k1 ?_ | refine Kept.k2 ?_ | refine Kept.k3 ?_ | refine Kept.k4 ?_))
def I5b (sv pv qv : Value) (ft : Bool) (L : List Msg) (H : Heap) (k : Nat) (S : List Value) (H' : Heap) : Prop :=
  k ≤ L.length ∧ S5b sv pv qv (.bool ft) (.int .i64 (k : Int)) S ∧ H' = H
/-- What was played is the document's, and no longer than was reckoned. -/
theorem l5b {Q : Post} {S0 : List Value} {sa : Option Addr} {sc ob ro : Nat} {r : List Nat} (hD : Db H) (hin : InS mC 5 (.slice sa L.length sc) H L) (hb : L.length * 32 ≤ 140737488355328) (hG : Goods L) (hwf : ∀ m ∈ L, m.wf) (hc : chk L = 0) (hrl : r.length = L.length) (hm1 : (ob, Blk.buf 28 (r.map u64) L.length) ∈ H) (hm2 : (ro, Blk.buf 28 (r.map u64) L.length) ∈ H)
    (hw : ∀ (i : Nat) (m : Msg), L[i]? = some m → fitsS L = true → ∀ v, r[i]? = some v → v ≤ (worstS L m).1)
    (hS : S5b (.slice sa L.length sc) (.slice (some ⟨ob, 0, none⟩) L.length L.length) (.slice (some ⟨ro, 0, none⟩) L.length L.length) (.bool (fitsS L)) (.int .i64 0) S0)
    (hQ : ∀ S i, S5b (.slice sa L.length sc) (.slice (some ⟨ob, 0, none⟩) L.length L.length) (.slice (some ⟨ro, 0, none⟩) L.length L.length) (.bool (fitsS L)) i S → Q (.exit 2) S H) : SLoop Tryd.prog X5_l0 Q S0 H := by
  have hml : L.length ≤ maxLen := by simp only [maxLen]; omega
  refine SLoop.invA (I5b (.slice sa L.length sc) (.slice (some ⟨ob, 0, none⟩) L.length L.length) (.slice (some ⟨ro, 0, none⟩) L.length L.length) (fitsS L) L H) (fun k => L.length - k) 0 (Keep.all ⟨Nat.zero_le _, hS, rfl⟩) ?_
  rintro k S H' ⟨hk, hS, rfl⟩ R hR
  cases hS
  by_cases hlt : k < L.length
  · obtain ⟨y, hx, hdrop, htake⟩ := list_at hlt
    obtain ⟨v, hv⟩ : ∃ v, r[k]? = some v := ⟨_, List.getElem?_eq_getElem (by omega)⟩
    have hwk := hw k y hx
    have h11 : ∀ (q c : Nat) (K2 : Value → Heap → Prop), K2 (.tuple ⟨[.int .u64 ((worstS L y).1 : Int), .bool (worstS L y).2, .int .i64 0]⟩) (bufR q c L :: H') → SCalls Tryd.prog 11 [.slice (some ⟨q, 0, none⟩) L.length c, .int .i64 (k : Int)] (bufR q c L :: H') K2 := fun q c K2 h2 => c11 (hD.mono fun _ hz => .tail _ hz) (buf_in hml) hG hwf hc hx h2
    have hnext := fun S (z1 : Nat × Blk) (hS : S5b (.slice sa L.length sc) (.slice (some ⟨ob, 0, none⟩) L.length L.length) (.slice (some ⟨ro, 0, none⟩) L.length L.length) (.bool (fitsS L)) (.int .i64 ((k + 1 : Nat) : Int)) S) => hR (k + 1) S (z1 :: H') (by omega) (Keep.d1 ⟨hlt, hS, rfl⟩)
    have hcell : (Blk.buf 28 (r.map u64) L.length).cell (0 + k * 1) = some (.int .u64 (v : Int)) := by
      show (r.map u64)[0 + k * 1]? = _
      rw [Nat.zero_add, Nat.mul_one, List.getElem?_map, hv]; rfl
    have hne : (!decide ((v : Int) = (v : Int))) = false := by simp
    clear hR hQ
    generalize worstS L y = W at *
    obtain ⟨w1, w2⟩ := W
    dsimp only at h11 hwk
    cases hft : fitsS L with
    | true =>
      rw [hft] at hnext hwk
      have hle := hwk rfl v hv
      repeat' ((conv => whnf); (first | refine Branch.dt (by omega) ?_ | refine c9 hin hb (fun q c k1 k2 => ?_) | refine h11 _ _ _ ?_ | refine Look.cell (.tail _ hm1) hcell ?_ | refine Look.cell (.tail _ hm2) hcell ?_ | refine Idx.of k rfl (by omega) ?_ | refine Branch.f hne ?_ | refine Branch.t rfl ?_ | refine Branch.df (by omega) ?_ | exact hnext _ _ .mk | refine New.mk (fun _ => ?_) | refine Look.at0 ?_ | refine Cell.row ?_ | refine Cell.buf ?_ | refine Cells.row rfl ?_ | refine Put.row rfl ?_ | refine Put.buf rfl ?_ | refine Look.at1 ?_ | refine Look.at2 ?_ | refine Look.at3 ?_ | refine Look.at4 ?_ | refine Look.at5 ?_ | refine Look.at6 ?_ | refine Look.at7 ?_ | refine Look.at8 ?_ | with_reducible refine Val.i64 (by omega) (by omega) ?_ | with_reducible refine Val.u8 (by omega) (by omega) ?_ | with_reducible refine Val.u32 (by omega) (by omega) ?_ | with_reducible refine Val.u64 (by omega) (by omega) ?_ | with_reducible refine Val.u8m ?_ | with_reducible refine Val.u32m ?_ | with_reducible refine Val.u64m ?_ | with_reducible refine Val.shr8 ?_ | with_reducible refine Val.shr16 (by decide) ?_ | with_reducible refine Val.shr24 (by decide) ?_ | with_reducible refine Val.raw ?_ | refine Branch.not ?_ | refine Branch.and ?_ | refine Branch.or ?_ | refine Branch.dt (by assumption) ?_ | refine Branch.df (by assumption) ?_ | refine Branch.dt rfl ?_ | refine Branch.dt (by omega) ?_ | refine Branch.df (by omega) ?_ | refine Branch.t rfl ?_ | refine Branch.f rfl ?_ | refine Branch.t (by assumption) ?_ | refine Branch.f (by assumption) ?_ | refine Branch.d (fun _ => ?_) (fun _ => ?_) | refine Branch.mk (fun _ => ?_) (fun _ => ?_) | refine Need.mk (by first | omega | decide | rfl) ?_ | refine Idx.nat (by omega) ?_ | refine Idx.auto (by first | omega | decide) (by first | omega | decide) ?_ | refine Cell.ro rfl ?_ | refine SDraw.all (by kernel_rfl) ?_ | refine Kept.k0 ?_ | refine Kept.k1 ?_ | refine Kept.k2 ?_ | refine Kept.k3 ?_ | refine Kept.k4 ?_))
    | false =>
      rw [hft] at hnext
      repeat' ((conv => whnf); (first | refine Branch.dt (by omega) ?_ | refine c9 hin hb (fun q c k1 k2 => ?_) | refine h11 _ _ _ ?_ | refine Look.cell (.tail _ hm1) hcell ?_ | refine Look.cell (.tail _ hm2) hcell ?_ | refine Idx.of k rfl (by omega) ?_ | refine Branch.f hne ?_ | refine Branch.f rfl ?_ | exact hnext _ _ .mk | refine New.mk (fun _ => ?_) | refine Look.at0 ?_ | refine Cell.row ?_ | refine Cell.buf ?_ | refine Cells.row rfl ?_ | refine Put.row rfl ?_ | refine Put.buf rfl ?_ | refine Look.at1 ?_ | refine Look.at2 ?_ | refine Look.at3 ?_ | refine Look.at4 ?_ | refine Look.at5 ?_ | refine Look.at6 ?_ | refine Look.at7 ?_ | refine Look.at8 ?_ | with_reducible refine Val.i64 (by omega) (by omega) ?_ | with_reducible refine Val.u8 (by omega) (by omega) ?_ | with_reducible refine Val.u32 (by omega) (by omega) ?_ | with_reducible refine Val.u64 (by omega) (by omega) ?_ | with_reducible refine Val.u8m ?_ | with_reducible refine Val.u32m ?_ | with_reducible refine Val.u64m ?_ | with_reducible refine Val.shr8 ?_ | with_reducible refine Val.shr16 (by decide) ?_ | with_reducible refine Val.shr24 (by decide) ?_ | with_reducible refine Val.raw ?_ | refine Branch.not ?_ | refine Branch.and ?_ | refine Branch.or ?_ | refine Branch.dt (by assumption) ?_ | refine Branch.df (by assumption) ?_ | refine Branch.dt rfl ?_ | refine Branch.dt (by omega) ?_ | refine Branch.df (by omega) ?_ | refine Branch.t rfl ?_ | refine Branch.f rfl ?_ | refine Branch.t (by assumption) ?_ | refine Branch.f (by assumption) ?_ | refine Branch.d (fun _ => ?_) (fun _ => ?_) | refine Branch.mk (fun _ => ?_) (fun _ => ?_) | refine Need.mk (by first | omega | decide | rfl) ?_ | refine Idx.nat (by omega) ?_ | refine Idx.auto (by first | omega | decide) (by first | omega | decide) ?_ | refine Cell.ro rfl ?_ | refine SDraw.all (by kernel_rfl) ?_ | refine Kept.k0 ?_ | refine Kept.k1 ?_ | refine Kept.k2 ?_ | refine Kept.k3 ?_ | refine Kept.k4 ?_))
  · have hq := hQ
    clear hR hQ
    repeat' ((conv => whnf); (first | refine Branch.df (by omega) ?_ | exact Keep.all (hq _ _ .mk) | exact hq _ _ .mk | refine New.mk (fun _ => ?_) | refine Look.at0 ?_ | refine Cell.row ?_ | refine Cell.buf ?_ | refine Cells.row rfl ?_ | refine Put.row rfl ?_ | refine Put.buf rfl ?_ | refine Look.at1 ?_ | refine Look.at2 ?_ | refine Look.at3 ?_ | refine Look.at4 ?_ | refine Look.at5 ?_ | refine Look.at6 ?_ | refine Look.at7 ?_ | refine Look.at8 ?_ | with_reducible refine Val.i64 (by omega) (by omega) ?_ | with_reducible refine Val.u8 (by omega) (by omega) ?_ | with_reducible refine Val.u32 (by omega) (by omega) ?_ | with_reducible refine Val.u64 (by omega) (by omega) ?_ | with_reducible refine Val.u8m ?_ | with_reducible refine Val.u32m ?_ | with_reducible refine Val.u64m ?_ | with_reducible refine Val.shr8 ?_ | with_reducible refine Val.shr16 (by decide) ?_ | with_reducible refine Val.shr24 (by decide) ?_ | with_reducible refine Val.raw ?_ | refine Branch.not ?_ | refine Branch.and ?_ | refine Branch.or ?_ | refine Branch.dt (by assumption) ?_ | refine Branch.df (by assumption) ?_ | refine Branch.dt rfl ?_ | refine Branch.dt (by omega) ?_ | refine Branch.df (by omega) ?_ | refine Branch.t rfl ?_ | refine Branch.f rfl ?_ | refine Branch.t (by assumption) ?_ | refine Branch.f (by assumption) ?_ | refine Branch.d (fun _ => ?_) (fun _ => ?_) | refine Branch.mk (fun _ => ?_) (fun _ => ?_) | refine Need.mk (by first | omega | decide | rfl) ?_ | refine Idx.nat (by omega) ?_ | refine Idx.auto (by first | omega | decide) (by first | omega | decide) ?_ | refine Cell.ro rfl ?_ | refine SDraw.all (by kernel_rfl) ?_ | refine Kept.k0 ?_ | refine Kept.k1 ?_ | refine Kept.k2 ?_ | refine Kept.k3 ?_ | refine Kept.k4 ?_))
theorem plays_c (hD : Db H) (hin : InS mC 5 sv H L) (hb : L.length * 32 ≤ 140737488355328) (hwf : ∀ m ∈ L, m.wf) (hof : InS fU 1 ov H offs) (hbo : offs.length * 8 ≤ 140737488355328) : SCalls Tryd.prog 5 [sv, ov, .int .u64 (un : Int)] H fun v _ => v = .bool true := by
  obtain ⟨sa, sc, rfl, hml⟩ := hin.sv
  obtain ⟨oa, oc, rfl, hol⟩ := hof.sv
  have hml2 : L.length ≤ 4398046511104 := by omega
  have h16 : ∀ (X : Heap) (K2 : Value → Heap → Prop), (∀ z ∈ H, z ∈ X) → K2 (.int .i64 (chk L)) X → SCalls Tryd.prog 16 [.slice sa L.length sc] X K2 := fun X K2 hX hk => c16 (hin.mono hX) hwf hk
  have hcp : ∀ p (w : Nat × Blk) (o : Oper) (xs xx : Operand) (K2 : Value → Heap → Prop), o.op = .call { callee := .builtin .append, args := #[xs, xx], argTypes := #[36, 36] } → (∀ q2 c2, K2 (.slice (some ⟨q2, 0, none⟩) offs.length c2) ((q2, .buf 28 (offs.flatMap fU) (c2 * 1)) :: w :: H)) → RawV Tryd.prog o [.slice (some ⟨p, 0, none⟩) 0 0, .slice oa offs.length oc] ((p, .row 28 [] (0, 0)) :: w :: H) K2 :=
    fun p w o xs xx K2 ho hk => RawV.copyS (bytes := 8) (hof.mono fun z hz => .tail _ hz) ho (by kernel_rfl) (by decide) (fun _ => rfl) (fun x u hu => by obtain rfl := List.mem_singleton.1 hu; rfl) hbo (fun q2 c2 _ _ => hk q2 c2)
  have hofb : ∀ q2 c2 (X : Heap), InS fU 1 (.slice (some ⟨q2, 0, none⟩) offs.length c2) ((q2, .buf 28 (offs.flatMap fU) (c2 * 1)) :: X) offs := fun q2 c2 X => InS.buf (.head _) rfl (fun _ => rfl) hol
  have h2 : ∀ (x y : Nat × Blk), ∀ z ∈ H, z ∈ x :: y :: H := fun x y z hz => .tail _ (.tail _ hz)
  by_cases hc : chk L = 0
  · rw [hc] at h16
    have hG := goods_of hwf hc
    have h64 := hG.len
    have hbufI : ∀ q c (X : Heap), InS mC 5 (.slice (some ⟨q, 0, none⟩) L.length c) (bufR q c L :: X) L := fun q c X => buf_in hml
    -- what Play tells
    have h17 := fun (K2 : Value → Heap → Prop) hk => c17 (K := K2) (un := un) hin hG hk
    by_cases hbad0 : offs.length ≠ L.length ∨ 1048576 < un
    · have h15 : ∀ q c q2 c2 (K2 : Value → Heap → Prop), K2 (.tuple ⟨[.slice none 0 0, .int .i64 1]⟩) ((q2, .buf 28 (offs.flatMap fU) (c2 * 1)) :: bufR q c L :: H) → SCalls Tryd.prog 15 [.slice (some ⟨q, 0, none⟩) L.length c, .slice (some ⟨q2, 0, none⟩) offs.length c2, .int .u64 (un : Int)] ((q2, .buf 28 (offs.flatMap fU) (c2 * 1)) :: bufR q c L :: H) K2 :=
        fun q c q2 c2 K2 hk => c15l (hD.mono (h2 _ _)) ((hbufI q c H).mono fun z hz => .tail _ hz) hwf hc (hofb _ _ _) hbad0 hk
      refine enter5 ?_
      by_cases hl : offs.length = L.length
      · have hu : 1048576 < un := by omega
        repeat' ((conv => whnf); (first | refine h16 _ _ (fun z hz => by simp only [List.mem_cons, hz, or_true]) ?_ | (refine h17 _ (fun b => ?_); cases b) | refine c9 hin hb (fun q c k1 k2 => ?_) | refine hcp _ _ _ _ _ _ rfl (fun q2 c2 => ?_) | refine h15 _ _ _ _ _ ?_ | refine Branch.dt (by omega) ?_ | refine Branch.t rfl ?_ | refine Branch.f rfl ?_ | refine SLoop.round ?_ | refine c10 (hD.mono fun z hz => by simp only [List.mem_cons, hz, or_true]) ?_ | exact Keep.all rfl | refine New.mk (fun _ => ?_) | refine Look.at0 ?_ | refine Cell.row ?_ | refine Cell.buf ?_ | refine Cells.row rfl ?_ | refine Put.row rfl ?_ | refine Put.buf rfl ?_ | refine Look.at1 ?_ | refine Look.at2 ?_ | refine Look.at3 ?_ | refine Look.at4 ?_ | refine Look.at5 ?_ | refine Look.at6 ?_ | refine Look.at7 ?_ | refine Look.at8 ?_ | with_reducible refine Val.i64 (by omega) (by omega) ?_ | with_reducible refine Val.u8 (by omega) (by omega) ?_ | with_reducible refine Val.u32 (by omega) (by omega) ?_ | with_reducible refine Val.u64 (by omega) (by omega) ?_ | with_reducible refine Val.u8m ?_ | with_reducible refine Val.u32m ?_ | with_reducible refine Val.u64m ?_ | with_reducible refine Val.shr8 ?_ | with_reducible refine Val.shr16 (by decide) ?_ | with_reducible refine Val.shr24 (by decide) ?_ | with_reducible refine Val.raw ?_ | refine Branch.not ?_ | refine Branch.and ?_ | refine Branch.or ?_ | refine Branch.dt (by assumption) ?_ | refine Branch.df (by assumption) ?_ | refine Branch.dt rfl ?_ | refine Branch.dt (by omega) ?_ | refine Branch.df (by omega) ?_ | refine Branch.t rfl ?_ | refine Branch.f rfl ?_ | refine Branch.t (by assumption) ?_ | refine Branch.f (by assumption) ?_ | refine Branch.d (fun _ => ?_) (fun _ => ?_) | refine Branch.mk (fun _ => ?_) (fun _ => ?_) | refine Need.mk (by first | omega | decide | rfl) ?_ | refine Idx.nat (by omega) ?_ | refine Idx.auto (by first | omega | decide) (by first | omega | decide) ?_ | refine Cell.ro rfl ?_ | refine SDraw.all (by kernel_rfl) ?_ | refine Kept.k0 ?_ | refine Kept.k1 ?_ | refine Kept.k2 ?_ | refine Kept.k3 ?_ | refine Kept.k4 ?_))
      · have hl' : ¬ (offs.length : Int) = (L.length : Int) := by omega
        repeat' ((conv => whnf); (first | refine h16 _ _ (fun z hz => by simp only [List.mem_cons, hz, or_true]) ?_ | (refine h17 _ (fun b => ?_); cases b) | refine c9 hin hb (fun q c k1 k2 => ?_) | refine hcp _ _ _ _ _ _ rfl (fun q2 c2 => ?_) | refine h15 _ _ _ _ _ ?_ | refine Branch.df hl' ?_ | refine Branch.t rfl ?_ | refine Branch.f rfl ?_ | refine SLoop.round ?_ | refine c10 (hD.mono fun z hz => by simp only [List.mem_cons, hz, or_true]) ?_ | exact Keep.all rfl | refine New.mk (fun _ => ?_) | refine Look.at0 ?_ | refine Cell.row ?_ | refine Cell.buf ?_ | refine Cells.row rfl ?_ | refine Put.row rfl ?_ | refine Put.buf rfl ?_ | refine Look.at1 ?_ | refine Look.at2 ?_ | refine Look.at3 ?_ | refine Look.at4 ?_ | refine Look.at5 ?_ | refine Look.at6 ?_ | refine Look.at7 ?_ | refine Look.at8 ?_ | with_reducible refine Val.i64 (by omega) (by omega) ?_ | with_reducible refine Val.u8 (by omega) (by omega) ?_ | with_reducible refine Val.u32 (by omega) (by omega) ?_ | with_reducible refine Val.u64 (by omega) (by omega) ?_ | with_reducible refine Val.u8m ?_ | with_reducible refine Val.u32m ?_ | with_reducible refine Val.u64m ?_ | with_reducible refine Val.shr8 ?_ | with_reducible refine Val.shr16 (by decide) ?_ | with_reducible refine Val.shr24 (by decide) ?_ | with_reducible refine Val.raw ?_ | refine Branch.not ?_ | refine Branch.and ?_ | refine Branch.or ?_ | refine Branch.dt (by assumption) ?_ | refine Branch.df (by assumption) ?_ | refine Branch.dt rfl ?_ | refine Branch.dt (by omega) ?_ | refine Branch.df (by omega) ?_ | refine Branch.t rfl ?_ | refine Branch.f rfl ?_ | refine Branch.t (by assumption) ?_ | refine Branch.f (by assumption) ?_ | refine Branch.d (fun _ => ?_) (fun _ => ?_) | refine Branch.mk (fun _ => ?_) (fun _ => ?_) | refine Need.mk (by first | omega | decide | rfl) ?_ | refine Idx.nat (by omega) ?_ | refine Idx.auto (by first | omega | decide) (by first | omega | decide) ?_ | refine Cell.ro rfl ?_ | refine SDraw.all (by kernel_rfl) ?_ | refine Kept.k0 ?_ | refine Kept.k1 ?_ | refine Kept.k2 ?_ | refine Kept.k3 ?_ | refine Kept.k4 ?_))
    · have hlen : offs.length = L.length := Classical.byContradiction fun h => hbad0 (.inl h)
      have hun : un ≤ 1048576 := by omega
      have hl' : (offs.length : Int) = (L.length : Int) := by omega
      by_cases hall : ∀ (j : Nat) (m : Msg) (o : Nat), L[j]? = some m → offs[j]? = some o → o ≤ m.j
      · obtain ⟨r0, hr0⟩ := (start_inv hG hlen hun hall).runs _ (Nat.le_refl _)
        have hrl : r0.length = L.length := by
          have key : ∀ {ss : List Sr} {Q : List Wn} {now : Nat} {out r : List Nat}, Runs un ss Q now out r → r.length = out.length := by
            intro ss Q now out r h
            induction h with
            | halt => rfl
            | wait _ _ _ ih => exact ih
            | go _ _ _ ih => rw [ih]; unfold upd; rw [List.length_set]
          rw [key hr0, List.length_replicate]
        have h15 : ∀ q c q2 c2 (K2 : Value → Heap → Prop), (∀ ob, K2 (.tuple ⟨[.slice (some ⟨ob, 0, none⟩) L.length L.length, .int .i64 0]⟩) ((ob, .buf 28 (r0.map u64) L.length) :: (q2, .buf 28 (offs.flatMap fU) (c2 * 1)) :: bufR q c L :: H)) → SCalls Tryd.prog 15 [.slice (some ⟨q, 0, none⟩) L.length c, .slice (some ⟨q2, 0, none⟩) offs.length c2, .int .u64 (un : Int)] ((q2, .buf 28 (offs.flatMap fU) (c2 * 1)) :: bufR q c L :: H) K2 :=
          fun q c q2 c2 K2 hk => c15 (L := L) (offs := offs) (hD.mono (h2 _ _)) ((hbufI q c H).mono fun z hz => .tail _ hz) hG hwf hc (hofb _ _ _) hlen hun (fun _ r ob hr => by
            obtain rfl := runs_det hr hr0
            exact hk ob) (fun ⟨j, m, o, g1, g2, g3⟩ => absurd (hall j m o g1 g2) (by omega))
        have hne2 : ¬ ∃ (j : Nat) (m : Msg) (o : Nat), L[j]? = some m ∧ offs[j]? = some o ∧ m.j < o := fun ⟨j, m, o, g1, g2, g3⟩ => absurd (hall j m o g1 g2) (by omega)
        have hw : ∀ (i : Nat) (m : Msg), L[i]? = some m → fitsS L = true → ∀ v, r0[i]? = some v → v ≤ (worstS L m).1 := fun i m hi hf => worst_play hG hun hlen hall hr0 hi (List.all_eq_true.1 hf m (List.mem_of_getElem? hi))
        have hu : ¬ (1048576 : Int) < (un : Int) := by omega
        have hla : ∀ (Q : Post) (S0 : List Value) (X : Heap) pv e, (∀ z ∈ H, z ∈ X) → S5a (.slice sa L.length sc) (.slice oa offs.length oc) (.int .u64 (un : Int)) pv (.int .i64 e) (.bool (decide ((1048576 : Int) < (un : Int)))) (.int .i64 0) S0 →
            (∀ S i, S5a (.slice sa L.length sc) (.slice oa offs.length oc) (.int .u64 (un : Int)) pv (.int .i64 e) (.bool false) i S → Q (.exit 0) S X) → SLoop Tryd.prog X5_l1 Q S0 X := fun Q S0 X pv e hX hS hk => l5a (hin.mono hX) (hof.mono hX) hlen hml2 (by rw [decide_eq_false hu] at hS; exact hS) (fun _ => hk) (fun h => absurd h hne2)
        have hlb : ∀ (Q : Post) (S0 : List Value) (X : Heap) ob ro, (∀ z ∈ H, z ∈ X) → (ob, Blk.buf 28 (r0.map u64) L.length) ∈ X → (ro, Blk.buf 28 (r0.map u64) L.length) ∈ X → S5b (.slice sa L.length sc) (.slice (some ⟨ob, 0, none⟩) L.length L.length) (.slice (some ⟨ro, 0, none⟩) L.length L.length) (.bool (fitsS L)) (.int .i64 0) S0 →
            (∀ S i, S5b (.slice sa L.length sc) (.slice (some ⟨ob, 0, none⟩) L.length L.length) (.slice (some ⟨ro, 0, none⟩) L.length L.length) (.bool (fitsS L)) i S → Q (.exit 2) S X) → SLoop Tryd.prog X5_l0 Q S0 X := fun Q S0 X ob ro hX m1 m2 hS hk => l5b (hD.mono hX) (hin.mono hX) hb hG hwf hc hrl m1 m2 hw hS hk
        have h18 : ∀ (X : Heap) (K2 : Value → Heap → Prop), (∀ z ∈ H, z ∈ X) → (∀ ro, K2 (.slice (some ⟨ro, 0, none⟩) L.length L.length) (aB ro r0 L.length :: X)) → SCalls Tryd.prog 18 [.slice sa L.length sc, .slice oa offs.length oc, .int .u64 (un : Int)] X K2 := fun X K2 hX hk => c18 (hin.mono hX) hG (hof.mono hX) hlen hun hall hr0 hk
        have h19 : ∀ (q c : Nat) (X : Heap) (K2 : Value → Heap → Prop), (∀ z ∈ H, z ∈ X) → K2 (.tuple ⟨[.bool (fitsS L), .int .i64 0]⟩) (bufR q c L :: X) → SCalls Tryd.prog 19 [.slice (some ⟨q, 0, none⟩) L.length c] (bufR q c L :: X) K2 := fun q c X K2 h1 h2 => c19 (hD.mono fun z hz => .tail _ (h1 z hz)) (buf_in hml) hG hwf hc h2
        have hll : (!decide ((L.length : Int) = (L.length : Int))) = false := by simp
        clear hw hall hne2 hrl
        refine enter5 ?_
        repeat' ((conv => whnf); (first | refine h16 _ _ (fun z hz => by simp only [List.mem_cons, hz, or_true]) ?_ | (refine h17 _ (fun b => ?_); cases b) | refine c9 (hin.mono fun z hz => by simp only [List.mem_cons, hz, or_true]) hb (fun q c k1 k2 => ?_) | refine hcp _ _ _ _ _ _ rfl (fun q2 c2 => ?_) | refine h15 _ _ _ _ _ (fun ob => ?_) | refine h18 _ _ (fun z hz => by simp only [List.mem_cons, hz, or_true]) (fun ro => ?_) | refine h19 _ _ _ _ (fun z hz => by simp only [List.mem_cons, hz, or_true]) ?_ | refine Branch.f hll ?_ | refine Branch.dt hl' ?_ | refine Branch.df hu ?_ | refine Branch.t rfl ?_ | refine Branch.f rfl ?_ | (refine hla _ _ _ _ _ (fun z hz => by simp only [List.mem_cons, hz, or_true]) .mk (fun S i g => ?_); cases g) | (refine hlb _ _ _ _ _ (fun z hz => by simp only [List.mem_cons, hz, or_true]) (.tail _ (.tail _ (.head _))) (.tail _ (.head _)) .mk (fun S i g => ?_); cases g) | refine c10 (hD.mono fun z hz => by simp only [List.mem_cons, hz, or_true]) ?_ | exact Keep.all rfl | refine New.mk (fun _ => ?_) | refine Look.at0 ?_ | refine Cell.row ?_ | refine Cell.buf ?_ | refine Cells.row rfl ?_ | refine Put.row rfl ?_ | refine Put.buf rfl ?_ | refine Look.at1 ?_ | refine Look.at2 ?_ | refine Look.at3 ?_ | refine Look.at4 ?_ | refine Look.at5 ?_ | refine Look.at6 ?_ | refine Look.at7 ?_ | refine Look.at8 ?_ | with_reducible refine Val.i64 (by omega) (by omega) ?_ | with_reducible refine Val.u8 (by omega) (by omega) ?_ | with_reducible refine Val.u32 (by omega) (by omega) ?_ | with_reducible refine Val.u64 (by omega) (by omega) ?_ | with_reducible refine Val.u8m ?_ | with_reducible refine Val.u32m ?_ | with_reducible refine Val.u64m ?_ | with_reducible refine Val.shr8 ?_ | with_reducible refine Val.shr16 (by decide) ?_ | with_reducible refine Val.shr24 (by decide) ?_ | with_reducible refine Val.raw ?_ | refine Branch.not ?_ | refine Branch.and ?_ | refine Branch.or ?_ | refine Branch.dt (by assumption) ?_ | refine Branch.df (by assumption) ?_ | refine Branch.dt rfl ?_ | refine Branch.dt (by omega) ?_ | refine Branch.df (by omega) ?_ | refine Branch.t rfl ?_ | refine Branch.f rfl ?_ | refine Branch.t (by assumption) ?_ | refine Branch.f (by assumption) ?_ | refine Branch.d (fun _ => ?_) (fun _ => ?_) | refine Branch.mk (fun _ => ?_) (fun _ => ?_) | refine Need.mk (by first | omega | decide | rfl) ?_ | refine Idx.nat (by omega) ?_ | refine Idx.auto (by first | omega | decide) (by first | omega | decide) ?_ | refine Cell.ro rfl ?_ | refine SDraw.all (by kernel_rfl) ?_ | refine Kept.k0 ?_ | refine Kept.k1 ?_ | refine Kept.k2 ?_ | refine Kept.k3 ?_ | refine Kept.k4 ?_))
      · have hex : ∃ (j : Nat) (m : Msg) (o : Nat), L[j]? = some m ∧ offs[j]? = some o ∧ m.j < o := Classical.byContradiction fun h => hall fun j m o g1 g2 => Nat.le_of_not_lt fun g3 => h ⟨j, m, o, g1, g2, g3⟩
        have h15 : ∀ q c q2 c2 (K2 : Value → Heap → Prop), K2 (.tuple ⟨[.slice none 0 0, .int .i64 1]⟩) ((q2, .buf 28 (offs.flatMap fU) (c2 * 1)) :: bufR q c L :: H) → SCalls Tryd.prog 15 [.slice (some ⟨q, 0, none⟩) L.length c, .slice (some ⟨q2, 0, none⟩) offs.length c2, .int .u64 (un : Int)] ((q2, .buf 28 (offs.flatMap fU) (c2 * 1)) :: bufR q c L :: H) K2 :=
          fun q c q2 c2 K2 hk => c15 (L := L) (offs := offs) (hD.mono (h2 _ _)) ((hbufI q c H).mono fun z hz => .tail _ hz) hG hwf hc (hofb _ _ _) hlen hun (fun h => absurd h hall) (fun _ => hk)
        have hu : ¬ (1048576 : Int) < (un : Int) := by omega
        have hla : ∀ (Q : Post) (S0 : List Value) (X : Heap) pv e, (∀ z ∈ H, z ∈ X) → S5a (.slice sa L.length sc) (.slice oa offs.length oc) (.int .u64 (un : Int)) pv (.int .i64 e) (.bool (decide ((1048576 : Int) < (un : Int)))) (.int .i64 0) S0 →
            (∀ S i, S5a (.slice sa L.length sc) (.slice oa offs.length oc) (.int .u64 (un : Int)) pv (.int .i64 e) (.bool true) i S → Q (.exit 0) S X) → SLoop Tryd.prog X5_l1 Q S0 X := fun Q S0 X pv e hX hS hk => l5a (hin.mono hX) (hof.mono hX) hlen hml2 (by rw [decide_eq_false hu] at hS; exact hS) (fun h => absurd h hall) (fun _ => hk)
        clear hall
        refine enter5 ?_
        repeat' ((conv => whnf); (first | refine h16 _ _ (fun z hz => by simp only [List.mem_cons, hz, or_true]) ?_ | (refine h17 _ (fun b => ?_); cases b) | refine c9 hin hb (fun q c k1 k2 => ?_) | refine hcp _ _ _ _ _ _ rfl (fun q2 c2 => ?_) | refine h15 _ _ _ _ _ ?_ | refine Branch.dt hl' ?_ | refine Branch.df hu ?_ | refine Branch.t rfl ?_ | refine Branch.f rfl ?_ | (refine hla _ _ _ _ _ (fun z hz => by simp only [List.mem_cons, hz, or_true]) .mk (fun S i g => ?_); cases g) | refine c10 (hD.mono fun z hz => by simp only [List.mem_cons, hz, or_true]) ?_ | exact Keep.all rfl | refine New.mk (fun _ => ?_) | refine Look.at0 ?_ | refine Cell.row ?_ | refine Cell.buf ?_ | refine Cells.row rfl ?_ | refine Put.row rfl ?_ | refine Put.buf rfl ?_ | refine Look.at1 ?_ | refine Look.at2 ?_ | refine Look.at3 ?_ | refine Look.at4 ?_ | refine Look.at5 ?_ | refine Look.at6 ?_ | refine Look.at7 ?_ | refine Look.at8 ?_ | with_reducible refine Val.i64 (by omega) (by omega) ?_ | with_reducible refine Val.u8 (by omega) (by omega) ?_ | with_reducible refine Val.u32 (by omega) (by omega) ?_ | with_reducible refine Val.u64 (by omega) (by omega) ?_ | with_reducible refine Val.u8m ?_ | with_reducible refine Val.u32m ?_ | with_reducible refine Val.u64m ?_ | with_reducible refine Val.shr8 ?_ | with_reducible refine Val.shr16 (by decide) ?_ | with_reducible refine Val.shr24 (by decide) ?_ | with_reducible refine Val.raw ?_ | refine Branch.not ?_ | refine Branch.and ?_ | refine Branch.or ?_ | refine Branch.dt (by assumption) ?_ | refine Branch.df (by assumption) ?_ | refine Branch.dt rfl ?_ | refine Branch.dt (by omega) ?_ | refine Branch.df (by omega) ?_ | refine Branch.t rfl ?_ | refine Branch.f rfl ?_ | refine Branch.t (by assumption) ?_ | refine Branch.f (by assumption) ?_ | refine Branch.d (fun _ => ?_) (fun _ => ?_) | refine Branch.mk (fun _ => ?_) (fun _ => ?_) | refine Need.mk (by first | omega | decide | rfl) ?_ | refine Idx.nat (by omega) ?_ | refine Idx.auto (by first | omega | decide) (by first | omega | decide) ?_ | refine Cell.ro rfl ?_ | refine SDraw.all (by kernel_rfl) ?_ | refine Kept.k0 ?_ | refine Kept.k1 ?_ | refine Kept.k2 ?_ | refine Kept.k3 ?_ | refine Kept.k4 ?_))
  · generalize hE : chk L = E at *
    have h15 : ∀ q c q2 c2 (K2 : Value → Heap → Prop), K2 (.tuple ⟨[.slice none 0 0, .int .i64 E]⟩) ((q2, .buf 28 (offs.flatMap fU) (c2 * 1)) :: bufR q c L :: H) → SCalls Tryd.prog 15 [.slice (some ⟨q, 0, none⟩) L.length c, .slice (some ⟨q2, 0, none⟩) offs.length c2, .int .u64 (un : Int)] ((q2, .buf 28 (offs.flatMap fU) (c2 * 1)) :: bufR q c L :: H) K2 :=
      fun q c q2 c2 K2 hk => c15e (hD.mono (h2 _ _)) ((buf_in (q := q) (c := c) (X := H) hml).mono fun z hz => .tail _ hz) hwf (by rw [hE]; exact hc) (by rw [hE]; exact hk)
    have hEE2 : decide (E = E) = true := by simp
    have hE0 : (!decide (E = 0)) = true := by simp [hc]
    refine enter5 ?_
    repeat' ((conv => whnf); (first | refine h16 _ _ (fun z hz => by simp only [List.mem_cons, hz, or_true]) ?_ | refine c9 hin hb (fun q c k1 k2 => ?_) | refine hcp _ _ _ _ _ _ rfl (fun q2 c2 => ?_) | refine h15 _ _ _ _ _ ?_ | refine Branch.df hc ?_ | refine Branch.t hE0 ?_ | refine Branch.t hEE2 ?_ | refine Branch.t rfl ?_ | refine Branch.f rfl ?_ | refine c10 (hD.mono fun z hz => by simp only [List.mem_cons, hz, or_true]) ?_ | exact Keep.all rfl | refine New.mk (fun _ => ?_) | refine Look.at0 ?_ | refine Cell.row ?_ | refine Cell.buf ?_ | refine Cells.row rfl ?_ | refine Put.row rfl ?_ | refine Put.buf rfl ?_ | refine Look.at1 ?_ | refine Look.at2 ?_ | refine Look.at3 ?_ | refine Look.at4 ?_ | refine Look.at5 ?_ | refine Look.at6 ?_ | refine Look.at7 ?_ | refine Look.at8 ?_ | with_reducible refine Val.i64 (by omega) (by omega) ?_ | with_reducible refine Val.u8 (by omega) (by omega) ?_ | with_reducible refine Val.u32 (by omega) (by omega) ?_ | with_reducible refine Val.u64 (by omega) (by omega) ?_ | with_reducible refine Val.u8m ?_ | with_reducible refine Val.u32m ?_ | with_reducible refine Val.u64m ?_ | with_reducible refine Val.shr8 ?_ | with_reducible refine Val.shr16 (by decide) ?_ | with_reducible refine Val.shr24 (by decide) ?_ | with_reducible refine Val.raw ?_ | refine Branch.not ?_ | refine Branch.and ?_ | refine Branch.or ?_ | refine Branch.dt (by assumption) ?_ | refine Branch.df (by assumption) ?_ | refine Branch.dt rfl ?_ | refine Branch.dt (by omega) ?_ | refine Branch.df (by omega) ?_ | refine Branch.t rfl ?_ | refine Branch.f rfl ?_ | refine Branch.t (by assumption) ?_ | refine Branch.f (by assumption) ?_ | refine Branch.d (fun _ => ?_) (fun _ => ?_) | refine Branch.mk (fun _ => ?_) (fun _ => ?_) | refine Need.mk (by first | omega | decide | rfl) ?_ | refine Idx.nat (by omega) ?_ | refine Idx.auto (by first | omega | decide) (by first | omega | decide) ?_ | refine Cell.ro rfl ?_ | refine SDraw.all (by kernel_rfl) ?_ | refine Kept.k0 ?_ | refine Kept.k1 ?_ | refine Kept.k2 ?_ | refine Kept.k3 ?_ | refine Kept.k4 ?_))
end
end Go.Proofs.YtjleekdidedhaaaDoor

/- Layer 25: LoadPlays, out of the row's words. -/
set_option linter.unusedVariables false
set_option linter.unusedSimpArgs false
namespace Go.Proofs.YtjleekdidedhaaaDoor
open Sx
theorem LoadPlaysW (a0a : Option Addr) (a0l : Nat) (a0c : Nat) (a1a : Option Addr) (a1l : Nat) (a1c : Nat) (a2 : Int) (w : World) (h0_0 : SliceAt 5 B30 R30 w a0a a0l a0c) (h1_0 : SliceAt 1 B28 R28 w a1a a1l a1c) (h2_0 : (Lit.int .u64 a2).wf = true) (hL : laidMet Tryd.prog Rows.loadPlaysRow.laid w) :
    Calls Tryd.prog 5 #[.slice a0a a0l a0c, .slice a1a a1l a1c, .int .u64 a2] w fun e w' => e = .returned (.bool true) ∧ Go.RowKit.Below w.heap.size w w' := by
  obtain ⟨hD, hw, hx⟩ := db_of hL
  obtain ⟨H, L, rfl, hin, hwf, hw2, x2, hb⟩ := msgs_of h0_0
  obtain ⟨G, offs, rfl, hof, _, hw3, x3⟩ := inS_of (f := fU) (Good := fun _ => True) h1_0 (by decide) (fun _ => rfl) (fun cs hc => num_of hc)
  have hbo := h1_0.2.2.1
  simp only [reachBytes, B28] at hbo
  have e2 := wf_u64 h2_0
  obtain ⟨un, rfl⟩ : ∃ n : Nat, a2 = (n : Int) := ⟨a2.toNat, by omega⟩
  have hj := Holds.join (Holds.join hw hw2 hx x2) hw3 (excl_join hx x2) x3
  exact (plays_c (un := un) (offs := offs) (hD.mono fun p hp => List.mem_append_left _ (List.mem_append_left _ hp)) (hin.mono fun p hp => List.mem_append_left _ (List.mem_append_right _ hp)) hb hwf (hof.mono fun p hp => List.mem_append_right _ hp) (by omega)).fin w hj (excl_join (excl_join hx x2) x3)
end Go.Proofs.YtjleekdidedhaaaDoor

