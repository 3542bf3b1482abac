/- Layer 20: a slave is found: by a walk. -/
import Derived.Test.YtkegkhhfbfegoaaScR
set_option linter.unusedVariables false
set_option linter.unusedSimpArgs false
set_option maxRecDepth 100000
set_option maxHeartbeats 4000000
namespace Go.Proofs.Ytkegkhhfbfegoaa
open Sx Ls
def nd1 : Nd := ⟨1, 2, 3, 4, 0⟩
def l1 : L := { nd1.l with pid := 7, uid := 7 }
def m1 : Ad := ⟨1, 2, 3, 4⟩
theorem one_least (g : Nat) : Least m1 [(g, nd1.l)] := by
  refine ⟨fun x hx => ?_, fun x hx _ => ?_, ?_⟩
  · obtain rfl := List.mem_singleton.1 hx
    exact Nd.l_ok (x := nd1) ⟨by decide, by decide, by decide, by decide⟩ (by decide)
  · obtain rfl := List.mem_singleton.1 hx
    exact Ad.le_refl _
  · exact ⟨_, .head _, ⟨rfl, rfl, rfl⟩, rfl⟩
theorem allP_one (g : Nat) : allP [7] [(g, nd1.l)] = ([scF m1], 0, [(g, l1)]) := by
  unfold allP
  rw [if_pos (by rfl), allL, scan_least (one_least g)]
  rfl
section
variable {K : Value → Heap → Prop}
theorem c8one {H : Heap} {sv : Value} (hin : InS Nd.cells 5 sv H [nd1]) (h : ∀ ra ca rb cb gL gR, 1 ≤ ca → ca ≤ maxLen → K (.tuple ⟨[.slice (some ⟨ra, 0, none⟩) 1 ca, .slice (some ⟨rb, 0, none⟩) 1 cb]⟩) (pB 38 ra ca [gL] :: pB 42 rb cb [gR] :: (gR, nd1.r.row) :: (gL, nd1.l.row none) :: H)) : SCalls Try.prog 8 [sv, .int .i64 1] H K := by
  refine c8 hin (most := 1) (by decide) ?_
  intro ra ca rb cb ms rs hms hrs h1 h2 h3 h4
  have e : goSl 1 [nd1] = [nd1] := rfl
  rw [e] at *
  rcases ms with _ | ⟨⟨gL, l⟩, _ | ⟨_, _⟩⟩
  · cases hms
  · rcases rs with _ | ⟨⟨gR, r⟩, _ | ⟨_, _⟩⟩
    · cases hrs
    · injection hms with e1 _
      injection hrs with e2 _
      dsimp only at e1 e2
      subst e1
      subst e2
      exact h ra ca rb cb gL gR h1 h2
    · injection hrs with _ e2; cases e2
  · injection hms with _ e2; cases e2
theorem live_c {H : Heap} (h : K (.bool true) H) : SCalls Try.prog 14 [] H K := by
  refine SCalls.any (K := fun v N => v = .bool true ∧ N = []) (enter14 (_u := undef) ?_) (by rintro v N ⟨rfl, rfl⟩; exact h)
  have key : ∀ (ra ca rb cb gL gR p p7 : Nat) (b0 : Blk) (K : Value → Heap → Prop), 1 ≤ ca → ca ≤ maxLen →
      (∀ r c, 1 ≤ c → K (.tuple ⟨[.slice (some ⟨r, 0, none⟩) 1 c, .int .i64 0]⟩) [(r, .buf 34 (scF m1).c4 (c * 4)), (p7, .row 3 [.int .i64 7] (0, 0)), pB 42 rb cb [gR], (gR, nd1.r.row), (p, b0), pB 38 ra ca [gL], (gL, l1.row none)]) →
      SCalls Try.prog 9 [.slice (some ⟨ra, 0, none⟩) 1 ca, .slice (some ⟨p7, 0, none⟩) 1 1] [(p7, .row 3 [.int .i64 7] (0, 0)), pB 38 ra ca [gL], pB 42 rb cb [gR], (gR, nd1.r.row), (gL, nd1.l.row none), (p, b0)] K := by
    intro ra ca rb cb gL gR p p7 b0 K h1 h2 hk
    refine SCalls.glue [[(p7, .row 3 [.int .i64 7] (0, 0))], [pB 38 ra ca [gL]], [pB 42 rb cb [gR]], [(gR, nd1.r.row)], [(gL, nd1.l.row none)], [(p, b0)]] [0, 1, 2, 3, 4, 5] [0, 2, 3, 5, 1, 4] (by decide) rfl ?_
    refine c9 (G := [(p7, .row 3 [.int .i64 7] (0, 0)), pB 42 rb cb [gR], (gR, nd1.r.row), (p, b0)]) (Bh := [pB 38 ra ca [gL]]) (ms := [(gL, nd1.l)]) (xs := [7]) ⟨h1, h2, .inr ⟨ra, rfl, rfl⟩⟩ (one_least gL).ok (InS.row (L := [7]) (.head _) rfl (fun _ => rfl) (by decide)) ?_
    · rw [allP_one]
      rintro sv N (⟨_, e, _⟩ | ⟨r, c, rfl, hc, _, rfl⟩)
      · cases e
      · exact hk r c hc
  have hc4 : ∀ (c j : Nat) (v : Value), (scF m1).c4[j]? = some v → (Blk.buf 34 (scF m1).c4 (c * 4)).cell (0 + Int.toNat 0 * 4 + j) = some v := by
    intro c j v hj
    show (scF m1).c4[0 + Int.toNat 0 * 4 + j]? = some v
    rw [show 0 + Int.toNat 0 * 4 + j = j by simp]
    exact hj
  repeat' ((conv => whnf); (first
      | refine c8one (InS.row (L := [nd1]) (.head _) rfl (fun _ => rfl) (by decide)) (fun ra ca rb cb gL gR h1 h2 => ?_)
      | refine key _ _ _ _ _ _ _ _ _ _ h1 h2 (fun r c hc => ?_)
      | refine SCalls.at6 (Ls.c12 (p := 0) l1 ?_)
      | refine Cells.get (scF m1).c4 rfl (hc4 _) ?_
      | refine New.mk (fun _ => ?_)
      | refine Look.at0 ?_
      | refine Cell.row ?_
      | refine Cell.buf ?_
      | refine Cells.row rfl ?_
      | refine Put.row rfl ?_
      | refine Put.buf rfl ?_
      | refine Look.at1 ?_
      | refine Look.at2 ?_
      | refine Look.at3 ?_
      | refine Look.at4 ?_
      | refine Look.at5 ?_
      | refine Look.at6 ?_
      | refine Look.at7 ?_
      | refine Look.at8 ?_
      | with_reducible refine Val.i64 (by omega) (by omega) ?_
      | with_reducible refine Val.u8 (by omega) (by omega) ?_
      | with_reducible refine Val.u32 (by omega) (by omega) ?_
      | with_reducible refine Val.u64 (by omega) (by omega) ?_
      | with_reducible refine Val.u8m ?_
      | with_reducible refine Val.u32m ?_
      | with_reducible refine Val.u64m ?_
      | with_reducible refine Val.shr8 ?_
      | with_reducible refine Val.shr16 (by decide) ?_
      | with_reducible refine Val.shr24 (by decide) ?_
      | with_reducible refine Val.raw ?_
      | refine Branch.not ?_
      | refine Branch.and ?_
      | refine Branch.or ?_
      | refine Branch.dt (by assumption) ?_
      | refine Branch.df (by assumption) ?_
      | refine Branch.dt rfl ?_
      | refine Branch.dt (by omega) ?_
      | refine Branch.df (by omega) ?_
      | refine Branch.t rfl ?_
      | refine Branch.f rfl ?_
      | refine Branch.t (by assumption) ?_
      | refine Branch.f (by assumption) ?_
      | refine Branch.d (fun _ => ?_) (fun _ => ?_)
      | refine Branch.mk (fun _ => ?_) (fun _ => ?_)
      | refine Need.mk (by first | omega | decide | rfl) ?_
      | refine Idx.nat (by omega) ?_
      | refine Idx.auto (by first | omega | decide) (by first | omega | decide) ?_
      | refine Cell.ro rfl ?_
      | refine SDraw.all (by kernel_rfl) ?_
      | refine Kept.k0 ?_
      | refine Kept.k1 ?_
      | refine Kept.k2 ?_
      | refine Kept.k3 ?_
      | refine Kept.k4 ?_))
  all_goals (conv => whnf)
  exact Keep.sub [] (List.nil_sublist _) ⟨rfl, rfl⟩
end
end Go.Proofs.Ytkegkhhfbfegoaa
