/- Layer 19: whether a slave is given a number; a slave that waits. -/
import Derived.Test.YtneicohblmjakaaLsC
set_option linter.unusedVariables false
set_option linter.unusedSimpArgs false
set_option maxRecDepth 100000
set_option maxHeartbeats 4000000
namespace Go.Proofs.Ytneicohblmjakaa
open Sx
section
variable {K : Value → Heap → Prop} {g p : Nat} (l : L)
theorem c8e {a : A} {l' : L} (hl : l.Ok) (q : Q) (hq : q.Ok) (sp : Option Addr) (he : l.take q = (a, l')) (hn : ¬ (q.q0 = 23 ∧ l.mode = 1 ∧ l.fails = false)) (h : K a.val [(g, l'.row sp)]) :
    SCalls Try.prog 8 [.pointer (some ⟨g, 0, none⟩), q.val] [(g, l.row sp)] K := by
  refine c8g l hl q hq sp (fun h1 h2 h3 => absurd ⟨h1, h2, h3⟩ hn) (fun _ => ?_)
  rw [he]; exact h
theorem take_waits (hm : l.mode = 0) (q : Q) (hq : q.q0 = 17 ∨ q.q0 = 19 ∨ q.q0 = 21 ∨ q.q0 = 23 ∨ (90 ≤ q.q0 ∧ q.q0 ≤ 94)) : l.take q = (.no, l) := by
  unfold L.take
  rw [if_neg (by omega), if_neg (by omega), if_neg (by omega), if_neg (by omega), if_neg (by omega)]
def live0 : L := ⟨1, 2, 3, 4, 0, 0, 0, 0, 0, 0, 0, none, false⟩
def live1 : L := { live0 with mode := 1 }
def live2 : L := { live1 with pid := 5 }
def live3 : L := { live2 with mode := 0, uid := 5 }
theorem live0_ok : live0.Ok := by constructor <;> first | decide | exact .inl rfl
theorem live1_ok : live1.Ok := by constructor <;> first | decide | exact .inr rfl
theorem live2_ok : live2.Ok := by constructor <;> first | decide | exact .inr rfl
theorem live_c {H : Heap} (h : K (.bool true) H) : SCalls Try.prog 11 [] H K := by
  refine SCalls.any (K := fun v N => v = .bool true ∧ N = []) (enter11 (_u := undef) ?_) (by rintro v N ⟨rfl, rfl⟩; exact h)
  repeat' ((conv => whnf); (first
      | refine c7 1 2 3 4 0 (by decide) (fun g p => ?_)
      | refine SCalls.at0 (c8e live0 live0_ok ⟨4, 1, 0, 0, 0, 0, 0, 0⟩ (by constructor <;> decide) none (l' := live1) (a := .no) rfl (by decide) ?_)
      | refine SCalls.at0 (c8e live1 live1_ok ⟨17, 5, 0, 0, 0, 0, 0, 0⟩ (by constructor <;> decide) none (l' := live2) (a := .one 17 0) rfl (by decide) ?_)
      | refine SCalls.at0 (c8e live2 live2_ok ⟨4, 0, 0, 0, 0, 0, 0, 0⟩ (by constructor <;> decide) none (l' := live3) (a := .no) rfl (by decide) ?_)
      | refine SCalls.at1 (c8e live2 live2_ok ⟨4, 0, 0, 0, 0, 0, 0, 0⟩ (by constructor <;> decide) none (l' := live3) (a := .no) rfl (by decide) ?_)
      | refine SCalls.at0 (c12 (p := 0) live3 ?_)
      | refine SCalls.at1 (c12 (p := 0) live3 ?_)
      | refine New.mk (fun _ => ?_)
      | refine Look.at0 ?_
      | refine Cell.row ?_
      | refine Cells.row rfl ?_
      | refine Put.row rfl ?_
      | refine Look.at1 ?_
      | refine Look.at2 ?_
      | refine Look.at3 ?_
      | refine Look.at4 ?_
      | refine Look.at5 ?_
      | refine Look.at6 ?_
      | refine Look.at7 ?_
      | refine Look.at8 ?_
      | with_reducible refine Val.i64 (by omega) (by omega) ?_
      | with_reducible refine Val.u8 (by omega) (by omega) ?_
      | with_reducible refine Val.u32 (by omega) (by omega) ?_
      | with_reducible refine Val.u64 (by omega) (by omega) ?_
      | with_reducible refine Val.u8m ?_
      | with_reducible refine Val.u32m ?_
      | with_reducible refine Val.u64m ?_
      | with_reducible refine Val.shr8 ?_
      | with_reducible refine Val.shr16 (by decide) ?_
      | with_reducible refine Val.shr24 (by decide) ?_
      | with_reducible refine Val.raw ?_
      | refine Branch.not ?_
      | refine Branch.and ?_
      | refine Branch.or ?_
      | refine Branch.dt (by assumption) ?_
      | refine Branch.df (by assumption) ?_
      | refine Branch.dt (by omega) ?_
      | refine Branch.df (by omega) ?_
      | refine Branch.t rfl ?_
      | refine Branch.f rfl ?_
      | refine Branch.t (by assumption) ?_
      | refine Branch.f (by assumption) ?_
      | refine Branch.d (fun _ => ?_) (fun _ => ?_)
      | refine Branch.mk (fun _ => ?_) (fun _ => ?_)
      | refine Need.mk (by first | omega | decide | rfl) ?_
      | refine Idx.nat (by omega) ?_
      | refine Idx.auto (by first | omega | decide) (by first | omega | decide) ?_
      | refine Cell.ro rfl ?_
      | refine SDraw.all (by kernel_rfl) ?_
      | refine Kept.k0 ?_
      | refine Kept.k1 ?_
      | refine Kept.k2 ?_
      | refine Kept.k3 ?_
      | refine Kept.k4 ?_))
  all_goals (conv => whnf)
  all_goals first | exact Keep.sub [] (List.nil_sublist _) ⟨rfl, rfl⟩ | trace_state
end
end Go.Proofs.Ytneicohblmjakaa
