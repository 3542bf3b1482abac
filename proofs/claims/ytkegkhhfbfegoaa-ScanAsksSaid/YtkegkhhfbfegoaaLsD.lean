/- Layer 19: whether a slave is given a number; a slave that waits. -/
import Derived.Test.YtkegkhhfbfegoaaLsC
set_option linter.unusedVariables false
set_option linter.unusedSimpArgs false
set_option maxRecDepth 100000
set_option maxHeartbeats 4000000
namespace Go.Proofs.Ytkegkhhfbfegoaa.Ls
open Go.Proofs.Ytkegkhhfbfegoaa Go.Proofs.Ytkegkhhfbfegoaa.Sx
section
variable {K : Value → Heap → Prop} {g p : Nat} (l : L)
theorem c8e {a : A} {l' : L} (hl : l.Ok) (q : Q) (hq : q.Ok) (sp : Option Addr) (he : l.take q = (a, l')) (hn : ¬ (q.q0 = 23 ∧ l.mode = 1 ∧ l.fails = false)) (h : K a.val [(g, l'.row sp)]) :
    SCalls Try.prog 25 [.pointer (some ⟨g, 0, none⟩), q.val] [(g, l.row sp)] K := by
  refine c8g l hl q hq sp (fun h1 h2 h3 => absurd ⟨h1, h2, h3⟩ hn) (fun _ => ?_)
  rw [he]; exact h
theorem take_waits (hm : l.mode = 0) (q : Q) (hq : q.q0 = 17 ∨ q.q0 = 19 ∨ q.q0 = 21 ∨ q.q0 = 23 ∨ (90 ≤ q.q0 ∧ q.q0 ≤ 94)) : l.take q = (.no, l) := by
  unfold L.take
  rw [if_neg (by omega), if_neg (by omega), if_neg (by omega), if_neg (by omega), if_neg (by omega)]
def live0 : L := ⟨1, 2, 3, 4, 0, 0, 0, 0, 0, 0, 0, none, false⟩
def live1 : L := { live0 with mode := 1 }
def live2 : L := { live1 with pid := 5 }
def live3 : L := { live2 with mode := 0, uid := 5 }
theorem live0_ok : live0.Ok := by constructor <;> first | decide | exact .inl rfl
theorem live1_ok : live1.Ok := by constructor <;> first | decide | exact .inr rfl
theorem live2_ok : live2.Ok := by constructor <;> first | decide | exact .inr rfl
end
end Go.Proofs.Ytkegkhhfbfegoaa.Ls
