/- Layer 20: one scan, to its end: by walks. -/
import Derived.Test.YtkegkhhfbfegoaaScG
set_option linter.unusedVariables false
set_option linter.unusedSimpArgs false
set_option maxRecDepth 100000
set_option maxHeartbeats 4000000
namespace Go.Proofs.Ytkegkhhfbfegoaa
open Sx Ls
/-- A round of a scan: what it asks is taken by all, and it takes whether anybody answered. -/
def askd (s : Sc) : Sc := { s with asked := true }
def stepL (s : Sc) (ms : List PL) : Sc × List PL := ((askd s).ans (ms.any (anL s.q)), ms.map (tkL s.q))
def stepR (s : Sc) (ms : List PR) : Sc × List PR := ((askd s).ans (ms.any (anR s.q)), ms.map (tkR s.q))
def runL : Nat → Sc → List PL → Sc × List PL
  | 0, s, ms => (s, ms)
  | n + 1, s, ms => if s.ph = 3 then (s, ms) else runL n (stepL s ms).1 (stepL s ms).2
def runR : Nat → Sc → List PR → Sc × List PR
  | 0, s, ms => (s, ms)
  | n + 1, s, ms => if s.ph = 3 then (s, ms) else runR n (stepR s ms).1 (stepR s ms).2
theorem took_step {s : Sc} (h : s.ph ≠ 3) (b : Bool) : ((askd s).ans b).took = s.took + 1 := by
  unfold askd Sc.ans Sc.put
  simp only [Bool.true_eq_false, if_false]
  (repeat' split) <;> rfl
theorem Sc.Ok.q_ok {s : Sc} (hs : s.Ok) (h3 : s.ph ≠ 3) : s.q.Ok ∧ s.q.q0 = 81 := by
  have hk : ∀ p, 0 ≤ s.kn p ∧ s.kn p ≤ 4294967295 := fun p => by
    unfold Sc.kn
    (repeat' split)
    · exact hs.r0
    · exact hs.r1
    · exact hs.r2
    · exact hs.r3
  have hkp := hk s.pa
  unfold Sc.q
  rcases hs.st with ⟨h, _⟩ | ⟨h, h1, h2, h5, h4, _⟩ | ⟨h, h1, h2, _⟩ | ⟨h, _⟩
  · rw [if_pos h]; exact ⟨⟨by decide, by decide, by decide, by decide, by decide, by decide, by decide, by decide⟩, rfl⟩
  · rw [if_neg (by omega), if_pos h]
    exact ⟨⟨by show (0 : Int) ≤ 81 ∧ (81 : Int) ≤ 255; omega, by show 0 ≤ s.kn s.pa % 256 ∧ s.kn s.pa % 256 ≤ 255; omega, by show 0 ≤ s.kn s.pa / 256 % 256 ∧ s.kn s.pa / 256 % 256 ≤ 255; omega, by show 0 ≤ s.kn s.pa / 65536 % 256 ∧ s.kn s.pa / 65536 % 256 ≤ 255; omega, by show 0 ≤ s.kn s.pa / 16777216 ∧ s.kn s.pa / 16777216 ≤ 255; omega, by show 0 ≤ s.bi ∧ s.bi ≤ 255; omega, by show 0 ≤ s.pa ∧ s.pa ≤ 255; omega, by show 0 ≤ s.pa ∧ s.pa ≤ 255; omega⟩, rfl⟩
  · rw [if_neg (by omega), if_neg (by omega)]
    exact ⟨⟨by show (0 : Int) ≤ 81 ∧ (81 : Int) ≤ 255; omega, by show 0 ≤ s.kn s.pa % 256 ∧ s.kn s.pa % 256 ≤ 255; omega, by show 0 ≤ s.kn s.pa / 256 % 256 ∧ s.kn s.pa / 256 % 256 ≤ 255; omega, by show 0 ≤ s.kn s.pa / 65536 % 256 ∧ s.kn s.pa / 65536 % 256 ≤ 255; omega, by show 0 ≤ s.kn s.pa / 16777216 ∧ s.kn s.pa / 16777216 ≤ 255; omega, by show (0 : Int) ≤ 0 ∧ (0 : Int) ≤ 255; omega, by show 0 ≤ s.pa ∧ s.pa ≤ 255; omega, by show 0 ≤ (s.pa + 1) % 4 ∧ (s.pa + 1) % 4 ≤ 255; omega⟩, rfl⟩
  · exact absurd h h3
end Go.Proofs.Ytkegkhhfbfegoaa
