/- Layer 20: a scan stays in order. -/
import Derived.Test.YtkegkhhfbfegoaaScD
set_option linter.unusedVariables false
set_option linter.unusedSimpArgs false
namespace Go.Proofs.Ytkegkhhfbfegoaa
open Sx Ls
theorem orB_r (k b : Int) : 0 ≤ orB k b ∧ orB k b ≤ 4294967295 := by
  unfold orB bitOr
  rw [wrap_u32]
  omega
theorem Sc.Ok.new : Sc.new.Ok := ⟨.inl ⟨rfl, rfl, rfl, rfl, rfl⟩, fun _ => rfl, by decide, by decide, by decide, by decide, by decide⟩
theorem Sc.Ok.ask {s : Sc} (hs : s.Ok) (h : s.ph ≠ 3) : Sc.Ok { s with asked := true } := by
  obtain ⟨hst, hnf, htk, hr0, hr1, hr2, hr3⟩ := hs
  refine ⟨?_, hnf, htk, hr0, hr1, hr2, hr3⟩
  rcases hst with z | z | z | z
  · exact .inl z
  · exact .inr (.inl z)
  · exact .inr (.inr (.inl z))
  · exact absurd z.1 h
theorem Sc.Ok.ans {s : Sc} (hs : s.Ok) (yes : Bool) : (s.ans yes).Ok := by
  obtain ⟨ph, pa, bi, k0, k1, k2, k3, found, asked, took⟩ := s
  have hs' := hs
  obtain ⟨hst, hnf, htk, hr0, hr1, hr2, hr3⟩ := hs
  simp only [] at hst hnf htk hr0 hr1 hr2 hr3
  cases asked with
  | false => exact hs'
  | true =>
    rcases hst with ⟨rfl, rfl, rfl, rfl, rfl⟩ | ⟨rfl, hp0, hp3, hb0, hb3, rfl⟩ | ⟨rfl, hp0, hp3, rfl, rfl⟩ | ⟨rfl, hz⟩
    · have hf := hnf (by decide)
      subst hf
      cases yes
      · exact ⟨.inr (.inr (.inr ⟨rfl, rfl⟩)), fun _ => rfl, by show (0 : Int) ≤ 0 + 1 ∧ (0 : Int) + 1 ≤ 133; omega, hr0, hr1, hr2, hr3⟩
      · exact ⟨.inr (.inl ⟨rfl, by show (0 : Int) ≤ 0; omega, by show (0 : Int) ≤ 3; omega, by show (0 : Int) ≤ 31; omega, by show (31 : Int) ≤ 31; omega, by show (0 : Int) + 1 = 33 * 0 + 32 - 31; omega⟩), fun _ => rfl, by show (0 : Int) ≤ 0 + 1 ∧ (0 : Int) + 1 ≤ 133; omega, hr0, hr1, hr2, hr3⟩
    · have hf := hnf (by decide)
      subst hf
      have key : ∀ k0' k1' k2' k3' : Int, (0 ≤ k0' ∧ k0' ≤ 4294967295) → (0 ≤ k1' ∧ k1' ≤ 4294967295) → (0 ≤ k2' ∧ k2' ≤ 4294967295) → (0 ≤ k3' ∧ k3' ≤ 4294967295) → Sc.Ok ⟨if bi - 1 < 0 then 2 else 1, pa, bi - 1, k0', k1', k2', k3', false, false, 33 * pa + 32 - bi + 1⟩ := by
        intro k0' k1' k2' k3' g0 g1 g2 g3
        by_cases hb : bi - 1 < 0
        · rw [if_pos hb]
          exact ⟨.inr (.inr (.inl ⟨rfl, hp0, hp3, by show bi - 1 = -1; omega, by show 33 * pa + 32 - bi + 1 = 33 * pa + 33; omega⟩)), fun _ => rfl, by show 0 ≤ 33 * pa + 32 - bi + 1 ∧ 33 * pa + 32 - bi + 1 ≤ 133; omega, g0, g1, g2, g3⟩
        · rw [if_neg hb]
          exact ⟨.inr (.inl ⟨rfl, hp0, hp3, by show 0 ≤ bi - 1; omega, by show bi - 1 ≤ 31; omega, by show 33 * pa + 32 - bi + 1 = 33 * pa + 32 - (bi - 1); omega⟩), fun _ => rfl, by show 0 ≤ 33 * pa + 32 - bi + 1 ∧ 33 * pa + 32 - bi + 1 ≤ 133; omega, g0, g1, g2, g3⟩
      cases yes
      · obtain rfl | rfl | rfl | rfl : pa = 0 ∨ pa = 1 ∨ pa = 2 ∨ pa = 3 := by omega
        · exact key _ _ _ _ (orB_r _ _) hr1 hr2 hr3
        · exact key _ _ _ _ hr0 (orB_r _ _) hr2 hr3
        · exact key _ _ _ _ hr0 hr1 (orB_r _ _) hr3
        · exact key _ _ _ _ hr0 hr1 hr2 (orB_r _ _)
      · exact key _ _ _ _ hr0 hr1 hr2 hr3
    · have hf := hnf (by decide)
      subst hf
      cases yes
      · exact ⟨.inr (.inr (.inr ⟨rfl, rfl⟩)), fun _ => rfl, by show 0 ≤ 33 * pa + 33 + 1 ∧ 33 * pa + 33 + 1 ≤ 133; omega, hr0, hr1, hr2, hr3⟩
      · show Sc.Ok ⟨if pa + 1 = 4 then 3 else 1, pa + 1, 31, k0, k1, k2, k3, if pa + 1 = 4 then true else false, false, 33 * pa + 33 + 1⟩
        by_cases h4 : pa + 1 = 4
        · rw [if_pos h4, if_pos h4]
          exact ⟨.inr (.inr (.inr ⟨rfl, rfl⟩)), fun z => absurd rfl z, by show 0 ≤ 33 * pa + 33 + 1 ∧ 33 * pa + 33 + 1 ≤ 133; omega, hr0, hr1, hr2, hr3⟩
        · rw [if_neg h4, if_neg h4]
          exact ⟨.inr (.inl ⟨rfl, by show 0 ≤ pa + 1; omega, by show pa + 1 ≤ 3; omega, by show (0 : Int) ≤ 31; omega, by show (31 : Int) ≤ 31; omega, by show 33 * pa + 33 + 1 = 33 * (pa + 1) + 32 - 31; omega⟩), fun _ => rfl, by show 0 ≤ 33 * pa + 33 + 1 ∧ 33 * pa + 33 + 1 ≤ 133; omega, hr0, hr1, hr2, hr3⟩
    · cases hz
end Go.Proofs.Ytkegkhhfbfegoaa
