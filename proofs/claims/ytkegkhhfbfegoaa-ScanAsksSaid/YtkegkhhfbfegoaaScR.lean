/- Layer 20: a scan finds the least address of those without a number: its run. -/
import Derived.Test.YtkegkhhfbfegoaaScQ
set_option linter.unusedVariables false
set_option linter.unusedSimpArgs false
set_option maxRecDepth 100000
namespace Go.Proofs.Ytkegkhhfbfegoaa
open Sx Ls
theorem bitOr_comm (a b : Int) : bitOr .u32 a b = bitOr .u32 b a := by
  unfold bitOr; rw [BitVec.or_comm]
theorem pow_pos' (n : Nat) : (0 : Int) < 2 ^ n := Int.pow_pos (by decide)
theorem orB_add {t : Int} {b : Nat} (hb : b ≤ 31) (ht : 0 ≤ t) (h : t * 2 ^ (b + 1) + 2 ^ b ≤ 4294967295) : orB (t * 2 ^ (b + 1)) (b : Int) = t * 2 ^ (b + 1) + 2 ^ b := by
  have hp := pow_pos' b
  have hp1 : (2 : Int) ^ (b + 1) = 2 ^ b * 2 := Int.pow_succ 2 b
  have e : shlI .u32 1 (b : Int) = 2 ^ b := by
    show IntKind.u32.wrap (1 * 2 ^ (min (b : Int).toNat 32)) = _
    rw [Int.toNat_natCast, Nat.min_eq_left (by omega), Int.one_mul, wrap_u32]
    have h0 : 0 ≤ t * 2 ^ (b + 1) := Int.mul_nonneg ht (Int.le_of_lt (pow_pos' _))
    generalize t * 2 ^ (b + 1) = z at h h0
    generalize (2 : Int) ^ b = y at h hp ⊢
    omega
  unfold orB
  rw [e, bitOr_comm, bitOr_int (b + 1) (2 ^ b) t (Int.le_of_lt hp) ht (by rw [hp1]; omega) (by
    generalize t * 2 ^ (b + 1) = z at h
    generalize (2 : Int) ^ b = y at h ⊢
    omega), Int.add_comm]
/-- What is known in a part, down to a bit. -/
def kn (M : Int) (b : Nat) : Int := M / 2 ^ b / 2 * 2 ^ (b + 1)
theorem kn_div (M : Int) (b : Nat) : kn M b / 2 ^ b = M / 2 ^ b / 2 * 2 := by
  unfold kn
  rw [Int.pow_succ, Int.mul_comm (2 ^ b) 2, ← Int.mul_assoc, Int.mul_ediv_cancel _ (Int.ne_of_gt (pow_pos' b))]
theorem kn_yes {M : Int} {b : Nat} (h : M / 2 ^ b = M / 2 ^ b / 2 * 2) : kn M b = M / 2 ^ b * 2 ^ b := by
  unfold kn
  rw [Int.pow_succ, Int.mul_comm (2 ^ b) 2, ← Int.mul_assoc, ← h]
theorem mul_div_le {M : Int} (b : Nat) : M / 2 ^ b * 2 ^ b ≤ M := Int.ediv_mul_le _ (Int.ne_of_gt (pow_pos' b))
theorem kn_no {M : Int} {b : Nat} (hM : 0 ≤ M ∧ M ≤ 4294967295) (hb : b ≤ 31) (h : M / 2 ^ b = M / 2 ^ b / 2 * 2 + 1) : orB (kn M b) (b : Int) = M / 2 ^ b * 2 ^ b := by
  have h0 : 0 ≤ M / 2 ^ b := Int.ediv_nonneg hM.1 (Int.le_of_lt (pow_pos' b))
  have e : M / 2 ^ b / 2 * 2 ^ (b + 1) + 2 ^ b = M / 2 ^ b * 2 ^ b := by
    rw [Int.pow_succ, Int.mul_comm (2 ^ b) 2, ← Int.mul_assoc]
    conv => rhs; rw [h, Int.add_mul, Int.one_mul]
  unfold kn
  rw [orB_add hb (by omega) (by rw [e]; have := mul_div_le (M := M) b; omega), e]
theorem kn_next {M : Int} (b : Nat) : M / 2 ^ (b + 1) * 2 ^ (b + 1) = kn M b := by
  unfold kn
  rw [Int.pow_succ, Int.ediv_ediv_of_nonneg (Int.le_of_lt (pow_pos' b))]
theorem kn_r {M : Int} (hM : 0 ≤ M ∧ M ≤ 4294967295) (b : Nat) : 0 ≤ kn M b ∧ kn M b ≤ 4294967295 := by
  rw [← kn_next]
  have := mul_div_le (M := M) (b + 1)
  have h0 : 0 ≤ M / 2 ^ (b + 1) := Int.ediv_nonneg hM.1 (Int.le_of_lt (pow_pos' _))
  have h1 := Int.mul_nonneg h0 (Int.le_of_lt (pow_pos' (b + 1)))
  omega
section
variable {m : Ad} {ms : List PL}
/-- The least one of those without a number. -/
structure Least (m : Ad) (ms : List PL) : Prop where
  ok : ∀ x ∈ ms, x.2.Ok
  min : ∀ x ∈ ms, x.2.Free → m.le x.2.ad
  ex : ∃ x ∈ ms, x.2.Free ∧ x.2.ad = m
theorem Least.r (h : Least m ms) (p : Int) : 0 ≤ m.at p ∧ m.at p ≤ 4294967295 := by
  obtain ⟨x, hx, _, rfl⟩ := h.ex
  exact adrOf_bd (h.ok x hx) p
theorem map_same {α : Type} {f : α → α} {l : List α} (h : ∀ x ∈ l, f x = x) : l.map f = l := by
  induction l with
  | nil => rfl
  | cons a l ih => rw [List.map_cons, h a (.head _), ih fun x hx => h x (.tail _ hx)]
theorem step_bits (h : Least m ms) {p : Int} (hp : p = 0 ∨ p = 1 ∨ p = 2 ∨ p = 3) {b : Nat} (hb : b ≤ 31) :
    stepL (scB m p b (kn (m.at p) b)) (ms.map (tr m p)) = (if (b : Int) = 0 then scW m p (m.at p / 2 ^ b * 2 ^ b) else scB m p ((b : Int) - 1) (m.at p / 2 ^ b * 2 ^ b), ms.map (tr m p)) := by
  have hM := h.r p
  have hp03 : 0 ≤ p ∧ p ≤ 3 := by omega
  have hk := kn_r hM b
  have htk := fun (x : PL) (hx : x ∈ ms) => tk_bits (m := m) (p := p) hp03 (h.ok x hx) hb hk
  have e1 : (ms.map (tr m p)).map (tkL (qB (kn (m.at p) b) b p p)) = ms.map (tr m p) := by
    refine map_same fun y hy => ?_
    obtain ⟨x, hx, rfl⟩ := List.mem_map.1 hy
    unfold tkL tr
    dsimp only
    rw [htk x hx]
    split <;> rfl
  have hany : (ms.map (tr m p)).any (anL (qB (kn (m.at p) b) b p p)) = decide (m.at p / 2 ^ b = m.at p / 2 ^ b / 2 * 2) := by
    rw [Bool.eq_iff_iff, List.any_eq_true, decide_eq_true_eq]
    have hD : 0 ≤ m.at p / 2 ^ b := Int.ediv_nonneg hM.1 (Int.le_of_lt (pow_pos' b))
    constructor
    · rintro ⟨y, hy, hy2⟩
      obtain ⟨x, hx, rfl⟩ := List.mem_map.1 hy
      unfold anL tr at hy2
      dsimp only at hy2
      rw [htk x hx] at hy2
      split at hy2
      · rename_i hc
        obtain ⟨hf, hc1, hc2⟩ := hc
        rw [kn_div] at hc2
        have hle := lcp_ge (h.min x hx hf) hp hc1
        have := Int.ediv_le_ediv (pow_pos' b) hle
        omega
      · cases hy2
    · intro hc
      obtain ⟨x, hx, hf, hxm⟩ := h.ex
      refine ⟨tr m p x, List.mem_map_of_mem hx, ?_⟩
      unfold anL tr
      dsimp only
      rw [htk x hx, if_pos ⟨hf, by rw [lcp_self hxm]; omega, by
        rw [kn_div, show x.2.adr p = m.at p by rw [← hxm]; rfl]; exact hc⟩]
      rfl
  have hq : (scB m p b (kn (m.at p) b)).q = qB (kn (m.at p) b) b p p := scB_q hp
  unfold stepL
  rw [hq, e1, hany, ans_bits hp (by omega)]
  have hkk : (if decide (m.at p / 2 ^ b = m.at p / 2 ^ b / 2 * 2) = true then kn (m.at p) b else orB (kn (m.at p) b) b) = m.at p / 2 ^ b * 2 ^ b := by
    have hD : 0 ≤ m.at p / 2 ^ b := Int.ediv_nonneg hM.1 (Int.le_of_lt (pow_pos' b))
    by_cases hc : m.at p / 2 ^ b = m.at p / 2 ^ b / 2 * 2
    · rw [if_pos (decide_eq_true hc), kn_yes hc]
    · rw [if_neg (by simpa using hc), kn_no hM hb (by omega)]
  rw [hkk]
theorem run_bits (h : Least m ms) {p : Int} (hp : p = 0 ∨ p = 1 ∨ p = 2 ∨ p = 3) (n : Nat) : ∀ b : Nat, b ≤ 31 → runL (n + (b + 1)) (scB m p b (kn (m.at p) b)) (ms.map (tr m p)) = runL n (scW m p (m.at p)) (ms.map (tr m p))
  | 0, _ => by
    rw [runL, if_neg (show ¬ (scB m p (0 : Nat) (kn (m.at p) 0)).ph = 3 by show ¬ (1 : Int) = 3; decide), step_bits h hp (by decide), if_pos (by rfl)]
    simp
  | b + 1, hb => by
    rw [show n + (b + 1 + 1) = (n + (b + 1)) + 1 by omega, runL, if_neg (show ¬ (scB m p (b + 1 : Nat) (kn (m.at p) (b + 1))).ph = 3 by show ¬ (1 : Int) = 3; decide), step_bits h hp hb, if_neg (by omega)]
    dsimp only
    rw [kn_next, show ((b + 1 : Nat) : Int) - 1 = (b : Int) by omega]
    exact run_bits h hp n b (by omega)
theorem kn_31 {M : Int} (hM : 0 ≤ M ∧ M ≤ 4294967295) : kn M 31 = 0 := by
  rw [← kn_next, show M / 2 ^ (31 + 1) = 0 from ?_, Int.zero_mul]
  have : (2 : Int) ^ (31 + 1) = 4294967296 := by decide
  rw [this]; omega
theorem step_whole (h : Least m ms) {p : Int} (hp : p = 0 ∨ p = 1 ∨ p = 2) : stepL (scW m p (m.at p)) (ms.map (tr m p)) = (scB m (p + 1) 31 0, ms.map (tr m (p + 1))) := by
  have hM := h.r p
  have htk := fun (x : PL) (hx : x ∈ ms) => tk_whole (m := m) (p := p) (by omega) (h.ok x hx) hM
  have hq : (scW m p (m.at p)).q = qB (m.at p) 0 p ((p + 1) % 4) := scW_q (by omega)
  have e1 : (ms.map (tr m p)).map (tkL (qB (m.at p) 0 p ((p + 1) % 4))) = ms.map (tr m (p + 1)) := by
    rw [List.map_map]
    refine List.map_congr_left fun x hx => ?_
    show tkL _ (tr m p x) = _
    unfold tkL tr
    dsimp only
    rw [htk x hx]
  have hany : (ms.map (tr m p)).any (anL (qB (m.at p) 0 p ((p + 1) % 4))) = true := by
    rw [List.any_eq_true]
    obtain ⟨x, hx, hf, hxm⟩ := h.ex
    refine ⟨tr m p x, List.mem_map_of_mem hx, ?_⟩
    unfold anL tr
    dsimp only
    rw [htk x hx, if_pos ⟨hf, by rw [lcp_self hxm]; omega⟩]
    rfl
  unfold stepL
  rw [hq, e1, hany, ans_whole hp]
theorem tk_last {l : L} (hl : l.Ok) (hm : 0 ≤ m.at 3 ∧ m.at 3 ≤ 4294967295) :
    (trL m 3 l).take (qB (m.at 3) 0 3 ((3 + 1) % 4)) = (if l.Free ∧ l.ad = m then .one 79 0 else .no, finL m l) := by
  rw [takeL81 rfl]
  by_cases hf : l.Free
  · rw [if_pos ((trL_free m 3 l).2 hf), scans_qB _ (trL_ok ⟨by decide, by decide⟩ hl) hm (by decide) (by decide), trL_adr]
    have e : ∀ x : Int, x / 2 ^ (Int.toNat 0) = x := fun x => by simp
    rw [e, e, if_pos (rfl : (0 : Int) = 0), if_pos (show ((3 : Int) + 1) % 4 < 3 by decide)]
    have e3 : trL m 3 l = { l with looks := if 3 < lcp l m then 3 else lcp l m } := by unfold trL; rw [if_pos hf]
    have hlk : 3 = (trL m 3 l).looks ↔ 3 ≤ lcp l m := by
      rw [e3]
      show 3 = (if 3 < lcp l m then 3 else lcp l m) ↔ _
      split <;> omega
    have h4 := lcp_4 (l := l) (m := m)
    have e2 : finL m l = if l.ad = m then { l with looks := 0, mode := 1 } else { l with looks := lcp l m } := by unfold finL; rw [if_pos hf]
    by_cases h1 : l.ad = m
    · have h3 := h4.2 h1
      rw [if_pos ⟨hlk.2 (by omega), (lcp_at (.inr (.inr (.inr rfl))) (by omega)).1 h3⟩, if_pos ⟨hf, h1⟩, e2, if_pos h1, e3]
    · have h3 : ¬ 3 < lcp l m := fun e => h1 (h4.1 e)
      rw [if_neg (fun e => h3 ((lcp_at (.inr (.inr (.inr rfl))) (hlk.1 e.1)).2 e.2)), if_neg (fun e => h1 e.2), e2, if_neg h1, e3, if_neg h3]
  · rw [if_neg (fun e => hf ((trL_free m 3 l).1 e)), if_neg (fun e => hf e.1)]
    have e2 : finL m l = l := by unfold finL; rw [if_neg hf]
    have e3 : trL m 3 l = l := by unfold trL; rw [if_neg hf]
    rw [e2, e3]
theorem step_last (h : Least m ms) : stepL (scW m 3 (m.at 3)) (ms.map (tr m 3)) = (scF m, ms.map (fin m)) := by
  have hM := h.r 3
  have htk := fun (x : PL) (hx : x ∈ ms) => tk_last (m := m) (h.ok x hx) hM
  have hq : (scW m 3 (m.at 3)).q = qB (m.at 3) 0 3 ((3 + 1) % 4) := scW_q (.inr (.inr (.inr rfl)))
  have e1 : (ms.map (tr m 3)).map (tkL (qB (m.at 3) 0 3 ((3 + 1) % 4))) = ms.map (fin m) := by
    rw [List.map_map]
    refine List.map_congr_left fun x hx => ?_
    show tkL _ (tr m 3 x) = _
    unfold tkL tr fin
    dsimp only
    rw [htk x hx]
  have hany : (ms.map (tr m 3)).any (anL (qB (m.at 3) 0 3 ((3 + 1) % 4))) = true := by
    rw [List.any_eq_true]
    obtain ⟨x, hx, hf, hxm⟩ := h.ex
    refine ⟨tr m 3 x, List.mem_map_of_mem hx, ?_⟩
    unfold anL tr
    dsimp only
    rw [htk x hx, if_pos ⟨hf, hxm⟩]
    rfl
  unfold stepL
  rw [hq, e1, hany, ans_last]
theorem tk_first (l : L) : l.take Sc.new.q = if l.Free then (.one 79 0, { l with looks := 0 }) else (.no, l) := by
  rw [takeL81 rfl]
  split
  · unfold L.scans; rw [if_pos (by rfl)]
  · rfl
theorem step_first (h : Least m ms) : stepL Sc.new ms = (scB m 0 31 0, ms.map (tr m 0)) := by
  have e1 : ms.map (tkL Sc.new.q) = ms.map (tr m 0) := by
    refine List.map_congr_left fun x hx => ?_
    have := lcp_r x.2 m
    unfold tkL tr trL
    rw [tk_first]
    split
    · rw [show (if 0 < lcp x.2 m then 0 else lcp x.2 m) = 0 by split <;> omega]
    · rfl
  have hany : ms.any (anL Sc.new.q) = true := by
    rw [List.any_eq_true]
    obtain ⟨x, hx, hf, _⟩ := h.ex
    refine ⟨x, hx, ?_⟩
    unfold anL
    rw [tk_first, if_pos hf]
    rfl
  unfold stepL
  rw [e1, hany]
  rfl
/-- A scan finds the least address, and those of it are configured. -/
theorem scan_least (h : Least m ms) : scanL ms = (scF m, ms.map (fin m)) := by
  have part : ∀ (n : Nat) (p : Int), (p = 0 ∨ p = 1 ∨ p = 2) → runL (n + 33) (scB m p 31 0) (ms.map (tr m p)) = runL n (scB m (p + 1) 31 0) (ms.map (tr m (p + 1))) := by
    intro n p hp
    have e := run_bits h (p := p) (by omega) (n + 1) 31 (by decide)
    rw [kn_31 (h.r p)] at e
    refine (show runL (n + 33) _ _ = _ from e).trans ?_
    rw [runL, if_neg (show ¬ (scW m p (m.at p)).ph = 3 by show ¬ (2 : Int) = 3; decide), step_whole h hp]
  have last : runL (1 + 33) (scB m 3 31 0) (ms.map (tr m 3)) = (scF m, ms.map (fin m)) := by
    have e := run_bits h (p := 3) (.inr (.inr (.inr rfl))) (1 + 1) 31 (by decide)
    rw [kn_31 (h.r 3)] at e
    refine (show runL (1 + 33) _ _ = _ from e).trans ?_
    rw [runL, if_neg (show ¬ (scW m 3 (m.at 3)).ph = 3 by show ¬ (2 : Int) = 3; decide), step_last h]
    rw [runL, if_pos (by rfl)]
  unfold scanL
  rw [show (134 : Nat) = 133 + 1 from rfl, runL, if_neg (show ¬ Sc.new.ph = 3 by show ¬ (0 : Int) = 3; decide), step_first h]
  have p0 := part (34 + 33 + 33) 0 (.inl rfl)
  have p1 := part (34 + 33) 1 (.inr (.inl rfl))
  have p2 := part 34 2 (.inr (.inr rfl))
  exact p0.trans (p1.trans (p2.trans last))
/-- Nobody is without a number. -/
theorem scan_none (h : ∀ x ∈ ms, ¬ x.2.Free) : scanL ms = ((askd Sc.new).ans false, ms) := by
  have e1 : ms.map (tkL Sc.new.q) = ms := by
    refine map_same fun x hx => ?_
    unfold tkL
    rw [tk_first, if_neg (h x hx)]
  have hany : ms.any (anL Sc.new.q) = false := by
    rw [List.any_eq_false]
    intro x hx
    unfold anL
    rw [tk_first, if_neg (h x hx)]
    exact Bool.false_ne_true
  unfold scanL
  rw [show (134 : Nat) = 133 + 1 from rfl, runL, if_neg (show ¬ Sc.new.ph = 3 by show ¬ (0 : Int) = 3; decide)]
  unfold stepL
  rw [e1, hany, show (133 : Nat) = 132 + 1 from rfl, runL, if_pos (by rfl)]
theorem Ad.le_refl (a : Ad) : a.le a := by unfold Ad.le; omega
theorem Ad.le_trans {a b c : Ad} (h1 : a.le b) (h2 : b.le c) : a.le c := by unfold Ad.le at *; omega
theorem Ad.le_total (a b : Ad) : a.le b ∨ b.le a := by unfold Ad.le; omega
theorem Ad.le_anti {a b : Ad} (h1 : a.le b) (h2 : b.le a) : a = b := by rw [Ad.ext_iff']; unfold Ad.le at *; omega
theorem least_or : ∀ (ms : List PL), (∀ x ∈ ms, x.2.Ok) → (∀ x ∈ ms, ¬ x.2.Free) ∨ ∃ m, Least m ms
  | [], _ => .inl fun x hx => by cases hx
  | x :: r, h => by
    have hr : ∀ y ∈ r, y.2.Ok := fun y hy => h y (.tail _ hy)
    rcases least_or r hr with h1 | ⟨m, h1⟩
    · by_cases hf : x.2.Free
      · refine .inr ⟨x.2.ad, h, fun y hy hyf => ?_, x, .head _, hf, rfl⟩
        rcases List.mem_cons.1 hy with rfl | hy
        · exact Ad.le_refl _
        · exact absurd hyf (h1 y hy)
      · refine .inl fun y hy => ?_
        rcases List.mem_cons.1 hy with rfl | hy
        · exact hf
        · exact h1 y hy
    · by_cases hf : x.2.Free
      · obtain ⟨z, hz, hzf, hzm⟩ := h1.ex
        rcases Ad.le_total x.2.ad m with hle | hle
        · refine .inr ⟨x.2.ad, h, fun y hy hyf => ?_, x, .head _, hf, rfl⟩
          rcases List.mem_cons.1 hy with rfl | hy
          · exact Ad.le_refl _
          · exact Ad.le_trans hle (h1.min y hy hyf)
        · refine .inr ⟨m, h, fun y hy hyf => ?_, z, .tail _ hz, hzf, hzm⟩
          rcases List.mem_cons.1 hy with rfl | hy
          · exact hle
          · exact h1.min y hy hyf
      · obtain ⟨z, hz, hzf, hzm⟩ := h1.ex
        refine .inr ⟨m, h, fun y hy hyf => ?_, z, .tail _ hz, hzf, hzm⟩
        rcases List.mem_cons.1 hy with rfl | hy
        · exact absurd hyf hf
        · exact h1.min y hy hyf
end
end Go.Proofs.Ytkegkhhfbfegoaa
