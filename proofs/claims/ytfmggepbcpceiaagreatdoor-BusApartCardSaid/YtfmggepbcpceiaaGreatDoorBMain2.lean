/- Layer 4, plain: what a round of a bus is made of. -/
import Derived.Test.YtfmggepbcpceiaaGreatDoorBMain1
import Derived.Test.YtfmggepbcpceiaaGreatDoorBX
import Derived.Test.YtfmggepbcpceiaaGreatDoorRd
import Derived.Test.YtfmggepbcpceiaaGreatDoorBSx1
import Derived.Test.YtfmggepbcpceiaaGreatDoorTy
import Derived.Lib.LaidTab
import Derived.Stop.LaidErr

set_option linter.unusedVariables false
set_option linter.unusedSimpArgs false
set_option maxRecDepth 100000
set_option maxHeartbeats 4000000
namespace Go.Proofs.YtfmggepbcpceiaaGreatDoor
open Sx
theorem snd1_ok {pre : List Nd} {x : Nd} (h : NdW x) : okF (snd1 pre x).f = true := by
  unfold snd1
  cases hb : x.box with
  | none => rfl
  | some f => exact (h.ok f hb).1
theorem sndN_ok : ∀ (xs pre : List Nd), (∀ x ∈ xs, NdW x) → ∀ s ∈ sndN pre xs, okF s.f = true
  | [], _, _ => by intro s hs; cases hs
  | x :: xs, pre, h => by
    intro s hs
    rw [sndN] at hs
    rcases List.mem_cons.1 hs with rfl | hs
    · exact snd1_ok (h x (.head _))
    · exact sndN_ok xs _ (fun y hy => h y (.tail _ hy)) s hs
theorem sndN_id {xs pre : List Nd} (h : ∀ x ∈ xs, NdW x) : ∀ s ∈ sndN pre xs, s.f.id < 4294967296 := fun s hs => (okF_bd (sndN_ok xs pre h s hs)).1
theorem sndN_at : ∀ (xs pre : List Nd) (i : Nat) (x : Nd), xs[i]? = some x → (sndN pre xs)[i]? = some (snd1 (pre ++ xs.take i) x)
  | [], _, i, x, h => by simp at h
  | y :: xs, pre, 0, x, h => by
    rw [List.getElem?_cons_zero] at h
    injection h with h
    subst h
    simp [sndN]
  | y :: xs, pre, i + 1, x, h => by
    rw [List.getElem?_cons_succ] at h
    rw [sndN, List.getElem?_cons_succ, sndN_at xs (pre ++ [y]) i x h]
    simp
theorem comesV_bits {l : List Sn} {n w : Nat} {fl : List (Int × Int)} (hok : ∀ x ∈ fl, 0 ≤ x.2) (hn : n ≤ 300) : 0 ≤ (comesV l n w (frF l n w fl)).bits ∧ (comesV l n w (frF l n w fl)).bits ≤ 400 := by
  have han := frF_any (l := l) (n := n) (w := w) (fl := fl)
  generalize frF l n w fl = r at *
  unfold comesV
  split
  · rename_i h
    obtain ⟨x, hx, h1, h2, h3⟩ := han h
    have := hok x hx
    dsimp only
    omega
  · split
    · dsimp only; omega
    · split <;> dsimp only <;> omega
theorem comesV_len (l : List Sn) (n w : Nat) (r : Fr) : (comesV l n w r).errs.length = l.length ∧ (comesV l n w r).got.length = l.length ∧ (comesV l n w r).win = (w : Int) := by
  unfold comesV
  split
  · refine ⟨?_, by simp, rfl⟩
    dsimp only
    split <;> simp [stfE]
  · split
    · simp
    · split <;> simp [gotE]
end Go.Proofs.YtfmggepbcpceiaaGreatDoor


/- Layer 4, plain: who takes the frame of a round; a round with its nodes in the other order; a round with a node without power among them. -/
set_option linter.unusedVariables false
set_option linter.unusedSimpArgs false
set_option maxRecDepth 100000
set_option maxHeartbeats 4000000
namespace Go.Proofs.YtfmggepbcpceiaaGreatDoor
open Sx
theorem gotE_cnt : ∀ (l : List Sn) (w : Nat) (s : Sn), l[w]? = some s → s.up = true → (gotE l w).countP id + 1 = upN l
  | [], w, s, h, _ => by simp at h
  | x :: l, 0, s, h, hu => by
    rw [List.getElem?_cons_zero] at h
    injection h with h
    subst h
    have e : gotE (x :: l) 0 = false :: l.map (·.up) := by
      unfold gotE
      rw [List.mapIdx_cons]
      congr 1
      · simp
      · apply List.ext_getElem?
        intro i
        simp
    rw [e]
    unfold upN
    rw [List.countP_cons, List.countP_cons, List.countP_map, hu]
    simp only [id, if_true]
    rfl
  | x :: l, w + 1, s, h, hu => by
    rw [List.getElem?_cons_succ] at h
    have ih := gotE_cnt l w s h hu
    have e : gotE (x :: l) (w + 1) = x.up :: gotE l w := by
      unfold gotE
      rw [List.mapIdx_cons]
      congr 1
      · simp
      · apply List.ext_getElem?
        intro i
        simp
    rw [e]
    unfold upN at ih ⊢
    rw [List.countP_cons, List.countP_cons, ← ih]
    simp only [id]
    omega
theorem cnt_false (n : Nat) : (List.replicate n false).countP id = 0 := by
  rw [List.countP_eq_zero]
  intro b hb
  rw [List.eq_of_mem_replicate hb]; decide
/-- What a round without an error comes to. -/
theorem round_cases {l : List Sn} {fl : List (Int × Int)} (he : (roundV l fl).e = 0) :
    chkX l.length fl = 0 ∧ ((cand 0 l = [] ∧ roundV l fl = ⟨0, -1, noneV l.length⟩) ∨
      ∃ k w f s, firstV ((cand 0 l).map (·.2)) = (k, 0) ∧ (cand 0 l)[k]? = some (w, f) ∧ l[w]? = some s ∧ s.up = true ∧ s.sends = true ∧ s.f = f ∧
        roundV l fl = ⟨0, if (frF l (encN f) w fl).any then (frF l (encN f) w fl).node else -1, comesV l (encN f) w (frF l (encN f) w fl)⟩) := by
  unfold roundV at he ⊢
  by_cases hc : chkX l.length fl = 0
  · rw [if_pos hc] at he ⊢
    refine ⟨hc, ?_⟩
    unfold winV at he ⊢
    dsimp only at he ⊢
    by_cases hC : cand 0 l = []
    · rw [if_pos hC]; exact .inl ⟨hC, rfl⟩
    · rw [if_neg hC] at he ⊢
      by_cases hr : (firstV ((cand 0 l).map (·.2))).2 = 0
      · rw [if_pos hr] at he ⊢
        refine .inr ?_
        obtain ⟨_, _, _, _, hlt⟩ := firstV_ok hr
        rw [List.length_map] at hlt
        obtain ⟨⟨w, f⟩, hx, _⟩ := list_at hlt
        have hgd : (cand 0 l).getD (firstV ((cand 0 l).map (·.2))).1 (0, z0) = (w, f) := by rw [List.getD_eq_getElem?_getD, hx]; rfl
        rw [hgd]
        obtain ⟨_, s, h1, h2, h3, h4⟩ := cand_mem (List.mem_of_getElem? hx)
        rw [Nat.sub_zero] at h1
        exact ⟨_, w, f, s, by rw [← hr], hx, h1, h2, h3, h4, rfl⟩
      · rw [if_neg hr] at he; exact absurd he hr
  · rw [if_neg hc] at he; exact absurd he hc
theorem got_ok {l : List Sn} {fl : List (Int × Int)} (he : (roundV l fl).e = 0) (hw : 0 ≤ (roundV l fl).o.win) :
    1 ≤ upN l ∧ (((roundV l fl).o.got.countP id = 0 ∧ (roundV l fl).o.sent = false) ∨ (roundV l fl).o.got.countP id + 1 = upN l) := by
  rcases (round_cases he).2 with ⟨_, h⟩ | ⟨k, w, f, s, _, _, h1, h2, _, _, h⟩
  · rw [h] at hw; exact absurd hw (show ¬ (0 : Int) ≤ -1 by decide)
  · rw [h]
    have hc := gotE_cnt l w s h1 h2
    refine ⟨by omega, ?_⟩
    dsimp only
    unfold comesV
    split
    · exact .inl ⟨cnt_false _, rfl⟩
    · split
      · exact .inl ⟨cnt_false _, rfl⟩
      · split
        · exact .inr hc
        · exact .inr hc
/- THE OTHER ORDER -/
theorem cand_app : ∀ (a b : List Sn) (k : Nat), cand k (a ++ b) = cand k a ++ cand (k + a.length) b
  | [], b, k => by simp [cand]
  | s :: a, b, k => by
    rw [List.cons_append, cand, cand, cand_app a b (k + 1), List.length_cons, show k + 1 + a.length = k + (a.length + 1) by omega]
    split <;> rfl
theorem cand_shift : ∀ (l : List Sn) (k : Nat), cand (k + 1) l = (cand k l).map fun x => (x.1 + 1, x.2)
  | [], k => rfl
  | s :: l, k => by
    rw [cand, cand, cand_shift l (k + 1)]
    split <;> rfl
theorem cand_lt {l : List Sn} {k : Nat} : ∀ x ∈ cand k l, k ≤ x.1 ∧ x.1 < k + l.length := by
  rintro ⟨i, f⟩ hx
  obtain ⟨h1, s, h2, _⟩ := cand_mem hx
  have := (List.getElem?_eq_some_iff.1 h2).1
  dsimp only
  omega
theorem cand_rev : ∀ (l : List Sn), cand 0 l.reverse = ((cand 0 l).map fun x => (l.length - 1 - x.1, x.2)).reverse
  | [] => rfl
  | s :: l => by
    have ih := cand_rev l
    have hm : (cand 1 l).map (fun x => (l.length - x.1, x.2)) = (cand 0 l).map fun x => (l.length - 1 - x.1, x.2) := by
      rw [cand_shift l 0, List.map_map]
      refine List.map_congr_left fun x _ => ?_
      show (l.length - (x.1 + 1), x.2) = _
      rw [show l.length - (x.1 + 1) = l.length - 1 - x.1 by omega]
    rw [List.reverse_cons, cand_app, ih, List.length_reverse, Nat.zero_add, List.length_cons, Nat.add_sub_cancel, cand, cand, cand]
    split
    · rw [List.map_cons, hm, List.reverse_cons, Nat.sub_zero]
    · rw [hm, List.append_nil]
theorem tlt_irr (a : List UInt8) : tlt a a = false := Hp.bl_irr a
/-- The first of several different fields is the least one. -/
theorem bstN_min (fs : List (List UInt8)) : ∀ (k : Nat), k ≤ fs.length → ∀ j, j < k → tlt (fs.getD j []) (fs.getD (bstN fs k) []) = false
  | 0, _, j, hj => by omega
  | k + 1, hk, j, hj => by
    have ih := bstN_min fs k (by omega)
    rw [bstN]
    cases h : tlt (fs.getD k []) (fs.getD (bstN fs k) []) with
    | true =>
      rw [if_pos rfl]
      by_cases hjk : j = k
      · subst hjk; exact tlt_irr _
      · have h1 := ih j (by omega)
        cases h2 : tlt (fs.getD j []) (fs.getD k []) with
        | false => rfl
        | true =>
          have h3 : tlt (fs.getD j []) (fs.getD (bstN fs k) []) = true := Hp.bl_trans _ _ _ h2 h
          rw [h1] at h3; cases h3
    | false =>
      rw [if_neg (by decide)]
      by_cases hjk : j = k
      · subst hjk; exact h
      · exact ih j (by omega)
theorem bstN_uniq {fs : List (List UInt8)} (hn : fs.Nodup) {k : Nat} (hk : k < fs.length) (hmin : ∀ j, j < fs.length → tlt (fs.getD j []) (fs.getD k []) = false) : bstN fs fs.length = k := by
  have h0 : bstN fs fs.length < fs.length := by
    rcases (bstN_lt fs fs.length).2 with h | h
    · exact h
    · omega
  have h1 := bstN_min fs fs.length (Nat.le_refl _) k hk
  have h2 := hmin _ h0
  have h3 := Hp.bl_tri _ _ h1 h2
  have e1 : fs.getD k [] = fs[k] := by rw [List.getD_eq_getElem?_getD, List.getElem?_eq_getElem hk]; rfl
  have e2 : fs.getD (bstN fs fs.length) [] = fs[bstN fs fs.length] := by rw [List.getD_eq_getElem?_getD, List.getElem?_eq_getElem h0]; rfl
  rw [e1, e2] at h3
  exact ((List.getElem_inj hn).1 h3).symm
theorem getD_map {l : List Fm} {k : Nat} {f : Fm} (h : l[k]? = some f) : (l.map fld).getD k [] = fld f := by
  rw [List.getD_eq_getElem?_getD, List.getElem?_map, h]; rfl
/-- The first of frames in another order: by where it lies. -/
theorem firstV_move {L L' : List Fm} {k k' : Nat} (h : firstV L = (k, 0)) (hp : L'.Perm L) (hk : L'[k']? = L[k]?) (hlt : k < L.length) : firstV L' = (k', 0) := by
  have h0 : (firstV L).2 = 0 := by rw [h]
  obtain ⟨h1, h2, h3, h4, h5⟩ := firstV_ok h0
  rw [h4] at h
  injection h with h _
  obtain ⟨f, hf, _⟩ := list_at hlt
  rw [hf] at hk
  have hlt' := (List.getElem?_eq_some_iff.1 hk).1
  have hne : L' ≠ [] := by rintro rfl; simp at hlt'
  have hall : L'.all okF = true := by
    rw [List.all_eq_true] at h2 ⊢
    exact fun x hx => h2 x (hp.subset hx)
  have hnd : (L'.map fld).Nodup := (hp.map fld).nodup_iff.2 h3
  have hb : bstN (L'.map fld) L'.length = k' := by
    have := bstN_uniq hnd (k := k') (by rw [List.length_map]; exact hlt') (fun j hj => ?_)
    · rw [List.length_map] at this; exact this
    · rw [List.length_map] at hj
      obtain ⟨g, hg, _⟩ := list_at hj
      rw [getD_map hg, getD_map hk]
      obtain ⟨i, hi⟩ := List.getElem?_of_mem (hp.subset (List.mem_of_getElem? hg))
      have hil := (List.getElem?_eq_some_iff.1 hi).1
      have := bstN_min (L.map fld) L.length (by simp) i hil
      rw [getD_map hi, h, getD_map hf] at this
      exact this
  unfold firstV
  rw [if_neg hne, if_neg (by rw [hall]; decide), if_pos hnd, hb]
theorem upAtN {l : List Sn} {i : Nat} {s : Sn} (h : l[i]? = some s) : upAt l (i : Int) = s.up := by
  unfold upAt
  rw [Int.toNat_natCast, List.getD_eq_getElem?_getD, List.getElem?_map, h]; rfl
def turnX (n : Nat) (x : Int × Int) : Int × Int := ((n : Int) - 1 - x.1, x.2)
theorem rev_at {α : Type} {l : List α} {i : Nat} (h : i < l.length) : l.reverse[l.length - 1 - i]? = l[i]? := by
  rw [List.getElem?_reverse (by omega)]
  congr 1; omega
theorem upAt_rev {l : List Sn} {i : Int} (h0 : 0 ≤ i) (h1 : i < (l.length : Int)) : upAt l.reverse ((l.length : Int) - 1 - i) = upAt l i := by
  obtain ⟨j, rfl⟩ : ∃ j : Nat, i = (j : Int) := ⟨i.toNat, by omega⟩
  have hj : j < l.length := by omega
  obtain ⟨s, hs, _⟩ := list_at hj
  rw [upAtN hs, show (l.length : Int) - 1 - (j : Int) = ((l.length - 1 - j : Nat) : Int) by omega]
  exact upAtN (by rw [rev_at hj]; exact hs)
theorem frS_def (l : List Sn) (n w : Nat) (s : Fr) (a b : Int) : frS l n w s (a, b) = if upAt l a = false ∨ (n : Int) ≤ b then s else if b = (n : Int) - 1 then ⟨s.any, s.node, s.bit, s.late || decide (a = (w : Int))⟩ else if s.any = false ∨ b < s.bit ∨ (b = s.bit ∧ a < s.node) then ⟨true, a, b, s.late⟩ else s := rfl
theorem frF_rev {l : List Sn} {n w : Nat} (hw : w < l.length) : ∀ {fl : List (Int × Int)}, (∀ x ∈ fl, 0 ≤ x.1 ∧ x.1 < (l.length : Int) ∧ 0 ≤ x.2) →
    (frF l.reverse n (l.length - 1 - w) (fl.map (turnX l.length))).any = (frF l n w fl).any ∧ (frF l.reverse n (l.length - 1 - w) (fl.map (turnX l.length))).bit = (frF l n w fl).bit ∧
      (frF l.reverse n (l.length - 1 - w) (fl.map (turnX l.length))).late = (frF l n w fl).late := by
  intro fl
  induction fl using snoc_ind with
  | h0 => intro _; exact ⟨rfl, rfl, rfl⟩
  | h1 L x ih =>
    intro h
    have ih := ih fun y hy => h y (List.mem_append_left _ hy)
    obtain ⟨g0, g1, g2⟩ := h x (List.mem_append_right _ (.head _))
    have e : frF l n w (L ++ [x]) = frS l n w (frF l n w L) x := by unfold frF; rw [List.foldl_append]; rfl
    have e' : frF l.reverse n (l.length - 1 - w) ((L ++ [x]).map (turnX l.length)) = frS l.reverse n (l.length - 1 - w) (frF l.reverse n (l.length - 1 - w) (L.map (turnX l.length))) (turnX l.length x) := by
      unfold frF; rw [List.map_append, List.foldl_append]; rfl
    rw [e, e']
    generalize frF l n w L = s at *
    generalize frF l.reverse n (l.length - 1 - w) (L.map (turnX l.length)) = s' at *
    obtain ⟨a, nd, bt, lt⟩ := s
    obtain ⟨a', nd', bt', lt'⟩ := s'
    dsimp only at ih
    obtain ⟨rfl, rfl, rfl⟩ := ih
    have hu := upAt_rev g0 g1
    have hw2 : (((l.length - 1 - w : Nat) : Int)) = (l.length : Int) - 1 - (w : Int) := by omega
    have hd : decide ((l.length : Int) - 1 - x.1 = ((l.length - 1 - w : Nat) : Int)) = decide (x.1 = (w : Int)) := by
      rw [decide_eq_decide]; omega
    obtain ⟨xa, xb⟩ := x
    dsimp only at g0 g1 g2 hu hd
    rw [show turnX l.length (xa, xb) = ((l.length : Int) - 1 - xa, xb) from rfl, frS_def, frS_def, hu, hd]
    by_cases c1 : upAt l xa = false ∨ (n : Int) ≤ xb
    · rw [if_pos c1, if_pos c1]; exact ⟨rfl, rfl, rfl⟩
    · rw [if_neg c1, if_neg c1]
      by_cases c2 : xb = (n : Int) - 1
      · rw [if_pos c2, if_pos c2]; exact ⟨rfl, rfl, rfl⟩
      · rw [if_neg c2, if_neg c2]
        dsimp only
        cases a' with
        | false => simp
        | true =>
          split
          · rename_i h1
            split
            · exact ⟨rfl, rfl, rfl⟩
            · rename_i h2
              simp at h1 h2
              exact ⟨rfl, by dsimp only; omega, rfl⟩
          · rename_i h1
            split
            · rename_i h2
              simp at h1 h2
              exact ⟨rfl, by dsimp only; omega, rfl⟩
            · exact ⟨rfl, rfl, rfl⟩
theorem gotE_rev {l : List Sn} {w : Nat} (hw : w < l.length) : gotE l.reverse (l.length - 1 - w) = (gotE l w).reverse := by
  apply List.ext_getElem?
  intro i
  unfold gotE
  by_cases hi : i < l.length
  · rw [List.getElem?_reverse (by simpa using hi)]
    simp only [List.getElem?_mapIdx, List.length_mapIdx, List.getElem?_reverse hi]
    obtain ⟨s, hs, _⟩ := list_at (show l.length - 1 - i < l.length by omega)
    rw [hs]
    simp only [Option.map_some, Option.some.injEq]
    congr 2
    rw [decide_eq_decide]; omega
  · rw [List.getElem?_eq_none (by simp; omega), List.getElem?_eq_none (by simp; omega)]
theorem upN_rev (l : List Sn) : upN l.reverse = upN l := by unfold upN; rw [List.countP_reverse]
theorem chkX_rev {n : Nat} {fl : List (Int × Int)} : chkX n (fl.map (turnX n)) = chkX n fl := by
  unfold chkX
  rw [List.length_map, List.any_map]
  have : (xBad n ∘ turnX n) = xBad n := by
    funext x
    unfold xBad turnX
    simp only [Function.comp]
    rw [Bool.eq_iff_iff]
    simp only [Bool.or_eq_true, decide_eq_true_eq]
    omega
  rw [this]
/-- Nodes in the other order: the same round. -/
theorem round_rev {l : List Sn} {fl : List (Int × Int)} (he : (roundV l fl).e = 0) :
    (roundV l.reverse (fl.map (turnX l.length))).e = 0 ∧ (roundV l.reverse (fl.map (turnX l.length))).o.bits = (roundV l fl).o.bits ∧ (roundV l.reverse (fl.map (turnX l.length))).o.sent = (roundV l fl).o.sent ∧
      (roundV l.reverse (fl.map (turnX l.length))).o.got = (roundV l fl).o.got.reverse ∧ (roundV l fl).o.got.length = l.length ∧
      ((roundV l fl).o.win = -1 ∧ (roundV l.reverse (fl.map (turnX l.length))).o.win = -1 ∨ 0 ≤ (roundV l fl).o.win ∧ (roundV l fl).o.win < (l.length : Int) ∧ (roundV l.reverse (fl.map (turnX l.length))).o.win = (l.length : Int) - 1 - (roundV l fl).o.win) := by
  obtain ⟨hc, hcs⟩ := round_cases he
  have hc' : chkX l.reverse.length (fl.map (turnX l.length)) = 0 := by rw [List.length_reverse, chkX_rev]; exact hc
  rcases hcs with ⟨h1, h⟩ | ⟨k, w, f, s, h1, h2, h3, h4, h5, h6, h⟩
  · rw [h]
    have : roundV l.reverse (fl.map (turnX l.length)) = ⟨0, -1, noneV l.length⟩ := by
      unfold roundV
      rw [if_pos hc']
      unfold winV
      dsimp only
      rw [if_pos (by rw [cand_rev, h1]; rfl), List.length_reverse]
    rw [this]
    exact ⟨rfl, rfl, rfl, by simp [noneV], by simp [noneV], .inl ⟨rfl, rfl⟩⟩
  · have hwl := (List.getElem?_eq_some_iff.1 h3).1
    have hkl := (List.getElem?_eq_some_iff.1 h2).1
    have hcr := cand_rev l
    have hck : (cand 0 l.reverse)[(cand 0 l).length - 1 - k]? = some (l.length - 1 - w, f) := by
      rw [hcr]
      have := rev_at (l := (cand 0 l).map fun x => (l.length - 1 - x.1, x.2)) (i := k) (by rw [List.length_map]; exact hkl)
      rw [List.length_map] at this
      rw [this, List.getElem?_map, h2]; rfl
    have hfr : firstV ((cand 0 l.reverse).map (·.2)) = ((cand 0 l).length - 1 - k, 0) := by
      have e : (cand 0 l.reverse).map (·.2) = ((cand 0 l).map (·.2)).reverse := by
        rw [hcr, List.map_reverse, List.map_map]; rfl
      refine firstV_move h1 (by rw [e]; exact List.reverse_perm _) ?_ (by rw [List.length_map]; exact hkl)
      rw [List.getElem?_map, hck, List.getElem?_map, h2]; rfl
    have hne : cand 0 l.reverse ≠ [] := by intro e; rw [e] at hck; simp at hck
    obtain ⟨_, hok⟩ := chkX_ok hc
    obtain ⟨f1, f2, f3⟩ := frF_rev (n := encN f) hwl hok
    have hr : roundV l.reverse (fl.map (turnX l.length)) = ⟨0, if (frF l.reverse (encN f) (l.length - 1 - w) (fl.map (turnX l.length))).any then (frF l.reverse (encN f) (l.length - 1 - w) (fl.map (turnX l.length))).node else -1, comesV l.reverse (encN f) (l.length - 1 - w) (frF l.reverse (encN f) (l.length - 1 - w) (fl.map (turnX l.length)))⟩ := by
      unfold roundV
      rw [if_pos hc']
      unfold winV
      dsimp only
      have hgd : (cand 0 l.reverse).getD ((cand 0 l).length - 1 - k) (0, z0) = (l.length - 1 - w, f) := by rw [List.getD_eq_getElem?_getD, hck]; rfl
      rw [if_neg hne, hfr]
      dsimp only
      rw [if_pos rfl, hgd]
    rw [h, hr]
    dsimp only
    generalize frF l.reverse (encN f) (l.length - 1 - w) (fl.map (turnX l.length)) = r' at *
    generalize frF l (encN f) w fl = r at *
    obtain ⟨a', nd', bt', lt'⟩ := r'
    obtain ⟨a, nd, bt, lt⟩ := r
    dsimp only at f1 f2 f3
    subst f1 f2 f3
    have hwn : (0 : Int) ≤ (w : Int) ∧ (w : Int) < (l.length : Int) ∧ ((l.length - 1 - w : Nat) : Int) = (l.length : Int) - 1 - (w : Int) := by omega
    have hgr := gotE_rev hwl
    have hgl : (gotE l w).length = l.length := by simp [gotE]
    refine ⟨rfl, ?_⟩
    unfold comesV
    dsimp only
    rw [upN_rev, List.length_reverse]
    split
    · exact ⟨rfl, rfl, by simp, by simp, .inr hwn⟩
    · split
      · exact ⟨rfl, rfl, by simp, by simp, .inr hwn⟩
      · split
        · exact ⟨rfl, rfl, hgr, hgl, .inr hwn⟩
        · exact ⟨rfl, rfl, hgr, hgl, .inr hwn⟩
end Go.Proofs.YtfmggepbcpceiaaGreatDoor


/- Layer 4, plain: a node without power among the others changes nothing. -/
set_option linter.unusedVariables false
set_option linter.unusedSimpArgs false
set_option maxRecDepth 100000
set_option maxHeartbeats 4000000
namespace Go.Proofs.YtfmggepbcpceiaaGreatDoor
open Sx
/-- One more element, at a place. -/
def ins {α : Type} (g : Nat) (y : α) (l : List α) : List α := l.take g ++ y :: l.drop g
def toN (g i : Nat) : Nat := if g ≤ i then i + 1 else i
def toZ (g : Nat) (i : Int) : Int := if (g : Int) ≤ i then i + 1 else i
theorem toZ_nat (g i : Nat) : toZ g (i : Int) = (toN g i : Int) := by
  unfold toZ toN
  by_cases h : g ≤ i
  · rw [if_pos h, if_pos (by omega)]; rfl
  · rw [if_neg h, if_neg (by omega)]
theorem toN_inj {g i j : Nat} : toN g i = toN g j ↔ i = j := by unfold toN; split <;> split <;> omega
theorem toZ_inj {g : Nat} {i j : Int} : toZ g i = toZ g j ↔ i = j := by unfold toZ; split <;> split <;> omega
theorem toZ_lt {g : Nat} {i j : Int} : toZ g i < toZ g j ↔ i < j := by unfold toZ; split <;> split <;> omega
theorem toN_ne {g i : Nat} : toN g i ≠ g := by unfold toN; split <;> omega
theorem toN_hit {g j : Nat} (h : j ≠ g) : ∃ i, toN g i = j := by
  by_cases hj : j < g
  · exact ⟨j, by unfold toN; rw [if_neg (by omega)]⟩
  · exact ⟨j - 1, by unfold toN; rw [if_pos (by omega)]; omega⟩
section
variable {α β : Type} {g : Nat} {y : α} {l L : List α}
theorem ins_len (hg : g ≤ l.length) : (ins g y l).length = l.length + 1 := by unfold ins; simp; omega
theorem ins_at (hg : g ≤ l.length) (i : Nat) : (ins g y l)[toN g i]? = l[i]? := by
  unfold ins toN
  have hl : (l.take g).length = g := by simp; omega
  split
  · rw [List.getElem?_append_right (by omega), hl, show i + 1 - g = (i - g) + 1 by omega, List.getElem?_cons_succ, List.getElem?_drop]
    congr 1; omega
  · rw [List.getElem?_append_left (by omega), List.getElem?_take, if_pos (by omega)]
theorem ins_g (hg : g ≤ l.length) : (ins g y l)[g]? = some y := by
  unfold ins
  have hl : (l.take g).length = g := by simp; omega
  rw [List.getElem?_append_right (by omega), hl, Nat.sub_self]; rfl
theorem ins_ext (hg : g ≤ l.length) (h1 : L[g]? = some y) (h2 : ∀ i, L[toN g i]? = l[i]?) : L = ins g y l := by
  apply List.ext_getElem?
  intro j
  by_cases hj : j = g
  · rw [hj, h1, ins_g hg]
  · obtain ⟨i, rfl⟩ := toN_hit hj
    rw [h2, ins_at hg]
theorem ins_map (hg : g ≤ l.length) (F : α → β) : (ins g y l).map F = ins g (F y) (l.map F) :=
  ins_ext (by simpa using hg) (by rw [List.getElem?_map, ins_g hg]; rfl) fun i => by rw [List.getElem?_map, ins_at hg, List.getElem?_map]
theorem ins_mapIdx (hg : g ≤ l.length) (F : Nat → α → β) : (ins g y l).mapIdx F = ins g (F g y) (l.mapIdx fun i => F (toN g i)) :=
  ins_ext (by simpa using hg) (by rw [List.getElem?_mapIdx, ins_g hg]; rfl) fun i => by rw [List.getElem?_mapIdx, ins_at hg, List.getElem?_mapIdx]
theorem ins_set (hg : g ≤ l.length) (i : Nat) (v : α) : (ins g y l).set (toN g i) v = ins g y (l.set i v) :=
  ins_ext (by simpa using hg) (by rw [List.getElem?_set_ne toN_ne, ins_g hg]) fun j => by
    by_cases h : i = j
    · subst h
      rw [List.getElem?_set, List.getElem?_set, if_pos rfl, if_pos rfl, ins_len hg]
      by_cases hi : i < l.length
      · rw [if_pos hi, if_pos (by unfold toN; split <;> omega)]
      · rw [if_neg hi, if_neg (by unfold toN; split <;> omega)]
    · rw [List.getElem?_set_ne (fun e => h (toN_inj.1 e)), List.getElem?_set_ne h, ins_at hg]
theorem ins_rep {n : Nat} (hg : g ≤ n) : List.replicate (n + 1) y = ins g y (List.replicate n y) :=
  ins_ext (by simpa using hg) (by rw [List.getElem?_replicate, if_pos (by omega)]) fun i => by
    rw [List.getElem?_replicate, List.getElem?_replicate]
    by_cases h : i < n
    · rw [if_pos h, if_pos (by unfold toN; split <;> omega)]
    · rw [if_neg h, if_neg (by unfold toN; split <;> omega)]
theorem ins_getD (hg : g ≤ l.length) (i : Nat) (d : α) : (ins g y l).getD (toN g i) d = l.getD i d := by
  rw [List.getD_eq_getElem?_getD, ins_at hg, List.getD_eq_getElem?_getD]
end
section
variable {g : Nat} {s0 : Sn} {l : List Sn}
theorem cand_ins (hg : g ≤ l.length) (h0 : s0.up = false) : cand 0 (ins g s0 l) = (cand 0 l).map fun x => (toN g x.1, x.2) := by
  have hl : (l.take g).length = g := by simp; omega
  have e : cand 0 l = cand 0 (l.take g) ++ cand g (l.drop g) := by
    conv => lhs; rw [← List.take_append_drop g l, cand_app, hl, Nat.zero_add]
  unfold ins
  rw [cand_app, hl, Nat.zero_add, cand, h0, Bool.false_and, if_neg (by decide), e, List.map_append, cand_shift (l.drop g) g]
  congr 1
  · have : ∀ x ∈ cand 0 (l.take g), (toN g x.1, x.2) = x := fun x hx => by
      have := (cand_lt x hx).2
      unfold toN; rw [if_neg (by omega)]
    rw [List.map_congr_left this, List.map_id']
  · refine List.map_congr_left fun x hx => ?_
    have := (cand_lt x hx).1
    unfold toN; rw [if_pos this]
def insX (g : Nat) (x : Int × Int) : Int × Int := (toZ g x.1, x.2)
theorem upAt_ins (hg : g ≤ l.length) {i : Int} (h0 : 0 ≤ i) (h1 : i < (l.length : Int)) : upAt (ins g s0 l) (toZ g i) = upAt l i := by
  obtain ⟨j, rfl⟩ : ∃ j : Nat, i = (j : Int) := ⟨i.toNat, by omega⟩
  obtain ⟨s, hs, _⟩ := list_at (show j < l.length by omega)
  rw [upAtN hs, toZ_nat]
  exact upAtN (by rw [ins_at hg]; exact hs)
theorem frF_ins (hg : g ≤ l.length) {n w : Nat} : ∀ {fl : List (Int × Int)}, (∀ x ∈ fl, 0 ≤ x.1 ∧ x.1 < (l.length : Int)) →
    (frF (ins g s0 l) n (toN g w) (fl.map (insX g))).any = (frF l n w fl).any ∧ (frF (ins g s0 l) n (toN g w) (fl.map (insX g))).bit = (frF l n w fl).bit ∧
      (frF (ins g s0 l) n (toN g w) (fl.map (insX g))).late = (frF l n w fl).late ∧ ((frF l n w fl).any = true → (frF (ins g s0 l) n (toN g w) (fl.map (insX g))).node = toZ g (frF l n w fl).node ∧ 0 ≤ (frF l n w fl).node) := by
  intro fl
  induction fl using snoc_ind with
  | h0 => intro _; exact ⟨rfl, rfl, rfl, fun h => by cases h⟩
  | h1 L x ih =>
    intro h
    have ih := ih fun y hy => h y (List.mem_append_left _ hy)
    obtain ⟨g0, g1⟩ := h x (List.mem_append_right _ (.head _))
    have e : frF l n w (L ++ [x]) = frS l n w (frF l n w L) x := by unfold frF; rw [List.foldl_append]; rfl
    have e' : frF (ins g s0 l) n (toN g w) ((L ++ [x]).map (insX g)) = frS (ins g s0 l) n (toN g w) (frF (ins g s0 l) n (toN g w) (L.map (insX g))) (insX g x) := by
      unfold frF; rw [List.map_append, List.foldl_append]; rfl
    rw [e, e']
    generalize frF l n w L = s at *
    generalize frF (ins g s0 l) n (toN g w) (L.map (insX g)) = s' at *
    obtain ⟨a, nd, bt, lt⟩ := s
    obtain ⟨a', nd', bt', lt'⟩ := s'
    dsimp only at ih
    obtain ⟨rfl, rfl, rfl, hnd⟩ := ih
    have hu := upAt_ins (s0 := s0) hg g0 g1
    have hd : decide (toZ g x.1 = ((toN g w : Nat) : Int)) = decide (x.1 = (w : Int)) := by
      rw [decide_eq_decide, ← toZ_nat]; exact toZ_inj
    obtain ⟨xa, xb⟩ := x
    dsimp only at g0 g1 hu hd
    rw [show insX g (xa, xb) = (toZ g xa, xb) from rfl, frS_def, frS_def, hu, hd]
    by_cases c1 : upAt l xa = false ∨ (n : Int) ≤ xb
    · rw [if_pos c1, if_pos c1]; exact ⟨rfl, rfl, rfl, hnd⟩
    · rw [if_neg c1, if_neg c1]
      by_cases c2 : xb = (n : Int) - 1
      · rw [if_pos c2, if_pos c2]; exact ⟨rfl, rfl, rfl, hnd⟩
      · rw [if_neg c2, if_neg c2]
        dsimp only
        cases a' with
        | false =>
          rw [if_pos (.inl rfl), if_pos (.inl rfl)]
          exact ⟨rfl, rfl, rfl, fun _ => ⟨rfl, g0⟩⟩
        | true =>
          obtain ⟨rfl, hnn⟩ := hnd rfl
          by_cases c3 : true = false ∨ xb < bt' ∨ xb = bt' ∧ xa < nd
          · rw [if_pos c3, if_pos (c3.imp id fun h => h.imp id fun h => ⟨h.1, toZ_lt.2 h.2⟩)]
            exact ⟨rfl, rfl, rfl, fun _ => ⟨rfl, g0⟩⟩
          · rw [if_neg c3, if_neg fun h => c3 (h.imp id fun h => h.imp id fun h => ⟨h.1, toZ_lt.1 h.2⟩)]
            exact ⟨rfl, rfl, rfl, fun _ => ⟨rfl, hnn⟩⟩
theorem upN_ins (hg : g ≤ l.length) (h0 : s0.up = false) : upN (ins g s0 l) = upN l := by
  unfold upN ins
  rw [List.countP_append, List.countP_cons, h0]
  conv => rhs; rw [← List.take_append_drop g l, List.countP_append]
  simp
theorem gotE_ins (hg : g ≤ l.length) (h0 : s0.up = false) (w : Nat) : gotE (ins g s0 l) (toN g w) = ins g false (gotE l w) := by
  unfold gotE
  rw [ins_mapIdx hg, h0, Bool.false_and]
  congr 2
  funext i s
  congr 2
  rw [decide_eq_decide]; exact toN_inj
theorem stfE_ins (hg : g ≤ l.length) (h0 : s0.up = false) : stfE (ins g s0 l) = ins g 0 (stfE l) := by
  unfold stfE
  rw [ins_map hg, h0]; rfl
def insO (g : Nat) (o : Out) : Out := ⟨toZ g o.win, o.bits, o.sent, ins g 0 o.errs, ins g false o.got⟩
theorem comesV_ins (hg : g ≤ l.length) (h0 : s0.up = false) {n w : Nat} {r r' : Fr} (h1 : r'.any = r.any) (h2 : r'.bit = r.bit) (h3 : r'.late = r.late) (h4 : r.any = true → r'.node = toZ g r.node ∧ 0 ≤ r.node) :
    comesV (ins g s0 l) n (toN g w) r' = insO g (comesV l n w r) := by
  obtain ⟨a', nd', bt', lt'⟩ := r'
  obtain ⟨a, nd, bt, lt⟩ := r
  dsimp only at h1 h2 h3 h4
  subst h1 h2 h3
  have hge : (gotE l w).length = l.length := by simp [gotE]
  unfold comesV
  dsimp only
  rw [upN_ins hg h0, ins_len hg, gotE_ins hg h0, ins_rep (n := l.length) hg, ins_rep (n := l.length) hg, stfE_ins hg h0]
  cases a' with
  | true =>
    obtain ⟨rfl, hn⟩ := h4 rfl
    obtain ⟨j, rfl⟩ : ∃ j : Nat, nd = (j : Int) := ⟨nd.toNat, by omega⟩
    rw [if_pos rfl, if_pos rfl, toZ_nat, Int.toNat_natCast, Int.toNat_natCast]
    unfold insO
    dsimp only
    rw [toZ_nat]
    split
    · rw [ins_set (by simpa [stfE] using hg)]
    · rfl
  | false =>
    rw [if_neg (show ¬ false = true by decide), if_neg (show ¬ false = true by decide)]
    split
    · unfold insO
      dsimp only
      rw [toZ_nat, ins_set (by simpa using hg)]
    · split
      · unfold insO
        dsimp only
        rw [toZ_nat, ins_set (by simpa using hg)]
      · unfold insO
        dsimp only
        rw [toZ_nat]
theorem chkX_ins {n : Nat} (hg : g ≤ n) (hn : n + 1 ≤ 127) {fl : List (Int × Int)} (hf : ∀ x ∈ fl, 0 ≤ x.1 ∧ x.1 < (n : Int)) : chkX (n + 1) (fl.map (insX g)) = chkX n fl := by
  unfold chkX
  rw [List.length_map]
  by_cases h : 65536 < fl.length
  · rw [if_pos (.inr h), if_pos (.inr h)]
  · rw [if_neg (show ¬ (127 < n + 1 ∨ 65536 < fl.length) by omega), if_neg (show ¬ (127 < n ∨ 65536 < fl.length) by omega)]
    have : (fl.map (insX g)).any (xBad (n + 1)) = fl.any (xBad n) := by
      rw [List.any_map, Bool.eq_iff_iff, List.any_eq_true, List.any_eq_true]
      refine exists_congr fun x => ?_
      refine and_congr_right fun hx => ?_
      have := hf x hx
      unfold xBad insX toZ
      simp only [Function.comp, Bool.or_eq_true, decide_eq_true_eq]
      split <;> omega
    rw [this]
theorem round_ins (hg : g ≤ l.length) (hn : l.length + 1 ≤ 127) (h0 : s0.up = false) {fl : List (Int × Int)} (hf : ∀ x ∈ fl, 0 ≤ x.1 ∧ x.1 < (l.length : Int)) :
    (roundV (ins g s0 l) (fl.map (insX g))).e = (roundV l fl).e ∧ ((roundV l fl).e = 0 → (roundV (ins g s0 l) (fl.map (insX g))).bt = toZ g (roundV l fl).bt ∧ (roundV (ins g s0 l) (fl.map (insX g))).o = insO g (roundV l fl).o) := by
  unfold roundV
  rw [ins_len hg, chkX_ins hg hn hf]
  by_cases hc : chkX l.length fl = 0
  · rw [if_pos hc, if_pos hc]
    unfold winV
    dsimp only
    have e2 : ((cand 0 (ins g s0 l)).map (·.2)) = (cand 0 l).map (·.2) := by rw [cand_ins hg h0, List.map_map]; rfl
    by_cases hC : cand 0 l = []
    · rw [if_pos hC, if_pos (by rw [cand_ins hg h0, hC]; rfl)]
      refine ⟨rfl, fun _ => ⟨by unfold toZ; rw [if_neg (show ¬ (g : Int) ≤ -1 by omega)], ?_⟩⟩
      unfold noneV insO
      rw [ins_len hg, ins_rep (n := l.length) hg, ins_rep (n := l.length) hg]
      dsimp only
      congr 1
      unfold toZ; rw [if_neg (show ¬ (g : Int) ≤ -1 by omega)]
    · rw [if_neg hC, if_neg (by rw [cand_ins hg h0]; simpa using hC), e2]
      by_cases hr : (firstV ((cand 0 l).map (·.2))).2 = 0
      · rw [if_pos hr, if_pos hr]
        obtain ⟨_, _, _, _, hlt⟩ := firstV_ok hr
        rw [List.length_map] at hlt
        obtain ⟨⟨w, f⟩, hx, _⟩ := list_at hlt
        have hgd : (cand 0 l).getD (firstV ((cand 0 l).map (·.2))).1 (0, z0) = (w, f) := by rw [List.getD_eq_getElem?_getD, hx]; rfl
        have hgd' : (cand 0 (ins g s0 l)).getD (firstV ((cand 0 l).map (·.2))).1 (0, z0) = (toN g w, f) := by rw [List.getD_eq_getElem?_getD, cand_ins hg h0, List.getElem?_map, hx]; rfl
        rw [hgd, hgd']
        obtain ⟨f1, f2, f3, f4⟩ := frF_ins (s0 := s0) (n := encN f) (w := w) hg hf
        dsimp only
        refine ⟨rfl, fun _ => ⟨?_, comesV_ins hg h0 f1 f2 f3 f4⟩⟩
        rw [f1]
        cases ha : (frF l (encN f) w fl).any with
        | true => rw [if_pos rfl, if_pos rfl]; exact (f4 ha).1
        | false => rw [if_neg (by decide), if_neg (by decide)]; unfold toZ; rw [if_neg (show ¬ (g : Int) ≤ -1 by omega)]
      · rw [if_neg hr, if_neg hr]
        exact ⟨rfl, fun h => absurd h hr⟩
  · rw [if_neg hc, if_neg hc]
    exact ⟨rfl, fun h => absurd h hc⟩
end
/- A BUS WITH ONE NODE MORE -/
theorem snd_ins {g : Nat} {ns : List Nd} (hg : g ≤ ns.length) : sndN [] (ins g n0 ns) = ins g ⟨false, false, z0⟩ (sndN [] ns) := by
  have h1 : snd1 ([] ++ ns.take g) n0 = ⟨false, false, z0⟩ := rfl
  have hany : ∀ (pre post : List Nd), snd1 (pre ++ n0 :: post) = snd1 (pre ++ post) := fun pre post => by
    funext x
    unfold snd1
    cases x.box with
    | none => rfl
    | some f =>
      dsimp only
      rw [List.any_append, List.any_append, List.any_cons]
      have : fldO n0 f = false := rfl
      rw [this, Bool.false_or]
  refine ins_ext (by rw [sndN_len]; exact hg) ?_ fun i => ?_
  · rw [sndN_at _ _ _ _ (ins_g hg)]; rfl
  · by_cases hi : i < ns.length
    · obtain ⟨x, hx, _⟩ := list_at hi
      rw [sndN_at _ _ _ _ (show (ins g n0 ns)[toN g i]? = some x by rw [ins_at hg]; exact hx), sndN_at _ _ _ _ hx, List.nil_append, List.nil_append]
      congr 1
      have hl : (ns.take g).length = g := by simp; omega
      unfold toN ins
      split
      · rename_i hgi
        rw [List.take_append, hl, List.take_of_length_le (show (ns.take g).length ≤ i + 1 by omega), show i + 1 - g = (i - g) + 1 by omega, List.take_succ_cons, hany, ← List.take_add, show g + (i - g) = i by omega]
      · rw [List.take_append_of_le_length (by omega), List.take_take, Nat.min_eq_left (by omega)]
    · rw [List.getElem?_eq_none (by rw [sndN_len, ins_len hg]; unfold toN; split <;> omega), List.getElem?_eq_none (by rw [sndN_len]; omega)]
theorem stl_n0 (o : Out) (bt : Int) (won : Fm) (i : Nat) : stl o bt won i n0 = n0 := by
  unfold stl
  rfl
theorem stlN_ins {g : Nat} {ns : List Nd} {o : Out} {bt : Int} (hg : g ≤ ns.length) (he : o.errs.length = ns.length) (hgo : o.got.length = ns.length) (hw : -1 ≤ o.win) (hbt : -1 ≤ bt) :
    stlN (insO g o) (toZ g bt) (ins g n0 ns) = ins g n0 (stlN o bt ns) := by
  have hb : boxAt (ins g n0 ns) (insO g o).win = boxAt ns o.win := by
    unfold boxAt insO
    dsimp only
    by_cases hn : o.win < 0
    · rw [if_pos hn, if_pos (by unfold toZ; rw [if_neg (by omega)]; exact hn)]
    · rw [if_neg hn, if_neg (by unfold toZ; split <;> omega)]
      obtain ⟨w, hwe⟩ : ∃ w : Nat, o.win = (w : Int) := ⟨o.win.toNat, by omega⟩
      rw [hwe, toZ_nat, Int.toNat_natCast, Int.toNat_natCast, ins_getD hg]
  unfold stlN
  rw [hb, ins_mapIdx hg, stl_n0]
  congr 2
  funext i x
  unfold stl insO
  dsimp only
  have c1 : (toZ g o.win < 0) = (o.win < 0) := by unfold toZ; rw [eq_iff_iff]; split <;> omega
  have c2 : (((toN g i : Nat) : Int) = toZ g o.win) = ((i : Int) = o.win) := by rw [← toZ_nat, eq_iff_iff]; exact toZ_inj
  have c3 : (((toN g i : Nat) : Int) = toZ g bt) = ((i : Int) = bt) := by rw [← toZ_nat, eq_iff_iff]; exact toZ_inj
  simp only [c1, c2, c3, ins_getD (y := (0 : Int)) (show g ≤ o.errs.length by omega), ins_getD (y := false) (show g ≤ o.got.length by omega)]
end Go.Proofs.YtfmggepbcpceiaaGreatDoor


/- Layer 4, plain: a bus stays a bus; rounds of a calm bus. -/
set_option linter.unusedVariables false
set_option linter.unusedSimpArgs false
set_option maxRecDepth 100000
set_option maxHeartbeats 4000000
namespace Go.Proofs.YtfmggepbcpceiaaGreatDoor
open Sx
theorem NdW.stl {x : Nd} (h : NdW x) (o : Out) (bt : Int) (won : Fm) (i : Nat) : NdW (stl o bt won i x) := by
  obtain ⟨hu, hup, hok, hin⟩ := h
  have hu1 : UnW (if x.on then x.u.idl else x.u) := by split; exact hu.idl; exact hu
  obtain ⟨on, u, box, inn⟩ := x
  dsimp only at *
  unfold Go.Proofs.YtfmggepbcpceiaaGreatDoor.stl
  dsimp only
  generalize (if on = true then u.idl else u) = u1 at *
  have key : ∀ x2 : Nd, UnW x2.u → (x2.on = false → x2.box = none) → (∀ f, x2.box = some f → okF f = true ∧ plF f = f) → x2.inn.length ≤ 64 → NdW ⟨x2.on, x2.u, if x2.u.off then none else x2.box, x2.inn⟩ := by
    rintro ⟨on2, u2, box2, inn2⟩ k1 k2 k3 k4
    dsimp only at *
    refine ⟨k1, fun h => ?_, fun f h => ?_, k4⟩
    · unfold Nd.up at h
      dsimp only at h ⊢
      cases ho : u2.off with
      | true => rfl
      | false =>
        rw [ho] at h
        rw [if_neg (by decide)]
        exact k2 (by simpa using h)
    · dsimp only at h
      split at h
      · cases h
      · exact k3 f h
  have hon : on = false → box = none := fun h => hup (by unfold Nd.up; rw [h]; rfl)
  apply key
  · split
    · exact hu1
    · split
      · split
        · exact hu1.sent
        · exact hu1.fail
      · split
        · exact hu1.recv
        · split
          · exact hu1
          · exact hu1.erred
  · split
    · exact hon
    · split
      · split
        · intro _; rfl
        · exact hon
      · split
        · exact hon
        · split
          · exact hon
          · exact hon
  · split
    · exact hok
    · split
      · split
        · intro f hf; cases hf
        · exact hok
      · split
        · exact hok
        · split
          · exact hok
          · exact hok
  · split
    · exact hin
    · split
      · split
        · exact hin
        · exact hin
      · split
        · dsimp only
          split
          · rw [List.length_append, List.length_singleton]; omega
          · exact hin
        · split
          · exact hin
          · exact hin
theorem BsW.put {s : Bs} (h : BsW s) {i : Int} {x : Nd} (hx : NdW x) : BsW (s.put i x) := by
  obtain ⟨h1, h2, h3, h4⟩ := h
  refine ⟨?_, ?_, fun y hy => ?_, h4⟩
  · show 1 ≤ (s.ns.set i.toNat x).length; rw [List.length_set]; exact h1
  · show (s.ns.set i.toNat x).length ≤ 127; rw [List.length_set]; exact h2
  · rcases List.mem_or_eq_of_mem_set hy with h | rfl
    · exact h3 _ h
    · exact hx
theorem UnW.zero : UnW u0 := ⟨by decide, by decide, by decide⟩
theorem NdW.new {on : Bool} : NdW ⟨on, u0, none, []⟩ := ⟨UnW.zero, fun _ => rfl, (fun f h => nomatch h), Nat.zero_le _⟩
theorem BsW.at {s : Bs} (h : BsW s) {i : Int} (hi : s.is i) : NdW (s.at i) := h.w _ (List.mem_of_getElem? (Bs.at_of hi))
theorem BsW.power {s : Bs} (h : BsW s) {i : Int} {on : Bool} : BsW (s.power i on).1 := by
  unfold Bs.power
  split
  · dsimp only
    split
    · exact h
    · exact h.put .new
  · exact h
theorem BsW.submit {s : Bs} (h : BsW s) {i : Int} {f : Fm} (hpp : plF (plF f) = plF f) : BsW (s.submit i f).1 := by
  unfold Bs.submit
  split
  · rename_i hi
    split
    · rename_i hf
      split
      · rename_i hu
        split
        · exact h
        · have hx := h.at hi
          exact h.put ⟨hx.u, fun hn => absurd hu (by rw [show (s.at i).up = false from hn]; decide), fun g hg => by injection hg with hg; subst hg; exact ⟨hf, hpp⟩, hx.inn⟩
      · exact h
    · exact h
  · exact h
theorem BsW.cancel {s : Bs} (h : BsW s) {i : Int} : BsW (s.cancel i).1 := by
  unfold Bs.cancel
  split
  · rename_i hi
    split
    · have hx := h.at hi
      exact h.put ⟨hx.u, fun _ => rfl, (fun g hg => nomatch hg), hx.inn⟩
    · exact h
  · exact h
theorem BsW.fetch {s : Bs} (h : BsW s) {i : Int} : BsW (s.fetch i).1 := by
  unfold Bs.fetch
  split
  · rename_i hi
    have hx := h.at hi
    exact h.put ⟨hx.u, hx.up, hx.ok, Nat.zero_le _⟩
  · exact h
theorem stlN_len (o : Out) (bt : Int) (ns : List Nd) : (stlN o bt ns).length = ns.length := by simp [stlN]
theorem BsW.step {s : Bs} (h : BsW s) {fl : List (Int × Int)} : BsW (s.step fl) := by
  unfold Bs.step
  split
  · refine ⟨?_, ?_, fun x hx => ?_, ?_⟩
    · show 1 ≤ (stlN _ _ _).length; rw [stlN_len]; exact h.n1
    · show (stlN _ _ _).length ≤ 127; rw [stlN_len]; exact h.n2
    · obtain ⟨i, hi⟩ := List.getElem?_of_mem hx
      unfold stlN at hi
      rw [List.getElem?_mapIdx] at hi
      obtain ⟨y, hy, rfl⟩ := Option.map_eq_some_iff.1 hi
      exact (h.w y (List.mem_of_getElem? hy)).stl _ _ _ _
    · exact Nat.mod_lt _ (by decide)
  · exact h
theorem BsW.init {n : Nat} (h1 : 1 ≤ n) (h2 : n ≤ 127) : BsW ⟨0, List.replicate n n0⟩ :=
  ⟨by show 1 ≤ (List.replicate n n0).length; rw [List.length_replicate]; exact h1, by show (List.replicate n n0).length ≤ 127; rw [List.length_replicate]; exact h2, fun x hx => by rw [List.eq_of_mem_replicate hx]; exact .new, (show (0 : Nat) < 18446744073709551616 by decide)⟩
/- ONE SENDER -/
def oneS (m : Nat) (g : Fm) : List Sn := ⟨true, true, g⟩ :: List.replicate m ⟨true, false, z0⟩
theorem cand_no : ∀ (l : List Sn) (k : Nat), (∀ s ∈ l, s.sends = false) → cand k l = []
  | [], _, _ => rfl
  | s :: l, k, h => by
    rw [cand, h s (.head _), Bool.and_false, if_neg (by decide)]
    exact cand_no l _ fun t ht => h t (.tail _ ht)
theorem oneS_cand (m : Nat) (g : Fm) : cand 0 (oneS m g) = [(0, g)] := by
  unfold oneS
  rw [cand, Bool.and_self, if_pos rfl, cand_no _ _ fun s hs => by rw [List.eq_of_mem_replicate hs]]
theorem firstV_one {g : Fm} (hg : okF g = true) : firstV [g] = (0, 0) := by
  unfold firstV
  rw [if_neg (by simp), if_neg (by simp [hg]), if_pos (by simp)]
  simp [bstN]
theorem oneS_up (m : Nat) (g : Fm) : upN (oneS m g) = m + 1 := by
  unfold upN oneS
  rw [List.countP_cons, List.countP_replicate]; simp
theorem oneS_len (m : Nat) (g : Fm) : (oneS m g).length = m + 1 := by simp [oneS]
theorem oneS_got (m : Nat) (g : Fm) : gotE (oneS m g) 0 = false :: List.replicate m true := by
  unfold gotE oneS
  rw [List.mapIdx_cons]
  congr 1
  apply List.ext_getElem?
  intro i
  rw [List.getElem?_mapIdx, List.getElem?_replicate, List.getElem?_replicate]
  split <;> simp
theorem one_calm {m : Nat} {g : Fm} (hg : okF g = true) (h1 : 1 ≤ m) (h2 : m ≤ 100) :
    roundV (oneS m g) [] = ⟨0, -1, ⟨0, (encN g : Int) + 3, true, List.replicate (m + 1) 0, false :: List.replicate m true⟩⟩ := by
  unfold roundV
  have hc : chkX (oneS m g).length [] = 0 := by rw [oneS_len]; unfold chkX; rw [if_neg (by simp; omega)]; rfl
  rw [if_pos hc]
  unfold winV
  dsimp only
  rw [oneS_cand, if_neg (by simp), List.map_cons, List.map_nil, firstV_one hg, if_pos rfl]
  show Rd.mk 0 (-1) (comesV (oneS m g) (encN g) 0 ⟨false, 0, 0, false⟩) = _
  unfold comesV
  rw [if_neg (show ¬ false = true by decide), oneS_up, if_neg (show ¬ m + 1 ≤ 1 by omega), if_neg (show ¬ false = true by decide), oneS_len, oneS_got]
  rfl
theorem one_late {m : Nat} {g : Fm} (hg : okF g = true) (h1 : 1 ≤ m) (h2 : m ≤ 100) :
    roundV (oneS m g) [(0, (encN g : Int) - 1)] = ⟨0, -1, ⟨0, (encN g : Int) + 20, false, 22 :: List.replicate m 0, false :: List.replicate m true⟩⟩ := by
  have hn := (encN_lt g).1
  unfold roundV
  have hc : chkX (oneS m g).length [(0, (encN g : Int) - 1)] = 0 := by
    rw [oneS_len]; unfold chkX; rw [if_neg (by simp; omega), if_neg]
    simp [xBad]; omega
  rw [if_pos hc]
  unfold winV
  dsimp only
  rw [oneS_cand, if_neg (by simp), List.map_cons, List.map_nil, firstV_one hg, if_pos rfl]
  have hf : frF (oneS m g) (encN g) 0 [(0, (encN g : Int) - 1)] = ⟨false, 0, 0, true⟩ := by
    unfold frF
    rw [List.foldl_cons, List.foldl_nil]
    unfold frS
    have : upAt (oneS m g) 0 = true := rfl
    dsimp only
    rw [this, if_neg (by simp; omega), if_pos rfl]; rfl
  show Rd.mk 0 (if (frF (oneS m g) (encN g) 0 [(0, (encN g : Int) - 1)]).any then _ else -1) (comesV (oneS m g) (encN g) 0 (frF (oneS m g) (encN g) 0 [(0, (encN g : Int) - 1)])) = _
  rw [hf, if_neg (show ¬ false = true by decide)]
  unfold comesV
  rw [if_neg (show ¬ false = true by decide), oneS_up, if_neg (show ¬ m + 1 ≤ 1 by omega), if_pos rfl, oneS_len, oneS_got, List.replicate_succ]
  rfl
end Go.Proofs.YtfmggepbcpceiaaGreatDoor


/- Layer 4, plain: a bus with one sender, round by round. -/
set_option linter.unusedVariables false
set_option linter.unusedSimpArgs false
set_option maxRecDepth 100000
set_option maxHeartbeats 4000000
namespace Go.Proofs.YtfmggepbcpceiaaGreatDoor
open Sx
/-- The one who sends, and the others. -/
def oneB (m a : Nat) (box : Option Fm) (inn : List Fm) (t : Nat) : Bs := ⟨t, ⟨true, ⟨a, 0, false, 0⟩, box, []⟩ :: List.replicate m ⟨true, u0, none, inn⟩⟩
theorem sndN_none : ∀ (m : Nat) (pre : List Nd) (inn : List Fm), sndN pre (List.replicate m ⟨true, u0, none, inn⟩) = List.replicate m ⟨true, false, z0⟩
  | 0, _, _ => rfl
  | m + 1, pre, inn => by
    rw [List.replicate_succ, sndN, sndN_none m, List.replicate_succ]; rfl
theorem oneB_snd (m a : Nat) (g : Fm) (inn : List Fm) (t : Nat) : (oneB m a (some g) inn t).snd = oneS m g := by
  show sndN [] (_ :: _) = _
  rw [sndN, sndN_none]; rfl
theorem stl_rep {o : Out} {bt : Int} {won : Fm} {y y' : Nd} {m : Nat} (h : ∀ i, i < m → stl o bt won (i + 1) y = y') : (List.replicate m y).mapIdx (fun i => stl o bt won (i + 1)) = List.replicate m y' := by
  apply List.ext_getElem?
  intro i
  rw [List.getElem?_mapIdx, List.getElem?_replicate, List.getElem?_replicate]
  split
  · rename_i hi; rw [Option.map_some, h i hi]
  · rfl
theorem rep_getD {α : Type} {m i : Nat} {x y d : α} (h : i < m) : (x :: List.replicate m y).getD (i + 1) d = y := by
  rw [List.getD_cons_succ, List.getD_eq_getElem?_getD, List.getElem?_replicate, if_pos h]; rfl
theorem step_calm {m a : Nat} {g : Fm} {inn : List Fm} {t : Nat} (hg : okF g = true) (h1 : 1 ≤ m) (h2 : m ≤ 100) (hin : inn.length < 64) :
    (oneB m a (some g) inn t).step [] = oneB m (a - 1) none (inn ++ [g]) ((t + (encN g + 3)) % 18446744073709551616) := by
  have hr := one_calm hg h1 h2
  rw [← oneB_snd m a g inn t] at hr
  have hr : (oneB m a (some g) inn t).rd [] = ⟨0, -1, ⟨0, (encN g : Int) + 3, true, List.replicate (m + 1) 0, false :: List.replicate m true⟩⟩ := hr
  unfold Bs.step
  rw [hr, if_pos rfl]
  unfold oneB stlN
  dsimp only
  rw [List.mapIdx_cons, stl_rep (y' := ⟨true, u0, none, inn ++ [g]⟩)]
  · congr 1
  · intro i hi
    unfold stl
    dsimp only
    have hgd : (false :: List.replicate m true).getD (i + 1) false = true := rep_getD hi
    have hne : ¬ (((i + 1 : Nat) : Int) = 0) := by omega
    simp only [hgd, hne, hin]
    rfl
theorem step_late {m : Nat} {g : Fm} {inn : List Fm} {t : Nat} (hg : okF g = true) (h1 : 1 ≤ m) (h2 : m ≤ 100) (hin : inn.length < 64) :
    (oneB m 0 (some g) inn t).step [(0, (encN g : Int) - 1)] = oneB m 8 (some g) (inn ++ [g]) ((t + (encN g + 20)) % 18446744073709551616) := by
  have hr := one_late hg h1 h2
  rw [← oneB_snd m 0 g inn t] at hr
  have hr : (oneB m 0 (some g) inn t).rd [(0, (encN g : Int) - 1)] = ⟨0, -1, ⟨0, (encN g : Int) + 20, false, 22 :: List.replicate m 0, false :: List.replicate m true⟩⟩ := hr
  unfold Bs.step
  rw [hr, if_pos rfl]
  unfold oneB stlN
  dsimp only
  rw [List.mapIdx_cons, stl_rep (y' := ⟨true, u0, none, inn ++ [g]⟩)]
  · congr 1
  · intro i hi
    unfold stl
    dsimp only
    have hgd : (false :: List.replicate m true).getD (i + 1) false = true := rep_getD hi
    have hne : ¬ (((i + 1 : Nat) : Int) = 0) := by omega
    simp only [hgd, hne, hin]
    rfl
/-- What a round tells, in memory. -/
def OuR (vs : List Value) (o : Out) (H : Heap) : Prop := ∃ se sg, vs = [zi o.win, zi o.bits, .bool o.sent, se, sg] ∧ InS (fun n : Int => [zi n]) 1 se H o.errs ∧ InS (fun b : Bool => [.bool b]) 1 sg H o.got
theorem OuR.mono {vs : List Value} {o : Out} {H H' : Heap} (h : OuR vs o H) (hs : ∀ z ∈ H, z ∈ H') : OuR vs o H' := by
  obtain ⟨se, sg, h1, h2, h3⟩ := h
  exact ⟨se, sg, h1, h2.mono hs, h3.mono hs⟩
theorem OuR.of {o : Out} {e g n : Nat} {H : Heap} (h1 : o.errs.length = n) (h2 : o.got.length = n) (hn : n ≤ 127) (h3 : eB e o.errs n ∈ H) (h4 : gB g o.got n ∈ H) : OuR [zi o.win, zi o.bits, .bool o.sent, .slice (some ⟨e, 0, none⟩) n n, .slice (some ⟨g, 0, none⟩) n n] o H := by
  refine ⟨_, _, rfl, ?_, ?_⟩
  · have := InS.buf (f := fun n : Int => [zi n]) (k := 1) (c := n) h3 (L := o.errs) List.map_eq_flatMap (fun _ => rfl) (by rw [h1]; simp only [maxLen]; omega)
    rwa [h1] at this
  · have := InS.buf (f := fun b : Bool => [Value.bool b]) (k := 1) (c := n) h4 (L := o.got) List.map_eq_flatMap (fun _ => rfl) (by rw [h2]; simp only [maxLen]; omega)
    rwa [h2] at this
theorem OuR.zero {H : Heap} : OuR [zi 0, zi 0, .bool false, .slice none 0 0, .slice none 0 0] zOut H := ⟨_, _, rfl, .nil, .nil⟩
theorem round_zero {l : List Sn} {fl : List (Int × Int)} (h : (roundV l fl).e ≠ 0) : (roundV l fl).o = zOut := by
  unfold roundV at h ⊢
  split
  · rename_i hc
    rw [if_pos hc] at h
    unfold winV at h ⊢
    dsimp only at h ⊢
    split
    · rename_i hC; rw [if_pos hC] at h; exact absurd rfl h
    · rename_i hC
      rw [if_neg hC] at h
      split
      · rename_i hr; rw [if_pos hr] at h; exact absurd rfl h
      · rfl
  · rfl
theorem round_len {l : List Sn} {fl : List (Int × Int)} (h : (roundV l fl).e = 0) : (roundV l fl).o.errs.length = l.length ∧ (roundV l fl).o.got.length = l.length ∧ l.length ≤ 127 := by
  obtain ⟨hc, hr⟩ := round_cases h
  obtain ⟨h127, _⟩ := chkX_ok hc
  rcases hr with ⟨_, e⟩ | ⟨k, w, f, s, _, _, _, _, _, _, e⟩
  · rw [e]; exact ⟨by simp [noneV], by simp [noneV], h127⟩
  · rw [e]
    obtain ⟨h1, h2, _⟩ := comesV_len l (encN f) w (frF l (encN f) w fl)
    exact ⟨h1, h2, h127⟩
end Go.Proofs.YtfmggepbcpceiaaGreatDoor


/- Layer 4: a round of the program's bus: by walks. -/
set_option linter.unusedVariables false
set_option linter.unusedSimpArgs false
set_option maxRecDepth 100000
set_option maxHeartbeats 4000000
namespace Go.Proofs.YtfmggepbcpceiaaGreatDoor
open Sx
theorem rd_win {s : Bs} {fl : List (Int × Int)} (hw : BsW s) (he : (s.rd fl).e = 0) :
    (s.rd fl).o.errs.length = s.ns.length ∧ (s.rd fl).o.got.length = s.ns.length ∧ 0 ≤ (s.rd fl).o.bits ∧ (s.rd fl).o.bits ≤ 400 ∧ (∀ x ∈ fl, 0 ≤ x.1 ∧ x.1 < (s.ns.length : Int) ∧ 0 ≤ x.2) ∧
      ((s.rd fl).o.win < 0 ∧ (s.rd fl).bt = -1 ∨ ∃ (w : Nat) (x : Nd) (f : Fm), (s.rd fl).o.win = (w : Int) ∧ s.ns[w]? = some x ∧ x.box = some f ∧ okF f = true ∧ (s.rd fl).bt = if (frF s.snd (encN f) w fl).any then (frF s.snd (encN f) w fl).node else -1) := by
  have hsl : s.snd.length = s.ns.length := sndN_len _ _
  unfold Bs.rd roundV at he ⊢
  by_cases hc : chkX s.snd.length fl = 0
  · rw [if_pos hc] at he ⊢
    obtain ⟨_, hok⟩ := chkX_ok hc
    unfold winV at he ⊢
    dsimp only at he ⊢
    by_cases hC : cand 0 s.snd = []
    · rw [if_pos hC]
      unfold noneV
      dsimp only
      refine ⟨by simp [hsl], by simp [hsl], by decide, by decide, by rw [hsl] at hok; exact hok, .inl ⟨by decide, rfl⟩⟩
    · rw [if_neg hC] at he ⊢
      by_cases hr : (firstV ((cand 0 s.snd).map (·.2))).2 = 0
      · rw [if_pos hr] at he ⊢
        dsimp only
        obtain ⟨_, hall, _, _, hlt1⟩ := firstV_ok hr
        rw [List.length_map] at hlt1
        obtain ⟨⟨w, f0⟩, hx, _⟩ := list_at hlt1
        have hgd : (cand 0 s.snd).getD (firstV ((cand 0 s.snd).map (·.2))).1 (0, z0) = (w, f0) := by rw [List.getD_eq_getElem?_getD, hx]; rfl
        rw [hgd]
        dsimp only
        obtain ⟨k1, k2, k3⟩ := comesV_len s.snd (encN f0) w (frF s.snd (encN f0) w fl)
        obtain ⟨k4, k5⟩ := comesV_bits (l := s.snd) (n := encN f0) (w := w) (fun x hx => (hok x hx).2.2) (by have := (encN_lt f0).2; omega)
        refine ⟨k1.trans hsl, k2.trans hsl, k4, k5, by rw [hsl] at hok; exact hok, .inr ?_⟩
        obtain ⟨_, sn, h1, h2, h3, h4⟩ := cand_mem (List.mem_of_getElem? hx)
        rw [Nat.sub_zero] at h1
        have hwl : w < s.ns.length := by rw [← hsl]; exact (List.getElem?_eq_some_iff.1 h1).1
        obtain ⟨x, hxw, _⟩ := list_at hwl
        have h5 := sndN_at s.ns [] w x hxw
        have h6 : s.snd[w]? = (sndN [] s.ns)[w]? := rfl
        rw [h6, h5] at h1
        injection h1 with h1
        subst h1
        unfold snd1 at h3 h4
        cases hb : x.box with
        | none => rw [hb] at h3; cases h3
        | some f =>
          rw [hb] at h4
          have h4 : f = f0 := h4
          subst h4
          exact ⟨w, x, f, k3, hxw, hb, (hw.w x (List.mem_of_getElem? hxw)).ok f hb |>.1, rfl⟩
      · rw [if_neg hr] at he
        exact absurd he hr
  · rw [if_neg hc] at he
    exact absurd he hc
end Go.Proofs.YtfmggepbcpceiaaGreatDoor


/- Layer 4: a round of the program's bus: by walks. -/
set_option linter.unusedVariables false
set_option linter.unusedSimpArgs false
set_option maxRecDepth 100000
set_option maxHeartbeats 4000000
namespace Go.Proofs.YtfmggepbcpceiaaGreatDoor
open Sx
section
variable {K : Value → Heap → Prop} {H : Heap} {p : Nat} {s : Bs} {fv : Value} {fl : List (Int × Int)}
theorem c13 {F : Heap} (h : BusO p s F) (hw : BsW s) (hD : Db H) (hf : InS xC 2 fv H fl)
    (hK0 : (s.rd fl).e ≠ 0 → K (.tuple ⟨[oZ, zi (s.rd fl).e]⟩) (F ++ H))
    (hK1 : (s.rd fl).e = 0 → ∀ F' e g, BusO p (s.step fl) F' → K (.tuple ⟨[oV (s.rd fl).o e g s.ns.length, zi 0]⟩) (F' ++ (eB e (s.rd fl).o.errs s.ns.length :: gB g (s.rd fl).o.got s.ns.length :: H))) : SCalls Tryz.prog 13 [ptr p, fv] (F ++ H) K := by
  obtain ⟨fa, fc, rfl, hml2⟩ := hf.sv
  have hn2 := hw.n2
  have hsl : s.snd.length = s.ns.length := sndN_len _ _
  have h36 : ∀ (X : Heap) (K2 : Value → Heap → Prop), (∀ z ∈ F, z ∈ X) → (∀ z ∈ H, z ∈ X) → (∀ a c M, Grow snC 14 57 (.slice a s.ns.length c) s.snd M → K2 (.slice a s.ns.length c) (M ++ X)) → SCalls Tryz.prog 36 [ptr p] X K2 := fun X K2 h1 h2 hk => by
    obtain ⟨nv, rs, hr⟩ := h.read (H := X) h1
    exact c36 (hD.mono h2) hr hw.w hn2 hk
  have h35 : ∀ (X : Heap) a c (M : Heap) (K2 : Value → Heap → Prop), (∀ z ∈ H, z ∈ X) → Grow snC 14 57 (.slice a s.ns.length c) s.snd M → ((s.rd fl).e ≠ 0 → K2 (.tuple ⟨[oZ, zi (s.rd fl).e]⟩) (M ++ X)) → ((s.rd fl).e = 0 → ∀ e g, K2 (.tuple ⟨[oV (s.rd fl).o e g s.ns.length, zi 0]⟩) (eB e (s.rd fl).o.errs s.ns.length :: gB g (s.rd fl).o.got s.ns.length :: (M ++ X))) →
      SCalls Tryz.prog 35 [.slice a s.ns.length c, .slice fa fl.length fc] (M ++ X) K2 := fun X a c M K2 h2 hG k0 k1 => by
    refine c35 (l := s.snd) (hD.mono fun z hz => List.mem_append_right _ (h2 z hz)) (hG.ins snC_len fun z hz => List.mem_append_left _ hz) (sndN_id hw.w) (hf.mono fun z hz => List.mem_append_right _ (h2 z hz)) k0 (fun he e g => ?_)
    have := k1 he e g
    rw [← hsl] at this
    exact this
  have hF1 : ∀ y : Nat × Blk, ∀ z ∈ F, z ∈ y :: (F ++ H) := fun y z hz => .tail _ (List.mem_append_left _ hz)
  have hH1 : ∀ y : Nat × Blk, ∀ z ∈ H, z ∈ y :: (F ++ H) := fun y z hz => .tail _ (List.mem_append_right _ hz)
  by_cases he : (s.rd fl).e = 0
  · obtain ⟨hel, hgl, hb0, hb1, hok, hwn⟩ := rd_win hw he
    have h35 : ∀ (X : Heap) a c (M : Heap) (K2 : Value → Heap → Prop), (∀ z ∈ H, z ∈ X) → Grow snC 14 57 (.slice a s.ns.length c) s.snd M → (∀ e g, K2 (.tuple ⟨[oV (s.rd fl).o e g s.ns.length, zi 0]⟩) (eB e (s.rd fl).o.errs s.ns.length :: gB g (s.rd fl).o.got s.ns.length :: (M ++ X))) → SCalls Tryz.prog 35 [.slice a s.ns.length c, .slice fa fl.length fc] (M ++ X) K2 := fun X a c M K2 h2 hG k0 => h35 X a c M K2 h2 hG (fun h => absurd he h) (fun _ => k0)
    have hk := hK1 he
    have hstep : s.step fl = ⟨(s.time + (s.rd fl).o.bits.toNat) % 18446744073709551616, stlN (s.rd fl).o (s.rd fl).bt s.ns⟩ := by unfold Bs.step; rw [if_pos he]
    rw [hstep] at hk
    clear hK0 hK1 hstep
    generalize hO : (s.rd fl).o = O at *
    generalize (s.rd fl).bt = bt at *
    have hT : ∀ F2, BusO p s F2 → ∃ nv Y, F2 = bB p nv s.time :: Y ∧ ∀ time, BusO p ⟨time, s.ns⟩ (bB p nv time :: Y) := fun F2 h2 => by
      cases h2 with
      | @mk nv rs Mn N g1 g2 => exact ⟨nv, Mn ++ N, rfl, fun time => .mk (s := ⟨time, s.ns⟩) g1 g2⟩
    obtain ⟨nv, Y, rfl, hb2⟩ := hT F h
    have hT4 : (s.time + O.bits.toNat) % 18446744073709551616 < 18446744073709551616 := Nat.mod_lt _ (by decide)
    have hn2' := hn2
    have hF' : ∀ time, ∀ z ∈ bB p nv time :: Y, ∀ (a b c d : Nat × Blk) (M : Heap), z ∈ (a :: b :: c :: (M ++ [d])) ++ (bB p nv time :: (Y ++ H)) := fun time z hz a b c d M => List.mem_append_right _ (List.mem_append_left H hz)
    have hH' : ∀ time, ∀ z ∈ H, ∀ (a b c d : Nat × Blk) (M : Heap), z ∈ (a :: b :: c :: (M ++ [d])) ++ (bB p nv time :: (Y ++ H)) := fun time z hz a b c d M => List.mem_append_right _ (.tail _ (List.mem_append_right _ hz))
    have hbm : ∀ (a b c d : Nat × Blk) (M : Heap), bB p nv s.time ∈ a :: b :: c :: (M ++ (d :: (bB p nv s.time :: (Y ++ H)))) := fun a b c d M => .tail _ (.tail _ (.tail _ (List.mem_append_right _ (.tail _ (.head _)))))
    have g1 : (Blk.row 77 [nv, .int .u64 (s.time : Int)] (0, 0)).cell (0 + 1) = some (.int .u64 (s.time : Int)) := rfl
    have ht := hw.t
    have hsum : IntKind.u64.wrap ((s.time : Int) + O.bits) = (((s.time + O.bits.toNat) % 18446744073709551616 : Nat) : Int) := by
      rw [wrap_u64]; omega
    have hconv : IntKind.u64.wrap O.bits = O.bits := by
      rw [wrap_u64]; omega
    have h36 := fun (X : Heap) (K2 : Value → Heap → Prop) (h1 : ∀ z ∈ bB p nv s.time :: Y, z ∈ X) h2 => h36 X K2 h1 h2
    generalize (s.time + O.bits.toNat) % 18446744073709551616 = T at *
    have hput : PutOk (.row 77 [nv, .int .u64 (s.time : Int)] (0, 0)) (0 + 1) [.int .u64 (T : Int)] (.row 77 [nv, .int .u64 (T : Int)] (0, 0)) := PutOk.rowb rfl rfl
    have hput4 : ∀ e g, PutOk (.row 37 [zi 0, zi 0, .bool false, .slice none 0 0, .slice none 0 0] (0, 0)) 0 [zi O.win, zi O.bits, .bool O.sent, .slice (some ⟨e, 0, none⟩) s.ns.length s.ns.length, .slice (some ⟨g, 0, none⟩) s.ns.length s.ns.length] (.row 37 [zi O.win, zi O.bits, .bool O.sent, .slice (some ⟨e, 0, none⟩) s.ns.length s.ns.length, .slice (some ⟨g, 0, none⟩) s.ns.length s.ns.length] (0, 0)) := fun e g => PutOk.rowb rfl rfl
    have hc6 : ∀ e g, ∀ (j : Nat) v, [zi O.win, zi O.bits, .bool O.sent, .slice (some ⟨e, 0, none⟩) s.ns.length s.ns.length, .slice (some ⟨g, 0, none⟩) s.ns.length s.ns.length][j]? = some v → (Blk.row 37 [zi O.win, zi O.bits, .bool O.sent, .slice (some ⟨e, 0, none⟩) s.ns.length s.ns.length, .slice (some ⟨g, 0, none⟩) s.ns.length s.ns.length] (0, 0)).cell (0 + j) = some v := fun e g j v hv => by rw [Nat.zero_add]; exact hv
    have hb3 := hb2 T
    have heq : ∀ (a b c d : Nat × Blk) (M : Heap), a :: b :: c :: (M ++ (d :: ((bB p nv s.time :: Y) ++ H))) = (a :: b :: c :: (M ++ [d])) ++ (p, .row 77 [nv, .int .u64 (s.time : Int)] (0, 0)) :: (Y ++ H) := by intros; simp [bB]
    have hwin39 : O.win < 0 ∨ ∃ (w : Nat) (x : Nd) (f : Fm), O.win = (w : Int) ∧ s.ns[w]? = some x ∧ x.box = some f := by
      rcases hwn with ⟨h, _⟩ | ⟨w, x, f, k1, k2, k3, _⟩
      · exact .inl h
      · exact .inr ⟨w, x, f, k1, k2, k3⟩
    have heq4 : ∀ (F2 : Heap) (a b c d : Nat × Blk) (M : Heap), F2 ++ (a :: b :: c :: (M ++ (d :: H))) = (F2 ++ (a :: b :: c :: M)) ++ d :: H := by intros; simp
    have h39 : ∀ (a d : Nat × Blk) e g M (K2 : Value → Heap → Prop), (∀ F2, BusO p ⟨T, stlN O bt s.ns⟩ F2 → K2 (.tuple ⟨[]⟩) (F2 ++ (a :: eB e O.errs s.ns.length :: gB g O.got s.ns.length :: (M ++ (d :: H))))) →
        SCalls Tryz.prog 39 [ptr p, oV O e g s.ns.length, zi bt] ((a :: eB e O.errs s.ns.length :: gB g O.got s.ns.length :: (M ++ [d])) ++ (bB p nv T :: (Y ++ H))) K2 := by
      intro a d e g M K2 hk
      refine SCalls.glue [[a, eB e O.errs s.ns.length, gB g O.got s.ns.length], M, [d], bB p nv T :: Y, H] [0, 1, 2, 3, 4] [3, 0, 1, 2, 4] (by decide) (by simp [glue]) ?_
      have e1 : glue [[a, eB e O.errs s.ns.length, gB g O.got s.ns.length], M, [d], bB p nv T :: Y, H] [3, 0, 1, 2, 4] = (bB p nv T :: Y) ++ (a :: eB e O.errs s.ns.length :: gB g O.got s.ns.length :: (M ++ (d :: H))) := by simp [glue]
      rw [e1]
      exact c39 (s := ⟨T, s.ns⟩) hb3 ⟨hw.n1, hw.n2, hw.w, hT4⟩ (.tail _ (.head _)) (.tail _ (.tail _ (.head _))) hel hgl hwin39 hk
    rcases hwn with ⟨hneg, rfl⟩ | ⟨w, x, f, hwe, hx, hbx, hokf, hbt⟩
    · have hfin : ∀ (F2 : Heap) (a d : Nat × Blk) e g M, BusO p ⟨T, stlN O (-1) s.ns⟩ F2 → Keep ((F2 ++ (a :: eB e O.errs s.ns.length :: gB g O.got s.ns.length :: M)) ++ (d :: H)) fun H' => K (.tuple ⟨[oV O e g s.ns.length, zi 0]⟩) H' := fun F2 a d e g M hF2 =>
        Keep.glue [F2, [a], [eB e O.errs s.ns.length, gB g O.got s.ns.length], M, [d], H] [0, 1, 2, 3, 4, 5] [0, 2, 5] [1, 3, 4] (by decide) (by simp [glue]) (by simpa [glue] using hk F2 e g hF2)
      clear hk
      refine enter13 ?_
      repeat' ((conv => whnf); (first | with_reducible refine h36 _ _ (hF1 _) (hH1 _) (fun a c M hG => ?_) | with_reducible refine h35 _ _ _ _ _ (hH1 _) hG (fun e g => ?_) | refine Branch.f rfl ?_ | refine SDraw.all (by kernel_rfl) ?_ | refine Look.cell (hbm _ _ _ _ _) g1 ?_ | with_reducible refine Val.to _ hconv ?_ | with_reducible refine Val.to _ hsum ?_ | refine ⟨_ :: _ :: _ :: (M ++ [_]), _, _, heq _ _ _ _ _, _, hput, appK_to ?_⟩ | refine Branch.df (show ¬ (0 : Int) ≤ O.win by omega) ?_ | refine h39 _ _ _ _ _ _ (fun F2 hF2 => ?_) | refine Look.cells (List.mem_append_right _ (.head _)) rfl (hc6 _ _) ?_ | refine ⟨F2 ++ (_ :: _ :: _ :: M), _, _, heq4 _ _ _ _ _ _, _, hput4 _ _, appK_to ?_⟩ | exact hfin _ _ _ _ _ _ hF2 | refine New.mk (fun _ => ?_) | refine Look.at0 ?_ | refine Cell.row ?_ | refine Cells.row rfl ?_ | refine Put.row rfl ?_))
    · obtain ⟨win, bits, sent, errs, got⟩ := O
      dsimp only at hwe
      subst hwe
      dsimp only at *
      have hwl := (List.getElem?_eq_some_iff.1 hx).1
      have hnb := encN_lt f
      have h36T : ∀ (X : Heap) (K2 : Value → Heap → Prop), (∀ z ∈ bB p nv T :: Y, z ∈ X) → (∀ z ∈ H, z ∈ X) → (∀ a c M, Grow snC 14 57 (.slice a s.ns.length c) s.snd M → K2 (.slice a s.ns.length c) (M ++ X)) → SCalls Tryz.prog 36 [ptr p] X K2 := fun X K2 h1 h2 hk => by
        obtain ⟨nv', rs, hr⟩ := hb3.read (H := X) h1
        exact c36 (hD.mono h2) hr hw.w hn2 hk
      have h37T : ∀ (X : Heap) e g (K2 : Value → Heap → Prop), (∀ z ∈ bB p nv T :: Y, z ∈ X) → (∀ z ∈ H, z ∈ X) → K2 (zi (encN f : Int)) X → SCalls Tryz.prog 37 [ptr p, oV ⟨(w : Int), bits, sent, errs, got⟩ e g s.ns.length] X K2 := fun X e g K2 h1 h2 hk => by
        obtain ⟨nv', rs, hr⟩ := hb3.read (H := X) h1
        exact c37 (w := w) (hD.mono h2) hr hx hbx hokf rfl hk
      have hF2 : ∀ z ∈ bB p nv T :: Y, ∀ (a b c d : Nat × Blk) (M M2 : Heap), z ∈ M2 ++ ((a :: b :: c :: (M ++ [d])) ++ (bB p nv T :: (Y ++ H))) := fun z hz a b c d M M2 => List.mem_append_right _ (hF' T z hz a b c d M)
      have hH2 : ∀ z ∈ H, ∀ (a b c d : Nat × Blk) (M M2 : Heap), z ∈ M2 ++ ((a :: b :: c :: (M ++ [d])) ++ (bB p nv T :: (Y ++ H))) := fun z hz a b c d M M2 => List.mem_append_right _ (hH' T z hz a b c d M)
      have h38 : ∀ (t : Nat) e g a2 c2 (M2 X : Heap) (K2 : Value → Heap → Prop), Grow snC 14 57 (.slice a2 s.ns.length c2) s.snd M2 → (∀ z ∈ H, z ∈ X) →
          K2 (.tuple ⟨[.agg ⟨[zi (frF s.snd (encN f) w fl).node, zi (frF s.snd (encN f) w fl).bit]⟩, .bool (frF s.snd (encN f) w fl).any, .bool (frF s.snd (encN f) w fl).late]⟩) ((t, .row 90 [zi (w : Int), zi bits, .bool sent, .slice (some ⟨e, 0, none⟩) s.ns.length s.ns.length, .slice (some ⟨g, 0, none⟩) s.ns.length s.ns.length, .slice a2 s.ns.length c2, zi (encN f : Int)] (0, 0)) :: (M2 ++ X)) →
          SCalls Tryz.prog 38 [ptr t, .slice fa fl.length fc] ((t, .row 90 [zi (w : Int), zi bits, .bool sent, .slice (some ⟨e, 0, none⟩) s.ns.length s.ns.length, .slice (some ⟨g, 0, none⟩) s.ns.length s.ns.length, .slice a2 s.ns.length c2, zi (encN f : Int)] (0, 0)) :: (M2 ++ X)) K2 := fun t e g a2 c2 M2 X K2 hG2 hs hk => by
        refine c38 (l := s.snd) (w := w) (nn := encN f) (.head _) (hG2.ins snC_len fun z hz => .tail _ (List.mem_append_left _ hz)) (hf.mono fun z hz => .tail _ (List.mem_append_right _ (hs z hz))) (fun x hx => ?_) (by omega) hk
        rw [hsl]
        exact ⟨(hok x hx).1, (hok x hx).2.1⟩
      have hfin : ∀ (F2 : Heap) (x y a d : Nat × Blk) e g (M M2 : Heap), BusO p ⟨T, stlN ⟨(w : Int), bits, sent, errs, got⟩ bt s.ns⟩ F2 → Keep ((x :: y :: (M2 ++ (F2 ++ (a :: eB e errs s.ns.length :: gB g got s.ns.length :: M)))) ++ (d :: H)) fun H' => K (.tuple ⟨[oV ⟨(w : Int), bits, sent, errs, got⟩ e g s.ns.length, zi 0]⟩) H' := fun F2 x y a d e g M M2 hF2 =>
        Keep.glue [[x, y], M2, F2, [a], [eB e errs s.ns.length, gB g got s.ns.length], M, [d], H] [0, 1, 2, 3, 4, 5, 6, 7] [2, 4, 7] [0, 1, 3, 5, 6] (by decide) (by simp [glue]) (by simpa [glue] using hk F2 e g hF2)
      have heq6 : ∀ (F2 M2 : Heap) (x y a b c d : Nat × Blk) (M : Heap), x :: y :: (M2 ++ (F2 ++ (a :: b :: c :: (M ++ (d :: H))))) = (x :: y :: (M2 ++ (F2 ++ (a :: b :: c :: M)))) ++ d :: H := by intros; simp
      have h39' : ∀ (x y a d : Nat × Blk) e g M M2 (K2 : Value → Heap → Prop), (∀ F2, BusO p ⟨T, stlN ⟨(w : Int), bits, sent, errs, got⟩ bt s.ns⟩ F2 → K2 (.tuple ⟨[]⟩) (x :: y :: (M2 ++ (F2 ++ (a :: eB e errs s.ns.length :: gB g got s.ns.length :: (M ++ (d :: H))))))) →
        SCalls Tryz.prog 39 [ptr p, oV ⟨(w : Int), bits, sent, errs, got⟩ e g s.ns.length, zi bt] (x :: y :: (M2 ++ ((a :: eB e errs s.ns.length :: gB g got s.ns.length :: (M ++ [d])) ++ (bB p nv T :: (Y ++ H))))) K2 := fun x y a d e g M M2 K2 hk =>
        SCalls.under (x :: y :: M2) (h39 a d e g M _ fun F2 hF => hk F2 hF)
      generalize frF s.snd (encN f) w fl = r at *
      obtain ⟨any, nd, bit, late⟩ := r
      dsimp only at hbt h38
      have hs6 : ∀ (t6 e g : Nat) (X : Heap), (t6, Blk.row 37 [zi (w : Int), zi bits, .bool sent, .slice (some ⟨e, 0, none⟩) s.ns.length s.ns.length, .slice (some ⟨g, 0, none⟩) s.ns.length s.ns.length] (0, 0)) ∈ X → Seen X [(t6, Blk.row 37 [zi (w : Int), zi bits, .bool sent, .slice (some ⟨e, 0, none⟩) s.ns.length s.ns.length, .slice (some ⟨g, 0, none⟩) s.ns.length s.ns.length] (0, 0))] := fun t6 e g X h => .same h .nil
      dsimp only [oV] at h37T h39' hfin h35 hput4 hc6 h38
      clear hk hb2 hb3 h h39
      cases any with
      | true =>
        rw [if_pos rfl] at hbt
        subst hbt
        refine enter13 ?_
        repeat' ((conv => whnf); (first | with_reducible refine h36 _ _ (hF1 _) (hH1 _) (fun a c M hG => ?_) | with_reducible refine h35 _ _ _ _ _ (hH1 _) hG (fun e g => ?_) | refine SDraw.held (by kernel_rfl) [_, bB p nv s.time] (.same (.head _) (.same (hbm _ _ _ _ _) .nil)) ?_ | with_reducible refine Val.to _ hconv ?_ | with_reducible refine Val.to _ hsum ?_ | refine ⟨_ :: _ :: _ :: (M ++ [_]), _, _, heq _ _ _ _ _, _, hput, appK_to ?_⟩ | refine Branch.dt (show (0 : Int) ≤ (w : Int) by omega) ?_ | refine SDraw.held (by kernel_rfl) [_] (hs6 _ _ _ _ (.head _)) ?_ | refine And.intro ?_ ?_ | with_reducible refine h36T _ _ (fun z hz => hF' T z hz _ _ _ _ _) (fun z hz => hH' T z hz _ _ _ _ _) (fun a2 c2 M2 hG2 => ?_) | with_reducible refine h37T _ _ _ _ (fun z hz => hF' T z hz _ _ _ _ _) (fun z hz => hH' T z hz _ _ _ _ _) ?_ | with_reducible refine h37T _ _ _ _ (fun z hz => hF2 z hz _ _ _ _ _ _) (fun z hz => hH2 z hz _ _ _ _ _ _) ?_ | refine Kept.mk (hs6 _ _ _ _ (.head _)) ?_ | refine Kept.mk (hs6 _ _ _ _ (List.mem_append_right _ (.head _))) ?_ | with_reducible refine h38 _ _ _ _ _ _ _ _ hG2 (fun z hz => hH' T z hz _ _ _ _ _) ?_ | refine Branch.f (by rfl) ?_ | refine Branch.t rfl ?_ | refine Look.cells (.tail _ (.tail _ (List.mem_append_right _ (.head _)))) rfl (hc6 _ _) ?_ | with_reducible refine h39' _ _ _ _ _ _ _ _ _ (fun F2 hF2 => ?_) | refine Look.cells (.tail _ (.tail _ (List.mem_append_right _ (List.mem_append_right _ (.head _))))) rfl (hc6 _ _) ?_ | refine ⟨_ :: _ :: (M2 ++ (F2 ++ (_ :: _ :: _ :: M))), _, _, heq6 _ _ _ _ _ _ _ _ _, _, hput4 _ _, appK_to ?_⟩ | refine Look.cells (List.mem_append_right _ (.head _)) rfl (hc6 _ _) ?_ | exact hfin _ _ _ _ _ _ _ _ _ hF2 | refine New.mk (fun _ => ?_) | refine Look.at0 ?_ | refine Cell.row ?_ | refine Cells.row rfl ?_ | refine Put.row rfl ?_ | refine Look.at1 ?_))
      | false =>
        rw [if_neg (by decide)] at hbt
        subst hbt
        refine enter13 ?_
        repeat' ((conv => whnf); (first | with_reducible refine h36 _ _ (hF1 _) (hH1 _) (fun a c M hG => ?_) | with_reducible refine h35 _ _ _ _ _ (hH1 _) hG (fun e g => ?_) | refine SDraw.held (by kernel_rfl) [_, bB p nv s.time] (.same (.head _) (.same (hbm _ _ _ _ _) .nil)) ?_ | with_reducible refine Val.to _ hconv ?_ | with_reducible refine Val.to _ hsum ?_ | refine ⟨_ :: _ :: _ :: (M ++ [_]), _, _, heq _ _ _ _ _, _, hput, appK_to ?_⟩ | refine Branch.dt (show (0 : Int) ≤ (w : Int) by omega) ?_ | refine SDraw.held (by kernel_rfl) [_] (hs6 _ _ _ _ (.head _)) ?_ | refine And.intro ?_ ?_ | with_reducible refine h36T _ _ (fun z hz => hF' T z hz _ _ _ _ _) (fun z hz => hH' T z hz _ _ _ _ _) (fun a2 c2 M2 hG2 => ?_) | with_reducible refine h37T _ _ _ _ (fun z hz => hF' T z hz _ _ _ _ _) (fun z hz => hH' T z hz _ _ _ _ _) ?_ | with_reducible refine h37T _ _ _ _ (fun z hz => hF2 z hz _ _ _ _ _ _) (fun z hz => hH2 z hz _ _ _ _ _ _) ?_ | refine Kept.mk (hs6 _ _ _ _ (.head _)) ?_ | refine Kept.mk (hs6 _ _ _ _ (List.mem_append_right _ (.head _))) ?_ | with_reducible refine h38 _ _ _ _ _ _ _ _ hG2 (fun z hz => hH' T z hz _ _ _ _ _) ?_ | refine Branch.f rfl ?_ | refine Look.cells (.tail _ (.tail _ (List.mem_append_right _ (.head _)))) rfl (hc6 _ _) ?_ | with_reducible refine h39' _ _ _ _ _ _ _ _ _ (fun F2 hF2 => ?_) | refine Look.cells (.tail _ (.tail _ (List.mem_append_right _ (List.mem_append_right _ (.head _))))) rfl (hc6 _ _) ?_ | refine ⟨_ :: _ :: (M2 ++ (F2 ++ (_ :: _ :: _ :: M))), _, _, heq6 _ _ _ _ _ _ _ _ _, _, hput4 _ _, appK_to ?_⟩ | refine Look.cells (List.mem_append_right _ (.head _)) rfl (hc6 _ _) ?_ | exact hfin _ _ _ _ _ _ _ _ _ hF2 | refine New.mk (fun _ => ?_) | refine Look.at0 ?_ | refine Cell.row ?_ | refine Cells.row rfl ?_ | refine Put.row rfl ?_ | refine Look.at1 ?_))
  · have hk := hK0 he
    have h35 : ∀ (X : Heap) a c (M : Heap) (K2 : Value → Heap → Prop), (∀ z ∈ H, z ∈ X) → Grow snC 14 57 (.slice a s.ns.length c) s.snd M → K2 (.tuple ⟨[oZ, zi (s.rd fl).e]⟩) (M ++ X) → SCalls Tryz.prog 35 [.slice a s.ns.length c, .slice fa fl.length fc] (M ++ X) K2 := fun X a c M K2 h2 hG k0 => h35 X a c M K2 h2 hG (fun _ => k0) (fun h => absurd h he)
    have hb : decide ((s.rd fl).e = 0) = false := decide_eq_false he
    clear hK0 hK1
    have hfin : ∀ (x z : Nat × Blk) (M : Heap), Keep (x :: (M ++ (z :: (F ++ H)))) fun H' => K (.tuple ⟨[oZ, zi (s.rd fl).e]⟩) H' := fun x z M => Keep.glue [[x], M, [z], F ++ H] [0, 1, 2, 3] [3] [0, 1, 2] (by decide) (by simp [glue]) (by simpa [glue] using hk)
    refine enter13 ?_
    repeat' ((conv => whnf); (first | with_reducible refine h36 _ _ (hF1 _) (hH1 _) (fun a c M hG => ?_) | with_reducible refine h35 _ _ _ _ _ (hH1 _) hG ?_ | refine Branch.t (by rw [hb]; rfl) ?_ | refine ⟨_ :: M, _, _, rfl, _, PutOk.rowb (cs' := [zi 0, zi 0, .bool false, .slice none 0 0, .slice none 0 0]) rfl rfl, appK_to ?_⟩ | refine Look.skip (Look.app ?_) | exact hfin _ _ _ | refine New.mk (fun _ => ?_) | refine Look.at0 ?_ | refine Cells.row rfl ?_ | refine Put.row rfl ?_))
end
end Go.Proofs.YtfmggepbcpceiaaGreatDoor


/- Layer 4: a round of the program, two outcomes that are one, whether anything is sent: by walks. -/
set_option linter.unusedVariables false
set_option linter.unusedSimpArgs false
set_option maxRecDepth 100000
set_option maxHeartbeats 4000000
namespace Go.Proofs.YtfmggepbcpceiaaGreatDoor
open Sx
inductive S20a (A2 A3 A5 : Value) : List Value → Prop
  | mk {r0 r1 r4 r6 r7 r8 r9 r10 r11 r12 r13 r14 r15 r16 r17 r18 r19 r20 r21 r22 r23 r24 r25 r26 r27 r28 r29 r30 r31 r32 r33 r34 r35 r36 r37 r38 r39 r40 r41 r42 r43 r44 r45 r46 r47 r48 r49 r50 r51 r52 r53 r54 r55 r56 r57 r58 r59 r60 r61 r62 r63 r64 r65 r66 r67 r68 r69 r70 r71 r72 r73 r74 r75 r76 r77 r78 r79 : Value} : S20a A2 A3 A5 [r0, r1, A2, A3, r4, A5, r6, r7, r8, r9, r10, r11, r12, r13, r14, r15, r16, r17, r18, r19, r20, r21, r22, r23, r24, r25, r26, r27, r28, r29, r30, r31, r32, r33, r34, r35, r36, r37, r38, r39, r40, r41, r42, r43, r44, r45, r46, r47, r48, r49, r50, r51, r52, r53, r54, r55, r56, r57, r58, r59, r60, r61, r62, r63, r64, r65, r66, r67, r68, r69, r70, r71, r72, r73, r74, r75, r76, r77, r78, r79]
inductive S20b (A2 A3 A6 : Value) : List Value → Prop
  | mk {r0 r1 r4 r5 r7 r8 r9 r10 r11 r12 r13 r14 r15 r16 r17 r18 r19 r20 r21 r22 r23 r24 r25 r26 r27 r28 r29 r30 r31 r32 r33 r34 r35 r36 r37 r38 r39 r40 r41 r42 r43 r44 r45 r46 r47 r48 r49 r50 r51 r52 r53 r54 r55 r56 r57 r58 r59 r60 r61 r62 r63 r64 r65 r66 r67 r68 r69 r70 r71 r72 r73 r74 r75 r76 r77 r78 r79 : Value} : S20b A2 A3 A6 [r0, r1, A2, A3, r4, r5, A6, r7, r8, r9, r10, r11, r12, r13, r14, r15, r16, r17, r18, r19, r20, r21, r22, r23, r24, r25, r26, r27, r28, r29, r30, r31, r32, r33, r34, r35, r36, r37, r38, r39, r40, r41, r42, r43, r44, r45, r46, r47, r48, r49, r50, r51, r52, r53, r54, r55, r56, r57, r58, r59, r60, r61, r62, r63, r64, r65, r66, r67, r68, r69, r70, r71, r72, r73, r74, r75, r76, r77, r78, r79]
section
variable {K : Value → Heap → Prop} {H : Heap} {l : List Sn} {lv fv : Value} {fl : List (Int × Int)} {v1 v2 : List Value} {o : Out}
theorem c35u (hD : Db H) (hl : InS snC 14 lv H l) (hwf : ∀ s ∈ l, s.f.id < 4294967296) (hf : InS xC 2 fv H fl)
    (hK : ∀ vs N, OuR vs (roundV l fl).o (N ++ H) → K (.tuple ⟨[.agg ⟨vs⟩, zi (roundV l fl).e]⟩) (N ++ H)) : SCalls Tryz.prog 35 [lv, fv] H K := by
  refine c35 hD hl hwf hf (fun he => ?_) (fun he e g => ?_)
  · have := hK _ [] (round_zero he ▸ OuR.zero)
    exact this
  · obtain ⟨h1, h2, h3⟩ := round_len he
    have := hK _ [eB e (roundV l fl).o.errs l.length, gB g (roundV l fl).o.got l.length] (OuR.of h1 h2 h3 (.head _) (.tail _ (.head _)))
    rw [he] at this
    exact this
theorem c19u (hl : InS snC 14 lv H l) (hwf : ∀ s ∈ l, s.f.id < 4294967296) (hf : InS xC 2 fv H fl)
    (hK : ∀ vs N, OuR vs (roundV l fl).o (N ++ H) → K (.tuple ⟨[.agg ⟨vs⟩, zi (roundV l fl).bt, zi (roundV l fl).e]⟩) (N ++ H)) : SCalls Tryz.prog 19 [lv, fv] H K := by
  refine c19 hl hwf hf (fun he => ?_) (fun he e g => ?_)
  · have hb : (roundV l fl).bt = -1 := by
      unfold roundV at he ⊢
      split
      · rename_i hc
        rw [if_pos hc] at he
        unfold winV at he ⊢
        dsimp only at he ⊢
        split
        · rfl
        · rename_i hC
          rw [if_neg hC] at he
          split
          · rename_i hr; rw [if_pos hr] at he; exact absurd rfl he
          · rfl
      · rfl
    have := hK _ [] (round_zero he ▸ OuR.zero)
    rw [hb] at this
    exact this
  · obtain ⟨h1, h2, h3⟩ := round_len he
    have := hK _ [eB e (roundV l fl).o.errs l.length, gB g (roundV l fl).o.got l.length] (OuR.of h1 h2 h3 (.head _) (.tail _ (.head _)))
    rw [he] at this
    exact this
theorem c18 (hD : Db H) (hl : InS snC 14 lv H l) (hwf : ∀ s ∈ l, s.f.id < 4294967296) (hf : InS xC 2 fv H fl)
    (hK : ∀ vs N, OuR vs (roundV l fl).o (N ++ H) → K (.tuple ⟨[.agg ⟨vs⟩, zi (roundV l fl).e]⟩) (N ++ H)) : SCalls Tryz.prog 18 [lv, fv] H K := by
  obtain ⟨la, lc, rfl, hml⟩ := hl.sv
  obtain ⟨fa, fc, rfl, hmf⟩ := hf.sv
  have h35 : ∀ t (K2 : Value → Heap → Prop), (∀ se sg N, OuR [zi (roundV l fl).o.win, zi (roundV l fl).o.bits, .bool (roundV l fl).o.sent, se, sg] (roundV l fl).o (N ++ H) → K2 (.tuple ⟨[.agg ⟨[zi (roundV l fl).o.win, zi (roundV l fl).o.bits, .bool (roundV l fl).o.sent, se, sg]⟩, zi (roundV l fl).e]⟩) (t :: (N ++ H))) →
      SCalls Tryz.prog 35 [.slice la l.length lc, .slice fa fl.length fc] (t :: H) K2 := fun t K2 hk => by
    refine SCalls.under [t] (c35u hD hl hwf hf fun vs N h => ?_)
    have h' := h
    obtain ⟨se, sg, rfl, _, _⟩ := h'
    exact hk se sg N h
  refine enter18 ?_
  generalize roundV l fl = r at *
  obtain ⟨e, bt, ⟨win, bits, sent, errs, got⟩⟩ := r
  dsimp only at h35 hK
  have hsv : ∀ se sg N, OuR [zi win, zi bits, .bool sent, se, sg] ⟨win, bits, sent, errs, got⟩ (N ++ H) → ∃ a n c a' n' c', se = .slice a n c ∧ sg = .slice a' n' c' := fun se sg N h => by
    obtain ⟨se', sg', e1, h2, h3⟩ := h
    injection e1 with _ e1
    injection e1 with _ e1
    injection e1 with _ e1
    injection e1 with e2 e1
    injection e1 with e3 _
    obtain ⟨a, c, k1, _⟩ := h2.sv
    obtain ⟨a', c', k2, _⟩ := h3.sv
    exact ⟨a, _, c, a', _, c', e2.trans k1, e3.trans k2⟩
  repeat' ((conv => whnf); (first | with_reducible refine h35 _ _ (fun se sg N h => ?_) | refine New.mk (fun _ => ?_)))
  obtain ⟨a, n, c, a', n', c', rfl, rfl⟩ := hsv _ _ _ h
  have hk := hK _ _ h
  clear hK h35
  repeat' ((conv => whnf); (first | exact Keep.d1 hk | refine Look.at0 ?_ | refine Cells.row rfl ?_ | refine Put.row rfl ?_))
theorem c20 (h1 : OuR v1 o H) (h2 : OuR v2 o H) (hK : K (.bool true) H) : SCalls Tryz.prog 20 [.agg ⟨v1⟩, .agg ⟨v2⟩] H K := by
  obtain ⟨se1, sg1, rfl, he1, hg1⟩ := h1
  obtain ⟨se2, sg2, rfl, he2, hg2⟩ := h2
  obtain ⟨ea, ec, rfl, hml⟩ := he1.sv
  obtain ⟨ga, gc, rfl, hmg⟩ := hg1.sv
  obtain ⟨ea2, ec2, rfl, _⟩ := he2.sv
  obtain ⟨ga2, gc2, rfl, _⟩ := hg2.sv
  obtain ⟨win, bits, sent, errs, got⟩ := o
  dsimp only at *
  simp only [maxLen] at hml hmg
  refine enter20 ?_
  repeat' ((conv => whnf); (first | refine Branch.t (beq_self_eq_true _) ?_ | refine New.mk (fun _ => ?_) | refine Look.at0 ?_ | refine Cell.row ?_ | refine Look.at1 ?_ | refine Branch.not ?_ | refine Branch.dt rfl ?_))
  rename_i r1 r2
  refine SLoop.invA (fun (k : Nat) S H' => k ≤ errs.length ∧ S20a (ptr r1) (ptr r2) (zi (k : Int)) S ∧ H' = (r2, .row 37 [zi win, zi bits, .bool sent, .slice ea2 errs.length ec2, .slice ga2 got.length gc2] (0, 0)) :: (r1, .row 37 [zi win, zi bits, .bool sent, .slice ea errs.length ec, .slice ga got.length gc] (0, 0)) :: H) (fun k => errs.length - k) 0 (Keep.all ⟨Nat.zero_le _, .mk, rfl⟩) ?_
  rintro k S H' ⟨hk, hS, rfl⟩ R hR
  cases hS
  by_cases hlt : k < errs.length
  · obtain ⟨x, hx, _, _⟩ := list_at hlt
    obtain ⟨q1, o1, c1, b1, e1, hm1, hc1⟩ := he1.at1 hx rfl
    obtain ⟨q2, o2, c2, b2, e2, hm2, hc2⟩ := he2.at1 hx rfl
    injection e1 with e1 _ e1c
    injection e2 with e2 _ e2c
    subst e1 e2 e1c e2c
    have hnext : ∀ S H', S20a (ptr r1) (ptr r2) (zi ((k + 1 : Nat) : Int)) S → H' = (r2, .row 37 [zi win, zi bits, .bool sent, .slice (some ⟨q2, o2, none⟩) errs.length ec2, .slice ga2 got.length gc2] (0, 0)) :: (r1, .row 37 [zi win, zi bits, .bool sent, .slice (some ⟨q1, o1, none⟩) errs.length ec, .slice ga got.length gc] (0, 0)) :: H → R S H' := fun S H' g1 g2 => hR (k + 1) S H' (by omega) (Keep.all ⟨hlt, g1, g2⟩)
    clear hR hK
    repeat' ((conv => whnf); (first | refine Branch.dt (show (k : Int) < (errs.length : Int) by omega) ?_ | refine SDraw.all (by kernel_rfl) ?_ | refine Idx.nat hlt ?_ | refine Look.cell (.tail _ (.tail _ hm1)) hc1 ?_ | refine Look.cell (.tail _ (.tail _ hm2)) hc2 ?_ | exact hnext _ _ .mk rfl | refine Look.at0 ?_ | refine Cell.row ?_ | refine Look.at1 ?_ | with_reducible refine Val.i64 (by omega) (by omega) ?_ | refine Branch.not ?_ | refine Branch.dt rfl ?_))
  · obtain rfl : k = errs.length := by omega
    clear hR
    repeat' ((conv => whnf); (first | refine Branch.df (show ¬ (errs.length : Int) < (errs.length : Int) by omega) ?_ | refine Cell.row ?_ | refine Look.at1 ?_))
    refine SLoop.invA (fun (k : Nat) S H' => k ≤ got.length ∧ S20b (ptr r1) (ptr r2) (zi (k : Int)) S ∧ H' = (r2, .row 37 [zi win, zi bits, .bool sent, .slice ea2 errs.length ec2, .slice ga2 got.length gc2] (0, 0)) :: (r1, .row 37 [zi win, zi bits, .bool sent, .slice ea errs.length ec, .slice ga got.length gc] (0, 0)) :: H) (fun k => got.length - k) 0 (Keep.all ⟨Nat.zero_le _, .mk, rfl⟩) ?_
    rintro k S H' ⟨hk, hS, rfl⟩ R hR
    cases hS
    by_cases hlt : k < got.length
    · obtain ⟨x, hx, _, _⟩ := list_at hlt
      obtain ⟨q1, o1, c1, b1, e1, hm1, hc1⟩ := hg1.at1 hx rfl
      obtain ⟨q2, o2, c2, b2, e2, hm2, hc2⟩ := hg2.at1 hx rfl
      injection e1 with e1 _ e1c
      injection e2 with e2 _ e2c
      subst e1 e2 e1c e2c
      have hnext : ∀ S H', S20b (ptr r1) (ptr r2) (zi ((k + 1 : Nat) : Int)) S → H' = (r2, .row 37 [zi win, zi bits, .bool sent, .slice ea2 errs.length ec2, .slice (some ⟨q2, o2, none⟩) got.length gc2] (0, 0)) :: (r1, .row 37 [zi win, zi bits, .bool sent, .slice ea errs.length ec, .slice (some ⟨q1, o1, none⟩) got.length gc] (0, 0)) :: H → R S H' := fun S H' g1 g2 => hR (k + 1) S H' (by omega) (Keep.all ⟨hlt, g1, g2⟩)
      clear hR hK
      repeat' ((conv => whnf); (first | refine Branch.dt (show (k : Int) < (got.length : Int) by omega) ?_ | refine SDraw.all (by kernel_rfl) ?_ | refine Idx.nat hlt ?_ | refine Look.cell (.tail _ (.tail _ hm1)) hc1 ?_ | refine Look.cell (.tail _ (.tail _ hm2)) hc2 ?_ | refine Branch.t (beq_self_eq_true _) ?_ | exact hnext _ _ .mk rfl | refine Look.at0 ?_ | refine Cell.row ?_ | refine Look.at1 ?_ | with_reducible refine Val.i64 (by omega) (by omega) ?_ | refine Branch.not ?_))
    · obtain rfl : k = got.length := by omega
      clear hR
      repeat' ((conv => whnf); (first | refine Branch.df (show ¬ (got.length : Int) < (got.length : Int) by omega) ?_ | exact Keep.d2 hK | refine Cell.row ?_ | refine Look.at1 ?_))
end
end Go.Proofs.YtfmggepbcpceiaaGreatDoor


/- Layer 4: whether anything is sent: by walks. -/
set_option linter.unusedVariables false
set_option linter.unusedSimpArgs false
set_option maxRecDepth 100000
set_option maxHeartbeats 4000000
namespace Go.Proofs.YtfmggepbcpceiaaGreatDoor
open Sx
def f5 : Fm := ⟨5, false, false, 1, 0, 0, 0, 0, 0, 0, 0, 0⟩
section
variable {K : Value → Heap → Prop} {H : Heap}
theorem c16 (hD : Db H) (hK : K (.bool true) H) : SCalls Tryz.prog 16 [] H K := by
  have h9 : ∀ K2 : Value → Heap → Prop, (∀ p F, BusO p ⟨0, [n0, n0]⟩ F → K2 (.tuple ⟨[ptr p, zi 0]⟩) (F ++ H)) → SCalls Tryz.prog 9 [zi 2] H K2 := fun K2 hk => c9 (fun h => absurd (by decide) h) (fun _ p F hF => hk p F hF)
  have h10a : ∀ p F, BusO p ⟨0, [n0, n0]⟩ F → ∀ K2 : Value → Heap → Prop, (∀ F', BusO p ⟨0, [⟨true, u0, none, []⟩, n0]⟩ F' → K2 (zi 0) (F' ++ H)) → SCalls Tryz.prog 10 [ptr p, zi 0, .bool true] (F ++ H) K2 := fun p F hF K2 hk => c10 hF fun F' hF' => hk F' hF'
  have h10b : ∀ p F, BusO p ⟨0, [⟨true, u0, none, []⟩, n0]⟩ F → ∀ K2 : Value → Heap → Prop, (∀ F', BusO p ⟨0, [⟨true, u0, none, []⟩, ⟨true, u0, none, []⟩]⟩ F' → K2 (zi 0) (F' ++ H)) → SCalls Tryz.prog 10 [ptr p, zi 1, .bool true] (F ++ H) K2 := fun p F hF K2 hk => c10 hF fun F' hF' => hk F' hF'
  have h11 : ∀ p F, BusO p ⟨0, [⟨true, u0, none, []⟩, ⟨true, u0, none, []⟩]⟩ F → ∀ K2 : Value → Heap → Prop, (∀ F', BusO p (oneB 1 0 (some f5) [] 0) F' → K2 (zi 0) (F' ++ H)) → SCalls Tryz.prog 11 [ptr p, zi 0, frV f5] (F ++ H) K2 := fun p F hF K2 hk => c11 hF (by decide) fun F' hF' => hk F' hF'
  have hok : okF f5 = true := by decide
  have h13 : ∀ p F, BusO p (oneB 1 0 (some f5) [] 0) F → ∀ K2 : Value → Heap → Prop, (∀ F' e g, BusO p (oneB 1 0 none [f5] ((0 + (encN f5 + 3)) % 18446744073709551616)) F' → K2 (.tuple ⟨[.agg ⟨[zi 0, zi ((encN f5 : Int) + 3), .bool true, .slice (some ⟨e, 0, none⟩) 2 2, .slice (some ⟨g, 0, none⟩) 2 2]⟩, zi 0]⟩) (F' ++ (eB e [0, 0] 2 :: gB g [false, true] 2 :: H))) →
      SCalls Tryz.prog 13 [ptr p, .slice none 0 0] (F ++ H) K2 := fun p F hF K2 hk => by
    have hr := one_calm hok (m := 1) (by decide) (by decide)
    rw [← oneB_snd 1 0 f5 [] 0] at hr
    have hr : (oneB 1 0 (some f5) [] 0).rd [] = ⟨0, -1, ⟨0, (encN f5 : Int) + 3, true, [0, 0], [false, true]⟩⟩ := hr
    have hs := step_calm (m := 1) (a := 0) (inn := []) (t := 0) hok (by decide) (by decide) (by decide)
    have hw : BsW (oneB 1 0 (some f5) [] 0) := by
      refine ⟨by decide, by decide, fun x hx => ?_, by decide⟩
      rcases List.mem_cons.1 hx with rfl | hx
      · exact ⟨UnW.zero, fun h => (nomatch h), (fun f hf => by injection hf with hf; subst hf; exact ⟨hok, by decide⟩), by decide⟩
      · rw [List.eq_of_mem_replicate hx]; exact .new
    refine c13 hF hw hD (fl := []) .nil (fun he => ?_) (fun he F' e g hF' => ?_)
    · rw [hr] at he; exact absurd rfl he
    · rw [hs] at hF'
      have := hk F' e g hF'
      rw [hr]
      exact this
  have h14 : ∀ p F T, BusO p (oneB 1 0 none [f5] T) F → ∀ t X (K2 : Value → Heap → Prop), (∀ F' q c, K2 (.tuple ⟨[.slice (some ⟨q, 0, none⟩) 1 c, zi 0]⟩) (t :: (F' ++ ((q, .buf 32 (frC f5) (c * 12)) :: X)))) → SCalls Tryz.prog 14 [ptr p, zi 1] (t :: (F ++ X)) K2 := fun p F T hF t X K2 hk => by
    refine SCalls.under [t] (c14 hF (fun h => absurd (show (0 : Int) ≤ 1 ∧ (1 : Int) < ((2 : Nat) : Int) by decide) h) (fun _ F' iv M _ hG => ?_))
    have hG : Grow frC 12 32 iv [f5] M := hG
    obtain ⟨a, c, rfl, _⟩ := hG.sv
    obtain ⟨q, rfl, _, _, _, rfl⟩ := hG.inv (by simp)
    exact hk F' q c
  clear hok
  have hfin : ∀ (t q e g : Nat × Blk) F, Keep (t :: (F ++ (q :: e :: g :: H))) fun H' => K (.bool true) H' := fun t q e g F => Keep.glue [[t], F, [q, e, g], H] [0, 1, 2, 3] [3] [0, 1, 2] (by decide) (by simp [glue]) (by simpa [glue] using hK)
  clear hK hD
  refine enter16 (_u := undef) ?_
  repeat' ((conv => whnf); (first | with_reducible refine h9 _ (fun p F hF => ?_) | with_reducible refine h10a _ _ hF _ (fun F1 hF1 => ?_) | with_reducible refine h10b _ _ hF1 _ (fun F2 hF2 => ?_) | refine h11 _ _ hF2 _ (fun F3 hF3 => ?_) | with_reducible refine h13 _ _ hF3 _ (fun F4 e g hF4 => ?_) | with_reducible refine h14 _ _ _ hF4 _ _ _ (fun F5 q c => ?_) | refine Idx.of 1 rfl (by decide) ?_ | refine Idx.of 0 rfl (by decide) ?_ | refine Look.cell (.tail _ (List.mem_append_right _ (.tail _ (.tail _ (.head _))))) (v := .bool true) rfl ?_ | refine Look.cell (.tail _ (List.mem_append_right _ (.head _))) (v := .int .u32 5) rfl ?_ | exact hfin _ _ _ _ _ | refine New.mk (fun _ => ?_) | refine Look.at0 ?_ | refine Cell.row ?_ | refine Put.row rfl ?_ | refine Branch.not ?_ | refine Branch.dt rfl ?_ | refine Branch.t rfl ?_ | refine Branch.f rfl ?_))
end
end Go.Proofs.YtfmggepbcpceiaaGreatDoor


/- Input slices: from what the row tells of one to what a walk knows of it. -/
set_option linter.unusedVariables false
set_option linter.unusedSimpArgs false
namespace Go.Proofs.YtfmggepbcpceiaaGreatDoor
open Sx
theorem inS_of {α : Type} {f : α → List Value} {k B : Nat} {R : World → List Value → Prop} {Good : α → Prop} {w : World} {a : Option Addr} {n c : Nat} (h : SliceAt k B R w a n c) (hk0 : 0 < k) (hk : ∀ x, (f x).length = k) (hR : ∀ cs, R w cs → ∃ x, cs = f x ∧ Good x) :
    ∃ H L, L.length = n ∧ InS f k (.slice a L.length c) H L ∧ (∀ x ∈ L, Good x) ∧ Holds w H ∧ ∀ p ∈ H, p.2.excl = false := by
  have hml : n ≤ maxLen := Nat.le_trans h.1 h.2.1
  by_cases hl : 0 < n
  · obtain ⟨b, o, rfl, hb, hc⟩ := h.plain hk0 hl
    obtain ⟨L, h1, h2⟩ := list_of (P := fun j (m : α) => Good m ∧ ∀ i v, (f m)[i]? = some v → w.cell? ⟨b, o + j * k + i, none⟩ = some v) n fun j hj => by
      obtain ⟨cs, hlc, hcell, hr⟩ := hc j hj
      obtain ⟨x, rfl, hg⟩ := hR cs hr
      refine ⟨x, hg, fun i v hi => ?_⟩
      have hik : i < k := by rw [← hk x]; exact (List.getElem?_eq_some_iff.1 hi).1
      exact (hcell i hik).trans hi
    refine ⟨[(b, .ro fun j => w.cell? ⟨b, j, none⟩)], L, h1, ⟨_, c, rfl, by omega, .inr ⟨b, o, _, rfl, .head _, fun j x i v hj hv hi => (h2 j x hj).2 i v hv⟩⟩, fun x hx => ?_, ⟨fun p hp => ?_, List.pairwise_singleton _ _⟩, fun p hp => ?_⟩
    · obtain ⟨j, hlt, rfl⟩ := List.getElem_of_mem hx
      exact (h2 j _ (List.getElem?_eq_getElem hlt)).1
    · obtain rfl := List.mem_singleton.1 hp
      exact ⟨hb, fun _ _ h => h⟩
    · obtain rfl := List.mem_singleton.1 hp
      rfl
  · obtain rfl : n = 0 := by omega
    exact ⟨[], [], rfl, ⟨a, c, rfl, by simp, .inl rfl⟩, fun x hx => (by cases hx), Holds.empty w, fun p hp => by cases hp⟩
/-- Two inputs, side by side. -/
theorem Holds.join {w : World} {H G : Heap} (h1 : Holds w H) (h2 : Holds w G) (x1 : ∀ p ∈ H, p.2.excl = false) (x2 : ∀ p ∈ G, p.2.excl = false) : Holds w (H ++ G) := by
  refine ⟨fun p hp => ?_, List.pairwise_append.2 ⟨h1.sep, h2.sep, fun p hp q hq hx => ?_⟩⟩
  · rcases List.mem_append.1 hp with hp | hp
    · exact h1.at_ p hp
    · exact h2.at_ p hp
  · rw [x1 p hp, x2 q hq] at hx
    rcases hx with hx | hx <;> cases hx
theorem excl_join {H G : Heap} (x1 : ∀ p ∈ H, p.2.excl = false) (x2 : ∀ p ∈ G, p.2.excl = false) : ∀ p ∈ H ++ G, p.2.excl = false := fun p hp => by
  rcases List.mem_append.1 hp with hp | hp
  · exact x1 p hp
  · exact x2 p hp
end Go.Proofs.YtfmggepbcpceiaaGreatDoor


/- Layer 4: who wins a round: the law, by walks. -/
set_option linter.unusedVariables false
set_option linter.unusedSimpArgs false
set_option maxRecDepth 100000
set_option maxHeartbeats 4000000
namespace Go.Proofs.YtfmggepbcpceiaaGreatDoor
open Sx
inductive S5 (A0 A5 A10 A11 A12 : Value) : List Value → Prop
  | mk {r1 r2 r3 r4 r6 r7 r8 r9 r13 r14 r15 r16 r17 r18 r19 r20 r21 r22 r23 r24 r25 r26 r27 r28 r29 r30 r31 r32 r33 r34 r35 r36 r37 r38 r39 r40 r41 r42 r43 r44 r45 r46 r47 r48 r49 r50 r51 r52 r53 r54 r55 r56 r57 r58 r59 r60 r61 r62 r63 r64 r65 r66 r67 r68 r69 r70 r71 r72 r73 r74 r75 r76 r77 r78 r79 r80 r81 r82 r83 r84 r85 : Value} : S5 A0 A5 A10 A11 A12 [A0, r1, r2, r3, r4, A5, r6, r7, r8, r9, A10, A11, A12, r13, r14, r15, r16, r17, r18, r19, r20, r21, r22, r23, r24, r25, r26, r27, r28, r29, r30, r31, r32, r33, r34, r35, r36, r37, r38, r39, r40, r41, r42, r43, r44, r45, r46, r47, r48, r49, r50, r51, r52, r53, r54, r55, r56, r57, r58, r59, r60, r61, r62, r63, r64, r65, r66, r67, r68, r69, r70, r71, r72, r73, r74, r75, r76, r77, r78, r79, r80, r81, r82, r83, r84, r85]
section
variable {K : Value → Heap → Prop} {H : Heap} {l : List Sn} {lv fv : Value} {fl : List (Int × Int)}
theorem xC_one (x : Int × Int) : ∀ u ∈ xC x, u.oneCell' = true := by
  intro u hu
  simp only [xC, List.mem_cons, List.not_mem_nil, or_false] at hu
  rcases hu with rfl | rfl <;> rfl
theorem OuR.open {se sg : Value} {o : Out} {H : Heap} (h : OuR [zi o.win, zi o.bits, .bool o.sent, se, sg] o H) : InS (fun n : Int => [zi n]) 1 se H o.errs ∧ InS (fun b : Bool => [.bool b]) 1 sg H o.got := by
  obtain ⟨se', sg', e1, h2, h3⟩ := h
  injection e1 with _ e1
  injection e1 with _ e1
  injection e1 with _ e1
  injection e1 with e2 e1
  injection e1 with e3 _
  subst e2 e3
  exact ⟨h2, h3⟩
/-- A round of the program, its outcome told. -/
theorem c18t (hD : Db H) (hl : InS snC 14 lv H l) (hwf : ∀ s ∈ l, s.f.id < 4294967296) (hf : InS xC 2 fv H fl)
    (hK : ∀ ea ec ga gc N, OuR [zi (roundV l fl).o.win, zi (roundV l fl).o.bits, .bool (roundV l fl).o.sent, .slice ea (roundV l fl).o.errs.length ec, .slice ga (roundV l fl).o.got.length gc] (roundV l fl).o (N ++ H) →
      K (.tuple ⟨[.agg ⟨[zi (roundV l fl).o.win, zi (roundV l fl).o.bits, .bool (roundV l fl).o.sent, .slice ea (roundV l fl).o.errs.length ec, .slice ga (roundV l fl).o.got.length gc]⟩, zi (roundV l fl).e]⟩) (N ++ H)) : SCalls Tryz.prog 18 [lv, fv] H K := by
  refine c18 hD hl hwf hf fun vs N h => ?_
  have h' := h
  obtain ⟨se, sg, rfl, h2, h3⟩ := h'
  obtain ⟨ea, ec, rfl, _⟩ := h2.sv
  obtain ⟨ga, gc, rfl, _⟩ := h3.sv
  exact hK _ _ _ _ _ h
theorem c19t (hl : InS snC 14 lv H l) (hwf : ∀ s ∈ l, s.f.id < 4294967296) (hf : InS xC 2 fv H fl)
    (hK : ∀ ea ec ga gc N, OuR [zi (roundV l fl).o.win, zi (roundV l fl).o.bits, .bool (roundV l fl).o.sent, .slice ea (roundV l fl).o.errs.length ec, .slice ga (roundV l fl).o.got.length gc] (roundV l fl).o (N ++ H) →
      K (.tuple ⟨[.agg ⟨[zi (roundV l fl).o.win, zi (roundV l fl).o.bits, .bool (roundV l fl).o.sent, .slice ea (roundV l fl).o.errs.length ec, .slice ga (roundV l fl).o.got.length gc]⟩, zi (roundV l fl).bt, zi (roundV l fl).e]⟩) (N ++ H)) : SCalls Tryz.prog 19 [lv, fv] H K := by
  refine c19u hl hwf hf fun vs N h => ?_
  have h' := h
  obtain ⟨se, sg, rfl, h2, h3⟩ := h'
  obtain ⟨ea, ec, rfl, _⟩ := h2.sv
  obtain ⟨ga, gc, rfl, _⟩ := h3.sv
  exact hK _ _ _ _ _ h
theorem cnt_snoc (got : List Bool) {k : Nat} {b : Bool} (h : got.take (k + 1) = got.take k ++ [b]) : (got.take (k + 1)).countP id = (got.take k).countP id + if b then 1 else 0 := by
  rw [h, List.countP_append]
  cases b <;> rfl
theorem l5 {Q : Post} {S0 : List Value} {HH : Heap} {t5 n ec gc : Nat} {win bits : Int} {sent : Bool} {ea ga : Option Addr} {got : List Bool} {la : Option Addr} {lc : Nat} (hm : (t5, .row 37 [zi win, zi bits, .bool sent, .slice ea n ec, .slice ga got.length gc] (0, 0)) ∈ HH)
    (hl : InS snC 14 (.slice la l.length lc) HH l) (hg : InS (fun b : Bool => [.bool b]) 1 (.slice ga got.length gc) HH got) (hgl : got.length = l.length) (hn : l.length ≤ 127)
    (hS : S5 (.slice la l.length lc) (ptr t5) (zi 0) (zi 0) (zi 0) S0) (hQ : ∀ S, S5 (.slice la l.length lc) (ptr t5) (zi (got.countP id : Int)) (zi (upN l : Int)) (zi (l.length : Int)) S → Q (.exit 0) S HH) : SLoop Tryz.prog X5_l0 Q S0 HH := by
  refine SLoop.invA (fun (k : Nat) S H' => k ≤ l.length ∧ S5 (.slice la l.length lc) (ptr t5) (zi ((got.take k).countP id : Int)) (zi (upN (l.take k) : Int)) (zi (k : Int)) S ∧ H' = HH) (fun k => l.length - k) 0 (Keep.all ⟨Nat.zero_le _, hS, rfl⟩) ?_
  rintro k S H' ⟨hk, hS, rfl⟩ R hR
  by_cases hlt : k < l.length
  · obtain ⟨s, hs, _, htake⟩ := list_at hlt
    obtain ⟨b, hb, _, hbt⟩ := list_at (show k < got.length by omega)
    obtain ⟨lr, lo, lc2, lb, e1, hlb, hlcc⟩ := inS_at hl snC_len hs
    obtain ⟨gr, go, gc2, gb, e2, hgb, hgcc⟩ := hg.at1 hb rfl
    injection e1 with e1 _ e3
    injection e2 with e2 _ e4
    subst e1 e3 e2 e4
    have hup := upN_snoc (l.take k) s
    rw [← htake] at hup
    have hc0 := hlcc 0 _ rfl
    have g4 : (Blk.row 37 [zi win, zi bits, .bool sent, .slice ea n ec, .slice (some ⟨gr, go, none⟩) got.length gc] (0, 0)).cell (0 + 4) = some (.slice (some ⟨gr, go, none⟩) got.length gc) := rfl
    have hcnt := cnt_snoc got hbt
    have hnext : ∀ S, S5 (.slice (some ⟨lr, lo, none⟩) l.length lc) (ptr t5) (zi ((got.take (k + 1)).countP id : Int)) (zi (upN (l.take (k + 1)) : Int)) (zi ((k + 1 : Nat) : Int)) S → R S H' := fun S g => hR (k + 1) S H' (by omega) (Keep.all ⟨hlt, g, rfl⟩)
    rw [hcnt, hup] at hnext
    have hc1 := List.countP_le_length (p := id) (l := got.take k)
    have hc2 := upN_le (l.take k)
    rw [List.length_take] at hc1 hc2
    clear hR hQ
    cases hS
    have hgk : k < got.length := by omega
    obtain ⟨up, sends, f⟩ := s
    cases up <;> cases b <;> dsimp only at hc0 hnext
    · have hnx := fun S h => hnext S h
      simp only [if_neg (show ¬ false = true by decide), Nat.add_zero] at hnx
      repeat' ((conv => whnf); (first | refine Branch.dt (by omega) ?_ | refine Idx.nat hlt ?_ | refine Look.cell hlb hc0 ?_ | refine Look.cell hm g4 ?_ | refine Idx.nat hgk ?_ | refine Look.cell hgb hgcc ?_ | exact hnx _ .mk | with_reducible refine Val.i64 (by omega) (by omega) ?_ | refine Branch.f rfl ?_))
    · have hnx := fun S h => hnext S h
      simp only [if_neg (show ¬ false = true by decide), if_true, Nat.add_zero] at hnx
      repeat' ((conv => whnf); (first | refine Branch.dt (by omega) ?_ | refine Idx.nat hlt ?_ | refine Look.cell hlb hc0 ?_ | refine Look.cell hm g4 ?_ | refine Idx.nat hgk ?_ | refine Look.cell hgb hgcc ?_ | exact hnx _ .mk | with_reducible refine Val.i64 (by omega) (by omega) ?_ | refine Branch.t rfl ?_ | refine Branch.f rfl ?_))
    · have hnx := fun S h => hnext S h
      simp only [if_neg (show ¬ false = true by decide), if_true, Nat.add_zero] at hnx
      repeat' ((conv => whnf); (first | refine Branch.dt (by omega) ?_ | refine Idx.nat hlt ?_ | refine Look.cell hlb hc0 ?_ | refine Look.cell hm g4 ?_ | refine Idx.nat hgk ?_ | refine Look.cell hgb hgcc ?_ | exact hnx _ .mk | with_reducible refine Val.i64 (by omega) (by omega) ?_ | refine Branch.t rfl ?_ | refine Branch.f rfl ?_))
    · have hnx := fun S h => hnext S h
      simp only [if_true] at hnx
      repeat' ((conv => whnf); (first | refine Branch.dt (by omega) ?_ | refine Idx.nat hlt ?_ | refine Look.cell hlb hc0 ?_ | refine Look.cell hm g4 ?_ | refine Idx.nat hgk ?_ | refine Look.cell hgb hgcc ?_ | exact hnx _ .mk | with_reducible refine Val.i64 (by omega) (by omega) ?_ | refine Branch.t rfl ?_))
  · obtain rfl : k = l.length := by omega
    rw [List.take_length, ← hgl, List.take_length, hgl] at hS
    have hq := fun S h => hQ S h
    clear hR hQ
    cases hS
    repeat' ((conv => whnf); (first | refine Branch.df (by omega) ?_ | exact hq _ .mk))
theorem rounds_c (hD : Db H) (hl : InS snC 14 lv H l) (hwf : ∀ s ∈ l, s.f.id < 4294967296) (hb : l.length * 32 ≤ 140737488355328) (hf : InS xC 2 fv H fl) (hbf : fl.length * 16 ≤ 140737488355328) :
    SCalls Tryz.prog 5 [lv, fv] H fun v _ => v = .bool true := by
  have hc16 : ∀ (X : Heap), (∀ z ∈ H, z ∈ X) → ∀ K2 : Value → Heap → Prop, K2 (.bool true) X → SCalls Tryz.prog 16 [] X K2 := fun X hs K2 hk => c16 (hD.mono hs) hk
  obtain ⟨la, lc, rfl, hml⟩ := hl.sv
  obtain ⟨fa, fc, rfl, hmf⟩ := hf.sv
  have h18 : ∀ (q1 c1 q2 c2 : Nat) (K2 : Value → Heap → Prop), (∀ ea ec ga gc N, OuR [zi (roundV l fl).o.win, zi (roundV l fl).o.bits, .bool (roundV l fl).o.sent, .slice ea (roundV l fl).o.errs.length ec, .slice ga (roundV l fl).o.got.length gc] (roundV l fl).o (N ++ ((q2, .buf 49 (fl.flatMap xC) (c2 * 2)) :: (q1, .buf 57 (l.flatMap snC) (c1 * 14)) :: H)) →
      K2 (.tuple ⟨[.agg ⟨[zi (roundV l fl).o.win, zi (roundV l fl).o.bits, .bool (roundV l fl).o.sent, .slice ea (roundV l fl).o.errs.length ec, .slice ga (roundV l fl).o.got.length gc]⟩, zi (roundV l fl).e]⟩) (N ++ ((q2, .buf 49 (fl.flatMap xC) (c2 * 2)) :: (q1, .buf 57 (l.flatMap snC) (c1 * 14)) :: H))) →
      SCalls Tryz.prog 18 [.slice (some ⟨q1, 0, none⟩) l.length c1, .slice (some ⟨q2, 0, none⟩) fl.length c2] ((q2, .buf 49 (fl.flatMap xC) (c2 * 2)) :: (q1, .buf 57 (l.flatMap snC) (c1 * 14)) :: H) K2 := fun q1 c1 q2 c2 K2 hk =>
    c18t (hD.mono fun z hz => .tail _ (.tail _ hz)) (InS.buf (.tail _ (.head _)) rfl snC_len hml) hwf (InS.buf (.head _) rfl xC_len hmf) hk
  have h19 : ∀ (X : Heap), (∀ z ∈ H, z ∈ X) → ∀ (K2 : Value → Heap → Prop), (∀ ea ec ga gc N, OuR [zi (roundV l fl).o.win, zi (roundV l fl).o.bits, .bool (roundV l fl).o.sent, .slice ea (roundV l fl).o.errs.length ec, .slice ga (roundV l fl).o.got.length gc] (roundV l fl).o (N ++ X) →
      K2 (.tuple ⟨[.agg ⟨[zi (roundV l fl).o.win, zi (roundV l fl).o.bits, .bool (roundV l fl).o.sent, .slice ea (roundV l fl).o.errs.length ec, .slice ga (roundV l fl).o.got.length gc]⟩, zi (roundV l fl).bt, zi (roundV l fl).e]⟩) (N ++ X)) →
      SCalls Tryz.prog 19 [.slice la l.length lc, .slice fa fl.length fc] X K2 := fun X hs K2 hk => c19t (hl.mono hs) hwf (hf.mono hs) hk
  have hcp1 : ∀ p (o : Oper) (xs xx : Operand) (K2 : Value → Heap → Prop), o.op = .call { callee := .builtin .append, args := #[xs, xx], argTypes := #[51, 51] } → (∀ q c, K2 (.slice (some ⟨q, 0, none⟩) l.length c) ((q, .buf 57 (l.flatMap snC) (c * 14)) :: H)) →
      RawV Tryz.prog o [.slice (some ⟨p, 0, none⟩) 0 0, .slice la l.length lc] ((p, .row 57 [] (0, 0)) :: H) K2 := fun p o xs xx K2 ho hk => RawV.copyS (bytes := 32) hl ho (by kernel_rfl) (by decide) snC_len snC_one hb (fun q c _ _ => hk q c)
  have hcp2 : ∀ p y (o : Oper) (xs xx : Operand) (K2 : Value → Heap → Prop), o.op = .call { callee := .builtin .append, args := #[xs, xx], argTypes := #[46, 46] } → (∀ q c, K2 (.slice (some ⟨q, 0, none⟩) fl.length c) ((q, .buf 49 (fl.flatMap xC) (c * 2)) :: y :: H)) →
      RawV Tryz.prog o [.slice (some ⟨p, 0, none⟩) 0 0, .slice fa fl.length fc] ((p, .row 49 [] (0, 0)) :: y :: H) K2 := fun p y o xs xx K2 ho hk => RawV.copyS (bytes := 16) (hf.mono fun z hz => .tail _ hz) ho (by kernel_rfl) (by decide) xC_len xC_one hbf (fun q c _ _ => hk q c)
  have hgo := fun he => round_len (l := l) (fl := fl) he
  have hgk := fun he hw => got_ok (l := l) (fl := fl) he hw
  have hcons : ∀ (a b c d : Nat × Blk) N N' z, z ∈ H → z ∈ a :: (N' ++ (b :: (N ++ (c :: d :: H)))) := fun a b c d N N' z hz => .tail _ (List.mem_append_right _ (.tail _ (List.mem_append_right _ (.tail _ (.tail _ hz)))))
  have hsub1 : ∀ (b c d : Nat × Blk) N z, z ∈ H → z ∈ b :: (N ++ (c :: d :: H)) := fun b c d N z hz => .tail _ (List.mem_append_right _ (.tail _ (.tail _ hz)))
  refine enter5 ?_
  generalize hr : roundV l fl = r at *
  obtain ⟨e, bt, ⟨win, bits, sent, errs, got⟩⟩ := r
  dsimp only at h18 h19 hgo hgk
  by_cases he : e = 0
  · subst he
    obtain ⟨hgl, hgn, hln⟩ := hgo rfl
    by_cases hw : win < 0
    · clear hgk hgo
      repeat' ((conv => whnf); (first | with_reducible refine hcp1 _ _ _ _ _ rfl (fun q1 c1 => ?_) | with_reducible refine hcp2 _ _ _ _ _ _ rfl (fun q2 c2 => ?_) | with_reducible refine h18 _ _ _ _ _ (fun ea ec ga gc N g => ?_) | with_reducible refine h19 _ (hsub1 _ _ _ _) _ (fun ea2 ec2 ga2 gc2 N2 g2 => ?_) | refine Look.cells (.tail _ (List.mem_append_right _ (.head _))) rfl (fun j v h => by rw [Nat.zero_add]; exact h) ?_ | refine c20 (g.mono fun z hz => .tail _ (List.mem_append_right _ (.tail _ hz))) (g2.mono fun z hz => .tail _ hz) ?_ | with_reducible refine hc16 _ (hcons _ _ _ _ _ _) _ ?_ | exact Keep.all rfl | refine Look.cell (.tail _ (List.mem_append_right _ (.head _))) (show (Blk.row 37 [zi win, _, _, _, _] (0, 0)).cell (0 + 0) = some (zi win) from rfl) ?_ | refine Branch.dt hw ?_ | refine New.mk (fun _ => ?_) | refine Look.at0 ?_ | refine Cells.row rfl ?_ | refine Put.row rfl ?_ | refine Branch.not ?_ | refine Branch.dt rfl ?_ | refine Branch.t rfl ?_))
    · have hw0 : 0 ≤ win := by omega
      obtain ⟨hup, hcs⟩ := hgk rfl hw0
      have hul := upN_le l
      clear hgk hgo
      repeat' ((conv => whnf); (first | with_reducible refine hcp1 _ _ _ _ _ rfl (fun q1 c1 => ?_) | with_reducible refine hcp2 _ _ _ _ _ _ rfl (fun q2 c2 => ?_) | with_reducible refine h18 _ _ _ _ _ (fun ea ec ga gc N g => ?_) | with_reducible refine h19 _ (hsub1 _ _ _ _) _ (fun ea2 ec2 ga2 gc2 N2 g2 => ?_) | refine Look.cells (.tail _ (List.mem_append_right _ (.head _))) rfl (fun j v h => by rw [Nat.zero_add]; exact h) ?_ | refine c20 (g.mono fun z hz => .tail _ (List.mem_append_right _ (.tail _ hz))) (g2.mono fun z hz => .tail _ hz) ?_ | with_reducible refine hc16 _ (hcons _ _ _ _ _ _) _ ?_ | exact Keep.all rfl | refine Look.cell (.tail _ (List.mem_append_right _ (.head _))) (show (Blk.row 37 [zi win, _, _, _, _] (0, 0)).cell (0 + 0) = some (zi win) from rfl) ?_ | refine Branch.df hw ?_ | (refine l5 (.tail _ (List.mem_append_right _ (.head _))) (hl.mono (hcons _ _ _ _ _ _)) ((OuR.open (o := ⟨win, bits, sent, errs, got⟩) g).2.mono fun z hz => .tail _ (List.mem_append_right _ (.tail _ hz))) hgn hln .mk (fun S hS => ?_)) | refine New.mk (fun _ => ?_) | refine Look.at0 ?_ | refine Cells.row rfl ?_ | refine Put.row rfl ?_ | refine Branch.not ?_ | refine Branch.dt rfl ?_ | refine Branch.t rfl ?_))
      rcases hcs with ⟨hc0, rfl⟩ | hc1
      · rw [hc0] at hS
        cases hS
        repeat' ((conv => whnf); (first | with_reducible refine hcp1 _ _ _ _ _ rfl (fun q1 c1 => ?_) | with_reducible refine hcp2 _ _ _ _ _ _ rfl (fun q2 c2 => ?_) | with_reducible refine h18 _ _ _ _ _ (fun ea ec ga gc N g => ?_) | with_reducible refine h19 _ (hsub1 _ _ _ _) _ (fun ea2 ec2 ga2 gc2 N2 g2 => ?_) | refine Look.cells (.tail _ (List.mem_append_right _ (.head _))) rfl (fun j v h => by rw [Nat.zero_add]; exact h) ?_ | refine c20 (g.mono fun z hz => .tail _ (List.mem_append_right _ (.tail _ hz))) (g2.mono fun z hz => .tail _ hz) ?_ | with_reducible refine hc16 _ (hcons _ _ _ _ _ _) _ ?_ | exact Keep.all rfl | refine Look.cell (.tail _ (List.mem_append_right _ (.head _))) (show (Blk.row 37 [_, _, .bool false, _, _] (0, 0)).cell (0 + 2) = some (.bool false) from rfl) ?_ | refine Branch.not ?_ | refine Branch.dt rfl ?_ | refine Branch.f rfl ?_))
      · cases hS
        cases sent with
        | false =>
          by_cases hz : ((List.countP id got : Nat) : Int) = 0
          · repeat' ((conv => whnf); (first | with_reducible refine hcp1 _ _ _ _ _ rfl (fun q1 c1 => ?_) | with_reducible refine hcp2 _ _ _ _ _ _ rfl (fun q2 c2 => ?_) | with_reducible refine h18 _ _ _ _ _ (fun ea ec ga gc N g => ?_) | with_reducible refine h19 _ (hsub1 _ _ _ _) _ (fun ea2 ec2 ga2 gc2 N2 g2 => ?_) | refine Look.cells (.tail _ (List.mem_append_right _ (.head _))) rfl (fun j v h => by rw [Nat.zero_add]; exact h) ?_ | refine c20 (g.mono fun z hz => .tail _ (List.mem_append_right _ (.tail _ hz))) (g2.mono fun z hz => .tail _ hz) ?_ | with_reducible refine hc16 _ (hcons _ _ _ _ _ _) _ ?_ | exact Keep.all rfl | refine Look.cell (.tail _ (List.mem_append_right _ (.head _))) (show (Blk.row 37 [_, _, .bool false, _, _] (0, 0)).cell (0 + 2) = some (.bool false) from rfl) ?_ | refine Branch.dt hz ?_ | refine Branch.not ?_ | refine Branch.f rfl ?_))
          · repeat' ((conv => whnf); (first | with_reducible refine hcp1 _ _ _ _ _ rfl (fun q1 c1 => ?_) | with_reducible refine hcp2 _ _ _ _ _ _ rfl (fun q2 c2 => ?_) | with_reducible refine h18 _ _ _ _ _ (fun ea ec ga gc N g => ?_) | with_reducible refine h19 _ (hsub1 _ _ _ _) _ (fun ea2 ec2 ga2 gc2 N2 g2 => ?_) | refine Look.cells (.tail _ (List.mem_append_right _ (.head _))) rfl (fun j v h => by rw [Nat.zero_add]; exact h) ?_ | refine c20 (g.mono fun z hz => .tail _ (List.mem_append_right _ (.tail _ hz))) (g2.mono fun z hz => .tail _ hz) ?_ | with_reducible refine hc16 _ (hcons _ _ _ _ _ _) _ ?_ | exact Keep.all rfl | refine Look.cell (.tail _ (List.mem_append_right _ (.head _))) (show (Blk.row 37 [_, _, .bool false, _, _] (0, 0)).cell (0 + 2) = some (.bool false) from rfl) ?_ | refine Branch.df hz ?_ | refine Branch.dt (by omega) ?_ | with_reducible refine Val.i64 (by omega) (by omega) ?_ | refine Branch.not ?_ | refine Branch.f rfl ?_))
        | true =>
          by_cases hz : ((List.countP id got : Nat) : Int) = 0
          · repeat' ((conv => whnf); (first | with_reducible refine hcp1 _ _ _ _ _ rfl (fun q1 c1 => ?_) | with_reducible refine hcp2 _ _ _ _ _ _ rfl (fun q2 c2 => ?_) | with_reducible refine h18 _ _ _ _ _ (fun ea ec ga gc N g => ?_) | with_reducible refine h19 _ (hsub1 _ _ _ _) _ (fun ea2 ec2 ga2 gc2 N2 g2 => ?_) | refine Look.cells (.tail _ (List.mem_append_right _ (.head _))) rfl (fun j v h => by rw [Nat.zero_add]; exact h) ?_ | refine c20 (g.mono fun z hz => .tail _ (List.mem_append_right _ (.tail _ hz))) (g2.mono fun z hz => .tail _ hz) ?_ | with_reducible refine hc16 _ (hcons _ _ _ _ _ _) _ ?_ | exact Keep.all rfl | refine Look.cell (.tail _ (List.mem_append_right _ (.head _))) (show (Blk.row 37 [_, _, .bool true, _, _] (0, 0)).cell (0 + 2) = some (.bool true) from rfl) ?_ | refine Branch.dt (by omega) ?_ | refine Branch.dt hz ?_ | with_reducible refine Val.i64 (by omega) (by omega) ?_ | refine Branch.not ?_ | refine Branch.t rfl ?_ | refine Branch.f rfl ?_))
          · repeat' ((conv => whnf); (first | with_reducible refine hcp1 _ _ _ _ _ rfl (fun q1 c1 => ?_) | with_reducible refine hcp2 _ _ _ _ _ _ rfl (fun q2 c2 => ?_) | with_reducible refine h18 _ _ _ _ _ (fun ea ec ga gc N g => ?_) | with_reducible refine h19 _ (hsub1 _ _ _ _) _ (fun ea2 ec2 ga2 gc2 N2 g2 => ?_) | refine Look.cells (.tail _ (List.mem_append_right _ (.head _))) rfl (fun j v h => by rw [Nat.zero_add]; exact h) ?_ | refine c20 (g.mono fun z hz => .tail _ (List.mem_append_right _ (.tail _ hz))) (g2.mono fun z hz => .tail _ hz) ?_ | with_reducible refine hc16 _ (hcons _ _ _ _ _ _) _ ?_ | exact Keep.all rfl | refine Look.cell (.tail _ (List.mem_append_right _ (.head _))) (show (Blk.row 37 [_, _, .bool true, _, _] (0, 0)).cell (0 + 2) = some (.bool true) from rfl) ?_ | refine Branch.dt (by omega) ?_ | refine Branch.df hz ?_ | with_reducible refine Val.i64 (by omega) (by omega) ?_ | refine Branch.not ?_ | refine Branch.t rfl ?_))
  · clear hgk hgo
    repeat' ((conv => whnf); (first | with_reducible refine hcp1 _ _ _ _ _ rfl (fun q1 c1 => ?_) | with_reducible refine hcp2 _ _ _ _ _ _ rfl (fun q2 c2 => ?_) | with_reducible refine h18 _ _ _ _ _ (fun ea ec ga gc N g => ?_) | with_reducible refine h19 _ (hsub1 _ _ _ _) _ (fun ea2 ec2 ga2 gc2 N2 g2 => ?_) | refine Look.cells (.tail _ (List.mem_append_right _ (.head _))) rfl (fun j v h => by rw [Nat.zero_add]; exact h) ?_ | refine c20 (g.mono fun z hz => .tail _ (List.mem_append_right _ (.tail _ hz))) (g2.mono fun z hz => .tail _ hz) ?_ | with_reducible refine hc16 _ (hcons _ _ _ _ _ _) _ ?_ | exact Keep.all rfl | refine Branch.dt he ?_ | refine Branch.df he ?_ | refine New.mk (fun _ => ?_) | refine Look.at0 ?_ | refine Cells.row rfl ?_ | refine Put.row rfl ?_ | refine Branch.not ?_ | refine Branch.dt rfl ?_ | refine Branch.t rfl ?_))
end
end Go.Proofs.YtfmggepbcpceiaaGreatDoor


/- Layer 4: what comes in; the law on rounds. -/
set_option linter.unusedVariables false
set_option linter.unusedSimpArgs false
set_option maxRecDepth 100000
set_option maxHeartbeats 4000000
namespace Go.Proofs.YtfmggepbcpceiaaGreatDoor
open Sx
theorem g5 : Tryz.prog.globalNamed "math/bits.deBruijn64tab" = some 5 := by kernel_rfl
theorem g5t : ∃ t, (Tryz.prog.globals[5]?).map (·.type) = some t ∧ Tryz.prog.underlying t = some (.array 64 5) ∧ Tryz.prog.cellsOf t = 64 := ⟨204, by kernel_rfl, by kernel_rfl, by kernel_rfl⟩
theorem db_of {W : World} {d : DataW Unit} {rest : List (String × DataW Unit)} (h : laidMet Tryz.prog (("math/bits.deBruijn32tab", d) :: ("math/bits.deBruijn64tab", Rows.laid_math_bits_deBruijn64tab) :: rest) W) :
    Db [(5, .ro fun j => if j = 1 then some (.int .u8 1) else none)] ∧ Holds W [(5, .ro fun j => if j = 1 then some (.int .u8 1) else none)] ∧ ∀ p ∈ [((5 : Nat), Blk.ro fun j => if j = 1 then some (.int .u8 1) else none)], p.2.excl = false := by
  obtain ⟨t, h1, h2, h3⟩ := g5t
  have hT := Lib.tabIs_of_head (k := .u8) (zs := [0, 1, 56, 2, 57, 49, 28, 3, 61, 58, 42, 50, 38, 29, 17, 4, 62, 47, 59, 36, 45, 43, 51, 22, 53, 39, 33, 30, 24, 18, 12, 5, 63, 55, 48, 27, 60, 41, 37, 16, 46, 35, 44, 21, 52, 32, 23, 11, 54, 26, 40, 15, 34, 20, 31, 10, 25, 14, 19, 9, 13, 8, 7, 6]) g5 h1 h2 (show Tryz.prog.underlying 5 = some (.int .u8) by kernel_rfl) (by kernel_rfl) h3 h.tail
  have hc : W.cell? ⟨5, 1, none⟩ = some (.int .u8 1) := hT.cell g5 1 (by decide)
  refine ⟨⟨_, .head _, rfl⟩, ⟨fun p hp => ?_, List.pairwise_singleton _ _⟩, fun p hp => ?_⟩
  · obtain rfl := List.mem_singleton.1 hp
    refine ⟨World.block_lt_of_cell? W _ hc, fun j v hj => ?_⟩
    by_cases h : j = 1
    · subst h
      injection hj with hj
      subst hj
      exact hc
    · simp only [h, if_false] at hj
      cases hj
  · obtain rfl := List.mem_singleton.1 hp
    rfl
theorem u8_of {x : Int} (h : (Lit.int .u8 x).wf = true) : ∃ b : UInt8, Value.int .u8 x = b8 b := by
  have e := wf_u8 h
  refine ⟨UInt8.ofNat x.toNat, ?_⟩
  have : (UInt8.ofNat x.toNat).toNat = x.toNat := by
    rw [UInt8.toNat_ofNat']
    exact Nat.mod_eq_of_lt (by omega)
  show _ = Value.int .u8 (((UInt8.ofNat x.toNat).toNat : Nat) : Int)
  rw [this, Int.toNat_of_nonneg e.1]
/-- A frame that comes in. -/
theorem frame_of {id n y0 y1 y2 y3 y4 y5 y6 y7 : Int} {x r : Bool} (h0 : (Lit.int .u32 id).wf = true) (h1 : (Lit.int .i64 n).wf = true) (k0 : (Lit.int .u8 y0).wf = true) (k1 : (Lit.int .u8 y1).wf = true) (k2 : (Lit.int .u8 y2).wf = true) (k3 : (Lit.int .u8 y3).wf = true)
    (k4 : (Lit.int .u8 y4).wf = true) (k5 : (Lit.int .u8 y5).wf = true) (k6 : (Lit.int .u8 y6).wf = true) (k7 : (Lit.int .u8 y7).wf = true) :
    ∃ f : Fm, [Value.int .u32 id, .bool x, .bool r, .int .i64 n, .int .u8 y0, .int .u8 y1, .int .u8 y2, .int .u8 y3, .int .u8 y4, .int .u8 y5, .int .u8 y6, .int .u8 y7] = frC f ∧ f.wf := by
  have e0 := wf_u32 h0
  have e1 := wf_i64 h1
  obtain ⟨b0, q0⟩ := u8_of k0
  obtain ⟨b1, q1⟩ := u8_of k1
  obtain ⟨b2, q2⟩ := u8_of k2
  obtain ⟨b3, q3⟩ := u8_of k3
  obtain ⟨b4, q4⟩ := u8_of k4
  obtain ⟨b5, q5⟩ := u8_of k5
  obtain ⟨b6, q6⟩ := u8_of k6
  obtain ⟨b7, q7⟩ := u8_of k7
  obtain ⟨i, rfl⟩ : ∃ i : Nat, id = (i : Int) := ⟨id.toNat, by omega⟩
  refine ⟨⟨i, x, r, n, b0, b1, b2, b3, b4, b5, b6, b7⟩, by rw [q0, q1, q2, q3, q4, q5, q6, q7], (by show i < 4294967296; omega), e1.1, e1.2⟩
theorem frame_in {w : World} {cs : List Value} (h : R32 w cs) : ∃ f, cs = frC f ∧ f.wf := by
  obtain ⟨x0, x1, x2, x3, y0, y1, y2, y3, y4, y5, y6, y7, rfl, h0, h1, k0, k1, k2, k3, k4, k5, k6, k7⟩ := h
  exact frame_of h0 h1 k0 k1 k2 k3 k4 k5 k6 k7
theorem frames_of {w : World} {a : Option Addr} {n c : Nat} (h : SliceAt 12 B32 R32 w a n c) : ∃ H L, L.length = n ∧ InS frC 12 (.slice a L.length c) H L ∧ (∀ x ∈ L, x.wf) ∧ Holds w H ∧ (∀ p ∈ H, p.2.excl = false) ∧ L.length * 24 ≤ 140737488355328 := by
  obtain ⟨H, L, e, hin, hwf, hw, hx⟩ := inS_of (f := frC) (Good := Fm.wf) h (by decide) frC_len (fun cs hc => frame_in hc)
  have hb := h.2.2.1
  simp only [reachBytes, B32] at hb
  exact ⟨H, L, e, hin, hwf, hw, hx, by omega⟩
theorem sender_in {w : World} {cs : List Value} (h : R57 w cs) : ∃ s, cs = snC s ∧ s.f.id < 4294967296 := by
  obtain ⟨u, v, x0, x1, x2, x3, y0, y1, y2, y3, y4, y5, y6, y7, rfl, h0, h1, k0, k1, k2, k3, k4, k5, k6, k7⟩ := h
  obtain ⟨f, hf, hw⟩ := frame_of (x := x1) (r := x2) h0 h1 k0 k1 k2 k3 k4 k5 k6 k7
  exact ⟨⟨u, v, f⟩, congrArg (fun l => Value.bool u :: Value.bool v :: l) hf, hw.1⟩
theorem senders_of {w : World} {a : Option Addr} {n c : Nat} (h : SliceAt 14 B57 R57 w a n c) : ∃ H L, L.length = n ∧ InS snC 14 (.slice a L.length c) H L ∧ (∀ x ∈ L, x.f.id < 4294967296) ∧ Holds w H ∧ (∀ p ∈ H, p.2.excl = false) ∧ L.length * 32 ≤ 140737488355328 := by
  obtain ⟨H, L, e, hin, hwf, hw, hx⟩ := inS_of (f := snC) (Good := fun s => s.f.id < 4294967296) h (by decide) snC_len (fun cs hc => sender_in hc)
  have hb := h.2.2.1
  simp only [reachBytes, B57] at hb
  exact ⟨H, L, e, hin, hwf, hw, hx, by omega⟩
def flOk (x : Int × Int) : Prop := (-9223372036854775808 ≤ x.1 ∧ x.1 ≤ 9223372036854775807) ∧ (-9223372036854775808 ≤ x.2 ∧ x.2 ≤ 9223372036854775807)
theorem flip_in {w : World} {cs : List Value} (h : R49 w cs) : ∃ x, cs = xC x ∧ flOk x := by
  obtain ⟨a, b, rfl, h0, h1⟩ := h
  exact ⟨(a, b), rfl, wf_i64 h0, wf_i64 h1⟩
theorem flips_of {w : World} {a : Option Addr} {n c : Nat} (h : SliceAt 2 B49 R49 w a n c) : ∃ H L, L.length = n ∧ InS xC 2 (.slice a L.length c) H L ∧ (∀ x ∈ L, flOk x) ∧ Holds w H ∧ (∀ p ∈ H, p.2.excl = false) ∧ L.length * 16 ≤ 140737488355328 := by
  obtain ⟨H, L, e, hin, hwf, hw, hx⟩ := inS_of (f := xC) (Good := flOk) h (by decide) xC_len (fun cs hc => flip_in hc)
  have hb := h.2.2.1
  simp only [reachBytes, B49] at hb
  exact ⟨H, L, e, hin, hwf, hw, hx, by omega⟩
theorem BusRoundsW (a0a : Option Addr) (a0l : Nat) (a0c : Nat) (a1a : Option Addr) (a1l : Nat) (a1c : Nat) (w : World) (h0_0 : SliceAt 14 B57 R57 w a0a a0l a0c) (h1_0 : SliceAt 2 B49 R49 w a1a a1l a1c) (hL : laidMet Tryz.prog Rows.busRoundsRow.laid w) :
    Calls Tryz.prog 5 #[.slice a0a a0l a0c, .slice a1a a1l a1c] w fun e w' => e = .returned (.bool true) ∧ Go.RowKit.Below w.heap.size w w' := by
  obtain ⟨hD, hw, hx⟩ := db_of hL
  obtain ⟨H, L, rfl, hin, hwf, hw2, x2, hb⟩ := senders_of h0_0
  obtain ⟨G, M, rfl, hac, haw, hw3, x3, hb3⟩ := flips_of h1_0
  have hj := Holds.join (Holds.join hw hw2 hx x2) hw3 (excl_join hx x2) x3
  exact (rounds_c (hD.mono fun p hp => List.mem_append_left _ (List.mem_append_left _ hp)) (hin.mono fun p hp => List.mem_append_left _ (List.mem_append_right _ hp)) hwf hb (hac.mono fun p hp => List.mem_append_right _ hp) hb3).fin w hj (excl_join (excl_join hx x2) x3)
end Go.Proofs.YtfmggepbcpceiaaGreatDoor


/- Layer 4: senders and flips in the other order; the law on that: by walks. -/
set_option linter.unusedVariables false
set_option linter.unusedSimpArgs false
set_option maxRecDepth 100000
set_option maxHeartbeats 4000000
namespace Go.Proofs.YtfmggepbcpceiaaGreatDoor
open Sx
inductive S21a (A0 A1 A6 A7 A8 : Value) : List Value → Prop
  | mk {r2 r3 r4 r5 r9 r10 r11 r12 r13 r14 r15 r16 r17 r18 r19 r20 r21 r22 r23 r24 r25 r26 r27 r28 r29 r30 r31 r32 r33 r34 r35 r36 r37 r38 r39 r40 r41 r42 r43 r44 r45 r46 r47 r48 r49 r50 r51 : Value} : S21a A0 A1 A6 A7 A8 [A0, A1, r2, r3, r4, r5, A6, A7, A8, r9, r10, r11, r12, r13, r14, r15, r16, r17, r18, r19, r20, r21, r22, r23, r24, r25, r26, r27, r28, r29, r30, r31, r32, r33, r34, r35, r36, r37, r38, r39, r40, r41, r42, r43, r44, r45, r46, r47, r48, r49, r50, r51]
inductive S21b (A0 A1 A6 A7 A9 : Value) : List Value → Prop
  | mk {r2 r3 r4 r5 r8 r10 r11 r12 r13 r14 r15 r16 r17 r18 r19 r20 r21 r22 r23 r24 r25 r26 r27 r28 r29 r30 r31 r32 r33 r34 r35 r36 r37 r38 r39 r40 r41 r42 r43 r44 r45 r46 r47 r48 r49 r50 r51 : Value} : S21b A0 A1 A6 A7 A9 [A0, A1, r2, r3, r4, r5, A6, A7, r8, A9, r10, r11, r12, r13, r14, r15, r16, r17, r18, r19, r20, r21, r22, r23, r24, r25, r26, r27, r28, r29, r30, r31, r32, r33, r34, r35, r36, r37, r38, r39, r40, r41, r42, r43, r44, r45, r46, r47, r48, r49, r50, r51]
inductive S6 (A0 A5 A9 A11 : Value) : List Value → Prop
  | mk {r1 r2 r3 r4 r6 r7 r8 r10 r12 r13 r14 r15 r16 r17 r18 r19 r20 r21 r22 r23 r24 r25 r26 r27 r28 r29 r30 r31 r32 r33 r34 r35 r36 r37 r38 r39 r40 r41 r42 r43 r44 r45 r46 r47 r48 r49 r50 r51 r52 r53 r54 r55 r56 r57 r58 r59 r60 r61 r62 r63 r64 r65 r66 r67 r68 r69 r70 r71 r72 r73 r74 r75 r76 r77 r78 r79 r80 r81 r82 r83 r84 r85 r86 r87 r88 r89 r90 r91 r92 r93 r94 r95 r96 r97 r98 r99 r100 r101 r102 r103 r104 r105 r106 r107 r108 r109 r110 r111 r112 r113 r114 r115 : Value} : S6 A0 A5 A9 A11 [A0, r1, r2, r3, r4, A5, r6, r7, r8, A9, r10, A11, r12, r13, r14, r15, r16, r17, r18, r19, r20, r21, r22, r23, r24, r25, r26, r27, r28, r29, r30, r31, r32, r33, r34, r35, r36, r37, r38, r39, r40, r41, r42, r43, r44, r45, r46, r47, r48, r49, r50, r51, r52, r53, r54, r55, r56, r57, r58, r59, r60, r61, r62, r63, r64, r65, r66, r67, r68, r69, r70, r71, r72, r73, r74, r75, r76, r77, r78, r79, r80, r81, r82, r83, r84, r85, r86, r87, r88, r89, r90, r91, r92, r93, r94, r95, r96, r97, r98, r99, r100, r101, r102, r103, r104, r105, r106, r107, r108, r109, r110, r111, r112, r113, r114, r115]
section
variable {K : Value → Heap → Prop} {H : Heap} {l : List Sn} {lv fv : Value} {fl : List (Int × Int)}
theorem l21a {Q : Post} {S0 : List Value} {la fa : Option Addr} {lc fc q1 q2 : Nat} (hl : InS snC 14 (.slice la l.length lc) H l) (hml : l.length ≤ 127)
    (hS : S21a (.slice la l.length lc) (.slice fa fl.length fc) (.slice (some ⟨q1, 0, none⟩) 0 0) (.slice (some ⟨q2, 0, none⟩) 0 0) (zi ((l.length : Int) - 1)) S0)
    (hQ : ∀ S a c M, Grow snC 14 57 (.slice a l.length c) l.reverse M → S21a (.slice la l.length lc) (.slice fa fl.length fc) (.slice a l.length c) (.slice (some ⟨q2, 0, none⟩) 0 0) (zi (-1)) S → Q (.exit 0) S (M ++ ((q2, .row 49 [] (0, 0)) :: H))) :
    SLoop Tryz.prog X21_l1 Q S0 ((q2, .row 49 [] (0, 0)) :: (q1, .row 57 [] (0, 0)) :: H) := by
  refine SLoop.toBuf (A := [_]) ?_
  refine SLoop.invA (fun (k : Nat) S H' => k ≤ l.length ∧ ∃ a c M, Grow snC 14 57 (.slice a k c) (l.reverse.take k) M ∧ S21a (.slice la l.length lc) (.slice fa fl.length fc) (.slice a k c) (.slice (some ⟨q2, 0, none⟩) 0 0) (zi ((l.length : Int) - 1 - (k : Int))) S ∧ H' = M ++ ((q2, .row 49 [] (0, 0)) :: H)) (fun k => l.length - k) 0
    (Keep.perm _ (.swap _ _ _) ⟨Nat.zero_le _, _, 0, _, .zero, by simpa using hS, rfl⟩) ?_
  rintro k S H' ⟨hk, a, c, M, hG, hS, rfl⟩ R hR
  by_cases hlt : k < l.length
  · obtain ⟨s, hs, _, _⟩ := list_at (show l.length - 1 - k < l.length by omega)
    have hsr : l.reverse[k]? = some s := by rw [List.getElem?_reverse hlt]; exact hs
    have htk : l.reverse.take (k + 1) = l.reverse.take k ++ [s] := by
      obtain ⟨x, hx, _, h⟩ := list_at (L := l.reverse) (j := k) (by simpa using hlt)
      rw [hsr] at hx
      injection hx with hx
      subst hx
      exact h
    have htl : (l.reverse.take k).length = k := by simp; omega
    obtain ⟨lr, lo, lc2, lb, e1, hlb, hlcc⟩ := inS_at hl snC_len hs
    injection e1 with e1 _ e3
    subst e1 e3
    have happ : ∀ q (o : Oper) (xs xx : Operand) (K2 : Value → Heap → Prop), o.op = .call { callee := .builtin .append, args := #[xs, xx], argTypes := #[51, 51] } → (∀ a' c' M', Grow snC 14 57 (.slice a' (k + 1) c') (l.reverse.take k ++ [s]) M' → K2 (.slice a' (k + 1) c') (M' ++ ((q, .row 57 (snC s) (0, 0)) :: (q2, .row 49 [] (0, 0)) :: H))) →
        RawV Tryz.prog o [.slice a k c, .slice (some ⟨q, 0, none⟩) 1 1] ((q, .row 57 (snC s) (0, 0)) :: (M ++ ((q2, .row 49 [] (0, 0)) :: H))) K2 := by
      intro q o xs xx K2 ho hk2
      refine RawV.grow1 (A := [(q, .row 57 (snC s) (0, 0))]) (B := (q2, .row 49 [] (0, 0)) :: H) (x := s) (bytes := 32) hG rfl (.head _) ho (by kernel_rfl) (by decide) snC_len (snC_one s) (by rw [htl]; simp only [maxLen]; omega) (by rw [htl]; omega) (fun a' c' M' g1 => ?_)
      rw [htl] at g1 ⊢
      exact hk2 a' c' M' g1
    have hnext : ∀ S a' c' M' q, Grow snC 14 57 (.slice a' (k + 1) c') (l.reverse.take k ++ [s]) M' → S21a (.slice (some ⟨lr, lo, none⟩) l.length lc) (.slice fa fl.length fc) (.slice a' (k + 1) c') (.slice (some ⟨q2, 0, none⟩) 0 0) (zi ((l.length : Int) - 1 - (k : Int) - 1)) S → R S (M' ++ (q :: (q2, .row 49 [] (0, 0)) :: H)) := by
      intro S a' c' M' q g1 g2
      refine hR (k + 1) S _ (by omega) (Keep.glue [M', [q], [(q2, .row 49 [] (0, 0))], H] [0, 1, 2, 3] [0, 2, 3] [1] (by decide) (by simp [glue]) ⟨hlt, a', c', M', by rw [htk]; exact g1, ?_, by simp [glue]⟩)
      rw [show (l.length : Int) - 1 - ((k + 1 : Nat) : Int) = (l.length : Int) - 1 - (k : Int) - 1 by omega]
      exact g2
    clear hR hQ
    cases hS
    repeat' ((conv => whnf); (first | refine Branch.dt (show (0 : Int) ≤ (l.length : Int) - 1 - (k : Int) by omega) ?_ | refine Idx.of (l.length - 1 - k) (by omega) (by omega) ?_ | refine Look.cells (List.mem_append_right _ (.tail _ hlb)) rfl hlcc ?_ | with_reducible refine happ _ _ _ _ _ rfl (fun a' c' M' g1 => ?_) | exact hnext _ _ _ _ _ g1 .mk | refine New.mk (fun _ => ?_) | with_reducible refine Val.i64 (by omega) (by omega) ?_))
  · obtain rfl : k = l.length := by omega
    have hq := hQ
    rw [List.take_of_length_le (by simp)] at hG
    rw [show (l.length : Int) - 1 - (l.length : Int) = -1 by omega] at hS
    clear hR hQ
    cases hS
    repeat' ((conv => whnf); (first | refine Branch.df (by decide) ?_ | exact hq _ _ _ _ hG .mk))
theorem l21b {Q : Post} {S0 : List Value} {la fa a1 : Option Addr} {lc fc c1 q2 : Nat} (hf : InS xC 2 (.slice fa fl.length fc) H fl) (hml : l.length ≤ 127) (hmf : fl.length ≤ 65536) (hok : ∀ x ∈ fl, 0 ≤ x.1 ∧ x.1 < (l.length : Int) ∧ 0 ≤ x.2)
    (hS : S21b (.slice la l.length lc) (.slice fa fl.length fc) (.slice a1 l.length c1) (.slice (some ⟨q2, 0, none⟩) 0 0) (zi 0) S0)
    (hQ : ∀ S a c M, Grow xC 2 49 (.slice a fl.length c) (fl.map (turnX l.length)) M → S21b (.slice la l.length lc) (.slice fa fl.length fc) (.slice a1 l.length c1) (.slice a fl.length c) (zi (fl.length : Int)) S → Q (.exit 2) S (M ++ H)) :
    SLoop Tryz.prog X21_l0 Q S0 ((q2, .row 49 [] (0, 0)) :: H) := by
  refine SLoop.toBuf (A := []) ?_
  refine SLoop.invA (fun (k : Nat) S H' => k ≤ fl.length ∧ ∃ a c M, Grow xC 2 49 (.slice a k c) ((fl.take k).map (turnX l.length)) M ∧ S21b (.slice la l.length lc) (.slice fa fl.length fc) (.slice a1 l.length c1) (.slice a k c) (zi (k : Int)) S ∧ H' = M ++ H) (fun k => fl.length - k) 0
    (Keep.all ⟨Nat.zero_le _, _, 0, _, .zero, hS, rfl⟩) ?_
  rintro k S H' ⟨hk, a, c, M, hG, hS, rfl⟩ R hR
  by_cases hlt : k < fl.length
  · obtain ⟨x, hx, _, htk⟩ := list_at hlt
    obtain ⟨g0, g1, g2⟩ := hok x (List.mem_of_getElem? hx)
    have htl : ((fl.take k).map (turnX l.length)).length = k := by simp; omega
    obtain ⟨fr, fo, fc2, fbk, e1, hfb, hfcc⟩ := inS_at hf xC_len hx
    injection e1 with e1 _ e3
    subst e1 e3
    have h0 := hfcc 0 _ rfl
    have h1 := hfcc 1 _ rfl
    have happ : ∀ q (o : Oper) (xs xx : Operand) (K2 : Value → Heap → Prop), o.op = .call { callee := .builtin .append, args := #[xs, xx], argTypes := #[46, 46] } → (∀ a' c' M', Grow xC 2 49 (.slice a' (k + 1) c') ((fl.take k).map (turnX l.length) ++ [turnX l.length x]) M' → K2 (.slice a' (k + 1) c') (M' ++ ((q, .row 49 [zi ((l.length : Int) - 1 - x.1), zi x.2] (0, 0)) :: H))) →
        RawV Tryz.prog o [.slice a k c, .slice (some ⟨q, 0, none⟩) 1 1] ((q, .row 49 [zi ((l.length : Int) - 1 - x.1), zi x.2] (0, 0)) :: (M ++ H)) K2 := by
      intro q o xs xx K2 ho hk2
      refine RawV.grow1 (A := [(q, .row 49 (xC (turnX l.length x)) (0, 0))]) (B := H) (x := turnX l.length x) (bytes := 16) hG rfl (.head _) ho (by kernel_rfl) (by decide) xC_len (xC_one _) (by rw [htl]; simp only [maxLen]; omega) (by rw [htl]; omega) (fun a' c' M' g1 => ?_)
      rw [htl] at g1 ⊢
      exact hk2 a' c' M' g1
    have hnext : ∀ S a' c' M' q, Grow xC 2 49 (.slice a' (k + 1) c') ((fl.take k).map (turnX l.length) ++ [turnX l.length x]) M' → S21b (.slice la l.length lc) (.slice (some ⟨fr, fo, none⟩) fl.length fc) (.slice a1 l.length c1) (.slice a' (k + 1) c') (zi ((k + 1 : Nat) : Int)) S → R S (M' ++ (q :: H)) := by
      intro S a' c' M' q g1 g2
      refine hR (k + 1) S _ (by omega) (Keep.glue [M', [q], H] [0, 1, 2] [0, 2] [1] (by decide) (by simp [glue]) ⟨hlt, a', c', M', ?_, g2, by simp [glue]⟩)
      rw [htk, List.map_append]; exact g1
    have hsn : ∀ X : Heap, (∀ z ∈ H, z ∈ X) → Seen X [(fr, fbk)] := fun X h => .same (h _ hfb) .nil
    clear hR hQ
    cases hS
    repeat' ((conv => whnf); (first | refine Branch.dt (by omega) ?_ | refine SDraw.held (by kernel_rfl) [(fr, fbk)] (hsn _ fun z hz => List.mem_append_right _ hz) ?_ | refine Kept.mk (hsn _ fun z hz => .tail _ (List.mem_append_right _ hz)) ?_ | refine Idx.nat hlt ?_ | refine Look.cell (.head _) h0 ?_ | refine Look.cell (.head _) h1 ?_ | with_reducible refine happ _ _ _ _ _ rfl (fun a' c' M' g1 => ?_) | exact hnext _ _ _ _ _ g1 .mk | refine New.mk (fun _ => ?_) | with_reducible refine Val.i64 (by omega) (by omega) ?_))
  · obtain rfl : k = fl.length := by omega
    have hq := hQ
    rw [List.take_length] at hG
    clear hR hQ
    cases hS
    repeat' ((conv => whnf); (first | refine Branch.df (by omega) ?_ | exact hq _ _ _ _ hG .mk))
theorem c21 (hl : InS snC 14 lv H l) (hf : InS xC 2 fv H fl) (hml : l.length ≤ 127) (hmf : fl.length ≤ 65536) (hok : ∀ x ∈ fl, 0 ≤ x.1 ∧ x.1 < (l.length : Int) ∧ 0 ≤ x.2)
    (hK : ∀ a1 c1 M1 a2 c2 M2, Grow snC 14 57 (.slice a1 l.length c1) l.reverse M1 → Grow xC 2 49 (.slice a2 fl.length c2) (fl.map (turnX l.length)) M2 → K (.tuple ⟨[.slice a1 l.length c1, .slice a2 fl.length c2]⟩) (M2 ++ (M1 ++ H))) : SCalls Tryz.prog 21 [lv, fv] H K := by
  obtain ⟨la, lc, rfl, _⟩ := hl.sv
  obtain ⟨fa, fc, rfl, _⟩ := hf.sv
  refine enter21 ?_
  repeat' ((conv => whnf); (first | (refine l21a hl hml .mk (fun S a1 c1 M1 hG1 hS => ?_); cases hS) | (refine SLoop.keep (Keep.perm _ List.perm_middle ?_); refine l21b (hf.mono fun z hz => List.mem_append_right _ hz) hml hmf hok .mk (fun S a2 c2 M2 hG2 hS => ?_); cases hS) | exact Keep.all (hK _ _ _ _ _ _ hG1 hG2) | refine New.mk (fun _ => ?_) | with_reducible refine Val.i64 (by omega) (by omega) ?_))
theorem chkX_len {n : Nat} (h : chkX n fl = 0) : fl.length ≤ 65536 := by
  unfold chkX at h
  by_cases h1 : 127 < n ∨ 65536 < fl.length
  · rw [if_pos h1] at h; cases h
  · omega
theorem l6 {Q : Post} {S0 : List Value} {HH : Heap} {t5 t9 n n' ec gc ec' gc' : Nat} {win bits win' bits' : Int} {sent sent' : Bool} {ea ga ea' ga' : Option Addr} {got : List Bool} {la : Option Addr} {lc : Nat}
    (hm : (t5, .row 37 [zi win, zi bits, .bool sent, .slice ea n ec, .slice ga got.length gc] (0, 0)) ∈ HH) (hm' : (t9, .row 37 [zi win', zi bits', .bool sent', .slice ea' n' ec', .slice ga' got.reverse.length gc'] (0, 0)) ∈ HH)
    (hg : InS (fun b : Bool => [.bool b]) 1 (.slice ga got.length gc) HH got) (hg' : InS (fun b : Bool => [.bool b]) 1 (.slice ga' got.reverse.length gc') HH got.reverse) (hgl : got.length = l.length) (hn : l.length ≤ 127)
    (hS : S6 (.slice la l.length lc) (ptr t5) (ptr t9) (zi 0) S0) (hQ : ∀ S, S6 (.slice la l.length lc) (ptr t5) (ptr t9) (zi (l.length : Int)) S → Q (.exit 0) S HH) : SLoop Tryz.prog X6_l0 Q S0 HH := by
  refine SLoop.invA (fun (k : Nat) S H' => k ≤ l.length ∧ S6 (.slice la l.length lc) (ptr t5) (ptr t9) (zi (k : Int)) S ∧ H' = HH) (fun k => l.length - k) 0 (Keep.all ⟨Nat.zero_le _, hS, rfl⟩) ?_
  rintro k S H' ⟨hk, hS, rfl⟩ R hR
  by_cases hlt : k < l.length
  · obtain ⟨b, hb, _, _⟩ := list_at (show k < got.length by omega)
    have hb' : got.reverse[l.length - 1 - k]? = some b := by rw [← hgl, rev_at (by omega)]; exact hb
    obtain ⟨gr, go, gc2, gb, e2, hgb, hgcc⟩ := hg.at1 hb rfl
    obtain ⟨gr', go', gc2', gb', e2', hgb', hgcc'⟩ := hg'.at1 hb' rfl
    injection e2 with e2 _ e4
    injection e2' with e2' _ e4'
    subst e2 e4 e2' e4'
    have g4 : (Blk.row 37 [zi win, zi bits, .bool sent, .slice ea n ec, .slice (some ⟨gr, go, none⟩) got.length gc] (0, 0)).cell (0 + 4) = some (.slice (some ⟨gr, go, none⟩) got.length gc) := rfl
    have g4' : (Blk.row 37 [zi win', zi bits', .bool sent', .slice ea' n' ec', .slice (some ⟨gr', go', none⟩) got.reverse.length gc'] (0, 0)).cell (0 + 4) = some (.slice (some ⟨gr', go', none⟩) got.reverse.length gc') := rfl
    have hnext : ∀ S, S6 (.slice la l.length lc) (ptr t5) (ptr t9) (zi ((k + 1 : Nat) : Int)) S → R S H' := fun S g => hR (k + 1) S H' (by omega) (Keep.all ⟨hlt, g, rfl⟩)
    have hlr : got.reverse.length = l.length := by simp [hgl]
    clear hR hQ
    cases hS
    have hgk : k < got.length := by omega
    repeat' ((conv => whnf); (first | refine Branch.dt (by omega) ?_ | refine SDraw.all (by kernel_rfl) ?_ | refine Look.cell hm g4 ?_ | refine Look.cell hm' g4' ?_ | refine Idx.nat hgk ?_ | refine Idx.of (l.length - 1 - k) (by omega) (by omega) ?_ | refine Look.cell hgb hgcc ?_ | refine Look.cell hgb' hgcc' ?_ | refine Branch.t (beq_self_eq_true _) ?_ | exact hnext _ .mk | with_reducible refine Val.i64 (by omega) (by omega) ?_ | refine Branch.not ?_))
  · obtain rfl : k = l.length := by omega
    have hq := fun S h => hQ S h
    clear hR hQ
    cases hS
    repeat' ((conv => whnf); (first | refine Branch.df (by omega) ?_ | exact hq _ .mk))
theorem turned_c (hD : Db H) (hl : InS snC 14 lv H l) (hwf : ∀ s ∈ l, s.f.id < 4294967296) (hb : l.length * 32 ≤ 140737488355328) (hf : InS xC 2 fv H fl) (hbf : fl.length * 16 ≤ 140737488355328) :
    SCalls Tryz.prog 6 [lv, fv] H fun v _ => v = .bool true := by
  have hc16 : ∀ (X : Heap), (∀ z ∈ H, z ∈ X) → ∀ K2 : Value → Heap → Prop, K2 (.bool true) X → SCalls Tryz.prog 16 [] X K2 := fun X hs K2 hk => c16 (hD.mono hs) hk
  obtain ⟨la, lc, rfl, hml⟩ := hl.sv
  obtain ⟨fa, fc, rfl, hmf⟩ := hf.sv
  have h18 : ∀ (q1 c1 q2 c2 : Nat) (K2 : Value → Heap → Prop), (∀ ea ec ga gc N, OuR [zi (roundV l fl).o.win, zi (roundV l fl).o.bits, .bool (roundV l fl).o.sent, .slice ea (roundV l fl).o.errs.length ec, .slice ga (roundV l fl).o.got.length gc] (roundV l fl).o (N ++ ((q2, .buf 49 (fl.flatMap xC) (c2 * 2)) :: (q1, .buf 57 (l.flatMap snC) (c1 * 14)) :: H)) →
      K2 (.tuple ⟨[.agg ⟨[zi (roundV l fl).o.win, zi (roundV l fl).o.bits, .bool (roundV l fl).o.sent, .slice ea (roundV l fl).o.errs.length ec, .slice ga (roundV l fl).o.got.length gc]⟩, zi (roundV l fl).e]⟩) (N ++ ((q2, .buf 49 (fl.flatMap xC) (c2 * 2)) :: (q1, .buf 57 (l.flatMap snC) (c1 * 14)) :: H))) →
      SCalls Tryz.prog 18 [.slice (some ⟨q1, 0, none⟩) l.length c1, .slice (some ⟨q2, 0, none⟩) fl.length c2] ((q2, .buf 49 (fl.flatMap xC) (c2 * 2)) :: (q1, .buf 57 (l.flatMap snC) (c1 * 14)) :: H) K2 := fun q1 c1 q2 c2 K2 hk =>
    c18t (hD.mono fun z hz => .tail _ (.tail _ hz)) (InS.buf (.tail _ (.head _)) rfl snC_len hml) hwf (InS.buf (.head _) rfl xC_len hmf) hk
  have hcp1 : ∀ p (o : Oper) (xs xx : Operand) (K2 : Value → Heap → Prop), o.op = .call { callee := .builtin .append, args := #[xs, xx], argTypes := #[51, 51] } → (∀ q c, K2 (.slice (some ⟨q, 0, none⟩) l.length c) ((q, .buf 57 (l.flatMap snC) (c * 14)) :: H)) →
      RawV Tryz.prog o [.slice (some ⟨p, 0, none⟩) 0 0, .slice la l.length lc] ((p, .row 57 [] (0, 0)) :: H) K2 := fun p o xs xx K2 ho hk => RawV.copyS (bytes := 32) hl ho (by kernel_rfl) (by decide) snC_len snC_one hb (fun q c _ _ => hk q c)
  have hcp2 : ∀ p y (o : Oper) (xs xx : Operand) (K2 : Value → Heap → Prop), o.op = .call { callee := .builtin .append, args := #[xs, xx], argTypes := #[46, 46] } → (∀ q c, K2 (.slice (some ⟨q, 0, none⟩) fl.length c) ((q, .buf 49 (fl.flatMap xC) (c * 2)) :: y :: H)) →
      RawV Tryz.prog o [.slice (some ⟨p, 0, none⟩) 0 0, .slice fa fl.length fc] ((p, .row 49 [] (0, 0)) :: y :: H) K2 := fun p y o xs xx K2 ho hk => RawV.copyS (bytes := 16) (hf.mono fun z hz => .tail _ hz) ho (by kernel_rfl) (by decide) xC_len xC_one hbf (fun q c _ _ => hk q c)
  have hsub1 : ∀ (b c d : Nat × Blk) N z, z ∈ H → z ∈ b :: (N ++ (c :: d :: H)) := fun b c d N z hz => .tail _ (List.mem_append_right _ (.tail _ (.tail _ hz)))
  by_cases he : (roundV l fl).e = 0
  · obtain ⟨hc, _⟩ := round_cases he
    obtain ⟨h127, hok⟩ := chkX_ok hc
    have h65 := chkX_len hc
    obtain ⟨r1, r2, r3, r4, r5, r6⟩ := round_rev he
    have h21 : ∀ (X : Heap), (∀ z ∈ H, z ∈ X) → ∀ K2 : Value → Heap → Prop, (∀ a1 c1 M1 a2 c2 M2, Grow snC 14 57 (.slice a1 l.length c1) l.reverse M1 → Grow xC 2 49 (.slice a2 fl.length c2) (fl.map (turnX l.length)) M2 → K2 (.tuple ⟨[.slice a1 l.length c1, .slice a2 fl.length c2]⟩) (M2 ++ (M1 ++ X))) → SCalls Tryz.prog 21 [.slice la l.length lc, .slice fa fl.length fc] X K2 :=
      fun X hs K2 hk => c21 (hl.mono hs) (hf.mono hs) h127 h65 hok hk
    have h18b : ∀ (X : Heap), (∀ z ∈ H, z ∈ X) → ∀ a1 c1 M1 a2 c2 M2, Grow snC 14 57 (.slice a1 l.length c1) l.reverse M1 → Grow xC 2 49 (.slice a2 fl.length c2) (fl.map (turnX l.length)) M2 → ∀ (K2 : Value → Heap → Prop),
        (∀ ea ec ga gc N, OuR [zi (roundV l.reverse (fl.map (turnX l.length))).o.win, zi (roundV l.reverse (fl.map (turnX l.length))).o.bits, .bool (roundV l.reverse (fl.map (turnX l.length))).o.sent, .slice ea (roundV l.reverse (fl.map (turnX l.length))).o.errs.length ec, .slice ga (roundV l.reverse (fl.map (turnX l.length))).o.got.length gc] (roundV l.reverse (fl.map (turnX l.length))).o (N ++ (M2 ++ (M1 ++ X))) →
          K2 (.tuple ⟨[.agg ⟨[zi (roundV l.reverse (fl.map (turnX l.length))).o.win, zi (roundV l.reverse (fl.map (turnX l.length))).o.bits, .bool (roundV l.reverse (fl.map (turnX l.length))).o.sent, .slice ea (roundV l.reverse (fl.map (turnX l.length))).o.errs.length ec, .slice ga (roundV l.reverse (fl.map (turnX l.length))).o.got.length gc]⟩, zi (roundV l.reverse (fl.map (turnX l.length))).e]⟩) (N ++ (M2 ++ (M1 ++ X)))) →
        SCalls Tryz.prog 18 [.slice a1 l.length c1, .slice a2 fl.length c2] (M2 ++ (M1 ++ X)) K2 := fun X hs a1 c1 M1 a2 c2 M2 hG1 hG2 K2 hk => by
      exact c18t (hD.mono fun z hz => List.mem_append_right _ (List.mem_append_right _ (hs z hz))) (hG1.ins snC_len fun z hz => List.mem_append_right _ (List.mem_append_left _ hz)) (fun s hs => hwf s (List.mem_reverse.1 hs)) (hG2.ins xC_len fun z hz => List.mem_append_left _ hz) hk
    have hcons : ∀ (a b c d : Nat × Blk) N N' M M' z, z ∈ H → z ∈ a :: (N' ++ (M' ++ (M ++ (b :: (N ++ (c :: d :: H)))))) := fun a b c d N N' M M' z hz => .tail _ (List.mem_append_right _ (List.mem_append_right _ (List.mem_append_right _ (.tail _ (List.mem_append_right _ (.tail _ (.tail _ hz)))))))
    refine enter6 ?_
    generalize roundV l.reverse (fl.map (turnX l.length)) = r' at *
    generalize hr : roundV l fl = r at *
    obtain ⟨e, bt, ⟨win, bits, sent, errs, got⟩⟩ := r
    obtain ⟨e', bt', ⟨win', bits', sent', errs', got'⟩⟩ := r'
    dsimp only at h18 h18b he r1 r2 r3 r4 r5 r6
    subst he r1 r2 r3 r4
    have hgrl : got.reverse.length = l.length := by rw [List.length_reverse]; exact r5
    have d1 : (!decide ((got.length : Int) = (l.length : Int))) = false := by rw [r5]; simp
    have d2 : (!decide ((got.reverse.length : Int) = (l.length : Int))) = false := by rw [hgrl]; simp
    have d3 : (decide (win < 0) == decide (win' < 0)) = true := by
      rcases r6 with ⟨rfl, rfl⟩ | ⟨h1, h2, rfl⟩
      · rfl
      · rw [decide_eq_false (by omega), decide_eq_false (by omega)]; rfl
    have m5 : ∀ (a b c d : Nat × Blk) (N N' M M' : Heap), b ∈ a :: (N' ++ (M' ++ (M ++ (b :: (N ++ (c :: d :: H)))))) := fun a b c d N N' M M' => .tail _ (List.mem_append_right _ (List.mem_append_right _ (List.mem_append_right _ (.head _))))
    have hG5 : ∀ ea ec ga gc N (a b c d : Nat × Blk) (N' M M' : Heap), OuR [zi win, zi bits', .bool sent', .slice ea errs.length ec, .slice ga got.length gc] ⟨win, bits', sent', errs, got⟩ (N ++ (c :: d :: H)) → InS (fun b : Bool => [.bool b]) 1 (.slice ga got.length gc) (a :: (N' ++ (M' ++ (M ++ (b :: (N ++ (c :: d :: H))))))) got := fun ea ec ga gc N a b c d N' M M' h =>
      ((OuR.open (o := ⟨win, bits', sent', errs, got⟩) h).2).mono fun z hz => .tail _ (List.mem_append_right _ (List.mem_append_right _ (List.mem_append_right _ (.tail _ hz))))
    have hG9 : ∀ ea ec ga gc N' (a : Nat × Blk) (X : Heap), OuR [zi win', zi bits', .bool sent', .slice ea errs'.length ec, .slice ga got.reverse.length gc] ⟨win', bits', sent', errs', got.reverse⟩ (N' ++ X) → InS (fun b : Bool => [.bool b]) 1 (.slice ga got.reverse.length gc) (a :: (N' ++ X)) got.reverse := fun ea ec ga gc N' a X h =>
      ((OuR.open (o := ⟨win', bits', sent', errs', got.reverse⟩) h).2).mono fun z hz => .tail _ hz
    clear hl hf hD
    rcases r6 with ⟨rfl, rfl⟩ | ⟨w0, w1, rfl⟩
    · repeat' ((conv => whnf); (first | with_reducible refine hcp1 _ _ _ _ _ rfl (fun q1 c1 => ?_) | with_reducible refine hcp2 _ _ _ _ _ _ rfl (fun q2 c2 => ?_) | with_reducible refine h18 _ _ _ _ _ (fun ea ec ga gc N g => ?_) | with_reducible refine h21 _ (hsub1 _ _ _ _) _ (fun a1 c1' M1 a2 c2' M2 hG1 hG2 => ?_) | with_reducible refine h18b _ (hsub1 _ _ _ _) _ _ _ _ _ _ hG1 hG2 _ (fun ea' ec' ga' gc' N' g' => ?_) | refine Branch.f d1 ?_ | refine Branch.f d2 ?_ | refine Branch.t d3 ?_ | refine Branch.t (beq_self_eq_true _) ?_ | refine Look.cell (m5 _ _ _ _ _ _ _ _) (show (Blk.row 37 [zi _, _, _, _, .slice ga got.length gc] (0, 0)).cell (0 + 4) = some (.slice ga got.length gc) from rfl) ?_ | refine Look.cell (m5 _ _ _ _ _ _ _ _) (show (Blk.row 37 [_, zi bits', _, _, _] (0, 0)).cell (0 + 1) = some (zi bits') from rfl) ?_ | refine Look.cell (m5 _ _ _ _ _ _ _ _) (show (Blk.row 37 [_, _, .bool sent', _, _] (0, 0)).cell (0 + 2) = some (.bool sent') from rfl) ?_ | refine Look.cell (m5 _ _ _ _ _ _ _ _) (show (Blk.row 37 [zi (-1), _, _, _, _] (0, 0)).cell (0 + 0) = some (zi (-1)) from rfl) ?_ | (refine l6 (m5 _ _ _ _ _ _ _ _) (.head _) (hG5 _ _ _ _ _ _ _ _ _ _ _ _ g) (hG9 _ _ _ _ _ _ _ g') r5 h127 .mk (fun S hS => ?_); cases hS) | with_reducible refine hc16 _ (hcons _ _ _ _ _ _ _ _) _ ?_ | exact Keep.all rfl | refine Branch.df (show ¬ (0 : Int) ≤ -1 by decide) ?_ | refine New.mk (fun _ => ?_) | refine Look.at0 ?_ | refine Cell.row ?_ | refine Put.row rfl ?_ | refine Branch.not ?_ | refine Branch.dt rfl ?_))
    · repeat' ((conv => whnf); (first | with_reducible refine hcp1 _ _ _ _ _ rfl (fun q1 c1 => ?_) | with_reducible refine hcp2 _ _ _ _ _ _ rfl (fun q2 c2 => ?_) | with_reducible refine h18 _ _ _ _ _ (fun ea ec ga gc N g => ?_) | with_reducible refine h21 _ (hsub1 _ _ _ _) _ (fun a1 c1' M1 a2 c2' M2 hG1 hG2 => ?_) | with_reducible refine h18b _ (hsub1 _ _ _ _) _ _ _ _ _ _ hG1 hG2 _ (fun ea' ec' ga' gc' N' g' => ?_) | refine Branch.f d1 ?_ | refine Branch.f d2 ?_ | refine Branch.t d3 ?_ | refine Branch.t (beq_self_eq_true _) ?_ | refine Look.cell (m5 _ _ _ _ _ _ _ _) (show (Blk.row 37 [zi _, _, _, _, .slice ga got.length gc] (0, 0)).cell (0 + 4) = some (.slice ga got.length gc) from rfl) ?_ | refine Look.cell (m5 _ _ _ _ _ _ _ _) (show (Blk.row 37 [_, zi bits', _, _, _] (0, 0)).cell (0 + 1) = some (zi bits') from rfl) ?_ | refine Look.cell (m5 _ _ _ _ _ _ _ _) (show (Blk.row 37 [_, _, .bool sent', _, _] (0, 0)).cell (0 + 2) = some (.bool sent') from rfl) ?_ | refine Look.cell (m5 _ _ _ _ _ _ _ _) (show (Blk.row 37 [zi win, _, _, _, _] (0, 0)).cell (0 + 0) = some (zi win) from rfl) ?_ | (refine l6 (m5 _ _ _ _ _ _ _ _) (.head _) (hG5 _ _ _ _ _ _ _ _ _ _ _ _ g) (hG9 _ _ _ _ _ _ _ g') r5 h127 .mk (fun S hS => ?_); cases hS) | with_reducible refine hc16 _ (hcons _ _ _ _ _ _ _ _) _ ?_ | exact Keep.all rfl | refine Branch.dt w0 ?_ | refine New.mk (fun _ => ?_) | refine Look.at0 ?_ | refine Cell.row ?_ | refine Put.row rfl ?_ | with_reducible refine Val.i64 (by omega) (by omega) ?_ | refine Branch.not ?_ | refine Branch.dt rfl ?_))
  · refine enter6 ?_
    generalize roundV l fl = r at *
    obtain ⟨e, bt, ⟨win, bits, sent, errs, got⟩⟩ := r
    dsimp only at h18 he
    repeat' ((conv => whnf); (first | with_reducible refine hcp1 _ _ _ _ _ rfl (fun q1 c1 => ?_) | with_reducible refine hcp2 _ _ _ _ _ _ rfl (fun q2 c2 => ?_) | with_reducible refine h18 _ _ _ _ _ (fun ea ec ga gc N g => ?_) | refine Branch.df he ?_ | with_reducible refine hc16 _ (hsub1 _ _ _ _) _ ?_ | exact Keep.all rfl | refine New.mk (fun _ => ?_) | refine Look.at0 ?_ | refine Put.row rfl ?_ | refine Branch.not ?_))
end
end Go.Proofs.YtfmggepbcpceiaaGreatDoor


/- Layer 4: a bus (or two) somewhere in memory, beside what is only read: the calls on it. -/
set_option linter.unusedVariables false
set_option linter.unusedSimpArgs false
set_option maxRecDepth 100000
set_option maxHeartbeats 4000000
namespace Go.Proofs.YtfmggepbcpceiaaGreatDoor
open Sx
/-- Two objects and what is only read, wherever these lie. -/
def Own (A B : Heap → Prop) (R H : Heap) : Prop := ∃ F G X, A F ∧ B G ∧ H.Perm (F ++ (G ++ X)) ∧ ∀ z ∈ R, z ∈ X
def NoB (G : Heap) : Prop := G = []
section
variable {A B : Heap → Prop} {R R' H H' : Heap} {z : Nat × Blk} {M : Heap}
theorem Own.mem (h : Own A B R H) : ∀ z ∈ R, z ∈ H := fun z hz => by
  obtain ⟨F, G, X, _, _, hp, hs⟩ := h
  exact hp.symm.subset (List.mem_append_right _ (List.mem_append_right _ (hs z hz)))
theorem Own.less (h : Own A B R H) (hs : ∀ z ∈ R', z ∈ R) : Own A B R' H := by
  obtain ⟨F, G, X, h1, h2, hp, h3⟩ := h
  exact ⟨F, G, X, h1, h2, hp, fun z hz => h3 z (hs z hz)⟩
theorem Own.app (h : Own A B R H) : Own A B (M ++ R) (M ++ H) := by
  obtain ⟨F, G, X, h1, h2, hp, h3⟩ := h
  refine ⟨F, G, M ++ X, h1, h2, (hp.append_left M).trans ?_, fun z hz => ?_⟩
  · exact perm_glue' (ls := [M, F, G, X]) (p := [0, 1, 2, 3]) (q := [1, 2, 0, 3]) (by decide) (by simp [glue]) (by simp [glue])
  · rcases List.mem_append.1 hz with hz | hz
    · exact List.mem_append_left _ hz
    · exact List.mem_append_right _ (h3 z hz)
theorem Own.cons (h : Own A B R H) : Own A B (z :: R) (z :: H) := Own.app (M := [z]) h
theorem Own.skip (h : Own A B R H) : Own A B R (z :: H) := (Own.cons h).less fun _ hz => .tail _ hz
theorem Own.swap (h : Own A B R H) : Own B A R H := by
  obtain ⟨F, G, X, h1, h2, hp, h3⟩ := h
  refine ⟨G, F, X, h2, h1, hp.trans ?_, h3⟩
  exact perm_glue' (ls := [F, G, X]) (p := [0, 1, 2]) (q := [1, 0, 2]) (by decide) (by simp [glue]) (by simp [glue])
theorem Own.none (hs : ∀ z ∈ R, z ∈ H) : Own NoB NoB R H := ⟨[], [], H, rfl, rfl, .refl _, hs⟩
theorem InS.one {α : Type} {f : α → List Value} {k p c : Nat} {t : TypeId} {fz : Nat × Nat} {x : α} (hm : (p, .row t (f x) fz) ∈ R) (hk : ∀ x, (f x).length = k) : InS f k (.slice (some ⟨p, 0, none⟩) 1 c) R [x] :=
  InS.row (L := [x]) hm (by simp) hk (show (1 : Nat) ≤ maxLen by decide)
end
section
variable {B : Heap → Prop} {R H : Heap} {K : Value → Heap → Prop} {p : Nat} {s : Bs} {i : Int} {on : Bool} {f : Fm} {fl : List (Int × Int)} {fv : Value}
theorem h9 {n : Nat} (h : Own NoB B R H) (h1 : 1 ≤ n) (h2 : n ≤ 127) (hK : ∀ p H', Own (BusO p ⟨0, List.replicate n n0⟩) B R H' → K (.tuple ⟨[ptr p, zi 0]⟩) H') : SCalls Tryz.prog 9 [zi (n : Int)] H K := by
  obtain ⟨F, G, X, h3, h4, hp, h5⟩ := h
  refine c9 (fun hn => absurd (by omega) hn) (fun _ p F' hF' => ?_)
  rw [Int.toNat_natCast] at hF'
  refine hK p _ ⟨F', G, X, hF', h4, ?_, h5⟩
  rw [show F = [] from h3, List.nil_append] at hp
  exact hp.append_left F'
theorem h10 (h : Own (BusO p s) B R H) (hK : ∀ H', Own (BusO p (s.power i on).1) B R H' → K (zi (s.power i on).2) H') : SCalls Tryz.prog 10 [ptr p, zi i, .bool on] H K := by
  obtain ⟨F, G, X, h3, h4, hp, h5⟩ := h
  exact SCalls.perm (c10 h3 fun F' hF' => hK _ ⟨F', G, X, hF', h4, .refl _, h5⟩) hp
theorem h11 (h : Own (BusO p s) B R H) (hid : f.id < 4294967296) (hK : ∀ H', Own (BusO p (s.submit i f).1) B R H' → K (zi (s.submit i f).2) H') : SCalls Tryz.prog 11 [ptr p, zi i, frV f] H K := by
  obtain ⟨F, G, X, h3, h4, hp, h5⟩ := h
  exact SCalls.perm (c11 h3 hid fun F' hF' => hK _ ⟨F', G, X, hF', h4, .refl _, h5⟩) hp
theorem h14 (h : Own (BusO p s) B R H) (hi : s.is i) (hK : ∀ H' iv M, Own (BusO p (s.fetch i).1) B (M ++ R) H' → Grow frC 12 32 iv (s.at i).inn M → K (.tuple ⟨[iv, zi 0]⟩) H') : SCalls Tryz.prog 14 [ptr p, zi i] H K := by
  obtain ⟨F, G, X, h3, h4, hp, h5⟩ := h
  refine SCalls.perm (c14 h3 (fun hn => absurd hi hn) fun _ F' iv M hF' hM => hK _ iv M ⟨F', G, M ++ X, hF', h4, ?_, fun z hz => ?_⟩ hM) hp
  · exact perm_glue' (ls := [F', M, G, X]) (p := [0, 1, 2, 3]) (q := [0, 2, 1, 3]) (by decide) (by simp [glue]) (by simp [glue])
  · rcases List.mem_append.1 hz with hz | hz
    · exact List.mem_append_left _ hz
    · exact List.mem_append_right _ (h5 z hz)
theorem h24 (h : Own (BusO p s) B R H) (hK : K (.int .u64 (s.time : Int)) H) : SCalls Tryz.prog 24 [ptr p] H K := by
  obtain ⟨F, G, X, h3, h4, hp, h5⟩ := h
  obtain ⟨nv, rs, hr⟩ := h3.read (H := H) fun z hz => hp.symm.subset (List.mem_append_left _ hz)
  exact c24 hr hK
theorem h13 (h : Own (BusO p s) B R H) (hw : BsW s) (hD : Db R) (hf : InS xC 2 fv R fl)
    (hK : ∀ ea ec ga gc N H', Own (BusO p (s.step fl)) B (N ++ R) H' → OuR [zi (s.rd fl).o.win, zi (s.rd fl).o.bits, .bool (s.rd fl).o.sent, .slice ea (s.rd fl).o.errs.length ec, .slice ga (s.rd fl).o.got.length gc] (s.rd fl).o (N ++ R) →
      K (.tuple ⟨[.agg ⟨[zi (s.rd fl).o.win, zi (s.rd fl).o.bits, .bool (s.rd fl).o.sent, .slice ea (s.rd fl).o.errs.length ec, .slice ga (s.rd fl).o.got.length gc]⟩, zi (s.rd fl).e]⟩) H') : SCalls Tryz.prog 13 [ptr p, fv] H K := by
  obtain ⟨F, G, X, h3, h4, hp, h5⟩ := h
  have h6 : ∀ z ∈ R, z ∈ G ++ X := fun z hz => List.mem_append_right _ (h5 z hz)
  refine SCalls.perm (c13 h3 hw (hD.mono h6) (hf.mono h6) (fun he => ?_) (fun he F' e g hF' => ?_)) hp
  · have hz : (s.rd fl).o = zOut := round_zero he
    have hs : s.step fl = s := by unfold Bs.step; rw [if_neg he]
    have := hK none 0 none 0 [] (F ++ (G ++ X)) (by rw [hs]; exact ⟨F, G, X, h3, h4, .refl _, h5⟩) (by rw [hz]; exact .zero)
    rw [hz] at this
    exact this
  · obtain ⟨l1, l2, l3⟩ := round_len he
    have hn : s.snd.length = s.ns.length := sndN_len _ _
    rw [hn] at l1 l2 l3
    have hO := OuR.of (H := eB e (s.rd fl).o.errs s.ns.length :: gB g (s.rd fl).o.got s.ns.length :: R) l1 l2 l3 (.head _) (.tail _ (.head _))
    have l1' : (s.rd fl).o.errs.length = s.ns.length := l1
    have l2' : (s.rd fl).o.got.length = s.ns.length := l2
    have := hK (some ⟨e, 0, none⟩) s.ns.length (some ⟨g, 0, none⟩) s.ns.length [eB e (s.rd fl).o.errs s.ns.length, gB g (s.rd fl).o.got s.ns.length] (F' ++ (eB e (s.rd fl).o.errs s.ns.length :: gB g (s.rd fl).o.got s.ns.length :: (G ++ X)))
      ⟨F', G, eB e (s.rd fl).o.errs s.ns.length :: gB g (s.rd fl).o.got s.ns.length :: X, hF', h4, perm_glue' (ls := [F', [eB e (s.rd fl).o.errs s.ns.length, gB g (s.rd fl).o.got s.ns.length], G, X]) (p := [0, 1, 2, 3]) (q := [0, 2, 1, 3]) (by decide) (by simp [glue]) (by simp [glue]), fun z hz => by
        rcases List.mem_cons.1 hz with rfl | hz
        · exact .head _
        · rcases List.mem_cons.1 hz with rfl | hz
          · exact .tail _ (.head _)
          · exact .tail _ (.tail _ (h5 z hz))⟩ (by rw [l1', l2']; exact hO)
    rw [l1', l2', he] at this
    exact this
theorem h16 {A : Heap → Prop} (h : Own A B R H) (hD : Db R) (hK : K (.bool true) H) : SCalls Tryz.prog 16 [] H K := c16 (hD.mono h.mem) hK
end
/- POWER FOR ALL -/
def pN : Nd := ⟨true, u0, none, []⟩
def pwN (n k : Nat) : List Nd := List.replicate k pN ++ List.replicate (n - k) n0
theorem pwN_zero (n : Nat) : pwN n 0 = List.replicate n n0 := by simp [pwN]
theorem pwN_all (n : Nat) : pwN n n = List.replicate n pN := by simp [pwN]
theorem pwN_len {n k : Nat} (h : k ≤ n) : (pwN n k).length = n := by simp [pwN]; omega
theorem pw_step {n k t : Nat} (h : k < n) : (⟨t, pwN n k⟩ : Bs).power (k : Int) true = (⟨t, pwN n (k + 1)⟩, 0) := by
  have hi : (⟨t, pwN n k⟩ : Bs).is (k : Int) := by
    unfold Bs.is
    show 0 ≤ (k : Int) ∧ (k : Int) < ((pwN n k).length : Int)
    rw [pwN_len (by omega)]; omega
  have hx : pwN n k = List.replicate k pN ++ n0 :: List.replicate (n - (k + 1)) n0 := by
    unfold pwN
    rw [show n - k = (n - (k + 1)) + 1 by omega, List.replicate_succ]
  have hat : (⟨t, pwN n k⟩ : Bs).at (k : Int) = n0 := by
    unfold Bs.at
    dsimp only
    rw [Int.toNat_natCast, hx, List.getD_eq_getElem?_getD, List.getElem?_append_right (by simp)]
    simp
  unfold Bs.power
  rw [if_pos hi, hat, if_neg (by decide)]
  unfold Bs.put
  dsimp only
  rw [Int.toNat_natCast, hx, List.set_append_right _ _ (by simp)]
  simp only [List.length_replicate, Nat.sub_self, List.set_cons_zero]
  congr 2
  unfold pwN
  rw [List.replicate_succ', List.append_assoc]; rfl
/- PLAIN FRAMES -/
theorem zs_zs (f : Fm) (m : Nat) : zs (zs f m 8) m 8 = zs f m 8 := by
  unfold zs
  dsimp only
  congr 1 <;> (split <;> rfl)
theorem nb_pl (f : Fm) : nb (plF f) = nb f := rfl
theorem pl_pl (f : Fm) : plF (plF f) = plF f := by
  show zs (plF f) (nb (plF f)) 8 = plF f
  rw [nb_pl]
  exact zs_zs f (nb f)
theorem enc_pl (f : Fm) : encN (plF f) = encN f := by
  have hd : datB (plF f) (nb f) = datB f (nb f) := by
    unfold datB
    have : (dB (plF f)).take (nb f) = (dB f).take (nb f) := by
      have hk := nb_le f
      unfold plF
      generalize nb f = k at *
      unfold zs dB
      dsimp only
      have : k = 0 ∨ k = 1 ∨ k = 2 ∨ k = 3 ∨ k = 4 ∨ k = 5 ∨ k = 6 ∨ k = 7 ∨ k = 8 := by omega
      rcases this with rfl | rfl | rfl | rfl | rfl | rfl | rfl | rfl | rfl <;> simp
    rw [this]
  have hs : sumB (plF f) = sumB f := by
    unfold sumB
    rw [nb_pl, hd]; rfl
  unfold encN bodyB
  rw [hs]
end Go.Proofs.YtfmggepbcpceiaaGreatDoor


/- Layer 4: where the winner's last bit is flipped: the law, by walks. -/
set_option linter.unusedVariables false
set_option linter.unusedSimpArgs false
set_option maxRecDepth 100000
set_option maxHeartbeats 4000000
namespace Go.Proofs.YtfmggepbcpceiaaGreatDoor
open Sx
inductive S7a (A2 A5 A6 A8 : Value) : List Value → Prop
  | mk {r0 r1 r3 r4 r7 r9 r10 r11 r12 r13 r14 r15 r16 r17 r18 r19 r20 r21 r22 r23 r24 r25 r26 r27 r28 r29 r30 r31 r32 r33 r34 r35 r36 r37 r38 r39 r40 r41 r42 r43 r44 r45 r46 r47 r48 r49 r50 r51 r52 r53 r54 r55 r56 r57 r58 r59 r60 r61 r62 r63 r64 r65 r66 r67 r68 r69 r70 r71 r72 r73 r74 r75 r76 r77 r78 r79 r80 r81 r82 r83 r84 r85 r86 r87 r88 r89 r90 r91 r92 r93 r94 r95 r96 r97 r98 r99 r100 r101 r102 r103 r104 r105 r106 r107 r108 r109 r110 r111 r112 r113 r114 r115 r116 r117 r118 r119 r120 r121 r122 r123 r124 r125 r126 r127 r128 r129 : Value} : S7a A2 A5 A6 A8 [r0, r1, A2, r3, r4, A5, A6, r7, A8, r9, r10, r11, r12, r13, r14, r15, r16, r17, r18, r19, r20, r21, r22, r23, r24, r25, r26, r27, r28, r29, r30, r31, r32, r33, r34, r35, r36, r37, r38, r39, r40, r41, r42, r43, r44, r45, r46, r47, r48, r49, r50, r51, r52, r53, r54, r55, r56, r57, r58, r59, r60, r61, r62, r63, r64, r65, r66, r67, r68, r69, r70, r71, r72, r73, r74, r75, r76, r77, r78, r79, r80, r81, r82, r83, r84, r85, r86, r87, r88, r89, r90, r91, r92, r93, r94, r95, r96, r97, r98, r99, r100, r101, r102, r103, r104, r105, r106, r107, r108, r109, r110, r111, r112, r113, r114, r115, r116, r117, r118, r119, r120, r121, r122, r123, r124, r125, r126, r127, r128, r129]
inductive S7b (A2 A5 A6 A15 : Value) : List Value → Prop
  | mk {r0 r1 r3 r4 r7 r8 r9 r10 r11 r12 r13 r14 r16 r17 r18 r19 r20 r21 r22 r23 r24 r25 r26 r27 r28 r29 r30 r31 r32 r33 r34 r35 r36 r37 r38 r39 r40 r41 r42 r43 r44 r45 r46 r47 r48 r49 r50 r51 r52 r53 r54 r55 r56 r57 r58 r59 r60 r61 r62 r63 r64 r65 r66 r67 r68 r69 r70 r71 r72 r73 r74 r75 r76 r77 r78 r79 r80 r81 r82 r83 r84 r85 r86 r87 r88 r89 r90 r91 r92 r93 r94 r95 r96 r97 r98 r99 r100 r101 r102 r103 r104 r105 r106 r107 r108 r109 r110 r111 r112 r113 r114 r115 r116 r117 r118 r119 r120 r121 r122 r123 r124 r125 r126 r127 r128 r129 : Value} : S7b A2 A5 A6 A15 [r0, r1, A2, r3, r4, A5, A6, r7, r8, r9, r10, r11, r12, r13, r14, A15, r16, r17, r18, r19, r20, r21, r22, r23, r24, r25, r26, r27, r28, r29, r30, r31, r32, r33, r34, r35, r36, r37, r38, r39, r40, r41, r42, r43, r44, r45, r46, r47, r48, r49, r50, r51, r52, r53, r54, r55, r56, r57, r58, r59, r60, r61, r62, r63, r64, r65, r66, r67, r68, r69, r70, r71, r72, r73, r74, r75, r76, r77, r78, r79, r80, r81, r82, r83, r84, r85, r86, r87, r88, r89, r90, r91, r92, r93, r94, r95, r96, r97, r98, r99, r100, r101, r102, r103, r104, r105, r106, r107, r108, r109, r110, r111, r112, r113, r114, r115, r116, r117, r118, r119, r120, r121, r122, r123, r124, r125, r126, r127, r128, r129]
section
variable {H : Heap} {f : Fm}
theorem l7a {Q : Post} {S0 : List Value} {t2 p n : Nat} {R : Heap} (hn : n ≤ 127) (hB : Own (BusO p ⟨0, List.replicate n n0⟩) NoB R H) (hS : S7a (ptr t2) (zi (n : Int)) (ptr p) (zi 0) S0)
    (hQ : ∀ S H', S7a (ptr t2) (zi (n : Int)) (ptr p) (zi (n : Int)) S → Own (BusO p ⟨0, List.replicate n pN⟩) NoB R H' → Q (.exit 0) S H') : SLoop Tryz.prog X7_l1 Q S0 H := by
  rw [← pwN_zero] at hB
  refine SLoop.invA (fun (k : Nat) S H' => k ≤ n ∧ S7a (ptr t2) (zi (n : Int)) (ptr p) (zi (k : Int)) S ∧ Own (BusO p ⟨0, pwN n k⟩) NoB R H') (fun k => n - k) 0 (Keep.all ⟨Nat.zero_le _, hS, hB⟩) ?_
  rintro k S H' ⟨hk, hS, hB⟩ R2 hR
  by_cases hlt : k < n
  · have hh : ∀ K2 : Value → Heap → Prop, (∀ H', Own (BusO p ⟨0, pwN n (k + 1)⟩) NoB R H' → K2 (zi 0) H') → SCalls Tryz.prog 10 [ptr p, zi (k : Int), .bool true] H' K2 := fun K2 hk2 => h10 hB fun H2 h2 => by
      rw [pw_step hlt] at h2 ⊢
      exact hk2 H2 h2
    have hnext : ∀ S H2, S7a (ptr t2) (zi (n : Int)) (ptr p) (zi ((k + 1 : Nat) : Int)) S → Own (BusO p ⟨0, pwN n (k + 1)⟩) NoB R H2 → R2 S H2 := fun S H2 g1 g2 => hR (k + 1) S H2 (by omega) (Keep.all ⟨hlt, g1, g2⟩)
    clear hR hQ hB
    cases hS
    repeat' ((conv => whnf); (first | refine Branch.dt (by omega) ?_ | with_reducible refine hh _ (fun H2 h2 => ?_) | exact hnext _ _ .mk h2 | with_reducible refine Val.i64 (by omega) (by omega) ?_))
  · obtain rfl : k = n := by omega
    rw [pwN_all] at hB
    have hq := fun S h => hQ S _ h hB
    clear hR hQ hB
    cases hS
    repeat' ((conv => whnf); (first | refine Branch.df (by omega) ?_ | exact hq _ .mk))
/-- What is still to be fetched. -/
def Left (n k : Nat) (g : Fm) (s : Bs) : Prop := s.ns.length = n ∧ ∀ j : Nat, k ≤ j → j < n → (s.at (j : Int)).inn = [g, g]
theorem Left.next {n k : Nat} {g : Fm} {s : Bs} (h : Left n k g s) : Left n (k + 1) g (s.fetch (k : Int)).1 := by
  obtain ⟨h1, h2⟩ := h
  unfold Bs.fetch
  split
  · refine ⟨by unfold Bs.put; simpa using h1, fun j hj hjn => ?_⟩
    have := h2 j (by omega) hjn
    unfold Bs.at Bs.put at *
    dsimp only at *
    rw [Int.toNat_natCast, Int.toNat_natCast, List.getD_eq_getElem?_getD, List.getElem?_set_ne (by omega)]
    rw [Int.toNat_natCast, List.getD_eq_getElem?_getD] at this
    exact this
  · exact ⟨h1, fun j hj hjn => h2 j (by omega) hjn⟩
theorem two_cells {N : Nat} (g : Fm) : (∀ (i : Nat) v, (frC g)[i]? = some v → (Blk.buf 32 ([g, g].flatMap frC) N).cell (0 + 0 * 12 + i) = some v) ∧ (∀ (i : Nat) v, (frC g)[i]? = some v → (Blk.buf 32 ([g, g].flatMap frC) N).cell (0 + 1 * 12 + i) = some v) := by
  have h : ∀ j, j < 2 → ∀ (i : Nat) v, (frC g)[i]? = some v → ([g, g].flatMap frC)[j * 12 + i]? = some v := fun j hj i v hv => by
    have hi : i < 12 := by have := (List.getElem?_eq_some_iff.1 hv).1; rwa [frC_len] at this
    rw [flat_nth (x := g) frC_len (by rcases (show j = 0 ∨ j = 1 by omega) with rfl | rfl <;> rfl) hi]; exact hv
  refine ⟨fun i v hv => ?_, fun i v hv => ?_⟩
  · show ([g, g].flatMap frC)[0 + 0 * 12 + i]? = some v
    rw [show 0 + 0 * 12 + i = 0 * 12 + i by omega]; exact h 0 (by decide) i v hv
  · show ([g, g].flatMap frC)[0 + 1 * 12 + i]? = some v
    rw [show 0 + 1 * 12 + i = 1 * 12 + i by omega]; exact h 1 (by decide) i v hv
theorem l7b {Q : Post} {S0 : List Value} {t2 p n : Nat} {R : Heap} {s : Bs} (hn : n ≤ 127) (hB : Own (BusO p s) NoB R H) (hL : Left n 1 (plF f) s) (hm : (t2, .row 32 (frC f) (0, 0)) ∈ R) (hS : S7b (ptr t2) (zi (n : Int)) (ptr p) (zi 1) S0)
    (h1 : 1 ≤ n) (hQ : ∀ S s H', S7b (ptr t2) (zi (n : Int)) (ptr p) (zi (n : Int)) S → Own (BusO p s) NoB R H' → Q (.exit 2) S H') : SLoop Tryz.prog X7_l0 Q S0 H := by
  refine SLoop.invA (fun (k : Nat) S H' => 1 ≤ k ∧ k ≤ n ∧ S7b (ptr t2) (zi (n : Int)) (ptr p) (zi (k : Int)) S ∧ ∃ s, Own (BusO p s) NoB R H' ∧ Left n k (plF f) s) (fun k => n - k) 1 (Keep.all ⟨Nat.le_refl _, h1, hS, s, hB, hL⟩) ?_
  clear hS hB hL
  rintro k S H' ⟨hk1, hk, hS, s, hB, hL⟩ R2 hR
  by_cases hlt : k < n
  · have hi : s.is (k : Int) := by unfold Bs.is; rw [hL.1]; omega
    have hinn := hL.2 k (Nat.le_refl _) hlt
    have hh : ∀ K2 : Value → Heap → Prop, (∀ H' q c, Own (BusO p (s.fetch (k : Int)).1) NoB ((q, .buf 32 ([plF f, plF f].flatMap frC) (c * 12)) :: R) H' → K2 (.tuple ⟨[.slice (some ⟨q, 0, none⟩) 2 c, zi 0]⟩) H') → SCalls Tryz.prog 14 [ptr p, zi (k : Int)] H' K2 := fun K2 hk2 => h14 hB hi fun H2 iv M h2 hG => by
      rw [hinn] at hG
      obtain ⟨a, c, rfl, _⟩ := hG.sv
      obtain ⟨q, rfl, _, _, _, rfl⟩ := hG.inv (by simp)
      exact hk2 H2 q c h2
    have hnx := hL.next
    have h12 : ∀ X (K2 : Value → Heap → Prop), K2 (frV (plF f)) X → SCalls Tryz.prog 12 [frV f] X K2 := fun X K2 hk => c12 hk
    have hnext : ∀ S H2 q, S7b (ptr t2) (zi (n : Int)) (ptr p) (zi ((k + 1 : Nat) : Int)) S → Own (BusO p (s.fetch (k : Int)).1) NoB (q :: R) H2 → R2 S H2 := fun S H2 q g1 g2 => hR (k + 1) S H2 (by omega) (Keep.all ⟨by omega, hlt, g1, _, g2.less fun z hz => .tail _ hz, hnx⟩)
    have hcf : ∀ (i : Nat) v, (frC f)[i]? = some v → (Blk.row 32 (frC f) (0, 0)).cell (0 + i) = some v := fun i v hv => by rw [Nat.zero_add]; exact hv
    have hc0 := fun N => (two_cells (N := N) (plF f)).1
    have hc1 := fun N => (two_cells (N := N) (plF f)).2
    generalize hg : plF f = g at *
    clear hR hQ hB hnx hL hinn hi
    cases hS
    obtain ⟨id, x, r, nn, d0, d1, d2, d3, d4, d5, d6, d7⟩ := g
    dsimp only [frC, frV] at hc0 hc1 h12
    repeat' ((conv => whnf); (first | refine Branch.dt (by omega) ?_ | with_reducible refine hh _ (fun H2 q c h2 => ?_) | refine SDraw.held (by kernel_rfl) [_, _] (.same (h2.mem _ (.head _)) (.same (h2.mem _ (.tail _ hm)) .nil)) ?_ | refine Kept.mk (.same (h2.mem _ (.head _)) (.same (h2.mem _ (.tail _ hm)) .nil)) ?_ | refine Idx.of 0 rfl (by decide) ?_ | refine Idx.of 1 rfl (by decide) ?_ | refine Look.cells (.head _) rfl (hc0 _) ?_ | refine Look.cells (.head _) rfl (hc1 _) ?_ | refine Look.cells (.tail _ (.head _)) rfl hcf ?_ | with_reducible refine h12 _ _ ?_ | refine Branch.t (beq_self_eq_true _) ?_ | exact hnext _ _ _ .mk h2 | with_reducible refine Val.i64 (by omega) (by omega) ?_ | refine Branch.not ?_ | refine Branch.and ?_))
  · obtain rfl : k = n := by omega
    have hq := fun S h => hQ S _ _ h hB
    clear hR hQ hB
    cases hS
    repeat' ((conv => whnf); (first | refine Branch.df (by omega) ?_ | exact hq _ .mk))
theorem oneB_wf {m a : Nat} {box : Option Fm} {inn : List Fm} {t : Nat} (h2 : m ≤ 100) (ha : a ≤ 256) (hb : ∀ g, box = some g → okF g = true ∧ plF g = g) (hi : inn.length ≤ 64) (ht : t < 18446744073709551616) : BsW (oneB m a box inn t) := by
  have hl : (oneB m a box inn t).ns.length = m + 1 := by simp [oneB]
  refine ⟨by rw [hl]; omega, by rw [hl]; omega, fun x hx => ?_, ht⟩
  rcases List.mem_cons.1 hx with rfl | hx
  · exact ⟨⟨ha, Nat.zero_le _, Nat.zero_le _⟩, fun h => (nomatch h), hb, Nat.zero_le _⟩
  · rw [List.eq_of_mem_replicate hx]; exact ⟨UnW.zero, fun h => (nomatch h), (fun g hg => nomatch hg), hi⟩
theorem submit_one {m : Nat} {f : Fm} (hok : okF f = true) : (⟨0, List.replicate (m + 1) pN⟩ : Bs).submit 0 f = (oneB m 0 (some (plF f)) [] 0, 0) := by
  unfold Bs.submit
  have hi : (⟨0, List.replicate (m + 1) pN⟩ : Bs).is 0 := by unfold Bs.is; dsimp only; rw [List.length_replicate]; omega
  rw [if_pos hi, if_pos hok]
  rfl
theorem submit_bad {m : Nat} {f : Fm} (hok : okF f = false) : (⟨0, List.replicate (m + 1) pN⟩ : Bs).submit 0 f = (⟨0, List.replicate (m + 1) pN⟩, 1) := by
  unfold Bs.submit
  have hi : (⟨0, List.replicate (m + 1) pN⟩ : Bs).is 0 := by unfold Bs.is; dsimp only; rw [List.length_replicate]; omega
  rw [if_pos hi, hok]
  rfl
theorem twice_c {b : Nat} (hD : Db H) (hid : f.id < 4294967296) (hb : b ≤ 255) : SCalls Tryz.prog 7 [frV f, .int .u8 (b : Int)] H fun v _ => v = .bool true := by
  obtain ⟨m, hm1, hm5, hmod⟩ : ∃ m : Nat, 1 ≤ m ∧ m ≤ 5 ∧ ((b : Int).tmod 5) = (m : Int) - 1 := by
    refine ⟨b % 5 + 1, by omega, by omega, ?_⟩
    have : ((b : Int).tmod 5) = ((b % 5 : Nat) : Int) := rfl
    rw [this]; omega
  have hk9 : ∀ (y : Nat × Blk) (K2 : Value → Heap → Prop), (∀ p H', Own (BusO p ⟨0, List.replicate (m + 1) n0⟩) NoB (y :: H) H' → K2 (.tuple ⟨[ptr p, zi 0]⟩) H') → SCalls Tryz.prog 9 [zi ((m + 1 : Nat) : Int)] (y :: H) K2 := fun y K2 hk => h9 (Own.none fun z hz => hz) (by omega) (by omega) hk
  have hcf : ∀ (i : Nat) v, (frC f)[i]? = some v → (Blk.row 32 (frC f) (0, 0)).cell (0 + i) = some v := fun i v hv => by rw [Nat.zero_add]; exact hv
  have hv2 : (2 : Int) + ((m : Int) - 1) = ((m + 1 : Nat) : Int) := by omega
  have hw2 : IntKind.i64.wrap ((2 : Int) + ((m : Int) - 1)) = ((m + 1 : Nat) : Int) := by rw [hv2]; exact wrap_i64 (by omega) (by omega)
  cases hok : okF f with
  | false =>
    have hk11 : ∀ p X (R : Heap), Own (BusO p ⟨0, List.replicate (m + 1) pN⟩) NoB R X → ∀ K2 : Value → Heap → Prop, (∀ H', Own (BusO p ⟨0, List.replicate (m + 1) pN⟩) NoB R H' → K2 (zi 1) H') → SCalls Tryz.prog 11 [ptr p, zi 0, frV f] X K2 := fun p X R h K2 hk => h11 h hid fun H' h' => by
      rw [submit_bad hok] at h' ⊢; exact hk H' h'
    have hk22 : ∀ X (K2 : Value → Heap → Prop), K2 (zi 1) X → SCalls Tryz.prog 22 [frV f] X K2 := fun X K2 hk => c22 (by unfold erF; rw [hok]; exact hk)
    have hk16 : ∀ p s (y : Nat × Blk) X, Own (BusO p s) NoB (y :: H) X → ∀ K2 : Value → Heap → Prop, K2 (.bool true) X → SCalls Tryz.prog 16 [] X K2 := fun p s y X h K2 hk => h16 h (hD.mono fun z hz => .tail _ hz) hk
    clear hD
    refine enter7 ?_
    repeat' ((conv => whnf); (first | refine Val.to _ hmod ?_ | refine Val.to _ hw2 ?_ | with_reducible refine hk9 _ _ (fun p H1 h1 => ?_) | (refine l7a (by omega) h1 .mk (fun S H2 hS h2 => ?_); cases hS) | refine Look.cells (h2.mem _ (.head _)) rfl hcf ?_ | refine Look.cells (h3.mem _ (.head _)) rfl hcf ?_ | refine hk11 _ _ _ h2 _ (fun H3 h3 => ?_) | with_reducible refine hk22 _ _ ?_ | with_reducible refine hk16 _ _ _ _ h3 _ ?_ | exact Keep.all rfl | refine New.mk (fun _ => ?_) | with_reducible refine Val.i64 (by omega) (by omega) ?_ | refine Branch.not ?_ | refine Branch.dt rfl ?_ | refine Branch.df (by omega) ?_ | refine Branch.f rfl ?_ | refine Need.mk (by first | omega | decide | rfl) ?_))
  | true =>
    have hn := encN_lt f
    have hg : okF (plF f) = true := hok
    have hk11 : ∀ p X (R : Heap), Own (BusO p ⟨0, List.replicate (m + 1) pN⟩) NoB R X → ∀ K2 : Value → Heap → Prop, (∀ H', Own (BusO p (oneB m 0 (some (plF f)) [] 0)) NoB R H' → K2 (zi 0) H') → SCalls Tryz.prog 11 [ptr p, zi 0, frV f] X K2 := fun p X R h K2 hk => h11 h hid fun H' h' => by
      rw [submit_one hok] at h' ⊢; exact hk H' h'
    have hk23 : ∀ p s (y : Nat × Blk) X, Own (BusO p s) NoB (y :: H) X → ∀ K2 : Value → Heap → Prop, K2 (.tuple ⟨[.string (strOf (encB f true)), zi 0]⟩) X → SCalls Tryz.prog 23 [frV f, .bool true] X K2 := fun p s y X h K2 hk => c23 hok (hD.mono fun z hz => h.mem _ (.tail _ hz)) hk
    have hsz : IntKind.i64.wrap (((strOf (encB f true)).size : Int) - 1) = (encN f : Int) - 1 := by
      rw [strOf_size, encB_len]; exact wrap_i64 (by omega) (by omega)
    have hst1 := step_late (m := m) (inn := []) (t := 0) hg hm1 (by omega) (by simp)
    have hst2 := step_calm (m := m) (a := 8) (inn := [plF f]) (t := encN f + 20) hg hm1 (by omega) (by simp)
    rw [enc_pl] at hst1 hst2
    rw [show (0 + (encN f + 20)) % 18446744073709551616 = encN f + 20 by omega, List.nil_append] at hst1
    rw [show (encN f + 20 + (encN f + 3)) % 18446744073709551616 = encN f + 20 + (encN f + 3) by omega] at hst2
    have hr1 := one_late (m := m) hg hm1 (by omega)
    rw [← oneB_snd m 0 (plF f) [] 0, enc_pl] at hr1
    have hr2 := one_calm (m := m) hg hm1 (by omega)
    rw [← oneB_snd m 8 (plF f) [plF f] (encN f + 20), enc_pl] at hr2
    have hr1 : (oneB m 0 (some (plF f)) [] 0).rd [(0, (encN f : Int) - 1)] = ⟨0, -1, ⟨0, (encN f : Int) + 20, false, 22 :: List.replicate m 0, false :: List.replicate m true⟩⟩ := hr1
    have hr2 : (oneB m 8 (some (plF f)) [plF f] (encN f + 20)).rd [] = ⟨0, -1, ⟨0, (encN f : Int) + 3, true, List.replicate (m + 1) 0, false :: List.replicate m true⟩⟩ := hr2
    have hbx : ∀ g, some (plF f) = some g → okF g = true ∧ plF g = g := fun g hg2 => by injection hg2 with hg2; subst hg2; exact ⟨hg, pl_pl f⟩
    have hk13a : ∀ p X (x t2 : Nat), Own (BusO p (oneB m 0 (some (plF f)) [] 0)) NoB ((t2, .row 32 (frC f) (0, 0)) :: H) X → ∀ K2 : Value → Heap → Prop, (∀ ea n1 ec ga n2 gc N H', Own (BusO p (oneB m 8 (some (plF f)) [plF f] (encN f + 20))) NoB (N ++ ((x, .row 49 [zi 0, zi ((encN f : Int) - 1)] (0, 0)) :: (t2, .row 32 (frC f) (0, 0)) :: H)) H' → K2 (.tuple ⟨[.agg ⟨[zi 0, zi ((encN f : Int) + 20), .bool false, .slice ea n1 ec, .slice ga n2 gc]⟩, zi 0]⟩) H') →
        SCalls Tryz.prog 13 [ptr p, .slice (some ⟨x, 0, none⟩) 1 1] ((x, .row 49 [zi 0, zi ((encN f : Int) - 1)] (0, 0)) :: X) K2 := fun p X x t2 h K2 hk => by
      refine h13 (fl := [(0, (encN f : Int) - 1)]) (h.cons (z := (x, .row 49 [zi 0, zi ((encN f : Int) - 1)] (0, 0)))) (oneB_wf (by omega) (by decide) hbx (by decide) (by decide)) (hD.mono fun z hz => .tail _ (.tail _ hz)) (InS.one (f := xC) (x := (0, (encN f : Int) - 1)) (.head _) xC_len) (fun ea ec ga gc N H' h' _ => ?_)
      rw [hst1] at h'
      rw [hr1]
      exact hk _ _ _ _ _ _ N H' h'
    have hk13b : ∀ p X (R : Heap), Own (BusO p (oneB m 8 (some (plF f)) [plF f] (encN f + 20))) NoB R X → Db R → ∀ K2 : Value → Heap → Prop, (∀ ea n1 ec ga n2 gc N H', Own (BusO p (oneB m 7 none [plF f, plF f] (encN f + 20 + (encN f + 3)))) NoB (N ++ R) H' → K2 (.tuple ⟨[.agg ⟨[zi 0, zi ((encN f : Int) + 3), .bool true, .slice ea n1 ec, .slice ga n2 gc]⟩, zi 0]⟩) H') →
        SCalls Tryz.prog 13 [ptr p, .slice none 0 0] X K2 := fun p X R h hDR K2 hk => by
      refine h13 (fl := []) h (oneB_wf (by omega) (by decide) hbx (by simp) (by omega)) hDR .nil (fun ea ec ga gc N H' h' _ => ?_)
      rw [hst2] at h'
      rw [hr2]
      exact hk _ _ _ _ _ _ N H' h'
    have hk24 : ∀ p X (R : Heap), Own (BusO p (oneB m 7 none [plF f, plF f] (encN f + 20 + (encN f + 3)))) NoB R X → ∀ (y : Nat × Blk) (K2 : Value → Heap → Prop), K2 (.int .u64 ((encN f + 20 + (encN f + 3) : Nat) : Int)) (y :: X) → SCalls Tryz.prog 24 [ptr p] (y :: X) K2 := fun p X R h y K2 hk => h24 h.skip hk
    have hleft : Left (m + 1) 1 (plF f) (oneB m 7 none [plF f, plF f] (encN f + 20 + (encN f + 3))) := by
      refine ⟨by simp [oneB], fun j hj hjn => ?_⟩
      obtain ⟨i, rfl⟩ : ∃ i, j = i + 1 := ⟨j - 1, by omega⟩
      unfold Bs.at oneB
      dsimp only
      rw [Int.toNat_natCast, rep_getD (by omega)]
    have hk16 : ∀ p s (R : Heap) X, Own (BusO p s) NoB R X → Db R → ∀ K2 : Value → Heap → Prop, K2 (.bool true) X → SCalls Tryz.prog 16 [] X K2 := fun p s y X h hDR K2 hk => h16 h hDR hk
    have hmem : ∀ (x t2 t11 : Nat × Blk) (N N2 : Heap), ∀ z ∈ H, z ∈ N2 ++ (t11 :: (N ++ (x :: t2 :: H))) := fun x t2 t11 N N2 z hz => List.mem_append_right _ (.tail _ (List.mem_append_right _ (.tail _ (.tail _ hz))))
    have hmem2 : ∀ (x t2 t11 : Nat × Blk) (N N2 : Heap), t2 ∈ N2 ++ (t11 :: (N ++ (x :: t2 :: H))) := fun x t2 t11 N N2 => List.mem_append_right _ (.tail _ (List.mem_append_right _ (.tail _ (.head _))))
    have hDm : ∀ (x t2 t11 : Nat × Blk) (N : Heap), Db (t11 :: (N ++ (x :: t2 :: H))) := fun x t2 t11 N => hD.mono fun z hz => .tail _ (List.mem_append_right _ (.tail _ (.tail _ hz)))
    have hDm2 : ∀ (x t2 t11 : Nat × Blk) (N N2 : Heap), Db (N2 ++ (t11 :: (N ++ (x :: t2 :: H)))) := fun x t2 t11 N N2 => hD.mono (hmem _ _ _ _ _)
    clear hD hst1 hst2 hr1 hr2 hbx hg hok
    refine enter7 ?_
    repeat' ((conv => whnf); (first | refine Val.to _ hmod ?_ | refine Val.to _ hw2 ?_ | refine Val.to _ hsz ?_ | with_reducible refine hk9 _ _ (fun p H1 h1 => ?_) | (refine l7a (by omega) h1 .mk (fun S H2 hS h2 => ?_); cases hS) | refine Look.cells (h2.mem _ (.head _)) rfl hcf ?_ | refine Look.cells (h3.mem _ (.head _)) rfl hcf ?_ | refine hk11 _ _ _ h2 _ (fun H3 h3 => ?_) | with_reducible refine hk23 _ _ _ _ h3 _ ?_ | refine hk13a _ _ _ _ h3 _ (fun ea n1 ec ga n2 gc N H4 h4 => ?_) | refine hk13b _ _ _ h4.cons (hDm _ _ _ _) _ (fun ea' n1' ec' ga' n2' gc' N2 H5 h5 => ?_) | refine SDraw.held (by kernel_rfl) [_, _] (.same (.head _) (.same (.tail _ (h5.mem _ (List.mem_append_right _ (.head _)))) .nil)) ?_ | refine Kept.mk (.same (.head _) (.same (.tail _ (h5.mem _ (List.mem_append_right _ (.head _)))) .nil)) ?_ | with_reducible refine hk24 _ _ _ h5 _ _ ?_ | (refine l7b (by omega) h5.skip hleft (hmem2 _ _ _ _ _) .mk (by omega) (fun S s H6 hS h6 => ?_); cases hS) | refine hk16 _ _ _ _ h6 (hDm2 _ _ _ _ _) _ ?_ | exact Keep.all rfl | refine New.mk (fun _ => ?_) | refine Look.at0 ?_ | refine Cell.row ?_ | refine Put.row rfl ?_ | refine Look.at1 ?_ | with_reducible refine Val.i64 (by omega) (by omega) ?_ | with_reducible refine Val.u64 (by omega) (by omega) ?_ | refine Branch.not ?_ | refine Branch.dt rfl ?_ | refine Branch.t rfl ?_ | refine Branch.f rfl ?_ | refine Need.mk (by first | omega | decide | rfl) ?_))
end
end Go.Proofs.YtfmggepbcpceiaaGreatDoor


/- Layer 4, plain: a calm round of a bus, whoever sends. -/
set_option linter.unusedVariables false
set_option linter.unusedSimpArgs false
set_option maxRecDepth 100000
set_option maxHeartbeats 4000000
namespace Go.Proofs.YtfmggepbcpceiaaGreatDoor
open Sx
/-- All have power, and nothing went wrong yet. -/
def AllC (ns : List Nd) : Prop := ∀ x ∈ ns, x.on = true ∧ x.u = u0
theorem AllC.up {ns : List Nd} (h : AllC ns) {x : Nd} (hx : x ∈ ns) : x.up = true := by
  obtain ⟨h1, h2⟩ := h x hx
  unfold Nd.up
  rw [h1, h2]; rfl
theorem cand_of {i : Nat} {s : Sn} : ∀ {l : List Sn} {k : Nat}, l[i]? = some s → s.up = true → s.sends = true → (k + i, s.f) ∈ cand k l
  | [], k, h, _, _ => by simp at h
  | x :: l, k, h, h1, h2 => by
    rw [cand]
    cases i with
    | zero =>
      rw [List.getElem?_cons_zero] at h
      injection h with h
      subst h
      rw [h1, h2, Bool.and_self, if_pos rfl]
      exact .head _
    | succ i =>
      rw [List.getElem?_cons_succ] at h
      have := cand_of (k := k + 1) h h1 h2
      rw [show k + 1 + i = k + (i + 1) by omega] at this
      split
      · exact .tail _ this
      · exact this
/-- Whoever has a frame: one of its field is sent. -/
theorem cand_box {ns : List Nd} (hc : AllC ns) : ∀ (j : Nat) (y : Nd) (g : Fm), ns[j]? = some y → y.box = some g → ∃ i h, (i, h) ∈ cand 0 (sndN [] ns) ∧ fld h = fld g := by
  intro j
  induction j using Nat.strongRecOn with
  | _ j ih =>
    intro y g hy hg
    have hs := sndN_at ns [] j y hy
    rw [List.nil_append] at hs
    have hup := hc.up (List.mem_of_getElem? hy)
    cases ha : (ns.take j).any fun y => fldO y g with
    | false =>
      have hf : snd1 (ns.take j) y = ⟨y.up, y.up && !((ns.take j).any fun y => fldO y g), g⟩ := by unfold snd1; rw [hg]
      rw [hf, hup, ha] at hs
      have := cand_of (k := 0) hs rfl rfl
      exact ⟨_, _, this, rfl⟩
    | true =>
      obtain ⟨z, hz, h1⟩ := List.any_eq_true.1 ha
      obtain ⟨i, hi⟩ := List.getElem?_of_mem hz
      have hil := (List.getElem?_eq_some_iff.1 hi).1
      rw [List.length_take] at hil
      rw [List.getElem?_take, if_pos (by omega)] at hi
      unfold fldO at h1
      cases hb : z.box with
      | none => rw [hb] at h1; cases h1
      | some g' =>
        rw [hb] at h1
        simp only [Bool.and_eq_true, decide_eq_true_eq] at h1
        obtain ⟨i', h', k1, k2⟩ := ih i (by omega) z g' hi hb
        exact ⟨i', h', k1, k2.trans h1.2⟩
theorem cand_nodup : ∀ (xs pre : List Nd) (k : Nat), ((cand k (sndN pre xs)).map fun x => fld x.2).Nodup ∧ ∀ b ∈ (cand k (sndN pre xs)).map (fun x => fld x.2), ∀ y ∈ pre, ∀ g, y.up = true → y.box = some g → fld g ≠ b
  | [], pre, k => ⟨List.nodup_nil, fun b hb => nomatch hb⟩
  | x :: xs, pre, k => by
    obtain ⟨h1, h2⟩ := cand_nodup xs (pre ++ [x]) (k + 1)
    have h2' : ∀ b ∈ (cand (k + 1) (sndN (pre ++ [x]) xs)).map (fun x => fld x.2), ∀ y ∈ pre, ∀ g, y.up = true → y.box = some g → fld g ≠ b := fun b hb y hy => h2 b hb y (List.mem_append_left _ hy)
    rw [sndN, cand]
    split
    · rename_i hs
      rw [Bool.and_eq_true] at hs
      unfold snd1 at hs ⊢
      cases hb : x.box with
      | none => rw [hb] at hs; exact nomatch hs.2
      | some f =>
        rw [hb] at hs
        dsimp only at hs ⊢
        obtain ⟨hu, hs⟩ := hs
        rw [hu, Bool.true_and, Bool.not_eq_true'] at hs
        rw [List.map_cons]
        refine ⟨List.nodup_cons.2 ⟨fun hm => h2 _ hm x (List.mem_append_right _ (.head _)) f hu hb rfl, h1⟩, fun b hb2 y hy g k1 k2 => ?_⟩
        rcases List.mem_cons.1 hb2 with rfl | hb2
        · intro e
          have := List.any_eq_false.1 hs y hy
          unfold fldO at this
          rw [k2, k1] at this
          simp [e] at this
        · exact h2' b hb2 y hy g k1 k2
    · exact ⟨h1, h2'⟩
/-- What a node is behind a calm round that w won with f. -/
def calmN (w : Nat) (f : Fm) (i : Nat) (x : Nd) : Nd := if i = w then ⟨true, u0, none, x.inn⟩ else ⟨true, u0, x.box, if x.inn.length < 64 then x.inn ++ [f] else x.inn⟩
theorem upN_all {l : List Sn} (h : ∀ s ∈ l, s.up = true) : upN l = l.length := by
  unfold upN
  rw [List.countP_eq_length]; exact h
theorem snd_up {ns : List Nd} (hc : AllC ns) : ∀ s ∈ sndN [] ns, s.up = true := by
  intro s hs
  obtain ⟨i, hi⟩ := List.getElem?_of_mem hs
  have hl := (List.getElem?_eq_some_iff.1 hi).1
  rw [sndN_len] at hl
  obtain ⟨x, hx, _⟩ := list_at hl
  rw [sndN_at _ _ _ _ hx] at hi
  injection hi with hi
  subst hi
  have := hc.up (List.mem_of_getElem? hx)
  unfold snd1
  split <;> exact this
theorem calm_step {s : Bs} (hc : AllC s.ns) (hw : BsW s) (h2 : 2 ≤ s.ns.length) {j : Nat} {y : Nd} {g : Fm} (hy : s.ns[j]? = some y) (hg : y.box = some g) :
    ∃ (w : Nat) (x : Nd) (f : Fm), s.ns[w]? = some x ∧ x.box = some f ∧ okF f = true ∧ (s.rd []).e = 0 ∧ (s.rd []).o.win = (w : Int) ∧ (s.rd []).o.sent = true ∧ (s.step []).ns = s.ns.mapIdx (calmN w f) ∧
      ∀ (j : Nat) (y : Nd) (g : Fm), s.ns[j]? = some y → y.box = some g → tlt (fld g) (fld f) = false := by
  have hlen : s.snd.length = s.ns.length := sndN_len _ _
  have hup : ∀ sn ∈ s.snd, sn.up = true := snd_up hc
  have hn2 := hw.n2
  have hch : chkX s.snd.length [] = 0 := by unfold chkX; rw [if_neg (by rw [hlen]; simp; omega)]; rfl
  obtain ⟨i0, f0, hm0, _⟩ := cand_box hc j y g hy hg
  have hne : cand 0 s.snd ≠ [] := by intro e; rw [show sndN [] s.ns = s.snd from rfl, e] at hm0; cases hm0
  have hnd := (cand_nodup s.ns [] 0).1
  have hnd : (((cand 0 s.snd).map (·.2)).map fld).Nodup := by rw [List.map_map]; exact hnd
  have hall : ((cand 0 s.snd).map (·.2)).all okF = true := by
    rw [List.all_eq_true]
    intro f hf
    obtain ⟨⟨i, f'⟩, hf1, rfl⟩ := List.mem_map.1 hf
    obtain ⟨_, sn, k1, _, _, rfl⟩ := cand_mem hf1
    exact sndN_ok _ _ hw.w sn (List.mem_of_getElem? k1)
  have hfv : (firstV ((cand 0 s.snd).map (·.2))).2 = 0 := by
    unfold firstV
    rw [if_neg (by simpa using hne), if_neg (by rw [hall]; decide), if_pos hnd]
  have he : (s.rd []).e = 0 := by
    unfold Bs.rd roundV
    rw [if_pos hch]
    unfold winV
    dsimp only
    rw [if_neg hne, if_pos hfv]
  rcases (round_cases (l := s.snd) (fl := []) he).2 with ⟨hC, _⟩ | ⟨k, w, f, sn, k1, k2, k3, k4, k5, k6, k7⟩
  · exact absurd hC hne
  · have hr : s.rd [] = ⟨0, -1, ⟨w, (encN f : Int) + 3, true, List.replicate s.snd.length 0, gotE s.snd w⟩⟩ := by
      show roundV s.snd [] = _
      rw [k7]
      show Rd.mk 0 (-1) (comesV s.snd (encN f) w ⟨false, 0, 0, false⟩) = _
      unfold comesV
      rw [if_neg (show ¬ false = true by decide), upN_all hup, hlen, if_neg (by omega), if_neg (show ¬ false = true by decide)]
    have hwl : w < s.ns.length := by rw [← hlen]; exact (List.getElem?_eq_some_iff.1 k3).1
    obtain ⟨x, hx, _⟩ := list_at hwl
    have hsx := sndN_at s.ns [] w x hx
    rw [List.nil_append] at hsx
    have hsx : s.snd[w]? = some (snd1 (s.ns.take w) x) := hsx
    rw [k3] at hsx
    injection hsx with hsx
    have hbx : x.box = some f := by
      unfold snd1 at hsx
      cases hb : x.box with
      | none => rw [hb] at hsx; rw [hsx] at k5; cases k5
      | some f' => rw [hb] at hsx; rw [← k6, hsx]
    refine ⟨w, x, f, hx, hbx, ?_, he, by rw [hr], by rw [hr], ?_, fun j y g hy hg => ?_⟩
    · exact (hw.w x (List.mem_of_getElem? hx)).ok f hbx |>.1
    · unfold Bs.step
      rw [if_pos he, hr]
      unfold stlN
      dsimp only
      apply List.ext_getElem?
      intro i
      rw [List.getElem?_mapIdx, List.getElem?_mapIdx]
      by_cases hi : i < s.ns.length
      · obtain ⟨z, hz, _⟩ := list_at hi
        rw [hz, Option.map_some, Option.map_some]
        congr 1
        obtain ⟨h3, h4⟩ := hc z (List.mem_of_getElem? hz)
        have hzu := hc.up (List.mem_of_getElem? hz)
        have hbx2 : boxAt s.ns (w : Int) = f := by
          unfold boxAt
          rw [if_neg (by omega), Int.toNat_natCast, List.getD_eq_getElem?_getD, hx]
          show x.box.getD z0 = f
          rw [hbx]; rfl
        have hsn : s.snd[i]? = some (snd1 (s.ns.take i) z) := by
          have := sndN_at s.ns [] i z hz
          rwa [List.nil_append] at this
        have hgot : (gotE s.snd w).getD i false = !decide (i = w) := by
          unfold gotE
          rw [List.getD_eq_getElem?_getD, List.getElem?_mapIdx, hsn]
          show ((snd1 (s.ns.take i) z).up && !decide (i = w)) = _
          rw [hup _ (List.mem_of_getElem? hsn)]; rfl
        obtain ⟨on, u, box, inn⟩ := z
        dsimp only at h3 h4
        subst h3 h4
        unfold stl calmN
        dsimp only
        rw [hzu, hgot, hbx2]
        have hw0 : ¬ ((w : Int) < 0) := by omega
        by_cases hiw : i = w
        · subst hiw
          simp [u0, Un.idl, Un.sent, hw0]
        · have : ¬ ((i : Int) = (w : Int)) := by omega
          simp only [this, hiw, if_false, decide_false, Bool.not_false, if_true]
          simp [u0, Un.idl, Un.recv, hw0]
      · rw [List.getElem?_eq_none (by omega)]; rfl
    · obtain ⟨i, h, m1, m2⟩ := cand_box hc j y g hy hg
      obtain ⟨q, hq⟩ := List.getElem?_of_mem m1
      have hq : (cand 0 s.snd)[q]? = some (i, h) := hq
      have hql := (List.getElem?_eq_some_iff.1 hq).1
      obtain ⟨_, _, _, k8, k9⟩ := firstV_ok hfv
      rw [k1] at k8
      injection k8 with k8 _
      have := bstN_min (((cand 0 s.snd).map (·.2)).map fld) ((cand 0 s.snd).map (·.2)).length (by simp) q (by simpa using hql)
      rw [← k8, getD_map (f := h) (by rw [List.getElem?_map, hq]; rfl), getD_map (f := f) (by rw [List.getElem?_map, k2]; rfl), m2] at this
      exact this
theorem calm_none {s : Bs} (hw : BsW s) (hn : ∀ x ∈ s.ns, x.box = none) : (s.rd []).o.win = -1 ∧ (s.rd []).e = 0 := by
  have hlen : s.snd.length = s.ns.length := sndN_len _ _
  have hn2 := hw.n2
  have hch : chkX s.snd.length [] = 0 := by unfold chkX; rw [if_neg (by rw [hlen]; simp; omega)]; rfl
  have hC : cand 0 s.snd = [] := by
    refine cand_no _ _ fun sn hs => ?_
    obtain ⟨i, hi⟩ := List.getElem?_of_mem hs
    have hl := (List.getElem?_eq_some_iff.1 hi).1
    rw [hlen] at hl
    obtain ⟨x, hx, _⟩ := list_at hl
    have h2 := sndN_at s.ns [] i x hx
    have h3 : (sndN [] s.ns)[i]? = some sn := hi
    rw [h3] at h2
    injection h2 with h2
    subst h2
    unfold snd1
    rw [hn x (List.mem_of_getElem? hx)]
  have : s.rd [] = ⟨0, -1, noneV s.snd.length⟩ := by
    unfold Bs.rd roundV
    rw [if_pos hch]
    unfold winV
    dsimp only
    rw [if_pos hC]
  rw [this]
  exact ⟨rfl, rfl⟩
end Go.Proofs.YtfmggepbcpceiaaGreatDoor


/- Layer 4: a calm bus sends all that waits: the law, by walks. -/
set_option linter.unusedVariables false
set_option linter.unusedSimpArgs false
set_option maxRecDepth 100000
set_option maxHeartbeats 4000000
namespace Go.Proofs.YtfmggepbcpceiaaGreatDoor
open Sx
/-- How many wait. -/
def bxs (s : Bs) : List (Option Fm) := s.ns.map (·.box)
def nbx (s : Bs) : Nat := (bxs s).countP Option.isSome
theorem cnt_set {l : List (Option Fm)} {i : Nat} {o o' : Option Fm} (h : l[i]? = some o) : (l.set i o').countP Option.isSome + (if o.isSome then 1 else 0) = l.countP Option.isSome + if o'.isSome then 1 else 0 := by
  have e := list_set (x' := o') h
  have e2 := list_split h
  rw [e]
  conv => rhs; rw [e2]
  rw [List.countP_append, List.countP_append, List.countP_cons, List.countP_cons]
  omega
structure En (n : Nat) (s : Bs) : Prop where
  c : AllC s.ns
  w : BsW s
  l : s.ns.length = n + 1
  t : s.ns[n]? = some pN
def Box (s : Bs) (g : Fm) : Prop := some g ∈ bxs s
theorem Box.at {s : Bs} {g : Fm} (h : Box s g) : ∃ (j : Nat) (y : Nd), s.ns[j]? = some y ∧ y.box = some g := by
  obtain ⟨y, hy, hb⟩ := List.mem_map.1 h
  obtain ⟨j, hj⟩ := List.getElem?_of_mem hy
  exact ⟨j, y, hj, hb⟩
theorem en_step {n : Nat} {s : Bs} (h : En n s) (hn : 1 ≤ n) (h0 : 0 < nbx s) :
    ∃ f, okF f = true ∧ Box s f ∧ (s.rd []).e = 0 ∧ (s.rd []).o.sent = true ∧ ((s.step []).at (n : Int)).inn = [f] ∧ (s.step []).is (n : Int) ∧ (∀ g, Box s g → tlt (fld g) (fld f) = false) ∧
      En n ((s.step []).fetch (n : Int)).1 ∧ nbx ((s.step []).fetch (n : Int)).1 + 1 = nbx s ∧ ∀ g, Box ((s.step []).fetch (n : Int)).1 g → Box s g := by
  obtain ⟨o, ho, ho2⟩ := List.countP_pos_iff.1 h0
  obtain ⟨g0, rfl⟩ := Option.isSome_iff_exists.1 ho2
  obtain ⟨j, y, hy, hg⟩ := Box.at ho
  obtain ⟨w, x, f, hx, hbx, hok, he, hwin, hsent, hns, hmin⟩ := calm_step h.c h.w (by rw [h.l]; omega) hy hg
  have hwn : n ≠ w := by
    rintro rfl
    have := h.t
    rw [hx] at this
    injection this with this
    rw [this] at hbx; cases hbx
  have hlen : (s.step []).ns.length = n + 1 := by rw [hns, List.length_mapIdx, h.l]
  have hi : (s.step []).is (n : Int) := by unfold Bs.is; rw [hlen]; omega
  have hat : (s.step []).ns[n]? = some ⟨true, u0, none, [f]⟩ := by
    rw [hns, List.getElem?_mapIdx, h.t]
    show some (calmN w f n pN) = _
    unfold calmN
    rw [if_neg hwn]; rfl
  have hat' := Bs.at_of hi
  rw [Int.toNat_natCast, hat] at hat'
  injection hat' with hat'
  have hft : ((s.step []).fetch (n : Int)).1 = ⟨(s.step []).time, (s.step []).ns.set n pN⟩ := by
    unfold Bs.fetch
    rw [if_pos hi, ← hat']
    unfold Bs.put
    rw [Int.toNat_natCast]; rfl
  have hbx2 : bxs ((s.step []).fetch (n : Int)).1 = (bxs s).set w none := by
    rw [hft]
    unfold bxs
    dsimp only
    apply List.ext_getElem?
    intro i
    by_cases hin : i = n
    · subst hin
      rw [List.getElem?_map, List.getElem?_set_self (by omega), List.getElem?_set_ne (Ne.symm hwn), List.getElem?_map, h.t]
    · rw [List.getElem?_map, List.getElem?_set_ne (Ne.symm hin), hns, List.getElem?_mapIdx]
      by_cases hiw : i = w
      · subst hiw
        rw [hx, List.getElem?_set_self (by rw [List.length_map]; exact (List.getElem?_eq_some_iff.1 hx).1)]
        show some (calmN i f i x).box = _
        unfold calmN
        rw [if_pos rfl]
      · rw [List.getElem?_set_ne (Ne.symm hiw), List.getElem?_map, Option.map_map]
        congr 1
        funext z
        show (calmN w f i z).box = z.box
        unfold calmN
        rw [if_neg hiw]
  refine ⟨f, hok, List.mem_map.2 ⟨x, List.mem_of_getElem? hx, hbx⟩, he, hsent, by rw [← hat'], hi, fun g hg => ?_, ?_, ?_, fun g hg => ?_⟩
  · obtain ⟨j, y, k1, k2⟩ := hg.at
    exact hmin j y g k1 k2
  · refine ⟨?_, h.w.step.fetch, by rw [hft]; simpa using hlen, by rw [hft]; exact List.getElem?_set_self (by omega)⟩
    rw [hft]
    intro z hz
    rcases List.mem_or_eq_of_mem_set hz with hz | rfl
    · rw [hns] at hz
      obtain ⟨i, hi2⟩ := List.getElem?_of_mem hz
      rw [List.getElem?_mapIdx] at hi2
      obtain ⟨y, _, rfl⟩ := Option.map_eq_some_iff.1 hi2
      unfold calmN
      split <;> exact ⟨rfl, rfl⟩
    · exact ⟨rfl, rfl⟩
  · unfold nbx
    rw [hbx2]
    have := cnt_set (l := bxs s) (i := w) (o := some f) (o' := none) (by unfold bxs; rw [List.getElem?_map, hx]; show some x.box = _; rw [hbx])
    simpa using this
  · unfold Box at hg ⊢
    rw [hbx2] at hg
    rcases List.mem_or_eq_of_mem_set hg with hg | hg
    · exact hg
    · cases hg
theorem en_none {n : Nat} {s : Bs} (h : En n s) (h0 : nbx s = 0) : (s.rd []).o.win = -1 ∧ (s.rd []).e = 0 := by
  refine calm_none h.w fun x hx => ?_
  have := List.countP_eq_zero.1 h0 x.box (List.mem_map.2 ⟨x, hx, rfl⟩)
  cases hb : x.box with
  | none => rfl
  | some f => rw [hb] at this; exact absurd rfl this
/-- Frames are being handed in. -/
structure Su (n k : Nat) (s : Bs) : Prop where
  c : AllC s.ns
  w : BsW s
  l : s.ns.length = n + 1
  t : ∀ j, k ≤ j → j ≤ n → s.ns[j]? = some pN
theorem Su.end {n : Nat} {s : Bs} (h : Su n n s) : En n s := ⟨h.c, h.w, h.l, h.t n (Nat.le_refl _) (Nat.le_refl _)⟩
theorem Su.init {n : Nat} (hn : n ≤ 100) : Su n 0 ⟨0, List.replicate (n + 1) pN⟩ ∧ nbx ⟨0, List.replicate (n + 1) pN⟩ = 0 := by
  refine ⟨⟨fun x hx => ?_, ⟨by simp, by simp; omega, fun x hx => ?_, by simp⟩, by simp, fun j _ hj => ?_⟩, ?_⟩
  · rw [List.eq_of_mem_replicate hx]; exact ⟨rfl, rfl⟩
  · rw [List.eq_of_mem_replicate hx]; exact .new
  · show (List.replicate (n + 1) pN)[j]? = _
    rw [List.getElem?_replicate, if_pos (by omega)]
  · unfold nbx bxs
    simp [pN]
theorem Su.sub {n k : Nat} {s : Bs} {f : Fm} (h : Su n k s) (hk : k < n) : Su n (k + 1) (s.submit (k : Int) f).1 ∧ (s.submit (k : Int) f).2 = erF f ∧ nbx (s.submit (k : Int) f).1 = nbx s + if okF f then 1 else 0 := by
  have hi : s.is (k : Int) := by unfold Bs.is; rw [h.l]; omega
  have hx := h.t k (Nat.le_refl _) (by omega)
  have hat := Bs.at_of hi
  rw [Int.toNat_natCast, hx] at hat
  injection hat with hat
  have hw := h.w.submit (i := (k : Int)) (f := f) (pl_pl f)
  unfold Bs.submit erF at *
  rw [if_pos hi] at hw ⊢
  rw [← hat] at hw ⊢
  cases hok : okF f with
  | true =>
    rw [hok, if_pos rfl, if_pos (show pN.up = true from rfl), if_neg (show ¬ pN.box.isSome = true by decide)] at hw
    rw [if_pos rfl, if_pos (show pN.up = true from rfl), if_neg (show ¬ pN.box.isSome = true by decide), if_pos rfl, if_pos rfl]
    unfold Bs.put at hw ⊢
    dsimp only at hw ⊢
    rw [Int.toNat_natCast] at hw ⊢
    refine ⟨⟨fun y hy => ?_, hw, by simpa using h.l, fun j hj hjn => ?_⟩, rfl, ?_⟩
    · rcases List.mem_or_eq_of_mem_set hy with hy | rfl
      · exact h.c y hy
      · exact ⟨rfl, rfl⟩
    · show (s.ns.set k _)[j]? = _
      rw [List.getElem?_set_ne (by omega)]
      exact h.t j (by omega) hjn
    · unfold nbx bxs
      dsimp only
      rw [List.map_set]
      have := cnt_set (l := s.ns.map (·.box)) (i := k) (o := none) (o' := some (plF f)) (by rw [List.getElem?_map, hx]; rfl)
      simpa using this
  | false =>
    rw [if_neg (show ¬ false = true by decide), if_neg (show ¬ false = true by decide), if_neg (show ¬ false = true by decide)]
    exact ⟨⟨h.c, h.w, h.l, fun j hj hjn => h.t j (by omega) hjn⟩, rfl, rfl⟩
end Go.Proofs.YtfmggepbcpceiaaGreatDoor


/- Layer 4: a calm bus sends all that waits: the law, by walks. -/
set_option linter.unusedVariables false
set_option linter.unusedSimpArgs false
set_option maxRecDepth 100000
set_option maxHeartbeats 4000000
namespace Go.Proofs.YtfmggepbcpceiaaGreatDoor
open Sx
inductive S3a (A0 A3 A5 A6 : Value) : List Value → Prop
  | mk {r1 r2 r4 r7 r8 r9 r10 r11 r12 r13 r14 r15 r16 r17 r18 r19 r20 r21 r22 r23 r24 r25 r26 r27 r28 r29 r30 r31 r32 r33 r34 r35 r36 r37 r38 r39 r40 r41 r42 r43 r44 r45 r46 r47 r48 r49 r50 r51 r52 r53 r54 r55 r56 r57 r58 r59 r60 r61 r62 r63 r64 r65 r66 r67 r68 r69 r70 r71 r72 r73 r74 r75 r76 r77 r78 r79 r80 r81 r82 r83 r84 r85 r86 r87 r88 r89 r90 r91 r92 r93 r94 r95 r96 r97 r98 r99 r100 r101 r102 r103 r104 r105 r106 r107 r108 r109 r110 r111 r112 r113 r114 r115 r116 r117 r118 r119 r120 r121 r122 r123 r124 r125 r126 r127 r128 r129 r130 r131 r132 r133 r134 r135 r136 r137 r138 r139 r140 r141 r142 r143 r144 r145 r146 r147 : Value} : S3a A0 A3 A5 A6 [A0, r1, r2, A3, r4, A5, A6, r7, r8, r9, r10, r11, r12, r13, r14, r15, r16, r17, r18, r19, r20, r21, r22, r23, r24, r25, r26, r27, r28, r29, r30, r31, r32, r33, r34, r35, r36, r37, r38, r39, r40, r41, r42, r43, r44, r45, r46, r47, r48, r49, r50, r51, r52, r53, r54, r55, r56, r57, r58, r59, r60, r61, r62, r63, r64, r65, r66, r67, r68, r69, r70, r71, r72, r73, r74, r75, r76, r77, r78, r79, r80, r81, r82, r83, r84, r85, r86, r87, r88, r89, r90, r91, r92, r93, r94, r95, r96, r97, r98, r99, r100, r101, r102, r103, r104, r105, r106, r107, r108, r109, r110, r111, r112, r113, r114, r115, r116, r117, r118, r119, r120, r121, r122, r123, r124, r125, r126, r127, r128, r129, r130, r131, r132, r133, r134, r135, r136, r137, r138, r139, r140, r141, r142, r143, r144, r145, r146, r147]
inductive S3b (A0 A3 A5 A7 : Value) : List Value → Prop
  | mk {r1 r2 r4 r6 r8 r9 r10 r11 r12 r13 r14 r15 r16 r17 r18 r19 r20 r21 r22 r23 r24 r25 r26 r27 r28 r29 r30 r31 r32 r33 r34 r35 r36 r37 r38 r39 r40 r41 r42 r43 r44 r45 r46 r47 r48 r49 r50 r51 r52 r53 r54 r55 r56 r57 r58 r59 r60 r61 r62 r63 r64 r65 r66 r67 r68 r69 r70 r71 r72 r73 r74 r75 r76 r77 r78 r79 r80 r81 r82 r83 r84 r85 r86 r87 r88 r89 r90 r91 r92 r93 r94 r95 r96 r97 r98 r99 r100 r101 r102 r103 r104 r105 r106 r107 r108 r109 r110 r111 r112 r113 r114 r115 r116 r117 r118 r119 r120 r121 r122 r123 r124 r125 r126 r127 r128 r129 r130 r131 r132 r133 r134 r135 r136 r137 r138 r139 r140 r141 r142 r143 r144 r145 r146 r147 : Value} : S3b A0 A3 A5 A7 [A0, r1, r2, A3, r4, A5, r6, A7, r8, r9, r10, r11, r12, r13, r14, r15, r16, r17, r18, r19, r20, r21, r22, r23, r24, r25, r26, r27, r28, r29, r30, r31, r32, r33, r34, r35, r36, r37, r38, r39, r40, r41, r42, r43, r44, r45, r46, r47, r48, r49, r50, r51, r52, r53, r54, r55, r56, r57, r58, r59, r60, r61, r62, r63, r64, r65, r66, r67, r68, r69, r70, r71, r72, r73, r74, r75, r76, r77, r78, r79, r80, r81, r82, r83, r84, r85, r86, r87, r88, r89, r90, r91, r92, r93, r94, r95, r96, r97, r98, r99, r100, r101, r102, r103, r104, r105, r106, r107, r108, r109, r110, r111, r112, r113, r114, r115, r116, r117, r118, r119, r120, r121, r122, r123, r124, r125, r126, r127, r128, r129, r130, r131, r132, r133, r134, r135, r136, r137, r138, r139, r140, r141, r142, r143, r144, r145, r146, r147]
inductive S3c (A0 A3 A5 A8 A9 : Value) : List Value → Prop
  | mk {r1 r2 r4 r6 r7 r10 r11 r12 r13 r14 r15 r16 r17 r18 r19 r20 r21 r22 r23 r24 r25 r26 r27 r28 r29 r30 r31 r32 r33 r34 r35 r36 r37 r38 r39 r40 r41 r42 r43 r44 r45 r46 r47 r48 r49 r50 r51 r52 r53 r54 r55 r56 r57 r58 r59 r60 r61 r62 r63 r64 r65 r66 r67 r68 r69 r70 r71 r72 r73 r74 r75 r76 r77 r78 r79 r80 r81 r82 r83 r84 r85 r86 r87 r88 r89 r90 r91 r92 r93 r94 r95 r96 r97 r98 r99 r100 r101 r102 r103 r104 r105 r106 r107 r108 r109 r110 r111 r112 r113 r114 r115 r116 r117 r118 r119 r120 r121 r122 r123 r124 r125 r126 r127 r128 r129 r130 r131 r132 r133 r134 r135 r136 r137 r138 r139 r140 r141 r142 r143 r144 r145 r146 r147 : Value} : S3c A0 A3 A5 A8 A9 [A0, r1, r2, A3, r4, A5, r6, r7, A8, A9, r10, r11, r12, r13, r14, r15, r16, r17, r18, r19, r20, r21, r22, r23, r24, r25, r26, r27, r28, r29, r30, r31, r32, r33, r34, r35, r36, r37, r38, r39, r40, r41, r42, r43, r44, r45, r46, r47, r48, r49, r50, r51, r52, r53, r54, r55, r56, r57, r58, r59, r60, r61, r62, r63, r64, r65, r66, r67, r68, r69, r70, r71, r72, r73, r74, r75, r76, r77, r78, r79, r80, r81, r82, r83, r84, r85, r86, r87, r88, r89, r90, r91, r92, r93, r94, r95, r96, r97, r98, r99, r100, r101, r102, r103, r104, r105, r106, r107, r108, r109, r110, r111, r112, r113, r114, r115, r116, r117, r118, r119, r120, r121, r122, r123, r124, r125, r126, r127, r128, r129, r130, r131, r132, r133, r134, r135, r136, r137, r138, r139, r140, r141, r142, r143, r144, r145, r146, r147]
inductive S3d (A8 A16 : Value) : List Value → Prop
  | mk {r0 r1 r2 r3 r4 r5 r6 r7 r9 r10 r11 r12 r13 r14 r15 r17 r18 r19 r20 r21 r22 r23 r24 r25 r26 r27 r28 r29 r30 r31 r32 r33 r34 r35 r36 r37 r38 r39 r40 r41 r42 r43 r44 r45 r46 r47 r48 r49 r50 r51 r52 r53 r54 r55 r56 r57 r58 r59 r60 r61 r62 r63 r64 r65 r66 r67 r68 r69 r70 r71 r72 r73 r74 r75 r76 r77 r78 r79 r80 r81 r82 r83 r84 r85 r86 r87 r88 r89 r90 r91 r92 r93 r94 r95 r96 r97 r98 r99 r100 r101 r102 r103 r104 r105 r106 r107 r108 r109 r110 r111 r112 r113 r114 r115 r116 r117 r118 r119 r120 r121 r122 r123 r124 r125 r126 r127 r128 r129 r130 r131 r132 r133 r134 r135 r136 r137 r138 r139 r140 r141 r142 r143 r144 r145 r146 r147 : Value} : S3d A8 A16 [r0, r1, r2, r3, r4, r5, r6, r7, A8, r9, r10, r11, r12, r13, r14, r15, A16, r17, r18, r19, r20, r21, r22, r23, r24, r25, r26, r27, r28, r29, r30, r31, r32, r33, r34, r35, r36, r37, r38, r39, r40, r41, r42, r43, r44, r45, r46, r47, r48, r49, r50, r51, r52, r53, r54, r55, r56, r57, r58, r59, r60, r61, r62, r63, r64, r65, r66, r67, r68, r69, r70, r71, r72, r73, r74, r75, r76, r77, r78, r79, r80, r81, r82, r83, r84, r85, r86, r87, r88, r89, r90, r91, r92, r93, r94, r95, r96, r97, r98, r99, r100, r101, r102, r103, r104, r105, r106, r107, r108, r109, r110, r111, r112, r113, r114, r115, r116, r117, r118, r119, r120, r121, r122, r123, r124, r125, r126, r127, r128, r129, r130, r131, r132, r133, r134, r135, r136, r137, r138, r139, r140, r141, r142, r143, r144, r145, r146, r147]
section
variable {P : Program} {o : Oper} {vs : List Value} {H H2 : Heap} {K : Value → Heap → Prop}
theorem RawV.perm (hp : H.Perm H2) (h : RawV P o vs H2 K) : RawV P o vs H K := by
  refine ⟨fun ρ w hm hw => ?_⟩
  rcases h.run ρ w hm (hw.perm hp) with ⟨v, w', H', hr, g1, g2, g3⟩ | ⟨f, args, hr, hc⟩
  · exact .inl ⟨v, w', H', hr, g1, g2.permL hp.symm, g3⟩
  · refine .inr ⟨f, args, hr, hc.mono ?_⟩
    rintro e w' ⟨v, H', rfl, g1, g2, g3⟩
    exact ⟨v, H', rfl, g1, g2.permL hp.symm, g3⟩
end
/-- A slice of frames that grows. -/
abbrev Gr (v : Value) (L : List Fm) : Heap → Prop := fun G => Grow frC 12 32 v L G
section
variable {A : Heap → Prop} {R H : Heap}
theorem Own.zero {q : Nat} {B : Heap → Prop} (h : Own A B R H) : Own A (Gr (.slice (some ⟨q, 0, .none⟩) 0 0) []) R ((q, .buf 32 [] 0) :: H) := by
  obtain ⟨F, G, X, h1, h2, hp, h3⟩ := h
  refine ⟨F, [(q, .buf 32 [] (0 * 12))], G ++ X, h1, .zero, (List.Perm.cons _ hp).trans ?_, fun z hz => List.mem_append_right _ (h3 z hz)⟩
  exact perm_glue' (ls := [[(q, .buf 32 [] 0)], F, G, X]) (p := [0, 1, 2, 3]) (q := [1, 0, 2, 3]) (by decide) (by simp [glue]) (by simp [glue])
theorem app1 {K : Value → Heap → Prop} {v : Value} {L : List Fm} {x : Fm} {q : Nat} {o : Oper} {xs xx : Operand} (h : Own A (Gr v L) R H) (hL : L.length ≤ 1000) (ho : o.op = .call { callee := .builtin .append, args := #[xs, xx], argTypes := #[22, 22] })
    (hK : ∀ a c H', Own A (Gr (.slice a (L.length + 1) c) (L ++ [x])) R H' → K (.slice a (L.length + 1) c) H') : RawV Tryz.prog o [v, .slice (some ⟨q, 0, none⟩) 1 1] ((q, .row 32 (frC x) (0, 0)) :: H) K := by
  obtain ⟨F, G, X, h1, h2, hp, h3⟩ := h
  refine RawV.perm (H2 := [(q, .row 32 (frC x) (0, 0))] ++ (G ++ (F ++ X))) (List.Perm.cons _ (hp.trans ?_)) ?_
  · exact perm_glue' (ls := [F, G, X]) (p := [0, 1, 2]) (q := [1, 0, 2]) (by decide) (by simp [glue]) (by simp [glue])
  · refine RawV.grow1 (A := [(q, .row 32 (frC x) (0, 0))]) (B := F ++ X) (x := x) (bytes := 24) h2 rfl (.head _) ho (by kernel_rfl) (by decide) frC_len (frC_one x) (by simp only [maxLen]; omega) (by omega) (fun a c M' g1 => hK a c _ ⟨F, M', (q, .row 32 (frC x) (0, 0)) :: X, h1, g1, ?_, fun z hz => .tail _ (h3 z hz)⟩)
    exact perm_glue' (ls := [M', [(q, .row 32 (frC x) (0, 0))], F, X]) (p := [0, 1, 2, 3]) (q := [2, 0, 1, 3]) (by decide) (by simp [glue]) (by simp [glue])
end
section
variable {H R : Heap} {la : Option Addr} {lc n p : Nat} {l : List Fm}
theorem l3a {Q : Post} {S0 : List Value} {q : Nat} (hn : n ≤ 100) (hB : Own (BusO p ⟨0, List.replicate (n + 1) n0⟩) NoB R H) (hS : S3a (.slice la n lc) (ptr p) (.slice (some ⟨q, 0, none⟩) 0 0) (zi 0) S0)
    (hQ : ∀ S H', S3a (.slice la n lc) (ptr p) (.slice (some ⟨q, 0, none⟩) 0 0) (zi ((n + 1 : Nat) : Int)) S → Own (BusO p ⟨0, List.replicate (n + 1) pN⟩) (Gr (.slice (some ⟨q, 0, none⟩) 0 0) []) R H' → Q (.exit 0) S H') : SLoop Tryz.prog X3_l3 Q S0 ((q, .row 32 [] (0, 0)) :: H) := by
  refine SLoop.toBuf (A := []) ?_
  rw [← pwN_zero] at hB
  refine SLoop.invA (fun (k : Nat) S H' => k ≤ n + 1 ∧ S3a (.slice la n lc) (ptr p) (.slice (some ⟨q, 0, none⟩) 0 0) (zi (k : Int)) S ∧ Own (BusO p ⟨0, pwN (n + 1) k⟩) (Gr (.slice (some ⟨q, 0, none⟩) 0 0) []) R H') (fun k => n + 1 - k) 0 (Keep.all ⟨Nat.zero_le _, hS, hB.zero⟩) ?_
  clear hS hB
  rintro k S H' ⟨hk, hS, hB⟩ R2 hR
  by_cases hlt : k < n + 1
  · have hh : ∀ K2 : Value → Heap → Prop, (∀ H', Own (BusO p ⟨0, pwN (n + 1) (k + 1)⟩) (Gr (.slice (some ⟨q, 0, none⟩) 0 0) []) R H' → K2 (zi 0) H') → SCalls Tryz.prog 10 [ptr p, zi (k : Int), .bool true] H' K2 := fun K2 hk2 => h10 hB fun H2 h2 => by
      rw [pw_step hlt] at h2 ⊢
      exact hk2 H2 h2
    have hnext : ∀ S H2, S3a (.slice la n lc) (ptr p) (.slice (some ⟨q, 0, none⟩) 0 0) (zi ((k + 1 : Nat) : Int)) S → Own (BusO p ⟨0, pwN (n + 1) (k + 1)⟩) (Gr (.slice (some ⟨q, 0, none⟩) 0 0) []) R H2 → R2 S H2 := fun S H2 g1 g2 => hR (k + 1) S H2 (by omega) (Keep.all ⟨hlt, g1, g2⟩)
    clear hR hQ hB
    cases hS
    repeat' ((conv => whnf); (first | refine Branch.dt (show (k : Int) ≤ (n : Int) by omega) ?_ | with_reducible refine hh _ (fun H2 h2 => ?_) | exact hnext _ _ .mk h2 | with_reducible refine Val.i64 (by omega) (by omega) ?_ | refine Branch.not ?_ | refine Branch.dt rfl ?_))
  · obtain rfl : k = n + 1 := by omega
    rw [pwN_all] at hB
    have hq := fun S h => hQ S _ h hB
    clear hR hQ hB
    cases hS
    repeat' ((conv => whnf); (first | refine Branch.df (show ¬ ((n + 1 : Nat) : Int) ≤ (n : Int) by omega) ?_ | exact hq _ .mk))
theorem l3b {Q : Post} {S0 : List Value} {q : Nat} (hln : l.length = n) (hn : n ≤ 100) (hl : InS frC 12 (.slice la n lc) R l) (hwf : ∀ x ∈ l, x.id < 4294967296) (hB : Own (BusO p ⟨0, List.replicate (n + 1) pN⟩) (Gr (.slice (some ⟨q, 0, none⟩) 0 0) []) R H)
    (hS : S3b (.slice la n lc) (ptr p) (.slice (some ⟨q, 0, none⟩) 0 0) (zi 0) S0)
    (hQ : ∀ S H' s a c L, S3b (.slice la n lc) (ptr p) (.slice a L.length c) (zi (n : Int)) S → Own (BusO p s) (Gr (.slice a L.length c) L) R H' → En n s → nbx s = L.length → L.length ≤ n → Q (.exit 2) S H') : SLoop Tryz.prog X3_l2 Q S0 H := by
  obtain ⟨i1, i2⟩ := Su.init hn
  refine SLoop.invA (fun (k : Nat) S H' => k ≤ n ∧ ∃ s a c L, S3b (.slice la n lc) (ptr p) (.slice a L.length c) (zi (k : Int)) S ∧ Own (BusO p s) (Gr (.slice a L.length c) L) R H' ∧ Su n k s ∧ nbx s = L.length ∧ L.length ≤ k) (fun k => n - k) 0 (Keep.all ⟨Nat.zero_le _, _, _, 0, [], hS, hB, i1, i2, Nat.le_refl _⟩) ?_
  clear hS hB i1 i2
  rintro k S H' ⟨hk, s, a, c, L, hS, hB, hSu, hnb, hLk⟩ R2 hR
  by_cases hlt : k < n
  · obtain ⟨f, hf, _, _⟩ := list_at (show k < l.length by omega)
    have hid := hwf f (List.mem_of_getElem? hf)
    obtain ⟨lr, lo, lc2, lb, e1, hlb, hlcc⟩ := inS_at hl frC_len hf
    rw [hln] at e1
    injection e1 with e1 _ e3
    subst e1 e3
    obtain ⟨j1, j2, j3⟩ := hSu.sub (f := f) hlt
    have hh : ∀ K2 : Value → Heap → Prop, (∀ H', Own (BusO p (s.submit (k : Int) f).1) (Gr (.slice a L.length c) L) R H' → K2 (zi (erF f)) H') → SCalls Tryz.prog 11 [ptr p, zi (k : Int), frV f] H' K2 := fun K2 hk2 => h11 hB hid fun H2 h2 => by
      rw [j2]
      exact hk2 H2 h2
    have h12 : ∀ X (K2 : Value → Heap → Prop), K2 (frV (plF f)) X → SCalls Tryz.prog 12 [frV f] X K2 := fun X K2 hk => c12 hk
    have happ : ∀ q2 H2 (o : Oper) (xs xx : Operand) (K2 : Value → Heap → Prop), Own (BusO p (s.submit (k : Int) f).1) (Gr (.slice a L.length c) L) R H2 → o.op = .call { callee := .builtin .append, args := #[xs, xx], argTypes := #[22, 22] } →
        (∀ a' c' H3, Own (BusO p (s.submit (k : Int) f).1) (Gr (.slice a' (L.length + 1) c') (L ++ [plF f])) R H3 → K2 (.slice a' (L.length + 1) c') H3) → RawV Tryz.prog o [.slice a L.length c, .slice (some ⟨q2, 0, none⟩) 1 1] ((q2, .row 32 (frC (plF f)) (0, 0)) :: H2) K2 := fun q2 H2 o xs xx K2 h ho hk => app1 h (by omega) ho hk
    have hm0 : ∀ H2, Own (BusO p (s.submit (k : Int) f).1) (Gr (.slice a L.length c) L) R H2 → (lr, lb) ∈ H2 := fun H2 h => h.mem _ hlb
    have hm := hB.mem _ hlb
    clear hQ hB
    cases hok : okF f with
    | true =>
      rw [hok, if_pos rfl] at j3
      have hnext : ∀ S H2 a' c', S3b (.slice (some ⟨lr, lo, none⟩) n lc) (ptr p) (.slice a' (L.length + 1) c') (zi ((k + 1 : Nat) : Int)) S → Own (BusO p (s.submit (k : Int) f).1) (Gr (.slice a' (L.length + 1) c') (L ++ [plF f])) R H2 → R2 S H2 := fun S H2 a' c' g1 g2 => by
        have e : (L ++ [plF f]).length = L.length + 1 := by simp
        exact hR (k + 1) S H2 (by omega) (Keep.all ⟨hlt, _, a', c', L ++ [plF f], by rw [e]; exact g1, by rw [e]; exact g2, j1, by rw [e, j3, hnb], by rw [e]; omega⟩)
      unfold erF at hh
      rw [hok, if_pos rfl] at hh
      clear hR j1 j2 j3
      cases hS
      repeat' ((conv => whnf); (first | refine Branch.dt (by omega) ?_ | refine Idx.nat hlt ?_ | refine Look.cells hm rfl hlcc ?_ | refine hh _ (fun H2 h2 => ?_) | refine Look.cells (hm0 _ h2) rfl hlcc ?_ | refine h12 _ _ ?_ | with_reducible refine happ _ _ _ _ _ _ h2 rfl (fun a' c' H3 h3 => ?_) | exact hnext _ _ _ _ .mk h3 | refine New.mk (fun _ => ?_) | with_reducible refine Val.i64 (by omega) (by omega) ?_))
    | false =>
      rw [hok, if_neg (by decide), Nat.add_zero] at j3
      have hnext : ∀ S H2, S3b (.slice (some ⟨lr, lo, none⟩) n lc) (ptr p) (.slice a L.length c) (zi ((k + 1 : Nat) : Int)) S → Own (BusO p (s.submit (k : Int) f).1) (Gr (.slice a L.length c) L) R H2 → R2 S H2 := fun S H2 g1 g2 =>
        hR (k + 1) S H2 (by omega) (Keep.all ⟨hlt, _, a, c, L, g1, g2, j1, by rw [j3, hnb], by omega⟩)
      unfold erF at hh
      rw [hok, if_neg (by decide)] at hh
      clear hR j1 j2 j3
      cases hS
      repeat' ((conv => whnf); (first | refine Branch.dt (by omega) ?_ | refine Idx.nat hlt ?_ | refine Look.cells hm rfl hlcc ?_ | refine hh _ (fun H2 h2 => ?_) | exact hnext _ _ .mk h2 | with_reducible refine Val.i64 (by omega) (by omega) ?_ | refine Branch.df (by omega) ?_))
  · obtain rfl : k = n := by omega
    have hq := fun S h => hQ S _ s a c L h hB hSu.end hnb hLk
    clear hR hQ hB
    cases hS
    repeat' ((conv => whnf); (first | refine Branch.df (by omega) ?_ | exact hq _ .mk))
theorem one_cell {N : Nat} (f : Fm) : ∀ (i : Nat) v, (frC f)[i]? = some v → (Blk.buf 32 ([f].flatMap frC) N).cell (0 + 0 * 12 + i) = some v := fun i v hv => by
  show ([f].flatMap frC)[0 + 0 * 12 + i]? = some v
  rw [List.flatMap_singleton, show 0 + 0 * 12 + i = i by omega]; exact hv
abbrev Srt (gl : List Fm) : Prop := gl.Pairwise fun a b => tlt (fld b) (fld a) = false
theorem l3c {Q : Post} {S0 : List Value} {q m c0 : Nat} {a0 : Option Addr} {s : Bs} {L0 : List Fm} (hn : n ≤ 100) (hmn : m ≤ n) (hD : Db R) (hB : Own (BusO p s) (Gr (.slice a0 m c0) L0) R H) (hE : En n s) (hnb : nbx s = m)
    (hS : S3c (.slice la n lc) (ptr p) (.slice a0 m c0) (.slice (some ⟨q, 0, none⟩) 0 0) (zi 0) S0)
    (hQ : ∀ S H' s a c gl, S3c (.slice la n lc) (ptr p) (.slice a0 m c0) (.slice a gl.length c) (zi (m : Int)) S → Own (BusO p s) (Gr (.slice a gl.length c) gl) R H' → En n s → nbx s = 0 → Srt gl → (∀ e ∈ gl, okF e = true) → gl.length ≤ 100 → Q (.exit 4) S H') :
    SLoop Tryz.prog X3_l1 Q S0 ((q, .row 32 [] (0, 0)) :: H) := by
  refine SLoop.toBuf (A := []) ?_
  refine SLoop.invA (fun (k : Nat) S H' => k ≤ m ∧ ∃ s a c gl, S3c (.slice la n lc) (ptr p) (.slice a0 m c0) (.slice a gl.length c) (zi (k : Int)) S ∧ Own (BusO p s) (Gr (.slice a gl.length c) gl) R H' ∧ gl.length = k ∧ En n s ∧ nbx s + k = m ∧ Srt gl ∧ (∀ e ∈ gl, okF e = true) ∧ (∀ e ∈ gl, ∀ g, Box s g → tlt (fld g) (fld e) = false)) (fun k => m - k) 0
    (Keep.all ⟨Nat.zero_le _, s, _, 0, [], hS, hB.zero, rfl, hE, hnb, .nil, (fun e he => nomatch he), fun e he => nomatch he⟩) ?_
  clear hS hB hE hnb
  rintro k S H' ⟨hk, s, a, c, gl, hS, hB, hgl, hE, hnb, hsr, hok, hbx⟩ R2 hR
  by_cases hlt : k < m
  · obtain ⟨f, j1, j2, j3, j4, j5, j6, j7, j8, j9, j10⟩ := en_step hE (by omega) (by omega)
    have hk13 : ∀ K2 : Value → Heap → Prop, (∀ ea n1 ec ga n2 gc N H2, Own (BusO p (s.step [])) (Gr (.slice a gl.length c) gl) (N ++ R) H2 → K2 (.tuple ⟨[.agg ⟨[zi (s.rd []).o.win, zi (s.rd []).o.bits, .bool true, .slice ea n1 ec, .slice ga n2 gc]⟩, zi 0]⟩) H2) → SCalls Tryz.prog 13 [ptr p, .slice none 0 0] H' K2 := fun K2 hk2 =>
      h13 (fl := []) hB hE.w hD .nil fun ea ec ga gc N H2 h2 _ => by
        rw [j4, j3]
        exact hk2 _ _ _ _ _ _ N H2 h2
    have hk14 : ∀ H2 N (t : Nat × Blk) (K2 : Value → Heap → Prop), Own (BusO p (s.step [])) (Gr (.slice a gl.length c) gl) (N ++ R) H2 → (∀ q c' H3, Own (BusO p ((s.step []).fetch (n : Int)).1) (Gr (.slice a gl.length c) gl) ((q, .buf 32 ([f].flatMap frC) (c' * 12)) :: t :: (N ++ R)) H3 → K2 (.tuple ⟨[.slice (some ⟨q, 0, none⟩) 1 c', zi 0]⟩) H3) →
        SCalls Tryz.prog 14 [ptr p, zi (n : Int)] (t :: H2) K2 := fun H2 N t K2 h hk2 => h14 (h.cons (z := t)) j6 fun H3 iv M h3 hG => by
      rw [j5] at hG
      obtain ⟨a, c, rfl, _⟩ := hG.sv
      obtain ⟨q, rfl, _, _, _, rfl⟩ := hG.inv (by simp)
      exact hk2 q c H3 h3
    have happ : ∀ q2 H2 (R3 : Heap) (o : Oper) (xs xx : Operand) (K2 : Value → Heap → Prop), Own (BusO p ((s.step []).fetch (n : Int)).1) (Gr (.slice a gl.length c) gl) R3 H2 → o.op = .call { callee := .builtin .append, args := #[xs, xx], argTypes := #[22, 22] } →
        (∀ a' c' H3, Own (BusO p ((s.step []).fetch (n : Int)).1) (Gr (.slice a' (gl.length + 1) c') (gl ++ [f])) R3 H3 → K2 (.slice a' (gl.length + 1) c') H3) → RawV Tryz.prog o [.slice a gl.length c, .slice (some ⟨q2, 0, none⟩) 1 1] ((q2, .row 32 (frC f) (0, 0)) :: H2) K2 := fun q2 H2 R3 o xs xx K2 h ho hk => app1 h (by omega) ho hk
    have hcell := fun N => one_cell (N := N) f
    have e : (gl ++ [f]).length = gl.length + 1 := by simp
    have hnext : ∀ S H2 a' c' (x t : Nat × Blk) (N : Heap), S3c (.slice la n lc) (ptr p) (.slice a0 m c0) (.slice a' (gl.length + 1) c') (zi ((k + 1 : Nat) : Int)) S → Own (BusO p ((s.step []).fetch (n : Int)).1) (Gr (.slice a' (gl.length + 1) c') (gl ++ [f])) (x :: t :: (N ++ R)) H2 → R2 S H2 := fun S H2 a' c' x t N g1 g2 => by
      refine hR (k + 1) S H2 (by omega) (Keep.all ⟨hlt, _, a', c', gl ++ [f], by rw [e]; exact g1, by rw [e]; exact g2.less fun z hz => .tail _ (.tail _ (List.mem_append_right _ hz)), by rw [e, hgl], j8, by omega, ?_, fun x hx => ?_, fun x hx g hg => ?_⟩)
      · refine List.pairwise_append.2 ⟨hsr, List.pairwise_singleton _ _, fun x hx y hy => ?_⟩
        obtain rfl := List.mem_singleton.1 hy
        exact hbx x hx y j2
      · rcases List.mem_append.1 hx with hx | hx
        · exact hok x hx
        · obtain rfl := List.mem_singleton.1 hx; exact j1
      · have hg' := j10 g hg
        rcases List.mem_append.1 hx with hx | hx
        · exact hbx x hx g hg'
        · obtain rfl := List.mem_singleton.1 hx; exact j7 g hg'
    generalize s.rd [] = rd at *
    obtain ⟨re, rbt, ⟨win, bits, sent, errs, got⟩⟩ := rd
    dsimp only at hk13
    clear hR hQ hB j1 j2 j3 j4 j5 j6 j7 j8 j9 j10 hbx hsr hE hok
    cases hS
    repeat' ((conv => whnf); (first | refine Branch.dt (by omega) ?_ | with_reducible refine hk13 _ (fun ea n1 ec ga n2 gc N H2 h2 => ?_) | with_reducible refine hk14 _ _ _ _ h2 (fun q1 c' H3 h3 => ?_) | refine Look.cell (h3.mem _ (.tail _ (.head _))) (show (Blk.row 37 [_, _, .bool true, _, _] (0, 0)).cell (0 + 2) = some (.bool true) from rfl) ?_ | refine Idx.of 0 rfl (by decide) ?_ | refine Look.cells (h3.mem _ (.head _)) rfl (hcell _) ?_ | with_reducible refine happ _ _ _ _ _ _ _ h3 rfl (fun a' c' H4 h4 => ?_) | exact hnext _ _ _ _ _ _ _ .mk h4 | refine New.mk (fun _ => ?_) | refine Look.at0 ?_ | refine Put.row rfl ?_ | with_reducible refine Val.i64 (by omega) (by omega) ?_ | refine Branch.not ?_ | refine Branch.t rfl ?_))
  · obtain rfl : k = m := by omega
    have hq := fun S h => hQ S _ s a c gl h hB hE (by omega) hsr hok (by omega)
    clear hR hQ hB
    cases hS
    repeat' ((conv => whnf); (first | refine Branch.df (by omega) ?_ | exact hq _ .mk))
theorem l3d {Q : Post} {S0 : List Value} {a : Option Addr} {c : Nat} {gl : List Fm} (hD : Db H) (hg : InS frC 12 (.slice a gl.length c) H gl) (hs : Srt gl) (hok : ∀ e ∈ gl, okF e = true) (hl : gl.length ≤ 100)
    (hS : S3d (.slice a gl.length c) (zi 1) S0) (hQ : ∀ S k, S3d (.slice a gl.length c) (zi k) S → Q (.exit 6) S H) : SLoop Tryz.prog X3_l0 Q S0 H := by
  refine SLoop.invA (fun (k : Nat) S H' => 1 ≤ k ∧ k ≤ gl.length + 1 ∧ S3d (.slice a gl.length c) (zi (k : Int)) S ∧ H' = H) (fun k => gl.length + 1 - k) 1 (Keep.all ⟨Nat.le_refl _, by omega, hS, rfl⟩) ?_
  clear hS
  rintro k S H' ⟨hk1, hk, hS, rfl⟩ R2 hR
  by_cases hlt : k < gl.length
  · obtain ⟨y, hy, _, _⟩ := list_at hlt
    obtain ⟨x, hx, _, _⟩ := list_at (show k - 1 < gl.length by omega)
    obtain ⟨r, o, c2, b, e1, hb, hcy⟩ := inS_at hg frC_len hy
    obtain ⟨r', o', c2', b', e1', hb', hcx⟩ := inS_at hg frC_len hx
    have hss : tlt (fld y) (fld x) = false := by
      have := List.pairwise_iff_getElem.1 hs (k - 1) k (by omega) hlt (by omega)
      rw [(List.getElem?_eq_some_iff.1 hy).2, (List.getElem?_eq_some_iff.1 hx).2] at this
      exact this
    have hgt := (strGt_of (fld x) (fld y)).trans hss
    have h15 : ∀ f, f ∈ gl → ∀ K2 : Value → Heap → Prop, K2 (.tuple ⟨[.string (strOf (fld f)), zi 0]⟩) H' → SCalls Tryz.prog 15 [frV f] H' K2 := fun f hf K2 hk => c15 (okF_bd (hok f hf)).1 hD (by unfold fV; rw [if_pos (hok f hf)]; exact hk)
    have h15x := h15 x (List.mem_of_getElem? hx)
    have h15y := h15 y (List.mem_of_getElem? hy)
    injection e1 with e1 _ e3
    subst e1 e3
    injection e1' with e1' _ e3'
    injection e1' with e1'
    injection e1' with e1' e4
    subst e1' e3' e4
    have hnext : ∀ S, S3d (.slice (some ⟨r, o, none⟩) gl.length c) (zi ((k + 1 : Nat) : Int)) S → R2 S H' := fun S g1 => hR (k + 1) S H' (by omega) (Keep.all ⟨by omega, by omega, g1, rfl⟩)
    clear hR hQ h15
    cases hS
    repeat' ((conv => whnf); (first | refine Branch.dt (show (k : Int) < (gl.length : Int) by omega) ?_ | refine Idx.of (k - 1) (by omega) (by omega) ?_ | refine Idx.nat hlt ?_ | refine Look.cells hb' rfl hcx ?_ | refine Look.cells hb rfl hcy ?_ | refine h15x _ ?_ | refine h15y _ ?_ | refine Branch.f hgt ?_ | exact hnext _ .mk | with_reducible refine Val.i64 (by omega) (by omega) ?_))
  · have hq := fun S h => hQ S (k : Int) h
    clear hR hQ
    cases hS
    repeat' ((conv => whnf); (first | refine Branch.df (by omega) ?_ | exact hq _ .mk))
end
end Go.Proofs.YtfmggepbcpceiaaGreatDoor


/- Layer 4: a calm bus sends all that waits: the law. -/
set_option linter.unusedVariables false
set_option linter.unusedSimpArgs false
set_option maxRecDepth 100000
set_option maxHeartbeats 4000000
namespace Go.Proofs.YtfmggepbcpceiaaGreatDoor
open Sx
theorem InS.take {α : Type} {f : α → List Value} {k : Nat} {a : Option Addr} {c n : Nat} {H : Heap} {l : List α} (h : InS f k (.slice a l.length c) H l) (hn : n ≤ l.length) : InS f k (.slice a n c) H (l.take n) := by
  obtain ⟨a2, c2, e2, hml, h4⟩ := h
  injection e2 with e2 _ e3
  subst e2 e3
  have hl : (l.take n).length = n := by simp; omega
  refine ⟨a, c, by rw [hl], by omega, ?_⟩
  rcases h4 with rfl | ⟨r, o, b, h5, h6, h7⟩
  · exact .inl (by simp)
  · refine .inr ⟨r, o, b, h5, h6, fun j x i v hj hv hi => h7 j x i v ?_ hv hi⟩
    rw [List.getElem?_take] at hj
    split at hj
    · exact hj
    · cases hj
theorem Own.gr {A : Heap → Prop} {R H : Heap} {v : Value} {L : List Fm} (h : Own A (Gr v L) R H) : InS frC 12 v H L := by
  obtain ⟨F, G, X, h1, h2, hp, h3⟩ := h
  exact Grow.ins h2 frC_len fun z hz => hp.symm.subset (List.mem_append_right _ (List.mem_append_left _ hz))
section
variable {H : Heap}
theorem ends_c {la : Option Addr} {lc : Nat} {l : List Fm} (hD : Db H) (hl : InS frC 12 (.slice la l.length lc) H l) (hcap : l.length ≤ lc) (hwf : ∀ x ∈ l, x.id < 4294967296) : SCalls Tryz.prog 3 [.slice la l.length lc] H fun v _ => v = .bool true := by
  have hk9 : ∀ (n : Nat), n ≤ 100 → ∀ K2 : Value → Heap → Prop, (∀ p H', Own (BusO p ⟨0, List.replicate (n + 1) n0⟩) NoB H H' → K2 (.tuple ⟨[ptr p, zi 0]⟩) H') → SCalls Tryz.prog 9 [zi ((n : Int) + 1)] H K2 := fun n hn K2 hk => by
    have e : ((n : Int) + 1) = ((n + 1 : Nat) : Int) := rfl
    rw [e]
    exact h9 (Own.none fun z hz => hz) (by omega) (by omega) hk
  have hk13 : ∀ n p s v L (H' : Heap), En n s → nbx s = 0 → Own (BusO p s) (Gr v L) H H' → ∀ K2 : Value → Heap → Prop, (∀ ea n1 ec ga n2 gc H2 bits sent, Own (BusO p (s.step [])) (Gr v L) H H2 → K2 (.tuple ⟨[.agg ⟨[zi (-1), zi bits, .bool sent, .slice ea n1 ec, .slice ga n2 gc]⟩, zi 0]⟩) H2) → SCalls Tryz.prog 13 [ptr p, .slice none 0 0] H' K2 := fun n p s v L H' hE h0 hB K2 hk2 =>
    h13 (fl := []) hB hE.w hD .nil fun ea ec ga gc N H2 h2 _ => by
      obtain ⟨e1, e2⟩ := en_none hE h0
      rw [e1, e2]
      exact hk2 _ _ _ _ _ _ H2 _ _ (h2.less fun z hz => List.mem_append_right _ hz)
  have hk16 : ∀ (A B : Heap → Prop) X, Own A B H X → ∀ (t : Nat × Blk) (K2 : Value → Heap → Prop), K2 (.bool true) (t :: X) → SCalls Tryz.prog 16 [] (t :: X) K2 := fun A B X h t K2 hk => h16 h.skip hD hk
  have hDt : ∀ (A B : Heap → Prop) X, Own A B H X → ∀ t : Nat × Blk, Db (t :: X) := fun A B X h t => hD.mono fun z hz => .tail _ (h.mem z hz)
  refine enter3 ?_
  by_cases hlt : 100 < l.length
  · have hl2 := InS.take (n := 100) hl (by omega)
    have hln : (l.take 100).length = 100 := by simp; omega
    have hwf2 : ∀ x ∈ l.take 100, x.id < 4294967296 := fun x hx => hwf x (List.mem_of_mem_take hx)
    generalize l.take 100 = L at *
    clear hl hwf
    repeat' ((conv => whnf); (first | refine Branch.dt (show (100 : Int) < (l.length : Int) by omega) ?_ | refine Idx.of 100 rfl (by omega) ?_ | refine hk9 100 (by decide) _ (fun p H1 h1 => ?_) | (refine l3a (n := 100) (by decide) h1 .mk (fun S H2 hS h2 => ?_); cases hS) | (refine l3b (n := 100) hln (by decide) hl2 hwf2 h2 .mk (fun S H3 s a c L2 hS h3 hE hnb hLn => ?_); cases hS) | (refine l3c (n := 100) (by decide) hLn hD h3 hE hnb .mk (fun S H4 s2 a2 c2 gl hS h4 hE2 hn2 hsr hok hg100 => ?_); cases hS) | refine hk13 _ _ _ _ _ _ hE2 hn2 h4 _ (fun ea n1 ec ga n2 gc H5 bits sent h5 => ?_) | (refine l3d (hDt _ _ _ h5 _) (h5.gr.mono fun z hz => .tail _ hz) hsr hok hg100 .mk (fun S k hS => ?_); cases hS) | refine hk16 _ _ _ h5 _ _ ?_ | exact Keep.all rfl | refine New.mk (fun _ => ?_) | refine Look.at0 ?_ | refine Cell.row ?_ | refine Put.row rfl ?_ | with_reducible refine Val.i64 (by omega) (by omega) ?_ | refine Branch.not ?_ | refine Branch.dt rfl ?_ | refine Branch.df (by omega) ?_ | refine Branch.f rfl ?_))
  · have hn : l.length ≤ 100 := by omega
    repeat' ((conv => whnf); (first | refine Branch.df (show ¬ (100 : Int) < (l.length : Int) by omega) ?_ | refine hk9 _ hn _ (fun p H1 h1 => ?_) | (refine l3a (n := l.length) hn h1 .mk (fun S H2 hS h2 => ?_); cases hS) | (refine l3b (n := l.length) rfl hn hl hwf h2 .mk (fun S H3 s a c L2 hS h3 hE hnb hLn => ?_); cases hS) | (refine l3c (n := l.length) hn hLn hD h3 hE hnb .mk (fun S H4 s2 a2 c2 gl hS h4 hE2 hn2 hsr hok hg100 => ?_); cases hS) | refine hk13 _ _ _ _ _ _ hE2 hn2 h4 _ (fun ea n1 ec ga n2 gc H5 bits sent h5 => ?_) | (refine l3d (hDt _ _ _ h5 _) (h5.gr.mono fun z hz => .tail _ hz) hsr hok hg100 .mk (fun S k hS => ?_); cases hS) | refine hk16 _ _ _ h5 _ _ ?_ | exact Keep.all rfl | refine New.mk (fun _ => ?_) | refine Look.at0 ?_ | refine Cell.row ?_ | refine Put.row rfl ?_ | with_reducible refine Val.i64 (by omega) (by omega) ?_ | refine Branch.not ?_ | refine Branch.dt rfl ?_ | refine Branch.df (by omega) ?_ | refine Branch.f rfl ?_))
end
end Go.Proofs.YtfmggepbcpceiaaGreatDoor


/- Layer 4, plain: a bus with one node more, without power: call by call. -/
set_option linter.unusedVariables false
set_option linter.unusedSimpArgs false
set_option maxRecDepth 100000
set_option maxHeartbeats 4000000
namespace Go.Proofs.YtfmggepbcpceiaaGreatDoor
open Sx
def insB (g : Nat) (a : Bs) : Bs := ⟨a.time, ins g n0 a.ns⟩
section
variable {g : Nat} {a : Bs} {i : Int}
theorem insB_is (hg : g ≤ a.ns.length) (hi : a.is i) : (insB g a).is (toZ g i) := by
  obtain ⟨h1, h2⟩ := hi
  unfold Bs.is insB toZ
  dsimp only
  rw [ins_len hg]
  split <;> omega
theorem toZ_toNat {i : Int} (h : 0 ≤ i) : (toZ g i).toNat = toN g i.toNat := by
  obtain ⟨j, rfl⟩ : ∃ j : Nat, i = (j : Int) := ⟨i.toNat, by omega⟩
  rw [toZ_nat, Int.toNat_natCast, Int.toNat_natCast]
theorem insB_at (hg : g ≤ a.ns.length) (hi : a.is i) : (insB g a).at (toZ g i) = a.at i := by
  unfold Bs.at insB
  dsimp only
  rw [toZ_toNat hi.1, ins_getD hg]
theorem insB_put (hg : g ≤ a.ns.length) (hi : a.is i) (x : Nd) : (insB g a).put (toZ g i) x = insB g (a.put i x) := by
  unfold Bs.put insB
  dsimp only
  rw [toZ_toNat hi.1, ins_set hg]
theorem insB_power (hg : g ≤ a.ns.length) (hi : a.is i) {on : Bool} : (insB g a).power (toZ g i) on = (insB g (a.power i on).1, (a.power i on).2) := by
  unfold Bs.power
  rw [if_pos hi, if_pos (insB_is hg hi), insB_at hg hi, insB_put hg hi]
  split <;> rfl
theorem insB_submit (hg : g ≤ a.ns.length) (hi : a.is i) {f : Fm} : (insB g a).submit (toZ g i) f = (insB g (a.submit i f).1, (a.submit i f).2) := by
  unfold Bs.submit
  rw [if_pos hi, if_pos (insB_is hg hi), insB_at hg hi, insB_put hg hi]
  split
  · split
    · split <;> rfl
    · rfl
  · rfl
theorem insB_wf (h : BsW a) (hg : g ≤ a.ns.length) (hn : a.ns.length + 1 ≤ 127) : BsW (insB g a) := by
  refine ⟨by unfold insB; dsimp only; rw [ins_len hg]; omega, by unfold insB; dsimp only; rw [ins_len hg]; omega, fun x hx => ?_, h.t⟩
  unfold insB ins at hx
  rcases List.mem_append.1 hx with hx | hx
  · exact h.w x (List.mem_of_mem_take hx)
  · rcases List.mem_cons.1 hx with rfl | hx
    · exact .new
    · exact h.w x (List.mem_of_mem_drop hx)
theorem power_len {on : Bool} : (a.power i on).1.ns.length = a.ns.length := by
  unfold Bs.power
  split
  · dsimp only
    split
    · rfl
    · unfold Bs.put; simp
  · rfl
theorem submit_len {f : Fm} : (a.submit i f).1.ns.length = a.ns.length := by
  unfold Bs.submit
  split
  · split
    · split
      · split
        · rfl
        · unfold Bs.put; simp
      · rfl
    · rfl
  · rfl
theorem step_len {fl : List (Int × Int)} : (a.step fl).ns.length = a.ns.length := by
  unfold Bs.step
  split
  · exact stlN_len _ _ _
  · rfl
theorem round_lows {l : List Sn} {fl : List (Int × Int)} (he : (roundV l fl).e = 0) : -1 ≤ (roundV l fl).o.win ∧ -1 ≤ (roundV l fl).bt := by
  obtain ⟨hc, hr⟩ := round_cases he
  obtain ⟨_, hok⟩ := chkX_ok hc
  rcases hr with ⟨_, e⟩ | ⟨k, w, f, s, _, _, _, _, _, _, e⟩
  · rw [e]; exact ⟨by show (-1 : Int) ≤ -1; decide, by show (-1 : Int) ≤ -1; decide⟩
  · rw [e]
    obtain ⟨_, _, h3⟩ := comesV_len l (encN f) w (frF l (encN f) w fl)
    refine ⟨by rw [h3]; omega, ?_⟩
    dsimp only
    split
    · rename_i ha
      obtain ⟨x, hx, h1, _⟩ := frF_any ha
      have := hok x hx
      omega
    · omega
theorem insB_rd (hg : g ≤ a.ns.length) (hn : a.ns.length + 1 ≤ 127) {fl : List (Int × Int)} (hf : ∀ x ∈ fl, 0 ≤ x.1 ∧ x.1 < (a.ns.length : Int)) :
    ((insB g a).rd (fl.map (insX g))).e = (a.rd fl).e ∧ ((a.rd fl).e = 0 → ((insB g a).rd (fl.map (insX g))).bt = toZ g (a.rd fl).bt ∧ ((insB g a).rd (fl.map (insX g))).o = insO g (a.rd fl).o) := by
  have hl : a.snd.length = a.ns.length := sndN_len _ _
  have hs : (insB g a).snd = ins g ⟨false, false, z0⟩ a.snd := snd_ins hg
  unfold Bs.rd
  rw [hs]
  exact round_ins (by rw [hl]; exact hg) (by rw [hl]; exact hn) rfl (by rw [hl]; exact hf)
theorem insB_step (hg : g ≤ a.ns.length) (hn : a.ns.length + 1 ≤ 127) {fl : List (Int × Int)} (hf : ∀ x ∈ fl, 0 ≤ x.1 ∧ x.1 < (a.ns.length : Int)) : (insB g a).step (fl.map (insX g)) = insB g (a.step fl) := by
  obtain ⟨h1, h2⟩ := insB_rd hg hn hf
  unfold Bs.step
  rw [h1]
  by_cases he : (a.rd fl).e = 0
  · obtain ⟨h3, h4⟩ := h2 he
    rw [if_pos he, if_pos he, h3, h4]
    have hl : a.snd.length = a.ns.length := sndN_len _ _
    obtain ⟨k1, k2, _⟩ := round_len (l := a.snd) (fl := fl) he
    obtain ⟨k3, k4⟩ := round_lows (l := a.snd) (fl := fl) he
    unfold insB
    dsimp only
    rw [stlN_ins (o := (a.rd fl).o) (bt := (a.rd fl).bt) hg (by rw [← hl]; exact k1) (by rw [← hl]; exact k2) k3 k4]
    rfl
  · rw [if_neg he, if_neg he]
end
end Go.Proofs.YtfmggepbcpceiaaGreatDoor


