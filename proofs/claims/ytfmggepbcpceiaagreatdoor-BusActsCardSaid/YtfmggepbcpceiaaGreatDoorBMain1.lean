/- Layer 4: the first flip that counts, the program's: by walks. -/
import Derived.Test.YtfmggepbcpceiaaGreatDoorBMain

set_option linter.unusedVariables false
set_option linter.unusedSimpArgs false
set_option maxRecDepth 100000
set_option maxHeartbeats 4000000
namespace Go.Proofs.YtfmggepbcpceiaaGreatDoor
open Sx
abbrev rB (r : Nat) (w bits : Int) (sent : Bool) (e g m : Nat) (lv : Value) (nn : Nat) : Nat × Blk := (r, .row 90 [zi w, zi bits, .bool sent, .slice (some ⟨e, 0, none⟩) m m, .slice (some ⟨g, 0, none⟩) m m, lv, zi (nn : Int)] (0, 0))
theorem cmp_lt (a b c d : Int) : ((if cmpZ a b = 0 then cmpZ c d else cmpZ a b) < 0) ↔ (a < b ∨ (a = b ∧ c < d)) := by
  unfold cmpZ
  split <;> split <;> (try split) <;> (try split) <;> omega
theorem upAt_of {l : List Sn} {i : Int} {s : Sn} (h0 : 0 ≤ i) (h : l[i.toNat]? = some s) : upAt l i = s.up := by
  unfold upAt
  rw [List.getD_eq_getElem?_getD, List.getElem?_map, h]; rfl
inductive S38 (A0 A4 A5 A6 A9 A10 A11 : Value) : List Value → Prop
  | mk {r1 r2 r3 r7 r8 r12 r13 r14 r15 r16 r17 r18 r19 r20 r21 r22 r23 r24 r25 r26 r27 r28 r29 r30 r31 r32 r33 r34 r35 r36 r37 r38 r39 r40 r41 r42 r43 r44 r45 r46 r47 r48 r49 r50 r51 r52 r53 r54 r55 r56 r57 r58 r59 r60 r61 r62 r63 r64 r65 r66 r67 r68 r69 r70 r71 r72 r73 r74 r75 r76 r77 : Value} : S38 A0 A4 A5 A6 A9 A10 A11 [A0, r1, r2, r3, A4, A5, A6, r7, r8, A9, A10, A11, r12, r13, r14, r15, r16, r17, r18, r19, r20, r21, r22, r23, r24, r25, r26, r27, r28, r29, r30, r31, r32, r33, r34, r35, r36, r37, r38, r39, r40, r41, r42, r43, r44, r45, r46, r47, r48, r49, r50, r51, r52, r53, r54, r55, r56, r57, r58, r59, r60, r61, r62, r63, r64, r65, r66, r67, r68, r69, r70, r71, r72, r73, r74, r75, r76, r77]
section
variable {K : Value → Heap → Prop} {H : Heap}
theorem c38 {l : List Sn} {fl : List (Int × Int)} {r w nn e g m : Nat} {bits : Int} {sent : Bool} {lv fv : Value} (hr : rB r (w : Int) bits sent e g m lv nn ∈ H) (hl : InS snC 14 lv H l) (hf : InS xC 2 fv H fl)
    (hok : ∀ x ∈ fl, 0 ≤ x.1 ∧ x.1 < (l.length : Int)) (hnn : nn ≤ 1000)
    (hK : K (.tuple ⟨[.agg ⟨[zi (frF l nn w fl).node, zi (frF l nn w fl).bit]⟩, .bool (frF l nn w fl).any, .bool (frF l nn w fl).late]⟩) H) : SCalls Tryz.prog 38 [ptr r, fv] H K := by
  obtain ⟨fa, fc, rfl, hml⟩ := hf.sv
  simp only [maxLen] at hml
  refine enter38 ?_
  repeat' ((conv => whnf); (first | refine New.mk (fun _ => ?_)))
  rename_i p
  refine SLoop.invA (fun (k : Nat) S H' => k ≤ fl.length ∧ S38 (ptr r) (ptr p) (.bool ((fl.take k).foldl (frS l nn w) ⟨false, 0, 0, false⟩).any) (.bool ((fl.take k).foldl (frS l nn w) ⟨false, 0, 0, false⟩).late) (.slice fa fl.length fc) (.int .i64 (fl.length : Int)) (.int .i64 (k : Int)) S ∧
    H' = (p, .row 49 [zi ((fl.take k).foldl (frS l nn w) ⟨false, 0, 0, false⟩).node, zi ((fl.take k).foldl (frS l nn w) ⟨false, 0, 0, false⟩).bit] (0, 0)) :: H) (fun k => fl.length - k) 0 (Keep.all ⟨Nat.zero_le _, .mk, rfl⟩) ?_
  rintro k S H' ⟨hk, hS, rfl⟩ R hR
  by_cases hlt : k < fl.length
  · obtain ⟨⟨a, b⟩, hx, _, htake⟩ := list_at hlt
    obtain ⟨ha0, haL⟩ := hok _ (List.mem_of_getElem? hx)
    dsimp only at ha0 haL
    obtain ⟨ro, oo, c, bb, e1, hrb, hcc⟩ := inS_at hf xC_len hx
    injection e1 with e1 _ e3
    subst e1
    have hai : a.toNat < l.length := by omega
    obtain ⟨sn, hsn, _⟩ := list_at hai
    obtain ⟨lr, lo, lc, lb, e1, hlb, hlcc⟩ := inS_at hl snC_len hsn
    subst e1
    have hc0 : lb.cell (lo + a.toNat * 14 + 0) = some (.bool sn.up) := hlcc 0 _ rfl
    have hup := upAt_of ha0 hsn
    have hnext0 : ∀ s', ((fl.take k).foldl (frS l nn w) ⟨false, 0, 0, false⟩) = s' → ∀ s2, frS l nn w s' (a, b) = s2 → ∀ S, S38 (ptr r) (ptr p) (.bool s2.any) (.bool s2.late) (.slice (some ⟨ro, oo, none⟩) fl.length fc) (.int .i64 (fl.length : Int)) (.int .i64 ((k + 1 : Nat) : Int)) S → ∀ H2, Keep H2 (fun H3 => H3 = (p, .row 49 [zi s2.node, zi s2.bit] (0, 0)) :: H) → R S H2 := by
      intro s' e1 s2 e2 S hS H2 hk
      have e3 : (fl.take (k + 1)).foldl (frS l nn w) ⟨false, 0, 0, false⟩ = s2 := by rw [htake, List.foldl_append, e1]; exact e2
      refine hR (k + 1) S H2 (by omega) (hk.mono fun H3 e => ?_)
      refine ⟨hlt, ?_, ?_⟩
      · rw [e3]; exact hS
      · rw [e3]; exact e
    clear hR hK htake hok
    generalize (fl.take k).foldl (frS l nn w) ⟨false, 0, 0, false⟩ = s at hS hnext0 ⊢
    have hnext := hnext0 s rfl
    clear hnext0
    obtain ⟨any, node, bit, late⟩ := s
    dsimp only at hS ⊢
    cases hS
    have hm1 : ∀ y z : Nat × Blk, rB r (w : Int) bits sent e g m (.slice (some ⟨lr, lo, none⟩) l.length lc) nn ∈ y :: z :: H := fun y z => .tail _ (.tail _ hr)
    have hm2 : ∀ y z : Nat × Blk, (lr, lb) ∈ y :: z :: H := fun y z => .tail _ (.tail _ hlb)
    have g5 : (Blk.row 90 [zi (w : Int), zi bits, .bool sent, .slice (some ⟨e, 0, none⟩) m m, .slice (some ⟨g, 0, none⟩) m m, .slice (some ⟨lr, lo, none⟩) l.length lc, zi (nn : Int)] (0, 0)).cell 5 = some (.slice (some ⟨lr, lo, none⟩) l.length lc) := rfl
    have g6 : (Blk.row 90 [zi (w : Int), zi bits, .bool sent, .slice (some ⟨e, 0, none⟩) m m, .slice (some ⟨g, 0, none⟩) m m, .slice (some ⟨lr, lo, none⟩) l.length lc, zi (nn : Int)] (0, 0)).cell 6 = some (zi (nn : Int)) := rfl
    have g0 : (Blk.row 90 [zi (w : Int), zi bits, .bool sent, .slice (some ⟨e, 0, none⟩) m m, .slice (some ⟨g, 0, none⟩) m m, .slice (some ⟨lr, lo, none⟩) l.length lc, zi (nn : Int)] (0, 0)).cell 0 = some (zi (w : Int)) := rfl
    unfold frS at hnext
    dsimp only at hnext
    rw [hup] at hnext
    generalize hU : sn.up = U at *
    cases U with
    | false =>
      have hn := hnext _ (if_pos (.inl rfl))
      clear hnext
      repeat' ((conv => whnf); (first | refine Look.cells (.tail _ hrb) rfl hcc ?_ | refine Look.cell (hm1 _ _) g5 ?_ | refine Look.cell (hm1 _ _) g6 ?_ | refine Look.cell (hm1 _ _) g0 ?_ | refine Look.cell (hm2 _ _) hc0 ?_ | refine Idx.of a.toNat (by omega) hai ?_ | refine Branch.t rfl ?_ | exact hn _ .mk _ (Keep.d1 rfl) | refine New.mk (fun _ => ?_) | refine Look.at0 ?_ | refine Cell.row ?_ | refine Put.row rfl ?_ | with_reducible refine Val.i64 (by omega) (by omega) ?_ | refine Branch.dt (by omega) ?_ | refine Idx.nat (by omega) ?_ | refine SDraw.all (by kernel_rfl) ?_))
    | true =>
      by_cases hb : (nn : Int) ≤ b
      · have hn := hnext _ (if_pos (.inr hb))
        clear hnext
        repeat' ((conv => whnf); (first | refine Look.cells (.tail _ hrb) rfl hcc ?_ | refine Look.cell (hm1 _ _) g5 ?_ | refine Look.cell (hm1 _ _) g6 ?_ | refine Look.cell (hm1 _ _) g0 ?_ | refine Look.cell (hm2 _ _) hc0 ?_ | refine Idx.of a.toNat (by omega) hai ?_ | refine Branch.dt (by omega) ?_ | exact hn _ .mk _ (Keep.d1 rfl) | refine New.mk (fun _ => ?_) | refine Look.at0 ?_ | refine Cell.row ?_ | refine Put.row rfl ?_ | with_reducible refine Val.i64 (by omega) (by omega) ?_ | refine Branch.not ?_ | refine Branch.t rfl ?_ | refine Idx.nat (by omega) ?_ | refine SDraw.all (by kernel_rfl) ?_))
      · by_cases hb1 : b = (nn : Int) - 1
        · have hn := hnext _ (by rw [if_neg (by simp; omega), if_pos hb1])
          clear hnext
          cases late with
          | true =>
            repeat' ((conv => whnf); (first | refine Look.cells (.tail _ hrb) rfl hcc ?_ | refine Look.cell (hm1 _ _) g5 ?_ | refine Look.cell (hm1 _ _) g6 ?_ | refine Look.cell (hm1 _ _) g0 ?_ | refine Look.cell (hm2 _ _) hc0 ?_ | refine Idx.of a.toNat (by omega) hai ?_ | refine Branch.df hb ?_ | refine Branch.dt (by omega) ?_ | exact hn _ .mk _ (Keep.d1 rfl) | refine New.mk (fun _ => ?_) | refine Look.at0 ?_ | refine Cell.row ?_ | refine Put.row rfl ?_ | with_reducible refine Val.i64 (by omega) (by omega) ?_ | refine Branch.not ?_ | refine Branch.t rfl ?_ | refine Idx.nat (by omega) ?_ | refine SDraw.all (by kernel_rfl) ?_))
          | false =>
            repeat' ((conv => whnf); (first | refine Look.cells (.tail _ hrb) rfl hcc ?_ | refine Look.cell (hm1 _ _) g5 ?_ | refine Look.cell (hm1 _ _) g6 ?_ | refine Look.cell (hm1 _ _) g0 ?_ | refine Look.cell (hm2 _ _) hc0 ?_ | refine Idx.of a.toNat (by omega) hai ?_ | refine Branch.df hb ?_ | refine Branch.dt (by omega) ?_ | exact hn _ .mk _ (Keep.d1 rfl) | refine New.mk (fun _ => ?_) | refine Look.at0 ?_ | refine Cell.row ?_ | refine Put.row rfl ?_ | with_reducible refine Val.i64 (by omega) (by omega) ?_ | refine Branch.not ?_ | refine Branch.t rfl ?_ | refine Branch.f rfl ?_ | refine Idx.nat (by omega) ?_ | refine SDraw.all (by kernel_rfl) ?_))
        · have hn := fun s2 (e : (if any = false ∨ b < bit ∨ (b = bit ∧ a < node) then (⟨true, a, b, late⟩ : Fr) else ⟨any, node, bit, late⟩) = s2) => hnext s2 (by rw [if_neg (by simp; omega), if_neg hb1]; exact e)
          clear hnext
          cases any with
          | false =>
            have hn := hn _ (if_pos (.inl rfl))
            repeat' ((conv => whnf); (first | refine Look.cells (.tail _ hrb) rfl hcc ?_ | refine Look.cell (hm1 _ _) g5 ?_ | refine Look.cell (hm1 _ _) g6 ?_ | refine Look.cell (hm1 _ _) g0 ?_ | refine Look.cell (hm2 _ _) hc0 ?_ | refine Idx.of a.toNat (by omega) hai ?_ | refine Branch.df hb ?_ | refine Branch.df (by omega) ?_ | refine Branch.t rfl ?_ | exact hn _ .mk _ (Keep.d1 rfl) | refine New.mk (fun _ => ?_) | refine Look.at0 ?_ | refine Cell.row ?_ | refine Cells.row rfl ?_ | refine Put.row rfl ?_ | refine Look.at1 ?_ | with_reducible refine Val.i64 (by omega) (by omega) ?_ | refine Branch.not ?_ | refine Branch.dt (by omega) ?_ | refine Idx.nat (by omega) ?_ | refine SDraw.all (by kernel_rfl) ?_ | refine Kept.k0 ?_))
          | true =>
            have hcl := cmp_lt b bit a node
            by_cases hc : b < bit ∨ (b = bit ∧ a < node)
            · have hn := hn _ (if_pos (.inr hc))
              have hcl := hcl.2 hc
              repeat' ((conv => whnf); (first | refine Look.cells (.tail _ hrb) rfl hcc ?_ | refine Look.cell (hm1 _ _) g5 ?_ | refine Look.cell (hm1 _ _) g6 ?_ | refine Look.cell (hm1 _ _) g0 ?_ | refine Look.cell (hm2 _ _) hc0 ?_ | refine Idx.of a.toNat (by omega) hai ?_ | refine Branch.df hb ?_ | refine Branch.df (by omega) ?_ | with_reducible refine c71 ?_ | refine c70 ?_ | refine Branch.dt hcl ?_ | refine Branch.t rfl ?_ | exact hn _ .mk _ (Keep.d2 rfl) | refine New.mk (fun _ => ?_) | refine Look.at0 ?_ | refine Cell.row ?_ | refine Cells.row rfl ?_ | refine Put.row rfl ?_ | refine Look.at1 ?_ | refine Look.at2 ?_ | with_reducible refine Val.i64 (by omega) (by omega) ?_ | refine Branch.not ?_ | refine Branch.dt (by omega) ?_ | refine Idx.nat (by omega) ?_ | refine SDraw.all (by kernel_rfl) ?_ | refine Kept.k0 ?_))
            · have hn := hn _ (if_neg (by simpa using hc))
              have hcl : ¬ _ := fun h => hc (hcl.1 h)
              repeat' ((conv => whnf); (first | refine Look.cells (.tail _ hrb) rfl hcc ?_ | refine Look.cell (hm1 _ _) g5 ?_ | refine Look.cell (hm1 _ _) g6 ?_ | refine Look.cell (hm1 _ _) g0 ?_ | refine Look.cell (hm2 _ _) hc0 ?_ | refine Idx.of a.toNat (by omega) hai ?_ | refine Branch.df hb ?_ | refine Branch.df (by omega) ?_ | with_reducible refine c71 ?_ | refine c70 ?_ | refine Branch.df hcl ?_ | refine Branch.f rfl ?_ | exact hn _ .mk _ (Keep.d2 rfl) | refine New.mk (fun _ => ?_) | refine Look.at0 ?_ | refine Cell.row ?_ | refine Put.row rfl ?_ | refine Look.at1 ?_ | with_reducible refine Val.i64 (by omega) (by omega) ?_ | refine Branch.dt (by omega) ?_ | refine Idx.nat (by omega) ?_ | refine SDraw.all (by kernel_rfl) ?_ | refine Kept.k0 ?_))
  · obtain rfl : k = fl.length := by omega
    rw [List.take_length] at hS ⊢
    unfold frF at hK
    cases hS
    clear hR
    repeat' ((conv => whnf); (first | refine Branch.df (by omega) ?_ | exact Keep.d1 hK | refine Look.at0 ?_ | refine Cells.row rfl ?_ | refine Put.row rfl ?_))
end
end Go.Proofs.YtfmggepbcpceiaaGreatDoor


/- Layer 4: what comes of a round's bits, the program's: by walks. -/
set_option linter.unusedVariables false
set_option linter.unusedSimpArgs false
set_option maxRecDepth 100000
set_option maxHeartbeats 4000000
namespace Go.Proofs.YtfmggepbcpceiaaGreatDoor
open Sx
def mixL {α : Type} (xs ys : List α) (k : Nat) : List α := xs.take k ++ ys.drop k
section
variable {α : Type} {xs ys : List α} {k : Nat} {x : α}
theorem mix_len (hl : xs.length = ys.length) (hk : k ≤ xs.length) : (mixL xs ys k).length = xs.length := by
  unfold mixL
  rw [List.length_append, List.length_take, List.length_drop]; omega
theorem mix_set (hl : xs.length = ys.length) (hx : xs[k]? = some x) : (mixL xs ys k).set k x = mixL xs ys (k + 1) := by
  obtain ⟨hk, rfl⟩ := List.getElem?_eq_some_iff.1 hx
  unfold mixL
  have h1 : (xs.take k).length = k := by rw [List.length_take]; omega
  rw [List.set_append_right _ _ (by omega), h1, Nat.sub_self, List.drop_eq_getElem_cons (show k < ys.length by omega), List.set_cons_zero, List.take_succ_eq_append_getElem hk, List.append_assoc]; rfl
theorem mix_same (hl : xs.length = ys.length) (hx : xs[k]? = some x) (hy : ys[k]? = some x) : mixL xs ys (k + 1) = mixL xs ys k := by
  obtain ⟨hk, e1⟩ := List.getElem?_eq_some_iff.1 hx
  obtain ⟨hk2, e2⟩ := List.getElem?_eq_some_iff.1 hy
  unfold mixL
  rw [List.take_succ_eq_append_getElem hk, List.drop_eq_getElem_cons hk2, e1, e2, List.append_assoc]; rfl
theorem mix_all (hl : xs.length = ys.length) : mixL xs ys xs.length = xs := by
  unfold mixL
  rw [List.take_length, List.drop_eq_nil_of_le (by omega), List.append_nil]
theorem mix_at (hl : xs.length = ys.length) (hk : k ≤ xs.length) : (mixL xs ys k)[k]? = ys[k]? := by
  unfold mixL
  have h1 : (xs.take k).length = k := by rw [List.length_take]; omega
  rw [List.getElem?_append_right (by omega), h1, Nat.sub_self, List.getElem?_drop, Nat.add_zero]
end
theorem stfE_len (l : List Sn) : (stfE l).length = l.length := by simp [stfE]
theorem stfE_at {l : List Sn} {k : Nat} {s : Sn} (h : l[k]? = some s) : (stfE l)[k]? = some (if s.up then 20 else 0) := by
  unfold stfE
  rw [List.getElem?_map, h]; rfl
inductive S96 (A0 A3 A9 A10 A11 : Value) : List Value → Prop
  | mk {r1 r2 r4 r5 r6 r7 r8 r12 r13 r14 r15 r16 r17 r18 r19 r20 r21 r22 r23 r24 r25 r26 r27 r28 r29 r30 r31 r32 r33 r34 r35 r36 r37 r38 r39 r40 r41 r42 r43 r44 r45 r46 r47 r48 : Value} : S96 A0 A3 A9 A10 A11 [A0, r1, r2, A3, r4, r5, r6, r7, r8, A9, A10, A11, r12, r13, r14, r15, r16, r17, r18, r19, r20, r21, r22, r23, r24, r25, r26, r27, r28, r29, r30, r31, r32, r33, r34, r35, r36, r37, r38, r39, r40, r41, r42, r43, r44, r45, r46, r47, r48]
section
variable {K : Value → Heap → Prop} {H : Heap} {l : List Sn} {r w nn e g : Nat} {bits : Int} {sent : Bool} {lv : Value}
theorem c96 {a b : Int} (hl : InS snC 14 lv H l) (hl127 : l.length ≤ 127) (ha0 : 0 ≤ a) (haL : a < (l.length : Int)) (hb0 : 0 ≤ b) (hb1 : b ≤ 1000) (hnn : 10 ≤ nn) (hnn2 : nn ≤ 1000)
    (hK : K (.tuple ⟨[]⟩) (rB r (w : Int) (b + 24) sent e g l.length lv nn :: eB e (if (nn : Int) - 10 ≤ b then (stfE l).set a.toNat 22 else stfE l) l.length :: H)) :
    SCalls Tryz.prog 96 [ptr r, .agg ⟨[zi a, zi b]⟩] (rB r (w : Int) bits sent e g l.length lv nn :: eB e (List.replicate l.length 0) l.length :: H) K := by
  obtain ⟨la, lc, rfl, hml⟩ := hl.sv
  have hlen : (stfE l).length = (List.replicate l.length (0 : Int)).length := by rw [stfE_len]; simp
  refine enter96 ?_
  repeat' ((conv => whnf); (first | refine New.mk (fun _ => ?_) | refine Cell.row ?_ | refine Look.at1 ?_))
  rename_i p
  refine SLoop.invA (fun (k : Nat) S H' => k ≤ l.length ∧ S96 (ptr r) (ptr p) (.slice la l.length lc) (.int .i64 (l.length : Int)) (.int .i64 (k : Int)) S ∧ H' = (p, .row 49 [zi a, zi b] (0, 0)) :: rB r (w : Int) bits sent e g l.length (.slice la l.length lc) nn :: eB e (mixL (stfE l) (List.replicate l.length 0) k) l.length :: H) (fun k => l.length - k) 0 (Keep.all ⟨Nat.zero_le _, .mk, rfl⟩) ?_
  rintro k S H' ⟨hk, hS, rfl⟩ R hR
  cases hS
  by_cases hlt : k < l.length
  · obtain ⟨sn, hsn, _⟩ := list_at hlt
    obtain ⟨lr, lo, lc2, lb, e1, hlb, hlcc⟩ := inS_at hl snC_len hsn
    injection e1 with e1 _ e3
    subst e1
    have hat := stfE_at hsn
    have hml2 := mix_len (k := k) hlen (by rw [stfE_len]; omega)
    rw [stfE_len] at hml2
    have hi : k < (mixL (stfE l) (List.replicate l.length 0) k).length := by omega
    have hnext := fun S q hS E (hE : E = mixL (stfE l) (List.replicate l.length 0) (k + 1)) => hR (k + 1) S (q :: (p, .row 49 [zi a, zi b] (0, 0)) :: rB r (w : Int) bits sent e g l.length (.slice (some ⟨lr, lo, none⟩) l.length lc) nn :: eB e E l.length :: H) (by omega) (Keep.d1 ⟨hlt, hS, by rw [hE]⟩)
    obtain ⟨up, sends, f⟩ := sn
    dsimp only at hat
    cases up with
    | true =>
      have hset := mix_set hlen hat
      have hn := fun S q hS => hnext S q hS _ hset
      clear hR hnext hK
      repeat' ((conv => whnf); (first | refine Branch.dt (by omega) ?_ | refine Branch.t rfl ?_ | refine Idx.nat (by omega) ?_ | refine Look.cells (.tail _ (.tail _ (.tail _ (.tail _ hlb)))) rfl hlcc ?_ | refine Look.cells (.tail _ (.tail _ (.tail _ hlb))) rfl hlcc ?_ | refine Put.nthG (g := zi) 20 hi ?_ | exact hn _ _ .mk | refine New.mk (fun _ => ?_) | refine Look.at0 ?_ | refine Cell.row ?_ | refine Put.row rfl ?_ | refine Look.at2 ?_ | refine Look.at3 ?_ | with_reducible refine Val.i64 (by omega) (by omega) ?_))
    | false =>
      have hset := mix_same (k := k) hlen hat (by rw [List.getElem?_replicate, if_pos hlt]; rfl)
      have hn := fun S q hS => hnext S q hS _ hset.symm
      clear hR hnext hK
      repeat' ((conv => whnf); (first | refine Branch.dt (by omega) ?_ | refine Branch.f rfl ?_ | refine Idx.nat (by omega) ?_ | refine Look.cells (.tail _ (.tail _ (.tail _ (.tail _ hlb)))) rfl hlcc ?_ | refine Look.cells (.tail _ (.tail _ (.tail _ hlb))) rfl hlcc ?_ | exact hn _ _ .mk | refine New.mk (fun _ => ?_) | refine Look.at0 ?_ | refine Cell.row ?_ | refine Put.row rfl ?_ | with_reducible refine Val.i64 (by omega) (by omega) ?_))
  · obtain rfl : k = l.length := by omega
    have hall : mixL (stfE l) (List.replicate l.length 0) l.length = stfE l := by
      have := mix_all hlen
      rwa [stfE_len] at this
    rw [hall]
    clear hR
    have hai : a.toNat < (stfE l).length := by rw [stfE_len]; omega
    by_cases hc : (nn : Int) - 10 ≤ b
    · rw [if_pos hc] at hK
      repeat' ((conv => whnf); (first | refine Branch.df (by omega) ?_ | refine Branch.dt hc ?_ | refine Idx.of a.toNat (by omega) (by omega) ?_ | refine Put.nthG (g := zi) 22 hai ?_ | exact Keep.d1 hK | refine Look.at0 ?_ | refine Cell.row ?_ | refine Put.row rfl ?_ | refine Look.at1 ?_ | refine Look.at2 ?_ | with_reducible refine Val.i64 (by omega) (by omega) ?_ | refine SDraw.all (by kernel_rfl) ?_))
    · rw [if_neg hc] at hK
      repeat' ((conv => whnf); (first | refine Branch.df (by omega) ?_ | refine Branch.df hc ?_ | exact Keep.d1 hK | refine Look.at0 ?_ | refine Cell.row ?_ | refine Put.row rfl ?_ | refine Look.at1 ?_ | with_reducible refine Val.i64 (by omega) (by omega) ?_ | refine SDraw.all (by kernel_rfl) ?_))
end
end Go.Proofs.YtfmggepbcpceiaaGreatDoor


/- Layer 4: what comes of a round's bits, the program's runner: by walks. -/
set_option linter.unusedVariables false
set_option linter.unusedSimpArgs false
set_option maxRecDepth 100000
set_option maxHeartbeats 4000000
namespace Go.Proofs.YtfmggepbcpceiaaGreatDoor
open Sx
theorem frS_any {l : List Sn} {n w : Nat} {s : Fr} {x : Int × Int} (h : (frS l n w s x).any = true) : (s.any = true ∧ (frS l n w s x).node = s.node ∧ (frS l n w s x).bit = s.bit) ∨ ((frS l n w s x).node = x.1 ∧ (frS l n w s x).bit = x.2 ∧ x.2 < (n : Int) - 1) := by
  unfold frS at h ⊢
  by_cases h1 : upAt l x.1 = false ∨ (n : Int) ≤ x.2
  · rw [if_pos h1] at h ⊢
    exact .inl ⟨h, rfl, rfl⟩
  · rw [if_neg h1] at h ⊢
    by_cases h2 : x.2 = (n : Int) - 1
    · rw [if_pos h2] at h ⊢
      exact .inl ⟨h, rfl, rfl⟩
    · rw [if_neg h2] at h ⊢
      by_cases h3 : s.any = false ∨ x.2 < s.bit ∨ (x.2 = s.bit ∧ x.1 < s.node)
      · rw [if_pos h3]
        exact .inr ⟨rfl, rfl, by omega⟩
      · rw [if_neg h3] at h ⊢
        exact .inl ⟨h, rfl, rfl⟩
theorem frF_any {l : List Sn} {n w : Nat} : ∀ {fl : List (Int × Int)}, (frF l n w fl).any = true → ∃ x ∈ fl, (frF l n w fl).node = x.1 ∧ (frF l n w fl).bit = x.2 ∧ x.2 < (n : Int) - 1 := by
  intro fl
  induction fl using snoc_ind with
  | h0 => intro h; cases h
  | h1 L x ih =>
    intro h
    have e : frF l n w (L ++ [x]) = frS l n w (frF l n w L) x := by unfold frF; rw [List.foldl_append]; rfl
    rw [e] at h ⊢
    rcases frS_any h with ⟨k1, k2, k3⟩ | ⟨k1, k2, k3⟩
    · obtain ⟨y, hy, k4, k5, k6⟩ := ih k1
      exact ⟨y, List.mem_append_left _ hy, k2.trans k4, k3.trans k5, k6⟩
    · exact ⟨x, List.mem_append_right _ (.head _), k1, k2, k3⟩
theorem gotE_len (l : List Sn) (w : Nat) : (gotE l w).length = l.length := by simp [gotE]
theorem gotE_at {l : List Sn} {w k : Nat} {s : Sn} (h : l[k]? = some s) : (gotE l w)[k]? = some (s.up && !decide (k = w)) := by
  unfold gotE
  rw [List.getElem?_mapIdx, h]; rfl
inductive S69 (A0 A8 A21 A22 A23 : Value) : List Value → Prop
  | mk {r1 r2 r3 r4 r5 r6 r7 r9 r10 r11 r12 r13 r14 r15 r16 r17 r18 r19 r20 r24 r25 r26 r27 r28 r29 r30 r31 r32 r33 r34 r35 r36 r37 r38 r39 r40 r41 r42 r43 r44 r45 r46 r47 r48 r49 r50 r51 r52 r53 r54 r55 r56 r57 r58 r59 r60 r61 r62 r63 r64 r65 r66 r67 r68 r69 r70 r71 r72 r73 r74 r75 r76 r77 r78 r79 r80 r81 r82 r83 r84 r85 r86 r87 r88 r89 r90 r91 r92 r93 r94 r95 r96 r97 r98 r99 r100 r101 r102 r103 r104 r105 r106 r107 r108 r109 r110 r111 : Value} : S69 A0 A8 A21 A22 A23 [A0, r1, r2, r3, r4, r5, r6, r7, A8, r9, r10, r11, r12, r13, r14, r15, r16, r17, r18, r19, r20, A21, A22, A23, r24, r25, r26, r27, r28, r29, r30, r31, r32, r33, r34, r35, r36, r37, r38, r39, r40, r41, r42, r43, r44, r45, r46, r47, r48, r49, r50, r51, r52, r53, r54, r55, r56, r57, r58, r59, r60, r61, r62, r63, r64, r65, r66, r67, r68, r69, r70, r71, r72, r73, r74, r75, r76, r77, r78, r79, r80, r81, r82, r83, r84, r85, r86, r87, r88, r89, r90, r91, r92, r93, r94, r95, r96, r97, r98, r99, r100, r101, r102, r103, r104, r105, r106, r107, r108, r109, r110, r111]
section
variable {K : Value → Heap → Prop} {H : Heap} {l : List Sn} {r w nn e g : Nat} {bits : Int} {lv fv : Value} {fl : List (Int × Int)}
theorem l69 {Q : Post} {S0 : List Value} {la : Option Addr} {lc : Nat} {q : Nat × Blk} {late : Bool} {E : List Int} (hl : InS snC 14 (.slice la l.length lc) H l) (hl127 : l.length ≤ 127) (hw : w < l.length)
    (hS : S69 (ptr r) (.bool late) (.slice la l.length lc) (.int .i64 (l.length : Int)) (.int .i64 0) S0)
    (hQ : ∀ S, S69 (ptr r) (.bool late) (.slice la l.length lc) (.int .i64 (l.length : Int)) (.int .i64 (l.length : Int)) S → Q (.exit 1) S (q :: rB r (w : Int) bits false e g l.length (.slice la l.length lc) nn :: eB e E l.length :: gB g (gotE l w) l.length :: H)) :
    SLoop Tryz.prog X69_l0 Q S0 (q :: rB r (w : Int) bits false e g l.length (.slice la l.length lc) nn :: eB e E l.length :: gB g (List.replicate l.length false) l.length :: H) := by
  have hlen : (gotE l w).length = (List.replicate l.length false).length := by rw [gotE_len]; simp
  refine SLoop.invA (fun (k : Nat) S H' => k ≤ l.length ∧ S69 (ptr r) (.bool late) (.slice la l.length lc) (.int .i64 (l.length : Int)) (.int .i64 (k : Int)) S ∧ H' = q :: rB r (w : Int) bits false e g l.length (.slice la l.length lc) nn :: eB e E l.length :: gB g (mixL (gotE l w) (List.replicate l.length false) k) l.length :: H) (fun k => l.length - k) 0 (Keep.all ⟨Nat.zero_le _, hS, rfl⟩) ?_
  rintro k S H' ⟨hk, hS, rfl⟩ R hR
  cases hS
  by_cases hlt : k < l.length
  · obtain ⟨sn, hsn, _⟩ := list_at hlt
    obtain ⟨lr, lo, lc2, lb, e1, hlb, hlcc⟩ := inS_at hl snC_len hsn
    injection e1 with e1 _ e3
    subst e1
    have hat := gotE_at (w := w) hsn
    have hml2 := mix_len (k := k) hlen (by rw [gotE_len]; omega)
    rw [gotE_len] at hml2
    have hi : k < (mixL (gotE l w) (List.replicate l.length false) k).length := by omega
    have hset := mix_set hlen hat
    have hnext := fun S q2 hS E2 (hE : E2 = mixL (gotE l w) (List.replicate l.length false) (k + 1)) => hR (k + 1) S (q2 :: q :: rB r (w : Int) bits false e g l.length (.slice (some ⟨lr, lo, none⟩) l.length lc) nn :: eB e E l.length :: gB g E2 l.length :: H) (by omega) (Keep.d1 ⟨hlt, hS, by rw [hE]⟩)
    have hn := fun S q hS => hnext S q hS _ hset
    clear hR hnext hQ hset
    obtain ⟨up, sends, f⟩ := sn
    have hbb : (!decide (k = w)) = !decide ((k : Int) = (w : Int)) := by
      congr 1
      by_cases h : k = w
      · rw [decide_eq_true h, decide_eq_true (by omega)]
      · rw [decide_eq_false h, decide_eq_false (by omega)]
    dsimp only at hn
    rw [hbb] at hn
    cases up with
    | true =>
      rw [Bool.true_and] at hn
      repeat' ((conv => whnf); (first | refine Branch.dt (by omega) ?_ | refine Branch.t rfl ?_ | refine Idx.nat (by omega) ?_ | refine Look.cells (.tail _ (.tail _ (.tail _ (.tail _ (.tail _ hlb))))) rfl hlcc ?_ | refine Look.cells (.tail _ (.tail _ (.tail _ (.tail _ hlb)))) rfl hlcc ?_ | refine Put.nthG (g := Value.bool) _ hi ?_ | exact hn _ _ .mk | refine New.mk (fun _ => ?_) | refine Look.at0 ?_ | refine Cell.row ?_ | refine Put.row rfl ?_ | refine Look.at2 ?_ | refine Look.at4 ?_ | with_reducible refine Val.i64 (by omega) (by omega) ?_ | refine SDraw.all (by kernel_rfl) ?_))
    | false =>
      rw [Bool.false_and] at hn
      repeat' ((conv => whnf); (first | refine Branch.dt (by omega) ?_ | refine Branch.f rfl ?_ | refine Idx.nat (by omega) ?_ | refine Look.cells (.tail _ (.tail _ (.tail _ (.tail _ (.tail _ hlb))))) rfl hlcc ?_ | refine Look.cells (.tail _ (.tail _ (.tail _ (.tail _ hlb)))) rfl hlcc ?_ | refine Put.nthG (g := Value.bool) _ hi ?_ | exact hn _ _ .mk | refine New.mk (fun _ => ?_) | refine Look.at0 ?_ | refine Cell.row ?_ | refine Put.row rfl ?_ | refine Look.at2 ?_ | refine Look.at4 ?_ | with_reducible refine Val.i64 (by omega) (by omega) ?_ | refine SDraw.all (by kernel_rfl) ?_))
  · obtain rfl : k = l.length := by omega
    have hall : mixL (gotE l w) (List.replicate l.length false) l.length = gotE l w := by
      have := mix_all hlen
      rwa [gotE_len] at this
    have hq := fun S hS => hQ S hS
    rw [hall]
    clear hR hQ
    repeat' ((conv => whnf); (first | refine Branch.df (by omega) ?_ | exact Keep.all (hq _ .mk) | exact hq _ .mk))
theorem c69 {ot : Bool} (hl : InS snC 14 lv H l) (hl127 : l.length ≤ 127) (hf : InS xC 2 fv H fl) (hok : ∀ x ∈ fl, 0 ≤ x.1 ∧ x.1 < (l.length : Int) ∧ 0 ≤ x.2) (hw : w < l.length) (hnn : 10 ≤ nn) (hnn2 : nn ≤ 1000) (hot : ot = !decide (upN l ≤ 1))
    (hK : K (.tuple ⟨[]⟩) (rB r (w : Int) (comesV l nn w (frF l nn w fl)).bits (comesV l nn w (frF l nn w fl)).sent e g l.length lv nn :: eB e (comesV l nn w (frF l nn w fl)).errs l.length :: gB g (comesV l nn w (frF l nn w fl)).got l.length :: H)) :
    SCalls Tryz.prog 69 [ptr r, .bool ot, fv] (rB r (w : Int) bits false e g l.length lv nn :: eB e (List.replicate l.length 0) l.length :: gB g (List.replicate l.length false) l.length :: H) K := by
  have h38 := fun (K2 : Value → Heap → Prop) hk => c38 (K := K2) (H := rB r (w : Int) bits false e g l.length lv nn :: eB e (List.replicate l.length 0) l.length :: gB g (List.replicate l.length false) l.length :: H) (l := l) (fl := fl) (fv := fv) (.head _) (hl.mono fun z hz => .tail _ (.tail _ (.tail _ hz))) (hf.mono fun z hz => .tail _ (.tail _ (.tail _ hz))) (fun x hx => ⟨(hok x hx).1, (hok x hx).2.1⟩) hnn2 hk
  have han := frF_any (l := l) (n := nn) (w := w) (fl := fl)
  generalize frF l nn w fl = s at *
  obtain ⟨any, node, bit, late⟩ := s
  dsimp only at h38 han
  unfold comesV at hK
  dsimp only at hK
  obtain ⟨la, lc, rfl, hml⟩ := hl.sv
  obtain ⟨fa, fc, rfl, hml2⟩ := hf.sv
  refine enter69 ?_
  cases any with
  | true =>
    obtain ⟨x, hx, h1, h2, h3⟩ := han rfl
    obtain ⟨k1, k2, k3⟩ := hok x hx
    subst h1 h2
    rw [if_pos rfl] at hK
    dsimp only at hK
    have h96 : ∀ q (K2 : Value → Heap → Prop), K2 (.tuple ⟨[]⟩) (q :: rB r (w : Int) (x.2 + 24) false e g l.length (.slice la l.length lc) nn :: eB e (if (nn : Int) - 10 ≤ x.2 then (stfE l).set x.1.toNat 22 else stfE l) l.length :: gB g (List.replicate l.length false) l.length :: H) →
        SCalls Tryz.prog 96 [ptr r, .agg ⟨[zi x.1, zi x.2]⟩] (q :: rB r (w : Int) bits false e g l.length (.slice la l.length lc) nn :: eB e (List.replicate l.length 0) l.length :: gB g (List.replicate l.length false) l.length :: H) K2 := fun q K2 hk =>
      SCalls.under [q] (c96 (H := gB g (List.replicate l.length false) l.length :: H) (bits := bits) (sent := false) (r := r) (w := w) (e := e) (g := g) (nn := nn) (hl.mono fun z hz => .tail _ hz) hl127 k1 k2 k3 (by omega) hnn hnn2 hk)
    repeat' ((conv => whnf); (first | with_reducible refine h38 _ ?_ | refine Branch.t rfl ?_ | with_reducible refine h96 _ _ ?_ | exact Keep.d1 hK | refine New.mk (fun _ => ?_) | refine Look.at0 ?_ | refine Cells.row rfl ?_ | refine Put.row rfl ?_))
  | false =>
    rw [if_neg (by decide)] at hK
    have hwl : w < (List.replicate l.length (0 : Int)).length := by simpa using hw
    cases ot with
    | false =>
      have hu : upN l ≤ 1 := by simpa using hot.symm
      rw [if_pos hu] at hK
      dsimp only at hK
      have e12 : (nn : Int) + 12 = (nn : Int) - 8 + 20 := by omega
      rw [e12] at hK
      repeat' ((conv => whnf); (first | with_reducible refine h38 _ ?_ | refine Branch.f rfl ?_ | refine SDraw.held (by kernel_rfl) [] .nil ?_ | refine Kept.sub (List.nil_sublist _) ?_ | refine And.intro ?_ ?_ | refine Idx.nat hw ?_ | refine Put.nthG (g := zi) 23 hwl ?_ | exact Keep.d1 hK | refine New.mk (fun _ => ?_) | refine Look.at0 ?_ | refine Cell.row ?_ | refine Put.row rfl ?_ | refine Look.at1 ?_ | refine Look.at2 ?_ | with_reducible refine Val.i64 (by omega) (by omega) ?_ | refine Branch.not ?_))
    | true =>
      have hu : ¬ upN l ≤ 1 := by simpa using hot.symm
      rw [if_neg hu] at hK
      cases late with
      | true =>
        rw [if_pos rfl] at hK
        dsimp only at hK
        repeat' ((conv => whnf); (first | with_reducible refine h38 _ ?_ | refine Branch.f rfl ?_ | refine Branch.t rfl ?_ | (refine l69 hl hl127 hw .mk (fun S hS => ?_); cases hS) | refine SDraw.held (by kernel_rfl) [] .nil ?_ | refine Kept.sub (List.nil_sublist _) ?_ | refine And.intro ?_ ?_ | refine Idx.nat hw ?_ | refine Put.nthG (g := zi) 22 hwl ?_ | exact Keep.d1 hK | refine New.mk (fun _ => ?_) | refine Look.at0 ?_ | refine Cell.row ?_ | refine Put.row rfl ?_ | refine Look.at1 ?_ | refine Look.at2 ?_ | with_reducible refine Val.i64 (by omega) (by omega) ?_))
      | false =>
        rw [if_neg (by decide)] at hK
        dsimp only at hK
        repeat' ((conv => whnf); (first | with_reducible refine h38 _ ?_ | refine Branch.f rfl ?_ | (refine l69 hl hl127 hw .mk (fun S hS => ?_); cases hS) | exact Keep.d1 hK | refine New.mk (fun _ => ?_) | refine Look.at0 ?_ | refine Cell.row ?_ | refine Put.row rfl ?_ | refine Look.at1 ?_ | with_reducible refine Val.i64 (by omega) (by omega) ?_))
end
end Go.Proofs.YtfmggepbcpceiaaGreatDoor


/- Layer 4: a round, the program's: by walks. -/
set_option linter.unusedVariables false
set_option linter.unusedSimpArgs false
set_option maxRecDepth 100000
set_option maxHeartbeats 4000000
namespace Go.Proofs.YtfmggepbcpceiaaGreatDoor
open Sx
abbrev nC (n : Nat) : List Value := [zi (n : Int)]
theorem nC_len (n : Nat) : (nC n).length = 1 := rfl
theorem nC_one (n : Nat) : ∀ u ∈ nC n, u.oneCell' = true := fun u hu => by obtain rfl := List.mem_singleton.1 hu; rfl
theorem cand_snoc (s : Sn) : ∀ (a : List Sn) (i : Nat), cand i (a ++ [s]) = cand i a ++ (if s.up && s.sends then [(i + a.length, s.f)] else [])
  | [], i => by simp only [List.nil_append, cand, List.length_nil, Nat.add_zero]
  | x :: a, i => by
    rw [List.cons_append, cand, cand, cand_snoc s a (i + 1), List.length_cons, show i + 1 + a.length = i + (a.length + 1) by omega]
    split <;> rfl
theorem cand_len : ∀ (l : List Sn) (i : Nat), (cand i l).length ≤ l.length
  | [], _ => Nat.le_refl _
  | s :: l, i => by
    have := cand_len l (i + 1)
    unfold cand
    split <;> simp only [List.length_cons] <;> omega
theorem cand_mem {i : Nat} {f : Fm} : ∀ {l : List Sn} {j : Nat}, (i, f) ∈ cand j l → j ≤ i ∧ ∃ s, l[i - j]? = some s ∧ s.up = true ∧ s.sends = true ∧ s.f = f
  | [], j, h => by cases h
  | s :: l, j, h => by
    have key : (i, f) ∈ cand (j + 1) l → j ≤ i ∧ ∃ s', (s :: l)[i - j]? = some s' ∧ s'.up = true ∧ s'.sends = true ∧ s'.f = f := fun h => by
      obtain ⟨h1, s', h2, h3⟩ := cand_mem h
      refine ⟨by omega, s', ?_, h3⟩
      rw [show i - j = (i - (j + 1)) + 1 by omega]; exact h2
    unfold cand at h
    split at h
    · rename_i hc
      simp only [Bool.and_eq_true] at hc
      rcases List.mem_cons.1 h with h | h
      · injection h with h1 h2
        subst h1
        exact ⟨Nat.le_refl _, s, by rw [Nat.sub_self]; rfl, hc.1, hc.2, h2.symm⟩
      · exact key h
    · exact key h
theorem upN_snoc (a : List Sn) (s : Sn) : upN (a ++ [s]) = upN a + if s.up then 1 else 0 := by
  unfold upN
  rw [List.countP_append, List.countP_cons, List.countP_nil, Nat.zero_add]
theorem upN_le (a : List Sn) : upN a ≤ a.length := List.countP_le_length
inductive S35 (A0 A1 A4 A5 A7 A8 A9 A26 A27 A28 : Value) : List Value → Prop
  | mk {r2 r3 r6 r10 r11 r12 r13 r14 r15 r16 r17 r18 r19 r20 r21 r22 r23 r24 r25 r29 r30 r31 r32 r33 r34 r35 r36 r37 r38 r39 r40 r41 r42 r43 r44 r45 r46 r47 r48 r49 r50 r51 r52 r53 r54 r55 r56 r57 r58 r59 r60 r61 r62 r63 r64 r65 r66 r67 r68 r69 r70 r71 r72 r73 r74 r75 r76 r77 r78 r79 r80 r81 r82 r83 r84 r85 r86 r87 r88 r89 r90 r91 r92 r93 r94 r95 r96 r97 r98 : Value} : S35 A0 A1 A4 A5 A7 A8 A9 A26 A27 A28 [A0, A1, r2, r3, A4, A5, r6, A7, A8, A9, r10, r11, r12, r13, r14, r15, r16, r17, r18, r19, r20, r21, r22, r23, r24, r25, A26, A27, A28, r29, r30, r31, r32, r33, r34, r35, r36, r37, r38, r39, r40, r41, r42, r43, r44, r45, r46, r47, r48, r49, r50, r51, r52, r53, r54, r55, r56, r57, r58, r59, r60, r61, r62, r63, r64, r65, r66, r67, r68, r69, r70, r71, r72, r73, r74, r75, r76, r77, r78, r79, r80, r81, r82, r83, r84, r85, r86, r87, r88, r89, r90, r91, r92, r93, r94, r95, r96, r97, r98]
theorem firstV_ok {L : List Fm} (h : (firstV L).2 = 0) : L ≠ [] ∧ L.all okF = true ∧ (L.map fld).Nodup ∧ firstV L = (bstN (L.map fld) L.length, 0) ∧ (firstV L).1 < L.length := by
  unfold firstV at h ⊢
  by_cases h1 : L = []
  · rw [if_pos h1] at h; cases h
  · rw [if_neg h1] at h ⊢
    by_cases h2 : L.all okF = false
    · rw [if_pos h2] at h; cases h
    · rw [if_neg h2] at h ⊢
      by_cases h3 : (L.map fld).Nodup
      · rw [if_pos h3]
        refine ⟨h1, by simpa using h2, h3, rfl, ?_⟩
        have := bstN_lt (L.map fld) L.length
        have : L.length ≠ 0 := fun e => h1 (List.length_eq_zero_iff.1 e)
        show bstN _ _ < _
        omega
      · rw [if_neg h3] at h; cases h
def oZ : Value := .agg ⟨[zi 0, zi 0, .bool false, .slice none 0 0, .slice none 0 0]⟩
abbrev oV (o : Out) (e g n : Nat) : Value := .agg ⟨[zi o.win, zi o.bits, .bool o.sent, .slice (some ⟨e, 0, none⟩) n n, .slice (some ⟨g, 0, none⟩) n n]⟩
section
variable {K : Value → Heap → Prop} {H : Heap} {l : List Sn} {lv fv : Value} {fl : List (Int × Int)}
theorem chkX_ok {n : Nat} (h : chkX n fl = 0) : n ≤ 127 ∧ ∀ x ∈ fl, 0 ≤ x.1 ∧ x.1 < (n : Int) ∧ 0 ≤ x.2 := by
  unfold chkX at h
  by_cases h1 : 127 < n ∨ 65536 < fl.length
  · rw [if_pos h1] at h; cases h
  · rw [if_neg h1] at h
    cases h2 : fl.any (xBad n) with
    | true => rw [h2, if_pos rfl] at h; cases h
    | false =>
      refine ⟨by omega, fun x hx => ?_⟩
      have h3 := (List.any_eq_false.1 h2) x hx
      unfold xBad at h3
      simp only [Bool.or_eq_true, decide_eq_true_eq] at h3
      omega
theorem c35 (hD : Db H) (hl : InS snC 14 lv H l) (hwf : ∀ s ∈ l, s.f.id < 4294967296) (hf : InS xC 2 fv H fl)
    (hK0 : (roundV l fl).e ≠ 0 → K (.tuple ⟨[oZ, zi (roundV l fl).e]⟩) H)
    (hK1 : (roundV l fl).e = 0 → ∀ e g, K (.tuple ⟨[oV (roundV l fl).o e g l.length, zi 0]⟩) (eB e (roundV l fl).o.errs l.length :: gB g (roundV l fl).o.got l.length :: H)) : SCalls Tryz.prog 35 [lv, fv] H K := by
  obtain ⟨la, lc, rfl, hml⟩ := hl.sv
  obtain ⟨fa, fc, rfl, hml2⟩ := hf.sv
  have h66 : ∀ q (K2 : Value → Heap → Prop), K2 (zi (chkX l.length fl)) (q :: H) → SCalls Tryz.prog 66 [zi (l.length : Int), .slice fa fl.length fc] (q :: H) K2 := fun q K2 hk => c66 (hf.mono fun z hz => .tail _ hz) hk
  unfold roundV at hK0 hK1
  refine enter35 ?_
  by_cases hc : chkX l.length fl = 0
  · rw [if_pos hc] at hK0 hK1
    rw [hc] at h66
    obtain ⟨hl127, hok⟩ := chkX_ok hc
    repeat' ((conv => whnf); (first | with_reducible refine h66 _ _ ?_ | refine Branch.f rfl ?_ | refine New.mk (fun _ => ?_)))
    rename_i p
    refine SLoop.invA (fun (k : Nat) S H' => k ≤ l.length ∧ ∃ a1 c1 M1 a2 c2 M2, Grow frC 12 32 (.slice a1 (cand 0 (l.take k)).length c1) ((cand 0 (l.take k)).map (·.2)) M1 ∧ Grow nC 1 3 (.slice a2 (cand 0 (l.take k)).length c2) ((cand 0 (l.take k)).map (·.1)) M2 ∧
      S35 (.slice la l.length lc) (.slice fa fl.length fc) (ptr p) (zi 0) (.slice a1 (cand 0 (l.take k)).length c1) (.slice a2 (cand 0 (l.take k)).length c2) (zi (upN (l.take k) : Int)) (.slice la l.length lc) (zi (l.length : Int)) (zi (k : Int)) S ∧
      H' = (p, .row 37 [zi 0, zi 0, .bool false, .slice none 0 0, .slice none 0 0] (0, 0)) :: (M1 ++ (M2 ++ H))) (fun k => l.length - k) 0 (Keep.all ⟨Nat.zero_le _, none, 0, [], none, 0, [], .nil, .nil, .mk, rfl⟩) ?_
    rintro k S H' ⟨hk, a1, c1, M1, a2, c2, M2, hG1, hG2, hS, rfl⟩ R hR
    by_cases hlt : k < l.length
    · obtain ⟨sn, hsn, _, htake⟩ := list_at hlt
      obtain ⟨lr, lo, lc2, lb, e1, hlb, hlcc⟩ := inS_at hl snC_len hsn
      injection e1 with e1 _ e3
      subst e1
      have htl : (l.take k).length = k := by rw [List.length_take]; omega
      have hcs := cand_snoc sn (l.take k) 0
      rw [← htake, htl, Nat.zero_add] at hcs
      have hus := upN_snoc (l.take k) sn
      rw [← htake] at hus
      have hul := upN_le (l.take k)
      have hcl := cand_len (l.take k) 0
      rw [htl] at hul hcl
      have hm : ∀ x y : Nat × Blk, (lr, lb) ∈ x :: y :: (M1 ++ (M2 ++ H)) := fun x y => .tail _ (.tail _ (List.mem_append_right _ (List.mem_append_right _ hlb)))
      have hnext : ∀ S H2 a1' c1' M1' a2' c2' M2', Grow frC 12 32 (.slice a1' (cand 0 (l.take (k + 1))).length c1') ((cand 0 (l.take (k + 1))).map (·.2)) M1' → Grow nC 1 3 (.slice a2' (cand 0 (l.take (k + 1))).length c2') ((cand 0 (l.take (k + 1))).map (·.1)) M2' →
          S35 (.slice (some ⟨lr, lo, none⟩) l.length lc) (.slice fa fl.length fc) (ptr p) (zi 0) (.slice a1' (cand 0 (l.take (k + 1))).length c1') (.slice a2' (cand 0 (l.take (k + 1))).length c2') (zi (upN (l.take (k + 1)) : Int)) (.slice (some ⟨lr, lo, none⟩) l.length lc) (zi (l.length : Int)) (zi ((k + 1 : Nat) : Int)) S →
          Keep H2 (fun H3 => H3 = (p, .row 37 [zi 0, zi 0, .bool false, .slice none 0 0, .slice none 0 0] (0, 0)) :: (M1' ++ (M2' ++ H))) → R S H2 := fun S H2 a1' c1' M1' a2' c2' M2' g1 g2 g3 g4 =>
        hR (k + 1) S H2 (by omega) (g4.mono fun H3 e => ⟨hlt, a1', c1', M1', a2', c2', M2', g1, g2, g3, e⟩)
      rw [hcs, hus] at hnext
      clear hR hK0 hK1 htake hcs hus
      obtain ⟨up, sends, f⟩ := sn
      dsimp only at hnext hlcc
      generalize hC : cand 0 (l.take k) = C at *
      generalize hU : upN (l.take k) = U at *
      cases hS
      cases up with
      | false =>
        have hn := hnext
        simp only [Bool.false_and, if_neg (show ¬ false = true by decide), List.append_nil] at hn
        clear hnext
        repeat' ((conv => whnf); (first | refine Branch.dt (by omega) ?_ | refine Branch.f rfl ?_ | refine Idx.nat (by omega) ?_ | refine Look.cells (hm _ _) rfl hlcc ?_ | refine Look.cells (.tail _ (List.mem_append_right _ (List.mem_append_right _ hlb))) rfl hlcc ?_ | exact hn _ _ _ _ _ _ _ _ hG1 hG2 .mk (Keep.d1 rfl) | refine New.mk (fun _ => ?_) | refine Look.at0 ?_ | refine Cell.row ?_ | refine Put.row rfl ?_ | with_reducible refine Val.i64 (by omega) (by omega) ?_))
      | true =>
        cases sends with
        | false =>
          have hn := hnext
          simp only [Bool.true_and, if_neg (show ¬ false = true by decide), if_true, List.append_nil] at hn
          clear hnext
          repeat' ((conv => whnf); (first | refine Branch.dt (by omega) ?_ | refine Branch.t rfl ?_ | refine Branch.f rfl ?_ | refine Idx.nat (by omega) ?_ | refine Look.cells (hm _ _) rfl hlcc ?_ | refine Look.cells (.tail _ (List.mem_append_right _ (List.mem_append_right _ hlb))) rfl hlcc ?_ | exact hn _ _ _ _ _ _ _ _ hG1 hG2 .mk (Keep.d1 rfl) | refine New.mk (fun _ => ?_) | refine Look.at0 ?_ | refine Cell.row ?_ | refine Put.row rfl ?_ | with_reducible refine Val.i64 (by omega) (by omega) ?_))
        | true =>
          have hn := hnext
          simp only [Bool.true_and, if_true, List.map_append, List.map_cons, List.map_nil, List.length_append, List.length_cons, List.length_nil] at hn
          clear hnext
          have ha1 : ∀ q1 t (o : Oper) (xs xx : Operand) (K2 : Value → Heap → Prop), o.op = .call { callee := .builtin .append, args := #[xs, xx], argTypes := #[22, 22] } → (∀ a c M, Grow frC 12 32 (.slice a (C.length + 1) c) (C.map (·.2) ++ [f]) M → K2 (.slice a (C.length + 1) c) (M ++ ((q1, .row 32 (frC f) (0, 0)) :: t :: (p, .row 37 [zi 0, zi 0, .bool false, .slice none 0 0, .slice none 0 0] (0, 0)) :: (M2 ++ H)))) →
              RawV Tryz.prog o [.slice a1 C.length c1, .slice (some ⟨q1, 0, none⟩) 1 1] ((q1, .row 32 (frC f) (0, 0)) :: t :: (p, .row 37 [zi 0, zi 0, .bool false, .slice none 0 0, .slice none 0 0] (0, 0)) :: (M1 ++ (M2 ++ H))) K2 := by
            intro q1 t o xs xx K2 ho hk
            refine RawV.grow1 (A := [(q1, .row 32 (frC f) (0, 0)), t, (p, .row 37 [zi 0, zi 0, .bool false, .slice none 0 0, .slice none 0 0] (0, 0))]) (B := M2 ++ H) (x := f) (bytes := 24) hG1 rfl (.head _) ho (by kernel_rfl) (by decide) frC_len (frC_one f) (by rw [List.length_map]; simp only [maxLen]; omega) (by rw [List.length_map]; omega) (fun a c M' g1 => ?_)
            rw [List.length_map] at g1 ⊢
            exact hk a c M' g1
          have ha2 : ∀ q2 (M1' X : Heap) (o : Oper) (xs xx : Operand) (K2 : Value → Heap → Prop), o.op = .call { callee := .builtin .append, args := #[xs, xx], argTypes := #[96, 96] } → (∀ a c M, Grow nC 1 3 (.slice a (C.length + 1) c) (C.map (·.1) ++ [k]) M → K2 (.slice a (C.length + 1) c) (M ++ ((q2, .row 3 (nC k) (0, 0)) :: (M1' ++ X) ++ H))) →
              RawV Tryz.prog o [.slice a2 C.length c2, .slice (some ⟨q2, 0, none⟩) 1 1] ((q2, .row 3 (nC k) (0, 0)) :: (M1' ++ X) ++ (M2 ++ H)) K2 := by
            intro q2 M1' X o xs xx K2 ho hk
            refine RawV.grow1 (A := (q2, .row 3 (nC k) (0, 0)) :: (M1' ++ X)) (B := H) (x := k) (bytes := 8) hG2 rfl (.head _) ho (by kernel_rfl) (by decide) nC_len (nC_one k) (by rw [List.length_map]; simp only [maxLen]; omega) (by rw [List.length_map]; omega) (fun a c M' g1 => ?_)
            rw [List.length_map] at g1 ⊢
            exact hk a c M' g1
          have ha2' : ∀ q2 (M1' : Heap) (q1 t z : Nat × Blk) (o : Oper) (xs xx : Operand) (K2 : Value → Heap → Prop), o.op = .call { callee := .builtin .append, args := #[xs, xx], argTypes := #[96, 96] } → (∀ a c M, Grow nC 1 3 (.slice a (C.length + 1) c) (C.map (·.1) ++ [k]) M → K2 (.slice a (C.length + 1) c) (M ++ ((q2, .row 3 (nC k) (0, 0)) :: (M1' ++ (q1 :: t :: z :: H))))) →
              RawV Tryz.prog o [.slice a2 C.length c2, .slice (some ⟨q2, 0, none⟩) 1 1] ((q2, .row 3 (nC k) (0, 0)) :: (M1' ++ (q1 :: t :: z :: (M2 ++ H)))) K2 := by
            intro q2 M1' q1 t z o xs xx K2 ho hk
            have := ha2 q2 M1' [q1, t, z] o xs xx K2 ho (fun a c M g => by simpa using hk a c M g)
            simpa using this
          repeat' ((conv => whnf); (first | refine Branch.dt (by omega) ?_ | refine Branch.t rfl ?_ | refine Idx.nat (by omega) ?_ | refine Look.cells (hm _ _) rfl hlcc ?_ | refine Look.cells (.tail _ (List.mem_append_right _ (List.mem_append_right _ hlb))) rfl hlcc ?_ | with_reducible refine ha1 _ _ _ _ _ _ rfl (fun a1' c1' M1' g1 => ?_) | refine ha2' _ _ _ _ _ _ _ _ _ rfl (fun a2' c2' M2' g2 => ?_) | exact hn _ _ _ _ _ _ _ _ g1 g2 .mk (Keep.glue [M2', [_], M1', [_, _], [_], H] [0, 1, 2, 3, 4, 5] [4, 2, 0, 5] [1, 3] (by decide) rfl rfl) | refine New.mk (fun _ => ?_) | refine Look.at0 ?_ | refine Cell.row ?_ | refine Cells.row rfl ?_ | refine Put.row rfl ?_ | with_reducible refine Val.i64 (by omega) (by omega) ?_))
    · obtain rfl : k = l.length := by omega
      rw [List.take_length] at hG1 hG2 hS
      have hwfC : ∀ f ∈ (cand 0 l).map (·.2), f.id < 4294967296 := fun f hf => by
        obtain ⟨⟨i, f'⟩, h1, rfl⟩ := List.mem_map.1 hf
        obtain ⟨_, s, h2, _, _, rfl⟩ := cand_mem h1
        exact hwf s (List.mem_of_getElem? h2)
      have hcl := cand_len l 0
      have hlook : ∀ i f, (i, f) ∈ cand 0 l → i < l.length := fun i f h => by
        obtain ⟨_, s, h2, _⟩ := cand_mem h
        exact (List.getElem?_eq_some_iff.1 h2).1
      unfold winV at hK0 hK1
      dsimp only at hK0 hK1
      generalize cand 0 l = C at *
      have hul := upN_le l
      clear hR
      cases hS
      have h67 : ∀ X (K2 : Value → Heap → Prop), (∀ e g, K2 (.agg ⟨[zi (-1), zi 11, .bool false, .slice (some ⟨e, 0, none⟩) l.length l.length, .slice (some ⟨g, 0, none⟩) l.length l.length]⟩) (eB e (List.replicate l.length 0) l.length :: gB g (List.replicate l.length false) l.length :: X)) → SCalls Tryz.prog 67 [zi (l.length : Int)] X K2 := fun X K2 hk => c67 hl127 hk
      by_cases hC : C = []
      · rw [if_pos hC] at hK0 hK1
        subst hC
        have hk := fun e g (t z : Nat × Blk) => Keep.glue (K := fun H' => K (.tuple ⟨[oV (noneV l.length) e g l.length, zi 0]⟩) H') [[t], [eB e (List.replicate l.length 0) l.length, gB g (List.replicate l.length false) l.length], [z], M1, M2, H] [0, 1, 2, 3, 4, 5] [1, 5] [0, 2, 3, 4] (by decide) rfl (hK1 rfl e g)
        clear hK0 hK1 hG1 hG2
        repeat' ((conv => whnf); (first | refine Branch.df (by omega) ?_ | with_reducible refine h67 _ _ (fun e g => ?_) | exact hk _ _ _ _ | refine New.mk (fun _ => ?_) | refine Look.at0 ?_ | refine Cells.row rfl ?_ | refine Put.row rfl ?_ | refine Look.at3 ?_ | refine Branch.dt rfl ?_))
      · rw [if_neg hC] at hK0 hK1
        have hCl : ¬ C.length = 0 := fun h => hC (List.length_eq_zero_iff.1 h)
        have hi1 := hG1.ins frC_len (fun z hz => hz)
        have hi2 := hG2.ins nC_len (fun z hz => hz)
        have h68 : ∀ (t u v z : Nat × Blk) (K2 : Value → Heap → Prop), K2 (.tuple ⟨[zi ((firstV (C.map (·.2))).1 : Int), zi (firstV (C.map (·.2))).2]⟩) (t :: u :: v :: z :: (M1 ++ (M2 ++ H))) → SCalls Tryz.prog 68 [.slice a1 C.length c1] (t :: u :: v :: z :: (M1 ++ (M2 ++ H))) K2 := fun t u v z K2 hk =>
          c68 (hD.mono fun q hq => .tail _ (.tail _ (.tail _ (.tail _ (List.mem_append_right _ (List.mem_append_right _ hq)))))) (hi1.mono fun q hq => .tail _ (.tail _ (.tail _ (.tail _ (List.mem_append_left _ hq))))) hwfC hk
        by_cases hr : (firstV (C.map (·.2))).2 = 0
        · rw [if_pos hr] at hK0 hK1
          obtain ⟨_, hall, _, _, hlt1⟩ := firstV_ok hr
          rw [hr] at h68
          generalize (firstV (C.map (·.2))).1 = k0 at *
          rw [List.length_map] at hlt1
          obtain ⟨⟨w, f0⟩, hx, _⟩ := list_at hlt1
          have hgd : C.getD k0 (0, z0) = (w, f0) := by rw [List.getD_eq_getElem?_getD, hx]; rfl
          rw [hgd] at hK1
          dsimp only at hK1
          have hwl := hlook w f0 (List.mem_of_getElem? hx)
          have hx1 : (C.map (·.2))[k0]? = some f0 := by rw [List.getElem?_map, hx]; rfl
          have hx2 : (C.map (·.1))[k0]? = some w := by rw [List.getElem?_map, hx]; rfl
          have hok0 := List.all_eq_true.1 hall f0 (List.mem_of_getElem? hx1)
          obtain ⟨r1, o1, c1', b1, e1, hrb1, hcc1⟩ := inS_at hi1 frC_len hx1
          obtain ⟨r2, o2, c2', b2, e2, hrb2, hcc2⟩ := inS_at hi2 nC_len hx2
          injection e1 with e1 _ _
          injection e2 with e2 _ _
          subst e1 e2
          have hw0 := hcc2 0 _ rfl
          have hsz : (strOf (encB f0 (decide ((1 : Int) < (upN l : Int))))).size = encN f0 := by rw [strOf_size, encB_len]
          have hen := encN_lt f0
          have hot : decide ((1 : Int) < (upN l : Int)) = !decide (upN l ≤ 1) := by
            by_cases h : upN l ≤ 1
            · rw [decide_eq_true h, decide_eq_false (by omega)]; rfl
            · rw [decide_eq_false h, decide_eq_true (by omega)]; rfl
          rw [← hsz] at hK1 hen
          have hk1 := hK1 rfl
          clear hK0 hK1
          have h23 : ∀ (t u v z : Nat × Blk) (K2 : Value → Heap → Prop), K2 (.tuple ⟨[.string (strOf (encB f0 (decide ((1 : Int) < (upN l : Int))))), zi 0]⟩) (t :: u :: v :: z :: (M1 ++ (M2 ++ H))) → SCalls Tryz.prog 23 [frV f0, .bool (decide ((1 : Int) < (upN l : Int)))] (t :: u :: v :: z :: (M1 ++ (M2 ++ H))) K2 := fun t u v z K2 hk =>
            c23 hok0 (hD.mono fun q hq => .tail _ (.tail _ (.tail _ (.tail _ (List.mem_append_right _ (List.mem_append_right _ hq)))))) hk
          have h69 : ∀ (r e g : Nat) (t z : Nat × Blk) (K2 : Value → Heap → Prop), K2 (.tuple ⟨[]⟩) (rB r (w : Int) (comesV l (strOf (encB f0 (decide ((1 : Int) < (upN l : Int))))).size w (frF l (strOf (encB f0 (decide ((1 : Int) < (upN l : Int))))).size w fl)).bits (comesV l (strOf (encB f0 (decide ((1 : Int) < (upN l : Int))))).size w (frF l (strOf (encB f0 (decide ((1 : Int) < (upN l : Int))))).size w fl)).sent e g l.length (.slice la l.length lc) (strOf (encB f0 (decide ((1 : Int) < (upN l : Int))))).size :: eB e (comesV l (strOf (encB f0 (decide ((1 : Int) < (upN l : Int))))).size w (frF l (strOf (encB f0 (decide ((1 : Int) < (upN l : Int))))).size w fl)).errs l.length :: gB g (comesV l (strOf (encB f0 (decide ((1 : Int) < (upN l : Int))))).size w (frF l (strOf (encB f0 (decide ((1 : Int) < (upN l : Int))))).size w fl)).got l.length :: t :: z :: (M1 ++ (M2 ++ H))) →
              SCalls Tryz.prog 69 [ptr r, .bool (decide ((1 : Int) < (upN l : Int))), .slice fa fl.length fc] (rB r (w : Int) 11 false e g l.length (.slice la l.length lc) (strOf (encB f0 (decide ((1 : Int) < (upN l : Int))))).size :: t :: eB e (List.replicate l.length 0) l.length :: gB g (List.replicate l.length false) l.length :: z :: (M1 ++ (M2 ++ H))) K2 := by
            intro r e g t z K2 hk
            refine SCalls.glue [[rB r (w : Int) 11 false e g l.length (.slice la l.length lc) (strOf (encB f0 (decide ((1 : Int) < (upN l : Int))))).size], [t], [eB e (List.replicate l.length 0) l.length, gB g (List.replicate l.length false) l.length], [z], M1, M2, H] [0, 1, 2, 3, 4, 5, 6] [0, 2, 1, 3, 4, 5, 6] (by decide) (by simp [glue]) ?_
            refine c69 (H := t :: z :: (M1 ++ (M2 ++ H))) (hl.mono fun q hq => .tail _ (.tail _ (List.mem_append_right _ (List.mem_append_right _ hq)))) hl127 (hf.mono fun q hq => .tail _ (.tail _ (List.mem_append_right _ (List.mem_append_right _ hq)))) hok hwl (by omega) (by omega) hot hk
          have hwin : (comesV l (strOf (encB f0 (decide ((1 : Int) < (upN l : Int))))).size w (frF l (strOf (encB f0 (decide ((1 : Int) < (upN l : Int))))).size w fl)).win = (w : Int) := by
            unfold comesV
            split
            · rfl
            · split
              · rfl
              · split <;> rfl
          generalize comesV l (strOf (encB f0 (decide ((1 : Int) < (upN l : Int))))).size w (frF l (strOf (encB f0 (decide ((1 : Int) < (upN l : Int))))).size w fl) = O at *
          obtain ⟨win, bits, sent, errs, got⟩ := O
          dsimp only at hwin hk1 h69
          subst hwin
          have hk := fun (x : Nat × Blk) (t z : Nat × Blk) e g => Keep.glue (K := fun H' => K (.tuple ⟨[oV ⟨(w : Int), bits, sent, errs, got⟩ e g l.length, zi 0]⟩) H') [[x], [eB e errs l.length, gB g got l.length], [t, z], M1, M2, H] [0, 1, 2, 3, 4, 5] [1, 5] [0, 2, 3, 4] (by decide) rfl (hk1 e g)
          have hcC : ¬ ((C.length : Int) = 0) := by omega
          clear hk1 hi1 hi2 hG1 hG2
          repeat' ((conv => whnf); (first | refine Branch.df hcC ?_ | refine Branch.df (by omega) ?_ | with_reducible refine h67 _ _ (fun e g => ?_) | with_reducible refine h68 _ _ _ _ _ ?_ | refine Branch.f rfl ?_ | refine Idx.nat hlt1 ?_ | refine Look.cells (.tail _ (.tail _ (.tail _ (.tail _ (List.mem_append_left _ hrb1))))) rfl hcc1 ?_ | with_reducible refine h23 _ _ _ _ _ ?_ | refine Look.cell (.tail _ (.tail _ (.tail _ (.tail _ (List.mem_append_right _ (List.mem_append_left _ hrb2)))))) hw0 ?_ | with_reducible refine h69 _ _ _ _ _ _ ?_ | exact hk _ _ _ _ _ | refine New.mk (fun _ => ?_) | refine Look.at0 ?_ | refine Cells.row rfl ?_ | refine Put.row rfl ?_ | refine Look.at4 ?_))
        · rw [if_neg hr] at hK0 hK1
          have h := hK0 hr
          clear hK0 hK1
          have hb : decide ((firstV (C.map (·.2))).2 = 0) = false := decide_eq_false hr
          have hk := fun e g (t z : Nat × Blk) => Keep.glue (K := fun H' => K (.tuple ⟨[oZ, zi (firstV (C.map (·.2))).2]⟩) H') [[t, e, g, z], M1, M2, H] [0, 1, 2, 3] [3] [0, 1, 2] (by decide) rfl h
          have hcC : ¬ ((C.length : Int) = 0) := by omega
          clear h hG1 hG2
          repeat' ((conv => whnf); (first | refine Branch.df hcC ?_ | refine Branch.df (by omega) ?_ | with_reducible refine h67 _ _ (fun e g => ?_) | with_reducible refine h68 _ _ _ _ _ ?_ | refine Branch.t (by rw [hb]; rfl) ?_ | exact hk _ _ _ _ | refine New.mk (fun _ => ?_) | refine Look.at0 ?_ | refine Cells.row rfl ?_ | refine Put.row rfl ?_ | refine Look.at3 ?_))
  · rw [if_neg hc] at hK0
    have h := hK0 hc
    clear hK0 hK1
    have hb : decide (chkX l.length fl = 0) = false := decide_eq_false hc
    repeat' ((conv => whnf); (first | with_reducible refine h66 _ _ ?_ | refine Branch.t (by rw [hb]; rfl) ?_ | exact Keep.d1 h | refine New.mk (fun _ => ?_) | refine Look.at0 ?_ | refine Cells.row rfl ?_ | refine Put.row rfl ?_))
end
end Go.Proofs.YtfmggepbcpceiaaGreatDoor


/- Layer 4: a round, the document's, its loops: by walks. -/
set_option linter.unusedVariables false
set_option linter.unusedSimpArgs false
set_option maxRecDepth 100000
set_option maxHeartbeats 4000000
namespace Go.Proofs.YtfmggepbcpceiaaGreatDoor
open Sx
abbrev pB (p : Nat) : Nat × Blk := (p, .row 37 [zi 0, zi 0, .bool false, .slice none 0 0, .slice none 0 0] (0, 0))
abbrev tB (t : Nat) (w b : Int) (s : Bool) (e g n : Nat) : Nat × Blk := (t, .row 37 [zi w, zi b, .bool s, .slice (some ⟨e, 0, none⟩) n n, .slice (some ⟨g, 0, none⟩) n n] (0, 0))
inductive S19a (A0 A1 A4 A8 A9 A10 A11 A12 : Value) : List Value → Prop
  | mk {r2 r3 r5 r6 r7 r13 r14 r15 r16 r17 r18 r19 r20 r21 r22 r23 r24 r25 r26 r27 r28 r29 r30 r31 r32 r33 r34 r35 r36 r37 r38 r39 r40 r41 r42 r43 r44 r45 r46 r47 r48 r49 r50 r51 r52 r53 r54 r55 r56 r57 r58 r59 r60 r61 r62 r63 r64 r65 r66 r67 r68 r69 r70 r71 r72 r73 r74 r75 r76 r77 r78 r79 r80 r81 r82 r83 r84 r85 r86 r87 r88 r89 r90 r91 r92 r93 r94 r95 r96 r97 r98 r99 r100 r101 r102 r103 r104 r105 r106 r107 r108 r109 r110 r111 r112 r113 r114 r115 r116 r117 r118 r119 r120 r121 r122 r123 r124 r125 r126 r127 r128 r129 r130 r131 r132 r133 r134 r135 r136 r137 r138 r139 r140 r141 r142 r143 r144 r145 r146 r147 r148 r149 r150 r151 r152 r153 r154 r155 r156 r157 r158 r159 r160 r161 r162 r163 r164 r165 r166 r167 r168 r169 r170 r171 r172 r173 r174 r175 r176 r177 r178 r179 r180 r181 r182 r183 r184 r185 r186 r187 r188 r189 r190 r191 r192 r193 r194 r195 r196 r197 r198 r199 r200 r201 r202 r203 r204 r205 r206 r207 r208 r209 r210 r211 r212 r213 r214 r215 r216 r217 r218 r219 r220 r221 r222 r223 r224 r225 r226 r227 r228 r229 r230 r231 r232 r233 r234 r235 r236 r237 : Value} : S19a A0 A1 A4 A8 A9 A10 A11 A12 [A0, A1, r2, r3, A4, r5, r6, r7, A8, A9, A10, A11, A12, r13, r14, r15, r16, r17, r18, r19, r20, r21, r22, r23, r24, r25, r26, r27, r28, r29, r30, r31, r32, r33, r34, r35, r36, r37, r38, r39, r40, r41, r42, r43, r44, r45, r46, r47, r48, r49, r50, r51, r52, r53, r54, r55, r56, r57, r58, r59, r60, r61, r62, r63, r64, r65, r66, r67, r68, r69, r70, r71, r72, r73, r74, r75, r76, r77, r78, r79, r80, r81, r82, r83, r84, r85, r86, r87, r88, r89, r90, r91, r92, r93, r94, r95, r96, r97, r98, r99, r100, r101, r102, r103, r104, r105, r106, r107, r108, r109, r110, r111, r112, r113, r114, r115, r116, r117, r118, r119, r120, r121, r122, r123, r124, r125, r126, r127, r128, r129, r130, r131, r132, r133, r134, r135, r136, r137, r138, r139, r140, r141, r142, r143, r144, r145, r146, r147, r148, r149, r150, r151, r152, r153, r154, r155, r156, r157, r158, r159, r160, r161, r162, r163, r164, r165, r166, r167, r168, r169, r170, r171, r172, r173, r174, r175, r176, r177, r178, r179, r180, r181, r182, r183, r184, r185, r186, r187, r188, r189, r190, r191, r192, r193, r194, r195, r196, r197, r198, r199, r200, r201, r202, r203, r204, r205, r206, r207, r208, r209, r210, r211, r212, r213, r214, r215, r216, r217, r218, r219, r220, r221, r222, r223, r224, r225, r226, r227, r228, r229, r230, r231, r232, r233, r234, r235, r236, r237]
inductive S19b (A0 A1 A4 A8 A11 A17 A18 A19 A20 A21 : Value) : List Value → Prop
  | mk {r2 r3 r5 r6 r7 r9 r10 r12 r13 r14 r15 r16 r22 r23 r24 r25 r26 r27 r28 r29 r30 r31 r32 r33 r34 r35 r36 r37 r38 r39 r40 r41 r42 r43 r44 r45 r46 r47 r48 r49 r50 r51 r52 r53 r54 r55 r56 r57 r58 r59 r60 r61 r62 r63 r64 r65 r66 r67 r68 r69 r70 r71 r72 r73 r74 r75 r76 r77 r78 r79 r80 r81 r82 r83 r84 r85 r86 r87 r88 r89 r90 r91 r92 r93 r94 r95 r96 r97 r98 r99 r100 r101 r102 r103 r104 r105 r106 r107 r108 r109 r110 r111 r112 r113 r114 r115 r116 r117 r118 r119 r120 r121 r122 r123 r124 r125 r126 r127 r128 r129 r130 r131 r132 r133 r134 r135 r136 r137 r138 r139 r140 r141 r142 r143 r144 r145 r146 r147 r148 r149 r150 r151 r152 r153 r154 r155 r156 r157 r158 r159 r160 r161 r162 r163 r164 r165 r166 r167 r168 r169 r170 r171 r172 r173 r174 r175 r176 r177 r178 r179 r180 r181 r182 r183 r184 r185 r186 r187 r188 r189 r190 r191 r192 r193 r194 r195 r196 r197 r198 r199 r200 r201 r202 r203 r204 r205 r206 r207 r208 r209 r210 r211 r212 r213 r214 r215 r216 r217 r218 r219 r220 r221 r222 r223 r224 r225 r226 r227 r228 r229 r230 r231 r232 r233 r234 r235 r236 r237 : Value} : S19b A0 A1 A4 A8 A11 A17 A18 A19 A20 A21 [A0, A1, r2, r3, A4, r5, r6, r7, A8, r9, r10, A11, r12, r13, r14, r15, r16, A17, A18, A19, A20, A21, r22, r23, r24, r25, r26, r27, r28, r29, r30, r31, r32, r33, r34, r35, r36, r37, r38, r39, r40, r41, r42, r43, r44, r45, r46, r47, r48, r49, r50, r51, r52, r53, r54, r55, r56, r57, r58, r59, r60, r61, r62, r63, r64, r65, r66, r67, r68, r69, r70, r71, r72, r73, r74, r75, r76, r77, r78, r79, r80, r81, r82, r83, r84, r85, r86, r87, r88, r89, r90, r91, r92, r93, r94, r95, r96, r97, r98, r99, r100, r101, r102, r103, r104, r105, r106, r107, r108, r109, r110, r111, r112, r113, r114, r115, r116, r117, r118, r119, r120, r121, r122, r123, r124, r125, r126, r127, r128, r129, r130, r131, r132, r133, r134, r135, r136, r137, r138, r139, r140, r141, r142, r143, r144, r145, r146, r147, r148, r149, r150, r151, r152, r153, r154, r155, r156, r157, r158, r159, r160, r161, r162, r163, r164, r165, r166, r167, r168, r169, r170, r171, r172, r173, r174, r175, r176, r177, r178, r179, r180, r181, r182, r183, r184, r185, r186, r187, r188, r189, r190, r191, r192, r193, r194, r195, r196, r197, r198, r199, r200, r201, r202, r203, r204, r205, r206, r207, r208, r209, r210, r211, r212, r213, r214, r215, r216, r217, r218, r219, r220, r221, r222, r223, r224, r225, r226, r227, r228, r229, r230, r231, r232, r233, r234, r235, r236, r237]
inductive S19c (A0 A4 A8 A17 A18 A19 A23 : Value) : List Value → Prop
  | mk {r1 r2 r3 r5 r6 r7 r9 r10 r11 r12 r13 r14 r15 r16 r20 r21 r22 r24 r25 r26 r27 r28 r29 r30 r31 r32 r33 r34 r35 r36 r37 r38 r39 r40 r41 r42 r43 r44 r45 r46 r47 r48 r49 r50 r51 r52 r53 r54 r55 r56 r57 r58 r59 r60 r61 r62 r63 r64 r65 r66 r67 r68 r69 r70 r71 r72 r73 r74 r75 r76 r77 r78 r79 r80 r81 r82 r83 r84 r85 r86 r87 r88 r89 r90 r91 r92 r93 r94 r95 r96 r97 r98 r99 r100 r101 r102 r103 r104 r105 r106 r107 r108 r109 r110 r111 r112 r113 r114 r115 r116 r117 r118 r119 r120 r121 r122 r123 r124 r125 r126 r127 r128 r129 r130 r131 r132 r133 r134 r135 r136 r137 r138 r139 r140 r141 r142 r143 r144 r145 r146 r147 r148 r149 r150 r151 r152 r153 r154 r155 r156 r157 r158 r159 r160 r161 r162 r163 r164 r165 r166 r167 r168 r169 r170 r171 r172 r173 r174 r175 r176 r177 r178 r179 r180 r181 r182 r183 r184 r185 r186 r187 r188 r189 r190 r191 r192 r193 r194 r195 r196 r197 r198 r199 r200 r201 r202 r203 r204 r205 r206 r207 r208 r209 r210 r211 r212 r213 r214 r215 r216 r217 r218 r219 r220 r221 r222 r223 r224 r225 r226 r227 r228 r229 r230 r231 r232 r233 r234 r235 r236 r237 : Value} : S19c A0 A4 A8 A17 A18 A19 A23 [A0, r1, r2, r3, A4, r5, r6, r7, A8, r9, r10, r11, r12, r13, r14, r15, r16, A17, A18, A19, r20, r21, r22, A23, r24, r25, r26, r27, r28, r29, r30, r31, r32, r33, r34, r35, r36, r37, r38, r39, r40, r41, r42, r43, r44, r45, r46, r47, r48, r49, r50, r51, r52, r53, r54, r55, r56, r57, r58, r59, r60, r61, r62, r63, r64, r65, r66, r67, r68, r69, r70, r71, r72, r73, r74, r75, r76, r77, r78, r79, r80, r81, r82, r83, r84, r85, r86, r87, r88, r89, r90, r91, r92, r93, r94, r95, r96, r97, r98, r99, r100, r101, r102, r103, r104, r105, r106, r107, r108, r109, r110, r111, r112, r113, r114, r115, r116, r117, r118, r119, r120, r121, r122, r123, r124, r125, r126, r127, r128, r129, r130, r131, r132, r133, r134, r135, r136, r137, r138, r139, r140, r141, r142, r143, r144, r145, r146, r147, r148, r149, r150, r151, r152, r153, r154, r155, r156, r157, r158, r159, r160, r161, r162, r163, r164, r165, r166, r167, r168, r169, r170, r171, r172, r173, r174, r175, r176, r177, r178, r179, r180, r181, r182, r183, r184, r185, r186, r187, r188, r189, r190, r191, r192, r193, r194, r195, r196, r197, r198, r199, r200, r201, r202, r203, r204, r205, r206, r207, r208, r209, r210, r211, r212, r213, r214, r215, r216, r217, r218, r219, r220, r221, r222, r223, r224, r225, r226, r227, r228, r229, r230, r231, r232, r233, r234, r235, r236, r237]
inductive S19d (A0 A4 A8 A17 A20 A24 : Value) : List Value → Prop
  | mk {r1 r2 r3 r5 r6 r7 r9 r10 r11 r12 r13 r14 r15 r16 r18 r19 r21 r22 r23 r25 r26 r27 r28 r29 r30 r31 r32 r33 r34 r35 r36 r37 r38 r39 r40 r41 r42 r43 r44 r45 r46 r47 r48 r49 r50 r51 r52 r53 r54 r55 r56 r57 r58 r59 r60 r61 r62 r63 r64 r65 r66 r67 r68 r69 r70 r71 r72 r73 r74 r75 r76 r77 r78 r79 r80 r81 r82 r83 r84 r85 r86 r87 r88 r89 r90 r91 r92 r93 r94 r95 r96 r97 r98 r99 r100 r101 r102 r103 r104 r105 r106 r107 r108 r109 r110 r111 r112 r113 r114 r115 r116 r117 r118 r119 r120 r121 r122 r123 r124 r125 r126 r127 r128 r129 r130 r131 r132 r133 r134 r135 r136 r137 r138 r139 r140 r141 r142 r143 r144 r145 r146 r147 r148 r149 r150 r151 r152 r153 r154 r155 r156 r157 r158 r159 r160 r161 r162 r163 r164 r165 r166 r167 r168 r169 r170 r171 r172 r173 r174 r175 r176 r177 r178 r179 r180 r181 r182 r183 r184 r185 r186 r187 r188 r189 r190 r191 r192 r193 r194 r195 r196 r197 r198 r199 r200 r201 r202 r203 r204 r205 r206 r207 r208 r209 r210 r211 r212 r213 r214 r215 r216 r217 r218 r219 r220 r221 r222 r223 r224 r225 r226 r227 r228 r229 r230 r231 r232 r233 r234 r235 r236 r237 : Value} : S19d A0 A4 A8 A17 A20 A24 [A0, r1, r2, r3, A4, r5, r6, r7, A8, r9, r10, r11, r12, r13, r14, r15, r16, A17, r18, r19, A20, r21, r22, r23, A24, r25, r26, r27, r28, r29, r30, r31, r32, r33, r34, r35, r36, r37, r38, r39, r40, r41, r42, r43, r44, r45, r46, r47, r48, r49, r50, r51, r52, r53, r54, r55, r56, r57, r58, r59, r60, r61, r62, r63, r64, r65, r66, r67, r68, r69, r70, r71, r72, r73, r74, r75, r76, r77, r78, r79, r80, r81, r82, r83, r84, r85, r86, r87, r88, r89, r90, r91, r92, r93, r94, r95, r96, r97, r98, r99, r100, r101, r102, r103, r104, r105, r106, r107, r108, r109, r110, r111, r112, r113, r114, r115, r116, r117, r118, r119, r120, r121, r122, r123, r124, r125, r126, r127, r128, r129, r130, r131, r132, r133, r134, r135, r136, r137, r138, r139, r140, r141, r142, r143, r144, r145, r146, r147, r148, r149, r150, r151, r152, r153, r154, r155, r156, r157, r158, r159, r160, r161, r162, r163, r164, r165, r166, r167, r168, r169, r170, r171, r172, r173, r174, r175, r176, r177, r178, r179, r180, r181, r182, r183, r184, r185, r186, r187, r188, r189, r190, r191, r192, r193, r194, r195, r196, r197, r198, r199, r200, r201, r202, r203, r204, r205, r206, r207, r208, r209, r210, r211, r212, r213, r214, r215, r216, r217, r218, r219, r220, r221, r222, r223, r224, r225, r226, r227, r228, r229, r230, r231, r232, r233, r234, r235, r236, r237]
section
variable {K : Value → Heap → Prop} {H : Heap} {l : List Sn} {fl : List (Int × Int)} {la fa : Option Addr} {lc fc : Nat}
theorem l19a {Q : Post} {S0 : List Value} {F H0 : Heap} {p t q1 q2 : Nat} (hl : InS snC 14 (.slice la l.length lc) H l) (hl127 : l.length ≤ 127) (hp : H0.Perm (F ++ H))
    (hS : S19a (.slice la l.length lc) (.slice fa fl.length fc) (ptr p) (ptr t) (.slice (some ⟨q1, 0, none⟩) 0 0) (.slice (some ⟨q2, 0, none⟩) 0 0) (zi 0) (zi 0) S0)
    (hQ : ∀ S a1 c1 M1 a2 c2 M2, Grow frC 12 32 (.slice a1 (cand 0 l).length c1) ((cand 0 l).map (·.2)) M1 → Grow nC 1 3 (.slice a2 (cand 0 l).length c2) ((cand 0 l).map (·.1)) M2 →
      S19a (.slice la l.length lc) (.slice fa fl.length fc) (ptr p) (ptr t) (.slice a1 (cand 0 l).length c1) (.slice a2 (cand 0 l).length c2) (zi (upN l : Int)) (zi (l.length : Int)) S → Q (.exit 0) S (F ++ (M1 ++ (M2 ++ H)))) :
    SLoop Tryz.prog X19_l3 Q S0 ((q2, .row 3 [] (0, 0)) :: (q1, .row 32 [] (0, 0)) :: H0) := by
  refine SLoop.toBuf (A := []) (SLoop.toBuf (A := [_]) ?_)
  refine SLoop.keep (Keep.perm ((q2, .buf 3 [] 0) :: (q1, .buf 32 [] 0) :: (F ++ H)) (.cons _ (.cons _ hp)) ?_)
  refine SLoop.invA (fun (k : Nat) S H' => k ≤ l.length ∧ ∃ a1 c1 M1 a2 c2 M2, Grow frC 12 32 (.slice a1 (cand 0 (l.take k)).length c1) ((cand 0 (l.take k)).map (·.2)) M1 ∧ Grow nC 1 3 (.slice a2 (cand 0 (l.take k)).length c2) ((cand 0 (l.take k)).map (·.1)) M2 ∧
      S19a (.slice la l.length lc) (.slice fa fl.length fc) (ptr p) (ptr t) (.slice a1 (cand 0 (l.take k)).length c1) (.slice a2 (cand 0 (l.take k)).length c2) (zi (upN (l.take k) : Int)) (zi (k : Int)) S ∧
      H' = F ++ (M1 ++ (M2 ++ H))) (fun k => l.length - k) 0 (Keep.glue [[(q2, .buf 3 [] (0 * 1))], [(q1, .buf 32 [] (0 * 12))], F, H] [0, 1, 2, 3] [2, 1, 0, 3] [] (by decide) rfl ⟨Nat.zero_le _, some ⟨q1, 0, none⟩, 0, [(q1, .buf 32 [] (0 * 12))], some ⟨q2, 0, none⟩, 0, [(q2, .buf 3 [] (0 * 1))], Grow.zero, Grow.zero, hS, rfl⟩) ?_
  clear hS
  rintro k S H' ⟨hk, a1, c1, M1, a2, c2, M2, hG1, hG2, hS, rfl⟩ R hR
  by_cases hlt : k < l.length
  · obtain ⟨sn, hsn, _, htake⟩ := list_at hlt
    obtain ⟨lr, lo, lc2, lb, e1, hlb, hlcc⟩ := inS_at hl snC_len hsn
    injection e1 with e1 _ e3
    subst e1
    have htl : (l.take k).length = k := by rw [List.length_take]; omega
    have hcs := cand_snoc sn (l.take k) 0
    rw [← htake, htl, Nat.zero_add] at hcs
    have hus := upN_snoc (l.take k) sn
    rw [← htake] at hus
    have hul := upN_le (l.take k)
    have hcl := cand_len (l.take k) 0
    rw [htl] at hul hcl
    have hm : (lr, lb) ∈ F ++ (M1 ++ (M2 ++ H)) := List.mem_append_right _ (List.mem_append_right _ (List.mem_append_right _ hlb))
    have hnext : ∀ S H2 a1' c1' M1' a2' c2' M2', Grow frC 12 32 (.slice a1' (cand 0 (l.take (k + 1))).length c1') ((cand 0 (l.take (k + 1))).map (·.2)) M1' → Grow nC 1 3 (.slice a2' (cand 0 (l.take (k + 1))).length c2') ((cand 0 (l.take (k + 1))).map (·.1)) M2' →
        S19a (.slice (some ⟨lr, lo, none⟩) l.length lc) (.slice fa fl.length fc) (ptr p) (ptr t) (.slice a1' (cand 0 (l.take (k + 1))).length c1') (.slice a2' (cand 0 (l.take (k + 1))).length c2') (zi (upN (l.take (k + 1)) : Int)) (zi ((k + 1 : Nat) : Int)) S →
        Keep H2 (fun H3 => H3 = F ++ (M1' ++ (M2' ++ H))) → R S H2 := fun S H2 a1' c1' M1' a2' c2' M2' g1 g2 g3 g4 =>
      hR (k + 1) S H2 (by omega) (g4.mono fun H3 e => ⟨hlt, a1', c1', M1', a2', c2', M2', g1, g2, g3, e⟩)
    rw [hcs, hus] at hnext
    clear hR hQ htake hcs hus
    obtain ⟨up, sends, f⟩ := sn
    dsimp only at hnext hlcc
    have hc0 := hlcc 0 _ rfl
    have hc1 := hlcc 1 _ rfl
    have hcf : ∀ i v, (frC f)[i]? = some v → lb.cell (lo + k * 14 + 2 + i) = some v := fun i v hv => by rw [Nat.add_assoc]; exact hlcc (2 + i) v (by rw [Nat.add_comm]; exact hv)
    generalize hC : cand 0 (l.take k) = C at *
    generalize hU : upN (l.take k) = U at *
    cases hS
    cases up with
    | false =>
      have hn := hnext
      simp only [Bool.false_and, if_neg (show ¬ false = true by decide), List.append_nil] at hn
      clear hnext
      repeat' ((conv => whnf); (first | refine Branch.dt (by omega) ?_ | refine Branch.t rfl ?_ | refine Idx.nat (by omega) ?_ | refine Look.cell hm hc0 ?_ | exact hn _ _ _ _ _ _ _ _ hG1 hG2 .mk (Keep.all rfl) | with_reducible refine Val.i64 (by omega) (by omega) ?_))
    | true =>
      cases sends with
      | false =>
        have hn := hnext
        simp only [Bool.true_and, if_neg (show ¬ false = true by decide), if_true, List.append_nil] at hn
        clear hnext
        repeat' ((conv => whnf); (first | refine Branch.dt (by omega) ?_ | refine Branch.f rfl ?_ | refine Idx.nat (by omega) ?_ | refine Look.cell hm hc0 ?_ | refine Look.cell hm hc1 ?_ | exact hn _ _ _ _ _ _ _ _ hG1 hG2 .mk (Keep.all rfl) | with_reducible refine Val.i64 (by omega) (by omega) ?_))
      | true =>
        have hn := hnext
        simp only [Bool.true_and, if_true, List.map_append, List.map_cons, List.map_nil, List.length_append, List.length_cons, List.length_nil] at hn
        clear hnext
        have ha1 : ∀ q1 (o : Oper) (xs xx : Operand) (K2 : Value → Heap → Prop), o.op = .call { callee := .builtin .append, args := #[xs, xx], argTypes := #[22, 22] } → (∀ a c M, Grow frC 12 32 (.slice a (C.length + 1) c) (C.map (·.2) ++ [f]) M → K2 (.slice a (C.length + 1) c) (M ++ ((q1, .row 32 (frC f) (0, 0)) :: (F ++ (M2 ++ H))))) →
            RawV Tryz.prog o [.slice a1 C.length c1, .slice (some ⟨q1, 0, none⟩) 1 1] ((q1, .row 32 (frC f) (0, 0)) :: (F ++ (M1 ++ (M2 ++ H)))) K2 := by
          intro q1 o xs xx K2 ho hk
          refine RawV.grow1 (A := (q1, .row 32 (frC f) (0, 0)) :: F) (B := M2 ++ H) (x := f) (bytes := 24) hG1 rfl (.head _) ho (by kernel_rfl) (by decide) frC_len (frC_one f) (by rw [List.length_map]; simp only [maxLen]; omega) (by rw [List.length_map]; omega) (fun a c M' g1 => ?_)
          rw [List.length_map] at g1 ⊢
          exact hk a c M' g1
        have ha2 : ∀ q2 (M1' X : Heap) (o : Oper) (xs xx : Operand) (K2 : Value → Heap → Prop), o.op = .call { callee := .builtin .append, args := #[xs, xx], argTypes := #[96, 96] } → (∀ a c M, Grow nC 1 3 (.slice a (C.length + 1) c) (C.map (·.1) ++ [k]) M → K2 (.slice a (C.length + 1) c) (M ++ ((q2, .row 3 (nC k) (0, 0)) :: (M1' ++ X) ++ H))) →
            RawV Tryz.prog o [.slice a2 C.length c2, .slice (some ⟨q2, 0, none⟩) 1 1] ((q2, .row 3 (nC k) (0, 0)) :: (M1' ++ X) ++ (M2 ++ H)) K2 := by
          intro q2 M1' X o xs xx K2 ho hk
          refine RawV.grow1 (A := (q2, .row 3 (nC k) (0, 0)) :: (M1' ++ X)) (B := H) (x := k) (bytes := 8) hG2 rfl (.head _) ho (by kernel_rfl) (by decide) nC_len (nC_one k) (by rw [List.length_map]; simp only [maxLen]; omega) (by rw [List.length_map]; omega) (fun a c M' g1 => ?_)
          rw [List.length_map] at g1 ⊢
          exact hk a c M' g1
        have ha2' : ∀ q2 (M1' : Heap) (q1 : Nat × Blk) (o : Oper) (xs xx : Operand) (K2 : Value → Heap → Prop), o.op = .call { callee := .builtin .append, args := #[xs, xx], argTypes := #[96, 96] } → (∀ a c M, Grow nC 1 3 (.slice a (C.length + 1) c) (C.map (·.1) ++ [k]) M → K2 (.slice a (C.length + 1) c) (M ++ ((q2, .row 3 (nC k) (0, 0)) :: (M1' ++ (q1 :: (F ++ H)))))) →
            RawV Tryz.prog o [.slice a2 C.length c2, .slice (some ⟨q2, 0, none⟩) 1 1] ((q2, .row 3 (nC k) (0, 0)) :: (M1' ++ (q1 :: (F ++ (M2 ++ H))))) K2 := by
          intro q2 M1' q1 o xs xx K2 ho hk
          have := ha2 q2 M1' (q1 :: F) o xs xx K2 ho (fun a c M g => by simpa using hk a c M g)
          simpa using this
        repeat' ((conv => whnf); (first | refine Branch.dt (by omega) ?_ | refine Branch.f rfl ?_ | refine Branch.t rfl ?_ | refine Idx.nat (by omega) ?_ | refine Look.cell hm hc0 ?_ | refine Look.cell hm hc1 ?_ | refine Look.cells hm rfl hcf ?_ | with_reducible refine ha1 _ _ _ _ _ rfl (fun a1' c1' M1' g1 => ?_) | refine ha2' _ _ _ _ _ _ _ rfl (fun a2' c2' M2' g2 => ?_) | exact hn _ _ _ _ _ _ _ _ g1 g2 .mk (Keep.glue [M2', [_], M1', [_], F, H] [0, 1, 2, 3, 4, 5] [4, 2, 0, 5] [1, 3] (by decide) rfl rfl) | refine New.mk (fun _ => ?_) | with_reducible refine Val.i64 (by omega) (by omega) ?_))
  · obtain rfl : k = l.length := by omega
    rw [List.take_length] at hG1 hG2 hS
    have hq := fun S => hQ S a1 c1 M1 a2 c2 M2 hG1 hG2
    clear hR hQ
    cases hS
    repeat' ((conv => whnf); (first | refine Branch.df (by omega) ?_ | exact hq _ .mk))
theorem l19b {Q : Post} {S0 : List Value} {p t e g m w nn : Nat} {b0 : Int} {sent : Bool} {uv : Value} (ht : tB t (w : Int) b0 sent e g m ∈ H) (hl : InS snC 14 (.slice la l.length lc) H l) (hf : InS xC 2 (.slice fa fl.length fc) H fl)
    (hok : ∀ x ∈ fl, 0 ≤ x.1 ∧ x.1 < (l.length : Int)) (hnn : nn ≤ 1000)
    (hS : S19b (.slice la l.length lc) (.slice fa fl.length fc) (ptr p) (ptr t) uv (zi (nn : Int)) (zi (nn : Int)) (zi (-1)) (.bool false) (zi 0) S0)
    (hQ : ∀ S, S19b (.slice la l.length lc) (.slice fa fl.length fc) (ptr p) (ptr t) uv (zi (nn : Int)) (zi (if (frF l nn w fl).any then (frF l nn w fl).bit else (nn : Int))) (zi (if (frF l nn w fl).any then (frF l nn w fl).node else -1)) (.bool (frF l nn w fl).late) (zi (fl.length : Int)) S → Q (.exit 2) S H) :
    SLoop Tryz.prog X19_l2 Q S0 H := by
  have hml := hf.sv
  obtain ⟨_, _, e0, hml⟩ := hml
  simp only [maxLen] at hml
  refine SLoop.invA (fun (k : Nat) S H' => k ≤ fl.length ∧ (let s := (fl.take k).foldl (frS l nn w) ⟨false, 0, 0, false⟩; S19b (.slice la l.length lc) (.slice fa fl.length fc) (ptr p) (ptr t) uv (zi (nn : Int)) (zi (if s.any then s.bit else (nn : Int))) (zi (if s.any then s.node else -1)) (.bool s.late) (zi (k : Int)) S) ∧ H' = H) (fun k => fl.length - k) 0 (Keep.all ⟨Nat.zero_le _, hS, rfl⟩) ?_
  clear hS
  rintro k S H' ⟨hk, hS, rfl⟩ R hR
  dsimp only at hS hR
  by_cases hlt : k < fl.length
  · obtain ⟨⟨a, b⟩, hx, _, htake⟩ := list_at hlt
    obtain ⟨ha0, haL⟩ := hok _ (List.mem_of_getElem? hx)
    dsimp only at ha0 haL
    obtain ⟨ro, oo, c, bb, e1, hrb, hcc⟩ := inS_at hf xC_len hx
    injection e1 with e1 _ e3
    subst e1
    have hai : a.toNat < l.length := by omega
    obtain ⟨sn, hsn, _⟩ := list_at hai
    obtain ⟨lr, lo, lc2, lb, e1, hlb, hlcc⟩ := inS_at hl snC_len hsn
    injection e1 with e1 _ _
    subst e1
    have hc0 : lb.cell (lo + a.toNat * 14 + 0) = some (.bool sn.up) := hlcc 0 _ rfl
    have hup := upAt_of ha0 hsn
    have hnext0 : ∀ s', ((fl.take k).foldl (frS l nn w) ⟨false, 0, 0, false⟩) = s' → ∀ s2, frS l nn w s' (a, b) = s2 → ∀ S, S19b (.slice (some ⟨lr, lo, none⟩) l.length lc) (.slice (some ⟨ro, oo, none⟩) fl.length fc) (ptr p) (ptr t) uv (zi (nn : Int)) (zi (if s2.any then s2.bit else (nn : Int))) (zi (if s2.any then s2.node else -1)) (.bool s2.late) (zi ((k + 1 : Nat) : Int)) S → ∀ q, R S (q :: H') := by
      intro s' e1 s2 e2 S hS q
      have e3 : (fl.take (k + 1)).foldl (frS l nn w) ⟨false, 0, 0, false⟩ = s2 := by rw [htake, List.foldl_append, e1]; exact e2
      refine hR (k + 1) S _ (by omega) (Keep.d1 ⟨hlt, ?_, rfl⟩)
      rw [e3]; exact hS
    clear hR hQ htake hok
    generalize (fl.take k).foldl (frS l nn w) ⟨false, 0, 0, false⟩ = s at hS hnext0
    have hnext := hnext0 s rfl
    clear hnext0
    obtain ⟨any, node, bit, late⟩ := s
    dsimp only at hS
    have g0 : (Blk.row 37 [zi (w : Int), zi b0, .bool sent, .slice (some ⟨e, 0, none⟩) m m, .slice (some ⟨g, 0, none⟩) m m] (0, 0)).cell 0 = some (zi (w : Int)) := rfl
    unfold frS at hnext
    dsimp only at hnext
    rw [hup] at hnext
    generalize hU : sn.up = U at *
    cases hS
    cases U with
    | false =>
      have hn := hnext _ (if_pos (.inl rfl))
      clear hnext
      repeat' ((conv => whnf); (first | refine Look.cells hrb rfl hcc ?_ | refine Look.cell (.tail _ ht) g0 ?_ | refine Look.cell (.tail _ hlb) hc0 ?_ | refine Idx.of a.toNat (by omega) hai ?_ | refine Branch.t rfl ?_ | exact hn _ .mk _ | refine New.mk (fun _ => ?_) | refine Look.at0 ?_ | refine Cell.row ?_ | refine Put.row rfl ?_ | with_reducible refine Val.i64 (by omega) (by omega) ?_ | refine Branch.dt (by omega) ?_ | refine Idx.nat (by omega) ?_))
    | true =>
      by_cases hb : (nn : Int) ≤ b
      · have hn := hnext _ (if_pos (.inr hb))
        clear hnext
        repeat' ((conv => whnf); (first | refine Look.cells hrb rfl hcc ?_ | refine Look.cell (.tail _ ht) g0 ?_ | refine Look.cell (.tail _ hlb) hc0 ?_ | refine Idx.of a.toNat (by omega) hai ?_ | refine Branch.df (by omega) ?_ | refine Branch.f rfl ?_ | exact hn _ .mk _ | refine New.mk (fun _ => ?_) | refine Look.at0 ?_ | refine Cell.row ?_ | refine Put.row rfl ?_ | with_reducible refine Val.i64 (by omega) (by omega) ?_ | refine Branch.dt (by omega) ?_ | refine Idx.nat (by omega) ?_))
      · by_cases hb1 : b = (nn : Int) - 1
        · have hn := hnext _ (by rw [if_neg (by simp; omega), if_pos hb1])
          clear hnext
          by_cases hw : a = (w : Int)
          · rw [decide_eq_true hw, Bool.or_true] at hn
            repeat' ((conv => whnf); (first | refine Look.cells hrb rfl hcc ?_ | refine Look.cell (.tail _ ht) g0 ?_ | refine Look.cell (.tail _ hlb) hc0 ?_ | refine Idx.of a.toNat (by omega) hai ?_ | refine Branch.dt hb1 ?_ | refine Branch.dt hw ?_ | refine Branch.df (by omega) ?_ | refine Branch.f rfl ?_ | exact hn _ .mk _ | refine New.mk (fun _ => ?_) | refine Look.at0 ?_ | refine Cell.row ?_ | refine Put.row rfl ?_ | with_reducible refine Val.i64 (by omega) (by omega) ?_ | refine Branch.dt (by omega) ?_ | refine Idx.nat (by omega) ?_))
          · rw [decide_eq_false hw, Bool.or_false] at hn
            repeat' ((conv => whnf); (first | refine Look.cells hrb rfl hcc ?_ | refine Look.cell (.tail _ ht) g0 ?_ | refine Look.cell (.tail _ hlb) hc0 ?_ | refine Idx.of a.toNat (by omega) hai ?_ | refine Branch.dt hb1 ?_ | refine Branch.df hw ?_ | refine Branch.df (by omega) ?_ | refine Branch.f rfl ?_ | exact hn _ .mk _ | refine New.mk (fun _ => ?_) | refine Look.at0 ?_ | refine Cell.row ?_ | refine Put.row rfl ?_ | with_reducible refine Val.i64 (by omega) (by omega) ?_ | refine Branch.dt (by omega) ?_ | refine Idx.nat (by omega) ?_))
        · have hn := fun s2 (e : (if any = false ∨ b < bit ∨ (b = bit ∧ a < node) then (⟨true, a, b, late⟩ : Fr) else ⟨any, node, bit, late⟩) = s2) => hnext s2 (by rw [if_neg (by simp; omega), if_neg hb1]; exact e)
          clear hnext
          have hb2 : b < (nn : Int) - 1 := by omega
          cases any with
          | false =>
            have hn := hn _ (if_pos (.inl rfl))
            have hb3 : b < (nn : Int) := by omega
            repeat' ((conv => whnf); (first | refine Look.cells hrb rfl hcc ?_ | refine Look.cell (.tail _ ht) g0 ?_ | refine Look.cell (.tail _ hlb) hc0 ?_ | refine Idx.of a.toNat (by omega) hai ?_ | refine Branch.df hb1 ?_ | refine Branch.dt hb2 ?_ | refine Branch.dt hb3 ?_ | refine Branch.t rfl ?_ | refine Branch.f rfl ?_ | exact hn _ .mk _ | refine New.mk (fun _ => ?_) | refine Look.at0 ?_ | refine Cell.row ?_ | refine Put.row rfl ?_ | with_reducible refine Val.i64 (by omega) (by omega) ?_ | refine Branch.dt (by omega) ?_ | refine Idx.nat (by omega) ?_ | refine SDraw.all (by kernel_rfl) ?_))
          | true =>
            by_cases hc1 : b < bit
            · have hn := hn _ (if_pos (.inr (.inl hc1)))
              repeat' ((conv => whnf); (first | refine Look.cells hrb rfl hcc ?_ | refine Look.cell (.tail _ ht) g0 ?_ | refine Look.cell (.tail _ hlb) hc0 ?_ | refine Idx.of a.toNat (by omega) hai ?_ | refine Branch.df hb1 ?_ | refine Branch.dt hb2 ?_ | refine Branch.dt hc1 ?_ | refine Branch.t rfl ?_ | refine Branch.f rfl ?_ | exact hn _ .mk _ | refine New.mk (fun _ => ?_) | refine Look.at0 ?_ | refine Cell.row ?_ | refine Put.row rfl ?_ | with_reducible refine Val.i64 (by omega) (by omega) ?_ | refine Branch.dt (by omega) ?_ | refine Idx.nat (by omega) ?_ | refine SDraw.all (by kernel_rfl) ?_))
            · by_cases hc2 : b = bit
              · by_cases hc3 : a < node
                · have hn := hn _ (if_pos (.inr (.inr ⟨hc2, hc3⟩)))
                  repeat' ((conv => whnf); (first | refine Look.cells hrb rfl hcc ?_ | refine Look.cell (.tail _ ht) g0 ?_ | refine Look.cell (.tail _ hlb) hc0 ?_ | refine Idx.of a.toNat (by omega) hai ?_ | refine Branch.df hb1 ?_ | refine Branch.dt hb2 ?_ | refine Branch.df hc1 ?_ | refine Branch.dt hc2 ?_ | refine Branch.dt hc3 ?_ | refine Branch.t rfl ?_ | refine Branch.f rfl ?_ | exact hn _ .mk _ | refine New.mk (fun _ => ?_) | refine Look.at0 ?_ | refine Cell.row ?_ | refine Put.row rfl ?_ | with_reducible refine Val.i64 (by omega) (by omega) ?_ | refine Branch.dt (by omega) ?_ | refine Idx.nat (by omega) ?_ | refine SDraw.all (by kernel_rfl) ?_))
                · have hn := hn _ (if_neg (by simp; omega))
                  repeat' ((conv => whnf); (first | refine Look.cells hrb rfl hcc ?_ | refine Look.cell (.tail _ ht) g0 ?_ | refine Look.cell (.tail _ hlb) hc0 ?_ | refine Idx.of a.toNat (by omega) hai ?_ | refine Branch.df hb1 ?_ | refine Branch.dt hb2 ?_ | refine Branch.df hc1 ?_ | refine Branch.dt hc2 ?_ | refine Branch.df hc3 ?_ | refine Branch.f rfl ?_ | exact hn _ .mk _ | refine New.mk (fun _ => ?_) | refine Look.at0 ?_ | refine Cell.row ?_ | refine Put.row rfl ?_ | with_reducible refine Val.i64 (by omega) (by omega) ?_ | refine Branch.dt (by omega) ?_ | refine Idx.nat (by omega) ?_))
              · have hn := hn _ (if_neg (by simp; omega))
                repeat' ((conv => whnf); (first | refine Look.cells hrb rfl hcc ?_ | refine Look.cell (.tail _ ht) g0 ?_ | refine Look.cell (.tail _ hlb) hc0 ?_ | refine Idx.of a.toNat (by omega) hai ?_ | refine Branch.df hb1 ?_ | refine Branch.dt hb2 ?_ | refine Branch.df hc1 ?_ | refine Branch.df hc2 ?_ | refine Branch.f rfl ?_ | exact hn _ .mk _ | refine New.mk (fun _ => ?_) | refine Look.at0 ?_ | refine Cell.row ?_ | refine Put.row rfl ?_ | with_reducible refine Val.i64 (by omega) (by omega) ?_ | refine Branch.dt (by omega) ?_ | refine Idx.nat (by omega) ?_))
  · obtain rfl : k = fl.length := by omega
    rw [List.take_length] at hS
    unfold frF at hQ
    have hq := fun S hS => hQ S hS
    clear hR hQ
    cases hS
    repeat' ((conv => whnf); (first | refine Branch.df (by omega) ?_ | exact hq _ .mk))
end
end Go.Proofs.YtfmggepbcpceiaaGreatDoor


/- Layer 4: a round, the document's: by walks. -/
set_option linter.unusedVariables false
set_option linter.unusedSimpArgs false
set_option maxRecDepth 100000
set_option maxHeartbeats 4000000
namespace Go.Proofs.YtfmggepbcpceiaaGreatDoor
open Sx
section
variable {K : Value → Heap → Prop} {H X : Heap} {l : List Sn} {fl : List (Int × Int)} {la fa : Option Addr} {lc fc : Nat}
theorem l19c {Q : Post} {S0 : List Value} {p t e g w nn : Nat} {atv byv : Value} (hl : InS snC 14 (.slice la l.length lc) X l) (hl127 : l.length ≤ 127)
    (hS : S19c (.slice la l.length lc) (ptr p) (ptr t) (zi (nn : Int)) atv byv (zi 0) S0)
    (hQ : ∀ S, S19c (.slice la l.length lc) (ptr p) (ptr t) (zi (nn : Int)) atv byv (zi (l.length : Int)) S → Q (.exit 4) S (tB t (w : Int) 11 false e g l.length :: eB e (stfE l) l.length :: X)) :
    SLoop Tryz.prog X19_l1 Q S0 (tB t (w : Int) 11 false e g l.length :: eB e (List.replicate l.length 0) l.length :: X) := by
  have hlen : (stfE l).length = (List.replicate l.length (0 : Int)).length := by rw [stfE_len]; simp
  refine SLoop.invA (fun (k : Nat) S H' => k ≤ l.length ∧ S19c (.slice la l.length lc) (ptr p) (ptr t) (zi (nn : Int)) atv byv (zi (k : Int)) S ∧ H' = tB t (w : Int) 11 false e g l.length :: eB e (mixL (stfE l) (List.replicate l.length 0) k) l.length :: X) (fun k => l.length - k) 0 (Keep.all ⟨Nat.zero_le _, hS, rfl⟩) ?_
  rintro k S H' ⟨hk, hS, rfl⟩ R hR
  cases hS
  by_cases hlt : k < l.length
  · obtain ⟨sn, hsn, _⟩ := list_at hlt
    obtain ⟨lr, lo, lc2, lb, e1, hlb, hlcc⟩ := inS_at hl snC_len hsn
    injection e1 with e1 _ e3
    subst e1
    have hat := stfE_at hsn
    have hml2 := mix_len (k := k) hlen (by rw [stfE_len]; omega)
    rw [stfE_len] at hml2
    have hi : k < (mixL (stfE l) (List.replicate l.length 0) k).length := by omega
    have hnext := fun S hS E (hE : E = mixL (stfE l) (List.replicate l.length 0) (k + 1)) => hR (k + 1) S (tB t (w : Int) 11 false e g l.length :: eB e E l.length :: X) (by omega) (Keep.all ⟨hlt, hS, by rw [hE]⟩)
    obtain ⟨up, sends, f⟩ := sn
    dsimp only at hat hlcc
    have hc0 := hlcc 0 _ rfl
    cases up with
    | true =>
      have hset := mix_set hlen hat
      have hn := fun S hS => hnext S hS _ hset
      clear hR hnext hQ
      repeat' ((conv => whnf); (first | refine Branch.dt (by omega) ?_ | refine Branch.t rfl ?_ | refine Idx.nat (by omega) ?_ | refine Look.cell (.tail _ (.tail _ hlb)) hc0 ?_ | refine Put.nthG (g := zi) 20 hi ?_ | exact hn _ .mk | refine Look.at0 ?_ | refine Cell.row ?_ | refine Look.at1 ?_ | with_reducible refine Val.i64 (by omega) (by omega) ?_))
    | false =>
      have hset := mix_same (k := k) hlen hat (by rw [List.getElem?_replicate, if_pos hlt]; rfl)
      have hn := fun S hS => hnext S hS _ hset.symm
      clear hR hnext hQ
      repeat' ((conv => whnf); (first | refine Branch.dt (by omega) ?_ | refine Branch.f rfl ?_ | refine Idx.nat (by omega) ?_ | refine Look.cell (.tail _ (.tail _ hlb)) hc0 ?_ | exact hn _ .mk | with_reducible refine Val.i64 (by omega) (by omega) ?_))
  · obtain rfl : k = l.length := by omega
    have hall : mixL (stfE l) (List.replicate l.length 0) l.length = stfE l := by
      have := mix_all hlen
      rwa [stfE_len] at this
    rw [hall]
    have hq := fun S hS => hQ S hS
    clear hR hQ
    repeat' ((conv => whnf); (first | refine Branch.df (by omega) ?_ | exact hq _ .mk))
theorem l19d {Q : Post} {S0 : List Value} {p t e g w : Nat} {E : List Int} {nv lav : Value} (hl : InS snC 14 (.slice la l.length lc) X l) (hl127 : l.length ≤ 127) (hw : w < l.length)
    (hS : S19d (.slice la l.length lc) (ptr p) (ptr t) nv lav (zi 0) S0)
    (hQ : ∀ S, S19d (.slice la l.length lc) (ptr p) (ptr t) nv lav (zi (l.length : Int)) S → Q (.exit 6) S (tB t (w : Int) 11 false e g l.length :: eB e E l.length :: gB g (gotE l w) l.length :: X)) :
    SLoop Tryz.prog X19_l0 Q S0 (tB t (w : Int) 11 false e g l.length :: eB e E l.length :: gB g (List.replicate l.length false) l.length :: X) := by
  have hlen : (gotE l w).length = (List.replicate l.length false).length := by rw [gotE_len]; simp
  refine SLoop.invA (fun (k : Nat) S H' => k ≤ l.length ∧ S19d (.slice la l.length lc) (ptr p) (ptr t) nv lav (zi (k : Int)) S ∧ H' = tB t (w : Int) 11 false e g l.length :: eB e E l.length :: gB g (mixL (gotE l w) (List.replicate l.length false) k) l.length :: X) (fun k => l.length - k) 0 (Keep.all ⟨Nat.zero_le _, hS, rfl⟩) ?_
  rintro k S H' ⟨hk, hS, rfl⟩ R hR
  cases hS
  by_cases hlt : k < l.length
  · obtain ⟨sn, hsn, _⟩ := list_at hlt
    obtain ⟨lr, lo, lc2, lb, e1, hlb, hlcc⟩ := inS_at hl snC_len hsn
    injection e1 with e1 _ e3
    subst e1
    have hat := gotE_at (w := w) hsn
    have hml2 := mix_len (k := k) hlen (by rw [gotE_len]; omega)
    rw [gotE_len] at hml2
    have hi : k < (mixL (gotE l w) (List.replicate l.length false) k).length := by omega
    have hset := mix_set hlen hat
    have hnext := fun S hS E2 (hE : E2 = mixL (gotE l w) (List.replicate l.length false) (k + 1)) => hR (k + 1) S (tB t (w : Int) 11 false e g l.length :: eB e E l.length :: gB g E2 l.length :: X) (by omega) (Keep.all ⟨hlt, hS, by rw [hE]⟩)
    have hn := fun S hS => hnext S hS _ hset
    clear hR hnext hQ hset
    obtain ⟨up, sends, f⟩ := sn
    have hbb : (!decide (k = w)) = !decide ((k : Int) = (w : Int)) := by
      congr 1
      by_cases h : k = w
      · rw [decide_eq_true h, decide_eq_true (by omega)]
      · rw [decide_eq_false h, decide_eq_false (by omega)]
    dsimp only at hn hlcc
    have hc0 := hlcc 0 _ rfl
    rw [hbb] at hn
    cases up with
    | true =>
      rw [Bool.true_and] at hn
      repeat' ((conv => whnf); (first | refine Branch.dt (by omega) ?_ | refine Branch.t rfl ?_ | refine Idx.nat (by omega) ?_ | refine Look.cell (.tail _ (.tail _ (.tail _ hlb))) hc0 ?_ | refine Put.nthG (g := Value.bool) _ hi ?_ | exact hn _ .mk | refine Look.at0 ?_ | refine Cell.row ?_ | refine Look.at2 ?_ | with_reducible refine Val.i64 (by omega) (by omega) ?_ | refine SDraw.all (by kernel_rfl) ?_))
    | false =>
      rw [Bool.false_and] at hn
      repeat' ((conv => whnf); (first | refine Branch.dt (by omega) ?_ | refine Branch.t rfl ?_ | refine Idx.nat (by omega) ?_ | refine Look.cell (.tail _ (.tail _ (.tail _ hlb))) hc0 ?_ | refine Put.nthG (g := Value.bool) _ hi ?_ | exact hn _ .mk | refine Look.at0 ?_ | refine Cell.row ?_ | refine Look.at2 ?_ | with_reducible refine Val.i64 (by omega) (by omega) ?_ | refine Branch.f rfl ?_ | refine SDraw.all (by kernel_rfl) ?_))
  · obtain rfl : k = l.length := by omega
    have hall : mixL (gotE l w) (List.replicate l.length false) l.length = gotE l w := by
      have := mix_all hlen
      rwa [gotE_len] at this
    rw [hall]
    have hq := fun S hS => hQ S hS
    clear hR hQ
    repeat' ((conv => whnf); (first | refine Branch.df (by omega) ?_ | exact hq _ .mk))
inductive Tag4 (p t e g : Nat) : Prop
  | mk
theorem share {T P : Nat → Nat → Nat → Nat → List Value → Option Addr → Nat → Heap → Option Addr → Nat → Heap → Prop} {G : Prop}
    (main : (∀ p t e g S a1 c1 M1 a2 c2 M2, Tag4 p t e g → P p t e g S a1 c1 M1 a2 c2 M2 → T p t e g S a1 c1 M1 a2 c2 M2) → G)
    (pf : ∀ p t e g S a1 c1 M1 a2 c2 M2, P p t e g S a1 c1 M1 a2 c2 M2 → T p t e g S a1 c1 M1 a2 c2 M2) : G := main fun _ _ _ _ _ _ _ _ _ _ _ _ h => pf _ _ _ _ _ _ _ _ _ _ _ h
abbrev eR (e n : Nat) : Nat × Blk := (e, .buf 24 (List.replicate n (zi 0)) n)
abbrev gR (g n : Nat) : Nat × Blk := (g, .buf 4 (List.replicate n (Value.bool false)) n)
theorem eR_eq (e n : Nat) : eR e n = eB e (List.replicate n 0) n := by simp [eB, eR]
theorem gR_eq (g n : Nat) : gR g n = gB g (List.replicate n false) n := by simp [gB, gR]
theorem l19p0 {Q : Post} {S0 : List Value} {p t q1 q2 e g : Nat} (hl : InS snC 14 (.slice la l.length lc) H l) (hl127 : l.length ≤ 127)
    (hS : S19a (.slice la l.length lc) (.slice fa fl.length fc) (ptr p) (ptr t) (.slice (some ⟨q1, 0, none⟩) 0 0) (.slice (some ⟨q2, 0, none⟩) 0 0) (zi 0) (zi 0) S0)
    (hQ : ∀ S a1 c1 M1 a2 c2 M2, Tag4 p t e g → Grow frC 12 32 (.slice a1 (cand 0 l).length c1) ((cand 0 l).map (·.2)) M1 → Grow nC 1 3 (.slice a2 (cand 0 l).length c2) ((cand 0 l).map (·.1)) M2 →
      S19a (.slice la l.length lc) (.slice fa fl.length fc) (ptr p) (ptr t) (.slice a1 (cand 0 l).length c1) (.slice a2 (cand 0 l).length c2) (zi (upN l : Int)) (zi (l.length : Int)) S → Q (.exit 0) S (tB t (-1) 11 false e g l.length :: eB e (List.replicate l.length 0) l.length :: gB g (List.replicate l.length false) l.length :: pB p :: (M1 ++ (M2 ++ H)))) :
    SLoop Tryz.prog X19_l3 Q S0 ((q2, .row 3 [] (0, 0)) :: (q1, .row 32 [] (0, 0)) :: tB t (-1) 11 false e g l.length :: eR e l.length :: gR g l.length :: pB p :: H) := by
  refine l19a hl hl127 (F := [tB t (-1) 11 false e g l.length, eB e (List.replicate l.length 0) l.length, gB g (List.replicate l.length false) l.length, pB p]) ?_ hS (fun S a1 c1 M1 a2 c2 M2 => hQ S a1 c1 M1 a2 c2 M2 .mk)
  rw [eR_eq, gR_eq]
  first
    | exact .refl _
    | exact .swap _ _ _
    | exact .cons _ (.swap _ _ _)
    | exact .trans (.swap _ _ _) (.cons _ (.swap _ _ _))
    | exact .trans (.cons _ (.swap _ _ _)) (.swap _ _ _)
    | exact .trans (.swap _ _ _) (.trans (.cons _ (.swap _ _ _)) (.swap _ _ _))
theorem l19p1 {Q : Post} {S0 : List Value} {p t q1 q2 e g : Nat} (hl : InS snC 14 (.slice la l.length lc) H l) (hl127 : l.length ≤ 127)
    (hS : S19a (.slice la l.length lc) (.slice fa fl.length fc) (ptr p) (ptr t) (.slice (some ⟨q1, 0, none⟩) 0 0) (.slice (some ⟨q2, 0, none⟩) 0 0) (zi 0) (zi 0) S0)
    (hQ : ∀ S a1 c1 M1 a2 c2 M2, Tag4 p t e g → Grow frC 12 32 (.slice a1 (cand 0 l).length c1) ((cand 0 l).map (·.2)) M1 → Grow nC 1 3 (.slice a2 (cand 0 l).length c2) ((cand 0 l).map (·.1)) M2 →
      S19a (.slice la l.length lc) (.slice fa fl.length fc) (ptr p) (ptr t) (.slice a1 (cand 0 l).length c1) (.slice a2 (cand 0 l).length c2) (zi (upN l : Int)) (zi (l.length : Int)) S → Q (.exit 0) S (tB t (-1) 11 false e g l.length :: eB e (List.replicate l.length 0) l.length :: gB g (List.replicate l.length false) l.length :: pB p :: (M1 ++ (M2 ++ H)))) :
    SLoop Tryz.prog X19_l3 Q S0 ((q2, .row 3 [] (0, 0)) :: (q1, .row 32 [] (0, 0)) :: tB t (-1) 11 false e g l.length :: gR g l.length :: eR e l.length :: pB p :: H) := by
  refine l19a hl hl127 (F := [tB t (-1) 11 false e g l.length, eB e (List.replicate l.length 0) l.length, gB g (List.replicate l.length false) l.length, pB p]) ?_ hS (fun S a1 c1 M1 a2 c2 M2 => hQ S a1 c1 M1 a2 c2 M2 .mk)
  rw [eR_eq, gR_eq]
  first
    | exact .refl _
    | exact .swap _ _ _
    | exact .cons _ (.swap _ _ _)
    | exact .trans (.swap _ _ _) (.cons _ (.swap _ _ _))
    | exact .trans (.cons _ (.swap _ _ _)) (.swap _ _ _)
    | exact .trans (.swap _ _ _) (.trans (.cons _ (.swap _ _ _)) (.swap _ _ _))
theorem l19p2 {Q : Post} {S0 : List Value} {p t q1 q2 e g : Nat} (hl : InS snC 14 (.slice la l.length lc) H l) (hl127 : l.length ≤ 127)
    (hS : S19a (.slice la l.length lc) (.slice fa fl.length fc) (ptr p) (ptr t) (.slice (some ⟨q1, 0, none⟩) 0 0) (.slice (some ⟨q2, 0, none⟩) 0 0) (zi 0) (zi 0) S0)
    (hQ : ∀ S a1 c1 M1 a2 c2 M2, Tag4 p t e g → Grow frC 12 32 (.slice a1 (cand 0 l).length c1) ((cand 0 l).map (·.2)) M1 → Grow nC 1 3 (.slice a2 (cand 0 l).length c2) ((cand 0 l).map (·.1)) M2 →
      S19a (.slice la l.length lc) (.slice fa fl.length fc) (ptr p) (ptr t) (.slice a1 (cand 0 l).length c1) (.slice a2 (cand 0 l).length c2) (zi (upN l : Int)) (zi (l.length : Int)) S → Q (.exit 0) S (tB t (-1) 11 false e g l.length :: eB e (List.replicate l.length 0) l.length :: gB g (List.replicate l.length false) l.length :: pB p :: (M1 ++ (M2 ++ H)))) :
    SLoop Tryz.prog X19_l3 Q S0 ((q2, .row 3 [] (0, 0)) :: (q1, .row 32 [] (0, 0)) :: eR e l.length :: tB t (-1) 11 false e g l.length :: gR g l.length :: pB p :: H) := by
  refine l19a hl hl127 (F := [tB t (-1) 11 false e g l.length, eB e (List.replicate l.length 0) l.length, gB g (List.replicate l.length false) l.length, pB p]) ?_ hS (fun S a1 c1 M1 a2 c2 M2 => hQ S a1 c1 M1 a2 c2 M2 .mk)
  rw [eR_eq, gR_eq]
  first
    | exact .refl _
    | exact .swap _ _ _
    | exact .cons _ (.swap _ _ _)
    | exact .trans (.swap _ _ _) (.cons _ (.swap _ _ _))
    | exact .trans (.cons _ (.swap _ _ _)) (.swap _ _ _)
    | exact .trans (.swap _ _ _) (.trans (.cons _ (.swap _ _ _)) (.swap _ _ _))
theorem l19p3 {Q : Post} {S0 : List Value} {p t q1 q2 e g : Nat} (hl : InS snC 14 (.slice la l.length lc) H l) (hl127 : l.length ≤ 127)
    (hS : S19a (.slice la l.length lc) (.slice fa fl.length fc) (ptr p) (ptr t) (.slice (some ⟨q1, 0, none⟩) 0 0) (.slice (some ⟨q2, 0, none⟩) 0 0) (zi 0) (zi 0) S0)
    (hQ : ∀ S a1 c1 M1 a2 c2 M2, Tag4 p t e g → Grow frC 12 32 (.slice a1 (cand 0 l).length c1) ((cand 0 l).map (·.2)) M1 → Grow nC 1 3 (.slice a2 (cand 0 l).length c2) ((cand 0 l).map (·.1)) M2 →
      S19a (.slice la l.length lc) (.slice fa fl.length fc) (ptr p) (ptr t) (.slice a1 (cand 0 l).length c1) (.slice a2 (cand 0 l).length c2) (zi (upN l : Int)) (zi (l.length : Int)) S → Q (.exit 0) S (tB t (-1) 11 false e g l.length :: eB e (List.replicate l.length 0) l.length :: gB g (List.replicate l.length false) l.length :: pB p :: (M1 ++ (M2 ++ H)))) :
    SLoop Tryz.prog X19_l3 Q S0 ((q2, .row 3 [] (0, 0)) :: (q1, .row 32 [] (0, 0)) :: eR e l.length :: gR g l.length :: tB t (-1) 11 false e g l.length :: pB p :: H) := by
  refine l19a hl hl127 (F := [tB t (-1) 11 false e g l.length, eB e (List.replicate l.length 0) l.length, gB g (List.replicate l.length false) l.length, pB p]) ?_ hS (fun S a1 c1 M1 a2 c2 M2 => hQ S a1 c1 M1 a2 c2 M2 .mk)
  rw [eR_eq, gR_eq]
  first
    | exact .refl _
    | exact .swap _ _ _
    | exact .cons _ (.swap _ _ _)
    | exact .trans (.swap _ _ _) (.cons _ (.swap _ _ _))
    | exact .trans (.cons _ (.swap _ _ _)) (.swap _ _ _)
    | exact .trans (.swap _ _ _) (.trans (.cons _ (.swap _ _ _)) (.swap _ _ _))
theorem l19p4 {Q : Post} {S0 : List Value} {p t q1 q2 e g : Nat} (hl : InS snC 14 (.slice la l.length lc) H l) (hl127 : l.length ≤ 127)
    (hS : S19a (.slice la l.length lc) (.slice fa fl.length fc) (ptr p) (ptr t) (.slice (some ⟨q1, 0, none⟩) 0 0) (.slice (some ⟨q2, 0, none⟩) 0 0) (zi 0) (zi 0) S0)
    (hQ : ∀ S a1 c1 M1 a2 c2 M2, Tag4 p t e g → Grow frC 12 32 (.slice a1 (cand 0 l).length c1) ((cand 0 l).map (·.2)) M1 → Grow nC 1 3 (.slice a2 (cand 0 l).length c2) ((cand 0 l).map (·.1)) M2 →
      S19a (.slice la l.length lc) (.slice fa fl.length fc) (ptr p) (ptr t) (.slice a1 (cand 0 l).length c1) (.slice a2 (cand 0 l).length c2) (zi (upN l : Int)) (zi (l.length : Int)) S → Q (.exit 0) S (tB t (-1) 11 false e g l.length :: eB e (List.replicate l.length 0) l.length :: gB g (List.replicate l.length false) l.length :: pB p :: (M1 ++ (M2 ++ H)))) :
    SLoop Tryz.prog X19_l3 Q S0 ((q2, .row 3 [] (0, 0)) :: (q1, .row 32 [] (0, 0)) :: gR g l.length :: tB t (-1) 11 false e g l.length :: eR e l.length :: pB p :: H) := by
  refine l19a hl hl127 (F := [tB t (-1) 11 false e g l.length, eB e (List.replicate l.length 0) l.length, gB g (List.replicate l.length false) l.length, pB p]) ?_ hS (fun S a1 c1 M1 a2 c2 M2 => hQ S a1 c1 M1 a2 c2 M2 .mk)
  rw [eR_eq, gR_eq]
  first
    | exact .refl _
    | exact .swap _ _ _
    | exact .cons _ (.swap _ _ _)
    | exact .trans (.swap _ _ _) (.cons _ (.swap _ _ _))
    | exact .trans (.cons _ (.swap _ _ _)) (.swap _ _ _)
    | exact .trans (.swap _ _ _) (.trans (.cons _ (.swap _ _ _)) (.swap _ _ _))
theorem l19p5 {Q : Post} {S0 : List Value} {p t q1 q2 e g : Nat} (hl : InS snC 14 (.slice la l.length lc) H l) (hl127 : l.length ≤ 127)
    (hS : S19a (.slice la l.length lc) (.slice fa fl.length fc) (ptr p) (ptr t) (.slice (some ⟨q1, 0, none⟩) 0 0) (.slice (some ⟨q2, 0, none⟩) 0 0) (zi 0) (zi 0) S0)
    (hQ : ∀ S a1 c1 M1 a2 c2 M2, Tag4 p t e g → Grow frC 12 32 (.slice a1 (cand 0 l).length c1) ((cand 0 l).map (·.2)) M1 → Grow nC 1 3 (.slice a2 (cand 0 l).length c2) ((cand 0 l).map (·.1)) M2 →
      S19a (.slice la l.length lc) (.slice fa fl.length fc) (ptr p) (ptr t) (.slice a1 (cand 0 l).length c1) (.slice a2 (cand 0 l).length c2) (zi (upN l : Int)) (zi (l.length : Int)) S → Q (.exit 0) S (tB t (-1) 11 false e g l.length :: eB e (List.replicate l.length 0) l.length :: gB g (List.replicate l.length false) l.length :: pB p :: (M1 ++ (M2 ++ H)))) :
    SLoop Tryz.prog X19_l3 Q S0 ((q2, .row 3 [] (0, 0)) :: (q1, .row 32 [] (0, 0)) :: gR g l.length :: eR e l.length :: tB t (-1) 11 false e g l.length :: pB p :: H) := by
  refine l19a hl hl127 (F := [tB t (-1) 11 false e g l.length, eB e (List.replicate l.length 0) l.length, gB g (List.replicate l.length false) l.length, pB p]) ?_ hS (fun S a1 c1 M1 a2 c2 M2 => hQ S a1 c1 M1 a2 c2 M2 .mk)
  rw [eR_eq, gR_eq]
  first
    | exact .refl _
    | exact .swap _ _ _
    | exact .cons _ (.swap _ _ _)
    | exact .trans (.swap _ _ _) (.cons _ (.swap _ _ _))
    | exact .trans (.cons _ (.swap _ _ _)) (.swap _ _ _)
    | exact .trans (.swap _ _ _) (.trans (.cons _ (.swap _ _ _)) (.swap _ _ _))
theorem cand_up {l : List Sn} (h : cand 0 l ≠ []) : 1 ≤ upN l := by
  obtain ⟨⟨i, f⟩, hx⟩ := List.exists_mem_of_ne_nil _ h
  obtain ⟨_, s, h1, h2, _⟩ := cand_mem hx
  unfold upN
  exact List.countP_pos_iff.2 ⟨s, List.mem_of_getElem? h1, h2⟩
theorem c19 {lv fv : Value} (hl : InS snC 14 lv H l) (hwf : ∀ s ∈ l, s.f.id < 4294967296) (hf : InS xC 2 fv H fl)
    (hK0 : (roundV l fl).e ≠ 0 → K (.tuple ⟨[oZ, zi (-1), zi (roundV l fl).e]⟩) H)
    (hK1 : (roundV l fl).e = 0 → ∀ e g, K (.tuple ⟨[oV (roundV l fl).o e g l.length, zi (roundV l fl).bt, zi 0]⟩) (eB e (roundV l fl).o.errs l.length :: gB g (roundV l fl).o.got l.length :: H)) : SCalls Tryz.prog 19 [lv, fv] H K := by
  obtain ⟨la, lc, rfl, hml⟩ := hl.sv
  obtain ⟨fa, fc, rfl, hml2⟩ := hf.sv
  have h42 : ∀ q (K2 : Value → Heap → Prop), K2 (zi (chkX l.length fl)) (q :: H) → SCalls Tryz.prog 42 [zi (l.length : Int), .slice fa fl.length fc] (q :: H) K2 := fun q K2 hk => c42 (hf.mono fun z hz => .tail _ hz) hk
  unfold roundV at hK0 hK1
  refine enter19 ?_
  by_cases hc : chkX l.length fl = 0
  · rw [if_pos hc] at hK0 hK1
    rw [hc] at h42
    obtain ⟨hl127, hok⟩ := chkX_ok hc
    have hwfC : ∀ f ∈ (cand 0 l).map (·.2), f.id < 4294967296 := fun f hf => by
      obtain ⟨⟨i, f'⟩, h1, rfl⟩ := List.mem_map.1 hf
      obtain ⟨_, s, h2, _, _, rfl⟩ := cand_mem h1
      exact hwf s (List.mem_of_getElem? h2)
    have hcl := cand_len l 0
    have hlook : ∀ i f, (i, f) ∈ cand 0 l → i < l.length := fun i f h => by
      obtain ⟨_, s, h2, _⟩ := cand_mem h
      exact (List.getElem?_eq_some_iff.1 h2).1
    have e1r : (List.replicate l.length (0 : Int)).map zi = List.replicate l.length (zi 0) := by simp
    have e2r : (List.replicate l.length false).map Value.bool = List.replicate l.length (Value.bool false) := by simp
    unfold winV at hK0 hK1
    dsimp only at hK0 hK1
    have hul := upN_le l
    apply share (P := fun p t e g S a1 c1 M1 a2 c2 M2 => Grow frC 12 32 (.slice a1 (cand 0 l).length c1) ((cand 0 l).map (·.2)) M1 ∧ Grow nC 1 3 (.slice a2 (cand 0 l).length c2) ((cand 0 l).map (·.1)) M2 ∧
      S19a (.slice la l.length lc) (.slice fa fl.length fc) (ptr p) (ptr t) (.slice a1 (cand 0 l).length c1) (.slice a2 (cand 0 l).length c2) (zi (upN l : Int)) (zi (l.length : Int)) S)
    case main =>
      intro hG
      repeat' ((conv => whnf); (first | with_reducible refine h42 _ _ ?_ | refine SDraw.held (by kernel_rfl) [] .nil ?_ | refine Kept.sub (List.nil_sublist _) ?_ | refine And.intro ?_ ?_ | refine RawV.make1 (t := 34) (k := .i64) (e := 24) (bytes := 8) (zv := .int .i64 0) (n := l.length) rfl (by kernel_rfl) (by kernel_rfl) rfl (by omega) (by simp only [maxLen]; omega) (fun e => ?_) | refine RawV.make1 (t := 35) (k := .i64) (e := 4) (bytes := 1) (zv := .bool false) (n := l.length) rfl (by kernel_rfl) (by kernel_rfl) rfl (by omega) (by simp only [maxLen]; omega) (fun g => ?_) | refine Branch.f rfl ?_ | (with_reducible refine l19p0 hl hl127 .mk (fun S a1 c1 M1 a2 c2 M2 tg g1 g2 hS => ?_); exact hG _ _ _ _ _ _ _ _ _ _ _ tg ⟨g1, g2, hS⟩) | (with_reducible refine l19p1 hl hl127 .mk (fun S a1 c1 M1 a2 c2 M2 tg g1 g2 hS => ?_); exact hG _ _ _ _ _ _ _ _ _ _ _ tg ⟨g1, g2, hS⟩) | (with_reducible refine l19p2 hl hl127 .mk (fun S a1 c1 M1 a2 c2 M2 tg g1 g2 hS => ?_); exact hG _ _ _ _ _ _ _ _ _ _ _ tg ⟨g1, g2, hS⟩) | (with_reducible refine l19p3 hl hl127 .mk (fun S a1 c1 M1 a2 c2 M2 tg g1 g2 hS => ?_); exact hG _ _ _ _ _ _ _ _ _ _ _ tg ⟨g1, g2, hS⟩) | (with_reducible refine l19p4 hl hl127 .mk (fun S a1 c1 M1 a2 c2 M2 tg g1 g2 hS => ?_); exact hG _ _ _ _ _ _ _ _ _ _ _ tg ⟨g1, g2, hS⟩) | (with_reducible refine l19p5 hl hl127 .mk (fun S a1 c1 M1 a2 c2 M2 tg g1 g2 hS => ?_); exact hG _ _ _ _ _ _ _ _ _ _ _ tg ⟨g1, g2, hS⟩) | refine New.mk (fun _ => ?_) | refine Look.at0 ?_ | refine Put.row rfl ?_ | refine Look.at1 ?_ | refine Look.at2 ?_))
    rintro p t e g S a1 c1 M1 a2 c2 M2 ⟨g1, g2, hS⟩
    have hi1 := g1.ins frC_len (fun z hz => hz)
    have hi2 := g2.ins nC_len (fun z hz => hz)
    clear g1 g2
    cases hS
    by_cases hC : cand 0 l = []
    · rw [if_pos hC] at hK0 hK1
      have hC0 : ((cand 0 l).length : Int) = 0 := by rw [hC]; rfl
      have hk := fun e g (t z : Nat × Blk) M1 M2 => Keep.glue (K := fun H' => K (.tuple ⟨[oV (noneV l.length) e g l.length, zi (-1), zi 0]⟩) H') [[t], [eB e (List.replicate l.length 0) l.length, gB g (List.replicate l.length false) l.length], [z], M1, M2, H] [0, 1, 2, 3, 4, 5] [1, 5] [0, 2, 3, 4] (by decide) rfl (hK1 rfl e g)
      clear hK0 hK1
      repeat' ((conv => whnf); (first | refine Branch.dt hC0 ?_ | refine Branch.f rfl ?_ | exact hk _ _ _ _ _ _ | refine Look.at0 ?_ | refine Cells.row rfl ?_ | refine Put.row rfl ?_ | refine Look.at3 ?_))
    · rw [if_neg hC] at hK0 hK1
      have hC0 : ¬ ((cand 0 l).length : Int) = 0 := fun h => hC (List.length_eq_zero_iff.1 (by omega))
      by_cases hr : (firstV ((cand 0 l).map (·.2))).2 = 0
      · rw [if_pos hr] at hK0 hK1
        obtain ⟨_, hall, _, _, hlt1⟩ := firstV_ok hr
        have hup1 := cand_up hC
        have h43 : ∀ (x y z u : Nat × Blk) M1 M2 a1 c1 (K2 : Value → Heap → Prop), InS frC 12 (.slice a1 (cand 0 l).length c1) M1 ((cand 0 l).map (·.2)) → K2 (.tuple ⟨[zi ((firstV ((cand 0 l).map (·.2))).1 : Int), zi 0]⟩) (x :: y :: z :: u :: (M1 ++ (M2 ++ H))) → SCalls Tryz.prog 43 [.slice a1 (cand 0 l).length c1] (x :: y :: z :: u :: (M1 ++ (M2 ++ H))) K2 := fun x y z u M1 M2 a1 c1 K2 hi hk =>
          c43 (hi.mono fun q hq => .tail _ (.tail _ (.tail _ (.tail _ (List.mem_append_left _ hq))))) (by rw [hr]; exact hk)
        generalize (firstV ((cand 0 l).map (·.2))).1 = k0 at *
        generalize hCd : cand 0 l = C at *
        rw [List.length_map] at hlt1
        obtain ⟨⟨w, f0⟩, hx, _⟩ := list_at hlt1
        have hgd : C.getD k0 (0, z0) = (w, f0) := by rw [List.getD_eq_getElem?_getD, hx]; rfl
        rw [hgd] at hK1
        dsimp only at hK1
        have hwl := hlook w f0 (List.mem_of_getElem? hx)
        have hx1 : (C.map (·.2))[k0]? = some f0 := by rw [List.getElem?_map, hx]; rfl
        have hx2 : (C.map (·.1))[k0]? = some w := by rw [List.getElem?_map, hx]; rfl
        obtain ⟨r1, o1, c1', b1, e1, hrb1, hcc1⟩ := inS_at hi1 frC_len hx1
        obtain ⟨r2, o2, c2', b2, e2, hrb2, hcc2⟩ := inS_at hi2 nC_len hx2
        injection e1 with e1 _ _
        injection e2 with e2 _ _
        subst e1 e2
        have hw0 := hcc2 0 _ rfl
        have hl12 : (frC f0).length = 12 := rfl
        have hm1 : ∀ x y z u : Nat × Blk, (r1, b1) ∈ x :: y :: z :: u :: (M1 ++ (M2 ++ H)) := fun x y z u => .tail _ (.tail _ (.tail _ (.tail _ (List.mem_append_left _ hrb1))))
        have hm2 : ∀ x y z u : Nat × Blk, (r2, b2) ∈ x :: y :: z :: u :: (M1 ++ (M2 ++ H)) := fun x y z u => .tail _ (.tail _ (.tail _ (.tail _ (List.mem_append_right _ (List.mem_append_left _ hrb2)))))
        have hok0 := List.all_eq_true.1 hall f0 (List.mem_of_getElem? hx1)
        have hsz : (strOf (encB f0 (decide ((1 : Int) < (upN l : Int))))).size = encN f0 := by rw [strOf_size, encB_len]
        have hen := encN_lt f0
        rw [← hsz] at hK1 hen
        have hk1 := hK1 rfl
        clear hK0 hK1
        have h44 : ∀ X (K2 : Value → Heap → Prop), K2 (.tuple ⟨[.string (strOf (encB f0 (decide ((1 : Int) < (upN l : Int))))), zi 0]⟩) X → SCalls Tryz.prog 44 [frV f0, .bool (decide ((1 : Int) < (upN l : Int)))] X K2 := fun X K2 hk => c44 hok0 hk
        have hsubX : ∀ (t : Nat × Blk) x y z, ∀ q ∈ H, q ∈ (t : Nat × Blk) :: x :: y :: z :: (M1 ++ (M2 ++ H)) := fun t x y z q hq => .tail _ (.tail _ (.tail _ (.tail _ (List.mem_append_right _ (List.mem_append_right _ hq)))))
        have h19b : ∀ {Q : Post} {S0 : List Value} {p t e g : Nat} (x y z : Nat × Blk),
            S19b (.slice la l.length lc) (.slice fa fl.length fc) (ptr p) (ptr t) (zi (upN l : Int)) (zi ((strOf (encB f0 (decide ((1 : Int) < (upN l : Int))))).size : Int)) (zi ((strOf (encB f0 (decide ((1 : Int) < (upN l : Int))))).size : Int)) (zi (-1)) (.bool false) (zi 0) S0 →
            (∀ S, S19b (.slice la l.length lc) (.slice fa fl.length fc) (ptr p) (ptr t) (zi (upN l : Int)) (zi ((strOf (encB f0 (decide ((1 : Int) < (upN l : Int))))).size : Int)) (zi (if (frF l (strOf (encB f0 (decide ((1 : Int) < (upN l : Int))))).size w fl).any then (frF l (strOf (encB f0 (decide ((1 : Int) < (upN l : Int))))).size w fl).bit else ((strOf (encB f0 (decide ((1 : Int) < (upN l : Int))))).size : Int))) (zi (if (frF l (strOf (encB f0 (decide ((1 : Int) < (upN l : Int))))).size w fl).any then (frF l (strOf (encB f0 (decide ((1 : Int) < (upN l : Int))))).size w fl).node else -1)) (.bool (frF l (strOf (encB f0 (decide ((1 : Int) < (upN l : Int))))).size w fl).late) (zi (fl.length : Int)) S → Q (.exit 2) S (tB t (w : Int) 11 false e g l.length :: x :: y :: z :: (M1 ++ (M2 ++ H)))) →
            SLoop Tryz.prog X19_l2 Q S0 (tB t (w : Int) 11 false e g l.length :: x :: y :: z :: (M1 ++ (M2 ++ H))) := fun x y z h4 h5 => l19b (.head _) (hl.mono (hsubX _ _ _ _)) (hf.mono (hsubX _ _ _ _)) (fun x hx => ⟨(hok x hx).1, (hok x hx).2.1⟩) (by omega) h4 h5
        have h19c : ∀ {Q : Post} {S0 : List Value} {p t e g nn : Nat} {atv byv : Value} (x y : Nat × Blk), S19c (.slice la l.length lc) (ptr p) (ptr t) (zi (nn : Int)) atv byv (zi 0) S0 →
            (∀ S, S19c (.slice la l.length lc) (ptr p) (ptr t) (zi (nn : Int)) atv byv (zi (l.length : Int)) S → Q (.exit 4) S (tB t (w : Int) 11 false e g l.length :: eB e (stfE l) l.length :: x :: y :: (M1 ++ (M2 ++ H)))) →
            SLoop Tryz.prog X19_l1 Q S0 (tB t (w : Int) 11 false e g l.length :: eB e (List.replicate l.length 0) l.length :: x :: y :: (M1 ++ (M2 ++ H))) := fun x y h1 h2 => l19c (hl.mono fun q hq => .tail _ (.tail _ (List.mem_append_right _ (List.mem_append_right _ hq)))) hl127 h1 h2
        have h19d : ∀ {Q : Post} {S0 : List Value} {p t e g : Nat} {E : List Int} {nv lav : Value} (x : Nat × Blk), S19d (.slice la l.length lc) (ptr p) (ptr t) nv lav (zi 0) S0 →
            (∀ S, S19d (.slice la l.length lc) (ptr p) (ptr t) nv lav (zi (l.length : Int)) S → Q (.exit 6) S (tB t (w : Int) 11 false e g l.length :: eB e E l.length :: gB g (gotE l w) l.length :: x :: (M1 ++ (M2 ++ H)))) →
            SLoop Tryz.prog X19_l0 Q S0 (tB t (w : Int) 11 false e g l.length :: eB e E l.length :: gB g (List.replicate l.length false) l.length :: x :: (M1 ++ (M2 ++ H))) := fun x h1 h2 => l19d (hl.mono fun q hq => .tail _ (List.mem_append_right _ (List.mem_append_right _ hq))) hl127 hwl h1 h2
        have han := frF_any (l := l) (n := (strOf (encB f0 (decide ((1 : Int) < (upN l : Int))))).size) (w := w) (fl := fl)
        generalize frF l (strOf (encB f0 (decide ((1 : Int) < (upN l : Int))))).size w fl = s at *
        obtain ⟨any, node, bit, late⟩ := s
        dsimp only at h19b han
        unfold comesV at hk1
        dsimp only at hk1
        have hwll : w < (List.replicate l.length (0 : Int)).length := by simpa using hwl
        cases any with
        | true =>
          obtain ⟨x, hx9, g1, g2, g3⟩ := han rfl
          obtain ⟨k1, k2, k3⟩ := hok x hx9
          subst g1 g2
          rw [if_pos rfl] at hk1
          simp only [if_true] at h19b
          dsimp only at hk1
          have hk := fun e g (t z : Nat × Blk) M1 M2 => Keep.glue (K := fun H' => K (.tuple ⟨[oV ⟨(w : Int), x.2 + 24, false, if (((strOf (encB f0 (decide ((1 : Int) < (upN l : Int))))).size : Nat) : Int) - 10 ≤ x.2 then (stfE l).set x.1.toNat 22 else stfE l, List.replicate l.length false⟩ e g l.length, zi x.1, zi 0]⟩) H') [[t], [eB e (if (((strOf (encB f0 (decide ((1 : Int) < (upN l : Int))))).size : Nat) : Int) - 10 ≤ x.2 then (stfE l).set x.1.toNat 22 else stfE l) l.length, gB g (List.replicate l.length false) l.length], [z], M1, M2, H] [0, 1, 2, 3, 4, 5] [1, 5] [0, 2, 3, 4] (by decide) rfl (hk1 e g)
          have hxL : x.1.toNat < (stfE l).length := by rw [stfE_len]; omega
          clear hk1
          by_cases hcc : (((strOf (encB f0 (decide ((1 : Int) < (upN l : Int))))).size : Nat) : Int) - 10 ≤ x.2
          · rw [if_pos hcc] at hk
            repeat' ((conv => whnf); (first | refine Branch.df hC0 ?_ | with_reducible refine h43 _ _ _ _ _ _ _ _ _ hi1 ?_ | refine Idx.nat hlt1 ?_ | with_reducible refine Look.cells (hm1 _ _ _ _) hl12 hcc1 ?_ | with_reducible refine h44 _ _ ?_ | with_reducible refine Look.cell (hm2 _ _ _ _) hw0 ?_ | (with_reducible refine h19b _ _ _ .mk (fun S hS => ?_); cases hS) | refine Branch.dt k1 ?_ | (with_reducible refine h19c _ _ .mk (fun S hS => ?_); cases hS) | refine Branch.dt hcc ?_ | refine Idx.of x.1.toNat (by omega) (by omega) ?_ | refine Put.nthG (g := zi) 22 hxL ?_ | refine Branch.f rfl ?_ | exact hk _ _ _ _ _ _ | refine Look.at0 ?_ | refine Cell.row ?_ | refine Cells.row rfl ?_ | refine Put.row rfl ?_ | refine Look.at1 ?_ | refine Look.at3 ?_ | with_reducible refine Val.i64 (by omega) (by omega) ?_))
          · rw [if_neg hcc] at hk
            repeat' ((conv => whnf); (first | refine Branch.df hC0 ?_ | with_reducible refine h43 _ _ _ _ _ _ _ _ _ hi1 ?_ | refine Idx.nat hlt1 ?_ | with_reducible refine Look.cells (hm1 _ _ _ _) hl12 hcc1 ?_ | with_reducible refine h44 _ _ ?_ | with_reducible refine Look.cell (hm2 _ _ _ _) hw0 ?_ | (with_reducible refine h19b _ _ _ .mk (fun S hS => ?_); cases hS) | refine Branch.dt k1 ?_ | (with_reducible refine h19c _ _ .mk (fun S hS => ?_); cases hS) | refine Branch.df hcc ?_ | refine Branch.f rfl ?_ | exact hk _ _ _ _ _ _ | refine Look.at0 ?_ | refine Cells.row rfl ?_ | refine Put.row rfl ?_ | refine Look.at3 ?_ | with_reducible refine Val.i64 (by omega) (by omega) ?_))
        | false =>
          rw [if_neg (by decide)] at hk1
          simp only [if_neg (show ¬ false = true by decide)] at h19b
          by_cases hu : upN l ≤ 1
          · rw [if_pos hu] at hk1
            dsimp only at hk1
            have hu1 : (upN l : Int) = 1 := by omega
            have e12 : (((strOf (encB f0 (decide ((1 : Int) < (upN l : Int))))).size : Nat) : Int) + 12 = (((strOf (encB f0 (decide ((1 : Int) < (upN l : Int))))).size : Nat) : Int) - 8 + 20 := by omega
            rw [e12] at hk1
            have hk := fun e g (t z : Nat × Blk) M1 M2 => Keep.glue (K := fun H' => K (.tuple ⟨[oV ⟨(w : Int), (((strOf (encB f0 (decide ((1 : Int) < (upN l : Int))))).size : Nat) : Int) - 8 + 20, false, (List.replicate l.length 0).set w 23, List.replicate l.length false⟩ e g l.length, zi (-1), zi 0]⟩) H') [[t], [eB e ((List.replicate l.length 0).set w 23) l.length, gB g (List.replicate l.length false) l.length], [z], M1, M2, H] [0, 1, 2, 3, 4, 5] [1, 5] [0, 2, 3, 4] (by decide) rfl (hk1 e g)
            clear hk1
            repeat' ((conv => whnf); (first | refine Branch.df hC0 ?_ | with_reducible refine h43 _ _ _ _ _ _ _ _ _ hi1 ?_ | refine Idx.nat hlt1 ?_ | with_reducible refine Look.cells (hm1 _ _ _ _) hl12 hcc1 ?_ | with_reducible refine h44 _ _ ?_ | with_reducible refine Look.cell (hm2 _ _ _ _) hw0 ?_ | (with_reducible refine h19b _ _ _ .mk (fun S hS => ?_); cases hS) | refine Branch.df (by omega) ?_ | refine Branch.dt hu1 ?_ | refine Idx.nat hwl ?_ | refine Put.nthG (g := zi) 23 hwll ?_ | refine Branch.f rfl ?_ | exact hk _ _ _ _ _ _ | refine Look.at0 ?_ | refine Cell.row ?_ | refine Cells.row rfl ?_ | refine Put.row rfl ?_ | refine Look.at1 ?_ | refine Look.at3 ?_ | with_reducible refine Val.i64 (by omega) (by omega) ?_))
          · rw [if_neg hu] at hk1
            have hu1 : ¬ (upN l : Int) = 1 := by omega
            cases late with
            | true =>
              rw [if_pos rfl] at hk1
              dsimp only at hk1
              have hk := fun e g (t z : Nat × Blk) M1 M2 => Keep.glue (K := fun H' => K (.tuple ⟨[oV ⟨(w : Int), (((strOf (encB f0 (decide ((1 : Int) < (upN l : Int))))).size : Nat) : Int) + 20, false, (List.replicate l.length 0).set w 22, gotE l w⟩ e g l.length, zi (-1), zi 0]⟩) H') [[t], [eB e ((List.replicate l.length 0).set w 22) l.length, gB g (gotE l w) l.length], [z], M1, M2, H] [0, 1, 2, 3, 4, 5] [1, 5] [0, 2, 3, 4] (by decide) rfl (hk1 e g)
              clear hk1
              repeat' ((conv => whnf); (first | refine Branch.df hC0 ?_ | with_reducible refine h43 _ _ _ _ _ _ _ _ _ hi1 ?_ | refine Idx.nat hlt1 ?_ | with_reducible refine Look.cells (hm1 _ _ _ _) hl12 hcc1 ?_ | with_reducible refine h44 _ _ ?_ | with_reducible refine Look.cell (hm2 _ _ _ _) hw0 ?_ | (with_reducible refine h19b _ _ _ .mk (fun S hS => ?_); cases hS) | refine Branch.df hu1 ?_ | refine Branch.t rfl ?_ | (with_reducible refine h19d _ .mk (fun S hS => ?_); cases hS) | refine Idx.nat hwl ?_ | refine Put.nthG (g := zi) 22 hwll ?_ | refine Branch.f rfl ?_ | exact hk _ _ _ _ _ _ | refine Look.at0 ?_ | refine Cell.row ?_ | refine Cells.row rfl ?_ | refine Put.row rfl ?_ | refine Look.at1 ?_ | refine Look.at3 ?_ | with_reducible refine Val.i64 (by omega) (by omega) ?_))
            | false =>
              rw [if_neg (by decide)] at hk1
              dsimp only at hk1
              have hk := fun e g (t z : Nat × Blk) M1 M2 => Keep.glue (K := fun H' => K (.tuple ⟨[oV ⟨(w : Int), (((strOf (encB f0 (decide ((1 : Int) < (upN l : Int))))).size : Nat) : Int) + 3, true, List.replicate l.length 0, gotE l w⟩ e g l.length, zi (-1), zi 0]⟩) H') [[t], [eB e (List.replicate l.length 0) l.length, gB g (gotE l w) l.length], [z], M1, M2, H] [0, 1, 2, 3, 4, 5] [1, 5] [0, 2, 3, 4] (by decide) rfl (hk1 e g)
              clear hk1
              repeat' ((conv => whnf); (first | refine Branch.df hC0 ?_ | with_reducible refine h43 _ _ _ _ _ _ _ _ _ hi1 ?_ | refine Idx.nat hlt1 ?_ | with_reducible refine Look.cells (hm1 _ _ _ _) hl12 hcc1 ?_ | with_reducible refine h44 _ _ ?_ | with_reducible refine Look.cell (hm2 _ _ _ _) hw0 ?_ | (with_reducible refine h19b _ _ _ .mk (fun S hS => ?_); cases hS) | refine Branch.df hu1 ?_ | (with_reducible refine h19d _ .mk (fun S hS => ?_); cases hS) | refine Branch.f rfl ?_ | exact hk _ _ _ _ _ _ | refine Look.at0 ?_ | refine Cells.row rfl ?_ | refine Put.row rfl ?_ | refine Look.at3 ?_ | with_reducible refine Val.i64 (by omega) (by omega) ?_))
      · rw [if_neg hr] at hK0 hK1
        have h := hK0 hr
        clear hK0 hK1
        have h43 : ∀ (x y z u : Nat × Blk) M1 M2 a1 c1 (K2 : Value → Heap → Prop), InS frC 12 (.slice a1 (cand 0 l).length c1) M1 ((cand 0 l).map (·.2)) → K2 (.tuple ⟨[zi ((firstV ((cand 0 l).map (·.2))).1 : Int), zi (firstV ((cand 0 l).map (·.2))).2]⟩) (x :: y :: z :: u :: (M1 ++ (M2 ++ H))) → SCalls Tryz.prog 43 [.slice a1 (cand 0 l).length c1] (x :: y :: z :: u :: (M1 ++ (M2 ++ H))) K2 := fun x y z u M1 M2 a1 c1 K2 hi hk =>
          c43 (hi.mono fun q hq => .tail _ (.tail _ (.tail _ (.tail _ (List.mem_append_left _ hq))))) hk
        have hb : decide ((firstV ((cand 0 l).map (·.2))).2 = 0) = false := decide_eq_false hr
        have hk := fun e g (t z : Nat × Blk) M1 M2 => Keep.glue (K := fun H' => K (.tuple ⟨[oZ, zi (-1), zi (firstV ((cand 0 l).map (·.2))).2]⟩) H') [[t, e, g, z], M1, M2, H] [0, 1, 2, 3] [3] [0, 1, 2] (by decide) rfl h
        clear h
        repeat' ((conv => whnf); (first | refine Branch.df hC0 ?_ | refine Branch.t (by rw [hb]; rfl) ?_ | refine Branch.f rfl ?_ | with_reducible refine h43 _ _ _ _ _ _ _ _ _ hi1 ?_ | exact hk _ _ _ _ _ _ | refine Cells.row rfl ?_ | refine Put.row rfl ?_ | refine Look.at3 ?_))
  · rw [if_neg hc] at hK0
    have h := hK0 hc
    clear hK0 hK1
    have hb : decide (chkX l.length fl = 0) = false := decide_eq_false hc
    repeat' ((conv => whnf); (first | with_reducible refine h42 _ _ ?_ | refine Branch.t (by rw [hb]; rfl) ?_ | exact Keep.d1 h | refine New.mk (fun _ => ?_) | refine Look.at0 ?_ | refine Cells.row rfl ?_ | refine Put.row rfl ?_))
end
end Go.Proofs.YtfmggepbcpceiaaGreatDoor


/- Layer 3, in layer 4: units, the program's and the document's: by walks. -/
set_option linter.unusedVariables false
set_option linter.unusedSimpArgs false
set_option maxRecDepth 100000
set_option maxHeartbeats 4000000
namespace Go.Proofs.YtfmggepbcpceiaaGreatDoor
open Sx
abbrev uC (u : Un) : List Value := [zi (u.s : Int), zi (u.r : Int), .bool u.off, zi (u.idle : Int)]
abbrev uB (p : Nat) (u : Un) : Nat × Blk := (p, .row 131 (uC u) (0, 0))
theorem at_un {t : TypeId} {pre c post : List Value} {N i : Nat} {v : Value} (h : c[i]? = some v) : (Blk.buf t (pre ++ (c ++ post)) N).cell (pre.length + i) = some v := by
  obtain ⟨hi, _⟩ := List.getElem?_eq_some_iff.1 h
  show (pre ++ (c ++ post))[pre.length + i]? = some v
  rw [List.getElem?_append_right (by omega), Nat.add_sub_cancel_left, List.getElem?_append_left hi]; exact h
theorem Put.un {t : TypeId} {pre c post : List Value} {N i : Nat} {v : Value} {K : Blk → Prop} (hi : i < c.length) (h : K (.buf t (pre ++ (c.set i v ++ post)) N)) : Put (.buf t (pre ++ (c ++ post)) N) (pre.length + i) [v] K := by
  refine ⟨_, PutOk.buf (cs' := pre ++ (c.set i v ++ post)) ?_ ?_, h⟩
  · simp; omega
  · show (pre ++ (c ++ post)).take (pre.length + i) ++ [v] ++ (pre ++ (c ++ post)).drop (pre.length + i + 1) = _
    rw [set_cut (by simp; omega), List.set_append_right _ _ (by omega), Nat.add_sub_cancel_left, List.set_append_left _ _ hi]
section
variable {K : Value → Heap → Prop} {H : Heap} {p : Nat} {u : Un}
theorem c93 (hm : uB p u ∈ H) (hK : K (zi u.st) H) : SCalls Tryz.prog 93 [ptr p] H K := by
  obtain ⟨s, r, off, idle⟩ := u
  unfold Un.st at hK
  dsimp only [uB, uC] at hm hK
  have g0 : (Blk.row 131 [zi (s : Int), zi (r : Int), .bool off, zi (idle : Int)] (0, 0)).cell 0 = some (zi (s : Int)) := rfl
  have g1 : (Blk.row 131 [zi (s : Int), zi (r : Int), .bool off, zi (idle : Int)] (0, 0)).cell 1 = some (zi (r : Int)) := rfl
  have g2 : (Blk.row 131 [zi (s : Int), zi (r : Int), .bool off, zi (idle : Int)] (0, 0)).cell 2 = some (.bool off) := rfl
  refine enter93 ?_
  cases off with
  | true =>
    have h : K (zi 2) H := hK
    clear hK
    repeat' ((conv => whnf); (first | refine Look.cell hm g2 ?_ | refine Branch.t rfl ?_ | exact Keep.all h))
  | false =>
    by_cases h1 : 127 < s ∨ 127 < r
    · have h : K (zi 1) H := by simpa [h1] using hK
      clear hK
      repeat' ((conv => whnf); (first | refine Look.cell hm g2 ?_ | refine Look.cell hm g0 ?_ | refine Look.cell hm g1 ?_ | refine Branch.f rfl ?_ | refine RawV.max2 (m := if (s : Int) < (r : Int) then (r : Int) else (s : Int)) rfl rfl ?_ | refine Branch.dt (by split <;> omega) ?_ | exact Keep.all h | refine SDraw.all (by kernel_rfl) ?_))
    · have h : K (zi 0) H := by simpa [h1] using hK
      clear hK
      repeat' ((conv => whnf); (first | refine Look.cell hm g2 ?_ | refine Look.cell hm g0 ?_ | refine Look.cell hm g1 ?_ | refine Branch.f rfl ?_ | refine RawV.max2 (m := if (s : Int) < (r : Int) then (r : Int) else (s : Int)) rfl rfl ?_ | refine Branch.df (by split <;> omega) ?_ | exact Keep.all h | refine SDraw.all (by kernel_rfl) ?_))
theorem c63 (hm : uB p u ∈ H) (hK : K (zi u.st) H) : SCalls Tryz.prog 63 [ptr p] H K := by
  have h93 := c93 (K := K) hm hK
  have h93 : ∀ K2 : Value → Heap → Prop, K2 (zi u.st) H → SCalls Tryz.prog 93 [ptr p] H K2 := fun K2 hk => c93 hm hk
  generalize u.st = v at *
  refine enter63 ?_
  repeat' ((conv => whnf); (first | with_reducible refine h93 _ ?_ | exact Keep.all hK))
theorem c62 (hm : uB p u ∈ H) (hK : K (.tuple ⟨[zi (u.s : Int), zi (u.r : Int)]⟩) H) : SCalls Tryz.prog 62 [ptr p] H K := by
  obtain ⟨s, r, off, idle⟩ := u
  dsimp only [uB, uC] at hm hK
  have g0 : (Blk.row 131 [zi (s : Int), zi (r : Int), .bool off, zi (idle : Int)] (0, 0)).cell 0 = some (zi (s : Int)) := rfl
  have g1 : (Blk.row 131 [zi (s : Int), zi (r : Int), .bool off, zi (idle : Int)] (0, 0)).cell 1 = some (zi (r : Int)) := rfl
  refine enter62 ?_
  repeat' ((conv => whnf); (first | refine Look.cell hm g0 ?_ | refine Look.cell hm g1 ?_ | exact Keep.all hK | refine SDraw.all (by kernel_rfl) ?_))
theorem c28 (hK : ∀ p, K (ptr p) (uB p u0 :: H)) : SCalls Tryz.prog 28 [] H K := by
  refine enter28 (_u := undef) ?_
  repeat' ((conv => whnf); (first | exact Keep.all (hK _) | refine New.mk (fun _ => ?_)))
theorem c30 (hK : K (.tuple ⟨[]⟩) (uB p u0 :: H)) : SCalls Tryz.prog 30 [ptr p] (uB p u :: H) K := by
  refine enter30 ?_
  repeat' ((conv => whnf); (first | exact Keep.all hK | refine Look.at0 ?_ | refine Put.row rfl ?_))
theorem c72 (hw : UnW u) (hK : ∀ b, K (.bool b) (uB p u.idl :: H)) : SCalls Tryz.prog 72 [ptr p, zi 1] (uB p u :: H) K := by
  obtain ⟨w1, w2, w3⟩ := hw
  obtain ⟨s, r, off, idle⟩ := u
  unfold Un.idl at hK
  dsimp only [uB, uC, u0] at w1 w2 w3 hK ⊢
  refine enter72 ?_
  cases off with
  | false =>
    rw [if_neg (by decide)] at hK
    repeat' ((conv => whnf); (first | refine Branch.t rfl ?_ | exact Keep.all (hK _) | refine Look.at0 ?_ | refine Cell.row ?_))
  | true =>
    rw [if_pos rfl] at hK
    by_cases h1 : idle + 1 < 128
    · rw [if_pos h1] at hK
      have h := hK false
      rw [show ((idle + 1 : Nat) : Int) = (idle : Int) + 1 from rfl] at h
      repeat' ((conv => whnf); (first | refine Branch.f rfl ?_ | refine RawV.max2 (m := 1) rfl rfl ?_ | refine RawV.min2 (m := 1) rfl rfl ?_ | refine Branch.dt (by omega) ?_ | exact Keep.all h | refine Look.at0 ?_ | refine Cell.row ?_ | refine Put.row rfl ?_ | with_reducible refine Val.i64 (by omega) (by omega) ?_))
    · rw [if_neg h1] at hK
      repeat' ((conv => whnf); (first | refine Branch.f rfl ?_ | refine RawV.max2 (m := 1) rfl rfl ?_ | refine RawV.min2 (m := 1) rfl rfl ?_ | refine Branch.df (by omega) ?_ | exact Keep.all (hK _) | refine Look.at0 ?_ | refine Cell.row ?_ | refine Put.row rfl ?_ | with_reducible refine Val.i64 (by omega) (by omega) ?_))
theorem c73 (hw : UnW u) (hK : K (.tuple ⟨[]⟩) (uB p u.sent :: H)) : SCalls Tryz.prog 73 [ptr p] (uB p u :: H) K := by
  obtain ⟨w1, w2, w3⟩ := hw
  obtain ⟨s, r, off, idle⟩ := u
  unfold Un.sent at hK
  dsimp only [uB, uC] at w1 w2 w3 hK ⊢
  refine enter73 ?_
  cases off with
  | true =>
    rw [if_pos rfl] at hK
    repeat' ((conv => whnf); (first | refine Branch.f rfl ?_ | exact Keep.all hK | refine Look.at0 ?_ | refine Cell.row ?_))
  | false =>
    rw [if_neg (by decide)] at hK
    repeat' ((conv => whnf); (first | refine Branch.t rfl ?_ | refine RawV.max2 (m := ((s - 1 : Nat) : Int)) rfl (by split <;> omega) ?_ | exact Keep.all hK | refine Look.at0 ?_ | refine Cell.row ?_ | refine Put.row rfl ?_ | with_reducible refine Val.i64 (by omega) (by omega) ?_))
theorem c75 (hw : UnW u) (hK : K (.tuple ⟨[]⟩) (uB p u.recv :: H)) : SCalls Tryz.prog 75 [ptr p] (uB p u :: H) K := by
  obtain ⟨w1, w2, w3⟩ := hw
  obtain ⟨s, r, off, idle⟩ := u
  unfold Un.recv at hK
  dsimp only [uB, uC] at w1 w2 w3 hK ⊢
  refine enter75 ?_
  cases off with
  | true =>
    rw [if_pos rfl] at hK
    repeat' ((conv => whnf); (first | refine Branch.t rfl ?_ | exact Keep.all hK | refine Look.at0 ?_ | refine Cell.row ?_))
  | false =>
    rw [if_neg (by decide)] at hK
    by_cases h1 : 127 < r
    · rw [if_pos h1] at hK
      repeat' ((conv => whnf); (first | refine Branch.f rfl ?_ | refine Branch.dt (by omega) ?_ | exact Keep.all hK | refine Look.at0 ?_ | refine Cell.row ?_ | refine Put.row rfl ?_))
    · rw [if_neg h1] at hK
      repeat' ((conv => whnf); (first | refine Branch.f rfl ?_ | refine Branch.df (by omega) ?_ | refine RawV.max2 (m := ((r - 1 : Nat) : Int)) rfl (by split <;> omega) ?_ | exact Keep.all hK | refine Look.at0 ?_ | refine Cell.row ?_ | refine Put.row rfl ?_ | with_reducible refine Val.i64 (by omega) (by omega) ?_))
theorem c76 {late : Bool} (hw : UnW u) (hK : K (.tuple ⟨[]⟩) (uB p (u.erred late) :: H)) : SCalls Tryz.prog 76 [ptr p, .bool late] (uB p u :: H) K := by
  obtain ⟨w1, w2, w3⟩ := hw
  obtain ⟨s, r, off, idle⟩ := u
  unfold Un.erred at hK
  dsimp only [uB, uC] at w1 w2 w3 hK ⊢
  refine enter76 ?_
  cases off with
  | true =>
    rw [if_pos rfl] at hK
    cases late with
    | true =>
      repeat' ((conv => whnf); (first | refine Branch.t rfl ?_ | refine Branch.f rfl ?_ | exact Keep.all hK | refine Look.at0 ?_ | refine Cell.row ?_))
    | false =>
      repeat' ((conv => whnf); (first | refine Branch.f rfl ?_ | exact Keep.all hK | refine Look.at0 ?_ | refine Cell.row ?_))
  | false =>
    rw [if_neg (by decide)] at hK
    cases late with
    | true =>
      have h : K (.tuple ⟨[]⟩) ((p, .row 131 [zi (s : Int), zi ((min (r + 8) 255 : Nat) : Int), .bool false, zi (idle : Int)] (0, 0)) :: H) := hK
      clear hK
      repeat' ((conv => whnf); (first | refine Branch.t rfl ?_ | refine RawV.min2 (m := ((min (r + 8) 255 : Nat) : Int)) rfl (by split <;> omega) ?_ | exact Keep.all h | refine Look.at0 ?_ | refine Cell.row ?_ | refine Put.row rfl ?_ | with_reducible refine Val.i64 (by omega) (by omega) ?_))
    | false =>
      have h : K (.tuple ⟨[]⟩) ((p, .row 131 [zi (s : Int), zi ((min (r + 1) 255 : Nat) : Int), .bool false, zi (idle : Int)] (0, 0)) :: H) := hK
      clear hK
      repeat' ((conv => whnf); (first | refine Branch.t rfl ?_ | refine Branch.f rfl ?_ | refine RawV.min2 (m := ((min (r + 1) 255 : Nat) : Int)) rfl (by split <;> omega) ?_ | exact Keep.all h | refine Look.at0 ?_ | refine Cell.row ?_ | refine Put.row rfl ?_ | with_reducible refine Val.i64 (by omega) (by omega) ?_))
theorem c74 {q : Bool} (hw : UnW u) (hK : K (.tuple ⟨[]⟩) (uB p (u.fail q) :: H)) : SCalls Tryz.prog 74 [ptr p, .bool q] (uB p u :: H) K := by
  have h93 : ∀ K2 : Value → Heap → Prop, K2 (zi u.st) (uB p u :: H) → SCalls Tryz.prog 93 [ptr p] (uB p u :: H) K2 := fun K2 hk => c93 (.head _) hk
  unfold Un.fail at hK
  generalize hv : u.st = v at *
  obtain ⟨w1, w2, w3⟩ := hw
  obtain ⟨s, r, off, idle⟩ := u
  dsimp only [uB, uC] at w1 w2 w3 hK h93 ⊢
  refine enter74 ?_
  cases off with
  | true =>
    rw [if_pos (.inl rfl)] at hK
    repeat' ((conv => whnf); (first | refine Branch.t rfl ?_ | exact Keep.all hK | refine Look.at0 ?_ | refine Cell.row ?_))
  | false =>
    cases q with
    | true =>
      by_cases hv1 : v = 1
      · rw [if_pos (.inr ⟨rfl, hv1⟩)] at hK
        repeat' ((conv => whnf); (first | with_reducible refine h93 _ ?_ | refine Branch.dt hv1 ?_ | exact Keep.all hK | refine Look.at0 ?_ | refine Cell.row ?_ | refine Branch.t rfl ?_ | refine Branch.f rfl ?_))
      · rw [if_neg (by simp [hv1])] at hK
        by_cases h8 : 255 < s + 8
        · rw [if_pos h8] at hK
          repeat' ((conv => whnf); (first | with_reducible refine h93 _ ?_ | refine Branch.df hv1 ?_ | refine Branch.dt (by omega) ?_ | exact Keep.all hK | refine Look.at0 ?_ | refine Cell.row ?_ | refine Put.row rfl ?_ | with_reducible refine Val.i64 (by omega) (by omega) ?_ | refine Branch.t rfl ?_ | refine Branch.f rfl ?_))
        · rw [if_neg h8] at hK
          repeat' ((conv => whnf); (first | with_reducible refine h93 _ ?_ | refine Branch.df hv1 ?_ | refine Branch.df (by omega) ?_ | exact Keep.all hK | refine Look.at0 ?_ | refine Cell.row ?_ | refine Put.row rfl ?_ | with_reducible refine Val.i64 (by omega) (by omega) ?_ | refine Branch.t rfl ?_ | refine Branch.f rfl ?_))
    | false =>
      rw [if_neg (by simp)] at hK
      by_cases h8 : 255 < s + 8
      · rw [if_pos h8] at hK
        repeat' ((conv => whnf); (first | refine Branch.f rfl ?_ | refine Branch.dt (by omega) ?_ | exact Keep.all hK | refine Look.at0 ?_ | refine Cell.row ?_ | refine Put.row rfl ?_ | with_reducible refine Val.i64 (by omega) (by omega) ?_))
      · rw [if_neg h8] at hK
        repeat' ((conv => whnf); (first | refine Branch.f rfl ?_ | refine Branch.df (by omega) ?_ | exact Keep.all hK | refine Look.at0 ?_ | refine Cell.row ?_ | refine Put.row rfl ?_ | with_reducible refine Val.i64 (by omega) (by omega) ?_))
end
end Go.Proofs.YtfmggepbcpceiaaGreatDoor


/- Layer 3, in layer 4: the document's units, in a buffer: by walks. -/
set_option linter.unusedVariables false
set_option linter.unusedSimpArgs false
set_option maxRecDepth 100000
set_option maxHeartbeats 4000000
namespace Go.Proofs.YtfmggepbcpceiaaGreatDoor
open Sx
abbrev vB (q : Nat) (pre : List Value) (c : List Value) (post : List Value) (N : Nat) : Nat × Blk := (q, .buf 126 (pre ++ (c ++ post)) N)
abbrev pP (q : Nat) (pre : List Value) : Value := .pointer (some ⟨q, pre.length, none⟩)
section
variable {K : Value → Heap → Prop} {H : Heap} {q N : Nat} {u : Un} {pre post : List Value}
theorem c64 (hK : K (zi u.st) (vB q pre (uC u) post N :: H)) : SCalls Tryz.prog 64 [pP q pre] (vB q pre (uC u) post N :: H) K := by
  obtain ⟨s, r, off, idle⟩ := u
  unfold Un.st at hK
  dsimp only [vB, uC] at hK ⊢
  refine enter64 ?_
  cases off with
  | true =>
    rw [if_pos rfl] at hK
    repeat' ((conv => whnf); (first | refine Cell.get (at_un rfl) ?_ | refine Branch.t rfl ?_ | exact Keep.all hK | refine Look.at0 ?_))
  | false =>
    rw [if_neg (by decide)] at hK
    by_cases h1 : 127 < s
    · rw [if_pos (.inl h1)] at hK
      repeat' ((conv => whnf); (first | refine Cell.get (at_un rfl) ?_ | refine Branch.f rfl ?_ | refine Branch.dt (by omega) ?_ | exact Keep.all hK | refine Look.at0 ?_ | refine Branch.t rfl ?_))
    · by_cases h2 : 127 < r
      · rw [if_pos (.inr h2)] at hK
        repeat' ((conv => whnf); (first | refine Cell.get (at_un rfl) ?_ | refine Branch.f rfl ?_ | refine Branch.df (show ¬ (127 : Int) < (s : Int) by omega) ?_ | refine Branch.dt (by omega) ?_ | exact Keep.all hK | refine Look.at0 ?_))
      · rw [if_neg (by omega)] at hK
        repeat' ((conv => whnf); (first | refine Cell.get (at_un rfl) ?_ | refine Branch.f rfl ?_ | refine Branch.df (show ¬ (127 : Int) < (s : Int) by omega) ?_ | refine Branch.df (by omega) ?_ | exact Keep.all hK | refine Look.at0 ?_))
theorem c88 (hw : UnW u) (hK : ∀ b, K (.bool b) (vB q pre (uC u.idl) post N :: H)) : SCalls Tryz.prog 88 [pP q pre, zi 1] (vB q pre (uC u) post N :: H) K := by
  obtain ⟨w1, w2, w3⟩ := hw
  obtain ⟨s, r, off, idle⟩ := u
  have h107 : ∀ c (K2 : Value → Heap → Prop), K2 (.tuple ⟨[]⟩) (vB q pre (uC u0) post N :: H) → SCalls Tryz.prog 107 [pP q pre] (vB q pre (([zi (s : Int), zi (r : Int), .bool true, zi (idle : Int)]).set 3 (zi c)) post N :: H) K2 := by
    intro c K2 hk
    refine enter107 ?_
    dsimp only [vB, uC, u0] at hk ⊢
    repeat' ((conv => whnf); (first | refine Cell.get (at_un rfl) ?_ | refine Put.un (Nat.le_of_ble_eq_true rfl) ?_ | exact Keep.all hk | refine Look.at0 ?_))
  unfold Un.idl at hK
  dsimp only [vB, uC, u0] at w1 w2 w3 hK h107 ⊢
  refine enter88 ?_
  cases off with
  | false =>
    rw [if_neg (by decide)] at hK
    repeat' ((conv => whnf); (first | refine Cell.get (at_un rfl) ?_ | refine Branch.t rfl ?_ | exact Keep.all (hK _) | refine Look.at0 ?_))
  | true =>
    rw [if_pos rfl] at hK
    by_cases h1 : idle + 1 < 128
    · rw [if_pos h1] at hK
      have h := hK false
      rw [show ((idle + 1 : Nat) : Int) = (idle : Int) + 1 from rfl] at h
      repeat' ((conv => whnf); (first | refine Cell.get (at_un rfl) ?_ | refine Put.un (Nat.le_of_ble_eq_true rfl) ?_ | refine Branch.f rfl ?_ | refine Branch.dt (show (idle : Int) + 1 < 128 by omega) ?_ | exact Keep.all h | refine Look.at0 ?_ | with_reducible refine Val.i64 (by omega) (by omega) ?_))
    · rw [if_neg h1] at hK
      repeat' ((conv => whnf); (first | refine Cell.get (at_un rfl) ?_ | refine Put.un (Nat.le_of_ble_eq_true rfl) ?_ | refine Branch.f rfl ?_ | refine Branch.df (show ¬ (idle : Int) + 1 < 128 by omega) ?_ | refine h107 _ _ ?_ | exact Keep.all (hK _) | refine Look.at0 ?_ | with_reducible refine Val.i64 (by omega) (by omega) ?_))
theorem c89 (hw : UnW u) (hK : K (.tuple ⟨[]⟩) (vB q pre (uC u.sent) post N :: H)) : SCalls Tryz.prog 89 [pP q pre] (vB q pre (uC u) post N :: H) K := by
  obtain ⟨w1, w2, w3⟩ := hw
  obtain ⟨s, r, off, idle⟩ := u
  unfold Un.sent at hK
  dsimp only [vB, uC] at w1 w2 w3 hK ⊢
  refine enter89 ?_
  cases off with
  | true =>
    rw [if_pos rfl] at hK
    repeat' ((conv => whnf); (first | refine Cell.get (at_un rfl) ?_ | refine Branch.f rfl ?_ | exact Keep.all hK | refine Look.at0 ?_))
  | false =>
    rw [if_neg (by decide)] at hK
    by_cases h0 : 0 < s
    · rw [show ((s - 1 : Nat) : Int) = (s : Int) - 1 by omega] at hK
      repeat' ((conv => whnf); (first | refine Cell.get (at_un rfl) ?_ | refine Put.un (Nat.le_of_ble_eq_true rfl) ?_ | refine Branch.dt (show (0 : Int) < (s : Int) by omega) ?_ | exact Keep.all hK | refine Look.at0 ?_ | with_reducible refine Val.i64 (by omega) (by omega) ?_ | refine Branch.not ?_ | refine Branch.f rfl ?_))
    · rw [show s - 1 = s by omega] at hK
      repeat' ((conv => whnf); (first | refine Cell.get (at_un rfl) ?_ | refine Put.un (Nat.le_of_ble_eq_true rfl) ?_ | refine Branch.df (show ¬ (0 : Int) < (s : Int) by omega) ?_ | exact Keep.all hK | refine Look.at0 ?_ | refine Branch.not ?_ | refine Branch.f rfl ?_))
theorem c91 (hw : UnW u) (hK : K (.tuple ⟨[]⟩) (vB q pre (uC u.recv) post N :: H)) : SCalls Tryz.prog 91 [pP q pre] (vB q pre (uC u) post N :: H) K := by
  obtain ⟨w1, w2, w3⟩ := hw
  obtain ⟨s, r, off, idle⟩ := u
  unfold Un.recv at hK
  dsimp only [vB, uC] at w1 w2 w3 hK ⊢
  refine enter91 ?_
  cases off with
  | true =>
    rw [if_pos rfl] at hK
    repeat' ((conv => whnf); (first | refine Cell.get (at_un rfl) ?_ | refine Branch.t rfl ?_ | exact Keep.all hK | refine Look.at0 ?_))
  | false =>
    rw [if_neg (by decide)] at hK
    by_cases h1 : 127 < r
    · rw [if_pos h1] at hK
      repeat' ((conv => whnf); (first | refine Cell.get (at_un rfl) ?_ | refine Put.un (Nat.le_of_ble_eq_true rfl) ?_ | refine Branch.f rfl ?_ | refine Branch.dt (show (127 : Int) < (r : Int) by omega) ?_ | exact Keep.all hK | refine Look.at0 ?_))
    · rw [if_neg h1] at hK
      by_cases h0 : 0 < r
      · rw [show ((r - 1 : Nat) : Int) = (r : Int) - 1 by omega] at hK
        repeat' ((conv => whnf); (first | refine Cell.get (at_un rfl) ?_ | refine Put.un (Nat.le_of_ble_eq_true rfl) ?_ | refine Branch.f rfl ?_ | refine Branch.df (show ¬ (127 : Int) < (r : Int) by omega) ?_ | refine Branch.dt (show (0 : Int) < (r : Int) by omega) ?_ | exact Keep.all hK | refine Look.at0 ?_ | with_reducible refine Val.i64 (by omega) (by omega) ?_))
      · rw [show r - 1 = r by omega] at hK
        repeat' ((conv => whnf); (first | refine Cell.get (at_un rfl) ?_ | refine Branch.f rfl ?_ | refine Branch.df (show ¬ (127 : Int) < (r : Int) by omega) ?_ | refine Branch.df (show ¬ (0 : Int) < (r : Int) by omega) ?_ | exact Keep.all hK | refine Look.at0 ?_))
theorem c92 {late : Bool} (hw : UnW u) (hK : K (.tuple ⟨[]⟩) (vB q pre (uC (u.erred late)) post N :: H)) : SCalls Tryz.prog 92 [pP q pre, .bool late] (vB q pre (uC u) post N :: H) K := by
  obtain ⟨w1, w2, w3⟩ := hw
  obtain ⟨s, r, off, idle⟩ := u
  unfold Un.erred at hK
  dsimp only [vB, uC] at w1 w2 w3 hK ⊢
  refine enter92 ?_
  cases off with
  | true =>
    rw [if_pos rfl] at hK
    repeat' ((conv => whnf); (first | refine Cell.get (at_un rfl) ?_ | refine Branch.t rfl ?_ | exact Keep.all hK | refine Look.at0 ?_))
  | false =>
    rw [if_neg (by decide)] at hK
    cases late with
    | true =>
      have h : K (.tuple ⟨[]⟩) ((q, .buf 126 (pre ++ ([zi (s : Int), zi ((min (r + 8) 255 : Nat) : Int), .bool false, zi (idle : Int)] ++ post)) N) :: H) := hK
      clear hK
      by_cases h8 : 255 < r + 8
      · rw [show min (r + 8) 255 = 255 by omega] at h
        repeat' ((conv => whnf); (first | refine Cell.get (at_un rfl) ?_ | refine Put.un (Nat.le_of_ble_eq_true rfl) ?_ | refine Branch.f rfl ?_ | refine Branch.t rfl ?_ | refine Branch.dt (show (255 : Int) < (r : Int) + 1 + 7 by omega) ?_ | exact Keep.all h | refine Look.at0 ?_ | with_reducible refine Val.i64 (by omega) (by omega) ?_))
      · rw [show ((min (r + 8) 255 : Nat) : Int) = (r : Int) + 1 + 7 by omega] at h
        repeat' ((conv => whnf); (first | refine Cell.get (at_un rfl) ?_ | refine Put.un (Nat.le_of_ble_eq_true rfl) ?_ | refine Branch.f rfl ?_ | refine Branch.t rfl ?_ | refine Branch.df (show ¬ (255 : Int) < (r : Int) + 1 + 7 by omega) ?_ | exact Keep.all h | refine Look.at0 ?_ | with_reducible refine Val.i64 (by omega) (by omega) ?_))
    | false =>
      have h : K (.tuple ⟨[]⟩) ((q, .buf 126 (pre ++ ([zi (s : Int), zi ((min (r + 1) 255 : Nat) : Int), .bool false, zi (idle : Int)] ++ post)) N) :: H) := hK
      clear hK
      by_cases h8 : 255 < r + 1
      · rw [show min (r + 1) 255 = 255 by omega] at h
        repeat' ((conv => whnf); (first | refine Cell.get (at_un rfl) ?_ | refine Put.un (Nat.le_of_ble_eq_true rfl) ?_ | refine Branch.f rfl ?_ | refine Branch.dt (show (255 : Int) < (r : Int) + 1 by omega) ?_ | exact Keep.all h | refine Look.at0 ?_ | with_reducible refine Val.i64 (by omega) (by omega) ?_))
      · rw [show ((min (r + 1) 255 : Nat) : Int) = (r : Int) + 1 by omega] at h
        repeat' ((conv => whnf); (first | refine Cell.get (at_un rfl) ?_ | refine Put.un (Nat.le_of_ble_eq_true rfl) ?_ | refine Branch.f rfl ?_ | refine Branch.df (show ¬ (255 : Int) < (r : Int) + 1 by omega) ?_ | exact Keep.all h | refine Look.at0 ?_ | with_reducible refine Val.i64 (by omega) (by omega) ?_))
theorem c90 {b : Bool} (hw : UnW u) (hK : K (.tuple ⟨[]⟩) (vB q pre (uC (u.fail b)) post N :: H)) : SCalls Tryz.prog 90 [pP q pre, .bool b] (vB q pre (uC u) post N :: H) K := by
  have h93 : ∀ K2 : Value → Heap → Prop, K2 (zi u.st) (vB q pre (uC u) post N :: H) → SCalls Tryz.prog 64 [pP q pre] (vB q pre (uC u) post N :: H) K2 := fun K2 hk => c64 hk
  unfold Un.fail at hK
  generalize hv : u.st = v at *
  obtain ⟨w1, w2, w3⟩ := hw
  obtain ⟨s, r, off, idle⟩ := u
  dsimp only [vB, uC] at w1 w2 w3 hK h93 ⊢
  refine enter90 ?_
  cases off with
  | true =>
    rw [if_pos (.inl rfl)] at hK
    repeat' ((conv => whnf); (first | refine Cell.get (at_un rfl) ?_ | refine Branch.t rfl ?_ | exact Keep.all hK | refine Look.at0 ?_))
  | false =>
    cases b with
    | true =>
      by_cases hv1 : v = 1
      · rw [if_pos (.inr ⟨rfl, hv1⟩)] at hK
        repeat' ((conv => whnf); (first | refine Cell.get (at_un rfl) ?_ | with_reducible refine h93 _ ?_ | refine Branch.dt hv1 ?_ | exact Keep.all hK | refine Look.at0 ?_ | refine Branch.t rfl ?_ | refine Branch.f rfl ?_))
      · rw [if_neg (by simp [hv1])] at hK
        by_cases h8 : 255 < s + 8
        · rw [if_pos h8] at hK
          repeat' ((conv => whnf); (first | refine Cell.get (at_un rfl) ?_ | refine Put.un (Nat.le_of_ble_eq_true rfl) ?_ | with_reducible refine h93 _ ?_ | refine Branch.df hv1 ?_ | refine Branch.dt (show (255 : Int) < (s : Int) + 8 by omega) ?_ | exact Keep.all hK | refine Look.at0 ?_ | with_reducible refine Val.i64 (by omega) (by omega) ?_ | refine Branch.t rfl ?_ | refine Branch.f rfl ?_))
        · rw [if_neg h8, show ((s + 8 : Nat) : Int) = (s : Int) + 8 from rfl] at hK
          repeat' ((conv => whnf); (first | refine Cell.get (at_un rfl) ?_ | refine Put.un (Nat.le_of_ble_eq_true rfl) ?_ | with_reducible refine h93 _ ?_ | refine Branch.df hv1 ?_ | refine Branch.df (show ¬ (255 : Int) < (s : Int) + 8 by omega) ?_ | exact Keep.all hK | refine Look.at0 ?_ | with_reducible refine Val.i64 (by omega) (by omega) ?_ | refine Branch.t rfl ?_ | refine Branch.f rfl ?_))
    | false =>
      rw [if_neg (by simp)] at hK
      by_cases h8 : 255 < s + 8
      · rw [if_pos h8] at hK
        repeat' ((conv => whnf); (first | refine Cell.get (at_un rfl) ?_ | refine Put.un (Nat.le_of_ble_eq_true rfl) ?_ | refine Branch.f rfl ?_ | refine Branch.dt (show (255 : Int) < (s : Int) + 8 by omega) ?_ | exact Keep.all hK | refine Look.at0 ?_ | with_reducible refine Val.i64 (by omega) (by omega) ?_))
      · rw [if_neg h8, show ((s + 8 : Nat) : Int) = (s : Int) + 8 from rfl] at hK
        repeat' ((conv => whnf); (first | refine Cell.get (at_un rfl) ?_ | refine Put.un (Nat.le_of_ble_eq_true rfl) ?_ | refine Branch.f rfl ?_ | refine Branch.df (show ¬ (255 : Int) < (s : Int) + 8 by omega) ?_ | exact Keep.all hK | refine Look.at0 ?_ | with_reducible refine Val.i64 (by omega) (by omega) ?_))
end
end Go.Proofs.YtfmggepbcpceiaaGreatDoor


/- Layer 4: the program's bus in memory, what reads it: by walks. -/
set_option linter.unusedVariables false
set_option linter.unusedSimpArgs false
set_option maxRecDepth 100000
set_option maxHeartbeats 4000000
namespace Go.Proofs.YtfmggepbcpceiaaGreatDoor
open Sx
theorem perm_glue' {ls : List Heap} {p q : List Nat} {A B : Heap} (hp : p.Perm q) (h1 : A = glue ls p) (h2 : B = glue ls q) : A.Perm B := by
  subst h1 h2
  exact perm_glue hp
inductive BoxO : Value → Option Fm → Heap → Prop
  | none : BoxO (.slice none 0 0) none []
  | some {q : Nat} {f : Fm} : BoxO (.slice (some ⟨q, 0, none⟩) 1 1) (some f) [(q, .row 32 (frC f) (0, 0))]
abbrev nB (r u : Nat) (on : Bool) (bv iv : Value) : Nat × Blk := (r, .row 82 [.bool on, ptr u, bv, iv] (0, 0))
abbrev bB (p : Nat) (nv : Value) (time : Nat) : Nat × Blk := (p, .row 77 [nv, .int .u64 (time : Int)] (0, 0))
abbrev pC (r : Nat) : List Value := [ptr r]
theorem pC_len (r : Nat) : (pC r).length = 1 := rfl
theorem pC_one (r : Nat) : ∀ u ∈ pC r, u.oneCell' = true := fun u hu => by obtain rfl := List.mem_singleton.1 hu; rfl
inductive NdO (r : Nat) (x : Nd) : Heap → Prop
  | mk {u : Nat} {bv iv : Value} {M1 M2 : Heap} : BoxO bv x.box M1 → Grow frC 12 32 iv x.inn M2 → NdO r x (nB r u x.on bv iv :: uB u x.u :: (M1 ++ M2))
inductive NdL : List Nat → List Nd → Heap → Prop
  | nil : NdL [] [] []
  | cons {r : Nat} {rs : List Nat} {x : Nd} {xs : List Nd} {A B : Heap} : NdO r x A → NdL rs xs B → NdL (r :: rs) (x :: xs) (A ++ B)
inductive BusO (p : Nat) (s : Bs) : Heap → Prop
  | mk {nv : Value} {rs : List Nat} {Mn N : Heap} : Grow pC 1 78 nv rs Mn → NdL rs s.ns N → BusO p s (bB p nv s.time :: (Mn ++ N))
theorem NdL.len {rs : List Nat} {xs : List Nd} {N : Heap} (h : NdL rs xs N) : rs.length = xs.length := by
  induction h with
  | nil => rfl
  | cons _ _ ih => rw [List.length_cons, List.length_cons, ih]
theorem NdL.at {rs : List Nat} {xs : List Nd} {N : Heap} (h : NdL rs xs N) : ∀ {i : Nat} {x : Nd}, xs[i]? = some x → ∃ r A M B, rs[i]? = some r ∧ N = A ++ (M ++ B) ∧ NdO r x M ∧ ∀ x' M', NdO r x' M' → NdL rs (xs.set i x') (A ++ (M' ++ B)) := by
  induction h with
  | nil => intro i x hx; simp at hx
  | @cons r rs x0 xs A B h1 h2 ih =>
    intro i x hx
    cases i with
    | zero =>
      rw [List.getElem?_cons_zero] at hx
      injection hx with hx
      subst hx
      exact ⟨r, [], A, B, rfl, rfl, h1, fun x' M' h => show NdL (r :: rs) (x' :: xs) (M' ++ B) from .cons h h2⟩
    | succ i =>
      rw [List.getElem?_cons_succ] at hx
      obtain ⟨r', A', M', B', k1, rfl, k3, k4⟩ := ih hx
      refine ⟨r', A ++ A', M', B', by rw [List.getElem?_cons_succ]; exact k1, by simp, k3, fun x' M2 h => ?_⟩
      have := NdL.cons h1 (k4 x' M2 h)
      rw [List.set_cons_succ]
      simpa using this
/-- What of a bus may be read. -/
inductive BoxR (H : Heap) : Value → Option Fm → Prop
  | none : BoxR H (.slice none 0 0) none
  | some {q : Nat} {f : Fm} : (q, .row 32 (frC f) (0, 0)) ∈ H → BoxR H (.slice (some ⟨q, 0, none⟩) 1 1) (some f)
theorem BoxR.mono {H H' : Heap} {bv : Value} {o : Option Fm} (h : BoxR H bv o) (hs : ∀ z ∈ H, z ∈ H') : BoxR H' bv o := by
  cases h with
  | none => exact .none
  | some hm => exact .some (hs _ hm)
structure NdR (r : Nat) (x : Nd) (u : Nat) (bv iv : Value) (H : Heap) : Prop where
  n : nB r u x.on bv iv ∈ H
  u : uB u x.u ∈ H
  b : BoxR H bv x.box
  i : InS frC 12 iv H x.inn
theorem BoxO.read {bv : Value} {o : Option Fm} {M H : Heap} (h : BoxO bv o M) (hs : ∀ z ∈ M, z ∈ H) : BoxR H bv o := by
  cases h with
  | none => exact .none
  | some => exact .some (hs _ (.head _))
theorem NdO.read {r : Nat} {x : Nd} {M H : Heap} (h : NdO r x M) (hs : ∀ z ∈ M, z ∈ H) : ∃ u bv iv, NdR r x u bv iv H := by
  cases h with
  | mk h1 h2 =>
    exact ⟨_, _, _, hs _ (.head _), hs _ (.tail _ (.head _)), h1.read fun z hz => hs _ (.tail _ (.tail _ (List.mem_append_left _ hz))), h2.ins frC_len fun z hz => hs _ (.tail _ (.tail _ (List.mem_append_right _ hz)))⟩
structure BusR (p : Nat) (s : Bs) (nv : Value) (rs : List Nat) (H : Heap) : Prop where
  b : bB p nv s.time ∈ H
  n : InS pC 1 nv H rs
  l : rs.length = s.ns.length
  x : ∀ {i : Nat} {x : Nd}, s.ns[i]? = some x → ∃ r u bv iv, rs[i]? = some r ∧ NdR r x u bv iv H
theorem NdR.mono {r u : Nat} {x : Nd} {bv iv : Value} {H H' : Heap} (h : NdR r x u bv iv H) (hs : ∀ z ∈ H, z ∈ H') : NdR r x u bv iv H' := ⟨hs _ h.n, hs _ h.u, h.b.mono hs, h.i.mono hs⟩
theorem BusR.mono {p : Nat} {s : Bs} {nv : Value} {rs : List Nat} {H H' : Heap} (h : BusR p s nv rs H) (hs : ∀ z ∈ H, z ∈ H') : BusR p s nv rs H' :=
  ⟨hs _ h.b, h.n.mono hs, h.l, fun hx => by
    obtain ⟨r, u, bv, iv, g1, g2⟩ := h.x hx
    exact ⟨r, u, bv, iv, g1, g2.mono hs⟩⟩
theorem BusO.readX {p : Nat} {s : Bs} {nv : Value} {rs : List Nat} {Mn N H : Heap} (h1 : Grow pC 1 78 nv rs Mn) (h2 : NdL rs s.ns N) (hs : ∀ z ∈ bB p nv s.time :: (Mn ++ N), z ∈ H) : BusR p s nv rs H := by
  refine ⟨hs _ (.head _), h1.ins pC_len fun z hz => hs _ (.tail _ (List.mem_append_left _ hz)), h2.len, ?_⟩
  intro i x hx
  obtain ⟨r, A, M, B, k1, rfl, k3, _⟩ := h2.at hx
  obtain ⟨u, bv, iv, k4⟩ := k3.read (H := H) fun z hz => hs _ (.tail _ (List.mem_append_right _ (List.mem_append_right _ (List.mem_append_left _ hz))))
  exact ⟨r, u, bv, iv, k1, k4⟩
theorem BusO.read {p : Nat} {s : Bs} {F H : Heap} (h : BusO p s F) (hs : ∀ z ∈ F, z ∈ H) : ∃ nv rs, BusR p s nv rs H := by
  cases h with
  | @mk nv rs Mn N h1 h2 => exact ⟨nv, rs, BusO.readX h1 h2 hs⟩
theorem BusR.at {p : Nat} {s : Bs} {nv : Value} {rs : List Nat} {H : Heap} (h : BusR p s nv rs H) {i : Nat} {x : Nd} (hx : s.ns[i]? = some x) :
    ∃ r u bv iv o r0 c b, rs[i]? = some r ∧ NdR r x u bv iv H ∧ nv = .slice (some ⟨r0, o, none⟩) s.ns.length c ∧ (r0, b) ∈ H ∧ b.cell (o + i * 1) = some (ptr r) := by
  obtain ⟨r, u, bv, iv, k1, k2⟩ := h.x hx
  obtain ⟨r0, o, c, b, e, k3, k4⟩ := h.n.at1 (v := ptr r) k1 rfl
  rw [h.l] at e
  exact ⟨r, u, bv, iv, o, r0, c, b, k1, k2, e, k3, k4⟩
theorem BusR.sv {p : Nat} {s : Bs} {nv : Value} {rs : List Nat} {H : Heap} (h : BusR p s nv rs H) : ∃ a c, nv = .slice a s.ns.length c := by
  obtain ⟨a, c, h1, _⟩ := h.n.sv
  exact ⟨a, c, by rw [← h.l]; exact h1⟩
/-- One node of a bus, and what it may become. -/
theorem BusO.focus {p : Nat} {s : Bs} {F : Heap} {i : Nat} {x : Nd} (h : BusO p s F) (hx : s.ns[i]? = some x) :
    ∃ r u bv iv M1 M2 X nv rs, BoxO bv x.box M1 ∧ Grow frC 12 32 iv x.inn M2 ∧ F.Perm (nB r u x.on bv iv :: uB u x.u :: bB p nv s.time :: (M1 ++ (M2 ++ X))) ∧ rs[i]? = some r ∧ (∀ H : Heap, (∀ z ∈ F, z ∈ H) → BusR p s nv rs H) ∧
      ∀ time x' bv' iv' M1' M2', BoxO bv' x'.box M1' → Grow frC 12 32 iv' x'.inn M2' → ∃ F', BusO p ⟨time, s.ns.set i x'⟩ F' ∧ (nB r u x'.on bv' iv' :: uB u x'.u :: bB p nv time :: (M1' ++ (M2' ++ X))).Perm F' := by
  cases h with
  | @mk nv rs Mn N h1 h2 =>
    have hl := h2.len
    obtain ⟨r, A, M, B, k1, rfl, k3, k4⟩ := h2.at hx
    cases k3 with
    | @mk u bv iv M1 M2 g1 g2 =>
      refine ⟨r, u, bv, iv, M1, M2, Mn ++ (A ++ B), nv, rs, g1, g2, ?_, k1, fun H hs => BusO.readX h1 h2 hs, ?_⟩
      · exact perm_glue' (ls := [[bB p nv s.time], Mn, A, [nB r u x.on bv iv, uB u x.u], M1, M2, B]) (p := [0, 1, 2, 3, 4, 5, 6]) (q := [3, 0, 4, 5, 1, 2, 6]) (by decide) (by simp [glue]) (by simp [glue])
      · intro time x' bv' iv' M1' M2' g3 g4
        refine ⟨_, BusO.mk (s := ⟨time, s.ns.set i x'⟩) h1 (k4 x' _ (.mk (u := u) g3 g4)), ?_⟩
        exact perm_glue' (ls := [[bB p nv time], Mn, A, [nB r u x'.on bv' iv', uB u x'.u], M1', M2', B]) (p := [3, 0, 4, 5, 1, 2, 6]) (q := [0, 1, 2, 3, 4, 5, 6]) (by decide) (by simp [glue]) (by simp [glue])
section
variable {K : Value → Heap → Prop} {H : Heap} {p : Nat} {s : Bs} {nv : Value} {rs : List Nat} {i : Int}
theorem c29 (h : BusR p s nv rs H) (h0 : ¬ s.is i → K (.tuple ⟨[.pointer none, zi 1]⟩) H) (h1 : s.is i → ∀ r u bv iv, rs[i.toNat]? = some r → NdR r (s.at i) u bv iv H → K (.tuple ⟨[ptr r, zi 0]⟩) H) : SCalls Tryz.prog 29 [ptr p, zi i] H K := by
  have hb := h.b
  refine enter29 ?_
  by_cases hi : s.is i
  · have hi' := hi
    obtain ⟨hi0, hi1⟩ := hi'
    have hil : i.toNat < s.ns.length := by omega
    have hx := List.getElem?_eq_getElem hil
    have hat : s.at i = s.ns[i.toNat] := by unfold Bs.at; rw [List.getD_eq_getElem?_getD, hx]; rfl
    obtain ⟨r, u, bv, iv, o, r0, c, b, k1, k2, rfl, k3, k4⟩ := h.at hx
    rw [← hat] at k2
    have hk := h1 hi r u bv iv k1 k2
    have g0 : (Blk.row 77 [.slice (some ⟨r0, o, none⟩) s.ns.length c, .int .u64 (s.time : Int)] (0, 0)).cell 0 = some (.slice (some ⟨r0, o, none⟩) s.ns.length c) := rfl
    clear h0 h1
    repeat' ((conv => whnf); (first | refine Branch.df (show ¬ i < 0 by omega) ?_ | refine Branch.df (by omega) ?_ | refine Look.cell hb g0 ?_ | refine Idx.of i.toNat (by omega) hil ?_ | refine Look.cell k3 k4 ?_ | exact Keep.all hk))
  · have hk := h0 hi
    obtain ⟨a, c, rfl⟩ := h.sv
    have g0 : (Blk.row 77 [.slice a s.ns.length c, .int .u64 (s.time : Int)] (0, 0)).cell 0 = some (.slice a s.ns.length c) := rfl
    unfold Bs.is at hi
    clear h0 h1
    by_cases hi0 : i < 0
    · repeat' ((conv => whnf); (first | refine Branch.dt hi0 ?_ | refine Look.cell hb g0 ?_ | exact Keep.all hk | refine Branch.t rfl ?_))
    · repeat' ((conv => whnf); (first | refine Branch.df hi0 ?_ | refine Branch.dt (by omega) ?_ | refine Look.cell hb g0 ?_ | exact Keep.all hk))
theorem c32 {r u : Nat} {x : Nd} {bv iv : Value} (h : NdR r x u bv iv H) (hK : K (.bool x.up) H) : SCalls Tryz.prog 32 [ptr r] H K := by
  have hn := h.n
  have h63 : ∀ K2 : Value → Heap → Prop, K2 (zi x.u.st) H → SCalls Tryz.prog 63 [ptr u] H K2 := fun K2 hk => c63 h.u hk
  unfold Nd.up at hK
  unfold Un.st at h63
  obtain ⟨on, ⟨us, ur, off, idle⟩, box, inn⟩ := x
  dsimp only at hK h63 hn
  have g0 : (Blk.row 82 [.bool on, ptr u, bv, iv] (0, 0)).cell 0 = some (.bool on) := rfl
  have g1 : (Blk.row 82 [.bool on, ptr u, bv, iv] (0, 0)).cell 1 = some (ptr u) := rfl
  refine enter32 ?_
  cases on with
  | false =>
    rw [Bool.false_and] at hK
    repeat' ((conv => whnf); (first | refine Look.cell hn g0 ?_ | refine Look.cell hn g1 ?_ | exact Keep.all hK | refine Branch.f rfl ?_))
  | true =>
    rw [Bool.true_and] at hK
    cases off with
    | true =>
      rw [if_pos rfl] at h63
      repeat' ((conv => whnf); (first | refine Look.cell hn g0 ?_ | refine Look.cell hn g1 ?_ | with_reducible refine h63 _ ?_ | exact Keep.all hK | refine Branch.t rfl ?_))
    | false =>
      rw [if_neg (by decide)] at h63
      by_cases h1 : 127 < us ∨ 127 < ur
      · rw [if_pos h1] at h63
        repeat' ((conv => whnf); (first | refine Look.cell hn g0 ?_ | refine Look.cell hn g1 ?_ | with_reducible refine h63 _ ?_ | exact Keep.all hK | refine Branch.t rfl ?_))
      · rw [if_neg h1] at h63
        repeat' ((conv => whnf); (first | refine Look.cell hn g0 ?_ | refine Look.cell hn g1 ?_ | with_reducible refine h63 _ ?_ | exact Keep.all hK | refine Branch.t rfl ?_))
theorem c24 (h : BusR p s nv rs H) (hK : K (.int .u64 (s.time : Int)) H) : SCalls Tryz.prog 24 [ptr p] H K := by
  have hb := h.b
  have g1 : (Blk.row 77 [nv, .int .u64 (s.time : Int)] (0, 0)).cell 1 = some (.int .u64 (s.time : Int)) := rfl
  refine enter24 ?_
  repeat' ((conv => whnf); (first | refine Look.cell hb g1 ?_ | exact Keep.all hK))
theorem c60 (h : BusR p s nv rs H) (h0 : ¬ s.is i → K (.tuple ⟨[.pointer none, zi 1]⟩) H) (h1 : s.is i → ∀ u, uB u (s.at i).u ∈ H → K (.tuple ⟨[ptr u, zi 0]⟩) H) : SCalls Tryz.prog 60 [ptr p, zi i] H K := by
  have h29 := fun K2 : Value → Heap → Prop => c29 (K := K2) (i := i) h
  refine enter60 ?_
  by_cases hi : s.is i
  · have hk := h1 hi
    have h29 := fun (K2 : Value → Heap → Prop) hk => h29 K2 (fun hn => absurd hi hn) (fun _ => hk)
    clear h0 h1
    repeat' ((conv => whnf); (first | with_reducible refine h29 _ (fun r u bv iv k1 k2 => ?_) | refine Branch.f rfl ?_ | refine Look.cell k2.n (show (Blk.row 82 [_, ptr u, _, _] (0, 0)).cell 1 = some (ptr u) from rfl) ?_ | exact Keep.all (hk _ k2.u)))
  · have hk := h0 hi
    have h29 := fun (K2 : Value → Heap → Prop) hk => h29 K2 (fun _ => hk) (fun h => absurd h hi)
    clear h0 h1
    repeat' ((conv => whnf); (first | with_reducible refine h29 _ ?_ | refine Branch.t rfl ?_ | exact Keep.all hk))
theorem c59 (h : BusR p s nv rs H) (h0 : ¬ s.is i → K (.tuple ⟨[frV z0, .bool false]⟩) H) (h1 : s.is i → K (.tuple ⟨[frV ((s.at i).box.getD z0), .bool (s.at i).box.isSome]⟩) H) : SCalls Tryz.prog 59 [ptr p, zi i] H K := by
  have h29 : ∀ q (K2 : Value → Heap → Prop), (¬ s.is i → K2 (.tuple ⟨[.pointer none, zi 1]⟩) (q :: H)) → (s.is i → ∀ r u bv iv, rs[i.toNat]? = some r → NdR r (s.at i) u bv iv (q :: H) → K2 (.tuple ⟨[ptr r, zi 0]⟩) (q :: H)) → SCalls Tryz.prog 29 [ptr p, zi i] (q :: H) K2 := by
    exact fun q K2 k0 k1 => c29 (K := K2) (nv := nv) (rs := rs) (i := i) (h.mono fun z hz => .tail _ hz) k0 k1
  refine enter59 ?_
  by_cases hi : s.is i
  · have hk := h1 hi
    have h29 := fun q (K2 : Value → Heap → Prop) hk => h29 q K2 (fun hn => absurd hi hn) (fun _ => hk)
    clear h0 h1
    generalize s.at i = y at *
    obtain ⟨on, un, box, inn⟩ := y
    dsimp only at hk h29
    have h29' : ∀ q (K2 : Value → Heap → Prop), (∀ r u bv iv, nB r u on bv iv ∈ q :: H → BoxR (q :: H) bv box → K2 (.tuple ⟨[ptr r, zi 0]⟩) (q :: H)) → SCalls Tryz.prog 29 [ptr p, zi i] (q :: H) K2 := fun q K2 hk => h29 q K2 fun r u bv iv _ k2 => hk r u bv iv k2.n k2.b
    clear h29
    cases box with
    | none =>
      have hk : K (.tuple ⟨[frV z0, .bool false]⟩) H := hk
      have h29 : ∀ q (K2 : Value → Heap → Prop), (∀ r u iv, nB r u on (.slice none 0 0) iv ∈ q :: H → K2 (.tuple ⟨[ptr r, zi 0]⟩) (q :: H)) → SCalls Tryz.prog 29 [ptr p, zi i] (q :: H) K2 := fun q K2 hk => h29' q K2 fun r u bv iv k1 k2 => by
        cases k2
        exact hk r u iv k1
      clear h29'
      repeat' ((conv => whnf); (first | with_reducible refine h29 _ _ (fun r u iv k1 => ?_) | refine Branch.f rfl ?_ | refine Look.cell k1 (show (Blk.row 82 [_, ptr u, .slice none 0 0, _] (0, 0)).cell 2 = some (.slice none 0 0) from rfl) ?_ | refine Branch.t rfl ?_ | exact Keep.d1 hk | refine New.mk (fun _ => ?_) | refine Look.at0 ?_ | refine Cells.row rfl ?_ | refine Put.row rfl ?_))
    | some f =>
      have hk : K (.tuple ⟨[frV f, .bool true]⟩) H := hk
      have h29 : ∀ q (K2 : Value → Heap → Prop), (∀ r u iv b, nB r u on (.slice (some ⟨b, 0, none⟩) 1 1) iv ∈ q :: H → (b, Blk.row 32 (frC f) (0, 0)) ∈ q :: H → K2 (.tuple ⟨[ptr r, zi 0]⟩) (q :: H)) → SCalls Tryz.prog 29 [ptr p, zi i] (q :: H) K2 := fun q K2 hk => h29' q K2 fun r u bv iv k1 k2 => by
        cases k2 with
        | some hm => exact hk r u iv _ k1 hm
      have hcf : ∀ i v, (frC f)[i]? = some v → (Blk.row 32 (frC f) (0, 0)).cell (0 + 0 * 12 + i) = some v := fun i v hv => by rw [Nat.zero_mul, Nat.zero_add]; exact hv
      clear h29'
      repeat' ((conv => whnf); (first | with_reducible refine h29 _ _ (fun r u iv b k1 k2 => ?_) | refine Branch.f rfl ?_ | refine Look.cell k1 (show (Blk.row 82 [_, ptr u, .slice (some ⟨b, 0, none⟩) 1 1, _] (0, 0)).cell 2 = some (.slice (some ⟨b, 0, none⟩) 1 1) from rfl) ?_ | refine Look.cells k2 rfl hcf ?_ | exact Keep.d1 hk | refine New.mk (fun _ => ?_) | refine Look.at0 ?_ | refine Cells.row rfl ?_ | refine Put.row rfl ?_ | refine Idx.auto (by first | omega | decide) (by first | omega | decide) ?_))
  · have hk := h0 hi
    have h29 := fun q (K2 : Value → Heap → Prop) hk => h29 q K2 (fun _ => hk) (fun h => absurd h hi)
    clear h0 h1
    repeat' ((conv => whnf); (first | with_reducible refine h29 _ _ ?_ | refine Branch.t rfl ?_ | exact Keep.d1 hk | refine New.mk (fun _ => ?_) | refine Look.at0 ?_ | refine Cells.row rfl ?_ | refine Put.row rfl ?_))
end
end Go.Proofs.YtfmggepbcpceiaaGreatDoor


/- Layer 4: the program's bus in memory, what changes one node of it: by walks. -/
set_option linter.unusedVariables false
set_option linter.unusedSimpArgs false
set_option maxRecDepth 100000
set_option maxHeartbeats 4000000
namespace Go.Proofs.YtfmggepbcpceiaaGreatDoor
open Sx
theorem back_keep {K : Heap → Prop} {H X G Y F' M1 M2 : Heap} {r u p time : Nat} {x : Nd} {bv iv nv : Value} (hF : (nB r u x.on bv iv :: uB u x.u :: bB p nv time :: (M1 ++ (M2 ++ X))).Perm F') (hk : K (F' ++ H))
    (hY : Y.Perm ((nB r u x.on bv iv :: uB u x.u :: bB p nv time :: (M1 ++ (M2 ++ X))) ++ H ++ G)) : Keep Y K :=
  Keep.mk (F' ++ H ++ G) (F' ++ H) (hY.trans ((hF.append_right H).append_right G)) (List.sublist_append_left _ _) hk
theorem Bs.at_of {s : Bs} {i : Int} (hi : s.is i) : s.ns[i.toNat]? = some (s.at i) := by
  obtain ⟨h0, h1⟩ := hi
  have hil : i.toNat < s.ns.length := by omega
  unfold Bs.at
  rw [List.getD_eq_getElem?_getD, List.getElem?_eq_getElem hil]; rfl
theorem Bs.put_self {s : Bs} {i : Int} (hi : s.is i) : s.put i (s.at i) = s := by
  have h := Bs.at_of hi
  obtain ⟨hlt, e⟩ := List.getElem?_eq_some_iff.1 h
  unfold Bs.put
  obtain ⟨time, ns⟩ := s
  dsimp only at *
  congr 1
  rw [← e, List.set_getElem_self]
section
variable {K : Value → Heap → Prop} {F H : Heap} {p : Nat} {s : Bs} {i : Int} {on : Bool} {f : Fm}
theorem bus_at (h : BusO p s F) (hi : s.is i) : ∃ r u bv iv M1 M2 X nv, BoxO bv (s.at i).box M1 ∧ Grow frC 12 32 iv (s.at i).inn M2 ∧ F.Perm (nB r u (s.at i).on bv iv :: uB u (s.at i).u :: bB p nv s.time :: (M1 ++ (M2 ++ X))) ∧
    (∀ (H : Heap) (K : Value → Heap → Prop), (∀ z ∈ F, z ∈ H) → K (.tuple ⟨[ptr r, zi 0]⟩) H → SCalls Tryz.prog 29 [ptr p, zi i] H K) ∧ (∀ H : Heap, (∀ z ∈ F, z ∈ H) → NdR r (s.at i) u bv iv H) ∧
      ∀ x' bv' iv' M1' M2', BoxO bv' x'.box M1' → Grow frC 12 32 iv' x'.inn M2' → ∃ F', BusO p (s.put i x') F' ∧ (nB r u x'.on bv' iv' :: uB u x'.u :: bB p nv s.time :: (M1' ++ (M2' ++ X))).Perm F' := by
  obtain ⟨r, u, bv, iv, M1, M2, X, nv, rs, g1, g2, g3, g4, g5, g6⟩ := h.focus (Bs.at_of hi)
  refine ⟨r, u, bv, iv, M1, M2, X, nv, g1, g2, g3, fun H K hs hk => ?_, fun H hs => ?_, fun x' bv' iv' M1' M2' => g6 s.time x' bv' iv' M1' M2'⟩
  · refine c29 (g5 H hs) (fun hn => absurd hi hn) (fun _ r' u' bv' iv' k1 k2 => ?_)
    rw [g4] at k1
    injection k1 with k1
    subst k1
    exact hk
  · have hs' : ∀ z ∈ nB r u (s.at i).on bv iv :: uB u (s.at i).u :: bB p nv s.time :: (M1 ++ (M2 ++ X)), z ∈ H := fun z hz => hs z (g3.symm.subset hz)
    exact ⟨hs' _ (.head _), hs' _ (.tail _ (.head _)), g1.read fun z hz => hs' _ (.tail _ (.tail _ (.tail _ (List.mem_append_left _ hz)))), g2.ins frC_len fun z hz => hs' _ (.tail _ (.tail _ (.tail _ (List.mem_append_right _ (List.mem_append_left _ hz)))))⟩
theorem bus_no (h : BusO p s F) (hi : ¬ s.is i) (hs : ∀ z ∈ F, z ∈ H) (hk : K (.tuple ⟨[.pointer none, zi 1]⟩) H) : SCalls Tryz.prog 29 [ptr p, zi i] H K := by
  obtain ⟨nv, rs, hr⟩ := h.read hs
  exact c29 hr (fun _ => hk) (fun hn => absurd hn hi)
theorem c10 (h : BusO p s F) (hK : ∀ F', BusO p (s.power i on).1 F' → K (zi (s.power i on).2) (F' ++ H)) : SCalls Tryz.prog 10 [ptr p, zi i, .bool on] (F ++ H) K := by
  unfold Bs.power at hK
  by_cases hi : s.is i
  · rw [if_pos hi] at hK
    obtain ⟨r, u, bv, iv, M1, M2, X, nv, g1, g2, g3, g4, _, g6⟩ := bus_at h hi
    have hp : (F ++ H).Perm (nB r u (s.at i).on bv iv :: uB u (s.at i).u :: bB p nv s.time :: ((M1 ++ (M2 ++ X)) ++ H)) := g3.append_right H
    refine SCalls.perm ?_ hp
    have h29 : ∀ K2 : Value → Heap → Prop, K2 (.tuple ⟨[ptr r, zi 0]⟩) (nB r u (s.at i).on bv iv :: uB u (s.at i).u :: bB p nv s.time :: ((M1 ++ (M2 ++ X)) ++ H)) → SCalls Tryz.prog 29 [ptr p, zi i] (nB r u (s.at i).on bv iv :: uB u (s.at i).u :: bB p nv s.time :: ((M1 ++ (M2 ++ X)) ++ H)) K2 := fun K2 hk =>
      g4 _ K2 (fun z hz => hp.subset (List.mem_append_left _ hz)) hk
    by_cases hon : (s.at i).on = on
    · rw [if_pos hon] at hK
      obtain ⟨F', k1, k2⟩ := g6 (s.at i) bv iv M1 M2 g1 g2
      rw [Bs.put_self hi] at k1
      have hfin := back_keep (K := fun H' => K (zi 0) H') (G := []) k2 (hK F' k1) (by rw [List.append_nil])
      clear hK g1 g2 g3 g4 g6 hp
      generalize s.at i = y at *
      obtain ⟨yon, yu, ybox, yinn⟩ := y
      dsimp only at hon hfin h29 ⊢
      subst hon
      refine enter10 ?_
      cases yon with
      | true =>
        repeat' ((conv => whnf); (first | with_reducible refine h29 _ ?_ | refine Branch.f rfl ?_ | exact hfin | refine Look.at0 ?_ | refine Cell.row ?_ | refine Branch.dt rfl ?_))
      | false =>
        repeat' ((conv => whnf); (first | with_reducible refine h29 _ ?_ | refine Branch.f rfl ?_ | exact hfin | refine Look.at0 ?_ | refine Cell.row ?_ | refine Branch.dt rfl ?_))
    · rw [if_neg hon] at hK
      obtain ⟨F', k1, k2⟩ := g6 ⟨on, u0, none, []⟩ (.slice none 0 0) (.slice none 0 0) [] [] .none .nil
      have hfin := back_keep (K := fun H' => K (zi 0) H') (Y := nB r u on (.slice none 0 0) (.slice none 0 0) :: uB u u0 :: bB p nv s.time :: ((M1 ++ (M2 ++ X)) ++ H)) (G := M1 ++ M2) k2 (hK F' k1) (perm_glue' (ls := [[nB r u on (.slice none 0 0) (.slice none 0 0), uB u u0, bB p nv s.time], M1, M2, X, H]) (p := [0, 1, 2, 3, 4]) (q := [0, 3, 4, 1, 2]) (by decide) (by simp [glue]) (by simp [glue]))
      have h30 : ∀ a R un (K2 : Value → Heap → Prop), K2 (.tuple ⟨[]⟩) (a :: uB u u0 :: R) → SCalls Tryz.prog 30 [ptr u] (a :: uB u un :: R) K2 := fun a R un K2 hk => SCalls.under [a] (c30 hk)
      clear hK g1 g2 g3 g4 g6 hp
      generalize s.at i = y at *
      obtain ⟨yon, yu, ybox, yinn⟩ := y
      dsimp only at hon hfin h29 ⊢
      refine enter10 ?_
      cases yon with
      | true =>
        obtain rfl : on = false := by cases on <;> simp_all
        repeat' ((conv => whnf); (first | with_reducible refine h29 _ ?_ | refine Branch.t rfl ?_ | with_reducible refine h30 _ _ _ _ ?_ | exact hfin | refine Look.at0 ?_ | refine Cell.row ?_ | refine Put.row rfl ?_))
      | false =>
        obtain rfl : on = true := by cases on <;> simp_all
        repeat' ((conv => whnf); (first | with_reducible refine h29 _ ?_ | refine Branch.t rfl ?_ | with_reducible refine h30 _ _ _ _ ?_ | exact hfin | refine Look.at0 ?_ | refine Cell.row ?_ | refine Put.row rfl ?_))
  · rw [if_neg hi] at hK
    have hk := hK F h
    have h29 := fun (K2 : Value → Heap → Prop) hk => bus_no (K := K2) (H := F ++ H) h hi (fun z hz => List.mem_append_left _ hz) hk
    clear hK
    refine enter10 ?_
    repeat' ((conv => whnf); (first | with_reducible refine h29 _ ?_ | refine Branch.f rfl ?_ | exact Keep.all hk))
theorem c54 (h : BusO p s F) (hK : ∀ F', BusO p (s.cancel i).1 F' → K (.bool (s.cancel i).2) (F' ++ H)) : SCalls Tryz.prog 54 [ptr p, zi i] (F ++ H) K := by
  unfold Bs.cancel at hK
  by_cases hi : s.is i
  · rw [if_pos hi] at hK
    obtain ⟨r, u, bv, iv, M1, M2, X, nv, g1, g2, g3, g4, _, g6⟩ := bus_at h hi
    have hp : (F ++ H).Perm (nB r u (s.at i).on bv iv :: uB u (s.at i).u :: bB p nv s.time :: ((M1 ++ (M2 ++ X)) ++ H)) := g3.append_right H
    refine SCalls.perm ?_ hp
    have h29 : ∀ K2 : Value → Heap → Prop, K2 (.tuple ⟨[ptr r, zi 0]⟩) (nB r u (s.at i).on bv iv :: uB u (s.at i).u :: bB p nv s.time :: ((M1 ++ (M2 ++ X)) ++ H)) → SCalls Tryz.prog 29 [ptr p, zi i] (nB r u (s.at i).on bv iv :: uB u (s.at i).u :: bB p nv s.time :: ((M1 ++ (M2 ++ X)) ++ H)) K2 := fun K2 hk =>
      g4 _ K2 (fun z hz => hp.subset (List.mem_append_left _ hz)) hk
    have g6a := g6 (s.at i) bv iv M1 M2 g1 g2
    have g6b := g6 ⟨(s.at i).on, (s.at i).u, none, (s.at i).inn⟩ (.slice none 0 0) iv [] M2 .none g2
    rw [Bs.put_self hi] at g6a
    clear g6 g4 g3 hp g2
    generalize s.at i = y at *
    obtain ⟨yon, yu, ybox, yinn⟩ := y
    dsimp only at g1 g6a g6b h29 hK ⊢
    refine enter54 ?_
    cases g1 with
    | none =>
      rw [if_neg (by decide)] at hK
      obtain ⟨F', k1, k2⟩ := g6a
      have hfin := back_keep (K := fun H' => K (.bool false) H') (G := []) (x := ⟨yon, yu, none, yinn⟩) k2 (hK F' k1) (by rw [List.append_nil])
      clear hK g6b
      repeat' ((conv => whnf); (first | with_reducible refine h29 _ ?_ | refine Branch.t rfl ?_ | exact hfin | refine Look.at0 ?_ | refine Cell.row ?_ | refine Branch.not ?_))
    | @some q f =>
      rw [if_pos (show (some f : Option Fm).isSome = true from rfl)] at hK
      obtain ⟨F', k1, k2⟩ := g6b
      have hfin := back_keep (K := fun H' => K (.bool true) H') (x := ⟨yon, yu, none, yinn⟩) (Y := nB r u yon (.slice none 0 0) iv :: uB u yu :: bB p nv s.time :: (([(q, .row 32 (frC f) (0, 0))] ++ (M2 ++ X)) ++ H)) (G := [(q, .row 32 (frC f) (0, 0))]) k2 (hK F' k1) (perm_glue' (ls := [[nB r u yon (.slice none 0 0) iv, uB u yu, bB p nv s.time], [(q, .row 32 (frC f) (0, 0))], M2, X, H]) (p := [0, 1, 2, 3, 4]) (q := [0, 2, 3, 4, 1]) (by decide) (by simp [glue]) (by simp [glue]))
      clear hK g6a
      repeat' ((conv => whnf); (first | with_reducible refine h29 _ ?_ | refine Branch.f rfl ?_ | exact hfin | refine Look.at0 ?_ | refine Cell.row ?_ | refine Put.row rfl ?_))
  · rw [if_neg hi] at hK
    have hk := hK F h
    have h29 := fun (K2 : Value → Heap → Prop) hk => bus_no (K := K2) (H := F ++ H) h hi (fun z hz => List.mem_append_left _ hz) hk
    clear hK
    refine enter54 ?_
    repeat' ((conv => whnf); (first | with_reducible refine h29 _ ?_ | refine Branch.t rfl ?_ | exact Keep.all hk))
theorem c14 (h : BusO p s F) (hK0 : ¬ s.is i → K (.tuple ⟨[.slice none 0 0, zi 1]⟩) (F ++ H))
    (hK1 : s.is i → ∀ F' iv M, BusO p (s.fetch i).1 F' → Grow frC 12 32 iv (s.at i).inn M → K (.tuple ⟨[iv, zi 0]⟩) (F' ++ (M ++ H))) : SCalls Tryz.prog 14 [ptr p, zi i] (F ++ H) K := by
  unfold Bs.fetch at hK1
  by_cases hi : s.is i
  · have hK := hK1 hi
    clear hK0 hK1
    rw [if_pos hi] at hK
    obtain ⟨r, u, bv, iv, M1, M2, X, nv, g1, g2, g3, g4, _, g6⟩ := bus_at h hi
    have hp : (F ++ H).Perm (nB r u (s.at i).on bv iv :: uB u (s.at i).u :: bB p nv s.time :: ((M1 ++ (M2 ++ X)) ++ H)) := g3.append_right H
    refine SCalls.perm ?_ hp
    have h29 : ∀ K2 : Value → Heap → Prop, K2 (.tuple ⟨[ptr r, zi 0]⟩) (nB r u (s.at i).on bv iv :: uB u (s.at i).u :: bB p nv s.time :: ((M1 ++ (M2 ++ X)) ++ H)) → SCalls Tryz.prog 29 [ptr p, zi i] (nB r u (s.at i).on bv iv :: uB u (s.at i).u :: bB p nv s.time :: ((M1 ++ (M2 ++ X)) ++ H)) K2 := fun K2 hk =>
      g4 _ K2 (fun z hz => hp.subset (List.mem_append_left _ hz)) hk
    have g6b := g6 ⟨(s.at i).on, (s.at i).u, (s.at i).box, []⟩ bv (.slice none 0 0) M1 [] g1 .nil
    clear g6 g4 g3 hp
    generalize s.at i = y at *
    obtain ⟨yon, yu, ybox, yinn⟩ := y
    dsimp only at g1 g2 g6b h29 hK ⊢
    obtain ⟨F', k1, k2⟩ := g6b
    have hfin := back_keep (K := fun H' => K (.tuple ⟨[iv, zi 0]⟩) H') (x := ⟨yon, yu, ybox, []⟩) (H := M2 ++ H) (Y := nB r u yon bv (.slice none 0 0) :: uB u yu :: bB p nv s.time :: ((M1 ++ (M2 ++ X)) ++ H)) (G := []) k2 (hK F' iv M2 k1 g2) (perm_glue' (ls := [[nB r u yon bv (.slice none 0 0), uB u yu, bB p nv s.time], M1, M2, X, H]) (p := [0, 1, 2, 3, 4]) (q := [0, 1, 3, 2, 4]) (by decide) (by simp [glue]) (by simp [glue]))
    obtain ⟨ia, ic, rfl, _⟩ := g2.sv
    clear hK
    refine enter14 ?_
    repeat' ((conv => whnf); (first | with_reducible refine h29 _ ?_ | refine Branch.f rfl ?_ | exact hfin | refine Look.at0 ?_ | refine Cell.row ?_ | refine Put.row rfl ?_))
  · have hk := hK0 hi
    have h29 := fun (K2 : Value → Heap → Prop) hk => bus_no (K := K2) (H := F ++ H) h hi (fun z hz => List.mem_append_left _ hz) hk
    clear hK0 hK1
    refine enter14 ?_
    repeat' ((conv => whnf); (first | with_reducible refine h29 _ ?_ | refine Branch.t rfl ?_ | exact Keep.all hk))
theorem c11 (h : BusO p s F) (hid : f.id < 4294967296) (hK : ∀ F', BusO p (s.submit i f).1 F' → K (zi (s.submit i f).2) (F' ++ H)) : SCalls Tryz.prog 11 [ptr p, zi i, frV f] (F ++ H) K := by
  unfold Bs.submit at hK
  have h31 : ∀ H (K2 : Value → Heap → Prop), K2 (zi (erF f)) H → SCalls Tryz.prog 31 [frV f] H K2 := fun H K2 hk => c31 hid hk
  have h33 : ∀ H (K2 : Value → Heap → Prop), K2 (frV (plF f)) H → SCalls Tryz.prog 33 [frV f] H K2 := fun H K2 hk => c33 hk
  unfold erF at h31
  by_cases hi : s.is i
  · rw [if_pos hi] at hK
    obtain ⟨r, u, bv, iv, M1, M2, X, nv, g1, g2, g3, g4, g5, g6⟩ := bus_at h hi
    have hp : (F ++ H).Perm (nB r u (s.at i).on bv iv :: uB u (s.at i).u :: bB p nv s.time :: ((M1 ++ (M2 ++ X)) ++ H)) := g3.append_right H
    refine SCalls.perm ?_ hp
    have h29 : ∀ z (K2 : Value → Heap → Prop), K2 (.tuple ⟨[ptr r, zi 0]⟩) (z :: nB r u (s.at i).on bv iv :: uB u (s.at i).u :: bB p nv s.time :: ((M1 ++ (M2 ++ X)) ++ H)) → SCalls Tryz.prog 29 [ptr p, zi i] (z :: nB r u (s.at i).on bv iv :: uB u (s.at i).u :: bB p nv s.time :: ((M1 ++ (M2 ++ X)) ++ H)) K2 := fun z K2 hk =>
      g4 _ K2 (fun z hz => .tail _ (hp.subset (List.mem_append_left _ hz))) hk
    have h32 : ∀ z (K2 : Value → Heap → Prop), K2 (.bool (s.at i).up) (z :: nB r u (s.at i).on bv iv :: uB u (s.at i).u :: bB p nv s.time :: ((M1 ++ (M2 ++ X)) ++ H)) → SCalls Tryz.prog 32 [ptr r] (z :: nB r u (s.at i).on bv iv :: uB u (s.at i).u :: bB p nv s.time :: ((M1 ++ (M2 ++ X)) ++ H)) K2 := fun z K2 hk =>
      c32 (g5 _ (fun z hz => .tail _ (hp.subset (List.mem_append_left _ hz)))) hk
    have g6a := g6 (s.at i) bv iv M1 M2 g1 g2
    have g6b := fun q => g6 ⟨(s.at i).on, (s.at i).u, some (plF f), (s.at i).inn⟩ _ iv _ M2 (.some (q := q)) g2
    rw [Bs.put_self hi] at g6a
    obtain ⟨F', k1, k2⟩ := g6a
    cases ho : okF f with
    | false =>
      rw [ho, if_neg (by decide)] at hK
      rw [ho] at h31
      have hfin := fun z : Nat × Blk => back_keep (K := fun H' => K (zi 1) H') (Y := z :: nB r u (s.at i).on bv iv :: uB u (s.at i).u :: bB p nv s.time :: ((M1 ++ (M2 ++ X)) ++ H)) (G := [z]) k2 (hK F' k1) (List.perm_append_singleton _ _).symm
      clear hK g6b g6 g5 g4 g3 hp g2 g1 h32
      refine enter11 ?_
      repeat' ((conv => whnf); (first | with_reducible refine h29 _ _ ?_ | refine Branch.f rfl ?_ | with_reducible refine h31 _ _ ?_ | refine Branch.t rfl ?_ | exact hfin _ | refine New.mk (fun _ => ?_) | refine Look.at0 ?_ | refine Cells.row rfl ?_))
    | true =>
      rw [ho, if_pos rfl] at hK
      rw [ho, if_pos rfl] at h31
      clear g6 g5 g4 g3 hp g2
      cases hu : (s.at i).up with
      | false =>
        rw [hu, if_neg (by decide)] at hK
        rw [hu] at h32
        have hfin := fun z : Nat × Blk => back_keep (K := fun H' => K (zi 30) H') (Y := z :: nB r u (s.at i).on bv iv :: uB u (s.at i).u :: bB p nv s.time :: ((M1 ++ (M2 ++ X)) ++ H)) (G := [z]) k2 (hK F' k1) (List.perm_append_singleton _ _).symm
        clear hK g6b g1
        refine enter11 ?_
        repeat' ((conv => whnf); (first | with_reducible refine h29 _ _ ?_ | refine Branch.f rfl ?_ | with_reducible refine h31 _ _ ?_ | with_reducible refine h32 _ _ ?_ | refine Branch.t rfl ?_ | exact hfin _ | refine New.mk (fun _ => ?_) | refine Look.at0 ?_ | refine Cells.row rfl ?_))
      | true =>
        rw [hu, if_pos rfl] at hK
        rw [hu] at h32
        generalize s.at i = y at *
        obtain ⟨yon, yu, ybox, yinn⟩ := y
        dsimp only at g1 g6b h29 h32 hK k2 ⊢
        refine enter11 ?_
        cases g1 with
        | none =>
          rw [if_neg (by decide)] at hK
          have hfin : ∀ (z : Nat × Blk) (qq : Nat), Keep ((qq, .row 32 (frC (plF f)) (0, 0)) :: z :: nB r u yon (.slice (some ⟨qq, 0, none⟩) 1 1) iv :: uB u yu :: bB p nv s.time :: (([] ++ (M2 ++ X)) ++ H)) (fun H' => K (zi 0) H') := fun z qq => by
            obtain ⟨F2, j1, j2⟩ := g6b qq
            exact back_keep (K := fun H' => K (zi 0) H') (x := ⟨yon, yu, some (plF f), yinn⟩) (Y := (qq, .row 32 (frC (plF f)) (0, 0)) :: z :: nB r u yon (.slice (some ⟨qq, 0, none⟩) 1 1) iv :: uB u yu :: bB p nv s.time :: (([] ++ (M2 ++ X)) ++ H)) (G := [z]) j2 (hK F2 j1) (perm_glue' (ls := [[(qq, .row 32 (frC (plF f)) (0, 0))], [z], [nB r u yon (.slice (some ⟨qq, 0, none⟩) 1 1) iv, uB u yu, bB p nv s.time], M2, X, H]) (p := [0, 1, 2, 3, 4, 5]) (q := [2, 0, 3, 4, 5, 1]) (by decide) (by simp [glue]) (by simp [glue]))
          clear hK g6b
          repeat' ((conv => whnf); (first | with_reducible refine h29 _ _ ?_ | refine Branch.f rfl ?_ | with_reducible refine h31 _ _ ?_ | with_reducible refine h32 _ _ ?_ | with_reducible refine h33 _ _ ?_ | exact hfin _ _ | refine New.mk (fun _ => ?_) | refine Look.at0 ?_ | refine Cell.row ?_ | refine Cells.row rfl ?_ | refine Put.row rfl ?_ | refine Look.at1 ?_ | refine Look.at2 ?_))
        | @some q g =>
          rw [if_pos (show (some g : Option Fm).isSome = true from rfl)] at hK
          have hfin := fun z : Nat × Blk => back_keep (K := fun H' => K (zi 31) H') (x := ⟨yon, yu, some g, yinn⟩) (Y := z :: nB r u yon (.slice (some ⟨q, 0, none⟩) 1 1) iv :: uB u yu :: bB p nv s.time :: (([(q, .row 32 (frC g) (0, 0))] ++ (M2 ++ X)) ++ H)) (G := [z]) k2 (hK F' k1) (List.perm_append_singleton _ _).symm
          clear hK g6b
          repeat' ((conv => whnf); (first | with_reducible refine h29 _ _ ?_ | refine Branch.f rfl ?_ | with_reducible refine h31 _ _ ?_ | with_reducible refine h32 _ _ ?_ | refine Branch.t rfl ?_ | exact hfin _ | refine New.mk (fun _ => ?_) | refine Look.at0 ?_ | refine Cell.row ?_ | refine Cells.row rfl ?_ | refine Look.at1 ?_))
  · rw [if_neg hi] at hK
    have hk := hK F h
    have h29 := fun (z : Nat × Blk) (K2 : Value → Heap → Prop) hk => bus_no (K := K2) (H := z :: (F ++ H)) h hi (fun z hz => .tail _ (List.mem_append_left _ hz)) hk
    clear hK
    refine enter11 ?_
    repeat' ((conv => whnf); (first | with_reducible refine h29 _ _ ?_ | refine Branch.t rfl ?_ | exact Keep.d1 hk | refine New.mk (fun _ => ?_)))
end
end Go.Proofs.YtfmggepbcpceiaaGreatDoor


/- Layer 4: the program's nodes as they go into a round; how long the winner's frame is: by walks. -/
set_option linter.unusedVariables false
set_option linter.unusedSimpArgs false
set_option maxRecDepth 100000
set_option maxHeartbeats 4000000
namespace Go.Proofs.YtfmggepbcpceiaaGreatDoor
open Sx
inductive S36 (A3 A4 A14 A15 A16 : Value) : List Value → Prop
  | mk {r0 r1 r2 r5 r6 r7 r8 r9 r10 r11 r12 r13 r17 r18 r19 r20 r21 r22 r23 r24 r25 r26 r27 r28 r29 r30 r31 r32 r33 r34 r35 r36 r37 r38 r39 r40 r41 r42 r43 r44 r45 r46 r47 r48 r49 r50 r51 r52 r53 r54 r55 r56 r57 r58 : Value} : S36 A3 A4 A14 A15 A16 [r0, r1, r2, A3, A4, r5, r6, r7, r8, r9, r10, r11, r12, r13, A14, A15, A16, r17, r18, r19, r20, r21, r22, r23, r24, r25, r26, r27, r28, r29, r30, r31, r32, r33, r34, r35, r36, r37, r38, r39, r40, r41, r42, r43, r44, r45, r46, r47, r48, r49, r50, r51, r52, r53, r54, r55, r56, r57, r58]
/-- The keys of what was seen. -/
def SeenK (l : List (Ent (List UInt8))) (pre : List Nd) : Prop := ∀ b : List UInt8, b ∈ l.map Ent.key ↔ ∃ y ∈ pre, ∃ g, y.box = some g ∧ y.up = true ∧ fld g = b
theorem seen_any {l : List (Ent (List UInt8))} {pre : List Nd} (h : SeenK l pre) (f : Fm) : (pre.any fun y => fldO y f) = true ↔ fld f ∈ l.map Ent.key := by
  rw [h, List.any_eq_true]
  constructor
  · rintro ⟨y, hy, h1⟩
    unfold fldO at h1
    cases hb : y.box with
    | none => rw [hb] at h1; cases h1
    | some g =>
      rw [hb] at h1
      simp only [Bool.and_eq_true, decide_eq_true_eq] at h1
      exact ⟨y, hy, g, hb, h1.1, h1.2⟩
  · rintro ⟨y, hy, g, h1, h2, h3⟩
    refine ⟨y, hy, ?_⟩
    unfold fldO
    rw [h1, h2]
    show (true && decide (fld g = fld f)) = true
    rw [h3]; simp
theorem SeenK.skip {l : List (Ent (List UInt8))} {pre : List Nd} {x : Nd} (h : SeenK l pre) (hx : x.box = none ∨ x.up = false) : SeenK l (pre ++ [x]) := by
  intro b
  rw [h b]
  constructor
  · rintro ⟨y, hy, h1⟩; exact ⟨y, List.mem_append_left _ hy, h1⟩
  · rintro ⟨y, hy, g, h1, h2, h3⟩
    rcases List.mem_append.1 hy with hy | hy
    · exact ⟨y, hy, g, h1, h2, h3⟩
    · obtain rfl := List.mem_singleton.1 hy
      rcases hx with hx | hx
      · rw [hx] at h1; cases h1
      · rw [hx] at h2; cases h2
theorem SeenK.more {l l' : List (Ent (List UInt8))} {pre : List Nd} {x : Nd} {f : Fm} (h : SeenK l pre) (hb : x.box = some f) (hu : x.up = true) (hl : ∀ b, b ∈ l'.map Ent.key ↔ b ∈ l.map Ent.key ∨ b = fld f) : SeenK l' (pre ++ [x]) := by
  intro b
  rw [hl, h b]
  constructor
  · rintro (⟨y, hy, h1⟩ | rfl)
    · exact ⟨y, List.mem_append_left _ hy, h1⟩
    · exact ⟨x, List.mem_append_right _ (.head _), f, hb, hu, rfl⟩
  · rintro ⟨y, hy, g, h1, h2, h3⟩
    rcases List.mem_append.1 hy with hy | hy
    · exact .inl ⟨y, hy, g, h1, h2, h3⟩
    · obtain rfl := List.mem_singleton.1 hy
      rw [hb] at h1
      injection h1 with h1
      subst h1
      exact .inr h3.symm
theorem set_keys {l : List (Ent (List UInt8))} {j : Nat} {e e' : Ent (List UInt8)} (hj : l[j]? = some e) (hk : e'.key = e.key) : (l.set j e').map Ent.key = l.map Ent.key := by
  rw [List.map_set, hk]
  obtain ⟨hlt, rfl⟩ := List.getElem?_eq_some_iff.1 hj
  have : (l.map Ent.key)[j]'(by simpa using hlt) = l[j].key := by simp
  rw [← this, List.set_getElem_self]
structure T36 where
  (k : Nat) (l : List (Ent (List UInt8))) (c : Nat)
def I36 (pm : Nat) (nv : Value) (ns : List Nd) (H : Heap) (y : T36) (S : List Value) (H' : Heap) : Prop :=
  y.k ≤ ns.length ∧ SeenK y.l (ns.take y.k) ∧ (∀ e ∈ y.l, e.val = .bool true) ∧ ∃ a c M, Grow snC 14 57 (.slice a y.k c) (sndN [] (ns.take y.k)) M ∧ S36 (.map (some pm)) (.slice a y.k c) nv (.int .i64 (ns.length : Int)) (.int .i64 (y.k : Int)) S ∧ H' = (pm, mapB kS y.l y.c) :: (M ++ H)
section
variable {K : Value → Heap → Prop} {H : Heap} {p : Nat} {s : Bs} {nv : Value} {rs : List Nat}
theorem c36 (hD : Db H) (h : BusR p s nv rs H) (hw : ∀ x ∈ s.ns, NdW x) (hn : s.ns.length ≤ 127) (hK : ∀ a c M, Grow snC 14 57 (.slice a s.ns.length c) (sndN [] s.ns) M → K (.slice a s.ns.length c) (M ++ H)) : SCalls Tryz.prog 36 [ptr p] H K := by
  obtain ⟨na, nc, rfl⟩ := h.sv
  have hb := h.b
  have g0 : (Blk.row 77 [.slice na s.ns.length nc, .int .u64 (s.time : Int)] (0, 0)).cell 0 = some (.slice na s.ns.length nc) := rfl
  refine enter36 ?_
  repeat' ((conv => whnf); (first | refine RawV.mkMap kS rfl (fun pm => ?_) | refine Look.cell (.tail _ hb) g0 ?_))
  refine SLoop.invA (I36 pm (.slice na s.ns.length nc) s.ns H) (fun y => s.ns.length - y.k) ⟨0, [], 0⟩ (Keep.all ⟨Nat.zero_le _, fun b => by simp, by simp, none, 0, [], .nil, .mk, rfl⟩) ?_
  rintro ⟨k, l, c2⟩ S H' ⟨hk, hkeys, hvals, a, c, M, hG, hS, rfl⟩ R hR
  dsimp only at hk hkeys hvals hG hS hR ⊢
  by_cases hlt : k < s.ns.length
  · obtain ⟨x, hx, _, htake⟩ := list_at hlt
    have hxw := hw x (List.mem_of_getElem? hx)
    obtain ⟨r, u, bv, iv, o, r0, c3, b, k1, k2, e1, k3, k4⟩ := h.at hx
    injection e1 with e1 _ e3
    subst e1
    have hsn := sndN_snoc x (s.ns.take k) []
    rw [← htake, List.nil_append] at hsn
    have hlen : (sndN [] (s.ns.take k)).length = k := by rw [sndN_len, List.length_take]; omega
    have hsub : ∀ y : Nat × Blk, ∀ z ∈ H, z ∈ y :: (M ++ H) := fun y z hz => .tail _ (List.mem_append_right _ hz)
    have hsub2 : ∀ y w : Nat × Blk, ∀ z ∈ H, z ∈ y :: w :: (M ++ H) := fun y w z hz => .tail _ (.tail _ (List.mem_append_right _ hz))
    have h32 : ∀ y (K2 : Value → Heap → Prop), K2 (.bool x.up) (y :: (M ++ H)) → SCalls Tryz.prog 32 [ptr r] (y :: (M ++ H)) K2 := fun y K2 hk => c32 (k2.mono (hsub y)) hk
    have happ : ∀ (sn : Sn) q t m (o : Oper) (xs xx : Operand) (K2 : Value → Heap → Prop), o.op = .call { callee := .builtin .append, args := #[xs, xx], argTypes := #[51, 51] } → (∀ a c M', Grow snC 14 57 (.slice a (k + 1) c) (sndN [] (s.ns.take k) ++ [sn]) M' → K2 (.slice a (k + 1) c) (M' ++ ((q, .row 57 (snC sn) (0, 0)) :: t :: m :: H))) →
        RawV Tryz.prog o [.slice a k c, .slice (some ⟨q, 0, none⟩) 1 1] ((q, .row 57 (snC sn) (0, 0)) :: t :: m :: (M ++ H)) K2 := by
      intro sn q t m o xs xx K2 ho hk
      refine RawV.grow1 (A := [(q, .row 57 (snC sn) (0, 0)), t, m]) (B := H) (x := sn) (bytes := 32) hG rfl (.head _) ho (by kernel_rfl) (by decide) snC_len (snC_one sn) (by rw [hlen]; simp only [maxLen]; omega) (by rw [hlen]; omega) (fun a c M' g1 => ?_)
      rw [hlen] at g1 ⊢
      exact hk a c M' g1
    have hnext : ∀ l' c' S a' c'' M' q t, SeenK l' (s.ns.take (k + 1)) → (∀ e ∈ l', e.val = .bool true) → Grow snC 14 57 (.slice a' (k + 1) c'') (sndN [] (s.ns.take k) ++ [snd1 (s.ns.take k) x]) M' → S36 (.map (some pm)) (.slice a' (k + 1) c'') (.slice (some ⟨r0, o, none⟩) s.ns.length nc) (.int .i64 (s.ns.length : Int)) (.int .i64 ((k + 1 : Nat) : Int)) S → R S (M' ++ (q :: t :: (pm, mapB kS l' c') :: H)) := by
      intro l' c' S a' c'' M' q t h1 h2 h3 h4
      refine hR ⟨k + 1, l', c'⟩ S _ (by show s.ns.length - (k + 1) < s.ns.length - k; omega) (Keep.glue [M', [q, t], [(pm, mapB kS l' c')], H] [0, 1, 2, 3] [2, 0, 3] [1] (by decide) rfl ⟨hlt, h1, h2, a', c'', M', ?_, h4, rfl⟩)
      show Grow snC 14 57 (.slice a' (k + 1) c'') (sndN [] (s.ns.take (k + 1))) M'
      rw [hsn]; exact h3
    have hn2 := k2.n
    have hbox := k2.b
    have hup := hxw.up
    have hok := hxw.ok
    have hany := fun f => seen_any hkeys f
    rw [htake] at hnext
    have hskip := hkeys.skip (x := x)
    have hmore := fun l' f hb hu => SeenK.more (l' := l') (x := x) (f := f) hkeys hb hu
    clear hR hK htake hsn k2 hkeys
    cases hS
    generalize hU : x.up = U at *
    unfold snd1 at hnext
    cases U with
    | false =>
      have hb0 := hup rfl
      rw [hb0, hU] at hnext
      dsimp only at hnext
      have hsk := hskip (.inr rfl)
      repeat' ((conv => whnf); (first | refine Look.cell (hsub _ _ k3) k4 ?_ | with_reducible refine h32 _ _ ?_ | refine Branch.f rfl ?_ | refine happ ⟨false, false, z0⟩ _ _ _ _ _ _ _ rfl (fun a' c' M' g1 => ?_) | exact hnext _ _ _ _ _ _ _ _ hsk hvals g1 .mk | refine New.mk (fun _ => ?_) | refine Look.at0 ?_ | refine Cell.row ?_ | refine Cells.row rfl ?_ | refine Put.row rfl ?_ | with_reducible refine Val.i64 (by omega) (by omega) ?_ | refine Branch.dt (by omega) ?_ | refine Idx.nat (by omega) ?_))
    | true =>
      obtain ⟨xon, xu, xbox, xinn⟩ := x
      dsimp only at hbox hnext hn2 hok hskip hmore
      rw [hU] at hnext
      have gb : (Blk.row 82 [.bool xon, ptr u, bv, iv] (0, 0)).cell 2 = some bv := rfl
      cases hbox with
      | none =>
        dsimp only at hnext
        have hsk := hskip (.inl rfl)
        repeat' ((conv => whnf); (first | refine Look.cell (hsub _ _ k3) k4 ?_ | refine Look.cell (hsub2 _ _ _ hn2) gb ?_ | with_reducible refine h32 _ _ ?_ | refine Branch.f rfl ?_ | refine happ ⟨true, false, z0⟩ _ _ _ _ _ _ _ rfl (fun a' c' M' g1 => ?_) | exact hnext _ _ _ _ _ _ _ _ hsk hvals g1 .mk | refine New.mk (fun _ => ?_) | refine Look.at0 ?_ | refine Cell.row ?_ | refine Cells.row rfl ?_ | refine Put.row rfl ?_ | with_reducible refine Val.i64 (by omega) (by omega) ?_ | refine Branch.dt (by omega) ?_ | refine Branch.t rfl ?_ | refine Idx.nat (by omega) ?_))
      | @some q f hm =>
        dsimp only at hnext
        obtain ⟨hof, _⟩ := hok f rfl
        have hfid := (okF_bd hof).1
        have hcf : ∀ i v, (frC f)[i]? = some v → (Blk.row 32 (frC f) (0, 0)).cell (0 + 0 * 12 + i) = some v := fun i v hv => by rw [Nat.zero_mul, Nat.zero_add]; exact hv
        have h15 : ∀ y w (K2 : Value → Heap → Prop), K2 (.tuple ⟨[.string (strOf (fld f)), zi 0]⟩) (y :: w :: (M ++ H)) → SCalls Tryz.prog 15 [frV f] (y :: w :: (M ++ H)) K2 := fun y w K2 hk => c15 hfid (hD.mono (hsub2 y w)) (by unfold fV; rw [if_pos hof]; exact hk)
        have hmo := fun l' => hmore l' f rfl rfl
        cases hs : ((s.ns.take k).any fun y => fldO y f) with
        | true =>
          have hin := (hany f).1 hs
          rw [hs] at hnext
          obtain ⟨e0, he0, hek⟩ := List.mem_map.1 hin
          have hup2 : ∀ j e, l[j]? = some e → e.key = fld f → SeenK (l.set j ⟨fld f, .bool true, e.born⟩) (s.ns.take k ++ [⟨xon, xu, some f, xinn⟩]) ∧ ∀ e' ∈ l.set j ⟨fld f, .bool true, e.born⟩, e'.val = .bool true := fun j e hj hke => by
            refine ⟨hmo _ fun b => ?_, fun e' he' => ?_⟩
            · rw [set_keys hj (by exact hke.symm)]
              exact ⟨.inl, fun h => h.elim id fun h => h ▸ hin⟩
            · rcases List.mem_or_eq_of_mem_set he' with h | rfl
              · exact hvals _ h
              · rfl
          repeat' ((conv => whnf); (first | refine Look.cell (hsub _ _ k3) k4 ?_ | refine Look.cell (hsub2 _ _ _ hn2) gb ?_ | refine Look.cells (hsub2 _ _ _ hm) rfl hcf ?_ | with_reducible refine h32 _ _ ?_ | refine Branch.t rfl ?_ | with_reducible refine h15 _ _ _ ?_ | refine RawV.look (f := kS) (a := fld f) rfl hty134 keysS (.tail _ (.head _)) (fun hno => absurd hek (hno e0 he0)) (fun i e hi he => ?_) | (rw [hvals _ (List.mem_of_getElem? hi)]) | refine RawV.upd (A := [_]) (f := kS) (a := fld f) rfl hty134 keysS (fun hno => absurd hek (hno e0 he0)) (fun j e2 hj hke => ?_) | refine happ ⟨true, false, f⟩ _ _ _ _ _ _ _ rfl (fun a' c' M' g1 => ?_) | exact hnext _ _ _ _ _ _ _ _ (hup2 _ _ hj hke).1 (hup2 _ _ hj hke).2 g1 .mk | refine New.mk (fun _ => ?_) | refine Look.at0 ?_ | refine Cell.row ?_ | refine Cells.row rfl ?_ | refine Put.row rfl ?_ | with_reducible refine Val.i64 (by omega) (by omega) ?_ | refine Branch.dt (by omega) ?_ | refine Idx.nat (by omega) ?_ | refine Idx.auto (by first | omega | decide) (by first | omega | decide) ?_))
        | false =>
          have hin : ¬ fld f ∈ l.map Ent.key := fun h => by rw [(hany f).2 h] at hs; cases hs
          rw [hs] at hnext
          have hno2 : ∀ e ∈ l, e.key ≠ fld f := fun e he hk => hin (List.mem_map.2 ⟨e, he, hk⟩)
          have hup2 : SeenK (l ++ [⟨fld f, .bool true, c2⟩]) (s.ns.take k ++ [⟨xon, xu, some f, xinn⟩]) ∧ ∀ e' ∈ l ++ [(⟨fld f, .bool true, c2⟩ : Ent (List UInt8))], e'.val = .bool true := by
            refine ⟨hmo _ fun b => ?_, fun e' he' => ?_⟩
            · rw [List.map_append, List.mem_append, List.map_cons, List.map_nil, List.mem_singleton]
            · rcases List.mem_append.1 he' with h | h
              · exact hvals _ h
              · obtain rfl := List.mem_singleton.1 h; rfl
          repeat' ((conv => whnf); (first | refine Look.cell (hsub _ _ k3) k4 ?_ | refine Look.cell (hsub2 _ _ _ hn2) gb ?_ | refine Look.cells (hsub2 _ _ _ hm) rfl hcf ?_ | with_reducible refine h32 _ _ ?_ | refine Branch.t rfl ?_ | with_reducible refine h15 _ _ _ ?_ | refine RawV.look (f := kS) (a := fld f) rfl hty134 keysS (.tail _ (.head _)) (fun hno => ?_) (fun i e hi he => absurd he (hno2 e (List.mem_of_getElem? hi))) | refine RawV.upd (A := [_]) (f := kS) (a := fld f) rfl hty134 keysS (fun hno3 => ?_) (fun j e2 hj hke => absurd hke (hno2 e2 (List.mem_of_getElem? hj))) | refine happ ⟨true, true, f⟩ _ _ _ _ _ _ _ rfl (fun a' c' M' g1 => ?_) | exact hnext _ _ _ _ _ _ _ _ hup2.1 hup2.2 g1 .mk | refine New.mk (fun _ => ?_) | refine Look.at0 ?_ | refine Cell.row ?_ | refine Cells.row rfl ?_ | refine Put.row rfl ?_ | with_reducible refine Val.i64 (by omega) (by omega) ?_ | refine Branch.dt (by omega) ?_ | refine Idx.nat (by omega) ?_ | refine Idx.auto (by first | omega | decide) (by first | omega | decide) ?_))
  · obtain rfl : k = s.ns.length := by omega
    rw [List.take_length] at hG
    have hk := hK a c M hG
    clear hR hK
    cases hS
    repeat' ((conv => whnf); (first | refine Branch.df (by omega) ?_ | exact Keep.d1 hk))
theorem c37 {o : Out} {e g n w : Nat} {x : Nd} {f : Fm} (hD : Db H) (h : BusR p s nv rs H) (hx : s.ns[w]? = some x) (hb : x.box = some f) (hok : okF f = true) (hwin : o.win = (w : Int)) (hK : K (zi (encN f : Int)) H) : SCalls Tryz.prog 37 [ptr p, oV o e g n] H K := by
  obtain ⟨r, u, bv, iv, oo, r0, c, b, k1, k2, rfl, k3, k4⟩ := h.at hx
  have hn := k2.n
  have hbox := k2.b
  have hbb := h.b
  have hlt := (List.getElem?_eq_some_iff.1 hx).1
  have h23 : ∀ z (K2 : Value → Heap → Prop), K2 (.tuple ⟨[.string (strOf (encB f true)), zi 0]⟩) (z :: H) → SCalls Tryz.prog 23 [frV f, .bool true] (z :: H) K2 := fun z K2 hk => c23 hok (hD.mono fun _ h => .tail _ h) hk
  have hsz : (strOf (encB f true)).size = encN f := by rw [strOf_size, encB_len]
  rw [← hsz] at hK
  obtain ⟨win, bits, sent, errs, got⟩ := o
  dsimp only at hwin
  subst hwin
  obtain ⟨xon, xu, xbox, xinn⟩ := x
  dsimp only at hb hn hbox
  subst hb
  cases hbox with
  | @some q f hm =>
    have g0 : (Blk.row 77 [.slice (some ⟨r0, oo, none⟩) s.ns.length c, .int .u64 (s.time : Int)] (0, 0)).cell 0 = some (.slice (some ⟨r0, oo, none⟩) s.ns.length c) := rfl
    have gb : (Blk.row 82 [.bool xon, ptr u, .slice (some ⟨q, 0, none⟩) 1 1, iv] (0, 0)).cell 2 = some (.slice (some ⟨q, 0, none⟩) 1 1) := rfl
    have hcf : ∀ i v, (frC f)[i]? = some v → (Blk.row 32 (frC f) (0, 0)).cell (0 + 0 * 12 + i) = some v := fun i v hv => by rw [Nat.zero_mul, Nat.zero_add]; exact hv
    refine enter37 ?_
    repeat' ((conv => whnf); (first | refine Look.cell (.tail _ hbb) g0 ?_ | refine Idx.nat hlt ?_ | refine Look.cell (.tail _ k3) k4 ?_ | refine Look.cell (.tail _ hn) gb ?_ | refine Look.cells (.tail _ hm) rfl hcf ?_ | with_reducible refine h23 _ _ ?_ | exact Keep.d1 hK | refine New.mk (fun _ => ?_) | refine Look.at0 ?_ | refine Cell.row ?_ | refine Idx.auto (by first | omega | decide) (by first | omega | decide) ?_ | refine SDraw.all (by kernel_rfl) ?_ | refine Kept.k0 ?_))
end
end Go.Proofs.YtfmggepbcpceiaaGreatDoor


/- Layer 4: what came of a round is taken in, the program's loop: by walks. -/
set_option linter.unusedVariables false
set_option linter.unusedSimpArgs false
set_option maxRecDepth 100000
set_option maxHeartbeats 4000000
namespace Go.Proofs.YtfmggepbcpceiaaGreatDoor
open Sx
theorem UnW.idl {u : Un} (h : UnW u) : UnW u.idl := by
  obtain ⟨h1, h2, h3⟩ := h
  unfold Un.idl
  split
  · split
    · exact ⟨h1, h2, by show u.idle + 1 ≤ 128; omega⟩
    · exact ⟨by decide, by decide, by decide⟩
  · exact ⟨h1, h2, h3⟩
theorem UnW.sent {u : Un} (h : UnW u) : UnW u.sent := by
  obtain ⟨h1, h2, h3⟩ := h
  unfold Un.sent
  split
  · exact ⟨h1, h2, h3⟩
  · exact ⟨by show u.s - 1 ≤ 256; omega, h2, h3⟩
theorem UnW.recv {u : Un} (h : UnW u) : UnW u.recv := by
  obtain ⟨h1, h2, h3⟩ := h
  unfold Un.recv
  split
  · exact ⟨h1, h2, h3⟩
  · split
    · exact ⟨h1, by show (120 : Nat) ≤ 255; decide, h3⟩
    · exact ⟨h1, by show u.r - 1 ≤ 255; omega, h3⟩
theorem UnW.fail {u : Un} {q : Bool} (h : UnW u) : UnW (u.fail q) := by
  obtain ⟨h1, h2, h3⟩ := h
  unfold Un.fail
  split
  · exact ⟨h1, h2, h3⟩
  · split
    · exact ⟨by show (256 : Nat) ≤ 256; decide, h2, by show (0 : Nat) ≤ 128; decide⟩
    · exact ⟨by show u.s + 8 ≤ 256; omega, h2, h3⟩
theorem UnW.erred {u : Un} {q : Bool} (h : UnW u) : UnW (u.erred q) := by
  obtain ⟨h1, h2, h3⟩ := h
  unfold Un.erred
  split
  · exact ⟨h1, h2, h3⟩
  · exact ⟨h1, Nat.min_le_right _ _, h3⟩
theorem Un.st_off (u : Un) : u.st = 2 ↔ u.off = true := by
  unfold Un.st
  cases u.off with
  | true => simp
  | false =>
    simp only [Bool.false_eq_true, if_false, iff_false]
    split <;> decide
/-- A bus's nodes, one of them set apart. -/
inductive Foc (rs : List Nat) (ns : List Nd) (k : Nat) (Z : Heap) : Heap → Prop
  | at {r u : Nat} {x : Nd} {bv iv : Value} {M1 M2 R : Heap} : ns[k]? = some x → rs[k]? = some r → BoxO bv x.box M1 → Grow frC 12 32 iv x.inn M2 →
      (∀ x' bv' iv' M1' M2', BoxO bv' x'.box M1' → Grow frC 12 32 iv' x'.inn M2' → ∃ N', NdL rs (ns.set k x') N' ∧ (nB r u x'.on bv' iv' :: uB u x'.u :: (M1' ++ (M2' ++ R))).Perm N') →
      Foc rs ns k Z (nB r u x.on bv iv :: uB u x.u :: (M1 ++ (M2 ++ (R ++ Z))))
  | done {N : Heap} : k = ns.length → NdL rs ns N → Foc rs ns k Z (N ++ Z)
theorem Foc.of {rs : List Nat} {ns : List Nd} {k : Nat} {Z N : Heap} (h : NdL rs ns N) (hk : k ≤ ns.length) : ∃ H, Foc rs ns k Z H ∧ (N ++ Z).Perm H := by
  by_cases hlt : k < ns.length
  · obtain ⟨x, hx, _⟩ := list_at hlt
    obtain ⟨r, A, M, B, k1, rfl, k3, k4⟩ := h.at hx
    cases k3 with
    | @mk u bv iv M1 M2 g1 g2 =>
      refine ⟨_, .at (R := A ++ B) (u := u) hx k1 g1 g2 ?_, ?_⟩
      · intro x' bv' iv' M1' M2' j1 j2
        refine ⟨_, k4 x' _ (.mk (u := u) j1 j2), ?_⟩
        exact perm_glue' (ls := [A, [nB r u x'.on bv' iv', uB u x'.u], M1', M2', B]) (p := [1, 2, 3, 0, 4]) (q := [0, 1, 2, 3, 4]) (by decide) (by simp [glue]) (by simp [glue])
      · exact perm_glue' (ls := [A, [nB r u x.on bv iv, uB u x.u], M1, M2, B, Z]) (p := [0, 1, 2, 3, 4, 5]) (q := [1, 2, 3, 0, 4, 5]) (by decide) (by simp [glue]) (by simp [glue])
  · exact ⟨_, .done (by omega) h, .refl _⟩
theorem up_facts {x : Nd} (h : x.up = true) : x.on = true ∧ x.u.off = false ∧ x.u.idl = x.u := by
  unfold Nd.up at h
  simp only [Bool.and_eq_true, Bool.not_eq_true'] at h
  refine ⟨h.1, h.2, ?_⟩
  unfold Un.idl
  rw [h.2]; rfl
section
variable {o : Out} {bt : Int} {won : Fm} {k : Nat} {x : Nd}
theorem stl_down (h : x.up = false) (hb : x.box = none) : stl o bt won k x = ⟨x.on, if x.on then x.u.idl else x.u, none, x.inn⟩ := by
  unfold stl
  simp only [h, true_or, if_true, hb, ite_self]
theorem stl_none (h : x.up = true) (hw : o.win < 0) : stl o bt won k x = x := by
  obtain ⟨h1, h2, h3⟩ := up_facts h
  unfold stl
  simp only [h, hw, or_true, if_true, h1, h3, h2]
  obtain ⟨a, b, c, d⟩ := x
  dsimp only at h1 h2 ⊢
  rw [h1]; rfl
theorem stl_sent (h : x.up = true) (hk : o.win = (k : Int)) (hs : o.sent = true) : stl o bt won k x = ⟨x.on, x.u.sent, none, x.inn⟩ := by
  obtain ⟨h1, h2, h3⟩ := up_facts h
  have hn : ¬ o.win < 0 := by omega
  unfold stl
  simp only [h, hn, hk, hs, or_self, if_true, if_false, h1, h3, h2, Bool.true_eq_false, false_or, show ¬ ((k : Int) < 0) by omega, ite_self]
theorem stl_fail (h : x.up = true) (hk : o.win = (k : Int)) (hs : o.sent = false) : stl o bt won k x = ⟨x.on, x.u.fail (decide (o.errs.getD k 0 = 23)), if (x.u.fail (decide (o.errs.getD k 0 = 23))).off then none else x.box, x.inn⟩ := by
  obtain ⟨h1, h2, h3⟩ := up_facts h
  have hn : ¬ o.win < 0 := by omega
  unfold stl
  simp only [h, hn, hk, hs, or_self, if_true, if_false, h1, h3, h2, Bool.true_eq_false, Bool.false_eq_true, false_or, show ¬ ((k : Int) < 0) by omega]
theorem stl_got (h : x.up = true) (hk : ¬ (k : Int) = o.win) (hn : ¬ o.win < 0) (hg : o.got.getD k false = true) : stl o bt won k x = ⟨x.on, x.u.recv, x.box, if x.inn.length < 64 then x.inn ++ [won] else x.inn⟩ := by
  obtain ⟨h1, h2, h3⟩ := up_facts h
  have ho : x.u.recv.off = false := by unfold Un.recv; rw [h2]; simp only [Bool.false_eq_true, if_false]; split <;> rfl
  unfold stl
  simp only [h, hn, hk, hg, or_self, if_true, if_false, h1, h3, Bool.true_eq_false, Bool.false_eq_true, false_or, ho]
theorem stl_err (h : x.up = true) (hk : ¬ (k : Int) = o.win) (hn : ¬ o.win < 0) (hg : o.got.getD k false = false) (he : ¬ o.errs.getD k 0 = 0) : stl o bt won k x = ⟨x.on, x.u.erred (decide ((k : Int) = bt)), x.box, x.inn⟩ := by
  obtain ⟨h1, h2, h3⟩ := up_facts h
  have ho : (x.u.erred (decide ((k : Int) = bt))).off = false := by unfold Un.erred; rw [h2]; rfl
  unfold stl
  simp only [h, hn, hk, hg, he, or_self, if_true, if_false, h1, h3, Bool.true_eq_false, Bool.false_eq_true, false_or, ho]
theorem stl_same (h : x.up = true) (hk : ¬ (k : Int) = o.win) (hn : ¬ o.win < 0) (hg : o.got.getD k false = false) (he : o.errs.getD k 0 = 0) : stl o bt won k x = x := by
  obtain ⟨h1, h2, h3⟩ := up_facts h
  unfold stl
  simp only [h, hn, hk, hg, he, or_self, if_true, if_false, h1, h3, h2, Bool.true_eq_false, Bool.false_eq_true, false_or]
  obtain ⟨a, b, c, d⟩ := x
  dsimp only at h1 h2 ⊢
  rw [h1]
end
inductive S39 (A2 A4 A6 A7 A54 A55 A56 : Value) : List Value → Prop
  | mk {r0 r1 r3 r5 r8 r9 r10 r11 r12 r13 r14 r15 r16 r17 r18 r19 r20 r21 r22 r23 r24 r25 r26 r27 r28 r29 r30 r31 r32 r33 r34 r35 r36 r37 r38 r39 r40 r41 r42 r43 r44 r45 r46 r47 r48 r49 r50 r51 r52 r53 r57 r58 r59 r60 r61 r62 r63 r64 r65 r66 r67 r68 r69 r70 r71 r72 r73 r74 r75 r76 r77 r78 r79 r80 r81 r82 r83 r84 r85 r86 r87 r88 r89 r90 r91 r92 r93 r94 r95 r96 r97 r98 r99 r100 r101 r102 r103 r104 r105 r106 r107 r108 r109 r110 r111 r112 r113 r114 r115 r116 r117 r118 r119 r120 r121 r122 r123 r124 r125 r126 r127 r128 r129 r130 r131 r132 r133 r134 r135 r136 r137 r138 r139 r140 r141 r142 r143 r144 r145 r146 r147 r148 r149 r150 r151 r152 r153 r154 r155 r156 r157 r158 r159 r160 r161 r162 r163 r164 r165 : Value} : S39 A2 A4 A6 A7 A54 A55 A56 [r0, r1, A2, r3, A4, r5, A6, A7, r8, r9, r10, r11, r12, r13, r14, r15, r16, r17, r18, r19, r20, r21, r22, r23, r24, r25, r26, r27, r28, r29, r30, r31, r32, r33, r34, r35, r36, r37, r38, r39, r40, r41, r42, r43, r44, r45, r46, r47, r48, r49, r50, r51, r52, r53, A54, A55, A56, r57, r58, r59, r60, r61, r62, r63, r64, r65, r66, r67, r68, r69, r70, r71, r72, r73, r74, r75, r76, r77, r78, r79, r80, r81, r82, r83, r84, r85, r86, r87, r88, r89, r90, r91, r92, r93, r94, r95, r96, r97, r98, r99, r100, r101, r102, r103, r104, r105, r106, r107, r108, r109, r110, r111, r112, r113, r114, r115, r116, r117, r118, r119, r120, r121, r122, r123, r124, r125, r126, r127, r128, r129, r130, r131, r132, r133, r134, r135, r136, r137, r138, r139, r140, r141, r142, r143, r144, r145, r146, r147, r148, r149, r150, r151, r152, r153, r154, r155, r156, r157, r158, r159, r160, r161, r162, r163, r164, r165]
section
variable {H Z : Heap} {o : Out} {bt : Int} {won : Fm} {rs : List Nat} {ns : List Nd} {e g up t4 t6 n : Nat}
def I39 (o : Out) (bt : Int) (t4 t6 up n : Nat) (sv : Value) (rs : List Nat) (ns new : List Nd) (Z : Heap) (k : Nat) (S : List Value) (H' : Heap) : Prop :=
  k ≤ ns.length ∧ S39 (zi bt) (ptr t4) (ptr t6) (.slice (some ⟨up, 0, none⟩) n n) sv (zi (ns.length : Int)) (zi (k : Int)) S ∧ Foc rs (mixL new ns k) k Z H'
end
end Go.Proofs.YtfmggepbcpceiaaGreatDoor


