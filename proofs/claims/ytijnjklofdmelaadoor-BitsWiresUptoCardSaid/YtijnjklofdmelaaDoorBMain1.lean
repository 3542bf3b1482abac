/- Layer 1: what a wire has, by the document: by walks. -/
import Derived.Test.YtijnjklofdmelaaDoorBMain
import Derived.Test.YtijnjklofdmelaaDoorTy

set_option linter.unusedVariables false
set_option linter.unusedSimpArgs false
set_option maxRecDepth 100000
set_option maxHeartbeats 4000000
namespace Go.Proofs.YtijnjklofdmelaaDoor
open Sx
theorem flat_cB (l : List UInt8) : l.flatMap cB = cel l := by
  induction l with
  | nil => rfl
  | cons b l ih => rw [List.flatMap_cons, ih]; rfl
theorem cB_len' (b : UInt8) : (cB b).length = 1 := rfl
theorem buf_put {l : List UInt8} {N k : Nat} (b : UInt8) (hk : k < l.length) : PutOk (.buf 5 (l.flatMap cB) N) (0 + k * 1) [.int .u8 (b.toNat : Int)] (.buf 5 ((l.set k b).flatMap cB) N) := by
  rw [flat_cB, flat_cB]
  refine PutOk.buf (cs' := cel (l.set k b)) ?_ ?_
  · rw [cel_len]; show 0 + k * 1 + 1 ≤ _; omega
  · show _ = (l.set k b).map _
    rw [List.map_set]
    exact put_set (by rw [cel_len]; exact hk)
theorem wat_far {ls : List (List UInt8)} {q : Nat} (h : wmx ls ≤ q) : wat ls q = 49 := by
  unfold wat
  rw [if_neg]
  rw [List.any_eq_true]
  rintro ⟨l, hl, h2⟩
  have := wmx_le l hl
  rw [List.getElem?_eq_none (by omega)] at h2
  cases h2
theorem wD_grow {p : Nat} {ms : List (List UInt8)} {l : List UInt8} {b : UInt8} (hm : wmx ms ≤ p) (hb : l[p]? = some b) : wN (p + 1) (ms ++ [l.take (p + 1)]) = wN p (ms ++ [l.take p]) ++ [if b = 48 then 48 else 49] := by
  have hs := wN_step (n := p) (ls := ms) hb
  rw [List.set_eq_of_length_le (by rw [wN_len]; exact Nat.le_refl _)] at hs
  rw [hs]
  unfold wN
  rw [List.range_succ, List.map_append, List.map_singleton, wat_snoc, List.getElem?_take_of_lt (by omega), hb, wat_far hm]
  simp
theorem wD_keep {n p : Nat} {ms : List (List UInt8)} {l : List UInt8} (hb : l[p]? = some 49) : wN n (ms ++ [l.take (p + 1)]) = wN n (ms ++ [l.take p]) := by
  rw [← wN_step hb]
  by_cases hn : p < n
  · have := wN_at (ms ++ [l.take p]) hn
    rw [wat_at] at this
    obtain ⟨h1, h2⟩ := List.getElem?_eq_some_iff.1 this
    rw [if_neg (by decide), ← h2, List.set_getElem_self]
  · exact List.set_eq_of_length_le (by rw [wN_len]; omega)
theorem wmx_take (ms : List (List UInt8)) {l : List UInt8} {p : Nat} (hp : p ≤ l.length) : wmx (ms ++ [l.take p]) = max (wmx ms) p := by
  rw [wmx_snoc, List.length_take, Nat.min_eq_left hp]
inductive S21 (A0 A4 A5 : Value) : List Value → Prop
  | mk {r1 r2 r3 r6 r7 r8 r9 r10 r11 r12 r13 r14 r15 r16 r17 r18 r19 r20 r21 r22 r23 r24 r25 r26 r27 r28 r29 r30 r31 r32 r33 r34 r35 r36 r37 r38 r39 r40 r41 r42 r43 r44 r45 r46 r47 r48 r49 r50 : Value} : S21 A0 A4 A5 [A0, r1, r2, r3, A4, A5, r6, r7, r8, r9, r10, r11, r12, r13, r14, r15, r16, r17, r18, r19, r20, r21, r22, r23, r24, r25, r26, r27, r28, r29, r30, r31, r32, r33, r34, r35, r36, r37, r38, r39, r40, r41, r42, r43, r44, r45, r46, r47, r48, r49, r50]
inductive T21 (A0 A4 A5 A7 : Value) : List Value → Prop
  | mk {r1 r2 r3 r6 r8 r9 r10 r11 r12 r13 r14 r15 r16 r17 r18 r19 r20 r21 r22 r23 r24 r25 r26 r27 r28 r29 r30 r31 r32 r33 r34 r35 r36 r37 r38 r39 r40 r41 r42 r43 r44 r45 r46 r47 r48 r49 r50 : Value} : T21 A0 A4 A5 A7 [A0, r1, r2, r3, A4, A5, r6, A7, r8, r9, r10, r11, r12, r13, r14, r15, r16, r17, r18, r19, r20, r21, r22, r23, r24, r25, r26, r27, r28, r29, r30, r31, r32, r33, r34, r35, r36, r37, r38, r39, r40, r41, r42, r43, r44, r45, r46, r47, r48, r49, r50]
section
variable {K : Value → Heap → Prop} {H : Heap}
theorem c21 {sv : Value} {ls : List (List UInt8)} (hin : InS sT 1 sv H ls) (hK : K (.tuple ⟨[.string (strOf (wV ls).1), .int .i64 (wV ls).2]⟩) H) : SCalls Tryd.prog 21 [sv] H K := by
  obtain ⟨sa, sc, rfl, hml⟩ := hin.sv
  have hml' : ls.length ≤ 9223372036854775807 := by simp only [maxLen] at hml; omega
  refine enter21 ?_
  repeat' ((conv => whnf); (first | refine New.mk (fun _ => ?_) | refine Look.at0 ?_ | refine Cell.row ?_ | refine Cell.buf ?_ | refine Cells.row rfl ?_ | refine Put.row rfl ?_ | refine Put.buf rfl ?_ | refine Look.at1 ?_ | refine Look.at2 ?_ | refine Look.at3 ?_ | refine Look.at4 ?_ | refine Look.at5 ?_ | refine Look.at6 ?_ | refine Look.at7 ?_ | refine Look.at8 ?_ | with_reducible refine Val.i64 (by omega) (by omega) ?_ | with_reducible refine Val.u8 (by omega) (by omega) ?_ | with_reducible refine Val.u32 (by omega) (by omega) ?_ | with_reducible refine Val.u64 (by omega) (by omega) ?_ | with_reducible refine Val.u8m ?_ | with_reducible refine Val.u32m ?_ | with_reducible refine Val.u64m ?_ | with_reducible refine Val.shr8 ?_ | with_reducible refine Val.shr16 (by decide) ?_ | with_reducible refine Val.shr24 (by decide) ?_ | with_reducible refine Val.raw ?_ | refine Branch.not ?_ | refine Branch.and ?_ | refine Branch.or ?_ | refine Branch.dt (by assumption) ?_ | refine Branch.df (by assumption) ?_ | refine Branch.dt rfl ?_ | refine Branch.dt (by omega) ?_ | refine Branch.df (by omega) ?_ | refine Branch.t rfl ?_ | refine Branch.f rfl ?_ | refine Branch.t (by assumption) ?_ | refine Branch.f (by assumption) ?_ | refine Branch.d (fun _ => ?_) (fun _ => ?_) | refine Branch.mk (fun _ => ?_) (fun _ => ?_) | refine Need.mk (by first | omega | decide | rfl) ?_ | refine Idx.nat (by omega) ?_ | refine Idx.auto (by first | omega | decide) (by first | omega | decide) ?_ | refine Cell.ro rfl ?_ | refine SDraw.all (by kernel_rfl) ?_ | refine Kept.k0 ?_ | refine Kept.k1 ?_ | refine Kept.k2 ?_ | refine Kept.k3 ?_ | refine Kept.k4 ?_))
  refine SLoop.toBuf (A := []) ?_
  refine SLoop.invA (fun (i : Nat) S H' => i ≤ ls.length ∧ (∀ x ∈ ls.take i, chk x = 0) ∧ ∃ a c M, Grow cB 1 5 (.slice a (wmx (ls.take i)) c) (wN (wmx (ls.take i)) (ls.take i)) M ∧ S21 (.slice sa ls.length sc) (.slice a (wmx (ls.take i)) c) (.int .i64 (i : Int)) S ∧ H' = M ++ H) (fun i => ls.length - i) 0
    (Keep.all ⟨Nat.zero_le _, (fun x hx => by cases hx), _, 0, _, Grow.zero, .mk, rfl⟩) ?_
  rintro i S H' ⟨hi, hok, a, c, M, hG, hS, rfl⟩ R hR
  by_cases hlt : i < ls.length
  · have hx := List.getElem?_eq_getElem hlt
    generalize ls[i] = l at hx
    have htk : ls.take (i + 1) = ls.take i ++ [l] := by rw [List.take_add_one, hx]; rfl
    obtain ⟨ra, oa, ca, blk, e, hm, hc⟩ := hin.at1 hx rfl
    injection e with e _ _
    subst e
    have h29 : ∀ (K2 : Value → Heap → Prop), K2 (.int .i64 (chk l)) (M ++ H) → SCalls Tryd.prog 29 [.string (strOf l)] (M ++ H) K2 := fun K2 hk => c29 hk
    by_cases h0 : chk l = 0
    · obtain ⟨hl65, hB⟩ := chk_len h0
      have hmx : wmx (ls.take i) ≤ 65536 := wmx_bd fun x hx2 => (chk_len (hok x hx2)).1
      have hsz : ((strOf l).size : Int) = (l.length : Int) := by rw [strOf_size]
      have hsz2 : (strOf l).size = l.length := strOf_size l
      rw [h0] at h29
      have hnext : ∀ S a c M, Grow cB 1 5 (.slice a (wmx (ls.take i ++ [l])) c) (wN (wmx (ls.take i ++ [l])) (ls.take i ++ [l])) M → S21 (.slice (some ⟨ra, oa, none⟩) ls.length sc) (.slice a (wmx (ls.take i ++ [l])) c) (.int .i64 ((i + 1 : Nat) : Int)) S → R S (M ++ H) := fun S a c M h1 h2 => hR (i + 1) S _ (by omega) (Keep.all ⟨hlt, (fun x hx2 => by
        rw [htk] at hx2
        rcases List.mem_append.1 hx2 with h | h
        · exact hok x h
        · rw [List.mem_singleton.1 h]; exact h0), a, c, M, by rw [htk]; exact h1, by rw [htk]; exact h2, rfl⟩)
      clear hR hK htk hok
      have e0 : wmx (ls.take i ++ [l.take 0]) = wmx (ls.take i) := by rw [wmx_take _ (Nat.zero_le _)]; exact Nat.max_zero _
      have hG0 : Grow cB 1 5 (.slice a (wmx (ls.take i ++ [l.take 0])) c) (wN (wmx (ls.take i ++ [l.take 0])) (ls.take i ++ [l.take 0])) M := by
        rw [e0, wN_congr (wat_take0 _ l)]; exact hG
      cases hS
      rw [← e0]
      clear hG
      generalize ls.take i = ms at *
      repeat' ((conv => whnf); (first | refine Branch.dt (by omega) ?_ | refine Look.cell (List.mem_append_right _ hm) hc ?_ | with_reducible refine h29 _ ?_ | refine Branch.f rfl ?_ | refine New.mk (fun _ => ?_) | refine Look.at0 ?_ | refine Cell.row ?_ | refine Cell.buf ?_ | refine Cells.row rfl ?_ | refine Put.row rfl ?_ | refine Put.buf rfl ?_ | refine Look.at1 ?_ | refine Look.at2 ?_ | refine Look.at3 ?_ | refine Look.at4 ?_ | refine Look.at5 ?_ | refine Look.at6 ?_ | refine Look.at7 ?_ | refine Look.at8 ?_ | with_reducible refine Val.i64 (by omega) (by omega) ?_ | with_reducible refine Val.u8 (by omega) (by omega) ?_ | with_reducible refine Val.u32 (by omega) (by omega) ?_ | with_reducible refine Val.u64 (by omega) (by omega) ?_ | with_reducible refine Val.u8m ?_ | with_reducible refine Val.u32m ?_ | with_reducible refine Val.u64m ?_ | with_reducible refine Val.shr8 ?_ | with_reducible refine Val.shr16 (by decide) ?_ | with_reducible refine Val.shr24 (by decide) ?_ | with_reducible refine Val.raw ?_ | refine Branch.not ?_ | refine Branch.and ?_ | refine Branch.or ?_ | refine Branch.dt (by assumption) ?_ | refine Branch.df (by assumption) ?_ | refine Branch.dt rfl ?_ | refine Branch.dt (by omega) ?_ | refine Branch.df (by omega) ?_ | refine Branch.t rfl ?_ | refine Branch.f rfl ?_ | refine Branch.t (by assumption) ?_ | refine Branch.f (by assumption) ?_ | refine Branch.d (fun _ => ?_) (fun _ => ?_) | refine Branch.mk (fun _ => ?_) (fun _ => ?_) | refine Need.mk (by first | omega | decide | rfl) ?_ | refine Idx.nat (by omega) ?_ | refine Idx.auto (by first | omega | decide) (by first | omega | decide) ?_ | refine Cell.ro rfl ?_ | refine SDraw.all (by kernel_rfl) ?_ | refine Kept.k0 ?_ | refine Kept.k1 ?_ | refine Kept.k2 ?_ | refine Kept.k3 ?_ | refine Kept.k4 ?_))
      refine SLoop.invA (fun (p : Nat) S H' => p ≤ l.length ∧ ∃ a c M, Grow cB 1 5 (.slice a (wmx (ms ++ [l.take p])) c) (wN (wmx (ms ++ [l.take p])) (ms ++ [l.take p])) M ∧ T21 (.slice (some ⟨ra, oa, none⟩) ls.length sc) (.slice a (wmx (ms ++ [l.take p])) c) (.int .i64 (i : Int)) (.int .i64 (p : Int)) S ∧ H' = M ++ H) (fun p => l.length - p) 0
        (Keep.all ⟨Nat.zero_le _, _, _, _, hG0, .mk, rfl⟩) ?_
      clear hG0 h29 e0
      rintro p S H' ⟨hp, a, c, M, hG, hS, rfl⟩ R hR
      by_cases hlp : p < l.length
      · have hb := List.getElem?_eq_getElem hlp
        generalize l[p] = b at hb
        have hbB := hB b (List.mem_of_getElem? hb)
        have e1 := wmx_take ms hp
        have e2 := wmx_take ms (show p + 1 ≤ l.length from hlp)
        have hwl := wN_len (wmx (ms ++ [l.take p])) (ms ++ [l.take p])
        have hnext2 : ∀ S a c M X, Grow cB 1 5 (.slice a (wmx (ms ++ [l.take (p + 1)])) c) (wN (wmx (ms ++ [l.take (p + 1)])) (ms ++ [l.take (p + 1)])) M → T21 (.slice (some ⟨ra, oa, none⟩) ls.length sc) (.slice a (wmx (ms ++ [l.take (p + 1)])) c) (.int .i64 (i : Int)) (.int .i64 ((p + 1 : Nat) : Int)) S → R S (M ++ (X ++ H)) := fun S a c M X h1 h2 => hR (p + 1) S _ (by omega) (Keep.sub (M ++ H) (List.Sublist.append_left (List.sublist_append_right X H) M) ⟨hlp, a, c, M, h1, h2, rfl⟩)
        clear hR hnext
        by_cases hn : wmx ms ≤ p
        · have hgr := wD_grow hn hb
          have e4 : wmx (ms ++ [l.take p]) = p := by omega
          have e5 : wmx (ms ++ [l.take (p + 1)]) = p + 1 := by omega
          rw [e4] at hG hS hwl
          rw [e5, hgr] at hnext2
          clear e1 e2 e4 e5
          generalize wN p (ms ++ [l.take p]) = w at *
          have happ : ∀ q2 (o : Oper) (xs xx : Operand) (K2 : Value → Heap → Prop), o.op = .call { callee := .builtin .append, args := #[xs, xx], argTypes := #[27, 27] } → (∀ q c', p + 1 ≤ c' → c' ≤ maxLen → K2 (.slice (some ⟨q, 0, none⟩) (p + 1) c') ((q, .buf 5 ((w ++ [49]).flatMap cB) (c' * 1)) :: (q2, .row 5 [.int .u8 49] (0, 0)) :: H)) →
              RawV Tryd.prog o [.slice a p c, .slice (some ⟨q2, 0, none⟩) 1 1] ((q2, .row 5 [.int .u8 49] (0, 0)) :: (M ++ H)) K2 := by
            intro q2 o xs xx K2 ho hk2
            refine RawV.grow1b (A := [(q2, .row 5 (cB 49) (0, 0))]) (B := H) (x := 49) (bytes := 1) hG rfl (.head _) ho (by kernel_rfl) (by decide) cB_len' (cB_one _) (by rw [hwl]; simp only [maxLen]; omega) (by rw [hwl]; omega) (fun q c' g1 g2 => ?_)
            rw [hwl] at g1 ⊢
            exact hk2 q c' g1 g2
          have hgk : ∀ q c' (v : UInt8), p + 1 ≤ c' → c' ≤ maxLen → Grow cB 1 5 (.slice (some ⟨q, 0, none⟩) (p + 1) c') (w ++ [v]) [(q, .buf 5 ((w ++ [v]).flatMap cB) (c' * 1))] := fun q c' v h1 h2 => by
            have := Grow.buf (f := cB) (k := 1) (e := 5) (q := q) (c := c') (L := w ++ [v]) (by rw [List.length_append, hwl]; exact h1) h2
            rw [List.length_append, hwl] at this
            exact this
          have hm2 : ∀ (A B : Nat × Blk), (ra, blk) ∈ A :: B :: H := fun A B => .tail _ (.tail _ hm)
          cases hS
          rcases bit_or hbB with rfl | rfl
          · have hat : byteAt (strOf l) p = 48 := byteAt_of hb
            have hput : ∀ N, PutOk (.buf 5 ((w ++ [49]).flatMap cB) N) (0 + p * 1) [.int .u8 48] (.buf 5 ((w ++ [48]).flatMap cB) N) := fun N => by
              have := buf_put (l := w ++ [49]) (N := N) (k := p) 48 (by rw [List.length_append, hwl]; exact Nat.lt_succ_self _)
              rw [List.set_append_right _ _ (by omega), hwl, Nat.sub_self] at this
              exact this
            repeat' ((conv => whnf); (first | refine Look.cell (List.mem_append_right _ hm) hc ?_ | refine Look.cell (hm2 _ _) hc ?_ | with_reducible rw [hsz] | refine Branch.dt (by omega) ?_ | with_reducible refine happ _ _ _ _ _ rfl (fun q c' g1 g2 => ?_) | refine Idx.of p rfl (by omega) ?_ | with_reducible rw [hat] | refine Branch.t rfl ?_ | refine ⟨[], _, _, rfl, _, hput _, appK_to ?_⟩ | exact hnext2 _ _ _ _ [_] (hgk _ _ 48 g1 g2) .mk | refine New.mk (fun _ => ?_) | refine Look.at0 ?_ | refine Cell.row ?_ | refine Cell.buf ?_ | refine Cells.row rfl ?_ | refine Put.row rfl ?_ | refine Put.buf rfl ?_ | refine Look.at1 ?_ | refine Look.at2 ?_ | refine Look.at3 ?_ | refine Look.at4 ?_ | refine Look.at5 ?_ | refine Look.at6 ?_ | refine Look.at7 ?_ | refine Look.at8 ?_ | with_reducible refine Val.i64 (by omega) (by omega) ?_ | with_reducible refine Val.u8 (by omega) (by omega) ?_ | with_reducible refine Val.u32 (by omega) (by omega) ?_ | with_reducible refine Val.u64 (by omega) (by omega) ?_ | with_reducible refine Val.u8m ?_ | with_reducible refine Val.u32m ?_ | with_reducible refine Val.u64m ?_ | with_reducible refine Val.shr8 ?_ | with_reducible refine Val.shr16 (by decide) ?_ | with_reducible refine Val.shr24 (by decide) ?_ | with_reducible refine Val.raw ?_ | refine Branch.not ?_ | refine Branch.and ?_ | refine Branch.or ?_ | refine Branch.dt (by assumption) ?_ | refine Branch.df (by assumption) ?_ | refine Branch.dt rfl ?_ | refine Branch.dt (by omega) ?_ | refine Branch.df (by omega) ?_ | refine Branch.t rfl ?_ | refine Branch.f rfl ?_ | refine Branch.t (by assumption) ?_ | refine Branch.f (by assumption) ?_ | refine Branch.d (fun _ => ?_) (fun _ => ?_) | refine Branch.mk (fun _ => ?_) (fun _ => ?_) | refine Need.mk (by first | omega | decide | rfl) ?_ | refine Idx.nat (by omega) ?_ | refine Idx.auto (by first | omega | decide) (by first | omega | decide) ?_ | refine Cell.ro rfl ?_ | refine SDraw.all (by kernel_rfl) ?_ | refine Kept.k0 ?_ | refine Kept.k1 ?_ | refine Kept.k2 ?_ | refine Kept.k3 ?_ | refine Kept.k4 ?_))
          · have hat : byteAt (strOf l) p = 49 := byteAt_of hb
            repeat' ((conv => whnf); (first | refine Look.cell (List.mem_append_right _ hm) hc ?_ | refine Look.cell (hm2 _ _) hc ?_ | with_reducible rw [hsz] | refine Branch.dt (by omega) ?_ | with_reducible refine happ _ _ _ _ _ rfl (fun q c' g1 g2 => ?_) | refine Idx.of p rfl (by omega) ?_ | with_reducible rw [hat] | refine Branch.f rfl ?_ | exact hnext2 _ _ _ _ [_] (hgk _ _ 49 g1 g2) .mk | refine New.mk (fun _ => ?_) | refine Look.at0 ?_ | refine Cell.row ?_ | refine Cell.buf ?_ | refine Cells.row rfl ?_ | refine Put.row rfl ?_ | refine Put.buf rfl ?_ | refine Look.at1 ?_ | refine Look.at2 ?_ | refine Look.at3 ?_ | refine Look.at4 ?_ | refine Look.at5 ?_ | refine Look.at6 ?_ | refine Look.at7 ?_ | refine Look.at8 ?_ | with_reducible refine Val.i64 (by omega) (by omega) ?_ | with_reducible refine Val.u8 (by omega) (by omega) ?_ | with_reducible refine Val.u32 (by omega) (by omega) ?_ | with_reducible refine Val.u64 (by omega) (by omega) ?_ | with_reducible refine Val.u8m ?_ | with_reducible refine Val.u32m ?_ | with_reducible refine Val.u64m ?_ | with_reducible refine Val.shr8 ?_ | with_reducible refine Val.shr16 (by decide) ?_ | with_reducible refine Val.shr24 (by decide) ?_ | with_reducible refine Val.raw ?_ | refine Branch.not ?_ | refine Branch.and ?_ | refine Branch.or ?_ | refine Branch.dt (by assumption) ?_ | refine Branch.df (by assumption) ?_ | refine Branch.dt rfl ?_ | refine Branch.dt (by omega) ?_ | refine Branch.df (by omega) ?_ | refine Branch.t rfl ?_ | refine Branch.f rfl ?_ | refine Branch.t (by assumption) ?_ | refine Branch.f (by assumption) ?_ | refine Branch.d (fun _ => ?_) (fun _ => ?_) | refine Branch.mk (fun _ => ?_) (fun _ => ?_) | refine Need.mk (by first | omega | decide | rfl) ?_ | refine Idx.nat (by omega) ?_ | refine Idx.auto (by first | omega | decide) (by first | omega | decide) ?_ | refine Cell.ro rfl ?_ | refine SDraw.all (by kernel_rfl) ?_ | refine Kept.k0 ?_ | refine Kept.k1 ?_ | refine Kept.k2 ?_ | refine Kept.k3 ?_ | refine Kept.k4 ?_))
        · have e3 : wmx (ms ++ [l.take (p + 1)]) = wmx (ms ++ [l.take p]) := by omega
          have hpn : p < wmx (ms ++ [l.take p]) := by omega
          rw [e3] at hnext2
          rcases bit_or hbB with rfl | rfl
          · have hst := wN_step (n := wmx (ms ++ [l.take p])) (ls := ms) hb
            rw [if_pos rfl] at hst
            rw [← hst] at hnext2
            clear hst hB
            have hat : byteAt (strOf l) p = 48 := byteAt_of hb
            generalize hn' : wmx (ms ++ [l.take p]) = n at *
            generalize wN n (ms ++ [l.take p]) = w at *
            obtain ⟨q, rfl, _, g1, g2, rfl⟩ := hG.inv (by intro h; rw [h] at hwl; simp at hwl; omega)
            have hput := fun N => buf_put (l := w) (N := N) (k := p) 48 (by omega)
            have hgk := Grow.buf (f := cB) (k := 1) (e := 5) (q := q) (c := c) (L := w.set p 48) (by rw [List.length_set]; exact g1) g2
            rw [List.length_set, hwl] at hgk
            cases hS
            repeat' ((conv => whnf); (first | refine Look.cell (.tail _ hm) hc ?_ | with_reducible rw [hsz] | refine Branch.dt (by omega) ?_ | refine Branch.df (by omega) ?_ | refine Idx.of p rfl (by omega) ?_ | with_reducible rw [hat] | refine Branch.t rfl ?_ | refine ⟨[], _, _, rfl, _, hput _, appK_to ?_⟩ | exact hnext2 _ _ _ _ [] hgk .mk | refine New.mk (fun _ => ?_) | refine Look.at0 ?_ | refine Cell.row ?_ | refine Cell.buf ?_ | refine Cells.row rfl ?_ | refine Put.row rfl ?_ | refine Put.buf rfl ?_ | refine Look.at1 ?_ | refine Look.at2 ?_ | refine Look.at3 ?_ | refine Look.at4 ?_ | refine Look.at5 ?_ | refine Look.at6 ?_ | refine Look.at7 ?_ | refine Look.at8 ?_ | with_reducible refine Val.i64 (by omega) (by omega) ?_ | with_reducible refine Val.u8 (by omega) (by omega) ?_ | with_reducible refine Val.u32 (by omega) (by omega) ?_ | with_reducible refine Val.u64 (by omega) (by omega) ?_ | with_reducible refine Val.u8m ?_ | with_reducible refine Val.u32m ?_ | with_reducible refine Val.u64m ?_ | with_reducible refine Val.shr8 ?_ | with_reducible refine Val.shr16 (by decide) ?_ | with_reducible refine Val.shr24 (by decide) ?_ | with_reducible refine Val.raw ?_ | refine Branch.not ?_ | refine Branch.and ?_ | refine Branch.or ?_ | refine Branch.dt (by assumption) ?_ | refine Branch.df (by assumption) ?_ | refine Branch.dt rfl ?_ | refine Branch.dt (by omega) ?_ | refine Branch.df (by omega) ?_ | refine Branch.t rfl ?_ | refine Branch.f rfl ?_ | refine Branch.t (by assumption) ?_ | refine Branch.f (by assumption) ?_ | refine Branch.d (fun _ => ?_) (fun _ => ?_) | refine Branch.mk (fun _ => ?_) (fun _ => ?_) | refine Need.mk (by first | omega | decide | rfl) ?_ | refine Idx.nat (by omega) ?_ | refine Idx.auto (by first | omega | decide) (by first | omega | decide) ?_ | refine Cell.ro rfl ?_ | refine SDraw.all (by kernel_rfl) ?_ | refine Kept.k0 ?_ | refine Kept.k1 ?_ | refine Kept.k2 ?_ | refine Kept.k3 ?_ | refine Kept.k4 ?_))
          · rw [wD_keep hb] at hnext2
            have hat : byteAt (strOf l) p = 49 := byteAt_of hb
            clear hB
            cases hS
            repeat' ((conv => whnf); (first | refine Look.cell (List.mem_append_right _ hm) hc ?_ | with_reducible rw [hsz] | refine Branch.dt (by omega) ?_ | refine Branch.df (by omega) ?_ | refine Idx.of p rfl (by omega) ?_ | with_reducible rw [hat] | refine Branch.f rfl ?_ | exact hnext2 _ _ _ _ [] hG .mk | refine New.mk (fun _ => ?_) | refine Look.at0 ?_ | refine Cell.row ?_ | refine Cell.buf ?_ | refine Cells.row rfl ?_ | refine Put.row rfl ?_ | refine Put.buf rfl ?_ | refine Look.at1 ?_ | refine Look.at2 ?_ | refine Look.at3 ?_ | refine Look.at4 ?_ | refine Look.at5 ?_ | refine Look.at6 ?_ | refine Look.at7 ?_ | refine Look.at8 ?_ | with_reducible refine Val.i64 (by omega) (by omega) ?_ | with_reducible refine Val.u8 (by omega) (by omega) ?_ | with_reducible refine Val.u32 (by omega) (by omega) ?_ | with_reducible refine Val.u64 (by omega) (by omega) ?_ | with_reducible refine Val.u8m ?_ | with_reducible refine Val.u32m ?_ | with_reducible refine Val.u64m ?_ | with_reducible refine Val.shr8 ?_ | with_reducible refine Val.shr16 (by decide) ?_ | with_reducible refine Val.shr24 (by decide) ?_ | with_reducible refine Val.raw ?_ | refine Branch.not ?_ | refine Branch.and ?_ | refine Branch.or ?_ | refine Branch.dt (by assumption) ?_ | refine Branch.df (by assumption) ?_ | refine Branch.dt rfl ?_ | refine Branch.dt (by omega) ?_ | refine Branch.df (by omega) ?_ | refine Branch.t rfl ?_ | refine Branch.f rfl ?_ | refine Branch.t (by assumption) ?_ | refine Branch.f (by assumption) ?_ | refine Branch.d (fun _ => ?_) (fun _ => ?_) | refine Branch.mk (fun _ => ?_) (fun _ => ?_) | refine Need.mk (by first | omega | decide | rfl) ?_ | refine Idx.nat (by omega) ?_ | refine Idx.auto (by first | omega | decide) (by first | omega | decide) ?_ | refine Cell.ro rfl ?_ | refine SDraw.all (by kernel_rfl) ?_ | refine Kept.k0 ?_ | refine Kept.k1 ?_ | refine Kept.k2 ?_ | refine Kept.k3 ?_ | refine Kept.k4 ?_))
      · obtain rfl : p = l.length := by omega
        rw [List.take_length] at hG hS
        clear hR
        cases hS
        repeat' ((conv => whnf); (first | refine Look.cell (List.mem_append_right _ hm) hc ?_ | with_reducible rw [hsz] | refine Branch.df (by omega) ?_ | exact hnext _ _ _ _ hG .mk | refine New.mk (fun _ => ?_) | refine Look.at0 ?_ | refine Cell.row ?_ | refine Cell.buf ?_ | refine Cells.row rfl ?_ | refine Put.row rfl ?_ | refine Put.buf rfl ?_ | refine Look.at1 ?_ | refine Look.at2 ?_ | refine Look.at3 ?_ | refine Look.at4 ?_ | refine Look.at5 ?_ | refine Look.at6 ?_ | refine Look.at7 ?_ | refine Look.at8 ?_ | with_reducible refine Val.i64 (by omega) (by omega) ?_ | with_reducible refine Val.u8 (by omega) (by omega) ?_ | with_reducible refine Val.u32 (by omega) (by omega) ?_ | with_reducible refine Val.u64 (by omega) (by omega) ?_ | with_reducible refine Val.u8m ?_ | with_reducible refine Val.u32m ?_ | with_reducible refine Val.u64m ?_ | with_reducible refine Val.shr8 ?_ | with_reducible refine Val.shr16 (by decide) ?_ | with_reducible refine Val.shr24 (by decide) ?_ | with_reducible refine Val.raw ?_ | refine Branch.not ?_ | refine Branch.and ?_ | refine Branch.or ?_ | refine Branch.dt (by assumption) ?_ | refine Branch.df (by assumption) ?_ | refine Branch.dt rfl ?_ | refine Branch.dt (by omega) ?_ | refine Branch.df (by omega) ?_ | refine Branch.t rfl ?_ | refine Branch.f rfl ?_ | refine Branch.t (by assumption) ?_ | refine Branch.f (by assumption) ?_ | refine Branch.d (fun _ => ?_) (fun _ => ?_) | refine Branch.mk (fun _ => ?_) (fun _ => ?_) | refine Need.mk (by first | omega | decide | rfl) ?_ | refine Idx.nat (by omega) ?_ | refine Idx.auto (by first | omega | decide) (by first | omega | decide) ?_ | refine Cell.ro rfl ?_ | refine SDraw.all (by kernel_rfl) ?_ | refine Kept.k0 ?_ | refine Kept.k1 ?_ | refine Kept.k2 ?_ | refine Kept.k3 ?_ | refine Kept.k4 ?_))
    · rw [wV_bad hok hx h0] at hK
      generalize chk l = v at h29 h0 hK
      have hfin : Keep (M ++ H) fun H' => K (.tuple ⟨[.string (strOf []), .int .i64 v]⟩) H' := Keep.sub H (List.sublist_append_right M H) hK
      clear hR hK
      cases hS
      repeat' ((conv => whnf); (first | refine Branch.dt (by omega) ?_ | refine Look.cell (List.mem_append_right _ hm) hc ?_ | with_reducible refine h29 _ ?_ | refine Branch.t (by simp [h0]; done) ?_ | exact hfin | refine New.mk (fun _ => ?_) | refine Look.at0 ?_ | refine Cell.row ?_ | refine Cell.buf ?_ | refine Cells.row rfl ?_ | refine Put.row rfl ?_ | refine Put.buf rfl ?_ | refine Look.at1 ?_ | refine Look.at2 ?_ | refine Look.at3 ?_ | refine Look.at4 ?_ | refine Look.at5 ?_ | refine Look.at6 ?_ | refine Look.at7 ?_ | refine Look.at8 ?_ | with_reducible refine Val.i64 (by omega) (by omega) ?_ | with_reducible refine Val.u8 (by omega) (by omega) ?_ | with_reducible refine Val.u32 (by omega) (by omega) ?_ | with_reducible refine Val.u64 (by omega) (by omega) ?_ | with_reducible refine Val.u8m ?_ | with_reducible refine Val.u32m ?_ | with_reducible refine Val.u64m ?_ | with_reducible refine Val.shr8 ?_ | with_reducible refine Val.shr16 (by decide) ?_ | with_reducible refine Val.shr24 (by decide) ?_ | with_reducible refine Val.raw ?_ | refine Branch.not ?_ | refine Branch.and ?_ | refine Branch.or ?_ | refine Branch.dt (by assumption) ?_ | refine Branch.df (by assumption) ?_ | refine Branch.dt rfl ?_ | refine Branch.dt (by omega) ?_ | refine Branch.df (by omega) ?_ | refine Branch.t rfl ?_ | refine Branch.f rfl ?_ | refine Branch.t (by assumption) ?_ | refine Branch.f (by assumption) ?_ | refine Branch.d (fun _ => ?_) (fun _ => ?_) | refine Branch.mk (fun _ => ?_) (fun _ => ?_) | refine Need.mk (by first | omega | decide | rfl) ?_ | refine Idx.nat (by omega) ?_ | refine Idx.auto (by first | omega | decide) (by first | omega | decide) ?_ | refine Cell.ro rfl ?_ | refine SDraw.all (by kernel_rfl) ?_ | refine Kept.k0 ?_ | refine Kept.k1 ?_ | refine Kept.k2 ?_ | refine Kept.k3 ?_ | refine Kept.k4 ?_))
  · obtain rfl : i = ls.length := by omega
    rw [List.take_length] at hok hG hS
    rw [wV_ok hok] at hK
    have hmx : wmx ls ≤ 65536 := wmx_bd fun x hx2 => (chk_len (hok x hx2)).1
    have hwl := wN_len (wmx ls) ls
    clear hR
    generalize wmx ls = n at *
    generalize wN n ls = w at *
    have hstr : ∀ (o : Oper) (xx : Operand) (K2 : Value → Heap → Prop), o.op = .convert 27 9 xx → K2 (.string (strOf w)) (M ++ H) → RawV Tryd.prog o [.slice a n c] (M ++ H) K2 := by
      intro o xx K2 ho hk2
      generalize hsv : Value.slice a n c = v at hG
      cases hG with
      | nil =>
        injection hsv with e1 e2 e3
        subst e1 e2 e3
        exact RawV.toStr0 (e := 5) (c := 0) ho (by kernel_rfl) (by kernel_rfl) (by kernel_rfl) hk2
      | @buf q c2 w g1 g2 =>
        injection hsv with e1 e2 e3
        subst e1 e3
        exact RawV.toStr (e := 5) (l := w) ho (by kernel_rfl) (by kernel_rfl) (by kernel_rfl) (.head _) (by first | rfl | omega) (fun k y hk => by
          have := cel_at hk
          show (w.flatMap cB)[0 + k]? = _
          rw [Nat.zero_add, flat_cB, this]) hk2
    have hfin : Keep (M ++ H) fun H' => K (.tuple ⟨[.string (strOf w), .int .i64 0]⟩) H' := Keep.sub H (List.sublist_append_right M H) hK
    clear hK
    cases hS
    repeat' ((conv => whnf); (first | refine Branch.df (by omega) ?_ | with_reducible refine hstr _ _ _ rfl ?_ | exact hfin | refine New.mk (fun _ => ?_) | refine Look.at0 ?_ | refine Cell.row ?_ | refine Cell.buf ?_ | refine Cells.row rfl ?_ | refine Put.row rfl ?_ | refine Put.buf rfl ?_ | refine Look.at1 ?_ | refine Look.at2 ?_ | refine Look.at3 ?_ | refine Look.at4 ?_ | refine Look.at5 ?_ | refine Look.at6 ?_ | refine Look.at7 ?_ | refine Look.at8 ?_ | with_reducible refine Val.i64 (by omega) (by omega) ?_ | with_reducible refine Val.u8 (by omega) (by omega) ?_ | with_reducible refine Val.u32 (by omega) (by omega) ?_ | with_reducible refine Val.u64 (by omega) (by omega) ?_ | with_reducible refine Val.u8m ?_ | with_reducible refine Val.u32m ?_ | with_reducible refine Val.u64m ?_ | with_reducible refine Val.shr8 ?_ | with_reducible refine Val.shr16 (by decide) ?_ | with_reducible refine Val.shr24 (by decide) ?_ | with_reducible refine Val.raw ?_ | refine Branch.not ?_ | refine Branch.and ?_ | refine Branch.or ?_ | refine Branch.dt (by assumption) ?_ | refine Branch.df (by assumption) ?_ | refine Branch.dt rfl ?_ | refine Branch.dt (by omega) ?_ | refine Branch.df (by omega) ?_ | refine Branch.t rfl ?_ | refine Branch.f rfl ?_ | refine Branch.t (by assumption) ?_ | refine Branch.f (by assumption) ?_ | refine Branch.d (fun _ => ?_) (fun _ => ?_) | refine Branch.mk (fun _ => ?_) (fun _ => ?_) | refine Need.mk (by first | omega | decide | rfl) ?_ | refine Idx.nat (by omega) ?_ | refine Idx.auto (by first | omega | decide) (by first | omega | decide) ?_ | refine Cell.ro rfl ?_ | refine SDraw.all (by kernel_rfl) ?_ | refine Kept.k0 ?_ | refine Kept.k1 ?_ | refine Kept.k2 ?_ | refine Kept.k3 ?_ | refine Kept.k4 ?_))
end
end Go.Proofs.YtijnjklofdmelaaDoor


/- Layer 1: bits of a text are turned about, by the program and by the document: by walks. -/
set_option linter.unusedVariables false
set_option linter.unusedSimpArgs false
set_option maxRecDepth 100000
set_option maxHeartbeats 4000000
namespace Go.Proofs.YtijnjklofdmelaaDoor
open Sx
abbrev cZ (f : Int) : List Value := [.int .i64 f]
theorem cZ_len (f : Int) : (cZ f).length = 1 := rfl
theorem cZ_one (f : Int) : ∀ u ∈ cZ f, u.oneCell' = true := fun u hu => by rw [List.mem_singleton.1 hu]; rfl
def flp : List UInt8 → List Int → Option (List UInt8)
  | l, [] => some l
  | l, f :: fs => if 0 ≤ f ∧ f < l.length then flp (l.set f.toNat (oth (l.getD f.toNat 0))) fs else none
theorem flp_cons (l : List UInt8) (f : Int) (fs : List Int) : flp l (f :: fs) = if 0 ≤ f ∧ f < l.length then flp (l.set f.toNat (oth (l.getD f.toNat 0))) fs else none := rfl
theorem flp_nil (l : List UInt8) : flp l [] = some l := rfl
def fV (s : List UInt8) (fs : List Int) : List UInt8 × Int := if chk s = 0 then (match flp s fs with
  | some x => (x, 0)
  | none => ([], 1)) else ([], chk s)
inductive S22 (A7 A17 A18 A19 : Value) : List Value → Prop
  | mk {r0 r1 r2 r3 r4 r5 r6 r8 r9 r10 r11 r12 r13 r14 r15 r16 r20 r21 r22 r23 r24 r25 r26 r27 r28 r29 r30 r31 r32 r33 r34 r35 r36 r37 r38 r39 : Value} : S22 A7 A17 A18 A19 [r0, r1, r2, r3, r4, r5, r6, A7, r8, r9, r10, r11, r12, r13, r14, r15, r16, A17, A18, A19, r20, r21, r22, r23, r24, r25, r26, r27, r28, r29, r30, r31, r32, r33, r34, r35, r36, r37, r38, r39]
inductive S23 (A1 A7 A8 : Value) : List Value → Prop
  | mk {r0 r2 r3 r4 r5 r6 r9 r10 r11 r12 r13 r14 r15 r16 r17 r18 r19 r20 r21 r22 r23 r24 r25 r26 r27 r28 r29 r30 r31 r32 r33 r34 r35 r36 r37 r38 r39 r40 r41 r42 r43 r44 r45 r46 r47 r48 r49 r50 r51 : Value} : S23 A1 A7 A8 [r0, A1, r2, r3, r4, r5, r6, A7, A8, r9, r10, r11, r12, r13, r14, r15, r16, r17, r18, r19, r20, r21, r22, r23, r24, r25, r26, r27, r28, r29, r30, r31, r32, r33, r34, r35, r36, r37, r38, r39, r40, r41, r42, r43, r44, r45, r46, r47, r48, r49, r50, r51]
section
variable {K : Value → Heap → Prop} {H : Heap}
theorem c22 {sv : Value} {s : List UInt8} {fs : List Int} (hin : InS cZ 1 sv H fs) (hK : K (.tuple ⟨[.string (strOf (fV s fs).1), .int .i64 (fV s fs).2]⟩) H) : SCalls Tryd.prog 22 [.string (strOf s), sv] H K := by
  obtain ⟨sa, sc, rfl, hml⟩ := hin.sv
  have hml' : fs.length ≤ 9223372036854775807 := by simp only [maxLen] at hml; omega
  refine enter22 ?_
  have h32 : ∀ (K2 : Value → Heap → Prop), K2 (.int .i64 (chk s)) H → SCalls Tryd.prog 32 [.string (strOf s)] H K2 := fun K2 hk => c32 hk
  unfold fV at hK
  by_cases h0 : chk s = 0
  · obtain ⟨hl, hB⟩ := chk_len h0
    rw [if_pos h0] at hK
    rw [h0] at h32
    repeat' ((conv => whnf); (first | with_reducible refine h32 _ ?_ | refine Branch.f rfl ?_ | refine RawV.toBytes (e := 5) (l := s) rfl (by kernel_rfl) (by kernel_rfl) (by kernel_rfl) (by simp only [maxLen]; omega) (fun r cap z h1 h2 h3 => ?_) | refine New.mk (fun _ => ?_) | refine Look.at0 ?_ | refine Cell.row ?_ | refine Cell.buf ?_ | refine Cells.row rfl ?_ | refine Put.row rfl ?_ | refine Put.buf rfl ?_ | refine Look.at1 ?_ | refine Look.at2 ?_ | refine Look.at3 ?_ | refine Look.at4 ?_ | refine Look.at5 ?_ | refine Look.at6 ?_ | refine Look.at7 ?_ | refine Look.at8 ?_ | with_reducible refine Val.i64 (by omega) (by omega) ?_ | with_reducible refine Val.u8 (by omega) (by omega) ?_ | with_reducible refine Val.u32 (by omega) (by omega) ?_ | with_reducible refine Val.u64 (by omega) (by omega) ?_ | with_reducible refine Val.u8m ?_ | with_reducible refine Val.u32m ?_ | with_reducible refine Val.u64m ?_ | with_reducible refine Val.shr8 ?_ | with_reducible refine Val.shr16 (by decide) ?_ | with_reducible refine Val.shr24 (by decide) ?_ | with_reducible refine Val.raw ?_ | refine Branch.not ?_ | refine Branch.and ?_ | refine Branch.or ?_ | refine Branch.dt (by assumption) ?_ | refine Branch.df (by assumption) ?_ | refine Branch.dt rfl ?_ | refine Branch.dt (by omega) ?_ | refine Branch.df (by omega) ?_ | refine Branch.t rfl ?_ | refine Branch.f rfl ?_ | refine Branch.t (by assumption) ?_ | refine Branch.f (by assumption) ?_ | refine Branch.d (fun _ => ?_) (fun _ => ?_) | refine Branch.mk (fun _ => ?_) (fun _ => ?_) | refine Need.mk (by first | omega | decide | rfl) ?_ | refine Idx.nat (by omega) ?_ | refine Idx.auto (by first | omega | decide) (by first | omega | decide) ?_ | refine Cell.ro rfl ?_ | refine SDraw.all (by kernel_rfl) ?_ | refine Kept.k0 ?_ | refine Kept.k1 ?_ | refine Kept.k2 ?_ | refine Kept.k3 ?_ | refine Kept.k4 ?_))
    clear h32
    rw [List.length_append, cel_len] at h3
    refine SLoop.invA (fun (x : Nat × List UInt8) S H' => x.1 ≤ fs.length ∧ x.2.length = s.length ∧ (∀ b ∈ x.2, isB b = true) ∧ flp s fs = flp x.2 (fs.drop x.1) ∧ S22 (.slice (some ⟨r, 0, none⟩) s.length cap) (.slice sa fs.length sc) (.int .i64 (fs.length : Int)) (.int .i64 (x.1 : Int)) S ∧ H' = txtR r x.2 z cap :: H) (fun x => fs.length - x.1) (0, s) (Keep.all ⟨Nat.zero_le _, rfl, hB, rfl, .mk, rfl⟩) ?_
    rintro ⟨j, w⟩ S H' ⟨hj, hwl, hwB, hfl, hS, rfl⟩ R hR
    dsimp only at hj hwl hwB hfl hS hR ⊢
    cases hS
    by_cases hlt : j < fs.length
    · have hx := List.getElem?_eq_getElem hlt
      have hdr := List.drop_eq_getElem_cons hlt
      generalize fs[j] = f at hx hdr
      rw [hdr, flp_cons] at hfl
      obtain ⟨ra, oa, ca, blk, e, hm, hc⟩ := hin.at1 hx rfl
      injection e with e _ _
      subst e
      by_cases hf0 : 0 ≤ f
      · by_cases hf1 : f < s.length
        · rw [if_pos ⟨hf0, by rw [hwl]; exact hf1⟩] at hfl
          obtain ⟨k, rfl⟩ : ∃ k : Nat, f = (k : Int) := ⟨f.toNat, by omega⟩
          rw [Int.toNat_natCast] at hfl
          have hkl : k < w.length := by omega
          have hy := List.getElem?_eq_getElem hkl
          generalize w[k] = y at hy
          have hgd : w.getD k 0 = y := by rw [List.getD_eq_getElem?_getD, hy]; rfl
          rw [hgd] at hfl
          have hyB := hwB y (List.mem_of_getElem? hy)
          have hcell := txt_cell (z := z) (cap := cap) hy
          have hput := txt_put (l := w) (z := z) (cap := cap) (k := k) (b := oth y) hkl (by rw [List.length_append, cel_len]; omega)
          have hxor : ∀ K : Int → Prop, K ((oth y).toNat : Int) → Val (bitXor .u8 (y.toNat : Int) 1) K := fun K hk2 => Val.to _ (by
            rcases bit_or hyB with rfl | rfl <;> rfl) hk2
          have hnext : ∀ S, S22 (.slice (some ⟨r, 0, none⟩) s.length cap) (.slice (some ⟨ra, oa, none⟩) fs.length sc) (.int .i64 (fs.length : Int)) (.int .i64 ((j + 1 : Nat) : Int)) S → R S (txtR r (w.set k (oth y)) z cap :: H) := fun S hS => hR (j + 1, w.set k (oth y)) S _ (by show fs.length - (j + 1) < fs.length - j; omega) (Keep.all ⟨hlt, by rw [List.length_set]; exact hwl, (fun b hb => by
            rcases List.mem_or_eq_of_mem_set hb with h | rfl
            · exact hwB b h
            · exact oth_b), hfl, hS, rfl⟩)
          clear hR hK hfl hB
          repeat' ((conv => whnf); (first | refine Branch.dt (by omega) ?_ | refine Branch.df (by omega) ?_ | refine Look.cell (.tail _ hm) hc ?_ | refine Idx.of k rfl (by omega) ?_ | refine Look.cell (.head _) hcell ?_ | with_reducible refine hxor _ ?_ | refine ⟨[], _, H, rfl, _, hput, appK_to ?_⟩ | exact hnext _ .mk | refine New.mk (fun _ => ?_) | refine Look.at0 ?_ | refine Cell.row ?_ | refine Cell.buf ?_ | refine Cells.row rfl ?_ | refine Put.row rfl ?_ | refine Put.buf rfl ?_ | refine Look.at1 ?_ | refine Look.at2 ?_ | refine Look.at3 ?_ | refine Look.at4 ?_ | refine Look.at5 ?_ | refine Look.at6 ?_ | refine Look.at7 ?_ | refine Look.at8 ?_ | with_reducible refine Val.i64 (by omega) (by omega) ?_ | with_reducible refine Val.u8 (by omega) (by omega) ?_ | with_reducible refine Val.u32 (by omega) (by omega) ?_ | with_reducible refine Val.u64 (by omega) (by omega) ?_ | with_reducible refine Val.u8m ?_ | with_reducible refine Val.u32m ?_ | with_reducible refine Val.u64m ?_ | with_reducible refine Val.shr8 ?_ | with_reducible refine Val.shr16 (by decide) ?_ | with_reducible refine Val.shr24 (by decide) ?_ | with_reducible refine Val.raw ?_ | refine Branch.not ?_ | refine Branch.and ?_ | refine Branch.or ?_ | refine Branch.dt (by assumption) ?_ | refine Branch.df (by assumption) ?_ | refine Branch.dt rfl ?_ | refine Branch.dt (by omega) ?_ | refine Branch.df (by omega) ?_ | refine Branch.t rfl ?_ | refine Branch.f rfl ?_ | refine Branch.t (by assumption) ?_ | refine Branch.f (by assumption) ?_ | refine Branch.d (fun _ => ?_) (fun _ => ?_) | refine Branch.mk (fun _ => ?_) (fun _ => ?_) | refine Need.mk (by first | omega | decide | rfl) ?_ | refine Idx.nat (by omega) ?_ | refine Idx.auto (by first | omega | decide) (by first | omega | decide) ?_ | refine Cell.ro rfl ?_ | refine SDraw.all (by kernel_rfl) ?_ | refine Kept.k0 ?_ | refine Kept.k1 ?_ | refine Kept.k2 ?_ | refine Kept.k3 ?_ | refine Kept.k4 ?_))
        · rw [if_neg (by omega)] at hfl
          rw [hfl] at hK
          clear hR hB
          repeat' ((conv => whnf); (first | refine Branch.dt (by omega) ?_ | refine Branch.df (by omega) ?_ | refine Look.cell (.tail _ hm) hc ?_ | exact Keep.d1 hK | refine New.mk (fun _ => ?_) | refine Look.at0 ?_ | refine Cell.row ?_ | refine Cell.buf ?_ | refine Cells.row rfl ?_ | refine Put.row rfl ?_ | refine Put.buf rfl ?_ | refine Look.at1 ?_ | refine Look.at2 ?_ | refine Look.at3 ?_ | refine Look.at4 ?_ | refine Look.at5 ?_ | refine Look.at6 ?_ | refine Look.at7 ?_ | refine Look.at8 ?_ | with_reducible refine Val.i64 (by omega) (by omega) ?_ | with_reducible refine Val.u8 (by omega) (by omega) ?_ | with_reducible refine Val.u32 (by omega) (by omega) ?_ | with_reducible refine Val.u64 (by omega) (by omega) ?_ | with_reducible refine Val.u8m ?_ | with_reducible refine Val.u32m ?_ | with_reducible refine Val.u64m ?_ | with_reducible refine Val.shr8 ?_ | with_reducible refine Val.shr16 (by decide) ?_ | with_reducible refine Val.shr24 (by decide) ?_ | with_reducible refine Val.raw ?_ | refine Branch.not ?_ | refine Branch.and ?_ | refine Branch.or ?_ | refine Branch.dt (by assumption) ?_ | refine Branch.df (by assumption) ?_ | refine Branch.dt rfl ?_ | refine Branch.dt (by omega) ?_ | refine Branch.df (by omega) ?_ | refine Branch.t rfl ?_ | refine Branch.f rfl ?_ | refine Branch.t (by assumption) ?_ | refine Branch.f (by assumption) ?_ | refine Branch.d (fun _ => ?_) (fun _ => ?_) | refine Branch.mk (fun _ => ?_) (fun _ => ?_) | refine Need.mk (by first | omega | decide | rfl) ?_ | refine Idx.nat (by omega) ?_ | refine Idx.auto (by first | omega | decide) (by first | omega | decide) ?_ | refine Cell.ro rfl ?_ | refine SDraw.all (by kernel_rfl) ?_ | refine Kept.k0 ?_ | refine Kept.k1 ?_ | refine Kept.k2 ?_ | refine Kept.k3 ?_ | refine Kept.k4 ?_))
      · rw [if_neg (by omega)] at hfl
        rw [hfl] at hK
        clear hR hB
        repeat' ((conv => whnf); (first | refine Branch.dt (by omega) ?_ | refine Branch.df (by omega) ?_ | refine Look.cell (.tail _ hm) hc ?_ | exact Keep.d1 hK | refine New.mk (fun _ => ?_) | refine Look.at0 ?_ | refine Cell.row ?_ | refine Cell.buf ?_ | refine Cells.row rfl ?_ | refine Put.row rfl ?_ | refine Put.buf rfl ?_ | refine Look.at1 ?_ | refine Look.at2 ?_ | refine Look.at3 ?_ | refine Look.at4 ?_ | refine Look.at5 ?_ | refine Look.at6 ?_ | refine Look.at7 ?_ | refine Look.at8 ?_ | with_reducible refine Val.i64 (by omega) (by omega) ?_ | with_reducible refine Val.u8 (by omega) (by omega) ?_ | with_reducible refine Val.u32 (by omega) (by omega) ?_ | with_reducible refine Val.u64 (by omega) (by omega) ?_ | with_reducible refine Val.u8m ?_ | with_reducible refine Val.u32m ?_ | with_reducible refine Val.u64m ?_ | with_reducible refine Val.shr8 ?_ | with_reducible refine Val.shr16 (by decide) ?_ | with_reducible refine Val.shr24 (by decide) ?_ | with_reducible refine Val.raw ?_ | refine Branch.not ?_ | refine Branch.and ?_ | refine Branch.or ?_ | refine Branch.dt (by assumption) ?_ | refine Branch.df (by assumption) ?_ | refine Branch.dt rfl ?_ | refine Branch.dt (by omega) ?_ | refine Branch.df (by omega) ?_ | refine Branch.t rfl ?_ | refine Branch.f rfl ?_ | refine Branch.t (by assumption) ?_ | refine Branch.f (by assumption) ?_ | refine Branch.d (fun _ => ?_) (fun _ => ?_) | refine Branch.mk (fun _ => ?_) (fun _ => ?_) | refine Need.mk (by first | omega | decide | rfl) ?_ | refine Idx.nat (by omega) ?_ | refine Idx.auto (by first | omega | decide) (by first | omega | decide) ?_ | refine Cell.ro rfl ?_ | refine SDraw.all (by kernel_rfl) ?_ | refine Kept.k0 ?_ | refine Kept.k1 ?_ | refine Kept.k2 ?_ | refine Kept.k3 ?_ | refine Kept.k4 ?_))
    · obtain rfl : j = fs.length := by omega
      rw [List.drop_length, flp_nil] at hfl
      rw [hfl] at hK
      clear hR
      repeat' ((conv => whnf); (first | refine Branch.df (by omega) ?_ | refine txt_str rfl hwl ?_ | exact Keep.d1 hK | refine New.mk (fun _ => ?_) | refine Look.at0 ?_ | refine Cell.row ?_ | refine Cell.buf ?_ | refine Cells.row rfl ?_ | refine Put.row rfl ?_ | refine Put.buf rfl ?_ | refine Look.at1 ?_ | refine Look.at2 ?_ | refine Look.at3 ?_ | refine Look.at4 ?_ | refine Look.at5 ?_ | refine Look.at6 ?_ | refine Look.at7 ?_ | refine Look.at8 ?_ | with_reducible refine Val.i64 (by omega) (by omega) ?_ | with_reducible refine Val.u8 (by omega) (by omega) ?_ | with_reducible refine Val.u32 (by omega) (by omega) ?_ | with_reducible refine Val.u64 (by omega) (by omega) ?_ | with_reducible refine Val.u8m ?_ | with_reducible refine Val.u32m ?_ | with_reducible refine Val.u64m ?_ | with_reducible refine Val.shr8 ?_ | with_reducible refine Val.shr16 (by decide) ?_ | with_reducible refine Val.shr24 (by decide) ?_ | with_reducible refine Val.raw ?_ | refine Branch.not ?_ | refine Branch.and ?_ | refine Branch.or ?_ | refine Branch.dt (by assumption) ?_ | refine Branch.df (by assumption) ?_ | refine Branch.dt rfl ?_ | refine Branch.dt (by omega) ?_ | refine Branch.df (by omega) ?_ | refine Branch.t rfl ?_ | refine Branch.f rfl ?_ | refine Branch.t (by assumption) ?_ | refine Branch.f (by assumption) ?_ | refine Branch.d (fun _ => ?_) (fun _ => ?_) | refine Branch.mk (fun _ => ?_) (fun _ => ?_) | refine Need.mk (by first | omega | decide | rfl) ?_ | refine Idx.nat (by omega) ?_ | refine Idx.auto (by first | omega | decide) (by first | omega | decide) ?_ | refine Cell.ro rfl ?_ | refine SDraw.all (by kernel_rfl) ?_ | refine Kept.k0 ?_ | refine Kept.k1 ?_ | refine Kept.k2 ?_ | refine Kept.k3 ?_ | refine Kept.k4 ?_))
  · rw [if_neg h0] at hK
    generalize chk s = v at h32 h0 hK
    repeat' ((conv => whnf); (first | with_reducible refine h32 _ ?_ | refine Branch.t (by simp [h0]; done) ?_ | exact Keep.all hK | refine New.mk (fun _ => ?_) | refine Look.at0 ?_ | refine Cell.row ?_ | refine Cell.buf ?_ | refine Cells.row rfl ?_ | refine Put.row rfl ?_ | refine Put.buf rfl ?_ | refine Look.at1 ?_ | refine Look.at2 ?_ | refine Look.at3 ?_ | refine Look.at4 ?_ | refine Look.at5 ?_ | refine Look.at6 ?_ | refine Look.at7 ?_ | refine Look.at8 ?_ | with_reducible refine Val.i64 (by omega) (by omega) ?_ | with_reducible refine Val.u8 (by omega) (by omega) ?_ | with_reducible refine Val.u32 (by omega) (by omega) ?_ | with_reducible refine Val.u64 (by omega) (by omega) ?_ | with_reducible refine Val.u8m ?_ | with_reducible refine Val.u32m ?_ | with_reducible refine Val.u64m ?_ | with_reducible refine Val.shr8 ?_ | with_reducible refine Val.shr16 (by decide) ?_ | with_reducible refine Val.shr24 (by decide) ?_ | with_reducible refine Val.raw ?_ | refine Branch.not ?_ | refine Branch.and ?_ | refine Branch.or ?_ | refine Branch.dt (by assumption) ?_ | refine Branch.df (by assumption) ?_ | refine Branch.dt rfl ?_ | refine Branch.dt (by omega) ?_ | refine Branch.df (by omega) ?_ | refine Branch.t rfl ?_ | refine Branch.f rfl ?_ | refine Branch.t (by assumption) ?_ | refine Branch.f (by assumption) ?_ | refine Branch.d (fun _ => ?_) (fun _ => ?_) | refine Branch.mk (fun _ => ?_) (fun _ => ?_) | refine Need.mk (by first | omega | decide | rfl) ?_ | refine Idx.nat (by omega) ?_ | refine Idx.auto (by first | omega | decide) (by first | omega | decide) ?_ | refine Cell.ro rfl ?_ | refine SDraw.all (by kernel_rfl) ?_ | refine Kept.k0 ?_ | refine Kept.k1 ?_ | refine Kept.k2 ?_ | refine Kept.k3 ?_ | refine Kept.k4 ?_))
theorem c23 {sv : Value} {s : List UInt8} {fs : List Int} (hin : InS cZ 1 sv H fs) (hK : K (.tuple ⟨[.string (strOf (fV s fs).1), .int .i64 (fV s fs).2]⟩) H) : SCalls Tryd.prog 23 [.string (strOf s), sv] H K := by
  obtain ⟨sa, sc, rfl, hml⟩ := hin.sv
  have hml' : fs.length ≤ 9223372036854775807 := by simp only [maxLen] at hml; omega
  refine enter23 ?_
  have h29 : ∀ (K2 : Value → Heap → Prop), K2 (.int .i64 (chk s)) H → SCalls Tryd.prog 29 [.string (strOf s)] H K2 := fun K2 hk => c29 hk
  unfold fV at hK
  by_cases h0 : chk s = 0
  · obtain ⟨hl, hB⟩ := chk_len h0
    rw [if_pos h0] at hK
    rw [h0] at h29
    repeat' ((conv => whnf); (first | with_reducible refine h29 _ ?_ | refine Branch.f rfl ?_ | refine RawV.toBytes (e := 5) (l := s) rfl (by kernel_rfl) (by kernel_rfl) (by kernel_rfl) (by simp only [maxLen]; omega) (fun r cap z h1 h2 h3 => ?_) | refine New.mk (fun _ => ?_) | refine Look.at0 ?_ | refine Cell.row ?_ | refine Cell.buf ?_ | refine Cells.row rfl ?_ | refine Put.row rfl ?_ | refine Put.buf rfl ?_ | refine Look.at1 ?_ | refine Look.at2 ?_ | refine Look.at3 ?_ | refine Look.at4 ?_ | refine Look.at5 ?_ | refine Look.at6 ?_ | refine Look.at7 ?_ | refine Look.at8 ?_ | with_reducible refine Val.i64 (by omega) (by omega) ?_ | with_reducible refine Val.u8 (by omega) (by omega) ?_ | with_reducible refine Val.u32 (by omega) (by omega) ?_ | with_reducible refine Val.u64 (by omega) (by omega) ?_ | with_reducible refine Val.u8m ?_ | with_reducible refine Val.u32m ?_ | with_reducible refine Val.u64m ?_ | with_reducible refine Val.shr8 ?_ | with_reducible refine Val.shr16 (by decide) ?_ | with_reducible refine Val.shr24 (by decide) ?_ | with_reducible refine Val.raw ?_ | refine Branch.not ?_ | refine Branch.and ?_ | refine Branch.or ?_ | refine Branch.dt (by assumption) ?_ | refine Branch.df (by assumption) ?_ | refine Branch.dt rfl ?_ | refine Branch.dt (by omega) ?_ | refine Branch.df (by omega) ?_ | refine Branch.t rfl ?_ | refine Branch.f rfl ?_ | refine Branch.t (by assumption) ?_ | refine Branch.f (by assumption) ?_ | refine Branch.d (fun _ => ?_) (fun _ => ?_) | refine Branch.mk (fun _ => ?_) (fun _ => ?_) | refine Need.mk (by first | omega | decide | rfl) ?_ | refine Idx.nat (by omega) ?_ | refine Idx.auto (by first | omega | decide) (by first | omega | decide) ?_ | refine Cell.ro rfl ?_ | refine SDraw.all (by kernel_rfl) ?_ | refine Kept.k0 ?_ | refine Kept.k1 ?_ | refine Kept.k2 ?_ | refine Kept.k3 ?_ | refine Kept.k4 ?_))
    clear h29
    rw [List.length_append, cel_len] at h3
    refine SLoop.invA (fun (x : Nat × List UInt8) S H' => x.1 ≤ fs.length ∧ x.2.length = s.length ∧ (∀ b ∈ x.2, isB b = true) ∧ flp s fs = flp x.2 (fs.drop x.1) ∧ S23 (.slice sa fs.length sc) (.slice (some ⟨r, 0, none⟩) s.length cap) (.int .i64 (x.1 : Int)) S ∧ H' = txtR r x.2 z cap :: H) (fun x => fs.length - x.1) (0, s) (Keep.all ⟨Nat.zero_le _, rfl, hB, rfl, .mk, rfl⟩) ?_
    rintro ⟨j, w⟩ S H' ⟨hj, hwl, hwB, hfl, hS, rfl⟩ R hR
    dsimp only at hj hwl hwB hfl hS hR ⊢
    cases hS
    by_cases hlt : j < fs.length
    · have hx := List.getElem?_eq_getElem hlt
      have hdr := List.drop_eq_getElem_cons hlt
      generalize fs[j] = f at hx hdr
      rw [hdr, flp_cons] at hfl
      obtain ⟨ra, oa, ca, blk, e, hm, hc⟩ := hin.at1 hx rfl
      injection e with e _ _
      subst e
      by_cases hf0 : 0 ≤ f
      · by_cases hf1 : f < s.length
        · rw [if_pos ⟨hf0, by rw [hwl]; exact hf1⟩] at hfl
          obtain ⟨k, rfl⟩ : ∃ k : Nat, f = (k : Int) := ⟨f.toNat, by omega⟩
          rw [Int.toNat_natCast] at hfl
          have hkl : k < w.length := by omega
          have hy := List.getElem?_eq_getElem hkl
          generalize w[k] = y at hy
          have hgd : w.getD k 0 = y := by rw [List.getD_eq_getElem?_getD, hy]; rfl
          rw [hgd] at hfl
          have hyB := hwB y (List.mem_of_getElem? hy)
          have hyo := oth_n hyB
          have hcell := txt_cell (z := z) (cap := cap) hy
          have hput := txt_put (l := w) (z := z) (cap := cap) (k := k) (b := oth y) hkl (by rw [List.length_append, cel_len]; omega)
          have h97 : ∀ K : Int → Prop, K ((oth y).toNat : Int) → Val (IntKind.u8.wrap (97 - (y.toNat : Int))) K := fun K hk2 => Val.to _ (by rw [wrap_u8]; omega) hk2
          have hnext : ∀ S, S23 (.slice (some ⟨ra, oa, none⟩) fs.length sc) (.slice (some ⟨r, 0, none⟩) s.length cap) (.int .i64 ((j + 1 : Nat) : Int)) S → R S (txtR r (w.set k (oth y)) z cap :: H) := fun S hS => hR (j + 1, w.set k (oth y)) S _ (by show fs.length - (j + 1) < fs.length - j; omega) (Keep.all ⟨hlt, by rw [List.length_set]; exact hwl, (fun b hb => by
            rcases List.mem_or_eq_of_mem_set hb with h | rfl
            · exact hwB b h
            · exact oth_b), hfl, hS, rfl⟩)
          clear hR hK hfl hB
          repeat' ((conv => whnf); (first | refine Branch.dt (by omega) ?_ | refine Branch.df (by omega) ?_ | refine Look.cell (.tail _ hm) hc ?_ | refine Idx.of k rfl (by omega) ?_ | refine Look.cell (.head _) hcell ?_ | with_reducible refine h97 _ ?_ | refine ⟨[], _, H, rfl, _, hput, appK_to ?_⟩ | exact hnext _ .mk | refine New.mk (fun _ => ?_) | refine Look.at0 ?_ | refine Cell.row ?_ | refine Cell.buf ?_ | refine Cells.row rfl ?_ | refine Put.row rfl ?_ | refine Put.buf rfl ?_ | refine Look.at1 ?_ | refine Look.at2 ?_ | refine Look.at3 ?_ | refine Look.at4 ?_ | refine Look.at5 ?_ | refine Look.at6 ?_ | refine Look.at7 ?_ | refine Look.at8 ?_ | with_reducible refine Val.i64 (by omega) (by omega) ?_ | with_reducible refine Val.u8 (by omega) (by omega) ?_ | with_reducible refine Val.u32 (by omega) (by omega) ?_ | with_reducible refine Val.u64 (by omega) (by omega) ?_ | with_reducible refine Val.u8m ?_ | with_reducible refine Val.u32m ?_ | with_reducible refine Val.u64m ?_ | with_reducible refine Val.shr8 ?_ | with_reducible refine Val.shr16 (by decide) ?_ | with_reducible refine Val.shr24 (by decide) ?_ | with_reducible refine Val.raw ?_ | refine Branch.not ?_ | refine Branch.and ?_ | refine Branch.or ?_ | refine Branch.dt (by assumption) ?_ | refine Branch.df (by assumption) ?_ | refine Branch.dt rfl ?_ | refine Branch.dt (by omega) ?_ | refine Branch.df (by omega) ?_ | refine Branch.t rfl ?_ | refine Branch.f rfl ?_ | refine Branch.t (by assumption) ?_ | refine Branch.f (by assumption) ?_ | refine Branch.d (fun _ => ?_) (fun _ => ?_) | refine Branch.mk (fun _ => ?_) (fun _ => ?_) | refine Need.mk (by first | omega | decide | rfl) ?_ | refine Idx.nat (by omega) ?_ | refine Idx.auto (by first | omega | decide) (by first | omega | decide) ?_ | refine Cell.ro rfl ?_ | refine SDraw.all (by kernel_rfl) ?_ | refine Kept.k0 ?_ | refine Kept.k1 ?_ | refine Kept.k2 ?_ | refine Kept.k3 ?_ | refine Kept.k4 ?_))
        · rw [if_neg (by omega)] at hfl
          rw [hfl] at hK
          clear hR hB
          repeat' ((conv => whnf); (first | refine Branch.dt (by omega) ?_ | refine Branch.df (by omega) ?_ | refine Look.cell (.tail _ hm) hc ?_ | exact Keep.d1 hK | refine New.mk (fun _ => ?_) | refine Look.at0 ?_ | refine Cell.row ?_ | refine Cell.buf ?_ | refine Cells.row rfl ?_ | refine Put.row rfl ?_ | refine Put.buf rfl ?_ | refine Look.at1 ?_ | refine Look.at2 ?_ | refine Look.at3 ?_ | refine Look.at4 ?_ | refine Look.at5 ?_ | refine Look.at6 ?_ | refine Look.at7 ?_ | refine Look.at8 ?_ | with_reducible refine Val.i64 (by omega) (by omega) ?_ | with_reducible refine Val.u8 (by omega) (by omega) ?_ | with_reducible refine Val.u32 (by omega) (by omega) ?_ | with_reducible refine Val.u64 (by omega) (by omega) ?_ | with_reducible refine Val.u8m ?_ | with_reducible refine Val.u32m ?_ | with_reducible refine Val.u64m ?_ | with_reducible refine Val.shr8 ?_ | with_reducible refine Val.shr16 (by decide) ?_ | with_reducible refine Val.shr24 (by decide) ?_ | with_reducible refine Val.raw ?_ | refine Branch.not ?_ | refine Branch.and ?_ | refine Branch.or ?_ | refine Branch.dt (by assumption) ?_ | refine Branch.df (by assumption) ?_ | refine Branch.dt rfl ?_ | refine Branch.dt (by omega) ?_ | refine Branch.df (by omega) ?_ | refine Branch.t rfl ?_ | refine Branch.f rfl ?_ | refine Branch.t (by assumption) ?_ | refine Branch.f (by assumption) ?_ | refine Branch.d (fun _ => ?_) (fun _ => ?_) | refine Branch.mk (fun _ => ?_) (fun _ => ?_) | refine Need.mk (by first | omega | decide | rfl) ?_ | refine Idx.nat (by omega) ?_ | refine Idx.auto (by first | omega | decide) (by first | omega | decide) ?_ | refine Cell.ro rfl ?_ | refine SDraw.all (by kernel_rfl) ?_ | refine Kept.k0 ?_ | refine Kept.k1 ?_ | refine Kept.k2 ?_ | refine Kept.k3 ?_ | refine Kept.k4 ?_))
      · rw [if_neg (by omega)] at hfl
        rw [hfl] at hK
        clear hR hB
        repeat' ((conv => whnf); (first | refine Branch.dt (by omega) ?_ | refine Branch.df (by omega) ?_ | refine Look.cell (.tail _ hm) hc ?_ | exact Keep.d1 hK | refine New.mk (fun _ => ?_) | refine Look.at0 ?_ | refine Cell.row ?_ | refine Cell.buf ?_ | refine Cells.row rfl ?_ | refine Put.row rfl ?_ | refine Put.buf rfl ?_ | refine Look.at1 ?_ | refine Look.at2 ?_ | refine Look.at3 ?_ | refine Look.at4 ?_ | refine Look.at5 ?_ | refine Look.at6 ?_ | refine Look.at7 ?_ | refine Look.at8 ?_ | with_reducible refine Val.i64 (by omega) (by omega) ?_ | with_reducible refine Val.u8 (by omega) (by omega) ?_ | with_reducible refine Val.u32 (by omega) (by omega) ?_ | with_reducible refine Val.u64 (by omega) (by omega) ?_ | with_reducible refine Val.u8m ?_ | with_reducible refine Val.u32m ?_ | with_reducible refine Val.u64m ?_ | with_reducible refine Val.shr8 ?_ | with_reducible refine Val.shr16 (by decide) ?_ | with_reducible refine Val.shr24 (by decide) ?_ | with_reducible refine Val.raw ?_ | refine Branch.not ?_ | refine Branch.and ?_ | refine Branch.or ?_ | refine Branch.dt (by assumption) ?_ | refine Branch.df (by assumption) ?_ | refine Branch.dt rfl ?_ | refine Branch.dt (by omega) ?_ | refine Branch.df (by omega) ?_ | refine Branch.t rfl ?_ | refine Branch.f rfl ?_ | refine Branch.t (by assumption) ?_ | refine Branch.f (by assumption) ?_ | refine Branch.d (fun _ => ?_) (fun _ => ?_) | refine Branch.mk (fun _ => ?_) (fun _ => ?_) | refine Need.mk (by first | omega | decide | rfl) ?_ | refine Idx.nat (by omega) ?_ | refine Idx.auto (by first | omega | decide) (by first | omega | decide) ?_ | refine Cell.ro rfl ?_ | refine SDraw.all (by kernel_rfl) ?_ | refine Kept.k0 ?_ | refine Kept.k1 ?_ | refine Kept.k2 ?_ | refine Kept.k3 ?_ | refine Kept.k4 ?_))
    · obtain rfl : j = fs.length := by omega
      rw [List.drop_length, flp_nil] at hfl
      rw [hfl] at hK
      clear hR
      repeat' ((conv => whnf); (first | refine Branch.df (by omega) ?_ | refine txt_str rfl hwl ?_ | exact Keep.d1 hK | refine New.mk (fun _ => ?_) | refine Look.at0 ?_ | refine Cell.row ?_ | refine Cell.buf ?_ | refine Cells.row rfl ?_ | refine Put.row rfl ?_ | refine Put.buf rfl ?_ | refine Look.at1 ?_ | refine Look.at2 ?_ | refine Look.at3 ?_ | refine Look.at4 ?_ | refine Look.at5 ?_ | refine Look.at6 ?_ | refine Look.at7 ?_ | refine Look.at8 ?_ | with_reducible refine Val.i64 (by omega) (by omega) ?_ | with_reducible refine Val.u8 (by omega) (by omega) ?_ | with_reducible refine Val.u32 (by omega) (by omega) ?_ | with_reducible refine Val.u64 (by omega) (by omega) ?_ | with_reducible refine Val.u8m ?_ | with_reducible refine Val.u32m ?_ | with_reducible refine Val.u64m ?_ | with_reducible refine Val.shr8 ?_ | with_reducible refine Val.shr16 (by decide) ?_ | with_reducible refine Val.shr24 (by decide) ?_ | with_reducible refine Val.raw ?_ | refine Branch.not ?_ | refine Branch.and ?_ | refine Branch.or ?_ | refine Branch.dt (by assumption) ?_ | refine Branch.df (by assumption) ?_ | refine Branch.dt rfl ?_ | refine Branch.dt (by omega) ?_ | refine Branch.df (by omega) ?_ | refine Branch.t rfl ?_ | refine Branch.f rfl ?_ | refine Branch.t (by assumption) ?_ | refine Branch.f (by assumption) ?_ | refine Branch.d (fun _ => ?_) (fun _ => ?_) | refine Branch.mk (fun _ => ?_) (fun _ => ?_) | refine Need.mk (by first | omega | decide | rfl) ?_ | refine Idx.nat (by omega) ?_ | refine Idx.auto (by first | omega | decide) (by first | omega | decide) ?_ | refine Cell.ro rfl ?_ | refine SDraw.all (by kernel_rfl) ?_ | refine Kept.k0 ?_ | refine Kept.k1 ?_ | refine Kept.k2 ?_ | refine Kept.k3 ?_ | refine Kept.k4 ?_))
  · rw [if_neg h0] at hK
    generalize chk s = v at h29 h0 hK
    repeat' ((conv => whnf); (first | with_reducible refine h29 _ ?_ | refine Branch.t (by simp [h0]; done) ?_ | exact Keep.all hK | refine New.mk (fun _ => ?_) | refine Look.at0 ?_ | refine Cell.row ?_ | refine Cell.buf ?_ | refine Cells.row rfl ?_ | refine Put.row rfl ?_ | refine Put.buf rfl ?_ | refine Look.at1 ?_ | refine Look.at2 ?_ | refine Look.at3 ?_ | refine Look.at4 ?_ | refine Look.at5 ?_ | refine Look.at6 ?_ | refine Look.at7 ?_ | refine Look.at8 ?_ | with_reducible refine Val.i64 (by omega) (by omega) ?_ | with_reducible refine Val.u8 (by omega) (by omega) ?_ | with_reducible refine Val.u32 (by omega) (by omega) ?_ | with_reducible refine Val.u64 (by omega) (by omega) ?_ | with_reducible refine Val.u8m ?_ | with_reducible refine Val.u32m ?_ | with_reducible refine Val.u64m ?_ | with_reducible refine Val.shr8 ?_ | with_reducible refine Val.shr16 (by decide) ?_ | with_reducible refine Val.shr24 (by decide) ?_ | with_reducible refine Val.raw ?_ | refine Branch.not ?_ | refine Branch.and ?_ | refine Branch.or ?_ | refine Branch.dt (by assumption) ?_ | refine Branch.df (by assumption) ?_ | refine Branch.dt rfl ?_ | refine Branch.dt (by omega) ?_ | refine Branch.df (by omega) ?_ | refine Branch.t rfl ?_ | refine Branch.f rfl ?_ | refine Branch.t (by assumption) ?_ | refine Branch.f (by assumption) ?_ | refine Branch.d (fun _ => ?_) (fun _ => ?_) | refine Branch.mk (fun _ => ?_) (fun _ => ?_) | refine Need.mk (by first | omega | decide | rfl) ?_ | refine Idx.nat (by omega) ?_ | refine Idx.auto (by first | omega | decide) (by first | omega | decide) ?_ | refine Cell.ro rfl ?_ | refine SDraw.all (by kernel_rfl) ?_ | refine Kept.k0 ?_ | refine Kept.k1 ?_ | refine Kept.k2 ?_ | refine Kept.k3 ?_ | refine Kept.k4 ?_))
end
end Go.Proofs.YtijnjklofdmelaaDoor


/- Layer 1: the law of wires: by walks. -/
set_option linter.unusedVariables false
set_option linter.unusedSimpArgs false
set_option maxRecDepth 100000
set_option maxHeartbeats 4000000
namespace Go.Proofs.YtijnjklofdmelaaDoor
open Sx
theorem wV_zero {ls : List (List UInt8)} (h : (wV ls).2 = 0) : ∀ l ∈ ls, chk l = 0 := by
  intro l hl
  apply Classical.byContradiction
  intro hne
  have h2 : ∃ x, ls.find? (fun l => !(chk l == 0)) = some x := by
    cases hf : ls.find? (fun l => !(chk l == 0)) with
    | some x => exact ⟨x, rfl⟩
    | none =>
      have := List.find?_eq_none.1 hf l hl
      simp [hne] at this
  obtain ⟨x, hx⟩ := h2
  have hx2 := List.find?_some hx
  unfold wV at h
  rw [hx] at h
  dsimp only at h
  rw [h] at hx2
  cases hx2
theorem wat_mem {a b : List (List UInt8)} (h : ∀ x, x ∈ a ↔ x ∈ b) (q : Nat) : wat a q = wat b q := by
  unfold wat
  have : a.any (fun l => l[q]? == some 48) = b.any (fun l => l[q]? == some 48) := by
    rw [Bool.eq_iff_iff, List.any_eq_true, List.any_eq_true]
    exact ⟨fun ⟨x, h1, h2⟩ => ⟨x, (h x).1 h1, h2⟩, fun ⟨x, h1, h2⟩ => ⟨x, (h x).2 h1, h2⟩⟩
  rw [this]
/-- What a wire has hangs on which texts are put on it alone. -/
theorem wV_mem {a b : List (List UInt8)} (h : ∀ x, x ∈ a ↔ x ∈ b) (hb : ∀ l ∈ b, chk l = 0) : wV a = wV b := by
  rw [wV_ok hb, wV_ok fun l hl => hb l ((h l).1 hl)]
  have e : wmx a = wmx b := Nat.le_antisymm (wmx_bd fun l hl => wmx_le l ((h l).1 hl)) (wmx_bd fun l hl => wmx_le l ((h l).2 hl))
  rw [e, wN_congr (wat_mem h)]
/-- From the last on, each one twice. -/
def tw (ls : List (List UInt8)) : List (List UInt8) := ls.reverse.flatMap fun x => [x, x]
theorem tw_mem (ls : List (List UInt8)) (x : List UInt8) : x ∈ tw ls ↔ x ∈ ls := by
  unfold tw
  simp
theorem tw_len (ls : List (List UInt8)) : (tw ls).length = 2 * ls.length := by
  unfold tw
  induction ls with
  | nil => rfl
  | cons x ls ih => rw [List.reverse_cons, List.flatMap_append, List.length_append, ih]; simp; omega
theorem tw_cons (x : List UInt8) (ls : List (List UInt8)) : tw (x :: ls) = tw ls ++ [x, x] := by
  unfold tw
  rw [List.reverse_cons, List.flatMap_append]
  rfl
section
variable {α : Type} {f : α → List Value} {e k : Nat} {L1 : List α}
/-- A slice behind a buffer of the call's own that has nothing. -/
theorem RawV.appC {P : Program} {o : Oper} {t bytes q : Nat} {sv : Value} {xs xx : Operand} {B : Heap} {K : Value → Heap → Prop} {L2 : List α} (hin : InS f k sv B L2) (ho : o.op = .call { callee := .builtin .append, args := #[xs, xx], argTypes := #[t, t] }) (ht : tyOk P t e k bytes = true)
    (hk0 : 0 < k) (hk : ∀ x, (f x).length = k) (h3 : ∀ x, ∀ u ∈ f x, u.oneCell' = true) (hb : L2.length * bytes ≤ 140737488355328)
    (h : ∀ q' c', L2.length ≤ c' → c' ≤ maxLen → K (.slice (some ⟨q', 0, none⟩) L2.length c') ((q', .buf e (L2.flatMap f) (c' * k)) :: B)) :
    RawV P o [.slice (some ⟨q, 0, none⟩) 0 0, sv] ((q, .row e [] (0, 0)) :: B) K := by
  obtain ⟨a, c2, rfl, hml, h4⟩ := hin
  refine RawV.toBuf (A := []) ?_
  rcases h4 with rfl | ⟨r, o', b, rfl, hm, hc⟩
  · have := h q 0 (Nat.le_refl _) (Nat.zero_le _)
    rw [Nat.zero_mul] at this
    exact RawV.appE ho ht (Nat.le_refl _) this
  · have hl : (L2.flatMap f).length = L2.length * k := flat_len hk L2
    have hcc : ∀ (j : Nat) v, (L2.flatMap f)[j]? = some v → b.cell (o' + j) = some v := fun j v hv => by
      obtain ⟨j', i, x, rfl, hi, hj, hv⟩ := flat_inv hk hv
      have := hc j' x i v hj hv hi
      rwa [Nat.add_assoc] at this
    refine RawV.appT (A := []) (n := 0) (cap := 0) (cs := []) ho ht hk0 (by rw [Nat.zero_mul]; rfl) (by rw [Nat.zero_mul]; rfl) (Nat.le_refl _) (Nat.zero_le _) (.tail _ hm) hl hcc (fun u hu => ?_) (by rw [Nat.zero_add]; exact hml) (by rw [Nat.zero_add]; exact hb) (fun q' c' k1 k2 => ?_)
    · obtain ⟨x, _, hx⟩ := List.mem_flatMap.1 hu
      exact h3 x u hx
    · rw [Nat.zero_add] at k1 ⊢
      exact h q' c' k1 k2
end
/-- Two more. -/
theorem grow2 {P : Program} {o : Oper} {t bytes r2 : Nat} {B M : Heap} {K : Value → Heap → Prop} {xs xx : Operand} {v0 : Value} {L : List (List UInt8)} {x : List UInt8} (hG : Grow sT 1 9 v0 L M) (ho : o.op = .call { callee := .builtin .append, args := #[xs, xx], argTypes := #[t, t] }) (ht : tyOk P t 9 1 bytes = true)
    (h63 : L.length + 2 ≤ maxLen) (hb : (L.length + 2) * bytes ≤ 140737488355328) (h : ∀ a c M', Grow sT 1 9 (.slice a (L.length + 2) c) (L ++ [x, x]) M' → K (.slice a (L.length + 2) c) (M' ++ ((r2, .row 9 [.string (strOf x), .string (strOf x)] (0, 0)) :: B))) :
    RawV P o [v0, .slice (some ⟨r2, 0, none⟩) 2 2] ((r2, .row 9 [.string (strOf x), .string (strOf x)] (0, 0)) :: (M ++ B)) K := by
  have hn : ∀ (j : Nat) v, [Value.string (strOf x), Value.string (strOf x)][j]? = some v → (Blk.row 9 [.string (strOf x), .string (strOf x)] (0, 0)).cell (0 + j) = some v := fun j v hj => by rw [Nat.zero_add]; exact hj
  have h1 : ∀ u ∈ [Value.string (strOf x), Value.string (strOf x)], u.oneCell' = true := fun u hu => by
    rcases List.mem_cons.1 hu with rfl | hu
    · rfl
    · rw [List.mem_singleton.1 hu]; rfl
  cases hG with
  | nil =>
    refine RawV.app0T (m := 2) (size := 1) (bytes := bytes) (e := 9) (news := [.string (strOf x), .string (strOf x)]) ho ht (by decide) (.head _) rfl hn (by decide) (by simpa using h63) (by simpa using hb) (fun r' cap' g1 g2 => ?_)
    have := h _ _ _ (Grow.buf (f := sT) (k := 1) (e := 9) (q := r') (c := cap') (L := [x, x]) g1 g2)
    simpa using this
  | @buf q c L h2 h3 =>
    refine RawV.appT (A := [(r2, .row 9 [.string (strOf x), .string (strOf x)] (0, 0))]) (m := 2) (size := 1) (bytes := bytes) (e := 9) (news := [.string (strOf x), .string (strOf x)]) (cs := L.flatMap sT) ho ht (by decide) (flat_len sT_len _) rfl h2 h3 (.head _) rfl hn h1 h63 hb (fun r' cap' g1 g2 => ?_)
    have hg := Grow.buf (f := sT) (k := 1) (e := 9) (q := r') (c := cap') (L := L ++ [x, x]) (by simpa using g1) g2
    rw [List.length_append, List.flatMap_append] at hg
    have := h _ _ _ hg
    simpa using this
inductive S7 (A0 A7 A8 A15 A16 : Value) : List Value → Prop
  | mk {r1 r2 r3 r4 r5 r6 r9 r10 r11 r12 r13 r14 r17 r18 r19 r20 r21 r22 r23 r24 r25 r26 r27 r28 r29 r30 r31 r32 r33 r34 r35 r36 r37 r38 r39 r40 r41 r42 r43 r44 r45 r46 r47 r48 r49 r50 r51 r52 r53 r54 r55 r56 r57 r58 r59 r60 r61 r62 r63 r64 r65 r66 r67 r68 r69 r70 r71 r72 r73 r74 r75 r76 r77 r78 r79 r80 r81 r82 r83 r84 r85 r86 r87 r88 r89 r90 r91 r92 r93 r94 r95 r96 r97 r98 r99 : Value} : S7 A0 A7 A8 A15 A16 [A0, r1, r2, r3, r4, r5, r6, A7, A8, r9, r10, r11, r12, r13, r14, A15, A16, r17, r18, r19, r20, r21, r22, r23, r24, r25, r26, r27, r28, r29, r30, r31, r32, r33, r34, r35, r36, r37, r38, r39, r40, r41, r42, r43, r44, r45, r46, r47, r48, r49, r50, r51, r52, r53, r54, r55, r56, r57, r58, r59, r60, r61, r62, r63, r64, r65, r66, r67, r68, r69, r70, r71, r72, r73, r74, r75, r76, r77, r78, r79, r80, r81, r82, r83, r84, r85, r86, r87, r88, r89, r90, r91, r92, r93, r94, r95, r96, r97, r98, r99]
section
variable {H : Heap}
theorem wires_c {lv av : Value} {ls : List (List UInt8)} {s : List UInt8} {fs : List Int} (hl : InS sT 1 lv H ls) (ha : InS cZ 1 av H fs) (hn : ls.length ≤ 2000000) (hm : fs.length ≤ 2000000) : SCalls Tryd.prog 7 [lv, .string (strOf s), av] H fun v _ => v = .bool true := by
  refine enter7 ?_
  have happ : ∀ q (o : Oper) (xs xx : Operand) (K2 : Value → Heap → Prop), o.op = .call { callee := .builtin .append, args := #[xs, xx], argTypes := #[38, 38] } → (∀ q' c', ls.length ≤ c' → c' ≤ maxLen → K2 (.slice (some ⟨q', 0, none⟩) ls.length c') ((q', .buf 9 (ls.flatMap sT) (c' * 1)) :: H)) →
      RawV Tryd.prog o [.slice (some ⟨q, 0, none⟩) 0 0, lv] ((q, .row 9 [] (0, 0)) :: H) K2 := fun q o xs xx K2 ho hk =>
    RawV.appC (bytes := 16) hl ho (by kernel_rfl) (by decide) sT_len sT_one (by omega) hk
  have h20 : ∀ q' c' (K2 : Value → Heap → Prop), ls.length ≤ c' → c' ≤ maxLen → K2 (.tuple ⟨[.string (strOf (wV ls).1), .int .i64 (wV ls).2]⟩) ((q', .buf 9 (ls.flatMap sT) (c' * 1)) :: H) → SCalls Tryd.prog 20 [.slice (some ⟨q', 0, none⟩) ls.length c'] ((q', .buf 9 (ls.flatMap sT) (c' * 1)) :: H) K2 := fun q' c' K2 h1 h2 hk =>
    c20 (InS.buf (.head _) rfl sT_len (by simp only [maxLen]; omega)) hk
  have h21 : ∀ A (K2 : Value → Heap → Prop), K2 (.tuple ⟨[.string (strOf (wV ls).1), .int .i64 (wV ls).2]⟩) (A :: H) → SCalls Tryd.prog 21 [lv] (A :: H) K2 := fun A K2 hk =>
    c21 (hl.mono fun p hp => .tail _ hp) hk
  have happ2 : ∀ A q (o : Oper) (xs xx : Operand) (K2 : Value → Heap → Prop), o.op = .call { callee := .builtin .append, args := #[xs, xx], argTypes := #[39, 39] } → (∀ q' c', fs.length ≤ c' → c' ≤ maxLen → K2 (.slice (some ⟨q', 0, none⟩) fs.length c') ((q', .buf 3 (fs.flatMap cZ) (c' * 1)) :: A :: H)) →
      RawV Tryd.prog o [.slice (some ⟨q, 0, none⟩) 0 0, av] ((q, .row 3 [] (0, 0)) :: A :: H) K2 := fun A q o xs xx K2 ho hk =>
    RawV.appC (bytes := 8) (ha.mono fun p hp => .tail _ hp) ho (by kernel_rfl) (by decide) cZ_len cZ_one (by omega) hk
  have h22 : ∀ A q' c' (K2 : Value → Heap → Prop), fs.length ≤ c' → c' ≤ maxLen → K2 (.tuple ⟨[.string (strOf (fV s fs).1), .int .i64 (fV s fs).2]⟩) ((q', .buf 3 (fs.flatMap cZ) (c' * 1)) :: A :: H) → SCalls Tryd.prog 22 [.string (strOf s), .slice (some ⟨q', 0, none⟩) fs.length c'] ((q', .buf 3 (fs.flatMap cZ) (c' * 1)) :: A :: H) K2 := fun A q' c' K2 h1 h2 hk =>
    c22 (InS.buf (.head _) rfl cZ_len (by simp only [maxLen]; omega)) hk
  have h23 : ∀ A B (K2 : Value → Heap → Prop), K2 (.tuple ⟨[.string (strOf (fV s fs).1), .int .i64 (fV s fs).2]⟩) (A :: B :: H) → SCalls Tryd.prog 23 [.string (strOf s), av] (A :: B :: H) K2 := fun A B K2 hk =>
    c23 (ha.mono fun p hp => .tail _ (.tail _ hp)) hk
  have hz := wV_zero (ls := ls)
  have hmem : (∀ l ∈ ls, chk l = 0) → wV (tw ls) = wV ls := wV_mem (tw_mem ls)
  obtain ⟨sa, sc, rfl, hml⟩ := hl.sv
  obtain ⟨aa, ac, rfl, haml⟩ := ha.sv
  by_cases h0 : (wV ls).2 = 0
  · have hok := hz h0
    have hmem := hmem hok
    have hwl : wV ls = ((wV ls).1, 0) := by rw [← h0]
    generalize (wV ls).1 = w at *
    generalize (wV ls).2 = e at *
    subst h0
    generalize (fV s fs).1 = x at *
    generalize (fV s fs).2 = y at *
    clear hz
    repeat' ((conv => whnf); (first | with_reducible refine happ _ _ _ _ _ rfl (fun q' c' g1 g2 => ?_) | with_reducible refine h20 _ _ _ g1 g2 ?_ | with_reducible refine h21 _ _ ?_ | with_reducible refine happ2 _ _ _ _ _ _ rfl (fun q2 c2 g3 g4 => ?_) | with_reducible refine h22 _ _ _ _ g3 g4 ?_ | with_reducible refine h23 _ _ _ ?_ | refine Branch.t (by first | (simp; done) | omega) ?_ | refine Branch.f (by first | (simp; done) | omega) ?_ | with_reducible refine Val.to ((ls.length : Int) - 1) (by rw [wrap_i64 (by omega) (by omega)]) ?_ | refine New.mk (fun _ => ?_) | refine Look.at0 ?_ | refine Cell.row ?_ | refine Cell.buf ?_ | refine Cells.row rfl ?_ | refine Put.row rfl ?_ | refine Put.buf rfl ?_ | refine Look.at1 ?_ | refine Look.at2 ?_ | refine Look.at3 ?_ | refine Look.at4 ?_ | refine Look.at5 ?_ | refine Look.at6 ?_ | refine Look.at7 ?_ | refine Look.at8 ?_ | with_reducible refine Val.i64 (by omega) (by omega) ?_ | with_reducible refine Val.u8 (by omega) (by omega) ?_ | with_reducible refine Val.u32 (by omega) (by omega) ?_ | with_reducible refine Val.u64 (by omega) (by omega) ?_ | with_reducible refine Val.u8m ?_ | with_reducible refine Val.u32m ?_ | with_reducible refine Val.u64m ?_ | with_reducible refine Val.shr8 ?_ | with_reducible refine Val.shr16 (by decide) ?_ | with_reducible refine Val.shr24 (by decide) ?_ | with_reducible refine Val.raw ?_ | refine Branch.not ?_ | refine Branch.and ?_ | refine Branch.or ?_ | refine Branch.dt (by assumption) ?_ | refine Branch.df (by assumption) ?_ | refine Branch.dt rfl ?_ | refine Branch.dt (by omega) ?_ | refine Branch.df (by omega) ?_ | refine Branch.t rfl ?_ | refine Branch.f rfl ?_ | refine Branch.t (by assumption) ?_ | refine Branch.f (by assumption) ?_ | refine Branch.d (fun _ => ?_) (fun _ => ?_) | refine Branch.mk (fun _ => ?_) (fun _ => ?_) | refine Need.mk (by first | omega | decide | rfl) ?_ | refine Idx.nat (by omega) ?_ | refine Idx.auto (by first | omega | decide) (by first | omega | decide) ?_ | refine Cell.ro rfl ?_ | refine SDraw.all (by kernel_rfl) ?_ | refine Kept.k0 ?_ | refine Kept.k1 ?_ | refine Kept.k2 ?_ | refine Kept.k3 ?_ | refine Kept.k4 ?_))
    refine SLoop.toBuf (A := []) ?_
    refine SLoop.invA (fun (j : Nat) S H' => j ≤ ls.length ∧ ∃ a c M, Grow sT 1 9 (.slice a (2 * (ls.length - j)) c) (tw (ls.drop j)) M ∧ S7 (.slice sa ls.length sc) (.string (strOf w)) (.int .i64 0) (.slice a (2 * (ls.length - j)) c) (.int .i64 ((j : Int) - 1)) S ∧ H' = M ++ H) (fun j => j) ls.length ?_ ?_
    · have e0 : 2 * (ls.length - ls.length) = 0 := by omega
      rw [e0, List.drop_length]
      exact Keep.sub _ (List.Sublist.cons_cons _ (List.sublist_append_right [_, _] H)) ⟨Nat.le_refl _, _, 0, _, Grow.zero, .mk, rfl⟩
    clear happ h20 h21 happ2 h22 h23
    rintro j S H' ⟨hj, a, c, M, hG, hS, rfl⟩ R hR
    cases j with
    | succ j =>
      have hx := List.getElem?_eq_getElem hj
      have hdr := List.drop_eq_getElem_cons hj
      generalize ls[j] = y at hx hdr
      obtain ⟨ra, oa, ca, blk, e, hb, hc⟩ := hl.at1 hx rfl
      injection e with e _ _
      subst e
      have htl : (tw (ls.drop (j + 1))).length = 2 * (ls.length - (j + 1)) := by rw [tw_len, List.length_drop]
      have e2 : 2 * (ls.length - (j + 1)) + 2 = 2 * (ls.length - j) := by omega
      have happ : ∀ q (o : Oper) (xs xx : Operand) (K2 : Value → Heap → Prop), o.op = .call { callee := .builtin .append, args := #[xs, xx], argTypes := #[38, 38] } → (∀ a' c' M', Grow sT 1 9 (.slice a' (2 * (ls.length - j)) c') (tw (ls.drop j)) M' → K2 (.slice a' (2 * (ls.length - j)) c') (M' ++ ((q, .row 9 [.string (strOf y), .string (strOf y)] (0, 0)) :: H))) →
          RawV Tryd.prog o [.slice a (2 * (ls.length - (j + 1))) c, .slice (some ⟨q, 0, none⟩) 2 2] ((q, .row 9 [.string (strOf y), .string (strOf y)] (0, 0)) :: (M ++ H)) K2 := fun q o xs xx K2 ho hk =>
        grow2 (bytes := 16) hG ho (by kernel_rfl) (by rw [htl]; simp only [maxLen]; omega) (by rw [htl]; omega) (fun a' c' M' g => by
          rw [htl, e2] at g ⊢
          rw [← tw_cons, ← hdr] at g
          exact hk a' c' M' g)
      have hnext : ∀ S a' c' M' X, Grow sT 1 9 (.slice a' (2 * (ls.length - j)) c') (tw (ls.drop j)) M' → S7 (.slice (some ⟨ra, oa, none⟩) ls.length sc) (.string (strOf w)) (.int .i64 0) (.slice a' (2 * (ls.length - j)) c') (.int .i64 ((j : Int) - 1)) S → R S (M' ++ (X :: H)) := fun S a' c' M' X g1 g2 =>
        hR j S _ (Nat.lt_succ_self _) (Keep.sub (M' ++ H) (List.Sublist.append_left (List.sublist_cons_self X H) M') ⟨Nat.le_of_lt hj, a', c', M', g1, g2, rfl⟩)
      have hsub : ∀ K : Int → Prop, K ((j : Int) - 1) → Val (IntKind.i64.wrap ((((j + 1 : Nat) : Int) - 1) - 1)) K := fun K hk2 => Val.to _ (by rw [wrap_i64 (by omega) (by omega)]; omega) hk2
      clear hR hmem hok hdr
      cases hS
      repeat' ((conv => whnf); (first | refine Branch.dt (by omega) ?_ | refine Idx.of j (by omega) hj ?_ | refine Look.cell (List.mem_append_right _ hb) hc ?_ | with_reducible refine happ _ _ _ _ _ rfl (fun a' c' M' g => ?_) | with_reducible refine hsub _ ?_ | exact hnext _ _ _ _ _ g .mk | refine New.mk (fun _ => ?_) | refine Look.at0 ?_ | refine Cell.row ?_ | refine Cell.buf ?_ | refine Cells.row rfl ?_ | refine Put.row rfl ?_ | refine Put.buf rfl ?_ | refine Look.at1 ?_ | refine Look.at2 ?_ | refine Look.at3 ?_ | refine Look.at4 ?_ | refine Look.at5 ?_ | refine Look.at6 ?_ | refine Look.at7 ?_ | refine Look.at8 ?_ | with_reducible refine Val.i64 (by omega) (by omega) ?_ | with_reducible refine Val.u8 (by omega) (by omega) ?_ | with_reducible refine Val.u32 (by omega) (by omega) ?_ | with_reducible refine Val.u64 (by omega) (by omega) ?_ | with_reducible refine Val.u8m ?_ | with_reducible refine Val.u32m ?_ | with_reducible refine Val.u64m ?_ | with_reducible refine Val.shr8 ?_ | with_reducible refine Val.shr16 (by decide) ?_ | with_reducible refine Val.shr24 (by decide) ?_ | with_reducible refine Val.raw ?_ | refine Branch.not ?_ | refine Branch.and ?_ | refine Branch.or ?_ | refine Branch.dt (by assumption) ?_ | refine Branch.df (by assumption) ?_ | refine Branch.dt rfl ?_ | refine Branch.dt (by omega) ?_ | refine Branch.df (by omega) ?_ | refine Branch.t rfl ?_ | refine Branch.f rfl ?_ | refine Branch.t (by assumption) ?_ | refine Branch.f (by assumption) ?_ | refine Branch.d (fun _ => ?_) (fun _ => ?_) | refine Branch.mk (fun _ => ?_) (fun _ => ?_) | refine Need.mk (by first | omega | decide | rfl) ?_ | refine Idx.nat (by omega) ?_ | refine Idx.auto (by first | omega | decide) (by first | omega | decide) ?_ | refine Cell.ro rfl ?_ | refine SDraw.all (by kernel_rfl) ?_ | refine Kept.k0 ?_ | refine Kept.k1 ?_ | refine Kept.k2 ?_ | refine Kept.k3 ?_ | refine Kept.k4 ?_))
    | zero =>
      rw [List.drop_zero] at hG
      have hlen : 2 * (ls.length - 0) = (tw ls).length := by rw [tw_len]; rfl
      rw [hlen] at hG hS
      have hin2 := hG.ins sT_len (H := M ++ H) (fun p hp => List.mem_append_left _ hp)
      have h20 : ∀ (K2 : Value → Heap → Prop), K2 (.tuple ⟨[.string (strOf w), .int .i64 0]⟩) (M ++ H) → SCalls Tryd.prog 20 [.slice a (tw ls).length c] (M ++ H) K2 := fun K2 hk =>
        c20 hin2 (by rw [hmem, hwl]; exact hk)
      clear hR hmem hok hwl
      cases hS
      repeat' ((conv => whnf); (first | refine Branch.df (by omega) ?_ | with_reducible refine h20 _ ?_ | refine Branch.t (by first | (simp; done) | omega) ?_ | refine Branch.f (by first | (simp; done) | omega) ?_ | refine c12 ?_ | exact Keep.sub [] (List.nil_sublist _) rfl | refine New.mk (fun _ => ?_) | refine Look.at0 ?_ | refine Cell.row ?_ | refine Cell.buf ?_ | refine Cells.row rfl ?_ | refine Put.row rfl ?_ | refine Put.buf rfl ?_ | refine Look.at1 ?_ | refine Look.at2 ?_ | refine Look.at3 ?_ | refine Look.at4 ?_ | refine Look.at5 ?_ | refine Look.at6 ?_ | refine Look.at7 ?_ | refine Look.at8 ?_ | with_reducible refine Val.i64 (by omega) (by omega) ?_ | with_reducible refine Val.u8 (by omega) (by omega) ?_ | with_reducible refine Val.u32 (by omega) (by omega) ?_ | with_reducible refine Val.u64 (by omega) (by omega) ?_ | with_reducible refine Val.u8m ?_ | with_reducible refine Val.u32m ?_ | with_reducible refine Val.u64m ?_ | with_reducible refine Val.shr8 ?_ | with_reducible refine Val.shr16 (by decide) ?_ | with_reducible refine Val.shr24 (by decide) ?_ | with_reducible refine Val.raw ?_ | refine Branch.not ?_ | refine Branch.and ?_ | refine Branch.or ?_ | refine Branch.dt (by assumption) ?_ | refine Branch.df (by assumption) ?_ | refine Branch.dt rfl ?_ | refine Branch.dt (by omega) ?_ | refine Branch.df (by omega) ?_ | refine Branch.t rfl ?_ | refine Branch.f rfl ?_ | refine Branch.t (by assumption) ?_ | refine Branch.f (by assumption) ?_ | refine Branch.d (fun _ => ?_) (fun _ => ?_) | refine Branch.mk (fun _ => ?_) (fun _ => ?_) | refine Need.mk (by first | omega | decide | rfl) ?_ | refine Idx.nat (by omega) ?_ | refine Idx.auto (by first | omega | decide) (by first | omega | decide) ?_ | refine Cell.ro rfl ?_ | refine SDraw.all (by kernel_rfl) ?_ | refine Kept.k0 ?_ | refine Kept.k1 ?_ | refine Kept.k2 ?_ | refine Kept.k3 ?_ | refine Kept.k4 ?_))
  · generalize (wV ls).1 = w at *
    generalize (wV ls).2 = e at *
    generalize (fV s fs).1 = x at *
    generalize (fV s fs).2 = y at *
    clear hmem hz
    repeat' ((conv => whnf); (first | with_reducible refine happ _ _ _ _ _ rfl (fun q' c' g1 g2 => ?_) | with_reducible refine h20 _ _ _ g1 g2 ?_ | with_reducible refine h21 _ _ ?_ | with_reducible refine happ2 _ _ _ _ _ _ rfl (fun q2 c2 g3 g4 => ?_) | with_reducible refine h22 _ _ _ _ g3 g4 ?_ | with_reducible refine h23 _ _ _ ?_ | refine Branch.t (by first | (simp [h0]; done) | omega) ?_ | refine Branch.f (by first | (simp [h0]; done) | omega) ?_ | refine c12 ?_ | exact Keep.sub [] (List.nil_sublist _) rfl | refine New.mk (fun _ => ?_) | refine Look.at0 ?_ | refine Cell.row ?_ | refine Cell.buf ?_ | refine Cells.row rfl ?_ | refine Put.row rfl ?_ | refine Put.buf rfl ?_ | refine Look.at1 ?_ | refine Look.at2 ?_ | refine Look.at3 ?_ | refine Look.at4 ?_ | refine Look.at5 ?_ | refine Look.at6 ?_ | refine Look.at7 ?_ | refine Look.at8 ?_ | with_reducible refine Val.i64 (by omega) (by omega) ?_ | with_reducible refine Val.u8 (by omega) (by omega) ?_ | with_reducible refine Val.u32 (by omega) (by omega) ?_ | with_reducible refine Val.u64 (by omega) (by omega) ?_ | with_reducible refine Val.u8m ?_ | with_reducible refine Val.u32m ?_ | with_reducible refine Val.u64m ?_ | with_reducible refine Val.shr8 ?_ | with_reducible refine Val.shr16 (by decide) ?_ | with_reducible refine Val.shr24 (by decide) ?_ | with_reducible refine Val.raw ?_ | refine Branch.not ?_ | refine Branch.and ?_ | refine Branch.or ?_ | refine Branch.dt (by assumption) ?_ | refine Branch.df (by assumption) ?_ | refine Branch.dt rfl ?_ | refine Branch.dt (by omega) ?_ | refine Branch.df (by omega) ?_ | refine Branch.t rfl ?_ | refine Branch.f rfl ?_ | refine Branch.t (by assumption) ?_ | refine Branch.f (by assumption) ?_ | refine Branch.d (fun _ => ?_) (fun _ => ?_) | refine Branch.mk (fun _ => ?_) (fun _ => ?_) | refine Need.mk (by first | omega | decide | rfl) ?_ | refine Idx.nat (by omega) ?_ | refine Idx.auto (by first | omega | decide) (by first | omega | decide) ?_ | refine Cell.ro rfl ?_ | refine SDraw.all (by kernel_rfl) ?_ | refine Kept.k0 ?_ | refine Kept.k1 ?_ | refine Kept.k2 ?_ | refine Kept.k3 ?_ | refine Kept.k4 ?_))
end
end Go.Proofs.YtijnjklofdmelaaDoor


/- Layer 1: the law of wires, where what comes in is not too much; what a bound on what is read says of a slice. -/
set_option linter.unusedVariables false
set_option linter.unusedSimpArgs false
set_option maxRecDepth 100000
set_option maxHeartbeats 4000000
namespace Go.Proofs.YtijnjklofdmelaaDoor
open Sx
open Go.ChangeShapes Go.WideShapes Go.Deep
theorem bk_one {H : Type} (d : DataW H) : 1 ≤ Rows.uptoBulk d := by
  cases d with
  | lit l => cases l <;> simp [Rows.uptoBulk]
  | nil => simp [Rows.uptoBulk]
  | ptr d => simp [Rows.uptoBulk]
  | slice elems spare => simp [Rows.uptoBulk]
  | agg parts => simp [Rows.uptoBulk]
  | iface t d => simp [Rows.uptoBulk]
  | map entries => simp [Rows.uptoBulk]
  | held h => simp [Rows.uptoBulk]
theorem bk_all {H : Type} (l : List (DataW H)) : l.length ≤ Rows.uptoBulkAll l := by
  induction l with
  | nil => simp [Rows.uptoBulkAll]
  | cons x r ih => have := bk_one x; simp only [Rows.uptoBulkAll, List.length_cons]; omega
/-- So many elements at the most. -/
theorem bk_slice {H : Type} {enc : TypeId × Value → H} {P : Program} {w : World} {base : Nat} {spare : Nat → Bool} {held : Bool} {t e : TypeId} {fuel : Nat} {a : Option Addr} {l c : Nat} {x : DataW H × List MemPlace} (ht : P.underlying t = some (.slice e)) (h : DataW.trod enc P w base spare held fuel t [.slice a l c] = some x) : l ≤ Rows.uptoBulk x.1 := by
  rcases open_slice ht h with ⟨e1, rfl⟩ | ⟨a', len, cap, m, n, D, Pl, e1, hb, hl, hm, hmm, rfl, hi⟩
  · injection e1 with e1 _
    injection e1 with _ e1 _
    subst e1
    exact Nat.zero_le _
  · injection e1 with e1 _
    injection e1 with _ e1 _
    subst e1
    have := bk_all ((List.range l).map D)
    rw [List.length_map, List.length_range] at this
    simp only [Rows.uptoBulk]
    omega
theorem txt_of {w : World} {cs : List Value} (h : R9 w cs) : ∃ l : List UInt8, cs = sT l ∧ True := by
  obtain ⟨x, rfl, _⟩ := h
  exact ⟨x.data.toList, rfl, trivial⟩
theorem int_of {w : World} {cs : List Value} (h : R3 w cs) : ∃ f : Int, cs = cZ f ∧ True := by
  obtain ⟨x, rfl, _⟩ := h
  exact ⟨x, rfl, trivial⟩
theorem BitsWiresUptoW (a0a : Option Addr) (a0l : Nat) (a0c : Nat) (a1 : ByteArray) (a2a : Option Addr) (a2l : Nat) (a2c : Nat) (w : World) (h0_0 : SliceAt 1 B9 R9 w a0a a0l a0c) (h1_0 : a1.size ≤ reachBytes) (h2_0 : SliceAt 1 B3 R3 w a2a a2l a2c) (hn : a0l ≤ 2000000) (hm : a2l ≤ 2000000) :
    Calls Tryd.prog 7 #[.slice a0a a0l a0c, .string a1, .slice a2a a2l a2c] w fun e w' => e = .returned (.bool true) ∧ Go.RowKit.Below w.heap.size w w' := by
  obtain ⟨H, L, rfl, hin, _, hw, hx⟩ := inS_of (f := sT) (Good := fun _ => True) h0_0 (by decide) (fun _ => rfl) (fun cs hc => txt_of hc)
  obtain ⟨H2, L2, rfl, hin2, _, hw2, hx2⟩ := inS_of (f := cZ) (Good := fun _ => True) h2_0 (by decide) (fun _ => rfl) (fun cs hc => int_of hc)
  exact (wires_c (s := a1.data.toList) (hin.mono fun p hp => List.mem_append_left H2 hp) (hin2.mono fun p hp => List.mem_append_right H hp) hn hm).fin w (Holds.join hw hw2 hx hx2) (excl_join hx hx2)
end Go.Proofs.YtijnjklofdmelaaDoor


