/- Layer 24: with a slot twice as long the first master comes behind twice as many ticks: the walk. -/
import Derived.Test.YtmakaofdpoiaaaaFlL
set_option linter.unusedVariables false
set_option linter.unusedSimpArgs false
set_option maxRecDepth 100000
set_option maxHeartbeats 4000000
namespace Go.Proofs.Ytmakaofdpoiaaaa
open Sx
section
variable {P : Program} {f : FuncId} {args : List Value} {K : Value → Heap → Prop} {N : Heap}
theorem SCalls.mid (A B : Heap) (h : SCalls P f args N fun v N' => K v (A ++ (N' ++ B))) : SCalls P f args (A ++ (N ++ B)) K := by
  refine SCalls.under A (h.frame.mono ?_)
  rintro v H' ⟨H1, rfl, hK⟩
  exact hK
theorem SCalls.last (A1 A2 : Heap) (h : SCalls P f args N fun v N' => K v (A1 ++ (A2 ++ N'))) : SCalls P f args (A1 ++ (A2 ++ N)) K :=
  SCalls.under A1 (SCalls.under A2 h)
end
section
variable {K : Value → Heap → Prop}
theorem c9F {sv : Value} {H R : Heap} {L : List Mas} {x0 : Nat × Blk} (hin : InL sv H L) (h : ∀ q c, L.length ≤ c → c ≤ maxLen → K (.slice (some ⟨q, 0, none⟩) L.length c) (x0 :: (q, .buf 30 (L.flatMap Mas.cells) (c * 3)) :: (H ++ R))) : SCalls Try.prog 9 [sv] (x0 :: (H ++ R)) K := by
  refine SCalls.under [x0] ((c9 (K := fun v H' => ∃ q c, L.length ≤ c ∧ c ≤ maxLen ∧ v = .slice (some ⟨q, 0, none⟩) L.length c ∧ H' = (q, .buf 30 (L.flatMap Mas.cells) (c * 3)) :: H) hin fun q c hq hc => ⟨q, c, hq, hc, rfl, rfl⟩).frame.mono ?_)
  rintro v H' ⟨H1, rfl, q, c, hq, hc, rfl, rfl⟩
  exact h q c hq hc
theorem hcell {L : List Mas} {N : Nat} : ∀ (j : Nat) m, L[j]? = some m → ∀ i v, m.cells[i]? = some v → (Blk.buf 30 (L.flatMap Mas.cells) N).cell (0 + j * 3 + i) = some v := by
  intro j m hj i v hv
  have hi : i < 3 := (List.getElem?_eq_some_iff.1 hv).1
  rw [Nat.zero_add]
  exact (flat_nth Mas.len hj hi).trans hv
/-- A net out of a copy, which is then forgotten. -/
theorem c10S {q c N : Nat} {slot lost : Int} {L : List Mas} {x0 : Nat × Blk} {R : Heap} (hsl : 0 ≤ slot ∧ slot ≤ 18446744073709551615)
    (hE : ∀ e, newF slot lost L = .error e → K (.tuple ⟨[.pointer none, .int .i64 e]⟩) (x0 :: R))
    (hN : ∀ ms g a cap Bh l, newF slot lost L = .ok l → Net a cap Bh ms l → K (.tuple ⟨[.pointer (some ⟨g, 0, none⟩), .int .i64 0]⟩) (x0 :: (R ++ netH g a cap Bh slot lost ms))) :
    SCalls Try.prog 10 [.slice (some ⟨q, 0, none⟩) L.length c, .int .u64 slot, .int .u64 lost] (x0 :: (q, .buf 30 (L.flatMap Mas.cells) N) :: R) K := by
  refine SCalls.keep (SCalls.atList [x0] (c10N hcell hsl (fun e he => ?_) fun ms g a cap Bh l he hn => ?_))
  · exact Keep.glue [[x0], [(q, .buf 30 (L.flatMap Mas.cells) N)], R] [0, 1, 2] [0, 2] [1] (by decide) rfl (hE e he)
  · exact Keep.glue [[x0], [(q, .buf 30 (L.flatMap Mas.cells) N)], netH g a cap Bh slot lost ms, R] [0, 1, 2, 3] [0, 3, 2] [1] (by decide) (by simp [glue]) (hN ms g a cap Bh l he hn)
theorem c12L {g cap : Nat} {a : Option Addr} {Bh : Heap} {slot lost : Int} {ms : List PM} {l l' : List M} {t : Option Int} (hn : Net a cap Bh ms l) (he : tickM slot lost l = (l', t)) (h : ∀ q c ms', Net a cap Bh ms' l' → K (toldV q c t) (netH g a cap Bh slot lost ms')) :
    SCalls Try.prog 12 [.pointer (some ⟨g, 0, none⟩)] (netH g a cap Bh slot lost ms) K :=
  SCalls.keep (c12E hn he fun q c ms' hq hn' => Keep.sub _ (List.sublist_append_right _ _) (h q c ms' hn'))
end
theorem c8s {K : Value → Heap → Prop} {H : Heap} {sv : Value} {s s0 lo lo0 : Int} (es : s = 1 + s0 % 3) (el : lo = 1 + lo0 % 9) (hs : 0 ≤ s0) (hl : 0 ≤ lo0) (hsv : ∃ a n c, sv = .slice a n c) (h : K (.agg ⟨[sv, .int .u64 s, .int .u64 lo]⟩) H) : SCalls Try.prog 8 [.agg ⟨[sv, .int .u64 s0, .int .u64 lo0]⟩] H K :=
  c8 s0 lo0 hs hl hsv (by rw [← es, ← el]; exact h)
def chk : List Mas → List Int → Option Int
  | [], _ => none
  | x :: r, acc => if Bad x then some 1 else if acc.any (fun n => decide (n = x.node)) then some 5 else chk r (acc ++ [x.node])
theorem newGo_chk {slot : Int} : ∀ (r : List Mas) (acc : List M), newGo slot r acc = match chk r (acc.map M.node) with | some e => .error e | none => .ok (acc ++ r.map (mkM slot))
  | [], acc => by simp [newGo, chk]
  | x :: r, acc => by
    have hn : (mkM slot x).node = x.node := by unfold mkM; split <;> rfl
    unfold chk
    by_cases hb : Bad x
    · rw [newGo_bad hb, if_pos hb]
    · rw [if_neg hb]
      have e : (acc.map M.node).any (fun n => decide (n = x.node)) = acc.any (fun m => decide (m.node = x.node)) := by rw [List.any_map]; rfl
      rw [e]
      cases hd : acc.any (fun m => decide (m.node = x.node)) with
      | true => rw [newGo_dup hb hd]; rfl
      | false =>
        rw [newGo_ok hb hd, newGo_chk r, List.map_append, List.map_cons, List.map_nil, hn]
        simp
theorem newF_slots {s s' lo : Int} {L : List Mas} {e : Int} (hs : 1 ≤ s ∧ s ≤ 65536) (hs' : 1 ≤ s' ∧ s' ≤ 65536) (h : newF s lo L = .error e) : newF s' lo L = .error e := by
  unfold newF at h ⊢
  split
  · rename_i h8; rw [if_pos h8] at h; exact h
  · rename_i h8
    rw [if_neg h8] at h
    rw [newGo_chk] at h ⊢
    cases hc : chk L (([] : List M).map M.node) with
    | some e' => rw [hc] at h; exact h
    | none =>
      rw [hc] at h
      dsimp only at h ⊢
      by_cases hl : lo < 1 ∨ 4294967296 < lo
      · rw [if_pos (by rcases hl with z | z; exact .inr (.inr (.inl z)); exact .inr (.inr (.inr z)))] at h ⊢; exact h
      · rw [if_neg (by omega)] at h; cases h
/-- What a net tells, tick by tick. -/
def Mach (slot lost W node : Int) (P : Int → List M → Prop) : Prop := ∀ k l, 0 ≤ k → P k l → ∃ l', tickM slot lost l = (l', if k + 1 = W then some node else none) ∧ P (k + 1) l'
theorem mach_of {slot lost : Int} {L : List Mas} {l : List M} (h : newF slot lost L = .ok l) : ∃ W node P, Mach slot lost W node P ∧ P 0 l ∧ ((firstF L = none ∧ W = 0) ∨ ∃ f, firstF L = some f ∧ W = key f * slot ∧ 1 ≤ W ∧ node = f.node ∧ 1 ≤ key f ∧ key f ≤ 383) := by
  cases hf : firstF L with
  | none =>
    have hd := dead_new h (firstF_none hf)
    refine ⟨0, 0, fun k l' => Dead l', ?_, hd, .inl ⟨rfl, rfl⟩⟩
    intro k l hk hd
    exact ⟨l, by rw [dead_tick slot lost hd, if_neg (by omega)], hd⟩
  | some f =>
    have hfr := fresh_new h hf
    refine ⟨_, f.node, Phase (key f * slot) f.node l, fun k l' hk hp => phase_tick hfr hk hp, phase_0 hfr, .inr ⟨f, rfl, rfl, hfr.pos, rfl, ?_⟩⟩
    have hb := (newF_map h).2.1 f (firstF_some hf (newF_map h).2.1).1
    unfold Bad at hb
    unfold key; omega
def xF (W k : Int) : Int := if 1 ≤ W ∧ W ≤ k then W else 0
inductive S4 (A1 A3 A5 A7 A8 A9 : Value) : List Value → Prop
  | mk {r0 r2 r4 r6 r10 r11 r12 r13 r14 r15 r16 r17 r18 r19 r20 r21 r22 r23 r24 r25 r26 r27 r28 r29 r30 r31 r32 r33 r34 r35 r36 r37 r38 r39 r40 r41 r42 r43 r44 r45 r46 r47 r48 r49 r50 r51 r52 r53 r54 r55 r56 r57 r58 r59 r60 r61 r62 r63 r64 r65 r66 r67 r68 r69 r70 r71 r72 r73 r74 r75 r76 r77 r78 r79 r80 r81 r82 r83 r84 r85 r86 r87 r88 r89 r90 r91 r92 r93 r94 r95 : Value} : S4 A1 A3 A5 A7 A8 A9 [r0, A1, r2, A3, r4, A5, r6, A7, A8, A9, r10, r11, r12, r13, r14, r15, r16, r17, r18, r19, r20, r21, r22, r23, r24, r25, r26, r27, r28, r29, r30, r31, r32, r33, r34, r35, r36, r37, r38, r39, r40, r41, r42, r43, r44, r45, r46, r47, r48, r49, r50, r51, r52, r53, r54, r55, r56, r57, r58, r59, r60, r61, r62, r63, r64, r65, r66, r67, r68, r69, r70, r71, r72, r73, r74, r75, r76, r77, r78, r79, r80, r81, r82, r83, r84, r85, r86, r87, r88, r89, r90, r91, r92, r93, r94, r95]
def I4 (p2 ga gb : Nat) (F : Blk) (H0 : Heap) (a b : Option Addr) (ca cb : Nat) (Ba Bb : Heap) (s lo Wa Wb : Int) (Pa Pb : Int → List M → Prop) (l : List Value) (H : Heap) : Prop :=
  ∃ (k : Nat) (la lb : List M) (ma mb : List PM), k ≤ 2499 ∧ Pa (k : Int) la ∧ Pb (k : Int) lb ∧ Net a ca Ba ma la ∧ Net b cb Bb mb lb ∧
    S4 (.pointer (some ⟨p2, 0, none⟩)) (.pointer (some ⟨ga, 0, none⟩)) (.pointer (some ⟨gb, 0, none⟩)) (.int .i64 (xF Wa k)) (.int .i64 (xF Wb k)) (.int .i64 ((k : Int) + 1)) l ∧
    H = (p2, F) :: (H0 ++ (netH ga a ca Ba s lo ma ++ netH gb b cb Bb (2 * s) lo mb))
noncomputable def M4 (l : List Value) (_ : Heap) : Nat := 2500 - (match getL l 9 with | .int _ i => i.toNat | _ => 0)
theorem slots_sc {sv : Value} {H0 : Heap} {L : List Mas} (hin : InL sv H0 L) (s0 lo0 : Int) (hs0 : 0 ≤ s0 ∧ s0 ≤ 18446744073709551615) (hl0 : 0 ≤ lo0 ∧ lo0 ≤ 18446744073709551615) :
    SCalls Try.prog 4 [.agg ⟨[sv, .int .u64 s0, .int .u64 lo0]⟩] H0 fun v _ => v = .bool true := by
  have hlen : L.length * 24 ≤ 140737488355328 := by obtain ⟨_, _, _, h, _⟩ := hin; omega
  have hsv : ∃ a n c, sv = .slice a n c := by obtain ⟨a, c, h, _⟩ := hin; exact ⟨a, _, c, h⟩
  obtain ⟨sa, sn, sc, rfl⟩ := hsv
  obtain ⟨s, es⟩ : ∃ s, s = 1 + s0 % 3 := ⟨_, rfl⟩
  obtain ⟨lo, el⟩ : ∃ lo, lo = 1 + lo0 % 9 := ⟨_, rfl⟩
  have hs : 1 ≤ s ∧ s ≤ 3 := by omega
  have hl : 1 ≤ lo ∧ lo ≤ 9 := by omega
  refine enter4 ?_
  repeat' ((conv => whnf); (first
      | refine c8s es el hs0.1 hl0.1 ⟨_, _, _, rfl⟩ ?_
      | refine SDraw.held (by kernel_rfl) [_] (.same (.head _) .nil) ?_
      | refine Kept.sub (List.Sublist.cons_cons _ (List.nil_sublist _)) ?_
      | refine SCalls.under [_] (c9 hin (fun q c hq hc => ?_))
      | refine c9F hin (fun q c hq hc => ?_)
      | refine c10S (slot := s) (by omega) (fun e he => ?_) (fun ms g a cap Bh l he hn => ?_)
      | refine c10S (slot := 2 * s) (by omega) (fun e2 he2 => ?_) (fun ms2 g2 a2 cap2 Bh2 l2 he2 hn2 => ?_)
      | refine live_c ?_
      | refine Branch.not (Branch.df (newF_err he) ?_)
      | refine Branch.not (Branch.df (newF_err he2) ?_)
      | refine New.mk (fun _ => ?_)
      | refine Look.at0 ?_
      | refine Cell.row ?_
      | refine Cell.buf ?_
      | refine Cells.row rfl ?_
      | refine Put.row rfl ?_
      | refine Put.buf rfl ?_
      | refine Look.at1 ?_
      | refine Look.at2 ?_
      | refine Look.at3 ?_
      | refine Look.at4 ?_
      | refine Look.at5 ?_
      | refine Look.at6 ?_
      | refine Look.at7 ?_
      | refine Look.at8 ?_
      | with_reducible refine Val.i64 (by omega) (by omega) ?_
      | with_reducible refine Val.u8 (by omega) (by omega) ?_
      | with_reducible refine Val.u32 (by omega) (by omega) ?_
      | with_reducible refine Val.u64 (by omega) (by omega) ?_
      | with_reducible refine Val.u8m ?_
      | with_reducible refine Val.u32m ?_
      | with_reducible refine Val.u64m ?_
      | with_reducible refine Val.shr8 ?_
      | with_reducible refine Val.shr16 (by decide) ?_
      | with_reducible refine Val.shr24 (by decide) ?_
      | with_reducible refine Val.raw ?_
      | refine Branch.not ?_
      | refine Branch.and ?_
      | refine Branch.or ?_
      | refine Branch.dt (by assumption) ?_
      | refine Branch.df (by assumption) ?_
      | refine Branch.dt rfl ?_
      | refine Branch.dt (by omega) ?_
      | refine Branch.df (by omega) ?_
      | refine Branch.t rfl ?_
      | refine Branch.f rfl ?_
      | refine Branch.t (by assumption) ?_
      | refine Branch.f (by assumption) ?_
      | refine Branch.d (fun _ => ?_) (fun _ => ?_)
      | refine Branch.mk (fun _ => ?_) (fun _ => ?_)
      | refine Need.mk (by first | omega | decide | rfl) ?_
      | refine Idx.nat (by omega) ?_
      | refine Idx.auto (by first | omega | decide) (by first | omega | decide) ?_
      | refine Cell.ro rfl ?_
      | refine SDraw.all (by kernel_rfl) ?_
      | refine Kept.k0 ?_
      | refine Kept.k1 ?_
      | refine Kept.k2 ?_
      | refine Kept.k3 ?_
      | refine Kept.k4 ?_))
  all_goals (conv => whnf)
  · exact Keep.all rfl
  · rw [newF_slots (by omega) (by omega) he] at he2; cases he2
  · rw [newF_slots (s' := s) (by omega) (by omega) he2] at he; cases he
  obtain ⟨Wa, na, Pa, hma, hpa, hca⟩ := mach_of he
  obtain ⟨Wb, nb, Pb, hmb, hpb, hcb⟩ := mach_of he2
  have hW : (firstF L = none ∧ Wa = 0 ∧ Wb = 0) ∨ (∃ f, firstF L = some f ∧ Wb = 2 * Wa ∧ 1 ≤ Wa ∧ Wa ≤ 1149) := by
    rcases hca with ⟨h1, h2⟩ | ⟨f, h1, h2, h3, h4, h5, h6⟩
    · rcases hcb with ⟨g1, g2⟩ | ⟨f', g1, _⟩
      · exact .inl ⟨h1, h2, g2⟩
      · rw [h1] at g1; cases g1
    · rcases hcb with ⟨g1, _⟩ | ⟨f', g1, g2, _⟩
      · rw [h1] at g1; cases g1
      · rw [h1] at g1
        injection g1 with g1
        subst g1
        refine .inr ⟨f, h1, ?_, h3, ?_⟩
        · rw [g2, h2, ← Int.mul_assoc, Int.mul_comm (key f) 2, Int.mul_assoc]
        · have : key f * s ≤ 383 * 3 := Int.mul_le_mul h6 hs.2 (by omega) (by omega)
          omega
  clear hca hcb
  rename_i p2 _ _ _ _
  rw [List.append_assoc]
  refine SLoop.inv (I4 _ g g2 _ H0 a a2 cap cap2 Bh Bh2 s lo Wa Wb Pa Pb) M4 (Keep.all ⟨0, l, l2, ms, ms2, by omega, hpa, hpb, hn, hn2, by
    have e1 : xF Wa ((0 : Nat) : Int) = 0 := by unfold xF; rw [if_neg (by omega)]
    have e2 : xF Wb ((0 : Nat) : Int) = 0 := by unfold xF; rw [if_neg (by omega)]
    rw [e1, e2]; exact .mk, rfl⟩) ?_
  clear hn hn2 hpa hpb he he2 ms ms2 l l2
  rintro S H ⟨k, la, lb, ma, mb, hk, hpa, hpb, hna, hnb, hS, rfl⟩ R hR
  cases hS
  by_cases hgo : (k : Int) + 1 < 2500 ∧ xF Wb k = 0
  · obtain ⟨la', hta, hpa'⟩ := hma k la (by omega) hpa
    obtain ⟨lb', htb, hpb'⟩ := hmb k lb (by omega) hpb
    obtain ⟨hgo1, hgo2⟩ := hgo
    have fin : ∀ (l : List Value) (ma' mb' : List PM) (x y : Int), Net a cap Bh ma' la' → Net a2 cap2 Bh2 mb' lb' → x = xF Wa ((k + 1 : Nat) : Int) → y = xF Wb ((k + 1 : Nat) : Int) →
        S4 (.pointer (some ⟨p2, 0, none⟩)) (.pointer (some ⟨g, 0, none⟩)) (.pointer (some ⟨g2, 0, none⟩)) (.int .i64 x) (.int .i64 y) (.int .i64 (((k + 1 : Nat) : Int) + 1)) l → (match getL l 9 with | .int _ i => i.toNat | _ => 0) = k + 2 →
        R l ((p2, .row 25 [.slice sa sn sc, .int .u64 s, .int .u64 lo] (0, 0)) :: (H0 ++ (netH g a cap Bh s lo ma' ++ netH g2 a2 cap2 Bh2 (2 * s) lo mb'))) := by
      rintro l ma' mb' x y g1 g2 rfl rfl g5 g6
      refine hR _ _ (Keep.all ⟨⟨k + 1, la', lb', ma', mb', by omega, hpa', hpb', g1, g2, g5, rfl⟩, ?_⟩)
      unfold M4
      rw [g6]
      show 2500 - (k + 2) < 2500 - Int.toNat ((k : Int) + 1)
      omega
    by_cases hka : (k : Int) + 1 = Wa <;> by_cases hkb : (k : Int) + 1 = Wb
    all_goals (first | rw [if_pos hka] at hta | rw [if_neg hka] at hta)
    all_goals (first | rw [if_pos hkb] at htb | rw [if_neg hkb] at htb)
    all_goals
      repeat' ((conv => whnf); (first
          | refine SCalls.last (_ :: H0) _ (c12L hnb htb (fun _ _ mb' hnb' => ?_))
          | refine SCalls.mid (_ :: H0) _ (c12L hna hta (fun _ _ ma' hna' => ?_))
          | refine Branch.dt hgo2 ?_
          | refine Branch.dt (by unfold xF; rw [if_neg (by omega)]) ?_
          | refine New.mk (fun _ => ?_)
          | refine Look.at0 ?_
          | refine Cell.row ?_
          | refine Cell.buf ?_
          | refine Cells.row rfl ?_
          | refine Put.row rfl ?_
          | refine Put.buf rfl ?_
          | refine Look.at1 ?_
          | refine Look.at2 ?_
          | refine Look.at3 ?_
          | refine Look.at4 ?_
          | refine Look.at5 ?_
          | refine Look.at6 ?_
          | refine Look.at7 ?_
          | refine Look.at8 ?_
          | with_reducible refine Val.i64 (by omega) (by omega) ?_
          | with_reducible refine Val.u8 (by omega) (by omega) ?_
          | with_reducible refine Val.u32 (by omega) (by omega) ?_
          | with_reducible refine Val.u64 (by omega) (by omega) ?_
          | with_reducible refine Val.u8m ?_
          | with_reducible refine Val.u32m ?_
          | with_reducible refine Val.u64m ?_
          | with_reducible refine Val.shr8 ?_
          | with_reducible refine Val.shr16 (by decide) ?_
          | with_reducible refine Val.shr24 (by decide) ?_
          | with_reducible refine Val.raw ?_
          | refine Branch.not ?_
          | refine Branch.and ?_
          | refine Branch.or ?_
          | refine Branch.dt (by assumption) ?_
          | refine Branch.df (by assumption) ?_
          | refine Branch.dt rfl ?_
          | refine Branch.dt (by omega) ?_
          | refine Branch.df (by omega) ?_
          | refine Branch.t rfl ?_
          | refine Branch.f rfl ?_
          | refine Branch.t (by assumption) ?_
          | refine Branch.f (by assumption) ?_
          | refine Branch.d (fun _ => ?_) (fun _ => ?_)
          | refine Branch.mk (fun _ => ?_) (fun _ => ?_)
          | refine Need.mk (by first | omega | decide | rfl) ?_
          | refine Idx.nat (by omega) ?_
          | refine Idx.auto (by first | omega | decide) (by first | omega | decide) ?_
          | refine Cell.ro rfl ?_
          | refine SDraw.all (by kernel_rfl) ?_
          | refine Kept.k0 ?_
          | refine Kept.k1 ?_
          | refine Kept.k2 ?_
          | refine Kept.k3 ?_
          | refine Kept.k4 ?_))
    all_goals (conv => whnf)
    all_goals first
      | exact fin _ ma' mb' _ _ hna' hnb' (by unfold xF; (repeat' split) <;> omega) (by unfold xF; (repeat' split) <;> omega) .mk rfl
      | trace_state
  · clear hR hma hmb hpa hpb hna hnb
    have hxx : (firstF L = none ∧ xF Wa k = 0 ∧ xF Wb k = 0 ∧ ¬ (k : Int) + 1 < 2500) ∨ (∃ f, firstF L = some f ∧ xF Wa k = Wa ∧ xF Wb k = 2 * Wa ∧ 1 ≤ Wa ∧ Wa ≤ 1149) := by
      rcases hW with ⟨h1, rfl, rfl⟩ | ⟨f, h1, rfl, h2, h3⟩
      · have e : xF 0 k = 0 := by unfold xF; rw [if_neg (by omega)]
        rw [e] at hgo
        exact .inl ⟨h1, e, e, by omega⟩
      · have hk' : 2 * Wa ≤ k := by
          by_cases z : 2 * Wa ≤ (k : Int)
          · exact z
          · have e : xF (2 * Wa) k = 0 := by unfold xF; rw [if_neg (by omega)]
            rw [e] at hgo
            omega
        exact .inr ⟨f, h1, by unfold xF; rw [if_pos (by omega)], by unfold xF; rw [if_pos (by omega)], h2, h3⟩
    rcases hxx with ⟨h1, e1, e2, h3⟩ | ⟨f, h1, e1, e2, h2, h3⟩
    · rw [e1, e2]
      repeat' ((conv => whnf); (first
          | refine c9F hin (fun q c hq hc => ?_)
          | refine SCalls.atList [_] (c16 hlen (fun h0 => ?_) (fun x hx => by rw [h1] at hx; cases hx))
          | refine live_c ?_
          | refine New.mk (fun _ => ?_)
          | refine Look.at0 ?_
          | refine Cell.row ?_
          | refine Cell.buf ?_
          | refine Cells.row rfl ?_
          | refine Put.row rfl ?_
          | refine Put.buf rfl ?_
          | refine Look.at1 ?_
          | refine Look.at2 ?_
          | refine Look.at3 ?_
          | refine Look.at4 ?_
          | refine Look.at5 ?_
          | refine Look.at6 ?_
          | refine Look.at7 ?_
          | refine Look.at8 ?_
          | with_reducible refine Val.i64 (by omega) (by omega) ?_
          | with_reducible refine Val.u8 (by omega) (by omega) ?_
          | with_reducible refine Val.u32 (by omega) (by omega) ?_
          | with_reducible refine Val.u64 (by omega) (by omega) ?_
          | with_reducible refine Val.u8m ?_
          | with_reducible refine Val.u32m ?_
          | with_reducible refine Val.u64m ?_
          | with_reducible refine Val.shr8 ?_
          | with_reducible refine Val.shr16 (by decide) ?_
          | with_reducible refine Val.shr24 (by decide) ?_
          | with_reducible refine Val.raw ?_
          | refine Branch.not ?_
          | refine Branch.and ?_
          | refine Branch.or ?_
          | refine Branch.dt (by assumption) ?_
          | refine Branch.df (by assumption) ?_
          | refine Branch.dt rfl ?_
          | refine Branch.dt (by omega) ?_
          | refine Branch.df (by omega) ?_
          | refine Branch.t rfl ?_
          | refine Branch.f rfl ?_
          | refine Branch.t (by assumption) ?_
          | refine Branch.f (by assumption) ?_
          | refine Branch.d (fun _ => ?_) (fun _ => ?_)
          | refine Branch.mk (fun _ => ?_) (fun _ => ?_)
          | refine Need.mk (by first | omega | decide | rfl) ?_
          | refine Idx.nat (by omega) ?_
          | refine Idx.auto (by first | omega | decide) (by first | omega | decide) ?_
          | refine Cell.ro rfl ?_
          | refine SDraw.all (by kernel_rfl) ?_
          | refine Kept.k0 ?_
          | refine Kept.k1 ?_
          | refine Kept.k2 ?_
          | refine Kept.k3 ?_
          | refine Kept.k4 ?_))
      all_goals (conv => whnf)
      all_goals first | exact Keep.all rfl | trace_state
    · rw [e1, e2]
      by_cases hk2 : (k : Int) + 1 < 2500
      all_goals
        repeat' ((conv => whnf); (first
            | refine c9F hin (fun q c hq hc => ?_)
            | refine SCalls.atList [_] (c16 hlen (fun h0 => by rw [h1] at h0; cases h0) (fun x hx => ?_))
            | refine Branch.df (by omega) ?_
            | refine Branch.dt (by omega) ?_
            | refine Branch.t (by simp; omega) ?_
            | refine live_c ?_
            | refine New.mk (fun _ => ?_)
            | refine Look.at0 ?_
            | refine Cell.row ?_
            | refine Cell.buf ?_
            | refine Cells.row rfl ?_
            | refine Put.row rfl ?_
            | refine Put.buf rfl ?_
            | refine Look.at1 ?_
            | refine Look.at2 ?_
            | refine Look.at3 ?_
            | refine Look.at4 ?_
            | refine Look.at5 ?_
            | refine Look.at6 ?_
            | refine Look.at7 ?_
            | refine Look.at8 ?_
            | with_reducible refine Val.i64 (by omega) (by omega) ?_
            | with_reducible refine Val.u8 (by omega) (by omega) ?_
            | with_reducible refine Val.u32 (by omega) (by omega) ?_
            | with_reducible refine Val.u64 (by omega) (by omega) ?_
            | with_reducible refine Val.u8m ?_
            | with_reducible refine Val.u32m ?_
            | with_reducible refine Val.u64m ?_
            | with_reducible refine Val.shr8 ?_
            | with_reducible refine Val.shr16 (by decide) ?_
            | with_reducible refine Val.shr24 (by decide) ?_
            | with_reducible refine Val.raw ?_
            | refine Branch.not ?_
            | refine Branch.and ?_
            | refine Branch.or ?_
            | refine Branch.dt (by assumption) ?_
            | refine Branch.df (by assumption) ?_
            | refine Branch.dt rfl ?_
            | refine Branch.dt (by omega) ?_
            | refine Branch.df (by omega) ?_
            | refine Branch.t rfl ?_
            | refine Branch.f rfl ?_
            | refine Branch.t (by assumption) ?_
            | refine Branch.f (by assumption) ?_
            | refine Branch.d (fun _ => ?_) (fun _ => ?_)
            | refine Branch.mk (fun _ => ?_) (fun _ => ?_)
            | refine Need.mk (by first | omega | decide | rfl) ?_
            | refine Idx.nat (by omega) ?_
            | refine Idx.auto (by first | omega | decide) (by first | omega | decide) ?_
            | refine Cell.ro rfl ?_
            | refine SDraw.all (by kernel_rfl) ?_
            | refine Kept.k0 ?_
            | refine Kept.k1 ?_
            | refine Kept.k2 ?_
            | refine Kept.k3 ?_
            | refine Kept.k4 ?_))
      all_goals (conv => whnf)
      all_goals first | exact Keep.all rfl | trace_state
theorem FlyingSlotsW (a0x0a : Option Addr) (a0x0l : Nat) (a0x0c : Nat) (a0x1 : Int) (a0x2 : Int) (w : World) (h0_0 : SliceAt 3 B30 R30 w a0x0a a0x0l a0x0c) (h0_1 : (Lit.int .u64 a0x1).wf = true) (h0_2 : (Lit.int .u64 a0x2).wf = true) :
    Calls Try.prog 4 #[.agg #[.slice a0x0a a0x0l a0x0c, .int .u64 a0x1, .int .u64 a0x2]] w fun e w' => e = .returned (.bool true) ∧ Go.RowKit.Below w.heap.size w w' := by
  obtain ⟨H, L, rfl, hin, hw, hx⟩ := inL_of h0_0
  exact (slots_sc hin a0x1 a0x2 (wf_u64 h0_1) (wf_u64 h0_2)).fin w hw hx
end Go.Proofs.Ytmakaofdpoiaaaa
