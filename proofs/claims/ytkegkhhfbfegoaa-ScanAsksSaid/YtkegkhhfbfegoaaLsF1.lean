/- Layer 19: how a selection ends: plain laws. -/
import Derived.Test.YtkegkhhfbfegoaaLsD
set_option linter.unusedVariables false
set_option linter.unusedSimpArgs false
set_option maxRecDepth 100000
set_option maxHeartbeats 4000000
namespace Go.Proofs.Ytkegkhhfbfegoaa.Ls
open Go.Proofs.Ytkegkhhfbfegoaa Go.Proofs.Ytkegkhhfbfegoaa.Sx
theorem bitOr_add (i a b : Nat) (ha : a < 2 ^ i) (h : a + b * 2 ^ i < 4294967296) : bitOr .u32 (a : Int) ((b : Int) * 2 ^ i) = (a : Int) + (b : Int) * 2 ^ i := by
  have ec : ((b : Int) * 2 ^ i) = ((b * 2 ^ i : Nat) : Int) := by rw [Int.natCast_mul, Int.natCast_pow]; rfl
  rw [ec]
  have e1 : (BitVec.ofInt IntKind.u32.bits (a : Int)).toNat = a := by
    show (BitVec.ofInt 32 (a : Int)).toNat = a
    rw [BitVec.ofInt_natCast, BitVec.toNat_ofNat, Nat.mod_eq_of_lt (by generalize b * 2 ^ i = z at h; omega)]
  have e2 : (BitVec.ofInt IntKind.u32.bits ((b * 2 ^ i : Nat) : Int)).toNat = b * 2 ^ i := by
    show (BitVec.ofInt 32 ((b * 2 ^ i : Nat) : Int)).toNat = b * 2 ^ i
    rw [BitVec.ofInt_natCast, BitVec.toNat_ofNat, Nat.mod_eq_of_lt (by generalize b * 2 ^ i = z at h ⊢; omega)]
  unfold bitOr
  rw [wrap_u32, BitVec.toNat_or, e1, e2, Nat.or_comm, ← Nat.shiftLeft_eq, ← Nat.shiftLeft_add_eq_or_of_lt ha, Nat.shiftLeft_eq]
  generalize b * 2 ^ i = z at h ⊢
  omega
theorem bitOr_int (i : Nat) (a b : Int) (ha0 : 0 ≤ a) (hb0 : 0 ≤ b) (ha : a < 2 ^ i) (h : a + b * 2 ^ i < 4294967296) : bitOr .u32 a (b * 2 ^ i) = a + b * 2 ^ i := by
  obtain ⟨a, rfl⟩ := Int.eq_ofNat_of_zero_le ha0
  obtain ⟨b, rfl⟩ := Int.eq_ofNat_of_zero_le hb0
  exact bitOr_add i a b (Int.ofNat_lt.1 (by rw [Int.natCast_pow]; exact ha)) (Int.ofNat_lt.1 (by rw [Int.natCast_add, Int.natCast_mul, Int.natCast_pow]; exact h))
theorem numQ_of (n : Int) (h : 0 ≤ n ∧ n ≤ 4294967295) : numQ (n % 256) (n / 256 % 256) (n / 65536 % 256) (n / 16777216) = n := by
  obtain ⟨h0, h1⟩ := h
  unfold numQ
  rw [bitOr_int 8 (n % 256) (n / 256 % 256) (by omega) (by omega) (by omega) (by omega), bitOr_int 16 _ (n / 65536 % 256) (by omega) (by omega) (by omega) (by omega), bitOr_int 24 _ (n / 16777216) (by omega) (by omega) (by omega) (by omega)]
  omega
section
variable {K : Value → Heap → Prop} {g p : Nat} (l : L)
theorem c10g (sp : Option Addr) (h : K (.int .i64 l.mode) [(g, l.row sp)]) : SCalls Try.prog 26 [.pointer (some ⟨g, 0, none⟩)] [(g, l.row sp)] K := by
  obtain ⟨a0, a1, a2, a3, pid, pr, uid, ur, mode, taken, looks, st, fails⟩ := l
  dsimp only [L.row] at h ⊢
  refine enter26 ?_
  repeat' ((conv => whnf); (first
      | refine New.mk (fun _ => ?_)
      | refine Look.at0 ?_
      | refine Cell.row ?_
      | refine Cell.buf ?_
      | refine Cells.row rfl ?_
      | refine Put.row rfl ?_
      | refine Put.buf rfl ?_
      | refine Look.at1 ?_
      | refine Look.at2 ?_
      | refine Look.at3 ?_
      | refine Look.at4 ?_
      | refine Look.at5 ?_
      | refine Look.at6 ?_
      | refine Look.at7 ?_
      | refine Look.at8 ?_
      | with_reducible refine Val.i64 (by omega) (by omega) ?_
      | with_reducible refine Val.u8 (by omega) (by omega) ?_
      | with_reducible refine Val.u32 (by omega) (by omega) ?_
      | with_reducible refine Val.u64 (by omega) (by omega) ?_
      | with_reducible refine Val.u8m ?_
      | with_reducible refine Val.u32m ?_
      | with_reducible refine Val.u64m ?_
      | with_reducible refine Val.shr8 ?_
      | with_reducible refine Val.shr16 (by decide) ?_
      | with_reducible refine Val.shr24 (by decide) ?_
      | with_reducible refine Val.raw ?_
      | refine Branch.not ?_
      | refine Branch.and ?_
      | refine Branch.or ?_
      | refine Branch.dt (by assumption) ?_
      | refine Branch.df (by assumption) ?_
      | refine Branch.dt rfl ?_
      | refine Branch.dt (by omega) ?_
      | refine Branch.df (by omega) ?_
      | refine Branch.t rfl ?_
      | refine Branch.f rfl ?_
      | refine Branch.t (by assumption) ?_
      | refine Branch.f (by assumption) ?_
      | refine Branch.d (fun _ => ?_) (fun _ => ?_)
      | refine Branch.mk (fun _ => ?_) (fun _ => ?_)
      | refine Need.mk (by first | omega | decide | rfl) ?_
      | refine Idx.nat (by omega) ?_
      | refine Idx.auto (by first | omega | decide) (by first | omega | decide) ?_
      | refine Cell.ro rfl ?_
      | refine SDraw.all (by kernel_rfl) ?_
      | refine Kept.k0 ?_
      | refine Kept.k1 ?_
      | refine Kept.k2 ?_
      | refine Kept.k3 ?_
      | refine Kept.k4 ?_))
  all_goals (conv => whnf)
  all_goals exact Keep.all h
end
theorem c7n {H : Heap} {K : Value → Heap → Prop} (a0 a1 a2 a3 id : Int) (hid : 0 ≤ id ∧ id ≤ 127) (h : ∀ g, K (.tuple ⟨[.pointer (some ⟨g, 0, none⟩), .int .i64 0]⟩) ((g, (⟨a0, a1, a2, a3, id, 0, id, 0, 0, 0, 0, none, false⟩ : L).row none) :: H)) :
    SCalls Try.prog 15 [.agg ⟨[.int .u32 a0, .int .u32 a1, .int .u32 a2, .int .u32 a3]⟩, .int .i64 id] H K := c7 a0 a1 a2 a3 id hid fun g _ => h g
theorem take_sel {l : L} (hm : l.mode = 0) (c k n : Int) (hc : c = 64 + k) (hk : 0 ≤ k ∧ k ≤ 3) (hn : 0 ≤ n ∧ n ≤ 4294967295) :
    l.take ⟨c, n % 256, n / 256 % 256, n / 65536 % 256, n / 16777216, 0, 0, 0⟩ = l.selects k n := by
  unfold L.take
  dsimp only
  rw [numQ_of n hn, if_neg (by omega), if_neg (by omega), if_pos (by omega), show c - 64 = k by omega]
theorem q_ok (c n : Int) (hc : 0 ≤ c ∧ c ≤ 255) (hn : 0 ≤ n ∧ n ≤ 4294967295) : (⟨c, n % 256, n / 256 % 256, n / 65536 % 256, n / 16777216, 0, 0, 0⟩ : Q).Ok := by
  constructor <;> (dsimp only; omega)
def lM (x0 x1 x2 x3 t m : Int) : L := ⟨x0, x1, x2, x3, 0, 0, 0, 0, m, t, 0, none, false⟩
theorem lM_ok {x0 x1 x2 x3 t m : Int} (r0 : 0 ≤ x0 ∧ x0 ≤ 4294967295) (r1 : 0 ≤ x1 ∧ x1 ≤ 4294967295) (r2 : 0 ≤ x2 ∧ x2 ≤ 4294967295) (r3 : 0 ≤ x3 ∧ x3 ≤ 4294967295) (ht : 0 ≤ t ∧ t ≤ 3) (hm : m = 0 ∨ m = 1) : (lM x0 x1 x2 x3 t m).Ok :=
  ⟨⟨Int.le_refl 0, by show (0 : Int) ≤ 3; decide⟩, ht, hm, r0, r1, r2, r3, ⟨Int.le_refl 0, by show (0 : Int) ≤ 127; decide⟩, ⟨Int.le_refl 0, by show (0 : Int) ≤ 127; decide⟩⟩
theorem sel_all {x0 x1 x2 x3 : Int} (a0 a1 a2 a3 : Int) (r0 : 0 ≤ x0 ∧ x0 ≤ 4294967295) (r1 : 0 ≤ x1 ∧ x1 ≤ 4294967295) (r2 : 0 ≤ x2 ∧ x2 ≤ 4294967295) (r3 : 0 ≤ x3 ∧ x3 ≤ 4294967295) :
    ∃ l1 l2 l3 l4 : L, ∃ a4 : A, (lM x0 x1 x2 x3 0 0).selects 0 a0 = (.no, l1) ∧ l1.selects 1 a1 = (.no, l2) ∧ l2.selects 2 a2 = (.no, l3) ∧ l3.selects 3 a3 = (a4, l4) ∧ l1.Ok ∧ l2.Ok ∧ l3.Ok ∧ l1.mode = 0 ∧ l2.mode = 0 ∧ l3.mode = 0 ∧
      ((x0 = a0 ∧ x1 = a1 ∧ x2 = a2 ∧ x3 = a3 ∧ a4 = .one 68 0 ∧ l4.mode = 1) ∨ (¬ (x0 = a0 ∧ x1 = a1 ∧ x2 = a2 ∧ x3 = a3) ∧ a4 = .no ∧ l4.mode = 0)) := by
  refine ⟨lM x0 x1 x2 x3 (if x0 = a0 then 1 else 0) 0, lM x0 x1 x2 x3 (if x0 = a0 ∧ x1 = a1 then 2 else 0) 0, lM x0 x1 x2 x3 (if x0 = a0 ∧ x1 = a1 ∧ x2 = a2 then 3 else 0) 0, lM x0 x1 x2 x3 0 (if x0 = a0 ∧ x1 = a1 ∧ x2 = a2 ∧ x3 = a3 then 1 else 0), if x0 = a0 ∧ x1 = a1 ∧ x2 = a2 ∧ x3 = a3 then .one 68 0 else .no,
    ?_, ?_, ?_, ?_, lM_ok r0 r1 r2 r3 (by split <;> decide) (.inl rfl), lM_ok r0 r1 r2 r3 (by split <;> decide) (.inl rfl), lM_ok r0 r1 r2 r3 (by split <;> decide) (.inl rfl), rfl, rfl, rfl, ?_⟩
  · by_cases h0 : x0 = a0 <;> simp [lM, L.selects, L.adr, adrOf, h0]
  · by_cases h0 : x0 = a0 <;> by_cases h1 : x1 = a1 <;> simp [lM, L.selects, L.adr, adrOf, h0, h1]
  · by_cases h0 : x0 = a0 <;> by_cases h1 : x1 = a1 <;> by_cases h2 : x2 = a2 <;> simp [lM, L.selects, L.adr, adrOf, h0, h1, h2]
  · by_cases h0 : x0 = a0 <;> by_cases h1 : x1 = a1 <;> by_cases h2 : x2 = a2 <;> by_cases h3 : x3 = a3 <;> simp [lM, L.selects, L.adr, adrOf, h0, h1, h2, h3]
  · by_cases h : x0 = a0 ∧ x1 = a1 ∧ x2 = a2 ∧ x3 = a3
    · refine .inl ⟨h.1, h.2.1, h.2.2.1, h.2.2.2, if_pos h, ?_⟩
      show (if x0 = a0 ∧ x1 = a1 ∧ x2 = a2 ∧ x3 = a3 then (1 : Int) else 0) = 1
      exact if_pos h
    · refine .inr ⟨h, if_neg h, ?_⟩
      show (if x0 = a0 ∧ x1 = a1 ∧ x2 = a2 ∧ x3 = a3 then (1 : Int) else 0) = 0
      exact if_neg h

end Go.Proofs.Ytkegkhhfbfegoaa.Ls
