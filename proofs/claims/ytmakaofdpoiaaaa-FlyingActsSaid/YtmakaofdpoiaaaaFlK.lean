/- Layer 24: within how many ticks there is a master: by walks. -/
import Derived.Test.YtmakaofdpoiaaaaFlJ
set_option linter.unusedVariables false
set_option linter.unusedSimpArgs false
set_option maxRecDepth 100000
set_option maxHeartbeats 4000000
namespace Go.Proofs.Ytmakaofdpoiaaaa
open Sx
theorem Val.mask32 {a : Int} {K : Int → Prop} (h0 : 0 ≤ a) (h1 : a ≤ 18446744073709551615) (h : K (a % 4294967296)) : Val (bitAnd .u64 a 4294967295) K := by
  refine ⟨_, ?_, h⟩
  obtain ⟨n, rfl⟩ := Int.eq_ofNat_of_zero_le h0
  have e1 : (BitVec.ofInt IntKind.u64.bits (n : Int)).toNat = n := by
    show (BitVec.ofInt 64 (n : Int)).toNat = n
    rw [BitVec.ofInt_natCast, BitVec.toNat_ofNat, Nat.mod_eq_of_lt (by omega)]
  have e2 : (BitVec.ofInt IntKind.u64.bits 4294967295).toNat = 2 ^ 32 - 1 := by rfl
  unfold bitAnd
  rw [wrap_u64, BitVec.toNat_and, e1, e2, Nat.and_two_pow_sub_one_eq_mod]
  omega
section
variable {K : Value → Heap → Prop}
theorem shr32 {a : Int} : shrI .u64 a 32 = a / 4294967296 := by
  unfold shrI
  rw [show min (32 : Int).toNat IntKind.u64.bits = 32 from rfl, Int.fdiv_eq_ediv_of_nonneg _ (by decide)]; rfl
theorem mask32 {a : Int} (h0 : 0 ≤ a) (h1 : a ≤ 18446744073709551615) : bitAnd .u64 a 4294967295 = a % 4294967296 := by
  obtain ⟨m, e, h⟩ := Val.mask32 (K := fun m => m = a % 4294967296) h0 h1 rfl
  exact e.trans h
theorem wrapU {a : Int} (h0 : 0 ≤ a) (h1 : a ≤ 18446744073709551615) : IntKind.u64.wrap a = a := by rw [wrap_u64]; omega
theorem c36 {H : Heap} (x : Int) (hx : 0 ≤ x ∧ x ≤ 18446744073709551615) (hk : K (.tuple ⟨[.int .u64 (384 * x / 18446744073709551616), .int .u64 (384 * x % 18446744073709551616)]⟩) H) : SCalls Try.prog 36 [.int .u64 x, .int .u64 384] H K := by
  obtain ⟨h, l, e, hh, hl⟩ : ∃ h l : Int, x = h * 4294967296 + l ∧ (0 ≤ h ∧ h ≤ 4294967295) ∧ 0 ≤ l ∧ l ≤ 4294967295 := ⟨x / 4294967296, x % 4294967296, by omega, by omega, by omega⟩
  obtain ⟨a, b, e2, ha, hb⟩ : ∃ a b : Int, l * 384 = a * 4294967296 + b ∧ (0 ≤ a ∧ a ≤ 384) ∧ 0 ≤ b ∧ b ≤ 4294967295 := ⟨l * 384 / 4294967296, l * 384 % 4294967296, by omega, by omega, by omega⟩
  obtain ⟨c, d, e3, hc, hd⟩ : ∃ c d : Int, h * 384 + a = c * 4294967296 + d ∧ (0 ≤ c ∧ c ≤ 384) ∧ 0 ≤ d ∧ d ≤ 4294967295 := ⟨(h * 384 + a) / 4294967296, (h * 384 + a) % 4294967296, by omega, by omega, by omega⟩
  have e15 : bitAnd .u64 x 4294967295 = l := by rw [mask32 hx.1 hx.2]; omega
  have e17 : shrI .u64 x 32 = h := by rw [shr32]; omega
  have e19 : bitAnd .u64 384 4294967295 = 384 := by rw [mask32 (by decide) (by decide)]; rfl
  have e21 : shrI .u64 384 32 = 0 := by rw [shr32]; rfl
  have e24 : IntKind.u64.wrap (l * 384) = l * 384 := wrapU (by omega) (by omega)
  have e27 : IntKind.u64.wrap (h * 384) = h * 384 := wrapU (by omega) (by omega)
  have e29 : shrI .u64 (l * 384) 32 = a := by rw [shr32]; omega
  have e30 : IntKind.u64.wrap (h * 384 + a) = h * 384 + a := wrapU (by omega) (by omega)
  have e32 : bitAnd .u64 (h * 384 + a) 4294967295 = d := by rw [mask32 (by omega) (by omega)]; omega
  have e34 : shrI .u64 (h * 384 + a) 32 = c := by rw [shr32]; omega
  have e38 : IntKind.u64.wrap (l * 0) = 0 := by rw [Int.mul_zero]; rfl
  have e39 : IntKind.u64.wrap (d + 0) = d := by rw [Int.add_zero]; exact wrapU (by omega) (by omega)
  have e42 : IntKind.u64.wrap (h * 0) = 0 := by rw [Int.mul_zero]; rfl
  have e44 : IntKind.u64.wrap (0 + c) = c := by rw [Int.zero_add]; exact wrapU (by omega) (by omega)
  have e46 : shrI .u64 d 32 = 0 := by rw [shr32]; omega
  have e47 : IntKind.u64.wrap (c + 0) = c := by rw [Int.add_zero]; exact wrapU (by omega) (by omega)
  have e50 : IntKind.u64.wrap (x * 384) = 384 * x % 18446744073709551616 := by rw [wrap_u64, Int.mul_comm]
  have ec : c = 384 * x / 18446744073709551616 := by omega
  rw [← ec] at hk
  refine SCalls.any (K := fun v N => v = .tuple ⟨[.int .u64 c, .int .u64 (384 * x % 18446744073709551616)]⟩ ∧ N = []) (enter36 ?_) (by rintro v N ⟨rfl, rfl⟩; exact hk)
  clear hk
  repeat' ((conv => whnf); (first
      | with_reducible refine ⟨_, e15, ?_⟩
      | with_reducible refine ⟨_, e17, ?_⟩
      | with_reducible refine ⟨_, e19, ?_⟩
      | with_reducible refine ⟨_, e21, ?_⟩
      | with_reducible refine ⟨_, e24, ?_⟩
      | with_reducible refine ⟨_, e27, ?_⟩
      | with_reducible refine ⟨_, e29, ?_⟩
      | with_reducible refine ⟨_, e30, ?_⟩
      | with_reducible refine ⟨_, e32, ?_⟩
      | with_reducible refine ⟨_, e34, ?_⟩
      | with_reducible refine ⟨_, e38, ?_⟩
      | with_reducible refine ⟨_, e39, ?_⟩
      | with_reducible refine ⟨_, e42, ?_⟩
      | with_reducible refine ⟨_, e44, ?_⟩
      | with_reducible refine ⟨_, e46, ?_⟩
      | with_reducible refine ⟨_, e47, ?_⟩
      | with_reducible refine ⟨_, e50, ?_⟩
      | refine New.mk (fun _ => ?_)
      | refine Look.at0 ?_
      | refine Cell.row ?_
      | refine Cell.buf ?_
      | refine Cells.row rfl ?_
      | refine Put.row rfl ?_
      | refine Put.buf rfl ?_
      | refine Look.at1 ?_
      | refine Look.at2 ?_
      | refine Look.at3 ?_
      | refine Look.at4 ?_
      | refine Look.at5 ?_
      | refine Look.at6 ?_
      | refine Look.at7 ?_
      | refine Look.at8 ?_
      | with_reducible refine Val.i64 (by omega) (by omega) ?_
      | with_reducible refine Val.u8 (by omega) (by omega) ?_
      | with_reducible refine Val.u32 (by omega) (by omega) ?_
      | with_reducible refine Val.u64 (by omega) (by omega) ?_
      | with_reducible refine Val.u8m ?_
      | with_reducible refine Val.u32m ?_
      | with_reducible refine Val.u64m ?_
      | with_reducible refine Val.shr8 ?_
      | with_reducible refine Val.shr16 (by decide) ?_
      | with_reducible refine Val.shr24 (by decide) ?_
      | with_reducible refine Val.raw ?_
      | refine Branch.not ?_
      | refine Branch.and ?_
      | refine Branch.or ?_
      | refine Branch.dt (by assumption) ?_
      | refine Branch.df (by assumption) ?_
      | refine Branch.dt rfl ?_
      | refine Branch.dt (by omega) ?_
      | refine Branch.df (by omega) ?_
      | refine Branch.t rfl ?_
      | refine Branch.f rfl ?_
      | refine Branch.t (by assumption) ?_
      | refine Branch.f (by assumption) ?_
      | refine Branch.d (fun _ => ?_) (fun _ => ?_)
      | refine Branch.mk (fun _ => ?_) (fun _ => ?_)
      | refine Need.mk (by first | omega | decide | rfl) ?_
      | refine Idx.nat (by omega) ?_
      | refine Idx.auto (by first | omega | decide) (by first | omega | decide) ?_
      | refine Cell.ro rfl ?_
      | refine SDraw.all (by kernel_rfl) ?_
      | refine Kept.k0 ?_
      | refine Kept.k1 ?_
      | refine Kept.k2 ?_
      | refine Kept.k3 ?_
      | refine Kept.k4 ?_))
  all_goals (conv => whnf)
  all_goals exact Keep.sub [] (List.nil_sublist _) ⟨rfl, rfl⟩
def boundF (slot lost : Int) : Int := if 18446744073709551615 < 384 * slot + lost + 2 then 18446744073709551615 else 384 * slot + lost + 2
theorem c18 {H : Heap} (s lo : Int) (hs : 0 ≤ s ∧ s ≤ 18446744073709551615) (hl : 0 ≤ lo ∧ lo ≤ 18446744073709551615) (h : K (.int .u64 (boundF s lo)) H) : SCalls Try.prog 18 [.int .u64 s, .int .u64 lo] H K := by
  refine SCalls.any (K := fun v N => v = .int .u64 (boundF s lo) ∧ N = []) (enter18 ?_) (by rintro v N ⟨rfl, rfl⟩; exact h)
  unfold boundF
  repeat' ((conv => whnf); (first
      | refine c36 s hs ?_
      | refine RawV.extern (fn := Try.f37) (e := add64Entry) rfl Try.func37 (by kernel_rfl) (by kernel_rfl) (by kernel_rfl) (by kernel_rfl) (fun w => run_add64 _ _ _ (by omega) (by omega) (by omega) (by omega) w) ?_
      | refine New.mk (fun _ => ?_)
      | refine Look.at0 ?_
      | refine Cell.row ?_
      | refine Cell.buf ?_
      | refine Cells.row rfl ?_
      | refine Put.row rfl ?_
      | refine Put.buf rfl ?_
      | refine Look.at1 ?_
      | refine Look.at2 ?_
      | refine Look.at3 ?_
      | refine Look.at4 ?_
      | refine Look.at5 ?_
      | refine Look.at6 ?_
      | refine Look.at7 ?_
      | refine Look.at8 ?_
      | with_reducible refine Val.i64 (by omega) (by omega) ?_
      | with_reducible refine Val.u8 (by omega) (by omega) ?_
      | with_reducible refine Val.u32 (by omega) (by omega) ?_
      | with_reducible refine Val.u64 (by omega) (by omega) ?_
      | with_reducible refine Val.u8m ?_
      | with_reducible refine Val.u32m ?_
      | with_reducible refine Val.u64m ?_
      | with_reducible refine Val.shr8 ?_
      | with_reducible refine Val.shr16 (by decide) ?_
      | with_reducible refine Val.shr24 (by decide) ?_
      | with_reducible refine Val.raw ?_
      | refine Branch.not ?_
      | refine Branch.and ?_
      | refine Branch.or ?_
      | refine Branch.dt (by assumption) ?_
      | refine Branch.df (by assumption) ?_
      | refine Branch.dt rfl ?_
      | refine Branch.dt (by omega) ?_
      | refine Branch.df (by omega) ?_
      | refine Branch.t rfl ?_
      | refine Branch.f rfl ?_
      | refine Branch.t (by assumption) ?_
      | refine Branch.f (by assumption) ?_
      | refine Branch.d (fun _ => ?_) (fun _ => ?_)
      | refine Branch.mk (fun _ => ?_) (fun _ => ?_)
      | refine Need.mk (by first | omega | decide | rfl) ?_
      | refine Idx.nat (by omega) ?_
      | refine Idx.auto (by first | omega | decide) (by first | omega | decide) ?_
      | refine Cell.ro rfl ?_
      | refine SDraw.all (by kernel_rfl) ?_
      | refine Kept.k0 ?_
      | refine Kept.k1 ?_
      | refine Kept.k2 ?_
      | refine Kept.k3 ?_
      | refine Kept.k4 ?_))
  all_goals (conv => whnf)
  all_goals first
    | (have hb : 18446744073709551615 < 384 * s + lo + 2 := by omega
       rw [if_pos hb]
       exact Keep.sub [] (List.nil_sublist _) ⟨rfl, rfl⟩)
    | (have hb : ¬ 18446744073709551615 < 384 * s + lo + 2 := by omega
       rw [if_neg hb]
       refine Keep.sub [] (List.nil_sublist _) ⟨?_, rfl⟩
       congr 1; omega)
    | (have hb : 18446744073709551615 < 384 * s + lo + 2 := by omega
       trace_state)
end
end Go.Proofs.Ytmakaofdpoiaaaa
