/- Ported (port.py) from WrP. -/
import Derived.Test.YtiaginlnapiijaaGreatDoorBMain1

set_option linter.unusedVariables false
set_option linter.unusedSimpArgs false
set_option maxRecDepth 100000
set_option maxHeartbeats 4000000
namespace Go.Proofs.YtiaginlnapiijaaGreatDoor
open Sx
abbrev uC (u : Un) : List Value := [zi (u.s : Int), zi (u.r : Int), .bool u.off, zi (u.idle : Int)]
abbrev uB (p : Nat) (u : Un) : Nat × Blk := (p, .row 114 (uC u) (0, 0))
theorem Put.un {t : TypeId} {pre c post : List Value} {N i : Nat} {v : Value} {K : Blk → Prop} (hi : i < c.length) (h : K (.buf t (pre ++ (c.set i v ++ post)) N)) : Put (.buf t (pre ++ (c ++ post)) N) (pre.length + i) [v] K := by
  refine ⟨_, PutOk.buf (cs' := pre ++ (c.set i v ++ post)) ?_ ?_, h⟩
  · simp; omega
  · show (pre ++ (c ++ post)).take (pre.length + i) ++ [v] ++ (pre ++ (c ++ post)).drop (pre.length + i + 1) = _
    rw [set_cut (by simp; omega), List.set_append_right _ _ (by omega), Nat.add_sub_cancel_left, List.set_append_left _ _ hi]
section
variable {K : Value → Heap → Prop} {H : Heap} {p : Nat} {u : Un}
theorem c70 (hm : uB p u ∈ H) (hK : K (zi u.st) H) : SCalls Tryz.prog 70 [ptr p] H K := by
  obtain ⟨s, r, off, idle⟩ := u
  unfold Un.st at hK
  dsimp only [uB, uC] at hm hK
  have g0 : (Blk.row 114 [zi (s : Int), zi (r : Int), .bool off, zi (idle : Int)] (0, 0)).cell 0 = some (zi (s : Int)) := rfl
  have g1 : (Blk.row 114 [zi (s : Int), zi (r : Int), .bool off, zi (idle : Int)] (0, 0)).cell 1 = some (zi (r : Int)) := rfl
  have g2 : (Blk.row 114 [zi (s : Int), zi (r : Int), .bool off, zi (idle : Int)] (0, 0)).cell 2 = some (.bool off) := rfl
  refine enter70 ?_
  cases off with
  | true =>
    have h : K (zi 2) H := hK
    clear hK
    repeat' ((conv => whnf); (first | refine Look.cell hm g2 ?_ | refine Branch.t rfl ?_ | exact Keep.all h | refine New.mk (fun _ => ?_) | refine Look.at0 ?_ | refine Cell.row ?_ | refine Cell.buf ?_ | refine Cells.row rfl ?_ | refine Put.row rfl ?_ | refine Put.buf rfl ?_ | refine Look.at1 ?_ | refine Look.at2 ?_ | refine Look.at3 ?_ | refine Look.at4 ?_ | refine Look.at5 ?_ | refine Look.at6 ?_ | refine Look.at7 ?_ | refine Look.at8 ?_ | with_reducible refine Val.i64 (by omega) (by omega) ?_ | with_reducible refine Val.u8 (by omega) (by omega) ?_ | with_reducible refine Val.u32 (by omega) (by omega) ?_ | with_reducible refine Val.u64 (by omega) (by omega) ?_ | with_reducible refine Val.u8m ?_ | with_reducible refine Val.u32m ?_ | with_reducible refine Val.u64m ?_ | with_reducible refine Val.shr8 ?_ | with_reducible refine Val.shr16 (by decide) ?_ | with_reducible refine Val.shr24 (by decide) ?_ | with_reducible refine Val.raw ?_ | refine Branch.not ?_ | refine Branch.and ?_ | refine Branch.or ?_ | refine Branch.dt (by assumption) ?_ | refine Branch.df (by assumption) ?_ | refine Branch.dt rfl ?_ | refine Branch.dt (by omega) ?_ | refine Branch.df (by omega) ?_ | refine Branch.t rfl ?_ | refine Branch.f rfl ?_ | refine Branch.t (by assumption) ?_ | refine Branch.f (by assumption) ?_ | refine Branch.d (fun _ => ?_) (fun _ => ?_) | refine Branch.mk (fun _ => ?_) (fun _ => ?_) | refine Need.mk (by first | omega | decide | rfl) ?_ | refine Idx.nat (by omega) ?_ | refine Idx.auto (by first | omega | decide) (by first | omega | decide) ?_ | refine Cell.ro rfl ?_ | refine SDraw.all (by kernel_rfl) ?_ | refine Kept.k0 ?_ | refine Kept.k1 ?_ | refine Kept.k2 ?_ | refine Kept.k3 ?_ | refine Kept.k4 ?_))
  | false =>
    by_cases h1 : 127 < s ∨ 127 < r
    · have h : K (zi 1) H := by simpa [h1] using hK
      clear hK
      repeat' ((conv => whnf); (first | refine Look.cell hm g2 ?_ | refine Look.cell hm g0 ?_ | refine Look.cell hm g1 ?_ | refine Branch.f rfl ?_ | refine RawV.max2 (m := if (s : Int) < (r : Int) then (r : Int) else (s : Int)) rfl rfl ?_ | refine Branch.dt (by split <;> omega) ?_ | exact Keep.all h | refine New.mk (fun _ => ?_) | refine Look.at0 ?_ | refine Cell.row ?_ | refine Cell.buf ?_ | refine Cells.row rfl ?_ | refine Put.row rfl ?_ | refine Put.buf rfl ?_ | refine Look.at1 ?_ | refine Look.at2 ?_ | refine Look.at3 ?_ | refine Look.at4 ?_ | refine Look.at5 ?_ | refine Look.at6 ?_ | refine Look.at7 ?_ | refine Look.at8 ?_ | with_reducible refine Val.i64 (by omega) (by omega) ?_ | with_reducible refine Val.u8 (by omega) (by omega) ?_ | with_reducible refine Val.u32 (by omega) (by omega) ?_ | with_reducible refine Val.u64 (by omega) (by omega) ?_ | with_reducible refine Val.u8m ?_ | with_reducible refine Val.u32m ?_ | with_reducible refine Val.u64m ?_ | with_reducible refine Val.shr8 ?_ | with_reducible refine Val.shr16 (by decide) ?_ | with_reducible refine Val.shr24 (by decide) ?_ | with_reducible refine Val.raw ?_ | refine Branch.not ?_ | refine Branch.and ?_ | refine Branch.or ?_ | refine Branch.dt (by assumption) ?_ | refine Branch.df (by assumption) ?_ | refine Branch.dt rfl ?_ | refine Branch.dt (by omega) ?_ | refine Branch.df (by omega) ?_ | refine Branch.t rfl ?_ | refine Branch.f rfl ?_ | refine Branch.t (by assumption) ?_ | refine Branch.f (by assumption) ?_ | refine Branch.d (fun _ => ?_) (fun _ => ?_) | refine Branch.mk (fun _ => ?_) (fun _ => ?_) | refine Need.mk (by first | omega | decide | rfl) ?_ | refine Idx.nat (by omega) ?_ | refine Idx.auto (by first | omega | decide) (by first | omega | decide) ?_ | refine Cell.ro rfl ?_ | refine SDraw.all (by kernel_rfl) ?_ | refine Kept.k0 ?_ | refine Kept.k1 ?_ | refine Kept.k2 ?_ | refine Kept.k3 ?_ | refine Kept.k4 ?_))
    · have h : K (zi 0) H := by simpa [h1] using hK
      clear hK
      repeat' ((conv => whnf); (first | refine Look.cell hm g2 ?_ | refine Look.cell hm g0 ?_ | refine Look.cell hm g1 ?_ | refine Branch.f rfl ?_ | refine RawV.max2 (m := if (s : Int) < (r : Int) then (r : Int) else (s : Int)) rfl rfl ?_ | refine Branch.df (by split <;> omega) ?_ | exact Keep.all h | refine New.mk (fun _ => ?_) | refine Look.at0 ?_ | refine Cell.row ?_ | refine Cell.buf ?_ | refine Cells.row rfl ?_ | refine Put.row rfl ?_ | refine Put.buf rfl ?_ | refine Look.at1 ?_ | refine Look.at2 ?_ | refine Look.at3 ?_ | refine Look.at4 ?_ | refine Look.at5 ?_ | refine Look.at6 ?_ | refine Look.at7 ?_ | refine Look.at8 ?_ | with_reducible refine Val.i64 (by omega) (by omega) ?_ | with_reducible refine Val.u8 (by omega) (by omega) ?_ | with_reducible refine Val.u32 (by omega) (by omega) ?_ | with_reducible refine Val.u64 (by omega) (by omega) ?_ | with_reducible refine Val.u8m ?_ | with_reducible refine Val.u32m ?_ | with_reducible refine Val.u64m ?_ | with_reducible refine Val.shr8 ?_ | with_reducible refine Val.shr16 (by decide) ?_ | with_reducible refine Val.shr24 (by decide) ?_ | with_reducible refine Val.raw ?_ | refine Branch.not ?_ | refine Branch.and ?_ | refine Branch.or ?_ | refine Branch.dt (by assumption) ?_ | refine Branch.df (by assumption) ?_ | refine Branch.dt rfl ?_ | refine Branch.dt (by omega) ?_ | refine Branch.df (by omega) ?_ | refine Branch.t rfl ?_ | refine Branch.f rfl ?_ | refine Branch.t (by assumption) ?_ | refine Branch.f (by assumption) ?_ | refine Branch.d (fun _ => ?_) (fun _ => ?_) | refine Branch.mk (fun _ => ?_) (fun _ => ?_) | refine Need.mk (by first | omega | decide | rfl) ?_ | refine Idx.nat (by omega) ?_ | refine Idx.auto (by first | omega | decide) (by first | omega | decide) ?_ | refine Cell.ro rfl ?_ | refine SDraw.all (by kernel_rfl) ?_ | refine Kept.k0 ?_ | refine Kept.k1 ?_ | refine Kept.k2 ?_ | refine Kept.k3 ?_ | refine Kept.k4 ?_))
theorem c45 (hm : uB p u ∈ H) (hK : K (zi u.st) H) : SCalls Tryz.prog 45 [ptr p] H K := by
  have h93 := c70 (K := K) hm hK
  have h93 : ∀ K2 : Value → Heap → Prop, K2 (zi u.st) H → SCalls Tryz.prog 70 [ptr p] H K2 := fun K2 hk => c70 hm hk
  generalize u.st = v at *
  refine enter45 ?_
  repeat' ((conv => whnf); (first | with_reducible refine h93 _ ?_ | exact Keep.all hK | refine New.mk (fun _ => ?_) | refine Look.at0 ?_ | refine Cell.row ?_ | refine Cell.buf ?_ | refine Cells.row rfl ?_ | refine Put.row rfl ?_ | refine Put.buf rfl ?_ | refine Look.at1 ?_ | refine Look.at2 ?_ | refine Look.at3 ?_ | refine Look.at4 ?_ | refine Look.at5 ?_ | refine Look.at6 ?_ | refine Look.at7 ?_ | refine Look.at8 ?_ | with_reducible refine Val.i64 (by omega) (by omega) ?_ | with_reducible refine Val.u8 (by omega) (by omega) ?_ | with_reducible refine Val.u32 (by omega) (by omega) ?_ | with_reducible refine Val.u64 (by omega) (by omega) ?_ | with_reducible refine Val.u8m ?_ | with_reducible refine Val.u32m ?_ | with_reducible refine Val.u64m ?_ | with_reducible refine Val.shr8 ?_ | with_reducible refine Val.shr16 (by decide) ?_ | with_reducible refine Val.shr24 (by decide) ?_ | with_reducible refine Val.raw ?_ | refine Branch.not ?_ | refine Branch.and ?_ | refine Branch.or ?_ | refine Branch.dt (by assumption) ?_ | refine Branch.df (by assumption) ?_ | refine Branch.dt rfl ?_ | refine Branch.dt (by omega) ?_ | refine Branch.df (by omega) ?_ | refine Branch.t rfl ?_ | refine Branch.f rfl ?_ | refine Branch.t (by assumption) ?_ | refine Branch.f (by assumption) ?_ | refine Branch.d (fun _ => ?_) (fun _ => ?_) | refine Branch.mk (fun _ => ?_) (fun _ => ?_) | refine Need.mk (by first | omega | decide | rfl) ?_ | refine Idx.nat (by omega) ?_ | refine Idx.auto (by first | omega | decide) (by first | omega | decide) ?_ | refine Cell.ro rfl ?_ | refine SDraw.all (by kernel_rfl) ?_ | refine Kept.k0 ?_ | refine Kept.k1 ?_ | refine Kept.k2 ?_ | refine Kept.k3 ?_ | refine Kept.k4 ?_))
theorem c17 (hK : ∀ p, K (ptr p) (uB p u0 :: H)) : SCalls Tryz.prog 17 [] H K := by
  refine enter17 (_u := undef) ?_
  repeat' ((conv => whnf); (first | exact Keep.all (hK _) | refine New.mk (fun _ => ?_) | refine Look.at0 ?_ | refine Cell.row ?_ | refine Cell.buf ?_ | refine Cells.row rfl ?_ | refine Put.row rfl ?_ | refine Put.buf rfl ?_ | refine Look.at1 ?_ | refine Look.at2 ?_ | refine Look.at3 ?_ | refine Look.at4 ?_ | refine Look.at5 ?_ | refine Look.at6 ?_ | refine Look.at7 ?_ | refine Look.at8 ?_ | with_reducible refine Val.i64 (by omega) (by omega) ?_ | with_reducible refine Val.u8 (by omega) (by omega) ?_ | with_reducible refine Val.u32 (by omega) (by omega) ?_ | with_reducible refine Val.u64 (by omega) (by omega) ?_ | with_reducible refine Val.u8m ?_ | with_reducible refine Val.u32m ?_ | with_reducible refine Val.u64m ?_ | with_reducible refine Val.shr8 ?_ | with_reducible refine Val.shr16 (by decide) ?_ | with_reducible refine Val.shr24 (by decide) ?_ | with_reducible refine Val.raw ?_ | refine Branch.not ?_ | refine Branch.and ?_ | refine Branch.or ?_ | refine Branch.dt (by assumption) ?_ | refine Branch.df (by assumption) ?_ | refine Branch.dt rfl ?_ | refine Branch.dt (by omega) ?_ | refine Branch.df (by omega) ?_ | refine Branch.t rfl ?_ | refine Branch.f rfl ?_ | refine Branch.t (by assumption) ?_ | refine Branch.f (by assumption) ?_ | refine Branch.d (fun _ => ?_) (fun _ => ?_) | refine Branch.mk (fun _ => ?_) (fun _ => ?_) | refine Need.mk (by first | omega | decide | rfl) ?_ | refine Idx.nat (by omega) ?_ | refine Idx.auto (by first | omega | decide) (by first | omega | decide) ?_ | refine Cell.ro rfl ?_ | refine SDraw.all (by kernel_rfl) ?_ | refine Kept.k0 ?_ | refine Kept.k1 ?_ | refine Kept.k2 ?_ | refine Kept.k3 ?_ | refine Kept.k4 ?_))
theorem c19 (hK : K (.tuple ⟨[]⟩) (uB p u0 :: H)) : SCalls Tryz.prog 19 [ptr p] (uB p u :: H) K := by
  refine enter19 ?_
  repeat' ((conv => whnf); (first | exact Keep.all hK | refine New.mk (fun _ => ?_) | refine Look.at0 ?_ | refine Cell.row ?_ | refine Cell.buf ?_ | refine Cells.row rfl ?_ | refine Put.row rfl ?_ | refine Put.buf rfl ?_ | refine Look.at1 ?_ | refine Look.at2 ?_ | refine Look.at3 ?_ | refine Look.at4 ?_ | refine Look.at5 ?_ | refine Look.at6 ?_ | refine Look.at7 ?_ | refine Look.at8 ?_ | with_reducible refine Val.i64 (by omega) (by omega) ?_ | with_reducible refine Val.u8 (by omega) (by omega) ?_ | with_reducible refine Val.u32 (by omega) (by omega) ?_ | with_reducible refine Val.u64 (by omega) (by omega) ?_ | with_reducible refine Val.u8m ?_ | with_reducible refine Val.u32m ?_ | with_reducible refine Val.u64m ?_ | with_reducible refine Val.shr8 ?_ | with_reducible refine Val.shr16 (by decide) ?_ | with_reducible refine Val.shr24 (by decide) ?_ | with_reducible refine Val.raw ?_ | refine Branch.not ?_ | refine Branch.and ?_ | refine Branch.or ?_ | refine Branch.dt (by assumption) ?_ | refine Branch.df (by assumption) ?_ | refine Branch.dt rfl ?_ | refine Branch.dt (by omega) ?_ | refine Branch.df (by omega) ?_ | refine Branch.t rfl ?_ | refine Branch.f rfl ?_ | refine Branch.t (by assumption) ?_ | refine Branch.f (by assumption) ?_ | refine Branch.d (fun _ => ?_) (fun _ => ?_) | refine Branch.mk (fun _ => ?_) (fun _ => ?_) | refine Need.mk (by first | omega | decide | rfl) ?_ | refine Idx.nat (by omega) ?_ | refine Idx.auto (by first | omega | decide) (by first | omega | decide) ?_ | refine Cell.ro rfl ?_ | refine SDraw.all (by kernel_rfl) ?_ | refine Kept.k0 ?_ | refine Kept.k1 ?_ | refine Kept.k2 ?_ | refine Kept.k3 ?_ | refine Kept.k4 ?_))
theorem c53 (hw : UnW u) (hK : ∀ b, K (.bool b) (uB p u.idl :: H)) : SCalls Tryz.prog 53 [ptr p, zi 1] (uB p u :: H) K := by
  obtain ⟨w1, w2, w3⟩ := hw
  obtain ⟨s, r, off, idle⟩ := u
  unfold Un.idl at hK
  dsimp only [uB, uC, u0] at w1 w2 w3 hK ⊢
  refine enter53 ?_
  cases off with
  | false =>
    rw [if_neg (by decide)] at hK
    repeat' ((conv => whnf); (first | refine Branch.t rfl ?_ | exact Keep.all (hK _) | refine New.mk (fun _ => ?_) | refine Look.at0 ?_ | refine Cell.row ?_ | refine Cell.buf ?_ | refine Cells.row rfl ?_ | refine Put.row rfl ?_ | refine Put.buf rfl ?_ | refine Look.at1 ?_ | refine Look.at2 ?_ | refine Look.at3 ?_ | refine Look.at4 ?_ | refine Look.at5 ?_ | refine Look.at6 ?_ | refine Look.at7 ?_ | refine Look.at8 ?_ | with_reducible refine Val.i64 (by omega) (by omega) ?_ | with_reducible refine Val.u8 (by omega) (by omega) ?_ | with_reducible refine Val.u32 (by omega) (by omega) ?_ | with_reducible refine Val.u64 (by omega) (by omega) ?_ | with_reducible refine Val.u8m ?_ | with_reducible refine Val.u32m ?_ | with_reducible refine Val.u64m ?_ | with_reducible refine Val.shr8 ?_ | with_reducible refine Val.shr16 (by decide) ?_ | with_reducible refine Val.shr24 (by decide) ?_ | with_reducible refine Val.raw ?_ | refine Branch.not ?_ | refine Branch.and ?_ | refine Branch.or ?_ | refine Branch.dt (by assumption) ?_ | refine Branch.df (by assumption) ?_ | refine Branch.dt rfl ?_ | refine Branch.dt (by omega) ?_ | refine Branch.df (by omega) ?_ | refine Branch.t rfl ?_ | refine Branch.f rfl ?_ | refine Branch.t (by assumption) ?_ | refine Branch.f (by assumption) ?_ | refine Branch.d (fun _ => ?_) (fun _ => ?_) | refine Branch.mk (fun _ => ?_) (fun _ => ?_) | refine Need.mk (by first | omega | decide | rfl) ?_ | refine Idx.nat (by omega) ?_ | refine Idx.auto (by first | omega | decide) (by first | omega | decide) ?_ | refine Cell.ro rfl ?_ | refine SDraw.all (by kernel_rfl) ?_ | refine Kept.k0 ?_ | refine Kept.k1 ?_ | refine Kept.k2 ?_ | refine Kept.k3 ?_ | refine Kept.k4 ?_))
  | true =>
    rw [if_pos rfl] at hK
    by_cases h1 : idle + 1 < 128
    · rw [if_pos h1] at hK
      have h := hK false
      rw [show ((idle + 1 : Nat) : Int) = (idle : Int) + 1 from rfl] at h
      repeat' ((conv => whnf); (first | refine Branch.f rfl ?_ | refine RawV.max2 (m := 1) rfl rfl ?_ | refine RawV.min2 (m := 1) rfl rfl ?_ | refine Branch.dt (by omega) ?_ | exact Keep.all h | refine New.mk (fun _ => ?_) | refine Look.at0 ?_ | refine Cell.row ?_ | refine Cell.buf ?_ | refine Cells.row rfl ?_ | refine Put.row rfl ?_ | refine Put.buf rfl ?_ | refine Look.at1 ?_ | refine Look.at2 ?_ | refine Look.at3 ?_ | refine Look.at4 ?_ | refine Look.at5 ?_ | refine Look.at6 ?_ | refine Look.at7 ?_ | refine Look.at8 ?_ | with_reducible refine Val.i64 (by omega) (by omega) ?_ | with_reducible refine Val.u8 (by omega) (by omega) ?_ | with_reducible refine Val.u32 (by omega) (by omega) ?_ | with_reducible refine Val.u64 (by omega) (by omega) ?_ | with_reducible refine Val.u8m ?_ | with_reducible refine Val.u32m ?_ | with_reducible refine Val.u64m ?_ | with_reducible refine Val.shr8 ?_ | with_reducible refine Val.shr16 (by decide) ?_ | with_reducible refine Val.shr24 (by decide) ?_ | with_reducible refine Val.raw ?_ | refine Branch.not ?_ | refine Branch.and ?_ | refine Branch.or ?_ | refine Branch.dt (by assumption) ?_ | refine Branch.df (by assumption) ?_ | refine Branch.dt rfl ?_ | refine Branch.dt (by omega) ?_ | refine Branch.df (by omega) ?_ | refine Branch.t rfl ?_ | refine Branch.f rfl ?_ | refine Branch.t (by assumption) ?_ | refine Branch.f (by assumption) ?_ | refine Branch.d (fun _ => ?_) (fun _ => ?_) | refine Branch.mk (fun _ => ?_) (fun _ => ?_) | refine Need.mk (by first | omega | decide | rfl) ?_ | refine Idx.nat (by omega) ?_ | refine Idx.auto (by first | omega | decide) (by first | omega | decide) ?_ | refine Cell.ro rfl ?_ | refine SDraw.all (by kernel_rfl) ?_ | refine Kept.k0 ?_ | refine Kept.k1 ?_ | refine Kept.k2 ?_ | refine Kept.k3 ?_ | refine Kept.k4 ?_))
    · rw [if_neg h1] at hK
      repeat' ((conv => whnf); (first | refine Branch.f rfl ?_ | refine RawV.max2 (m := 1) rfl rfl ?_ | refine RawV.min2 (m := 1) rfl rfl ?_ | refine Branch.df (by omega) ?_ | exact Keep.all (hK _) | refine New.mk (fun _ => ?_) | refine Look.at0 ?_ | refine Cell.row ?_ | refine Cell.buf ?_ | refine Cells.row rfl ?_ | refine Put.row rfl ?_ | refine Put.buf rfl ?_ | refine Look.at1 ?_ | refine Look.at2 ?_ | refine Look.at3 ?_ | refine Look.at4 ?_ | refine Look.at5 ?_ | refine Look.at6 ?_ | refine Look.at7 ?_ | refine Look.at8 ?_ | with_reducible refine Val.i64 (by omega) (by omega) ?_ | with_reducible refine Val.u8 (by omega) (by omega) ?_ | with_reducible refine Val.u32 (by omega) (by omega) ?_ | with_reducible refine Val.u64 (by omega) (by omega) ?_ | with_reducible refine Val.u8m ?_ | with_reducible refine Val.u32m ?_ | with_reducible refine Val.u64m ?_ | with_reducible refine Val.shr8 ?_ | with_reducible refine Val.shr16 (by decide) ?_ | with_reducible refine Val.shr24 (by decide) ?_ | with_reducible refine Val.raw ?_ | refine Branch.not ?_ | refine Branch.and ?_ | refine Branch.or ?_ | refine Branch.dt (by assumption) ?_ | refine Branch.df (by assumption) ?_ | refine Branch.dt rfl ?_ | refine Branch.dt (by omega) ?_ | refine Branch.df (by omega) ?_ | refine Branch.t rfl ?_ | refine Branch.f rfl ?_ | refine Branch.t (by assumption) ?_ | refine Branch.f (by assumption) ?_ | refine Branch.d (fun _ => ?_) (fun _ => ?_) | refine Branch.mk (fun _ => ?_) (fun _ => ?_) | refine Need.mk (by first | omega | decide | rfl) ?_ | refine Idx.nat (by omega) ?_ | refine Idx.auto (by first | omega | decide) (by first | omega | decide) ?_ | refine Cell.ro rfl ?_ | refine SDraw.all (by kernel_rfl) ?_ | refine Kept.k0 ?_ | refine Kept.k1 ?_ | refine Kept.k2 ?_ | refine Kept.k3 ?_ | refine Kept.k4 ?_))
theorem c54 (hw : UnW u) (hK : K (.tuple ⟨[]⟩) (uB p u.sent :: H)) : SCalls Tryz.prog 54 [ptr p] (uB p u :: H) K := by
  obtain ⟨w1, w2, w3⟩ := hw
  obtain ⟨s, r, off, idle⟩ := u
  unfold Un.sent at hK
  dsimp only [uB, uC] at w1 w2 w3 hK ⊢
  refine enter54 ?_
  cases off with
  | true =>
    rw [if_pos rfl] at hK
    repeat' ((conv => whnf); (first | refine Branch.f rfl ?_ | exact Keep.all hK | refine New.mk (fun _ => ?_) | refine Look.at0 ?_ | refine Cell.row ?_ | refine Cell.buf ?_ | refine Cells.row rfl ?_ | refine Put.row rfl ?_ | refine Put.buf rfl ?_ | refine Look.at1 ?_ | refine Look.at2 ?_ | refine Look.at3 ?_ | refine Look.at4 ?_ | refine Look.at5 ?_ | refine Look.at6 ?_ | refine Look.at7 ?_ | refine Look.at8 ?_ | with_reducible refine Val.i64 (by omega) (by omega) ?_ | with_reducible refine Val.u8 (by omega) (by omega) ?_ | with_reducible refine Val.u32 (by omega) (by omega) ?_ | with_reducible refine Val.u64 (by omega) (by omega) ?_ | with_reducible refine Val.u8m ?_ | with_reducible refine Val.u32m ?_ | with_reducible refine Val.u64m ?_ | with_reducible refine Val.shr8 ?_ | with_reducible refine Val.shr16 (by decide) ?_ | with_reducible refine Val.shr24 (by decide) ?_ | with_reducible refine Val.raw ?_ | refine Branch.not ?_ | refine Branch.and ?_ | refine Branch.or ?_ | refine Branch.dt (by assumption) ?_ | refine Branch.df (by assumption) ?_ | refine Branch.dt rfl ?_ | refine Branch.dt (by omega) ?_ | refine Branch.df (by omega) ?_ | refine Branch.t rfl ?_ | refine Branch.f rfl ?_ | refine Branch.t (by assumption) ?_ | refine Branch.f (by assumption) ?_ | refine Branch.d (fun _ => ?_) (fun _ => ?_) | refine Branch.mk (fun _ => ?_) (fun _ => ?_) | refine Need.mk (by first | omega | decide | rfl) ?_ | refine Idx.nat (by omega) ?_ | refine Idx.auto (by first | omega | decide) (by first | omega | decide) ?_ | refine Cell.ro rfl ?_ | refine SDraw.all (by kernel_rfl) ?_ | refine Kept.k0 ?_ | refine Kept.k1 ?_ | refine Kept.k2 ?_ | refine Kept.k3 ?_ | refine Kept.k4 ?_))
  | false =>
    rw [if_neg (by decide)] at hK
    repeat' ((conv => whnf); (first | refine Branch.t rfl ?_ | refine RawV.max2 (m := ((s - 1 : Nat) : Int)) rfl (by split <;> omega) ?_ | exact Keep.all hK | refine New.mk (fun _ => ?_) | refine Look.at0 ?_ | refine Cell.row ?_ | refine Cell.buf ?_ | refine Cells.row rfl ?_ | refine Put.row rfl ?_ | refine Put.buf rfl ?_ | refine Look.at1 ?_ | refine Look.at2 ?_ | refine Look.at3 ?_ | refine Look.at4 ?_ | refine Look.at5 ?_ | refine Look.at6 ?_ | refine Look.at7 ?_ | refine Look.at8 ?_ | with_reducible refine Val.i64 (by omega) (by omega) ?_ | with_reducible refine Val.u8 (by omega) (by omega) ?_ | with_reducible refine Val.u32 (by omega) (by omega) ?_ | with_reducible refine Val.u64 (by omega) (by omega) ?_ | with_reducible refine Val.u8m ?_ | with_reducible refine Val.u32m ?_ | with_reducible refine Val.u64m ?_ | with_reducible refine Val.shr8 ?_ | with_reducible refine Val.shr16 (by decide) ?_ | with_reducible refine Val.shr24 (by decide) ?_ | with_reducible refine Val.raw ?_ | refine Branch.not ?_ | refine Branch.and ?_ | refine Branch.or ?_ | refine Branch.dt (by assumption) ?_ | refine Branch.df (by assumption) ?_ | refine Branch.dt rfl ?_ | refine Branch.dt (by omega) ?_ | refine Branch.df (by omega) ?_ | refine Branch.t rfl ?_ | refine Branch.f rfl ?_ | refine Branch.t (by assumption) ?_ | refine Branch.f (by assumption) ?_ | refine Branch.d (fun _ => ?_) (fun _ => ?_) | refine Branch.mk (fun _ => ?_) (fun _ => ?_) | refine Need.mk (by first | omega | decide | rfl) ?_ | refine Idx.nat (by omega) ?_ | refine Idx.auto (by first | omega | decide) (by first | omega | decide) ?_ | refine Cell.ro rfl ?_ | refine SDraw.all (by kernel_rfl) ?_ | refine Kept.k0 ?_ | refine Kept.k1 ?_ | refine Kept.k2 ?_ | refine Kept.k3 ?_ | refine Kept.k4 ?_))
theorem c56 (hw : UnW u) (hK : K (.tuple ⟨[]⟩) (uB p u.recv :: H)) : SCalls Tryz.prog 56 [ptr p] (uB p u :: H) K := by
  obtain ⟨w1, w2, w3⟩ := hw
  obtain ⟨s, r, off, idle⟩ := u
  unfold Un.recv at hK
  dsimp only [uB, uC] at w1 w2 w3 hK ⊢
  refine enter56 ?_
  cases off with
  | true =>
    rw [if_pos rfl] at hK
    repeat' ((conv => whnf); (first | refine Branch.t rfl ?_ | exact Keep.all hK | refine New.mk (fun _ => ?_) | refine Look.at0 ?_ | refine Cell.row ?_ | refine Cell.buf ?_ | refine Cells.row rfl ?_ | refine Put.row rfl ?_ | refine Put.buf rfl ?_ | refine Look.at1 ?_ | refine Look.at2 ?_ | refine Look.at3 ?_ | refine Look.at4 ?_ | refine Look.at5 ?_ | refine Look.at6 ?_ | refine Look.at7 ?_ | refine Look.at8 ?_ | with_reducible refine Val.i64 (by omega) (by omega) ?_ | with_reducible refine Val.u8 (by omega) (by omega) ?_ | with_reducible refine Val.u32 (by omega) (by omega) ?_ | with_reducible refine Val.u64 (by omega) (by omega) ?_ | with_reducible refine Val.u8m ?_ | with_reducible refine Val.u32m ?_ | with_reducible refine Val.u64m ?_ | with_reducible refine Val.shr8 ?_ | with_reducible refine Val.shr16 (by decide) ?_ | with_reducible refine Val.shr24 (by decide) ?_ | with_reducible refine Val.raw ?_ | refine Branch.not ?_ | refine Branch.and ?_ | refine Branch.or ?_ | refine Branch.dt (by assumption) ?_ | refine Branch.df (by assumption) ?_ | refine Branch.dt rfl ?_ | refine Branch.dt (by omega) ?_ | refine Branch.df (by omega) ?_ | refine Branch.t rfl ?_ | refine Branch.f rfl ?_ | refine Branch.t (by assumption) ?_ | refine Branch.f (by assumption) ?_ | refine Branch.d (fun _ => ?_) (fun _ => ?_) | refine Branch.mk (fun _ => ?_) (fun _ => ?_) | refine Need.mk (by first | omega | decide | rfl) ?_ | refine Idx.nat (by omega) ?_ | refine Idx.auto (by first | omega | decide) (by first | omega | decide) ?_ | refine Cell.ro rfl ?_ | refine SDraw.all (by kernel_rfl) ?_ | refine Kept.k0 ?_ | refine Kept.k1 ?_ | refine Kept.k2 ?_ | refine Kept.k3 ?_ | refine Kept.k4 ?_))
  | false =>
    rw [if_neg (by decide)] at hK
    by_cases h1 : 127 < r
    · rw [if_pos h1] at hK
      repeat' ((conv => whnf); (first | refine Branch.f rfl ?_ | refine Branch.dt (by omega) ?_ | exact Keep.all hK | refine New.mk (fun _ => ?_) | refine Look.at0 ?_ | refine Cell.row ?_ | refine Cell.buf ?_ | refine Cells.row rfl ?_ | refine Put.row rfl ?_ | refine Put.buf rfl ?_ | refine Look.at1 ?_ | refine Look.at2 ?_ | refine Look.at3 ?_ | refine Look.at4 ?_ | refine Look.at5 ?_ | refine Look.at6 ?_ | refine Look.at7 ?_ | refine Look.at8 ?_ | with_reducible refine Val.i64 (by omega) (by omega) ?_ | with_reducible refine Val.u8 (by omega) (by omega) ?_ | with_reducible refine Val.u32 (by omega) (by omega) ?_ | with_reducible refine Val.u64 (by omega) (by omega) ?_ | with_reducible refine Val.u8m ?_ | with_reducible refine Val.u32m ?_ | with_reducible refine Val.u64m ?_ | with_reducible refine Val.shr8 ?_ | with_reducible refine Val.shr16 (by decide) ?_ | with_reducible refine Val.shr24 (by decide) ?_ | with_reducible refine Val.raw ?_ | refine Branch.not ?_ | refine Branch.and ?_ | refine Branch.or ?_ | refine Branch.dt (by assumption) ?_ | refine Branch.df (by assumption) ?_ | refine Branch.dt rfl ?_ | refine Branch.dt (by omega) ?_ | refine Branch.df (by omega) ?_ | refine Branch.t rfl ?_ | refine Branch.f rfl ?_ | refine Branch.t (by assumption) ?_ | refine Branch.f (by assumption) ?_ | refine Branch.d (fun _ => ?_) (fun _ => ?_) | refine Branch.mk (fun _ => ?_) (fun _ => ?_) | refine Need.mk (by first | omega | decide | rfl) ?_ | refine Idx.nat (by omega) ?_ | refine Idx.auto (by first | omega | decide) (by first | omega | decide) ?_ | refine Cell.ro rfl ?_ | refine SDraw.all (by kernel_rfl) ?_ | refine Kept.k0 ?_ | refine Kept.k1 ?_ | refine Kept.k2 ?_ | refine Kept.k3 ?_ | refine Kept.k4 ?_))
    · rw [if_neg h1] at hK
      repeat' ((conv => whnf); (first | refine Branch.f rfl ?_ | refine Branch.df (by omega) ?_ | refine RawV.max2 (m := ((r - 1 : Nat) : Int)) rfl (by split <;> omega) ?_ | exact Keep.all hK | refine New.mk (fun _ => ?_) | refine Look.at0 ?_ | refine Cell.row ?_ | refine Cell.buf ?_ | refine Cells.row rfl ?_ | refine Put.row rfl ?_ | refine Put.buf rfl ?_ | refine Look.at1 ?_ | refine Look.at2 ?_ | refine Look.at3 ?_ | refine Look.at4 ?_ | refine Look.at5 ?_ | refine Look.at6 ?_ | refine Look.at7 ?_ | refine Look.at8 ?_ | with_reducible refine Val.i64 (by omega) (by omega) ?_ | with_reducible refine Val.u8 (by omega) (by omega) ?_ | with_reducible refine Val.u32 (by omega) (by omega) ?_ | with_reducible refine Val.u64 (by omega) (by omega) ?_ | with_reducible refine Val.u8m ?_ | with_reducible refine Val.u32m ?_ | with_reducible refine Val.u64m ?_ | with_reducible refine Val.shr8 ?_ | with_reducible refine Val.shr16 (by decide) ?_ | with_reducible refine Val.shr24 (by decide) ?_ | with_reducible refine Val.raw ?_ | refine Branch.not ?_ | refine Branch.and ?_ | refine Branch.or ?_ | refine Branch.dt (by assumption) ?_ | refine Branch.df (by assumption) ?_ | refine Branch.dt rfl ?_ | refine Branch.dt (by omega) ?_ | refine Branch.df (by omega) ?_ | refine Branch.t rfl ?_ | refine Branch.f rfl ?_ | refine Branch.t (by assumption) ?_ | refine Branch.f (by assumption) ?_ | refine Branch.d (fun _ => ?_) (fun _ => ?_) | refine Branch.mk (fun _ => ?_) (fun _ => ?_) | refine Need.mk (by first | omega | decide | rfl) ?_ | refine Idx.nat (by omega) ?_ | refine Idx.auto (by first | omega | decide) (by first | omega | decide) ?_ | refine Cell.ro rfl ?_ | refine SDraw.all (by kernel_rfl) ?_ | refine Kept.k0 ?_ | refine Kept.k1 ?_ | refine Kept.k2 ?_ | refine Kept.k3 ?_ | refine Kept.k4 ?_))
theorem c57 {late : Bool} (hw : UnW u) (hK : K (.tuple ⟨[]⟩) (uB p (u.erred late) :: H)) : SCalls Tryz.prog 57 [ptr p, .bool late] (uB p u :: H) K := by
  obtain ⟨w1, w2, w3⟩ := hw
  obtain ⟨s, r, off, idle⟩ := u
  unfold Un.erred at hK
  dsimp only [uB, uC] at w1 w2 w3 hK ⊢
  refine enter57 ?_
  cases off with
  | true =>
    rw [if_pos rfl] at hK
    cases late with
    | true =>
      repeat' ((conv => whnf); (first | refine Branch.t rfl ?_ | refine Branch.f rfl ?_ | exact Keep.all hK | refine New.mk (fun _ => ?_) | refine Look.at0 ?_ | refine Cell.row ?_ | refine Cell.buf ?_ | refine Cells.row rfl ?_ | refine Put.row rfl ?_ | refine Put.buf rfl ?_ | refine Look.at1 ?_ | refine Look.at2 ?_ | refine Look.at3 ?_ | refine Look.at4 ?_ | refine Look.at5 ?_ | refine Look.at6 ?_ | refine Look.at7 ?_ | refine Look.at8 ?_ | with_reducible refine Val.i64 (by omega) (by omega) ?_ | with_reducible refine Val.u8 (by omega) (by omega) ?_ | with_reducible refine Val.u32 (by omega) (by omega) ?_ | with_reducible refine Val.u64 (by omega) (by omega) ?_ | with_reducible refine Val.u8m ?_ | with_reducible refine Val.u32m ?_ | with_reducible refine Val.u64m ?_ | with_reducible refine Val.shr8 ?_ | with_reducible refine Val.shr16 (by decide) ?_ | with_reducible refine Val.shr24 (by decide) ?_ | with_reducible refine Val.raw ?_ | refine Branch.not ?_ | refine Branch.and ?_ | refine Branch.or ?_ | refine Branch.dt (by assumption) ?_ | refine Branch.df (by assumption) ?_ | refine Branch.dt rfl ?_ | refine Branch.dt (by omega) ?_ | refine Branch.df (by omega) ?_ | refine Branch.t rfl ?_ | refine Branch.f rfl ?_ | refine Branch.t (by assumption) ?_ | refine Branch.f (by assumption) ?_ | refine Branch.d (fun _ => ?_) (fun _ => ?_) | refine Branch.mk (fun _ => ?_) (fun _ => ?_) | refine Need.mk (by first | omega | decide | rfl) ?_ | refine Idx.nat (by omega) ?_ | refine Idx.auto (by first | omega | decide) (by first | omega | decide) ?_ | refine Cell.ro rfl ?_ | refine SDraw.all (by kernel_rfl) ?_ | refine Kept.k0 ?_ | refine Kept.k1 ?_ | refine Kept.k2 ?_ | refine Kept.k3 ?_ | refine Kept.k4 ?_))
    | false =>
      repeat' ((conv => whnf); (first | refine Branch.f rfl ?_ | exact Keep.all hK | refine New.mk (fun _ => ?_) | refine Look.at0 ?_ | refine Cell.row ?_ | refine Cell.buf ?_ | refine Cells.row rfl ?_ | refine Put.row rfl ?_ | refine Put.buf rfl ?_ | refine Look.at1 ?_ | refine Look.at2 ?_ | refine Look.at3 ?_ | refine Look.at4 ?_ | refine Look.at5 ?_ | refine Look.at6 ?_ | refine Look.at7 ?_ | refine Look.at8 ?_ | with_reducible refine Val.i64 (by omega) (by omega) ?_ | with_reducible refine Val.u8 (by omega) (by omega) ?_ | with_reducible refine Val.u32 (by omega) (by omega) ?_ | with_reducible refine Val.u64 (by omega) (by omega) ?_ | with_reducible refine Val.u8m ?_ | with_reducible refine Val.u32m ?_ | with_reducible refine Val.u64m ?_ | with_reducible refine Val.shr8 ?_ | with_reducible refine Val.shr16 (by decide) ?_ | with_reducible refine Val.shr24 (by decide) ?_ | with_reducible refine Val.raw ?_ | refine Branch.not ?_ | refine Branch.and ?_ | refine Branch.or ?_ | refine Branch.dt (by assumption) ?_ | refine Branch.df (by assumption) ?_ | refine Branch.dt rfl ?_ | refine Branch.dt (by omega) ?_ | refine Branch.df (by omega) ?_ | refine Branch.t rfl ?_ | refine Branch.f rfl ?_ | refine Branch.t (by assumption) ?_ | refine Branch.f (by assumption) ?_ | refine Branch.d (fun _ => ?_) (fun _ => ?_) | refine Branch.mk (fun _ => ?_) (fun _ => ?_) | refine Need.mk (by first | omega | decide | rfl) ?_ | refine Idx.nat (by omega) ?_ | refine Idx.auto (by first | omega | decide) (by first | omega | decide) ?_ | refine Cell.ro rfl ?_ | refine SDraw.all (by kernel_rfl) ?_ | refine Kept.k0 ?_ | refine Kept.k1 ?_ | refine Kept.k2 ?_ | refine Kept.k3 ?_ | refine Kept.k4 ?_))
  | false =>
    rw [if_neg (by decide)] at hK
    cases late with
    | true =>
      have h : K (.tuple ⟨[]⟩) ((p, .row 114 [zi (s : Int), zi ((min (r + 8) 255 : Nat) : Int), .bool false, zi (idle : Int)] (0, 0)) :: H) := hK
      clear hK
      repeat' ((conv => whnf); (first | refine Branch.t rfl ?_ | refine RawV.min2 (m := ((min (r + 8) 255 : Nat) : Int)) rfl (by split <;> omega) ?_ | exact Keep.all h | refine New.mk (fun _ => ?_) | refine Look.at0 ?_ | refine Cell.row ?_ | refine Cell.buf ?_ | refine Cells.row rfl ?_ | refine Put.row rfl ?_ | refine Put.buf rfl ?_ | refine Look.at1 ?_ | refine Look.at2 ?_ | refine Look.at3 ?_ | refine Look.at4 ?_ | refine Look.at5 ?_ | refine Look.at6 ?_ | refine Look.at7 ?_ | refine Look.at8 ?_ | with_reducible refine Val.i64 (by omega) (by omega) ?_ | with_reducible refine Val.u8 (by omega) (by omega) ?_ | with_reducible refine Val.u32 (by omega) (by omega) ?_ | with_reducible refine Val.u64 (by omega) (by omega) ?_ | with_reducible refine Val.u8m ?_ | with_reducible refine Val.u32m ?_ | with_reducible refine Val.u64m ?_ | with_reducible refine Val.shr8 ?_ | with_reducible refine Val.shr16 (by decide) ?_ | with_reducible refine Val.shr24 (by decide) ?_ | with_reducible refine Val.raw ?_ | refine Branch.not ?_ | refine Branch.and ?_ | refine Branch.or ?_ | refine Branch.dt (by assumption) ?_ | refine Branch.df (by assumption) ?_ | refine Branch.dt rfl ?_ | refine Branch.dt (by omega) ?_ | refine Branch.df (by omega) ?_ | refine Branch.t rfl ?_ | refine Branch.f rfl ?_ | refine Branch.t (by assumption) ?_ | refine Branch.f (by assumption) ?_ | refine Branch.d (fun _ => ?_) (fun _ => ?_) | refine Branch.mk (fun _ => ?_) (fun _ => ?_) | refine Need.mk (by first | omega | decide | rfl) ?_ | refine Idx.nat (by omega) ?_ | refine Idx.auto (by first | omega | decide) (by first | omega | decide) ?_ | refine Cell.ro rfl ?_ | refine SDraw.all (by kernel_rfl) ?_ | refine Kept.k0 ?_ | refine Kept.k1 ?_ | refine Kept.k2 ?_ | refine Kept.k3 ?_ | refine Kept.k4 ?_))
    | false =>
      have h : K (.tuple ⟨[]⟩) ((p, .row 114 [zi (s : Int), zi ((min (r + 1) 255 : Nat) : Int), .bool false, zi (idle : Int)] (0, 0)) :: H) := hK
      clear hK
      repeat' ((conv => whnf); (first | refine Branch.t rfl ?_ | refine Branch.f rfl ?_ | refine RawV.min2 (m := ((min (r + 1) 255 : Nat) : Int)) rfl (by split <;> omega) ?_ | exact Keep.all h | refine New.mk (fun _ => ?_) | refine Look.at0 ?_ | refine Cell.row ?_ | refine Cell.buf ?_ | refine Cells.row rfl ?_ | refine Put.row rfl ?_ | refine Put.buf rfl ?_ | refine Look.at1 ?_ | refine Look.at2 ?_ | refine Look.at3 ?_ | refine Look.at4 ?_ | refine Look.at5 ?_ | refine Look.at6 ?_ | refine Look.at7 ?_ | refine Look.at8 ?_ | with_reducible refine Val.i64 (by omega) (by omega) ?_ | with_reducible refine Val.u8 (by omega) (by omega) ?_ | with_reducible refine Val.u32 (by omega) (by omega) ?_ | with_reducible refine Val.u64 (by omega) (by omega) ?_ | with_reducible refine Val.u8m ?_ | with_reducible refine Val.u32m ?_ | with_reducible refine Val.u64m ?_ | with_reducible refine Val.shr8 ?_ | with_reducible refine Val.shr16 (by decide) ?_ | with_reducible refine Val.shr24 (by decide) ?_ | with_reducible refine Val.raw ?_ | refine Branch.not ?_ | refine Branch.and ?_ | refine Branch.or ?_ | refine Branch.dt (by assumption) ?_ | refine Branch.df (by assumption) ?_ | refine Branch.dt rfl ?_ | refine Branch.dt (by omega) ?_ | refine Branch.df (by omega) ?_ | refine Branch.t rfl ?_ | refine Branch.f rfl ?_ | refine Branch.t (by assumption) ?_ | refine Branch.f (by assumption) ?_ | refine Branch.d (fun _ => ?_) (fun _ => ?_) | refine Branch.mk (fun _ => ?_) (fun _ => ?_) | refine Need.mk (by first | omega | decide | rfl) ?_ | refine Idx.nat (by omega) ?_ | refine Idx.auto (by first | omega | decide) (by first | omega | decide) ?_ | refine Cell.ro rfl ?_ | refine SDraw.all (by kernel_rfl) ?_ | refine Kept.k0 ?_ | refine Kept.k1 ?_ | refine Kept.k2 ?_ | refine Kept.k3 ?_ | refine Kept.k4 ?_))
theorem c55 {q : Bool} (hw : UnW u) (hK : K (.tuple ⟨[]⟩) (uB p (u.fail q) :: H)) : SCalls Tryz.prog 55 [ptr p, .bool q] (uB p u :: H) K := by
  have h93 : ∀ K2 : Value → Heap → Prop, K2 (zi u.st) (uB p u :: H) → SCalls Tryz.prog 70 [ptr p] (uB p u :: H) K2 := fun K2 hk => c70 (.head _) hk
  unfold Un.fail at hK
  generalize hv : u.st = v at *
  obtain ⟨w1, w2, w3⟩ := hw
  obtain ⟨s, r, off, idle⟩ := u
  dsimp only [uB, uC] at w1 w2 w3 hK h93 ⊢
  refine enter55 ?_
  cases off with
  | true =>
    rw [if_pos (.inl rfl)] at hK
    repeat' ((conv => whnf); (first | refine Branch.t rfl ?_ | exact Keep.all hK | refine New.mk (fun _ => ?_) | refine Look.at0 ?_ | refine Cell.row ?_ | refine Cell.buf ?_ | refine Cells.row rfl ?_ | refine Put.row rfl ?_ | refine Put.buf rfl ?_ | refine Look.at1 ?_ | refine Look.at2 ?_ | refine Look.at3 ?_ | refine Look.at4 ?_ | refine Look.at5 ?_ | refine Look.at6 ?_ | refine Look.at7 ?_ | refine Look.at8 ?_ | with_reducible refine Val.i64 (by omega) (by omega) ?_ | with_reducible refine Val.u8 (by omega) (by omega) ?_ | with_reducible refine Val.u32 (by omega) (by omega) ?_ | with_reducible refine Val.u64 (by omega) (by omega) ?_ | with_reducible refine Val.u8m ?_ | with_reducible refine Val.u32m ?_ | with_reducible refine Val.u64m ?_ | with_reducible refine Val.shr8 ?_ | with_reducible refine Val.shr16 (by decide) ?_ | with_reducible refine Val.shr24 (by decide) ?_ | with_reducible refine Val.raw ?_ | refine Branch.not ?_ | refine Branch.and ?_ | refine Branch.or ?_ | refine Branch.dt (by assumption) ?_ | refine Branch.df (by assumption) ?_ | refine Branch.dt rfl ?_ | refine Branch.dt (by omega) ?_ | refine Branch.df (by omega) ?_ | refine Branch.t rfl ?_ | refine Branch.f rfl ?_ | refine Branch.t (by assumption) ?_ | refine Branch.f (by assumption) ?_ | refine Branch.d (fun _ => ?_) (fun _ => ?_) | refine Branch.mk (fun _ => ?_) (fun _ => ?_) | refine Need.mk (by first | omega | decide | rfl) ?_ | refine Idx.nat (by omega) ?_ | refine Idx.auto (by first | omega | decide) (by first | omega | decide) ?_ | refine Cell.ro rfl ?_ | refine SDraw.all (by kernel_rfl) ?_ | refine Kept.k0 ?_ | refine Kept.k1 ?_ | refine Kept.k2 ?_ | refine Kept.k3 ?_ | refine Kept.k4 ?_))
  | false =>
    cases q with
    | true =>
      by_cases hv1 : v = 1
      · rw [if_pos (.inr ⟨rfl, hv1⟩)] at hK
        repeat' ((conv => whnf); (first | with_reducible refine h93 _ ?_ | refine Branch.dt hv1 ?_ | exact Keep.all hK | refine New.mk (fun _ => ?_) | refine Look.at0 ?_ | refine Cell.row ?_ | refine Cell.buf ?_ | refine Cells.row rfl ?_ | refine Put.row rfl ?_ | refine Put.buf rfl ?_ | refine Look.at1 ?_ | refine Look.at2 ?_ | refine Look.at3 ?_ | refine Look.at4 ?_ | refine Look.at5 ?_ | refine Look.at6 ?_ | refine Look.at7 ?_ | refine Look.at8 ?_ | with_reducible refine Val.i64 (by omega) (by omega) ?_ | with_reducible refine Val.u8 (by omega) (by omega) ?_ | with_reducible refine Val.u32 (by omega) (by omega) ?_ | with_reducible refine Val.u64 (by omega) (by omega) ?_ | with_reducible refine Val.u8m ?_ | with_reducible refine Val.u32m ?_ | with_reducible refine Val.u64m ?_ | with_reducible refine Val.shr8 ?_ | with_reducible refine Val.shr16 (by decide) ?_ | with_reducible refine Val.shr24 (by decide) ?_ | with_reducible refine Val.raw ?_ | refine Branch.not ?_ | refine Branch.and ?_ | refine Branch.or ?_ | refine Branch.dt (by assumption) ?_ | refine Branch.df (by assumption) ?_ | refine Branch.dt rfl ?_ | refine Branch.dt (by omega) ?_ | refine Branch.df (by omega) ?_ | refine Branch.t rfl ?_ | refine Branch.f rfl ?_ | refine Branch.t (by assumption) ?_ | refine Branch.f (by assumption) ?_ | refine Branch.d (fun _ => ?_) (fun _ => ?_) | refine Branch.mk (fun _ => ?_) (fun _ => ?_) | refine Need.mk (by first | omega | decide | rfl) ?_ | refine Idx.nat (by omega) ?_ | refine Idx.auto (by first | omega | decide) (by first | omega | decide) ?_ | refine Cell.ro rfl ?_ | refine SDraw.all (by kernel_rfl) ?_ | refine Kept.k0 ?_ | refine Kept.k1 ?_ | refine Kept.k2 ?_ | refine Kept.k3 ?_ | refine Kept.k4 ?_))
      · rw [if_neg (by simp [hv1])] at hK
        by_cases h8 : 255 < s + 8
        · rw [if_pos h8] at hK
          repeat' ((conv => whnf); (first | with_reducible refine h93 _ ?_ | refine Branch.df hv1 ?_ | refine Branch.dt (by omega) ?_ | exact Keep.all hK | refine New.mk (fun _ => ?_) | refine Look.at0 ?_ | refine Cell.row ?_ | refine Cell.buf ?_ | refine Cells.row rfl ?_ | refine Put.row rfl ?_ | refine Put.buf rfl ?_ | refine Look.at1 ?_ | refine Look.at2 ?_ | refine Look.at3 ?_ | refine Look.at4 ?_ | refine Look.at5 ?_ | refine Look.at6 ?_ | refine Look.at7 ?_ | refine Look.at8 ?_ | with_reducible refine Val.i64 (by omega) (by omega) ?_ | with_reducible refine Val.u8 (by omega) (by omega) ?_ | with_reducible refine Val.u32 (by omega) (by omega) ?_ | with_reducible refine Val.u64 (by omega) (by omega) ?_ | with_reducible refine Val.u8m ?_ | with_reducible refine Val.u32m ?_ | with_reducible refine Val.u64m ?_ | with_reducible refine Val.shr8 ?_ | with_reducible refine Val.shr16 (by decide) ?_ | with_reducible refine Val.shr24 (by decide) ?_ | with_reducible refine Val.raw ?_ | refine Branch.not ?_ | refine Branch.and ?_ | refine Branch.or ?_ | refine Branch.dt (by assumption) ?_ | refine Branch.df (by assumption) ?_ | refine Branch.dt rfl ?_ | refine Branch.dt (by omega) ?_ | refine Branch.df (by omega) ?_ | refine Branch.t rfl ?_ | refine Branch.f rfl ?_ | refine Branch.t (by assumption) ?_ | refine Branch.f (by assumption) ?_ | refine Branch.d (fun _ => ?_) (fun _ => ?_) | refine Branch.mk (fun _ => ?_) (fun _ => ?_) | refine Need.mk (by first | omega | decide | rfl) ?_ | refine Idx.nat (by omega) ?_ | refine Idx.auto (by first | omega | decide) (by first | omega | decide) ?_ | refine Cell.ro rfl ?_ | refine SDraw.all (by kernel_rfl) ?_ | refine Kept.k0 ?_ | refine Kept.k1 ?_ | refine Kept.k2 ?_ | refine Kept.k3 ?_ | refine Kept.k4 ?_))
        · rw [if_neg h8] at hK
          repeat' ((conv => whnf); (first | with_reducible refine h93 _ ?_ | refine Branch.df hv1 ?_ | refine Branch.df (by omega) ?_ | exact Keep.all hK | refine New.mk (fun _ => ?_) | refine Look.at0 ?_ | refine Cell.row ?_ | refine Cell.buf ?_ | refine Cells.row rfl ?_ | refine Put.row rfl ?_ | refine Put.buf rfl ?_ | refine Look.at1 ?_ | refine Look.at2 ?_ | refine Look.at3 ?_ | refine Look.at4 ?_ | refine Look.at5 ?_ | refine Look.at6 ?_ | refine Look.at7 ?_ | refine Look.at8 ?_ | with_reducible refine Val.i64 (by omega) (by omega) ?_ | with_reducible refine Val.u8 (by omega) (by omega) ?_ | with_reducible refine Val.u32 (by omega) (by omega) ?_ | with_reducible refine Val.u64 (by omega) (by omega) ?_ | with_reducible refine Val.u8m ?_ | with_reducible refine Val.u32m ?_ | with_reducible refine Val.u64m ?_ | with_reducible refine Val.shr8 ?_ | with_reducible refine Val.shr16 (by decide) ?_ | with_reducible refine Val.shr24 (by decide) ?_ | with_reducible refine Val.raw ?_ | refine Branch.not ?_ | refine Branch.and ?_ | refine Branch.or ?_ | refine Branch.dt (by assumption) ?_ | refine Branch.df (by assumption) ?_ | refine Branch.dt rfl ?_ | refine Branch.dt (by omega) ?_ | refine Branch.df (by omega) ?_ | refine Branch.t rfl ?_ | refine Branch.f rfl ?_ | refine Branch.t (by assumption) ?_ | refine Branch.f (by assumption) ?_ | refine Branch.d (fun _ => ?_) (fun _ => ?_) | refine Branch.mk (fun _ => ?_) (fun _ => ?_) | refine Need.mk (by first | omega | decide | rfl) ?_ | refine Idx.nat (by omega) ?_ | refine Idx.auto (by first | omega | decide) (by first | omega | decide) ?_ | refine Cell.ro rfl ?_ | refine SDraw.all (by kernel_rfl) ?_ | refine Kept.k0 ?_ | refine Kept.k1 ?_ | refine Kept.k2 ?_ | refine Kept.k3 ?_ | refine Kept.k4 ?_))
    | false =>
      rw [if_neg (by simp)] at hK
      by_cases h8 : 255 < s + 8
      · rw [if_pos h8] at hK
        repeat' ((conv => whnf); (first | refine Branch.f rfl ?_ | refine Branch.dt (by omega) ?_ | exact Keep.all hK | refine New.mk (fun _ => ?_) | refine Look.at0 ?_ | refine Cell.row ?_ | refine Cell.buf ?_ | refine Cells.row rfl ?_ | refine Put.row rfl ?_ | refine Put.buf rfl ?_ | refine Look.at1 ?_ | refine Look.at2 ?_ | refine Look.at3 ?_ | refine Look.at4 ?_ | refine Look.at5 ?_ | refine Look.at6 ?_ | refine Look.at7 ?_ | refine Look.at8 ?_ | with_reducible refine Val.i64 (by omega) (by omega) ?_ | with_reducible refine Val.u8 (by omega) (by omega) ?_ | with_reducible refine Val.u32 (by omega) (by omega) ?_ | with_reducible refine Val.u64 (by omega) (by omega) ?_ | with_reducible refine Val.u8m ?_ | with_reducible refine Val.u32m ?_ | with_reducible refine Val.u64m ?_ | with_reducible refine Val.shr8 ?_ | with_reducible refine Val.shr16 (by decide) ?_ | with_reducible refine Val.shr24 (by decide) ?_ | with_reducible refine Val.raw ?_ | refine Branch.not ?_ | refine Branch.and ?_ | refine Branch.or ?_ | refine Branch.dt (by assumption) ?_ | refine Branch.df (by assumption) ?_ | refine Branch.dt rfl ?_ | refine Branch.dt (by omega) ?_ | refine Branch.df (by omega) ?_ | refine Branch.t rfl ?_ | refine Branch.f rfl ?_ | refine Branch.t (by assumption) ?_ | refine Branch.f (by assumption) ?_ | refine Branch.d (fun _ => ?_) (fun _ => ?_) | refine Branch.mk (fun _ => ?_) (fun _ => ?_) | refine Need.mk (by first | omega | decide | rfl) ?_ | refine Idx.nat (by omega) ?_ | refine Idx.auto (by first | omega | decide) (by first | omega | decide) ?_ | refine Cell.ro rfl ?_ | refine SDraw.all (by kernel_rfl) ?_ | refine Kept.k0 ?_ | refine Kept.k1 ?_ | refine Kept.k2 ?_ | refine Kept.k3 ?_ | refine Kept.k4 ?_))
      · rw [if_neg h8] at hK
        repeat' ((conv => whnf); (first | refine Branch.f rfl ?_ | refine Branch.df (by omega) ?_ | exact Keep.all hK | refine New.mk (fun _ => ?_) | refine Look.at0 ?_ | refine Cell.row ?_ | refine Cell.buf ?_ | refine Cells.row rfl ?_ | refine Put.row rfl ?_ | refine Put.buf rfl ?_ | refine Look.at1 ?_ | refine Look.at2 ?_ | refine Look.at3 ?_ | refine Look.at4 ?_ | refine Look.at5 ?_ | refine Look.at6 ?_ | refine Look.at7 ?_ | refine Look.at8 ?_ | with_reducible refine Val.i64 (by omega) (by omega) ?_ | with_reducible refine Val.u8 (by omega) (by omega) ?_ | with_reducible refine Val.u32 (by omega) (by omega) ?_ | with_reducible refine Val.u64 (by omega) (by omega) ?_ | with_reducible refine Val.u8m ?_ | with_reducible refine Val.u32m ?_ | with_reducible refine Val.u64m ?_ | with_reducible refine Val.shr8 ?_ | with_reducible refine Val.shr16 (by decide) ?_ | with_reducible refine Val.shr24 (by decide) ?_ | with_reducible refine Val.raw ?_ | refine Branch.not ?_ | refine Branch.and ?_ | refine Branch.or ?_ | refine Branch.dt (by assumption) ?_ | refine Branch.df (by assumption) ?_ | refine Branch.dt rfl ?_ | refine Branch.dt (by omega) ?_ | refine Branch.df (by omega) ?_ | refine Branch.t rfl ?_ | refine Branch.f rfl ?_ | refine Branch.t (by assumption) ?_ | refine Branch.f (by assumption) ?_ | refine Branch.d (fun _ => ?_) (fun _ => ?_) | refine Branch.mk (fun _ => ?_) (fun _ => ?_) | refine Need.mk (by first | omega | decide | rfl) ?_ | refine Idx.nat (by omega) ?_ | refine Idx.auto (by first | omega | decide) (by first | omega | decide) ?_ | refine Cell.ro rfl ?_ | refine SDraw.all (by kernel_rfl) ?_ | refine Kept.k0 ?_ | refine Kept.k1 ?_ | refine Kept.k2 ?_ | refine Kept.k3 ?_ | refine Kept.k4 ?_))
end
end Go.Proofs.YtiaginlnapiijaaGreatDoor


/- Ported (port.py) from WrR. -/
set_option linter.unusedVariables false
set_option linter.unusedSimpArgs false
set_option maxRecDepth 100000
set_option maxHeartbeats 4000000
namespace Go.Proofs.YtiaginlnapiijaaGreatDoor
open Sx
theorem perm_glue' {ls : List Heap} {p q : List Nat} {A B : Heap} (hp : p.Perm q) (h1 : A = glue ls p) (h2 : B = glue ls q) : A.Perm B := by
  subst h1 h2
  exact perm_glue hp
inductive BoxO : Value → Option Fm → Heap → Prop
  | none : BoxO (.slice none 0 0) none []
  | some {q : Nat} {f : Fm} : BoxO (.slice (some ⟨q, 0, none⟩) 1 1) (some f) [(q, .row 39 (frC f) (0, 0))]
abbrev nB (r u : Nat) (on : Bool) (bv iv : Value) : Nat × Blk := (r, .row 64 [.bool on, ptr u, bv, iv] (0, 0))
abbrev bB (p : Nat) (nv : Value) (time : Nat) : Nat × Blk := (p, .row 58 [nv, .int .u64 (time : Int)] (0, 0))
abbrev pC (r : Nat) : List Value := [ptr r]
theorem pC_len (r : Nat) : (pC r).length = 1 := rfl
theorem pC_one (r : Nat) : ∀ u ∈ pC r, u.oneCell' = true := fun u hu => by obtain rfl := List.mem_singleton.1 hu; rfl
inductive NdO (r : Nat) (x : Nd) : Heap → Prop
  | mk {u : Nat} {bv iv : Value} {M1 M2 : Heap} : BoxO bv x.box M1 → Grow frC 12 39 iv x.inn M2 → NdO r x (nB r u x.on bv iv :: uB u x.u :: (M1 ++ M2))
inductive NdL : List Nat → List Nd → Heap → Prop
  | nil : NdL [] [] []
  | cons {r : Nat} {rs : List Nat} {x : Nd} {xs : List Nd} {A B : Heap} : NdO r x A → NdL rs xs B → NdL (r :: rs) (x :: xs) (A ++ B)
inductive BusO (p : Nat) (s : Bs) : Heap → Prop
  | mk {nv : Value} {rs : List Nat} {Mn N : Heap} : Grow pC 1 59 nv rs Mn → NdL rs s.ns N → BusO p s (bB p nv s.time :: (Mn ++ N))
theorem NdL.len {rs : List Nat} {xs : List Nd} {N : Heap} (h : NdL rs xs N) : rs.length = xs.length := by
  induction h with
  | nil => rfl
  | cons _ _ ih => rw [List.length_cons, List.length_cons, ih]
theorem NdL.at {rs : List Nat} {xs : List Nd} {N : Heap} (h : NdL rs xs N) : ∀ {i : Nat} {x : Nd}, xs[i]? = some x → ∃ r A M B, rs[i]? = some r ∧ N = A ++ (M ++ B) ∧ NdO r x M ∧ ∀ x' M', NdO r x' M' → NdL rs (xs.set i x') (A ++ (M' ++ B)) := by
  induction h with
  | nil => intro i x hx; simp at hx
  | @cons r rs x0 xs A B h1 h2 ih =>
    intro i x hx
    cases i with
    | zero =>
      rw [List.getElem?_cons_zero] at hx
      injection hx with hx
      subst hx
      exact ⟨r, [], A, B, rfl, rfl, h1, fun x' M' h => show NdL (r :: rs) (x' :: xs) (M' ++ B) from .cons h h2⟩
    | succ i =>
      rw [List.getElem?_cons_succ] at hx
      obtain ⟨r', A', M', B', k1, rfl, k3, k4⟩ := ih hx
      refine ⟨r', A ++ A', M', B', by rw [List.getElem?_cons_succ]; exact k1, by simp, k3, fun x' M2 h => ?_⟩
      have := NdL.cons h1 (k4 x' M2 h)
      rw [List.set_cons_succ]
      simpa using this
/-- What of a bus may be read. -/
inductive BoxR (H : Heap) : Value → Option Fm → Prop
  | none : BoxR H (.slice none 0 0) none
  | some {q : Nat} {f : Fm} : (q, .row 39 (frC f) (0, 0)) ∈ H → BoxR H (.slice (some ⟨q, 0, none⟩) 1 1) (some f)
theorem BoxR.mono {H H' : Heap} {bv : Value} {o : Option Fm} (h : BoxR H bv o) (hs : ∀ z ∈ H, z ∈ H') : BoxR H' bv o := by
  cases h with
  | none => exact .none
  | some hm => exact .some (hs _ hm)
structure NdR (r : Nat) (x : Nd) (u : Nat) (bv iv : Value) (H : Heap) : Prop where
  n : nB r u x.on bv iv ∈ H
  u : uB u x.u ∈ H
  b : BoxR H bv x.box
  i : InS frC 12 iv H x.inn
theorem BoxO.read {bv : Value} {o : Option Fm} {M H : Heap} (h : BoxO bv o M) (hs : ∀ z ∈ M, z ∈ H) : BoxR H bv o := by
  cases h with
  | none => exact .none
  | some => exact .some (hs _ (.head _))
theorem NdO.read {r : Nat} {x : Nd} {M H : Heap} (h : NdO r x M) (hs : ∀ z ∈ M, z ∈ H) : ∃ u bv iv, NdR r x u bv iv H := by
  cases h with
  | mk h1 h2 =>
    exact ⟨_, _, _, hs _ (.head _), hs _ (.tail _ (.head _)), h1.read fun z hz => hs _ (.tail _ (.tail _ (List.mem_append_left _ hz))), h2.ins frC_len fun z hz => hs _ (.tail _ (.tail _ (List.mem_append_right _ hz)))⟩
structure BusR (p : Nat) (s : Bs) (nv : Value) (rs : List Nat) (H : Heap) : Prop where
  b : bB p nv s.time ∈ H
  n : InS pC 1 nv H rs
  l : rs.length = s.ns.length
  x : ∀ {i : Nat} {x : Nd}, s.ns[i]? = some x → ∃ r u bv iv, rs[i]? = some r ∧ NdR r x u bv iv H
theorem NdR.mono {r u : Nat} {x : Nd} {bv iv : Value} {H H' : Heap} (h : NdR r x u bv iv H) (hs : ∀ z ∈ H, z ∈ H') : NdR r x u bv iv H' := ⟨hs _ h.n, hs _ h.u, h.b.mono hs, h.i.mono hs⟩
theorem BusR.mono {p : Nat} {s : Bs} {nv : Value} {rs : List Nat} {H H' : Heap} (h : BusR p s nv rs H) (hs : ∀ z ∈ H, z ∈ H') : BusR p s nv rs H' :=
  ⟨hs _ h.b, h.n.mono hs, h.l, fun hx => by
    obtain ⟨r, u, bv, iv, g1, g2⟩ := h.x hx
    exact ⟨r, u, bv, iv, g1, g2.mono hs⟩⟩
theorem BusO.readX {p : Nat} {s : Bs} {nv : Value} {rs : List Nat} {Mn N H : Heap} (h1 : Grow pC 1 59 nv rs Mn) (h2 : NdL rs s.ns N) (hs : ∀ z ∈ bB p nv s.time :: (Mn ++ N), z ∈ H) : BusR p s nv rs H := by
  refine ⟨hs _ (.head _), h1.ins pC_len fun z hz => hs _ (.tail _ (List.mem_append_left _ hz)), h2.len, ?_⟩
  intro i x hx
  obtain ⟨r, A, M, B, k1, rfl, k3, _⟩ := h2.at hx
  obtain ⟨u, bv, iv, k4⟩ := k3.read (H := H) fun z hz => hs _ (.tail _ (List.mem_append_right _ (List.mem_append_right _ (List.mem_append_left _ hz))))
  exact ⟨r, u, bv, iv, k1, k4⟩
theorem BusO.read {p : Nat} {s : Bs} {F H : Heap} (h : BusO p s F) (hs : ∀ z ∈ F, z ∈ H) : ∃ nv rs, BusR p s nv rs H := by
  cases h with
  | @mk nv rs Mn N h1 h2 => exact ⟨nv, rs, BusO.readX h1 h2 hs⟩
theorem BusR.at {p : Nat} {s : Bs} {nv : Value} {rs : List Nat} {H : Heap} (h : BusR p s nv rs H) {i : Nat} {x : Nd} (hx : s.ns[i]? = some x) :
    ∃ r u bv iv o r0 c b, rs[i]? = some r ∧ NdR r x u bv iv H ∧ nv = .slice (some ⟨r0, o, none⟩) s.ns.length c ∧ (r0, b) ∈ H ∧ b.cell (o + i * 1) = some (ptr r) := by
  obtain ⟨r, u, bv, iv, k1, k2⟩ := h.x hx
  obtain ⟨r0, o, c, b, e, k3, k4⟩ := h.n.at1 (v := ptr r) k1 rfl
  rw [h.l] at e
  exact ⟨r, u, bv, iv, o, r0, c, b, k1, k2, e, k3, k4⟩
theorem BusR.sv {p : Nat} {s : Bs} {nv : Value} {rs : List Nat} {H : Heap} (h : BusR p s nv rs H) : ∃ a c, nv = .slice a s.ns.length c := by
  obtain ⟨a, c, h1, _⟩ := h.n.sv
  exact ⟨a, c, by rw [← h.l]; exact h1⟩
/-- One node of a bus, and what it may become. -/
theorem BusO.focus {p : Nat} {s : Bs} {F : Heap} {i : Nat} {x : Nd} (h : BusO p s F) (hx : s.ns[i]? = some x) :
    ∃ r u bv iv M1 M2 X nv rs, BoxO bv x.box M1 ∧ Grow frC 12 39 iv x.inn M2 ∧ F.Perm (nB r u x.on bv iv :: uB u x.u :: bB p nv s.time :: (M1 ++ (M2 ++ X))) ∧ rs[i]? = some r ∧ (∀ H : Heap, (∀ z ∈ F, z ∈ H) → BusR p s nv rs H) ∧
      ∀ time x' bv' iv' M1' M2', BoxO bv' x'.box M1' → Grow frC 12 39 iv' x'.inn M2' → ∃ F', BusO p ⟨time, s.ns.set i x'⟩ F' ∧ (nB r u x'.on bv' iv' :: uB u x'.u :: bB p nv time :: (M1' ++ (M2' ++ X))).Perm F' := by
  cases h with
  | @mk nv rs Mn N h1 h2 =>
    have hl := h2.len
    obtain ⟨r, A, M, B, k1, rfl, k3, k4⟩ := h2.at hx
    cases k3 with
    | @mk u bv iv M1 M2 g1 g2 =>
      refine ⟨r, u, bv, iv, M1, M2, Mn ++ (A ++ B), nv, rs, g1, g2, ?_, k1, fun H hs => BusO.readX h1 h2 hs, ?_⟩
      · exact perm_glue' (ls := [[bB p nv s.time], Mn, A, [nB r u x.on bv iv, uB u x.u], M1, M2, B]) (p := [0, 1, 2, 3, 4, 5, 6]) (q := [3, 0, 4, 5, 1, 2, 6]) (by decide) (by simp [glue]) (by simp [glue])
      · intro time x' bv' iv' M1' M2' g3 g4
        refine ⟨_, BusO.mk (s := ⟨time, s.ns.set i x'⟩) h1 (k4 x' _ (.mk (u := u) g3 g4)), ?_⟩
        exact perm_glue' (ls := [[bB p nv time], Mn, A, [nB r u x'.on bv' iv', uB u x'.u], M1', M2', B]) (p := [3, 0, 4, 5, 1, 2, 6]) (q := [0, 1, 2, 3, 4, 5, 6]) (by decide) (by simp [glue]) (by simp [glue])
section
variable {K : Value → Heap → Prop} {H : Heap} {p : Nat} {s : Bs} {nv : Value} {rs : List Nat} {i : Int}
theorem c18 (h : BusR p s nv rs H) (h0 : ¬ s.is i → K (.tuple ⟨[.pointer none, zi 1]⟩) H) (h1 : s.is i → ∀ r u bv iv, rs[i.toNat]? = some r → NdR r (s.at i) u bv iv H → K (.tuple ⟨[ptr r, zi 0]⟩) H) : SCalls Tryz.prog 18 [ptr p, zi i] H K := by
  have hb := h.b
  refine enter18 ?_
  by_cases hi : s.is i
  · have hi' := hi
    obtain ⟨hi0, hi1⟩ := hi'
    have hil : i.toNat < s.ns.length := by omega
    have hx := List.getElem?_eq_getElem hil
    have hat : s.at i = s.ns[i.toNat] := by unfold Bs.at; rw [List.getD_eq_getElem?_getD, hx]; rfl
    obtain ⟨r, u, bv, iv, o, r0, c, b, k1, k2, rfl, k3, k4⟩ := h.at hx
    rw [← hat] at k2
    have hk := h1 hi r u bv iv k1 k2
    have g0 : (Blk.row 58 [.slice (some ⟨r0, o, none⟩) s.ns.length c, .int .u64 (s.time : Int)] (0, 0)).cell 0 = some (.slice (some ⟨r0, o, none⟩) s.ns.length c) := rfl
    clear h0 h1
    repeat' ((conv => whnf); (first | refine Branch.df (show ¬ i < 0 by omega) ?_ | refine Branch.df (by omega) ?_ | refine Look.cell hb g0 ?_ | refine Idx.of i.toNat (by omega) hil ?_ | refine Look.cell k3 k4 ?_ | exact Keep.all hk | refine New.mk (fun _ => ?_) | refine Look.at0 ?_ | refine Cell.row ?_ | refine Cell.buf ?_ | refine Cells.row rfl ?_ | refine Put.row rfl ?_ | refine Put.buf rfl ?_ | refine Look.at1 ?_ | refine Look.at2 ?_ | refine Look.at3 ?_ | refine Look.at4 ?_ | refine Look.at5 ?_ | refine Look.at6 ?_ | refine Look.at7 ?_ | refine Look.at8 ?_ | with_reducible refine Val.i64 (by omega) (by omega) ?_ | with_reducible refine Val.u8 (by omega) (by omega) ?_ | with_reducible refine Val.u32 (by omega) (by omega) ?_ | with_reducible refine Val.u64 (by omega) (by omega) ?_ | with_reducible refine Val.u8m ?_ | with_reducible refine Val.u32m ?_ | with_reducible refine Val.u64m ?_ | with_reducible refine Val.shr8 ?_ | with_reducible refine Val.shr16 (by decide) ?_ | with_reducible refine Val.shr24 (by decide) ?_ | with_reducible refine Val.raw ?_ | refine Branch.not ?_ | refine Branch.and ?_ | refine Branch.or ?_ | refine Branch.dt (by assumption) ?_ | refine Branch.df (by assumption) ?_ | refine Branch.dt rfl ?_ | refine Branch.dt (by omega) ?_ | refine Branch.df (by omega) ?_ | refine Branch.t rfl ?_ | refine Branch.f rfl ?_ | refine Branch.t (by assumption) ?_ | refine Branch.f (by assumption) ?_ | refine Branch.d (fun _ => ?_) (fun _ => ?_) | refine Branch.mk (fun _ => ?_) (fun _ => ?_) | refine Need.mk (by first | omega | decide | rfl) ?_ | refine Idx.nat (by omega) ?_ | refine Idx.auto (by first | omega | decide) (by first | omega | decide) ?_ | refine Cell.ro rfl ?_ | refine SDraw.all (by kernel_rfl) ?_ | refine Kept.k0 ?_ | refine Kept.k1 ?_ | refine Kept.k2 ?_ | refine Kept.k3 ?_ | refine Kept.k4 ?_))
  · have hk := h0 hi
    obtain ⟨a, c, rfl⟩ := h.sv
    have g0 : (Blk.row 58 [.slice a s.ns.length c, .int .u64 (s.time : Int)] (0, 0)).cell 0 = some (.slice a s.ns.length c) := rfl
    unfold Bs.is at hi
    clear h0 h1
    by_cases hi0 : i < 0
    · repeat' ((conv => whnf); (first | refine Branch.dt hi0 ?_ | refine Look.cell hb g0 ?_ | exact Keep.all hk | refine New.mk (fun _ => ?_) | refine Look.at0 ?_ | refine Cell.row ?_ | refine Cell.buf ?_ | refine Cells.row rfl ?_ | refine Put.row rfl ?_ | refine Put.buf rfl ?_ | refine Look.at1 ?_ | refine Look.at2 ?_ | refine Look.at3 ?_ | refine Look.at4 ?_ | refine Look.at5 ?_ | refine Look.at6 ?_ | refine Look.at7 ?_ | refine Look.at8 ?_ | with_reducible refine Val.i64 (by omega) (by omega) ?_ | with_reducible refine Val.u8 (by omega) (by omega) ?_ | with_reducible refine Val.u32 (by omega) (by omega) ?_ | with_reducible refine Val.u64 (by omega) (by omega) ?_ | with_reducible refine Val.u8m ?_ | with_reducible refine Val.u32m ?_ | with_reducible refine Val.u64m ?_ | with_reducible refine Val.shr8 ?_ | with_reducible refine Val.shr16 (by decide) ?_ | with_reducible refine Val.shr24 (by decide) ?_ | with_reducible refine Val.raw ?_ | refine Branch.not ?_ | refine Branch.and ?_ | refine Branch.or ?_ | refine Branch.dt (by assumption) ?_ | refine Branch.df (by assumption) ?_ | refine Branch.dt rfl ?_ | refine Branch.dt (by omega) ?_ | refine Branch.df (by omega) ?_ | refine Branch.t rfl ?_ | refine Branch.f rfl ?_ | refine Branch.t (by assumption) ?_ | refine Branch.f (by assumption) ?_ | refine Branch.d (fun _ => ?_) (fun _ => ?_) | refine Branch.mk (fun _ => ?_) (fun _ => ?_) | refine Need.mk (by first | omega | decide | rfl) ?_ | refine Idx.nat (by omega) ?_ | refine Idx.auto (by first | omega | decide) (by first | omega | decide) ?_ | refine Cell.ro rfl ?_ | refine SDraw.all (by kernel_rfl) ?_ | refine Kept.k0 ?_ | refine Kept.k1 ?_ | refine Kept.k2 ?_ | refine Kept.k3 ?_ | refine Kept.k4 ?_))
    · repeat' ((conv => whnf); (first | refine Branch.df hi0 ?_ | refine Branch.dt (by omega) ?_ | refine Look.cell hb g0 ?_ | exact Keep.all hk | refine New.mk (fun _ => ?_) | refine Look.at0 ?_ | refine Cell.row ?_ | refine Cell.buf ?_ | refine Cells.row rfl ?_ | refine Put.row rfl ?_ | refine Put.buf rfl ?_ | refine Look.at1 ?_ | refine Look.at2 ?_ | refine Look.at3 ?_ | refine Look.at4 ?_ | refine Look.at5 ?_ | refine Look.at6 ?_ | refine Look.at7 ?_ | refine Look.at8 ?_ | with_reducible refine Val.i64 (by omega) (by omega) ?_ | with_reducible refine Val.u8 (by omega) (by omega) ?_ | with_reducible refine Val.u32 (by omega) (by omega) ?_ | with_reducible refine Val.u64 (by omega) (by omega) ?_ | with_reducible refine Val.u8m ?_ | with_reducible refine Val.u32m ?_ | with_reducible refine Val.u64m ?_ | with_reducible refine Val.shr8 ?_ | with_reducible refine Val.shr16 (by decide) ?_ | with_reducible refine Val.shr24 (by decide) ?_ | with_reducible refine Val.raw ?_ | refine Branch.not ?_ | refine Branch.and ?_ | refine Branch.or ?_ | refine Branch.dt (by assumption) ?_ | refine Branch.df (by assumption) ?_ | refine Branch.dt rfl ?_ | refine Branch.dt (by omega) ?_ | refine Branch.df (by omega) ?_ | refine Branch.t rfl ?_ | refine Branch.f rfl ?_ | refine Branch.t (by assumption) ?_ | refine Branch.f (by assumption) ?_ | refine Branch.d (fun _ => ?_) (fun _ => ?_) | refine Branch.mk (fun _ => ?_) (fun _ => ?_) | refine Need.mk (by first | omega | decide | rfl) ?_ | refine Idx.nat (by omega) ?_ | refine Idx.auto (by first | omega | decide) (by first | omega | decide) ?_ | refine Cell.ro rfl ?_ | refine SDraw.all (by kernel_rfl) ?_ | refine Kept.k0 ?_ | refine Kept.k1 ?_ | refine Kept.k2 ?_ | refine Kept.k3 ?_ | refine Kept.k4 ?_))
theorem c21 {r u : Nat} {x : Nd} {bv iv : Value} (h : NdR r x u bv iv H) (hK : K (.bool x.up) H) : SCalls Tryz.prog 21 [ptr r] H K := by
  have hn := h.n
  have h63 : ∀ K2 : Value → Heap → Prop, K2 (zi x.u.st) H → SCalls Tryz.prog 45 [ptr u] H K2 := fun K2 hk => c45 h.u hk
  unfold Nd.up at hK
  unfold Un.st at h63
  obtain ⟨on, ⟨us, ur, off, idle⟩, box, inn⟩ := x
  dsimp only at hK h63 hn
  have g0 : (Blk.row 64 [.bool on, ptr u, bv, iv] (0, 0)).cell 0 = some (.bool on) := rfl
  have g1 : (Blk.row 64 [.bool on, ptr u, bv, iv] (0, 0)).cell 1 = some (ptr u) := rfl
  refine enter21 ?_
  cases on with
  | false =>
    rw [Bool.false_and] at hK
    repeat' ((conv => whnf); (first | refine Look.cell hn g0 ?_ | refine Look.cell hn g1 ?_ | exact Keep.all hK | refine New.mk (fun _ => ?_) | refine Look.at0 ?_ | refine Cell.row ?_ | refine Cell.buf ?_ | refine Cells.row rfl ?_ | refine Put.row rfl ?_ | refine Put.buf rfl ?_ | refine Look.at1 ?_ | refine Look.at2 ?_ | refine Look.at3 ?_ | refine Look.at4 ?_ | refine Look.at5 ?_ | refine Look.at6 ?_ | refine Look.at7 ?_ | refine Look.at8 ?_ | with_reducible refine Val.i64 (by omega) (by omega) ?_ | with_reducible refine Val.u8 (by omega) (by omega) ?_ | with_reducible refine Val.u32 (by omega) (by omega) ?_ | with_reducible refine Val.u64 (by omega) (by omega) ?_ | with_reducible refine Val.u8m ?_ | with_reducible refine Val.u32m ?_ | with_reducible refine Val.u64m ?_ | with_reducible refine Val.shr8 ?_ | with_reducible refine Val.shr16 (by decide) ?_ | with_reducible refine Val.shr24 (by decide) ?_ | with_reducible refine Val.raw ?_ | refine Branch.not ?_ | refine Branch.and ?_ | refine Branch.or ?_ | refine Branch.dt (by assumption) ?_ | refine Branch.df (by assumption) ?_ | refine Branch.dt rfl ?_ | refine Branch.dt (by omega) ?_ | refine Branch.df (by omega) ?_ | refine Branch.t rfl ?_ | refine Branch.f rfl ?_ | refine Branch.t (by assumption) ?_ | refine Branch.f (by assumption) ?_ | refine Branch.d (fun _ => ?_) (fun _ => ?_) | refine Branch.mk (fun _ => ?_) (fun _ => ?_) | refine Need.mk (by first | omega | decide | rfl) ?_ | refine Idx.nat (by omega) ?_ | refine Idx.auto (by first | omega | decide) (by first | omega | decide) ?_ | refine Cell.ro rfl ?_ | refine SDraw.all (by kernel_rfl) ?_ | refine Kept.k0 ?_ | refine Kept.k1 ?_ | refine Kept.k2 ?_ | refine Kept.k3 ?_ | refine Kept.k4 ?_))
  | true =>
    rw [Bool.true_and] at hK
    cases off with
    | true =>
      rw [if_pos rfl] at h63
      repeat' ((conv => whnf); (first | refine Look.cell hn g0 ?_ | refine Look.cell hn g1 ?_ | with_reducible refine h63 _ ?_ | exact Keep.all hK | refine New.mk (fun _ => ?_) | refine Look.at0 ?_ | refine Cell.row ?_ | refine Cell.buf ?_ | refine Cells.row rfl ?_ | refine Put.row rfl ?_ | refine Put.buf rfl ?_ | refine Look.at1 ?_ | refine Look.at2 ?_ | refine Look.at3 ?_ | refine Look.at4 ?_ | refine Look.at5 ?_ | refine Look.at6 ?_ | refine Look.at7 ?_ | refine Look.at8 ?_ | with_reducible refine Val.i64 (by omega) (by omega) ?_ | with_reducible refine Val.u8 (by omega) (by omega) ?_ | with_reducible refine Val.u32 (by omega) (by omega) ?_ | with_reducible refine Val.u64 (by omega) (by omega) ?_ | with_reducible refine Val.u8m ?_ | with_reducible refine Val.u32m ?_ | with_reducible refine Val.u64m ?_ | with_reducible refine Val.shr8 ?_ | with_reducible refine Val.shr16 (by decide) ?_ | with_reducible refine Val.shr24 (by decide) ?_ | with_reducible refine Val.raw ?_ | refine Branch.not ?_ | refine Branch.and ?_ | refine Branch.or ?_ | refine Branch.dt (by assumption) ?_ | refine Branch.df (by assumption) ?_ | refine Branch.dt rfl ?_ | refine Branch.dt (by omega) ?_ | refine Branch.df (by omega) ?_ | refine Branch.t rfl ?_ | refine Branch.f rfl ?_ | refine Branch.t (by assumption) ?_ | refine Branch.f (by assumption) ?_ | refine Branch.d (fun _ => ?_) (fun _ => ?_) | refine Branch.mk (fun _ => ?_) (fun _ => ?_) | refine Need.mk (by first | omega | decide | rfl) ?_ | refine Idx.nat (by omega) ?_ | refine Idx.auto (by first | omega | decide) (by first | omega | decide) ?_ | refine Cell.ro rfl ?_ | refine SDraw.all (by kernel_rfl) ?_ | refine Kept.k0 ?_ | refine Kept.k1 ?_ | refine Kept.k2 ?_ | refine Kept.k3 ?_ | refine Kept.k4 ?_))
    | false =>
      rw [if_neg (by decide)] at h63
      by_cases h1 : 127 < us ∨ 127 < ur
      · rw [if_pos h1] at h63
        repeat' ((conv => whnf); (first | refine Look.cell hn g0 ?_ | refine Look.cell hn g1 ?_ | with_reducible refine h63 _ ?_ | exact Keep.all hK | refine New.mk (fun _ => ?_) | refine Look.at0 ?_ | refine Cell.row ?_ | refine Cell.buf ?_ | refine Cells.row rfl ?_ | refine Put.row rfl ?_ | refine Put.buf rfl ?_ | refine Look.at1 ?_ | refine Look.at2 ?_ | refine Look.at3 ?_ | refine Look.at4 ?_ | refine Look.at5 ?_ | refine Look.at6 ?_ | refine Look.at7 ?_ | refine Look.at8 ?_ | with_reducible refine Val.i64 (by omega) (by omega) ?_ | with_reducible refine Val.u8 (by omega) (by omega) ?_ | with_reducible refine Val.u32 (by omega) (by omega) ?_ | with_reducible refine Val.u64 (by omega) (by omega) ?_ | with_reducible refine Val.u8m ?_ | with_reducible refine Val.u32m ?_ | with_reducible refine Val.u64m ?_ | with_reducible refine Val.shr8 ?_ | with_reducible refine Val.shr16 (by decide) ?_ | with_reducible refine Val.shr24 (by decide) ?_ | with_reducible refine Val.raw ?_ | refine Branch.not ?_ | refine Branch.and ?_ | refine Branch.or ?_ | refine Branch.dt (by assumption) ?_ | refine Branch.df (by assumption) ?_ | refine Branch.dt rfl ?_ | refine Branch.dt (by omega) ?_ | refine Branch.df (by omega) ?_ | refine Branch.t rfl ?_ | refine Branch.f rfl ?_ | refine Branch.t (by assumption) ?_ | refine Branch.f (by assumption) ?_ | refine Branch.d (fun _ => ?_) (fun _ => ?_) | refine Branch.mk (fun _ => ?_) (fun _ => ?_) | refine Need.mk (by first | omega | decide | rfl) ?_ | refine Idx.nat (by omega) ?_ | refine Idx.auto (by first | omega | decide) (by first | omega | decide) ?_ | refine Cell.ro rfl ?_ | refine SDraw.all (by kernel_rfl) ?_ | refine Kept.k0 ?_ | refine Kept.k1 ?_ | refine Kept.k2 ?_ | refine Kept.k3 ?_ | refine Kept.k4 ?_))
      · rw [if_neg h1] at h63
        repeat' ((conv => whnf); (first | refine Look.cell hn g0 ?_ | refine Look.cell hn g1 ?_ | with_reducible refine h63 _ ?_ | exact Keep.all hK | refine New.mk (fun _ => ?_) | refine Look.at0 ?_ | refine Cell.row ?_ | refine Cell.buf ?_ | refine Cells.row rfl ?_ | refine Put.row rfl ?_ | refine Put.buf rfl ?_ | refine Look.at1 ?_ | refine Look.at2 ?_ | refine Look.at3 ?_ | refine Look.at4 ?_ | refine Look.at5 ?_ | refine Look.at6 ?_ | refine Look.at7 ?_ | refine Look.at8 ?_ | with_reducible refine Val.i64 (by omega) (by omega) ?_ | with_reducible refine Val.u8 (by omega) (by omega) ?_ | with_reducible refine Val.u32 (by omega) (by omega) ?_ | with_reducible refine Val.u64 (by omega) (by omega) ?_ | with_reducible refine Val.u8m ?_ | with_reducible refine Val.u32m ?_ | with_reducible refine Val.u64m ?_ | with_reducible refine Val.shr8 ?_ | with_reducible refine Val.shr16 (by decide) ?_ | with_reducible refine Val.shr24 (by decide) ?_ | with_reducible refine Val.raw ?_ | refine Branch.not ?_ | refine Branch.and ?_ | refine Branch.or ?_ | refine Branch.dt (by assumption) ?_ | refine Branch.df (by assumption) ?_ | refine Branch.dt rfl ?_ | refine Branch.dt (by omega) ?_ | refine Branch.df (by omega) ?_ | refine Branch.t rfl ?_ | refine Branch.f rfl ?_ | refine Branch.t (by assumption) ?_ | refine Branch.f (by assumption) ?_ | refine Branch.d (fun _ => ?_) (fun _ => ?_) | refine Branch.mk (fun _ => ?_) (fun _ => ?_) | refine Need.mk (by first | omega | decide | rfl) ?_ | refine Idx.nat (by omega) ?_ | refine Idx.auto (by first | omega | decide) (by first | omega | decide) ?_ | refine Cell.ro rfl ?_ | refine SDraw.all (by kernel_rfl) ?_ | refine Kept.k0 ?_ | refine Kept.k1 ?_ | refine Kept.k2 ?_ | refine Kept.k3 ?_ | refine Kept.k4 ?_))
theorem c12 (h : BusR p s nv rs H) (hK : K (.int .u64 (s.time : Int)) H) : SCalls Tryz.prog 12 [ptr p] H K := by
  have hb := h.b
  have g1 : (Blk.row 58 [nv, .int .u64 (s.time : Int)] (0, 0)).cell 1 = some (.int .u64 (s.time : Int)) := rfl
  refine enter12 ?_
  repeat' ((conv => whnf); (first | refine Look.cell hb g1 ?_ | exact Keep.all hK | refine New.mk (fun _ => ?_) | refine Look.at0 ?_ | refine Cell.row ?_ | refine Cell.buf ?_ | refine Cells.row rfl ?_ | refine Put.row rfl ?_ | refine Put.buf rfl ?_ | refine Look.at1 ?_ | refine Look.at2 ?_ | refine Look.at3 ?_ | refine Look.at4 ?_ | refine Look.at5 ?_ | refine Look.at6 ?_ | refine Look.at7 ?_ | refine Look.at8 ?_ | with_reducible refine Val.i64 (by omega) (by omega) ?_ | with_reducible refine Val.u8 (by omega) (by omega) ?_ | with_reducible refine Val.u32 (by omega) (by omega) ?_ | with_reducible refine Val.u64 (by omega) (by omega) ?_ | with_reducible refine Val.u8m ?_ | with_reducible refine Val.u32m ?_ | with_reducible refine Val.u64m ?_ | with_reducible refine Val.shr8 ?_ | with_reducible refine Val.shr16 (by decide) ?_ | with_reducible refine Val.shr24 (by decide) ?_ | with_reducible refine Val.raw ?_ | refine Branch.not ?_ | refine Branch.and ?_ | refine Branch.or ?_ | refine Branch.dt (by assumption) ?_ | refine Branch.df (by assumption) ?_ | refine Branch.dt rfl ?_ | refine Branch.dt (by omega) ?_ | refine Branch.df (by omega) ?_ | refine Branch.t rfl ?_ | refine Branch.f rfl ?_ | refine Branch.t (by assumption) ?_ | refine Branch.f (by assumption) ?_ | refine Branch.d (fun _ => ?_) (fun _ => ?_) | refine Branch.mk (fun _ => ?_) (fun _ => ?_) | refine Need.mk (by first | omega | decide | rfl) ?_ | refine Idx.nat (by omega) ?_ | refine Idx.auto (by first | omega | decide) (by first | omega | decide) ?_ | refine Cell.ro rfl ?_ | refine SDraw.all (by kernel_rfl) ?_ | refine Kept.k0 ?_ | refine Kept.k1 ?_ | refine Kept.k2 ?_ | refine Kept.k3 ?_ | refine Kept.k4 ?_))
end
end Go.Proofs.YtiaginlnapiijaaGreatDoor


/- Ported (port.py) from WrS. -/
set_option linter.unusedVariables false
set_option linter.unusedSimpArgs false
set_option maxRecDepth 100000
set_option maxHeartbeats 4000000
namespace Go.Proofs.YtiaginlnapiijaaGreatDoor
open Sx
theorem back_keep {K : Heap → Prop} {H X G Y F' M1 M2 : Heap} {r u p time : Nat} {x : Nd} {bv iv nv : Value} (hF : (nB r u x.on bv iv :: uB u x.u :: bB p nv time :: (M1 ++ (M2 ++ X))).Perm F') (hk : K (F' ++ H))
    (hY : Y.Perm ((nB r u x.on bv iv :: uB u x.u :: bB p nv time :: (M1 ++ (M2 ++ X))) ++ H ++ G)) : Keep Y K :=
  Keep.mk (F' ++ H ++ G) (F' ++ H) (hY.trans ((hF.append_right H).append_right G)) (List.sublist_append_left _ _) hk
theorem Bs.at_of {s : Bs} {i : Int} (hi : s.is i) : s.ns[i.toNat]? = some (s.at i) := by
  obtain ⟨h0, h1⟩ := hi
  have hil : i.toNat < s.ns.length := by omega
  unfold Bs.at
  rw [List.getD_eq_getElem?_getD, List.getElem?_eq_getElem hil]; rfl
theorem Bs.put_self {s : Bs} {i : Int} (hi : s.is i) : s.put i (s.at i) = s := by
  have h := Bs.at_of hi
  obtain ⟨hlt, e⟩ := List.getElem?_eq_some_iff.1 h
  unfold Bs.put
  obtain ⟨time, ns⟩ := s
  dsimp only at *
  congr 1
  rw [← e, List.set_getElem_self]
section
variable {K : Value → Heap → Prop} {F H : Heap} {p : Nat} {s : Bs} {i : Int} {on : Bool} {f : Fm}
theorem bus_at (h : BusO p s F) (hi : s.is i) : ∃ r u bv iv M1 M2 X nv, BoxO bv (s.at i).box M1 ∧ Grow frC 12 39 iv (s.at i).inn M2 ∧ F.Perm (nB r u (s.at i).on bv iv :: uB u (s.at i).u :: bB p nv s.time :: (M1 ++ (M2 ++ X))) ∧
    (∀ (H : Heap) (K : Value → Heap → Prop), (∀ z ∈ F, z ∈ H) → K (.tuple ⟨[ptr r, zi 0]⟩) H → SCalls Tryz.prog 18 [ptr p, zi i] H K) ∧ (∀ H : Heap, (∀ z ∈ F, z ∈ H) → NdR r (s.at i) u bv iv H) ∧
      ∀ x' bv' iv' M1' M2', BoxO bv' x'.box M1' → Grow frC 12 39 iv' x'.inn M2' → ∃ F', BusO p (s.put i x') F' ∧ (nB r u x'.on bv' iv' :: uB u x'.u :: bB p nv s.time :: (M1' ++ (M2' ++ X))).Perm F' := by
  obtain ⟨r, u, bv, iv, M1, M2, X, nv, rs, g1, g2, g3, g4, g5, g6⟩ := h.focus (Bs.at_of hi)
  refine ⟨r, u, bv, iv, M1, M2, X, nv, g1, g2, g3, fun H K hs hk => ?_, fun H hs => ?_, fun x' bv' iv' M1' M2' => g6 s.time x' bv' iv' M1' M2'⟩
  · refine c18 (g5 H hs) (fun hn => absurd hi hn) (fun _ r' u' bv' iv' k1 k2 => ?_)
    rw [g4] at k1
    injection k1 with k1
    subst k1
    exact hk
  · have hs' : ∀ z ∈ nB r u (s.at i).on bv iv :: uB u (s.at i).u :: bB p nv s.time :: (M1 ++ (M2 ++ X)), z ∈ H := fun z hz => hs z (g3.symm.subset hz)
    exact ⟨hs' _ (.head _), hs' _ (.tail _ (.head _)), g1.read fun z hz => hs' _ (.tail _ (.tail _ (.tail _ (List.mem_append_left _ hz)))), g2.ins frC_len fun z hz => hs' _ (.tail _ (.tail _ (.tail _ (List.mem_append_right _ (List.mem_append_left _ hz)))))⟩
theorem bus_no (h : BusO p s F) (hi : ¬ s.is i) (hs : ∀ z ∈ F, z ∈ H) (hk : K (.tuple ⟨[.pointer none, zi 1]⟩) H) : SCalls Tryz.prog 18 [ptr p, zi i] H K := by
  obtain ⟨nv, rs, hr⟩ := h.read hs
  exact c18 hr (fun _ => hk) (fun hn => absurd hn hi)
theorem c8 (h : BusO p s F) (hK : ∀ F', BusO p (s.power i on).1 F' → K (zi (s.power i on).2) (F' ++ H)) : SCalls Tryz.prog 8 [ptr p, zi i, .bool on] (F ++ H) K := by
  unfold Bs.power at hK
  by_cases hi : s.is i
  · rw [if_pos hi] at hK
    obtain ⟨r, u, bv, iv, M1, M2, X, nv, g1, g2, g3, g4, _, g6⟩ := bus_at h hi
    have hp : (F ++ H).Perm (nB r u (s.at i).on bv iv :: uB u (s.at i).u :: bB p nv s.time :: ((M1 ++ (M2 ++ X)) ++ H)) := g3.append_right H
    refine SCalls.perm ?_ hp
    have h29 : ∀ K2 : Value → Heap → Prop, K2 (.tuple ⟨[ptr r, zi 0]⟩) (nB r u (s.at i).on bv iv :: uB u (s.at i).u :: bB p nv s.time :: ((M1 ++ (M2 ++ X)) ++ H)) → SCalls Tryz.prog 18 [ptr p, zi i] (nB r u (s.at i).on bv iv :: uB u (s.at i).u :: bB p nv s.time :: ((M1 ++ (M2 ++ X)) ++ H)) K2 := fun K2 hk =>
      g4 _ K2 (fun z hz => hp.subset (List.mem_append_left _ hz)) hk
    by_cases hon : (s.at i).on = on
    · rw [if_pos hon] at hK
      obtain ⟨F', k1, k2⟩ := g6 (s.at i) bv iv M1 M2 g1 g2
      rw [Bs.put_self hi] at k1
      have hfin := back_keep (K := fun H' => K (zi 0) H') (G := []) k2 (hK F' k1) (by rw [List.append_nil])
      clear hK g1 g2 g3 g4 g6 hp
      generalize s.at i = y at *
      obtain ⟨yon, yu, ybox, yinn⟩ := y
      dsimp only at hon hfin h29 ⊢
      subst hon
      refine enter8 ?_
      cases yon with
      | true =>
        repeat' ((conv => whnf); (first | with_reducible refine h29 _ ?_ | refine Branch.f rfl ?_ | exact hfin | refine New.mk (fun _ => ?_) | refine Look.at0 ?_ | refine Cell.row ?_ | refine Cell.buf ?_ | refine Cells.row rfl ?_ | refine Put.row rfl ?_ | refine Put.buf rfl ?_ | refine Look.at1 ?_ | refine Look.at2 ?_ | refine Look.at3 ?_ | refine Look.at4 ?_ | refine Look.at5 ?_ | refine Look.at6 ?_ | refine Look.at7 ?_ | refine Look.at8 ?_ | with_reducible refine Val.i64 (by omega) (by omega) ?_ | with_reducible refine Val.u8 (by omega) (by omega) ?_ | with_reducible refine Val.u32 (by omega) (by omega) ?_ | with_reducible refine Val.u64 (by omega) (by omega) ?_ | with_reducible refine Val.u8m ?_ | with_reducible refine Val.u32m ?_ | with_reducible refine Val.u64m ?_ | with_reducible refine Val.shr8 ?_ | with_reducible refine Val.shr16 (by decide) ?_ | with_reducible refine Val.shr24 (by decide) ?_ | with_reducible refine Val.raw ?_ | refine Branch.not ?_ | refine Branch.and ?_ | refine Branch.or ?_ | refine Branch.dt (by assumption) ?_ | refine Branch.df (by assumption) ?_ | refine Branch.dt rfl ?_ | refine Branch.dt (by omega) ?_ | refine Branch.df (by omega) ?_ | refine Branch.t rfl ?_ | refine Branch.f rfl ?_ | refine Branch.t (by assumption) ?_ | refine Branch.f (by assumption) ?_ | refine Branch.d (fun _ => ?_) (fun _ => ?_) | refine Branch.mk (fun _ => ?_) (fun _ => ?_) | refine Need.mk (by first | omega | decide | rfl) ?_ | refine Idx.nat (by omega) ?_ | refine Idx.auto (by first | omega | decide) (by first | omega | decide) ?_ | refine Cell.ro rfl ?_ | refine SDraw.all (by kernel_rfl) ?_ | refine Kept.k0 ?_ | refine Kept.k1 ?_ | refine Kept.k2 ?_ | refine Kept.k3 ?_ | refine Kept.k4 ?_))
      | false =>
        repeat' ((conv => whnf); (first | with_reducible refine h29 _ ?_ | refine Branch.f rfl ?_ | exact hfin | refine New.mk (fun _ => ?_) | refine Look.at0 ?_ | refine Cell.row ?_ | refine Cell.buf ?_ | refine Cells.row rfl ?_ | refine Put.row rfl ?_ | refine Put.buf rfl ?_ | refine Look.at1 ?_ | refine Look.at2 ?_ | refine Look.at3 ?_ | refine Look.at4 ?_ | refine Look.at5 ?_ | refine Look.at6 ?_ | refine Look.at7 ?_ | refine Look.at8 ?_ | with_reducible refine Val.i64 (by omega) (by omega) ?_ | with_reducible refine Val.u8 (by omega) (by omega) ?_ | with_reducible refine Val.u32 (by omega) (by omega) ?_ | with_reducible refine Val.u64 (by omega) (by omega) ?_ | with_reducible refine Val.u8m ?_ | with_reducible refine Val.u32m ?_ | with_reducible refine Val.u64m ?_ | with_reducible refine Val.shr8 ?_ | with_reducible refine Val.shr16 (by decide) ?_ | with_reducible refine Val.shr24 (by decide) ?_ | with_reducible refine Val.raw ?_ | refine Branch.not ?_ | refine Branch.and ?_ | refine Branch.or ?_ | refine Branch.dt (by assumption) ?_ | refine Branch.df (by assumption) ?_ | refine Branch.dt rfl ?_ | refine Branch.dt (by omega) ?_ | refine Branch.df (by omega) ?_ | refine Branch.t rfl ?_ | refine Branch.f rfl ?_ | refine Branch.t (by assumption) ?_ | refine Branch.f (by assumption) ?_ | refine Branch.d (fun _ => ?_) (fun _ => ?_) | refine Branch.mk (fun _ => ?_) (fun _ => ?_) | refine Need.mk (by first | omega | decide | rfl) ?_ | refine Idx.nat (by omega) ?_ | refine Idx.auto (by first | omega | decide) (by first | omega | decide) ?_ | refine Cell.ro rfl ?_ | refine SDraw.all (by kernel_rfl) ?_ | refine Kept.k0 ?_ | refine Kept.k1 ?_ | refine Kept.k2 ?_ | refine Kept.k3 ?_ | refine Kept.k4 ?_))
    · rw [if_neg hon] at hK
      obtain ⟨F', k1, k2⟩ := g6 ⟨on, u0, none, []⟩ (.slice none 0 0) (.slice none 0 0) [] [] .none .nil
      have hfin := back_keep (K := fun H' => K (zi 0) H') (Y := nB r u on (.slice none 0 0) (.slice none 0 0) :: uB u u0 :: bB p nv s.time :: ((M1 ++ (M2 ++ X)) ++ H)) (G := M1 ++ M2) k2 (hK F' k1) (perm_glue' (ls := [[nB r u on (.slice none 0 0) (.slice none 0 0), uB u u0, bB p nv s.time], M1, M2, X, H]) (p := [0, 1, 2, 3, 4]) (q := [0, 3, 4, 1, 2]) (by decide) (by simp [glue]) (by simp [glue]))
      have h30 : ∀ a R un (K2 : Value → Heap → Prop), K2 (.tuple ⟨[]⟩) (a :: uB u u0 :: R) → SCalls Tryz.prog 19 [ptr u] (a :: uB u un :: R) K2 := fun a R un K2 hk => SCalls.under [a] (c19 hk)
      clear hK g1 g2 g3 g4 g6 hp
      generalize s.at i = y at *
      obtain ⟨yon, yu, ybox, yinn⟩ := y
      dsimp only at hon hfin h29 ⊢
      refine enter8 ?_
      cases yon with
      | true =>
        obtain rfl : on = false := by cases on <;> simp_all
        repeat' ((conv => whnf); (first | with_reducible refine h29 _ ?_ | refine Branch.t rfl ?_ | with_reducible refine h30 _ _ _ _ ?_ | exact hfin | refine New.mk (fun _ => ?_) | refine Look.at0 ?_ | refine Cell.row ?_ | refine Cell.buf ?_ | refine Cells.row rfl ?_ | refine Put.row rfl ?_ | refine Put.buf rfl ?_ | refine Look.at1 ?_ | refine Look.at2 ?_ | refine Look.at3 ?_ | refine Look.at4 ?_ | refine Look.at5 ?_ | refine Look.at6 ?_ | refine Look.at7 ?_ | refine Look.at8 ?_ | with_reducible refine Val.i64 (by omega) (by omega) ?_ | with_reducible refine Val.u8 (by omega) (by omega) ?_ | with_reducible refine Val.u32 (by omega) (by omega) ?_ | with_reducible refine Val.u64 (by omega) (by omega) ?_ | with_reducible refine Val.u8m ?_ | with_reducible refine Val.u32m ?_ | with_reducible refine Val.u64m ?_ | with_reducible refine Val.shr8 ?_ | with_reducible refine Val.shr16 (by decide) ?_ | with_reducible refine Val.shr24 (by decide) ?_ | with_reducible refine Val.raw ?_ | refine Branch.not ?_ | refine Branch.and ?_ | refine Branch.or ?_ | refine Branch.dt (by assumption) ?_ | refine Branch.df (by assumption) ?_ | refine Branch.dt rfl ?_ | refine Branch.dt (by omega) ?_ | refine Branch.df (by omega) ?_ | refine Branch.t rfl ?_ | refine Branch.f rfl ?_ | refine Branch.t (by assumption) ?_ | refine Branch.f (by assumption) ?_ | refine Branch.d (fun _ => ?_) (fun _ => ?_) | refine Branch.mk (fun _ => ?_) (fun _ => ?_) | refine Need.mk (by first | omega | decide | rfl) ?_ | refine Idx.nat (by omega) ?_ | refine Idx.auto (by first | omega | decide) (by first | omega | decide) ?_ | refine Cell.ro rfl ?_ | refine SDraw.all (by kernel_rfl) ?_ | refine Kept.k0 ?_ | refine Kept.k1 ?_ | refine Kept.k2 ?_ | refine Kept.k3 ?_ | refine Kept.k4 ?_))
      | false =>
        obtain rfl : on = true := by cases on <;> simp_all
        repeat' ((conv => whnf); (first | with_reducible refine h29 _ ?_ | refine Branch.t rfl ?_ | with_reducible refine h30 _ _ _ _ ?_ | exact hfin | refine New.mk (fun _ => ?_) | refine Look.at0 ?_ | refine Cell.row ?_ | refine Cell.buf ?_ | refine Cells.row rfl ?_ | refine Put.row rfl ?_ | refine Put.buf rfl ?_ | refine Look.at1 ?_ | refine Look.at2 ?_ | refine Look.at3 ?_ | refine Look.at4 ?_ | refine Look.at5 ?_ | refine Look.at6 ?_ | refine Look.at7 ?_ | refine Look.at8 ?_ | with_reducible refine Val.i64 (by omega) (by omega) ?_ | with_reducible refine Val.u8 (by omega) (by omega) ?_ | with_reducible refine Val.u32 (by omega) (by omega) ?_ | with_reducible refine Val.u64 (by omega) (by omega) ?_ | with_reducible refine Val.u8m ?_ | with_reducible refine Val.u32m ?_ | with_reducible refine Val.u64m ?_ | with_reducible refine Val.shr8 ?_ | with_reducible refine Val.shr16 (by decide) ?_ | with_reducible refine Val.shr24 (by decide) ?_ | with_reducible refine Val.raw ?_ | refine Branch.not ?_ | refine Branch.and ?_ | refine Branch.or ?_ | refine Branch.dt (by assumption) ?_ | refine Branch.df (by assumption) ?_ | refine Branch.dt rfl ?_ | refine Branch.dt (by omega) ?_ | refine Branch.df (by omega) ?_ | refine Branch.t rfl ?_ | refine Branch.f rfl ?_ | refine Branch.t (by assumption) ?_ | refine Branch.f (by assumption) ?_ | refine Branch.d (fun _ => ?_) (fun _ => ?_) | refine Branch.mk (fun _ => ?_) (fun _ => ?_) | refine Need.mk (by first | omega | decide | rfl) ?_ | refine Idx.nat (by omega) ?_ | refine Idx.auto (by first | omega | decide) (by first | omega | decide) ?_ | refine Cell.ro rfl ?_ | refine SDraw.all (by kernel_rfl) ?_ | refine Kept.k0 ?_ | refine Kept.k1 ?_ | refine Kept.k2 ?_ | refine Kept.k3 ?_ | refine Kept.k4 ?_))
  · rw [if_neg hi] at hK
    have hk := hK F h
    have h29 := fun (K2 : Value → Heap → Prop) hk => bus_no (K := K2) (H := F ++ H) h hi (fun z hz => List.mem_append_left _ hz) hk
    clear hK
    refine enter8 ?_
    repeat' ((conv => whnf); (first | with_reducible refine h29 _ ?_ | refine Branch.f rfl ?_ | exact Keep.all hk | refine New.mk (fun _ => ?_) | refine Look.at0 ?_ | refine Cell.row ?_ | refine Cell.buf ?_ | refine Cells.row rfl ?_ | refine Put.row rfl ?_ | refine Put.buf rfl ?_ | refine Look.at1 ?_ | refine Look.at2 ?_ | refine Look.at3 ?_ | refine Look.at4 ?_ | refine Look.at5 ?_ | refine Look.at6 ?_ | refine Look.at7 ?_ | refine Look.at8 ?_ | with_reducible refine Val.i64 (by omega) (by omega) ?_ | with_reducible refine Val.u8 (by omega) (by omega) ?_ | with_reducible refine Val.u32 (by omega) (by omega) ?_ | with_reducible refine Val.u64 (by omega) (by omega) ?_ | with_reducible refine Val.u8m ?_ | with_reducible refine Val.u32m ?_ | with_reducible refine Val.u64m ?_ | with_reducible refine Val.shr8 ?_ | with_reducible refine Val.shr16 (by decide) ?_ | with_reducible refine Val.shr24 (by decide) ?_ | with_reducible refine Val.raw ?_ | refine Branch.not ?_ | refine Branch.and ?_ | refine Branch.or ?_ | refine Branch.dt (by assumption) ?_ | refine Branch.df (by assumption) ?_ | refine Branch.dt rfl ?_ | refine Branch.dt (by omega) ?_ | refine Branch.df (by omega) ?_ | refine Branch.t rfl ?_ | refine Branch.f rfl ?_ | refine Branch.t (by assumption) ?_ | refine Branch.f (by assumption) ?_ | refine Branch.d (fun _ => ?_) (fun _ => ?_) | refine Branch.mk (fun _ => ?_) (fun _ => ?_) | refine Need.mk (by first | omega | decide | rfl) ?_ | refine Idx.nat (by omega) ?_ | refine Idx.auto (by first | omega | decide) (by first | omega | decide) ?_ | refine Cell.ro rfl ?_ | refine SDraw.all (by kernel_rfl) ?_ | refine Kept.k0 ?_ | refine Kept.k1 ?_ | refine Kept.k2 ?_ | refine Kept.k3 ?_ | refine Kept.k4 ?_))
theorem c9 (h : BusO p s F) (hid : f.id < 4294967296) (hK : ∀ F', BusO p (s.submit i f).1 F' → K (zi (s.submit i f).2) (F' ++ H)) : SCalls Tryz.prog 9 [ptr p, zi i, frV f] (F ++ H) K := by
  unfold Bs.submit at hK
  have h31 : ∀ H (K2 : Value → Heap → Prop), K2 (zi (erF f)) H → SCalls Tryz.prog 20 [frV f] H K2 := fun H K2 hk => c20 hid hk
  have h33 : ∀ H (K2 : Value → Heap → Prop), K2 (frV (plF f)) H → SCalls Tryz.prog 22 [frV f] H K2 := fun H K2 hk => c22 hk
  unfold erF at h31
  by_cases hi : s.is i
  · rw [if_pos hi] at hK
    obtain ⟨r, u, bv, iv, M1, M2, X, nv, g1, g2, g3, g4, g5, g6⟩ := bus_at h hi
    have hp : (F ++ H).Perm (nB r u (s.at i).on bv iv :: uB u (s.at i).u :: bB p nv s.time :: ((M1 ++ (M2 ++ X)) ++ H)) := g3.append_right H
    refine SCalls.perm ?_ hp
    have h29 : ∀ z (K2 : Value → Heap → Prop), K2 (.tuple ⟨[ptr r, zi 0]⟩) (z :: nB r u (s.at i).on bv iv :: uB u (s.at i).u :: bB p nv s.time :: ((M1 ++ (M2 ++ X)) ++ H)) → SCalls Tryz.prog 18 [ptr p, zi i] (z :: nB r u (s.at i).on bv iv :: uB u (s.at i).u :: bB p nv s.time :: ((M1 ++ (M2 ++ X)) ++ H)) K2 := fun z K2 hk =>
      g4 _ K2 (fun z hz => .tail _ (hp.subset (List.mem_append_left _ hz))) hk
    have h32 : ∀ z (K2 : Value → Heap → Prop), K2 (.bool (s.at i).up) (z :: nB r u (s.at i).on bv iv :: uB u (s.at i).u :: bB p nv s.time :: ((M1 ++ (M2 ++ X)) ++ H)) → SCalls Tryz.prog 21 [ptr r] (z :: nB r u (s.at i).on bv iv :: uB u (s.at i).u :: bB p nv s.time :: ((M1 ++ (M2 ++ X)) ++ H)) K2 := fun z K2 hk =>
      c21 (g5 _ (fun z hz => .tail _ (hp.subset (List.mem_append_left _ hz)))) hk
    have g6a := g6 (s.at i) bv iv M1 M2 g1 g2
    have g6b := fun q => g6 ⟨(s.at i).on, (s.at i).u, some (plF f), (s.at i).inn⟩ _ iv _ M2 (.some (q := q)) g2
    rw [Bs.put_self hi] at g6a
    obtain ⟨F', k1, k2⟩ := g6a
    cases ho : okF f with
    | false =>
      rw [ho, if_neg (by decide)] at hK
      rw [ho] at h31
      have hfin := fun z : Nat × Blk => back_keep (K := fun H' => K (zi 1) H') (Y := z :: nB r u (s.at i).on bv iv :: uB u (s.at i).u :: bB p nv s.time :: ((M1 ++ (M2 ++ X)) ++ H)) (G := [z]) k2 (hK F' k1) (List.perm_append_singleton _ _).symm
      clear hK g6b g6 g5 g4 g3 hp g2 g1 h32
      refine enter9 ?_
      repeat' ((conv => whnf); (first | with_reducible refine h29 _ _ ?_ | refine Branch.f rfl ?_ | with_reducible refine h31 _ _ ?_ | refine Branch.t rfl ?_ | exact hfin _ | refine New.mk (fun _ => ?_) | refine Look.at0 ?_ | refine Cell.row ?_ | refine Cell.buf ?_ | refine Cells.row rfl ?_ | refine Put.row rfl ?_ | refine Put.buf rfl ?_ | refine Look.at1 ?_ | refine Look.at2 ?_ | refine Look.at3 ?_ | refine Look.at4 ?_ | refine Look.at5 ?_ | refine Look.at6 ?_ | refine Look.at7 ?_ | refine Look.at8 ?_ | with_reducible refine Val.i64 (by omega) (by omega) ?_ | with_reducible refine Val.u8 (by omega) (by omega) ?_ | with_reducible refine Val.u32 (by omega) (by omega) ?_ | with_reducible refine Val.u64 (by omega) (by omega) ?_ | with_reducible refine Val.u8m ?_ | with_reducible refine Val.u32m ?_ | with_reducible refine Val.u64m ?_ | with_reducible refine Val.shr8 ?_ | with_reducible refine Val.shr16 (by decide) ?_ | with_reducible refine Val.shr24 (by decide) ?_ | with_reducible refine Val.raw ?_ | refine Branch.not ?_ | refine Branch.and ?_ | refine Branch.or ?_ | refine Branch.dt (by assumption) ?_ | refine Branch.df (by assumption) ?_ | refine Branch.dt rfl ?_ | refine Branch.dt (by omega) ?_ | refine Branch.df (by omega) ?_ | refine Branch.t rfl ?_ | refine Branch.f rfl ?_ | refine Branch.t (by assumption) ?_ | refine Branch.f (by assumption) ?_ | refine Branch.d (fun _ => ?_) (fun _ => ?_) | refine Branch.mk (fun _ => ?_) (fun _ => ?_) | refine Need.mk (by first | omega | decide | rfl) ?_ | refine Idx.nat (by omega) ?_ | refine Idx.auto (by first | omega | decide) (by first | omega | decide) ?_ | refine Cell.ro rfl ?_ | refine SDraw.all (by kernel_rfl) ?_ | refine Kept.k0 ?_ | refine Kept.k1 ?_ | refine Kept.k2 ?_ | refine Kept.k3 ?_ | refine Kept.k4 ?_))
    | true =>
      rw [ho, if_pos rfl] at hK
      rw [ho, if_pos rfl] at h31
      clear g6 g5 g4 g3 hp g2
      cases hu : (s.at i).up with
      | false =>
        rw [hu, if_neg (by decide)] at hK
        rw [hu] at h32
        have hfin := fun z : Nat × Blk => back_keep (K := fun H' => K (zi 30) H') (Y := z :: nB r u (s.at i).on bv iv :: uB u (s.at i).u :: bB p nv s.time :: ((M1 ++ (M2 ++ X)) ++ H)) (G := [z]) k2 (hK F' k1) (List.perm_append_singleton _ _).symm
        clear hK g6b g1
        refine enter9 ?_
        repeat' ((conv => whnf); (first | with_reducible refine h29 _ _ ?_ | refine Branch.f rfl ?_ | with_reducible refine h31 _ _ ?_ | with_reducible refine h32 _ _ ?_ | refine Branch.t rfl ?_ | exact hfin _ | refine New.mk (fun _ => ?_) | refine Look.at0 ?_ | refine Cell.row ?_ | refine Cell.buf ?_ | refine Cells.row rfl ?_ | refine Put.row rfl ?_ | refine Put.buf rfl ?_ | refine Look.at1 ?_ | refine Look.at2 ?_ | refine Look.at3 ?_ | refine Look.at4 ?_ | refine Look.at5 ?_ | refine Look.at6 ?_ | refine Look.at7 ?_ | refine Look.at8 ?_ | with_reducible refine Val.i64 (by omega) (by omega) ?_ | with_reducible refine Val.u8 (by omega) (by omega) ?_ | with_reducible refine Val.u32 (by omega) (by omega) ?_ | with_reducible refine Val.u64 (by omega) (by omega) ?_ | with_reducible refine Val.u8m ?_ | with_reducible refine Val.u32m ?_ | with_reducible refine Val.u64m ?_ | with_reducible refine Val.shr8 ?_ | with_reducible refine Val.shr16 (by decide) ?_ | with_reducible refine Val.shr24 (by decide) ?_ | with_reducible refine Val.raw ?_ | refine Branch.not ?_ | refine Branch.and ?_ | refine Branch.or ?_ | refine Branch.dt (by assumption) ?_ | refine Branch.df (by assumption) ?_ | refine Branch.dt rfl ?_ | refine Branch.dt (by omega) ?_ | refine Branch.df (by omega) ?_ | refine Branch.t rfl ?_ | refine Branch.f rfl ?_ | refine Branch.t (by assumption) ?_ | refine Branch.f (by assumption) ?_ | refine Branch.d (fun _ => ?_) (fun _ => ?_) | refine Branch.mk (fun _ => ?_) (fun _ => ?_) | refine Need.mk (by first | omega | decide | rfl) ?_ | refine Idx.nat (by omega) ?_ | refine Idx.auto (by first | omega | decide) (by first | omega | decide) ?_ | refine Cell.ro rfl ?_ | refine SDraw.all (by kernel_rfl) ?_ | refine Kept.k0 ?_ | refine Kept.k1 ?_ | refine Kept.k2 ?_ | refine Kept.k3 ?_ | refine Kept.k4 ?_))
      | true =>
        rw [hu, if_pos rfl] at hK
        rw [hu] at h32
        generalize s.at i = y at *
        obtain ⟨yon, yu, ybox, yinn⟩ := y
        dsimp only at g1 g6b h29 h32 hK k2 ⊢
        refine enter9 ?_
        cases g1 with
        | none =>
          rw [if_neg (by decide)] at hK
          have hfin : ∀ (z : Nat × Blk) (qq : Nat), Keep ((qq, .row 39 (frC (plF f)) (0, 0)) :: z :: nB r u yon (.slice (some ⟨qq, 0, none⟩) 1 1) iv :: uB u yu :: bB p nv s.time :: (([] ++ (M2 ++ X)) ++ H)) (fun H' => K (zi 0) H') := fun z qq => by
            obtain ⟨F2, j1, j2⟩ := g6b qq
            exact back_keep (K := fun H' => K (zi 0) H') (x := ⟨yon, yu, some (plF f), yinn⟩) (Y := (qq, .row 39 (frC (plF f)) (0, 0)) :: z :: nB r u yon (.slice (some ⟨qq, 0, none⟩) 1 1) iv :: uB u yu :: bB p nv s.time :: (([] ++ (M2 ++ X)) ++ H)) (G := [z]) j2 (hK F2 j1) (perm_glue' (ls := [[(qq, .row 39 (frC (plF f)) (0, 0))], [z], [nB r u yon (.slice (some ⟨qq, 0, none⟩) 1 1) iv, uB u yu, bB p nv s.time], M2, X, H]) (p := [0, 1, 2, 3, 4, 5]) (q := [2, 0, 3, 4, 5, 1]) (by decide) (by simp [glue]) (by simp [glue]))
          clear hK g6b
          repeat' ((conv => whnf); (first | with_reducible refine h29 _ _ ?_ | refine Branch.f rfl ?_ | with_reducible refine h31 _ _ ?_ | with_reducible refine h32 _ _ ?_ | with_reducible refine h33 _ _ ?_ | exact hfin _ _ | refine New.mk (fun _ => ?_) | refine Look.at0 ?_ | refine Cell.row ?_ | refine Cell.buf ?_ | refine Cells.row rfl ?_ | refine Put.row rfl ?_ | refine Put.buf rfl ?_ | refine Look.at1 ?_ | refine Look.at2 ?_ | refine Look.at3 ?_ | refine Look.at4 ?_ | refine Look.at5 ?_ | refine Look.at6 ?_ | refine Look.at7 ?_ | refine Look.at8 ?_ | with_reducible refine Val.i64 (by omega) (by omega) ?_ | with_reducible refine Val.u8 (by omega) (by omega) ?_ | with_reducible refine Val.u32 (by omega) (by omega) ?_ | with_reducible refine Val.u64 (by omega) (by omega) ?_ | with_reducible refine Val.u8m ?_ | with_reducible refine Val.u32m ?_ | with_reducible refine Val.u64m ?_ | with_reducible refine Val.shr8 ?_ | with_reducible refine Val.shr16 (by decide) ?_ | with_reducible refine Val.shr24 (by decide) ?_ | with_reducible refine Val.raw ?_ | refine Branch.not ?_ | refine Branch.and ?_ | refine Branch.or ?_ | refine Branch.dt (by assumption) ?_ | refine Branch.df (by assumption) ?_ | refine Branch.dt rfl ?_ | refine Branch.dt (by omega) ?_ | refine Branch.df (by omega) ?_ | refine Branch.t rfl ?_ | refine Branch.f rfl ?_ | refine Branch.t (by assumption) ?_ | refine Branch.f (by assumption) ?_ | refine Branch.d (fun _ => ?_) (fun _ => ?_) | refine Branch.mk (fun _ => ?_) (fun _ => ?_) | refine Need.mk (by first | omega | decide | rfl) ?_ | refine Idx.nat (by omega) ?_ | refine Idx.auto (by first | omega | decide) (by first | omega | decide) ?_ | refine Cell.ro rfl ?_ | refine SDraw.all (by kernel_rfl) ?_ | refine Kept.k0 ?_ | refine Kept.k1 ?_ | refine Kept.k2 ?_ | refine Kept.k3 ?_ | refine Kept.k4 ?_))
        | @some q g =>
          rw [if_pos (show (some g : Option Fm).isSome = true from rfl)] at hK
          have hfin := fun z : Nat × Blk => back_keep (K := fun H' => K (zi 31) H') (x := ⟨yon, yu, some g, yinn⟩) (Y := z :: nB r u yon (.slice (some ⟨q, 0, none⟩) 1 1) iv :: uB u yu :: bB p nv s.time :: (([(q, .row 39 (frC g) (0, 0))] ++ (M2 ++ X)) ++ H)) (G := [z]) k2 (hK F' k1) (List.perm_append_singleton _ _).symm
          clear hK g6b
          repeat' ((conv => whnf); (first | with_reducible refine h29 _ _ ?_ | refine Branch.f rfl ?_ | with_reducible refine h31 _ _ ?_ | with_reducible refine h32 _ _ ?_ | refine Branch.t rfl ?_ | exact hfin _ | refine New.mk (fun _ => ?_) | refine Look.at0 ?_ | refine Cell.row ?_ | refine Cell.buf ?_ | refine Cells.row rfl ?_ | refine Put.row rfl ?_ | refine Put.buf rfl ?_ | refine Look.at1 ?_ | refine Look.at2 ?_ | refine Look.at3 ?_ | refine Look.at4 ?_ | refine Look.at5 ?_ | refine Look.at6 ?_ | refine Look.at7 ?_ | refine Look.at8 ?_ | with_reducible refine Val.i64 (by omega) (by omega) ?_ | with_reducible refine Val.u8 (by omega) (by omega) ?_ | with_reducible refine Val.u32 (by omega) (by omega) ?_ | with_reducible refine Val.u64 (by omega) (by omega) ?_ | with_reducible refine Val.u8m ?_ | with_reducible refine Val.u32m ?_ | with_reducible refine Val.u64m ?_ | with_reducible refine Val.shr8 ?_ | with_reducible refine Val.shr16 (by decide) ?_ | with_reducible refine Val.shr24 (by decide) ?_ | with_reducible refine Val.raw ?_ | refine Branch.not ?_ | refine Branch.and ?_ | refine Branch.or ?_ | refine Branch.dt (by assumption) ?_ | refine Branch.df (by assumption) ?_ | refine Branch.dt rfl ?_ | refine Branch.dt (by omega) ?_ | refine Branch.df (by omega) ?_ | refine Branch.t rfl ?_ | refine Branch.f rfl ?_ | refine Branch.t (by assumption) ?_ | refine Branch.f (by assumption) ?_ | refine Branch.d (fun _ => ?_) (fun _ => ?_) | refine Branch.mk (fun _ => ?_) (fun _ => ?_) | refine Need.mk (by first | omega | decide | rfl) ?_ | refine Idx.nat (by omega) ?_ | refine Idx.auto (by first | omega | decide) (by first | omega | decide) ?_ | refine Cell.ro rfl ?_ | refine SDraw.all (by kernel_rfl) ?_ | refine Kept.k0 ?_ | refine Kept.k1 ?_ | refine Kept.k2 ?_ | refine Kept.k3 ?_ | refine Kept.k4 ?_))
  · rw [if_neg hi] at hK
    have hk := hK F h
    have h29 := fun (z : Nat × Blk) (K2 : Value → Heap → Prop) hk => bus_no (K := K2) (H := z :: (F ++ H)) h hi (fun z hz => .tail _ (List.mem_append_left _ hz)) hk
    clear hK
    refine enter9 ?_
    repeat' ((conv => whnf); (first | with_reducible refine h29 _ _ ?_ | refine Branch.t rfl ?_ | exact Keep.d1 hk | refine New.mk (fun _ => ?_) | refine Look.at0 ?_ | refine Cell.row ?_ | refine Cell.buf ?_ | refine Cells.row rfl ?_ | refine Put.row rfl ?_ | refine Put.buf rfl ?_ | refine Look.at1 ?_ | refine Look.at2 ?_ | refine Look.at3 ?_ | refine Look.at4 ?_ | refine Look.at5 ?_ | refine Look.at6 ?_ | refine Look.at7 ?_ | refine Look.at8 ?_ | with_reducible refine Val.i64 (by omega) (by omega) ?_ | with_reducible refine Val.u8 (by omega) (by omega) ?_ | with_reducible refine Val.u32 (by omega) (by omega) ?_ | with_reducible refine Val.u64 (by omega) (by omega) ?_ | with_reducible refine Val.u8m ?_ | with_reducible refine Val.u32m ?_ | with_reducible refine Val.u64m ?_ | with_reducible refine Val.shr8 ?_ | with_reducible refine Val.shr16 (by decide) ?_ | with_reducible refine Val.shr24 (by decide) ?_ | with_reducible refine Val.raw ?_ | refine Branch.not ?_ | refine Branch.and ?_ | refine Branch.or ?_ | refine Branch.dt (by assumption) ?_ | refine Branch.df (by assumption) ?_ | refine Branch.dt rfl ?_ | refine Branch.dt (by omega) ?_ | refine Branch.df (by omega) ?_ | refine Branch.t rfl ?_ | refine Branch.f rfl ?_ | refine Branch.t (by assumption) ?_ | refine Branch.f (by assumption) ?_ | refine Branch.d (fun _ => ?_) (fun _ => ?_) | refine Branch.mk (fun _ => ?_) (fun _ => ?_) | refine Need.mk (by first | omega | decide | rfl) ?_ | refine Idx.nat (by omega) ?_ | refine Idx.auto (by first | omega | decide) (by first | omega | decide) ?_ | refine Cell.ro rfl ?_ | refine SDraw.all (by kernel_rfl) ?_ | refine Kept.k0 ?_ | refine Kept.k1 ?_ | refine Kept.k2 ?_ | refine Kept.k3 ?_ | refine Kept.k4 ?_))
end
end Go.Proofs.YtiaginlnapiijaaGreatDoor


/- Ported (port.py) from WrT. -/
set_option linter.unusedVariables false
set_option linter.unusedSimpArgs false
set_option maxRecDepth 100000
set_option maxHeartbeats 4000000
namespace Go.Proofs.YtiaginlnapiijaaGreatDoor
open Sx
inductive S24 (A3 A4 A14 A15 A16 : Value) : List Value → Prop
  | mk {r0 r1 r2 r5 r6 r7 r8 r9 r10 r11 r12 r13 r17 r18 r19 r20 r21 r22 r23 r24 r25 r26 r27 r28 r29 r30 r31 r32 r33 r34 r35 r36 r37 r38 r39 r40 r41 r42 r43 r44 r45 r46 r47 r48 r49 r50 r51 r52 r53 r54 r55 r56 r57 r58 : Value} : S24 A3 A4 A14 A15 A16 [r0, r1, r2, A3, A4, r5, r6, r7, r8, r9, r10, r11, r12, r13, A14, A15, A16, r17, r18, r19, r20, r21, r22, r23, r24, r25, r26, r27, r28, r29, r30, r31, r32, r33, r34, r35, r36, r37, r38, r39, r40, r41, r42, r43, r44, r45, r46, r47, r48, r49, r50, r51, r52, r53, r54, r55, r56, r57, r58]
/-- The keys of what was seen. -/
def SeenK (l : List (Ent (List UInt8))) (pre : List Nd) : Prop := ∀ b : List UInt8, b ∈ l.map Ent.key ↔ ∃ y ∈ pre, ∃ g, y.box = some g ∧ y.up = true ∧ fld g = b
theorem seen_any {l : List (Ent (List UInt8))} {pre : List Nd} (h : SeenK l pre) (f : Fm) : (pre.any fun y => fldO y f) = true ↔ fld f ∈ l.map Ent.key := by
  rw [h, List.any_eq_true]
  constructor
  · rintro ⟨y, hy, h1⟩
    unfold fldO at h1
    cases hb : y.box with
    | none => rw [hb] at h1; cases h1
    | some g =>
      rw [hb] at h1
      simp only [Bool.and_eq_true, decide_eq_true_eq] at h1
      exact ⟨y, hy, g, hb, h1.1, h1.2⟩
  · rintro ⟨y, hy, g, h1, h2, h3⟩
    refine ⟨y, hy, ?_⟩
    unfold fldO
    rw [h1, h2]
    show (true && decide (fld g = fld f)) = true
    rw [h3]; simp
theorem SeenK.skip {l : List (Ent (List UInt8))} {pre : List Nd} {x : Nd} (h : SeenK l pre) (hx : x.box = none ∨ x.up = false) : SeenK l (pre ++ [x]) := by
  intro b
  rw [h b]
  constructor
  · rintro ⟨y, hy, h1⟩; exact ⟨y, List.mem_append_left _ hy, h1⟩
  · rintro ⟨y, hy, g, h1, h2, h3⟩
    rcases List.mem_append.1 hy with hy | hy
    · exact ⟨y, hy, g, h1, h2, h3⟩
    · obtain rfl := List.mem_singleton.1 hy
      rcases hx with hx | hx
      · rw [hx] at h1; cases h1
      · rw [hx] at h2; cases h2
theorem SeenK.more {l l' : List (Ent (List UInt8))} {pre : List Nd} {x : Nd} {f : Fm} (h : SeenK l pre) (hb : x.box = some f) (hu : x.up = true) (hl : ∀ b, b ∈ l'.map Ent.key ↔ b ∈ l.map Ent.key ∨ b = fld f) : SeenK l' (pre ++ [x]) := by
  intro b
  rw [hl, h b]
  constructor
  · rintro (⟨y, hy, h1⟩ | rfl)
    · exact ⟨y, List.mem_append_left _ hy, h1⟩
    · exact ⟨x, List.mem_append_right _ (.head _), f, hb, hu, rfl⟩
  · rintro ⟨y, hy, g, h1, h2, h3⟩
    rcases List.mem_append.1 hy with hy | hy
    · exact .inl ⟨y, hy, g, h1, h2, h3⟩
    · obtain rfl := List.mem_singleton.1 hy
      rw [hb] at h1
      injection h1 with h1
      subst h1
      exact .inr h3.symm
theorem set_keys {l : List (Ent (List UInt8))} {j : Nat} {e e' : Ent (List UInt8)} (hj : l[j]? = some e) (hk : e'.key = e.key) : (l.set j e').map Ent.key = l.map Ent.key := by
  rw [List.map_set, hk]
  obtain ⟨hlt, rfl⟩ := List.getElem?_eq_some_iff.1 hj
  have : (l.map Ent.key)[j]'(by simpa using hlt) = l[j].key := by simp
  rw [← this, List.set_getElem_self]
structure T36 where
  (k : Nat) (l : List (Ent (List UInt8))) (c : Nat)
def I36 (pm : Nat) (nv : Value) (ns : List Nd) (H : Heap) (y : T36) (S : List Value) (H' : Heap) : Prop :=
  y.k ≤ ns.length ∧ SeenK y.l (ns.take y.k) ∧ (∀ e ∈ y.l, e.val = .bool true) ∧ ∃ a c M, Grow snC 14 119 (.slice a y.k c) (sndN [] (ns.take y.k)) M ∧ S24 (.map (some pm)) (.slice a y.k c) nv (.int .i64 (ns.length : Int)) (.int .i64 (y.k : Int)) S ∧ H' = (pm, mapB kS y.l y.c) :: (M ++ H)
section
variable {K : Value → Heap → Prop} {H : Heap} {p : Nat} {s : Bs} {nv : Value} {rs : List Nat}
theorem c24 (hD : Db H) (h : BusR p s nv rs H) (hw : ∀ x ∈ s.ns, NdW x) (hn : s.ns.length ≤ 127) (hK : ∀ a c M, Grow snC 14 119 (.slice a s.ns.length c) (sndN [] s.ns) M → K (.slice a s.ns.length c) (M ++ H)) : SCalls Tryz.prog 24 [ptr p] H K := by
  obtain ⟨na, nc, rfl⟩ := h.sv
  have hb := h.b
  have g0 : (Blk.row 58 [.slice na s.ns.length nc, .int .u64 (s.time : Int)] (0, 0)).cell 0 = some (.slice na s.ns.length nc) := rfl
  refine enter24 ?_
  repeat' ((conv => whnf); (first | refine RawV.mkMap kS rfl (fun pm => ?_) | refine Look.cell (.tail _ hb) g0 ?_))
  refine SLoop.invA (I36 pm (.slice na s.ns.length nc) s.ns H) (fun y => s.ns.length - y.k) ⟨0, [], 0⟩ (Keep.all ⟨Nat.zero_le _, fun b => by simp, by simp, none, 0, [], .nil, .mk, rfl⟩) ?_
  rintro ⟨k, l, c2⟩ S H' ⟨hk, hkeys, hvals, a, c, M, hG, hS, rfl⟩ R hR
  dsimp only at hk hkeys hvals hG hS hR ⊢
  by_cases hlt : k < s.ns.length
  · obtain ⟨x, hx, _, htake⟩ := list_at hlt
    have hxw := hw x (List.mem_of_getElem? hx)
    obtain ⟨r, u, bv, iv, o, r0, c3, b, k1, k2, e1, k3, k4⟩ := h.at hx
    injection e1 with e1 _ e3
    subst e1
    have hsn := sndN_snoc x (s.ns.take k) []
    rw [← htake, List.nil_append] at hsn
    have hlen : (sndN [] (s.ns.take k)).length = k := by rw [sndN_len, List.length_take]; omega
    have hsub : ∀ y : Nat × Blk, ∀ z ∈ H, z ∈ y :: (M ++ H) := fun y z hz => .tail _ (List.mem_append_right _ hz)
    have hsub2 : ∀ y w : Nat × Blk, ∀ z ∈ H, z ∈ y :: w :: (M ++ H) := fun y w z hz => .tail _ (.tail _ (List.mem_append_right _ hz))
    have h32 : ∀ y (K2 : Value → Heap → Prop), K2 (.bool x.up) (y :: (M ++ H)) → SCalls Tryz.prog 21 [ptr r] (y :: (M ++ H)) K2 := fun y K2 hk => c21 (k2.mono (hsub y)) hk
    have happ : ∀ (sn : Sn) q t m (o : Oper) (xs xx : Operand) (K2 : Value → Heap → Prop), o.op = .call { callee := .builtin .append, args := #[xs, xx], argTypes := #[71, 71] } → (∀ a c M', Grow snC 14 119 (.slice a (k + 1) c) (sndN [] (s.ns.take k) ++ [sn]) M' → K2 (.slice a (k + 1) c) (M' ++ ((q, .row 119 (snC sn) (0, 0)) :: t :: m :: H))) →
        RawV Tryz.prog o [.slice a k c, .slice (some ⟨q, 0, none⟩) 1 1] ((q, .row 119 (snC sn) (0, 0)) :: t :: m :: (M ++ H)) K2 := by
      intro sn q t m o xs xx K2 ho hk
      refine RawV.grow1 (A := [(q, .row 119 (snC sn) (0, 0)), t, m]) (B := H) (x := sn) (bytes := 32) hG rfl (.head _) ho (by kernel_rfl) (by decide) snC_len (snC_one sn) (by rw [hlen]; simp only [maxLen]; omega) (by rw [hlen]; omega) (fun a c M' g1 => ?_)
      rw [hlen] at g1 ⊢
      exact hk a c M' g1
    have hnext : ∀ l' c' S a' c'' M' q t, SeenK l' (s.ns.take (k + 1)) → (∀ e ∈ l', e.val = .bool true) → Grow snC 14 119 (.slice a' (k + 1) c'') (sndN [] (s.ns.take k) ++ [snd1 (s.ns.take k) x]) M' → S24 (.map (some pm)) (.slice a' (k + 1) c'') (.slice (some ⟨r0, o, none⟩) s.ns.length nc) (.int .i64 (s.ns.length : Int)) (.int .i64 ((k + 1 : Nat) : Int)) S → R S (M' ++ (q :: t :: (pm, mapB kS l' c') :: H)) := by
      intro l' c' S a' c'' M' q t h1 h2 h3 h4
      refine hR ⟨k + 1, l', c'⟩ S _ (by show s.ns.length - (k + 1) < s.ns.length - k; omega) (Keep.glue [M', [q, t], [(pm, mapB kS l' c')], H] [0, 1, 2, 3] [2, 0, 3] [1] (by decide) rfl ⟨hlt, h1, h2, a', c'', M', ?_, h4, rfl⟩)
      show Grow snC 14 119 (.slice a' (k + 1) c'') (sndN [] (s.ns.take (k + 1))) M'
      rw [hsn]; exact h3
    have hn2 := k2.n
    have hbox := k2.b
    have hup := hxw.up
    have hok := hxw.ok
    have hany := fun f => seen_any hkeys f
    rw [htake] at hnext
    have hskip := hkeys.skip (x := x)
    have hmore := fun l' f hb hu => SeenK.more (l' := l') (x := x) (f := f) hkeys hb hu
    clear hR hK htake hsn k2 hkeys
    cases hS
    generalize hU : x.up = U at *
    unfold snd1 at hnext
    cases U with
    | false =>
      have hb0 := hup rfl
      rw [hb0, hU] at hnext
      dsimp only at hnext
      have hsk := hskip (.inr rfl)
      repeat' ((conv => whnf); (first | refine Look.cell (hsub _ _ k3) k4 ?_ | with_reducible refine h32 _ _ ?_ | refine Branch.f rfl ?_ | refine happ ⟨false, false, z0⟩ _ _ _ _ _ _ _ rfl (fun a' c' M' g1 => ?_) | exact hnext _ _ _ _ _ _ _ _ hsk hvals g1 .mk | refine New.mk (fun _ => ?_) | refine Look.at0 ?_ | refine Cell.row ?_ | refine Cells.row rfl ?_ | refine Put.row rfl ?_ | with_reducible refine Val.i64 (by omega) (by omega) ?_ | refine Branch.dt (by omega) ?_ | refine Idx.nat (by omega) ?_))
    | true =>
      obtain ⟨xon, xu, xbox, xinn⟩ := x
      dsimp only at hbox hnext hn2 hok hskip hmore
      rw [hU] at hnext
      have gb : (Blk.row 64 [.bool xon, ptr u, bv, iv] (0, 0)).cell 2 = some bv := rfl
      cases hbox with
      | none =>
        dsimp only at hnext
        have hsk := hskip (.inl rfl)
        repeat' ((conv => whnf); (first | refine Look.cell (hsub _ _ k3) k4 ?_ | refine Look.cell (hsub2 _ _ _ hn2) gb ?_ | with_reducible refine h32 _ _ ?_ | refine Branch.f rfl ?_ | refine happ ⟨true, false, z0⟩ _ _ _ _ _ _ _ rfl (fun a' c' M' g1 => ?_) | exact hnext _ _ _ _ _ _ _ _ hsk hvals g1 .mk | refine New.mk (fun _ => ?_) | refine Look.at0 ?_ | refine Cell.row ?_ | refine Cells.row rfl ?_ | refine Put.row rfl ?_ | with_reducible refine Val.i64 (by omega) (by omega) ?_ | refine Branch.dt (by omega) ?_ | refine Branch.t rfl ?_ | refine Idx.nat (by omega) ?_))
      | @some q f hm =>
        dsimp only at hnext
        obtain ⟨hof, _⟩ := hok f rfl
        have hfid := (okF_bd hof).1
        have hcf : ∀ i v, (frC f)[i]? = some v → (Blk.row 39 (frC f) (0, 0)).cell (0 + 0 * 12 + i) = some v := fun i v hv => by rw [Nat.zero_mul, Nat.zero_add]; exact hv
        have h15 : ∀ y w (K2 : Value → Heap → Prop), K2 (.tuple ⟨[.string (strOf (fld f)), zi 0]⟩) (y :: w :: (M ++ H)) → SCalls Tryz.prog 39 [frV f] (y :: w :: (M ++ H)) K2 := fun y w K2 hk => c39 hfid (hD.mono (hsub2 y w)) (by unfold fV; rw [if_pos hof]; exact hk)
        have hmo := fun l' => hmore l' f rfl rfl
        cases hs : ((s.ns.take k).any fun y => fldO y f) with
        | true =>
          have hin := (hany f).1 hs
          rw [hs] at hnext
          obtain ⟨e0, he0, hek⟩ := List.mem_map.1 hin
          have hup2 : ∀ j e, l[j]? = some e → e.key = fld f → SeenK (l.set j ⟨fld f, .bool true, e.born⟩) (s.ns.take k ++ [⟨xon, xu, some f, xinn⟩]) ∧ ∀ e' ∈ l.set j ⟨fld f, .bool true, e.born⟩, e'.val = .bool true := fun j e hj hke => by
            refine ⟨hmo _ fun b => ?_, fun e' he' => ?_⟩
            · rw [set_keys hj (by exact hke.symm)]
              exact ⟨.inl, fun h => h.elim id fun h => h ▸ hin⟩
            · rcases List.mem_or_eq_of_mem_set he' with h | rfl
              · exact hvals _ h
              · rfl
          repeat' ((conv => whnf); (first | refine Look.cell (hsub _ _ k3) k4 ?_ | refine Look.cell (hsub2 _ _ _ hn2) gb ?_ | refine Look.cells (hsub2 _ _ _ hm) rfl hcf ?_ | with_reducible refine h32 _ _ ?_ | refine Branch.t rfl ?_ | with_reducible refine h15 _ _ _ ?_ | refine RawV.look (f := kS) (a := fld f) rfl hty134 keysS (.tail _ (.head _)) (fun hno => absurd hek (hno e0 he0)) (fun i e hi he => ?_) | (rw [hvals _ (List.mem_of_getElem? hi)]) | refine RawV.upd (A := [_]) (f := kS) (a := fld f) rfl hty134 keysS (fun hno => absurd hek (hno e0 he0)) (fun j e2 hj hke => ?_) | refine happ ⟨true, false, f⟩ _ _ _ _ _ _ _ rfl (fun a' c' M' g1 => ?_) | exact hnext _ _ _ _ _ _ _ _ (hup2 _ _ hj hke).1 (hup2 _ _ hj hke).2 g1 .mk | refine New.mk (fun _ => ?_) | refine Look.at0 ?_ | refine Cell.row ?_ | refine Cells.row rfl ?_ | refine Put.row rfl ?_ | with_reducible refine Val.i64 (by omega) (by omega) ?_ | refine Branch.dt (by omega) ?_ | refine Idx.nat (by omega) ?_ | refine Idx.auto (by first | omega | decide) (by first | omega | decide) ?_))
        | false =>
          have hin : ¬ fld f ∈ l.map Ent.key := fun h => by rw [(hany f).2 h] at hs; cases hs
          rw [hs] at hnext
          have hno2 : ∀ e ∈ l, e.key ≠ fld f := fun e he hk => hin (List.mem_map.2 ⟨e, he, hk⟩)
          have hup2 : SeenK (l ++ [⟨fld f, .bool true, c2⟩]) (s.ns.take k ++ [⟨xon, xu, some f, xinn⟩]) ∧ ∀ e' ∈ l ++ [(⟨fld f, .bool true, c2⟩ : Ent (List UInt8))], e'.val = .bool true := by
            refine ⟨hmo _ fun b => ?_, fun e' he' => ?_⟩
            · rw [List.map_append, List.mem_append, List.map_cons, List.map_nil, List.mem_singleton]
            · rcases List.mem_append.1 he' with h | h
              · exact hvals _ h
              · obtain rfl := List.mem_singleton.1 h; rfl
          repeat' ((conv => whnf); (first | refine Look.cell (hsub _ _ k3) k4 ?_ | refine Look.cell (hsub2 _ _ _ hn2) gb ?_ | refine Look.cells (hsub2 _ _ _ hm) rfl hcf ?_ | with_reducible refine h32 _ _ ?_ | refine Branch.t rfl ?_ | with_reducible refine h15 _ _ _ ?_ | refine RawV.look (f := kS) (a := fld f) rfl hty134 keysS (.tail _ (.head _)) (fun hno => ?_) (fun i e hi he => absurd he (hno2 e (List.mem_of_getElem? hi))) | refine RawV.upd (A := [_]) (f := kS) (a := fld f) rfl hty134 keysS (fun hno3 => ?_) (fun j e2 hj hke => absurd hke (hno2 e2 (List.mem_of_getElem? hj))) | refine happ ⟨true, true, f⟩ _ _ _ _ _ _ _ rfl (fun a' c' M' g1 => ?_) | exact hnext _ _ _ _ _ _ _ _ hup2.1 hup2.2 g1 .mk | refine New.mk (fun _ => ?_) | refine Look.at0 ?_ | refine Cell.row ?_ | refine Cells.row rfl ?_ | refine Put.row rfl ?_ | with_reducible refine Val.i64 (by omega) (by omega) ?_ | refine Branch.dt (by omega) ?_ | refine Idx.nat (by omega) ?_ | refine Idx.auto (by first | omega | decide) (by first | omega | decide) ?_))
  · obtain rfl : k = s.ns.length := by omega
    rw [List.take_length] at hG
    have hk := hK a c M hG
    clear hR hK
    cases hS
    repeat' ((conv => whnf); (first | refine Branch.df (by omega) ?_ | exact Keep.d1 hk))
theorem c25 {o : Out} {e g n w : Nat} {x : Nd} {f : Fm} (hD : Db H) (h : BusR p s nv rs H) (hx : s.ns[w]? = some x) (hb : x.box = some f) (hok : okF f = true) (hwin : o.win = (w : Int)) (hK : K (zi (encN f : Int)) H) : SCalls Tryz.prog 25 [ptr p, oV o e g n] H K := by
  obtain ⟨r, u, bv, iv, oo, r0, c, b, k1, k2, rfl, k3, k4⟩ := h.at hx
  have hn := k2.n
  have hbox := k2.b
  have hbb := h.b
  have hlt := (List.getElem?_eq_some_iff.1 hx).1
  have h23 : ∀ z (K2 : Value → Heap → Prop), K2 (.tuple ⟨[.string (strOf (encB f true)), zi 0]⟩) (z :: H) → SCalls Tryz.prog 13 [frV f, .bool true] (z :: H) K2 := fun z K2 hk => c13 hok (hD.mono fun _ h => .tail _ h) hk
  have hsz : (strOf (encB f true)).size = encN f := by rw [strOf_size, encB_len]
  rw [← hsz] at hK
  obtain ⟨win, bits, sent, errs, got⟩ := o
  dsimp only at hwin
  subst hwin
  obtain ⟨xon, xu, xbox, xinn⟩ := x
  dsimp only at hb hn hbox
  subst hb
  cases hbox with
  | @some q f hm =>
    have g0 : (Blk.row 58 [.slice (some ⟨r0, oo, none⟩) s.ns.length c, .int .u64 (s.time : Int)] (0, 0)).cell 0 = some (.slice (some ⟨r0, oo, none⟩) s.ns.length c) := rfl
    have gb : (Blk.row 64 [.bool xon, ptr u, .slice (some ⟨q, 0, none⟩) 1 1, iv] (0, 0)).cell 2 = some (.slice (some ⟨q, 0, none⟩) 1 1) := rfl
    have hcf : ∀ i v, (frC f)[i]? = some v → (Blk.row 39 (frC f) (0, 0)).cell (0 + 0 * 12 + i) = some v := fun i v hv => by rw [Nat.zero_mul, Nat.zero_add]; exact hv
    refine enter25 ?_
    repeat' ((conv => whnf); (first | refine Look.cell (.tail _ hbb) g0 ?_ | refine Idx.nat hlt ?_ | refine Look.cell (.tail _ k3) k4 ?_ | refine Look.cell (.tail _ hn) gb ?_ | refine Look.cells (.tail _ hm) rfl hcf ?_ | with_reducible refine h23 _ _ ?_ | exact Keep.d1 hK | refine New.mk (fun _ => ?_) | refine Look.at0 ?_ | refine Cell.row ?_ | refine Idx.auto (by first | omega | decide) (by first | omega | decide) ?_ | refine SDraw.all (by kernel_rfl) ?_ | refine Kept.k0 ?_))
end
end Go.Proofs.YtiaginlnapiijaaGreatDoor


/- Ported (port.py) from WrU. -/
set_option linter.unusedVariables false
set_option linter.unusedSimpArgs false
set_option maxRecDepth 100000
set_option maxHeartbeats 4000000
namespace Go.Proofs.YtiaginlnapiijaaGreatDoor
open Sx
theorem UnW.idl {u : Un} (h : UnW u) : UnW u.idl := by
  obtain ⟨h1, h2, h3⟩ := h
  unfold Un.idl
  split
  · split
    · exact ⟨h1, h2, by show u.idle + 1 ≤ 128; omega⟩
    · exact ⟨by decide, by decide, by decide⟩
  · exact ⟨h1, h2, h3⟩
theorem UnW.sent {u : Un} (h : UnW u) : UnW u.sent := by
  obtain ⟨h1, h2, h3⟩ := h
  unfold Un.sent
  split
  · exact ⟨h1, h2, h3⟩
  · exact ⟨by show u.s - 1 ≤ 256; omega, h2, h3⟩
theorem UnW.recv {u : Un} (h : UnW u) : UnW u.recv := by
  obtain ⟨h1, h2, h3⟩ := h
  unfold Un.recv
  split
  · exact ⟨h1, h2, h3⟩
  · split
    · exact ⟨h1, by show (120 : Nat) ≤ 255; decide, h3⟩
    · exact ⟨h1, by show u.r - 1 ≤ 255; omega, h3⟩
theorem UnW.fail {u : Un} {q : Bool} (h : UnW u) : UnW (u.fail q) := by
  obtain ⟨h1, h2, h3⟩ := h
  unfold Un.fail
  split
  · exact ⟨h1, h2, h3⟩
  · split
    · exact ⟨by show (256 : Nat) ≤ 256; decide, h2, by show (0 : Nat) ≤ 128; decide⟩
    · exact ⟨by show u.s + 8 ≤ 256; omega, h2, h3⟩
theorem UnW.erred {u : Un} {q : Bool} (h : UnW u) : UnW (u.erred q) := by
  obtain ⟨h1, h2, h3⟩ := h
  unfold Un.erred
  split
  · exact ⟨h1, h2, h3⟩
  · exact ⟨h1, Nat.min_le_right _ _, h3⟩
theorem Un.st_off (u : Un) : u.st = 2 ↔ u.off = true := by
  unfold Un.st
  cases u.off with
  | true => simp
  | false =>
    simp only [Bool.false_eq_true, if_false, iff_false]
    split <;> decide
/-- A bus's nodes, one of them set apart. -/
inductive Foc (rs : List Nat) (ns : List Nd) (k : Nat) (Z : Heap) : Heap → Prop
  | at {r u : Nat} {x : Nd} {bv iv : Value} {M1 M2 R : Heap} : ns[k]? = some x → rs[k]? = some r → BoxO bv x.box M1 → Grow frC 12 39 iv x.inn M2 →
      (∀ x' bv' iv' M1' M2', BoxO bv' x'.box M1' → Grow frC 12 39 iv' x'.inn M2' → ∃ N', NdL rs (ns.set k x') N' ∧ (nB r u x'.on bv' iv' :: uB u x'.u :: (M1' ++ (M2' ++ R))).Perm N') →
      Foc rs ns k Z (nB r u x.on bv iv :: uB u x.u :: (M1 ++ (M2 ++ (R ++ Z))))
  | done {N : Heap} : k = ns.length → NdL rs ns N → Foc rs ns k Z (N ++ Z)
theorem Foc.of {rs : List Nat} {ns : List Nd} {k : Nat} {Z N : Heap} (h : NdL rs ns N) (hk : k ≤ ns.length) : ∃ H, Foc rs ns k Z H ∧ (N ++ Z).Perm H := by
  by_cases hlt : k < ns.length
  · obtain ⟨x, hx, _⟩ := list_at hlt
    obtain ⟨r, A, M, B, k1, rfl, k3, k4⟩ := h.at hx
    cases k3 with
    | @mk u bv iv M1 M2 g1 g2 =>
      refine ⟨_, .at (R := A ++ B) (u := u) hx k1 g1 g2 ?_, ?_⟩
      · intro x' bv' iv' M1' M2' j1 j2
        refine ⟨_, k4 x' _ (.mk (u := u) j1 j2), ?_⟩
        exact perm_glue' (ls := [A, [nB r u x'.on bv' iv', uB u x'.u], M1', M2', B]) (p := [1, 2, 3, 0, 4]) (q := [0, 1, 2, 3, 4]) (by decide) (by simp [glue]) (by simp [glue])
      · exact perm_glue' (ls := [A, [nB r u x.on bv iv, uB u x.u], M1, M2, B, Z]) (p := [0, 1, 2, 3, 4, 5]) (q := [1, 2, 3, 0, 4, 5]) (by decide) (by simp [glue]) (by simp [glue])
  · exact ⟨_, .done (by omega) h, .refl _⟩
theorem up_facts {x : Nd} (h : x.up = true) : x.on = true ∧ x.u.off = false ∧ x.u.idl = x.u := by
  unfold Nd.up at h
  simp only [Bool.and_eq_true, Bool.not_eq_true'] at h
  refine ⟨h.1, h.2, ?_⟩
  unfold Un.idl
  rw [h.2]; rfl
section
variable {o : Out} {bt : Int} {won : Fm} {k : Nat} {x : Nd}
theorem stl_down (h : x.up = false) (hb : x.box = none) : stl o bt won k x = ⟨x.on, if x.on then x.u.idl else x.u, none, x.inn⟩ := by
  unfold stl
  simp only [h, true_or, if_true, hb, ite_self]
theorem stl_none (h : x.up = true) (hw : o.win < 0) : stl o bt won k x = x := by
  obtain ⟨h1, h2, h3⟩ := up_facts h
  unfold stl
  simp only [h, hw, or_true, if_true, h1, h3, h2]
  obtain ⟨a, b, c, d⟩ := x
  dsimp only at h1 h2 ⊢
  rw [h1]; rfl
theorem stl_sent (h : x.up = true) (hk : o.win = (k : Int)) (hs : o.sent = true) : stl o bt won k x = ⟨x.on, x.u.sent, none, x.inn⟩ := by
  obtain ⟨h1, h2, h3⟩ := up_facts h
  have hn : ¬ o.win < 0 := by omega
  unfold stl
  simp only [h, hn, hk, hs, or_self, if_true, if_false, h1, h3, h2, Bool.true_eq_false, false_or, show ¬ ((k : Int) < 0) by omega, ite_self]
theorem stl_fail (h : x.up = true) (hk : o.win = (k : Int)) (hs : o.sent = false) : stl o bt won k x = ⟨x.on, x.u.fail (decide (o.errs.getD k 0 = 23)), if (x.u.fail (decide (o.errs.getD k 0 = 23))).off then none else x.box, x.inn⟩ := by
  obtain ⟨h1, h2, h3⟩ := up_facts h
  have hn : ¬ o.win < 0 := by omega
  unfold stl
  simp only [h, hn, hk, hs, or_self, if_true, if_false, h1, h3, h2, Bool.true_eq_false, Bool.false_eq_true, false_or, show ¬ ((k : Int) < 0) by omega]
theorem stl_got (h : x.up = true) (hk : ¬ (k : Int) = o.win) (hn : ¬ o.win < 0) (hg : o.got.getD k false = true) : stl o bt won k x = ⟨x.on, x.u.recv, x.box, if x.inn.length < 64 then x.inn ++ [won] else x.inn⟩ := by
  obtain ⟨h1, h2, h3⟩ := up_facts h
  have ho : x.u.recv.off = false := by unfold Un.recv; rw [h2]; simp only [Bool.false_eq_true, if_false]; split <;> rfl
  unfold stl
  simp only [h, hn, hk, hg, or_self, if_true, if_false, h1, h3, Bool.true_eq_false, Bool.false_eq_true, false_or, ho]
theorem stl_err (h : x.up = true) (hk : ¬ (k : Int) = o.win) (hn : ¬ o.win < 0) (hg : o.got.getD k false = false) (he : ¬ o.errs.getD k 0 = 0) : stl o bt won k x = ⟨x.on, x.u.erred (decide ((k : Int) = bt)), x.box, x.inn⟩ := by
  obtain ⟨h1, h2, h3⟩ := up_facts h
  have ho : (x.u.erred (decide ((k : Int) = bt))).off = false := by unfold Un.erred; rw [h2]; rfl
  unfold stl
  simp only [h, hn, hk, hg, he, or_self, if_true, if_false, h1, h3, Bool.true_eq_false, Bool.false_eq_true, false_or, ho]
theorem stl_same (h : x.up = true) (hk : ¬ (k : Int) = o.win) (hn : ¬ o.win < 0) (hg : o.got.getD k false = false) (he : o.errs.getD k 0 = 0) : stl o bt won k x = x := by
  obtain ⟨h1, h2, h3⟩ := up_facts h
  unfold stl
  simp only [h, hn, hk, hg, he, or_self, if_true, if_false, h1, h3, h2, Bool.true_eq_false, Bool.false_eq_true, false_or]
  obtain ⟨a, b, c, d⟩ := x
  dsimp only at h1 h2 ⊢
  rw [h1]
end
inductive S27 (A2 A4 A6 A7 A54 A55 A56 : Value) : List Value → Prop
  | mk {r0 r1 r3 r5 r8 r9 r10 r11 r12 r13 r14 r15 r16 r17 r18 r19 r20 r21 r22 r23 r24 r25 r26 r27 r28 r29 r30 r31 r32 r33 r34 r35 r36 r37 r38 r39 r40 r41 r42 r43 r44 r45 r46 r47 r48 r49 r50 r51 r52 r53 r57 r58 r59 r60 r61 r62 r63 r64 r65 r66 r67 r68 r69 r70 r71 r72 r73 r74 r75 r76 r77 r78 r79 r80 r81 r82 r83 r84 r85 r86 r87 r88 r89 r90 r91 r92 r93 r94 r95 r96 r97 r98 r99 r100 r101 r102 r103 r104 r105 r106 r107 r108 r109 r110 r111 r112 r113 r114 r115 r116 r117 r118 r119 r120 r121 r122 r123 r124 r125 r126 r127 r128 r129 r130 r131 r132 r133 r134 r135 r136 r137 r138 r139 r140 r141 r142 r143 r144 r145 r146 r147 r148 r149 r150 r151 r152 r153 r154 r155 r156 r157 r158 r159 r160 r161 r162 r163 r164 r165 : Value} : S27 A2 A4 A6 A7 A54 A55 A56 [r0, r1, A2, r3, A4, r5, A6, A7, r8, r9, r10, r11, r12, r13, r14, r15, r16, r17, r18, r19, r20, r21, r22, r23, r24, r25, r26, r27, r28, r29, r30, r31, r32, r33, r34, r35, r36, r37, r38, r39, r40, r41, r42, r43, r44, r45, r46, r47, r48, r49, r50, r51, r52, r53, A54, A55, A56, r57, r58, r59, r60, r61, r62, r63, r64, r65, r66, r67, r68, r69, r70, r71, r72, r73, r74, r75, r76, r77, r78, r79, r80, r81, r82, r83, r84, r85, r86, r87, r88, r89, r90, r91, r92, r93, r94, r95, r96, r97, r98, r99, r100, r101, r102, r103, r104, r105, r106, r107, r108, r109, r110, r111, r112, r113, r114, r115, r116, r117, r118, r119, r120, r121, r122, r123, r124, r125, r126, r127, r128, r129, r130, r131, r132, r133, r134, r135, r136, r137, r138, r139, r140, r141, r142, r143, r144, r145, r146, r147, r148, r149, r150, r151, r152, r153, r154, r155, r156, r157, r158, r159, r160, r161, r162, r163, r164, r165]
section
variable {H Z : Heap} {o : Out} {bt : Int} {won : Fm} {rs : List Nat} {ns : List Nd} {e g up t4 t6 n : Nat}
def I39 (o : Out) (bt : Int) (t4 t6 up n : Nat) (sv : Value) (rs : List Nat) (ns new : List Nd) (Z : Heap) (k : Nat) (S : List Value) (H' : Heap) : Prop :=
  k ≤ ns.length ∧ S27 (zi bt) (ptr t4) (ptr t6) (.slice (some ⟨up, 0, none⟩) n n) sv (zi (ns.length : Int)) (zi (k : Int)) S ∧ Foc rs (mixL new ns k) k Z H'
end
end Go.Proofs.YtiaginlnapiijaaGreatDoor


/- Ported (port.py) from WrV. -/
set_option linter.unusedVariables false
set_option linter.unusedSimpArgs false
set_option maxRecDepth 100000
set_option maxHeartbeats 4000000
namespace Go.Proofs.YtiaginlnapiijaaGreatDoor
open Sx
section
variable {H Z : Heap} {o : Out} {bt : Int} {won : Fm} {rs : List Nat} {ns : List Nd} {e g up t4 t6 : Nat} {na : Option Addr} {nc : Nat}
theorem l39 {Q : Post} {S0 : List Value} {N : Heap} (hw : ∀ x ∈ ns, NdW x) (hn : ns.length ≤ 127) (hrl : rs.length = ns.length) (hsv : InS pC 1 (.slice na ns.length nc) Z rs)
    (h4 : (t4, Blk.row 43 [zi o.win, zi o.bits, .bool o.sent, .slice (some ⟨e, 0, none⟩) ns.length ns.length, .slice (some ⟨g, 0, none⟩) ns.length ns.length] (0, 0)) ∈ Z) (h6 : (t6, Blk.row 39 (frC won) (0, 0)) ∈ Z)
    (hup : gB up (ns.map Nd.up) ns.length ∈ Z) (he : eB e o.errs ns.length ∈ Z) (hg : gB g o.got ns.length ∈ Z) (hel : o.errs.length = ns.length) (hgl : o.got.length = ns.length)
    (hS : S27 (zi bt) (ptr t4) (ptr t6) (.slice (some ⟨up, 0, none⟩) ns.length ns.length) (.slice na ns.length nc) (zi (ns.length : Int)) (zi 0) S0) (hN : NdL rs ns N)
    (hQ : ∀ S N', NdL rs (ns.mapIdx (stl o bt won)) N' → Q (.exit 2) S (N' ++ Z)) : SLoop Tryz.prog X27_l0 Q S0 (N ++ Z) := by
  have hln : (ns.mapIdx (stl o bt won)).length = ns.length := by simp
  obtain ⟨H1, f1, f2⟩ := Foc.of (Z := Z) hN (Nat.zero_le _)
  refine SLoop.invA (I39 o bt t4 t6 up ns.length (.slice na ns.length nc) rs ns (ns.mapIdx (stl o bt won)) Z) (fun k => ns.length - k) 0 (Keep.perm H1 f2 ⟨Nat.zero_le _, hS, f1⟩) ?_
  clear hS hN f1 f2
  rintro k S H' ⟨hk, hS, hF⟩ R0 hR
  by_cases hlt : k < ns.length
  · obtain ⟨x, hx, _⟩ := list_at hlt
    have hxw := hw x (List.mem_of_getElem? hx)
    have hat := mix_at (k := k) hln (by omega)
    rw [hx] at hat
    have hnew : (ns.mapIdx (stl o bt won))[k]? = some (stl o bt won k x) := by rw [List.getElem?_mapIdx, hx]; rfl
    have hset := mix_set (k := k) hln hnew
    have hml := mix_len (k := k) hln (by omega)
    have hml1 := mix_len (k := k + 1) hln (by omega)
    generalize hmx : mixL (ns.mapIdx (stl o bt won)) ns k = mx at *
    cases hF with
    | done h1 h2 => omega
    | @«at» r u x' bv iv M1 M2 R q1 q2 q3 q4 q5 =>
      rw [hat] at q1
      injection q1 with q1
      subst q1
      have hnext : ∀ (x2 : Nd), stl o bt won k x = x2 → ∀ S Y bv' iv' M1' M2' G, BoxO bv' x2.box M1' → Grow frC 12 39 iv' x2.inn M2' → Y.Perm (nB r u x2.on bv' iv' :: uB u x2.u :: (M1' ++ (M2' ++ (R ++ (Z ++ G))))) →
          S27 (zi bt) (ptr t4) (ptr t6) (.slice (some ⟨up, 0, none⟩) ns.length ns.length) (.slice na ns.length nc) (zi (ns.length : Int)) (zi ((k + 1 : Nat) : Int)) S → R0 S Y := by
        intro x2 hx2 S Y bv' iv' M1' M2' G j1 j2 j3 j4
        subst hx2
        obtain ⟨N', m1, m2⟩ := q5 _ bv' iv' M1' M2' j1 j2
        rw [hset] at m1
        obtain ⟨H2, f1, f2⟩ := Foc.of (Z := Z) (k := k + 1) m1 (by omega)
        refine hR (k + 1) S Y (by omega) (Keep.mk (H2 ++ G) H2 ?_ (List.sublist_append_left _ _) ⟨hlt, j4, f1⟩)
        refine j3.trans (List.Perm.trans ?_ (f2.append_right G))
        refine List.Perm.trans ?_ ((m2.append_right Z).append_right G)
        exact perm_glue' (ls := [[nB r u (stl o bt won k x).on bv' iv', uB u (stl o bt won k x).u], M1', M2', R, Z, G]) (p := [0, 1, 2, 3, 4, 5]) (q := [0, 1, 2, 3, 4, 5]) (.refl _) (by simp [glue]) (by simp [glue])
      obtain ⟨r0, oo, c0, b0, e1, m3, m4⟩ := hsv.at1 (v := ptr r) q2 rfl
      rw [hrl] at e1
      injection e1 with e1 _ _
      subst e1
      have hZ : ∀ z ∈ Z, ∀ a b : Nat × Blk, z ∈ a :: b :: (M1 ++ (M2 ++ (R ++ Z))) := fun z hz a b => .tail _ (.tail _ (List.mem_append_right _ (List.mem_append_right _ (List.mem_append_right _ hz))))
      have h72 : ∀ a y (K2 : Value → Heap → Prop), UnW y → (∀ b, K2 (.bool b) (a :: uB u y.idl :: (M1 ++ (M2 ++ (R ++ Z))))) → SCalls Tryz.prog 53 [ptr u, zi 1] (a :: uB u y :: (M1 ++ (M2 ++ (R ++ Z)))) K2 := fun a y K2 hy hk => SCalls.under [a] (c53 hy hk)
      have h63g : ∀ y a (Y : Heap) (K2 : Value → Heap → Prop), K2 (zi y.st) (a :: uB u y :: Y) → SCalls Tryz.prog 45 [ptr u] (a :: uB u y :: Y) K2 := fun y a Y K2 hk => c45 (.tail _ (.head _)) hk
      have huat : (gB up (ns.map Nd.up) ns.length).2.cell (0 + k * 1) = some (.bool x.up) := by
        show ((ns.map Nd.up).map Value.bool)[0 + k * 1]? = _
        rw [Nat.zero_add, Nat.mul_one, List.getElem?_map, List.getElem?_map, hx]; rfl
      have g40 : (Blk.row 43 [zi o.win, zi o.bits, .bool o.sent, .slice (some ⟨e, 0, none⟩) ns.length ns.length, .slice (some ⟨g, 0, none⟩) ns.length ns.length] (0, 0)).cell 0 = some (zi o.win) := rfl
      have hxw2 := hxw.u
      clear hR hQ q5 hset hnew hat hml hml1
      cases hU : x.up with
      | false =>
        rw [hU] at huat
        have hb0 := hxw.up hU
        have hst := stl_down (o := o) (bt := bt) (won := won) (k := k) hU hb0
        obtain ⟨xon, xu, xbox, xinn⟩ := x
        dsimp only at hb0 hst q3 q4 hxw2 hnext ⊢
        subst hb0
        cases q3
        cases hS
        cases xon with
        | true =>
          rw [if_pos rfl] at hst
          have hn := fun S Y => hnext _ hst S Y (.slice none 0 0) iv [] M2 []
          clear hnext
          have h63 := h63g xu.idl
          by_cases ho : xu.idl.st = 2
          · repeat' ((conv => whnf); (first | refine Look.cell (hZ _ m3 _ _) m4 ?_ | refine Look.cell (hZ _ hup _ _) huat ?_ | refine Look.cell (hZ _ h4 _ _) g40 ?_ | refine Idx.nat hlt ?_ | with_reducible refine h72 _ _ _ hxw2 (fun b => ?_) | with_reducible refine h63 _ _ _ ?_ | refine Branch.dt ho ?_ | refine Branch.t rfl ?_ | exact hn _ _ .none q4 (by simp) .mk | refine Look.at0 ?_ | refine Cell.row ?_ | refine Put.row rfl ?_ | with_reducible refine Val.i64 (by omega) (by omega) ?_ | refine Branch.dt (by omega) ?_))
          · repeat' ((conv => whnf); (first | refine Look.cell (hZ _ m3 _ _) m4 ?_ | refine Look.cell (hZ _ hup _ _) huat ?_ | refine Look.cell (hZ _ h4 _ _) g40 ?_ | refine Idx.nat hlt ?_ | with_reducible refine h72 _ _ _ hxw2 (fun b => ?_) | with_reducible refine h63 _ _ _ ?_ | refine Branch.df ho ?_ | refine Branch.t rfl ?_ | exact hn _ _ .none q4 (by simp) .mk | refine Look.at0 ?_ | refine Cell.row ?_ | with_reducible refine Val.i64 (by omega) (by omega) ?_ | refine Branch.dt (by omega) ?_))
        | false =>
          rw [if_neg (by decide)] at hst
          have hn := fun S Y => hnext _ hst S Y (.slice none 0 0) iv [] M2 []
          clear hnext
          have h63 := h63g xu
          by_cases ho : xu.st = 2
          · repeat' ((conv => whnf); (first | refine Look.cell (hZ _ m3 _ _) m4 ?_ | refine Look.cell (hZ _ hup _ _) huat ?_ | refine Look.cell (hZ _ h4 _ _) g40 ?_ | refine Idx.nat hlt ?_ | with_reducible refine h63 _ _ _ ?_ | refine Branch.dt ho ?_ | refine Branch.f rfl ?_ | refine Branch.t rfl ?_ | exact hn _ _ .none q4 (by simp) .mk | refine Look.at0 ?_ | refine Cell.row ?_ | refine Put.row rfl ?_ | with_reducible refine Val.i64 (by omega) (by omega) ?_ | refine Branch.dt (by omega) ?_))
          · repeat' ((conv => whnf); (first | refine Look.cell (hZ _ m3 _ _) m4 ?_ | refine Look.cell (hZ _ hup _ _) huat ?_ | refine Look.cell (hZ _ h4 _ _) g40 ?_ | refine Idx.nat hlt ?_ | with_reducible refine h63 _ _ _ ?_ | refine Branch.df ho ?_ | refine Branch.f rfl ?_ | refine Branch.t rfl ?_ | exact hn _ _ .none q4 (by simp) .mk | refine Look.at0 ?_ | refine Cell.row ?_ | with_reducible refine Val.i64 (by omega) (by omega) ?_ | refine Branch.dt (by omega) ?_))
      | true =>
        rw [hU] at huat
        obtain ⟨hon, hoff, hidl⟩ := up_facts hU
        have g42 : (Blk.row 43 [zi o.win, zi o.bits, .bool o.sent, .slice (some ⟨e, 0, none⟩) ns.length ns.length, .slice (some ⟨g, 0, none⟩) ns.length ns.length] (0, 0)).cell 2 = some (.bool o.sent) := rfl
        have g43 : (Blk.row 43 [zi o.win, zi o.bits, .bool o.sent, .slice (some ⟨e, 0, none⟩) ns.length ns.length, .slice (some ⟨g, 0, none⟩) ns.length ns.length] (0, 0)).cell 3 = some (.slice (some ⟨e, 0, none⟩) ns.length ns.length) := rfl
        have g44 : (Blk.row 43 [zi o.win, zi o.bits, .bool o.sent, .slice (some ⟨e, 0, none⟩) ns.length ns.length, .slice (some ⟨g, 0, none⟩) ns.length ns.length] (0, 0)).cell 4 = some (.slice (some ⟨g, 0, none⟩) ns.length ns.length) := rfl
        have heat : (eB e o.errs ns.length).2.cell (0 + k * 1) = some (zi (o.errs.getD k 0)) := by
          show (o.errs.map zi)[0 + k * 1]? = _
          rw [Nat.zero_add, Nat.mul_one, List.getElem?_map, List.getD_eq_getElem?_getD, List.getElem?_eq_getElem (show k < o.errs.length by omega)]; rfl
        have hgat : (gB g o.got ns.length).2.cell (0 + k * 1) = some (.bool (o.got.getD k false)) := by
          show (o.got.map Value.bool)[0 + k * 1]? = _
          rw [Nat.zero_add, Nat.mul_one, List.getElem?_map, List.getD_eq_getElem?_getD, List.getElem?_eq_getElem (show k < o.got.length by omega)]; rfl
        have h72 : ∀ a (K2 : Value → Heap → Prop), (∀ b, K2 (.bool b) (a :: uB u x.u :: (M1 ++ (M2 ++ (R ++ Z))))) → SCalls Tryz.prog 53 [ptr u, zi 1] (a :: uB u x.u :: (M1 ++ (M2 ++ (R ++ Z)))) K2 := fun a K2 hk => h72 a x.u K2 hxw2 (by rw [hidl]; exact hk)
        have hoks := hxw.inn
        have hse := stl_sent (o := o) (bt := bt) (won := won) (k := k) hU
        have hfa := stl_fail (o := o) (bt := bt) (won := won) (k := k) hU
        have hno := stl_none (o := o) (bt := bt) (won := won) (k := k) hU
        have hgo := stl_got (o := o) (bt := bt) (won := won) (k := k) hU
        have her := stl_err (o := o) (bt := bt) (won := won) (k := k) hU
        have hsa := stl_same (o := o) (bt := bt) (won := won) (k := k) hU
        obtain ⟨xon, xu, xbox, xinn⟩ := x
        dsimp only at hon hoff hidl hse hfa hno hgo her hsa q3 q4 hxw2 hnext h72 hoks ⊢
        subst hon
        have hst2 : ∀ y : Un, y.off = false → ¬ y.st = 2 := fun y h1 h2 => by rw [(Un.st_off y).1 h2] at h1; cases h1
        clear hxw hw hU
        generalize hE : o.errs.getD k 0 = er at *
        generalize hG : o.got.getD k false = gt at *
        cases hS
        by_cases hwin : o.win < 0
        · have hn := fun S Y => hnext _ (hno hwin) S Y bv iv M1 M2 []
          clear hnext hse hfa hno hgo her hsa
          have h63 := h63g xu
          have ho := hst2 xu hoff
          repeat' ((conv => whnf); (first | refine Look.cell (hZ _ m3 _ _) m4 ?_ | refine Look.cell (hZ _ hup _ _) huat ?_ | refine Look.cell (hZ _ h4 _ _) g40 ?_ | refine Look.cell (hZ _ h4 _ _) g42 ?_ | refine Look.cell (hZ _ h4 _ _) g43 ?_ | refine Look.cell (hZ _ h4 _ _) g44 ?_ | refine Look.cell (hZ _ he _ _) heat ?_ | refine Look.cell (hZ _ hg _ _) hgat ?_ | refine Idx.nat hlt ?_ | with_reducible refine h72 _ _ (fun b => ?_) | with_reducible refine h63 _ _ _ ?_ | refine Branch.dt hwin ?_ | refine Branch.df ho ?_ | refine Branch.t rfl ?_ | refine Branch.f rfl ?_ | exact hn _ _ q3 q4 (by simp) .mk | refine Look.at0 ?_ | refine Cell.row ?_ | with_reducible refine Val.i64 (by omega) (by omega) ?_ | refine Branch.dt (by omega) ?_))
        · by_cases hkw : (k : Int) = o.win
          · cases hsn : o.sent with
            | true =>
              have g42 := g42.trans (show some (Value.bool o.sent) = some (Value.bool true) by rw [hsn])
              have hn := fun S Y => hnext _ (hse hkw.symm hsn) S Y (.slice none 0 0) iv [] M2 M1
              clear hnext hse hfa hno hgo her hsa
              have h63 := h63g xu.sent
              have ho := hst2 xu.sent (by unfold Un.sent; rw [hoff]; rfl)
              have h73 : ∀ a (K2 : Value → Heap → Prop), K2 (.tuple ⟨[]⟩) (a :: uB u xu.sent :: (M1 ++ (M2 ++ (R ++ Z)))) → SCalls Tryz.prog 54 [ptr u] (a :: uB u xu :: (M1 ++ (M2 ++ (R ++ Z)))) K2 := fun a K2 hk => SCalls.under [a] (c54 hxw2 hk)
              have hpm : ∀ a b : Nat × Blk, (a :: b :: (M1 ++ (M2 ++ (R ++ Z)))).Perm (a :: b :: ([] ++ (M2 ++ (R ++ (Z ++ M1))))) := fun a b => perm_glue' (ls := [[a, b], M1, M2, R, Z]) (p := [0, 1, 2, 3, 4]) (q := [0, 2, 3, 4, 1]) (by decide) (by simp [glue]) (by simp [glue])
              repeat' ((conv => whnf); (first | refine Look.cell (hZ _ m3 _ _) m4 ?_ | refine Look.cell (hZ _ hup _ _) huat ?_ | refine Look.cell (hZ _ h4 _ _) g40 ?_ | refine Look.cell (hZ _ h4 _ _) g42 ?_ | refine Look.cell (hZ _ h4 _ _) g43 ?_ | refine Look.cell (hZ _ h4 _ _) g44 ?_ | refine Look.cell (hZ _ he _ _) heat ?_ | refine Look.cell (hZ _ hg _ _) hgat ?_ | refine Idx.nat hlt ?_ | with_reducible refine h72 _ _ (fun b => ?_) | with_reducible refine h63 _ _ _ ?_ | with_reducible refine h73 _ _ ?_ | refine Branch.df hwin ?_ | refine Branch.dt hkw ?_ | refine Branch.df ho ?_ | refine Branch.t rfl ?_ | refine Branch.f rfl ?_ | exact hn _ _ .none q4 (hpm _ _) .mk | refine Look.at0 ?_ | refine Cell.row ?_ | refine Put.row rfl ?_ | with_reducible refine Val.i64 (by omega) (by omega) ?_ | refine Branch.dt (by omega) ?_))
            | false =>
              have g42 := g42.trans (show some (Value.bool o.sent) = some (Value.bool false) by rw [hsn])
              have hfa := hfa hkw.symm hsn
              clear hse hno hgo her hsa
              have h74 : ∀ a (K2 : Value → Heap → Prop), K2 (.tuple ⟨[]⟩) (a :: uB u (xu.fail (decide (er = 23))) :: (M1 ++ (M2 ++ (R ++ Z)))) → SCalls Tryz.prog 55 [ptr u, .bool (decide (er = 23))] (a :: uB u xu :: (M1 ++ (M2 ++ (R ++ Z)))) K2 := fun a K2 hk => SCalls.under [a] (c55 hxw2 hk)
              have h63 := h63g (xu.fail (decide (er = 23)))
              cases hof : (xu.fail (decide (er = 23))).off with
              | true =>
                rw [hof, if_pos rfl] at hfa
                have hn := fun S Y => hnext _ hfa S Y (.slice none 0 0) iv [] M2 M1
                clear hnext
                have ho := (Un.st_off (xu.fail (decide (er = 23)))).2 hof
                have hpm : ∀ a b : Nat × Blk, (a :: b :: (M1 ++ (M2 ++ (R ++ Z)))).Perm (a :: b :: ([] ++ (M2 ++ (R ++ (Z ++ M1))))) := fun a b => perm_glue' (ls := [[a, b], M1, M2, R, Z]) (p := [0, 1, 2, 3, 4]) (q := [0, 2, 3, 4, 1]) (by decide) (by simp [glue]) (by simp [glue])
                repeat' ((conv => whnf); (first | refine Look.cell (hZ _ m3 _ _) m4 ?_ | refine Look.cell (hZ _ hup _ _) huat ?_ | refine Look.cell (hZ _ h4 _ _) g40 ?_ | refine Look.cell (hZ _ h4 _ _) g42 ?_ | refine Look.cell (hZ _ h4 _ _) g43 ?_ | refine Look.cell (hZ _ h4 _ _) g44 ?_ | refine Look.cell (hZ _ he _ _) heat ?_ | refine Look.cell (hZ _ hg _ _) hgat ?_ | refine Idx.nat hlt ?_ | with_reducible refine h72 _ _ (fun b => ?_) | with_reducible refine h63 _ _ _ ?_ | with_reducible refine h74 _ _ ?_ | refine Branch.df hwin ?_ | refine Branch.dt hkw ?_ | refine Branch.dt ho ?_ | refine Branch.t rfl ?_ | refine Branch.f rfl ?_ | exact hn _ _ .none q4 (hpm _ _) .mk | refine Look.at0 ?_ | refine Cell.row ?_ | refine Put.row rfl ?_ | with_reducible refine Val.i64 (by omega) (by omega) ?_ | refine Branch.dt (by omega) ?_ | refine SDraw.all (by kernel_rfl) ?_))
              | false =>
                rw [hof, if_neg (by decide)] at hfa
                have hn := fun S Y => hnext _ hfa S Y bv iv M1 M2 []
                clear hnext
                have ho := hst2 _ hof
                repeat' ((conv => whnf); (first | refine Look.cell (hZ _ m3 _ _) m4 ?_ | refine Look.cell (hZ _ hup _ _) huat ?_ | refine Look.cell (hZ _ h4 _ _) g40 ?_ | refine Look.cell (hZ _ h4 _ _) g42 ?_ | refine Look.cell (hZ _ h4 _ _) g43 ?_ | refine Look.cell (hZ _ h4 _ _) g44 ?_ | refine Look.cell (hZ _ he _ _) heat ?_ | refine Look.cell (hZ _ hg _ _) hgat ?_ | refine Idx.nat hlt ?_ | with_reducible refine h72 _ _ (fun b => ?_) | with_reducible refine h63 _ _ _ ?_ | with_reducible refine h74 _ _ ?_ | refine Branch.df hwin ?_ | refine Branch.dt hkw ?_ | refine Branch.df ho ?_ | refine Branch.t rfl ?_ | refine Branch.f rfl ?_ | exact hn _ _ q3 q4 (by simp) .mk | refine Look.at0 ?_ | refine Cell.row ?_ | with_reducible refine Val.i64 (by omega) (by omega) ?_ | refine Branch.dt (by omega) ?_ | refine SDraw.all (by kernel_rfl) ?_))
          · cases gt with
            | true =>
              have hgo := hgo hkw hwin rfl
              clear hse hno her hsa hfa
              have h63 := h63g xu.recv
              have ho := hst2 xu.recv (by unfold Un.recv; rw [hoff]; simp only [Bool.false_eq_true, if_false]; split <;> rfl)
              obtain ⟨ia, ic, rfl, hil⟩ := q4.sv
              by_cases h64 : xinn.length < 64
              · rw [if_pos h64] at hgo
                have hn := fun S Y => hnext _ hgo S Y bv
                clear hnext hgo
                have happ : ∀ q (o : Oper) (xs xx : Operand) (K2 : Value → Heap → Prop), o.op = .call { callee := .builtin .append, args := #[xs, xx], argTypes := #[62, 62] } → (∀ a c M', Grow frC 12 39 (.slice a (xinn.length + 1) c) (xinn ++ [won]) M' → K2 (.slice a (xinn.length + 1) c) (M' ++ ((q, .row 39 (frC won) (0, 0)) :: nB r u true bv (.slice ia xinn.length ic) :: uB u xu :: (M1 ++ (R ++ Z))))) →
                    RawV Tryz.prog o [.slice ia xinn.length ic, .slice (some ⟨q, 0, none⟩) 1 1] ((q, .row 39 (frC won) (0, 0)) :: nB r u true bv (.slice ia xinn.length ic) :: uB u xu :: (M1 ++ (M2 ++ (R ++ Z)))) K2 := by
                  intro q o xs xx K2 ho hk
                  exact RawV.grow1 (A := (q, .row 39 (frC won) (0, 0)) :: nB r u true bv (.slice ia xinn.length ic) :: uB u xu :: M1) (B := R ++ Z) (x := won) (bytes := 24) q4 rfl (.head _) ho (by kernel_rfl) (by decide) frC_len (frC_one won) (by simp only [maxLen]; omega) (by omega) hk
                have hHs : ∀ H' : Heap, nB r u true bv (.slice ia xinn.length ic) ∈ H' → (t6, Blk.row 39 (frC won) (0, 0)) ∈ H' → ∀ p ∈ [nB r u true bv (.slice ia xinn.length ic), (t6, Blk.row 39 (frC won) (0, 0))], p ∈ H' := fun H' k1 k2 p hp => by
                  rcases List.mem_cons.1 hp with rfl | hp
                  · exact k1
                  · obtain rfl := List.mem_singleton.1 hp; exact k2
                have hs0 := hHs (nB r u true bv (.slice ia xinn.length ic) :: uB u xu :: (M1 ++ (M2 ++ (R ++ Z)))) (.head _) (hZ _ h6 _ _)
                have hs1 : ∀ y : Nat × Blk, _ := fun y => hHs (y :: nB r u true bv (.slice ia xinn.length ic) :: uB u xu :: (M1 ++ (M2 ++ (R ++ Z)))) (.tail _ (.head _)) (.tail _ (hZ _ h6 _ _))
                have hs2 : ∀ (M' : Heap) (y : Nat × Blk), _ := fun M' y => hHs (M' ++ (y :: nB r u true bv (.slice ia xinn.length ic) :: uB u xu :: (M1 ++ (R ++ Z)))) (List.mem_append_right _ (.tail _ (.head _))) (List.mem_append_right _ (.tail _ (.tail _ (.tail _ (List.mem_append_right _ (List.mem_append_right _ h6))))))
                have h75 : ∀ (M' : Heap) (y z : Nat × Blk) (K2 : Value → Heap → Prop), K2 (.tuple ⟨[]⟩) ((M' ++ [y]) ++ (z :: uB u xu.recv :: (M1 ++ (R ++ Z)))) → SCalls Tryz.prog 56 [ptr u] ((M' ++ [y]) ++ (z :: uB u xu :: (M1 ++ (R ++ Z)))) K2 := fun M' y z K2 hk => by
                  have := SCalls.under (K := K2) ((M' ++ [y]) ++ [z]) (c56 (p := u) (H := M1 ++ (R ++ Z)) (K := fun v H' => K2 v ((M' ++ [y]) ++ [z] ++ H')) hxw2 (by simpa using hk))
                  simpa using this
                have h63 : ∀ (M' : Heap) (y z : Nat × Blk) (K2 : Value → Heap → Prop), K2 (zi xu.recv.st) ((M' ++ [y]) ++ (z :: uB u xu.recv :: (M1 ++ (R ++ Z)))) → SCalls Tryz.prog 45 [ptr u] ((M' ++ [y]) ++ (z :: uB u xu.recv :: (M1 ++ (R ++ Z)))) K2 := fun M' y z K2 hk => c45 (List.mem_append_right _ (.tail _ (.head _))) hk
                have hput : ∀ a c, PutOk (.row 64 [.bool true, ptr u, bv, .slice ia xinn.length ic] (0, 0)) (0 + 3) [.slice a (xinn.length + 1) c] (.row 64 [.bool true, ptr u, bv, .slice a (xinn.length + 1) c] (0, 0)) := fun a c => PutOk.rowb rfl rfl
                have hpm : ∀ (M' : Heap) (y z w : Nat × Blk), ((M' ++ [y]) ++ (z :: w :: (M1 ++ (R ++ Z)))).Perm (z :: w :: (M1 ++ (M' ++ (R ++ (Z ++ [y]))))) := fun M' y z w => perm_glue' (ls := [M', [y], [z, w], M1, R, Z]) (p := [0, 1, 2, 3, 4, 5]) (q := [2, 3, 0, 4, 5, 1]) (by decide) (by simp [glue]) (by simp [glue])
                repeat' ((conv => whnf); (first | refine SDraw.held (by kernel_rfl) [nB r u true bv (.slice ia xinn.length ic), (t6, Blk.row 39 (frC won) (0, 0))] (Seen.of hs0) ?_ | refine Kept.mk (Seen.of (hs1 _)) ?_ | refine Kept.mk (Seen.of (hs2 _ _)) ?_ | with_reducible refine happ _ _ _ _ _ rfl (fun a' c' M' g1 => ?_) | refine ⟨M' ++ [_], _, _, (by rw [List.append_assoc]; rfl), _, hput _ _, appK_to ?_⟩ | with_reducible refine Look.app ?_ | refine Look.cell (hZ _ m3 _ _) m4 ?_ | refine Look.cell (hZ _ hup _ _) huat ?_ | refine Look.cell (hZ _ h4 _ _) g40 ?_ | refine Look.cell (hZ _ h4 _ _) g42 ?_ | refine Look.cell (hZ _ h4 _ _) g43 ?_ | refine Look.cell (hZ _ h4 _ _) g44 ?_ | refine Look.cell (hZ _ he _ _) heat ?_ | refine Look.cell (hZ _ hg _ _) hgat ?_ | refine Idx.nat hlt ?_ | with_reducible refine h72 _ _ (fun b => ?_) | with_reducible refine h75 _ _ _ _ ?_ | with_reducible refine h63 _ _ _ _ ?_ | refine Branch.df hwin ?_ | refine Branch.df hkw ?_ | refine Branch.df ho ?_ | refine Branch.dt (by omega) ?_ | refine Branch.t rfl ?_ | refine Branch.f rfl ?_ | exact hn _ _ _ M1 M' _ q3 g1 (hpm _ _ _ _) .mk | refine New.mk (fun _ => ?_) | refine Look.at0 ?_ | refine Cell.row ?_ | refine Cells.row rfl ?_ | refine Look.at1 ?_ | with_reducible refine Val.i64 (by omega) (by omega) ?_))
              · rw [if_neg h64] at hgo
                have hn := fun S Y => hnext _ hgo S Y bv (.slice ia xinn.length ic) M1 M2 []
                clear hnext hgo
                have h75 : ∀ a (K2 : Value → Heap → Prop), K2 (.tuple ⟨[]⟩) (a :: uB u xu.recv :: (M1 ++ (M2 ++ (R ++ Z)))) → SCalls Tryz.prog 56 [ptr u] (a :: uB u xu :: (M1 ++ (M2 ++ (R ++ Z)))) K2 := fun a K2 hk => SCalls.under [a] (c56 hxw2 hk)
                repeat' ((conv => whnf); (first | refine Look.cell (hZ _ m3 _ _) m4 ?_ | refine Look.cell (hZ _ hup _ _) huat ?_ | refine Look.cell (hZ _ h4 _ _) g40 ?_ | refine Look.cell (hZ _ h4 _ _) g42 ?_ | refine Look.cell (hZ _ h4 _ _) g43 ?_ | refine Look.cell (hZ _ h4 _ _) g44 ?_ | refine Look.cell (hZ _ he _ _) heat ?_ | refine Look.cell (hZ _ hg _ _) hgat ?_ | refine Idx.nat hlt ?_ | with_reducible refine h72 _ _ (fun b => ?_) | with_reducible refine h75 _ _ ?_ | with_reducible refine h63 _ _ _ ?_ | refine Branch.df hwin ?_ | refine Branch.df hkw ?_ | refine Branch.df ho ?_ | refine Branch.df (by omega) ?_ | refine Branch.t rfl ?_ | refine Branch.f rfl ?_ | exact hn _ _ q3 q4 (by simp) .mk | refine Look.at0 ?_ | refine Cell.row ?_ | with_reducible refine Val.i64 (by omega) (by omega) ?_ | refine Branch.dt (by omega) ?_))
            | false =>
              by_cases he0 : er = 0
              · have hn := fun S Y => hnext _ (hsa hkw hwin rfl he0) S Y bv iv M1 M2 []
                clear hnext hse hfa hno hgo her hsa
                have h63 := h63g xu
                have ho := hst2 xu hoff
                repeat' ((conv => whnf); (first | refine Look.cell (hZ _ m3 _ _) m4 ?_ | refine Look.cell (hZ _ hup _ _) huat ?_ | refine Look.cell (hZ _ h4 _ _) g40 ?_ | refine Look.cell (hZ _ h4 _ _) g42 ?_ | refine Look.cell (hZ _ h4 _ _) g43 ?_ | refine Look.cell (hZ _ h4 _ _) g44 ?_ | refine Look.cell (hZ _ he _ _) heat ?_ | refine Look.cell (hZ _ hg _ _) hgat ?_ | refine Idx.nat hlt ?_ | with_reducible refine h72 _ _ (fun b => ?_) | with_reducible refine h63 _ _ _ ?_ | refine Branch.df hwin ?_ | refine Branch.df hkw ?_ | refine Branch.df ho ?_ | refine Branch.dt he0 ?_ | refine Branch.df he0 ?_ | refine Branch.t rfl ?_ | refine Branch.f rfl ?_ | exact hn _ _ q3 q4 (by simp) .mk | refine Look.at0 ?_ | refine Cell.row ?_ | with_reducible refine Val.i64 (by omega) (by omega) ?_ | refine Branch.not ?_ | refine Branch.dt (by omega) ?_))
              · have hn := fun S Y => hnext _ (her hkw hwin rfl he0) S Y bv iv M1 M2 []
                clear hnext hse hfa hno hgo her hsa
                have h63 := h63g (xu.erred (decide ((k : Int) = bt)))
                have ho := hst2 (xu.erred (decide ((k : Int) = bt))) (by unfold Un.erred; rw [hoff]; rfl)
                have h76 : ∀ a (K2 : Value → Heap → Prop), K2 (.tuple ⟨[]⟩) (a :: uB u (xu.erred (decide ((k : Int) = bt))) :: (M1 ++ (M2 ++ (R ++ Z)))) → SCalls Tryz.prog 57 [ptr u, .bool (decide ((k : Int) = bt))] (a :: uB u xu :: (M1 ++ (M2 ++ (R ++ Z)))) K2 := fun a K2 hk => SCalls.under [a] (c57 hxw2 hk)
                repeat' ((conv => whnf); (first | refine Look.cell (hZ _ m3 _ _) m4 ?_ | refine Look.cell (hZ _ hup _ _) huat ?_ | refine Look.cell (hZ _ h4 _ _) g40 ?_ | refine Look.cell (hZ _ h4 _ _) g42 ?_ | refine Look.cell (hZ _ h4 _ _) g43 ?_ | refine Look.cell (hZ _ h4 _ _) g44 ?_ | refine Look.cell (hZ _ he _ _) heat ?_ | refine Look.cell (hZ _ hg _ _) hgat ?_ | refine Idx.nat hlt ?_ | with_reducible refine h72 _ _ (fun b => ?_) | with_reducible refine h63 _ _ _ ?_ | with_reducible refine h76 _ _ ?_ | refine Branch.df hwin ?_ | refine Branch.df hkw ?_ | refine Branch.df ho ?_ | refine Branch.df he0 ?_ | refine Branch.t rfl ?_ | refine Branch.f rfl ?_ | exact hn _ _ q3 q4 (by simp) .mk | refine Look.at0 ?_ | refine Cell.row ?_ | with_reducible refine Val.i64 (by omega) (by omega) ?_ | refine Branch.not ?_ | refine Branch.dt (by omega) ?_))
  · obtain rfl : k = ns.length := by omega
    cases hF with
    | done h1 h2 =>
      have hall : mixL (ns.mapIdx (stl o bt won)) ns ns.length = ns.mapIdx (stl o bt won) := by
        have := mix_all hln
        rwa [hln] at this
      rw [hall] at h2
      have hq := fun S => hQ S _ h2
      clear hR hQ
      cases hS
      repeat' ((conv => whnf); (first | refine Branch.df (by omega) ?_ | exact hq _))
    | @«at» r u x' bv iv M1 M2 R q1 =>
      have hml := mix_len (k := ns.length) hln (by omega)
      have := (List.getElem?_eq_some_iff.1 q1).1
      omega
end
end Go.Proofs.YtiaginlnapiijaaGreatDoor


/- Ported (port.py) from WrW. -/
set_option linter.unusedVariables false
set_option linter.unusedSimpArgs false
set_option maxRecDepth 100000
set_option maxHeartbeats 4000000
namespace Go.Proofs.YtiaginlnapiijaaGreatDoor
open Sx
inductive S39a (A0 A2 A4 A6 A7 A38 A39 A40 : Value) : List Value → Prop
  | mk {r1 r3 r5 r8 r9 r10 r11 r12 r13 r14 r15 r16 r17 r18 r19 r20 r21 r22 r23 r24 r25 r26 r27 r28 r29 r30 r31 r32 r33 r34 r35 r36 r37 r41 r42 r43 r44 r45 r46 r47 r48 r49 r50 r51 r52 r53 r54 r55 r56 r57 r58 r59 r60 r61 r62 r63 r64 r65 r66 r67 r68 r69 r70 r71 r72 r73 r74 r75 r76 r77 r78 r79 r80 r81 r82 r83 r84 r85 r86 r87 r88 r89 r90 r91 r92 r93 r94 r95 r96 r97 r98 r99 r100 r101 r102 r103 r104 r105 r106 r107 r108 r109 r110 r111 r112 r113 r114 r115 r116 r117 r118 r119 r120 r121 r122 r123 r124 r125 r126 r127 r128 r129 r130 r131 r132 r133 r134 r135 r136 r137 r138 r139 r140 r141 r142 r143 r144 r145 r146 r147 r148 r149 r150 r151 r152 r153 r154 r155 r156 r157 r158 r159 r160 r161 r162 r163 r164 r165 : Value} : S39a A0 A2 A4 A6 A7 A38 A39 A40 [A0, r1, A2, r3, A4, r5, A6, A7, r8, r9, r10, r11, r12, r13, r14, r15, r16, r17, r18, r19, r20, r21, r22, r23, r24, r25, r26, r27, r28, r29, r30, r31, r32, r33, r34, r35, r36, r37, A38, A39, A40, r41, r42, r43, r44, r45, r46, r47, r48, r49, r50, r51, r52, r53, r54, r55, r56, r57, r58, r59, r60, r61, r62, r63, r64, r65, r66, r67, r68, r69, r70, r71, r72, r73, r74, r75, r76, r77, r78, r79, r80, r81, r82, r83, r84, r85, r86, r87, r88, r89, r90, r91, r92, r93, r94, r95, r96, r97, r98, r99, r100, r101, r102, r103, r104, r105, r106, r107, r108, r109, r110, r111, r112, r113, r114, r115, r116, r117, r118, r119, r120, r121, r122, r123, r124, r125, r126, r127, r128, r129, r130, r131, r132, r133, r134, r135, r136, r137, r138, r139, r140, r141, r142, r143, r144, r145, r146, r147, r148, r149, r150, r151, r152, r153, r154, r155, r156, r157, r158, r159, r160, r161, r162, r163, r164, r165]
section
variable {K : Value → Heap → Prop} {H : Heap} {p : Nat} {s : Bs} {o : Out} {bt : Int} {e g : Nat} {nv : Value} {rs : List Nat}
/-- Who takes part. -/
theorem l39u {Q : Post} {S0 : List Value} {q t4 t6 : Nat} {na : Option Addr} {nc : Nat} (h : BusR p s (.slice na s.ns.length nc) rs H)
    (hS : S39a (ptr p) (zi bt) (ptr t4) (ptr t6) (.slice (some ⟨q, 0, none⟩) s.ns.length s.ns.length) (.slice na s.ns.length nc) (zi (s.ns.length : Int)) (zi 0) S0) (hn : s.ns.length ≤ 127)
    (hQ : ∀ S, S39a (ptr p) (zi bt) (ptr t4) (ptr t6) (.slice (some ⟨q, 0, none⟩) s.ns.length s.ns.length) (.slice na s.ns.length nc) (zi (s.ns.length : Int)) (zi (s.ns.length : Int)) S → Q (.exit 0) S (gB q (s.ns.map Nd.up) s.ns.length :: H)) :
    SLoop Tryz.prog X27_l1 Q S0 (gB q (List.replicate s.ns.length false) s.ns.length :: H) := by
  have hlen : (s.ns.map Nd.up).length = (List.replicate s.ns.length false).length := by simp
  have hln : (s.ns.map Nd.up).length = s.ns.length := by simp
  refine SLoop.invA (fun (k : Nat) S H' => k ≤ s.ns.length ∧ S39a (ptr p) (zi bt) (ptr t4) (ptr t6) (.slice (some ⟨q, 0, none⟩) s.ns.length s.ns.length) (.slice na s.ns.length nc) (zi (s.ns.length : Int)) (zi (k : Int)) S ∧ H' = gB q (mixL (s.ns.map Nd.up) (List.replicate s.ns.length false) k) s.ns.length :: H) (fun k => s.ns.length - k) 0 (Keep.all ⟨Nat.zero_le _, hS, rfl⟩) ?_
  clear hS
  rintro k S H' ⟨hk, hS, rfl⟩ R hR
  cases hS
  by_cases hlt : k < s.ns.length
  · obtain ⟨x, hx, _⟩ := list_at hlt
    obtain ⟨r, u, bv, iv, oo, r0, c, b, k1, k2, e1, k3, k4⟩ := h.at hx
    injection e1 with e1 _ _
    subst e1
    have hat : (s.ns.map Nd.up)[k]? = some x.up := by rw [List.getElem?_map, hx]; rfl
    have hset := mix_set (k := k) hlen hat
    have hml := mix_len (k := k) hlen (by omega)
    have hi : k < (mixL (s.ns.map Nd.up) (List.replicate s.ns.length false) k).length := by omega
    have hnext := fun S hS E (hE : E = mixL (s.ns.map Nd.up) (List.replicate s.ns.length false) (k + 1)) => hR (k + 1) S (gB q E s.ns.length :: H) (by omega) (Keep.all ⟨hlt, hS, by rw [hE]⟩)
    have hn1 := fun S hS => hnext S hS _ hset
    have h32 : ∀ y (K2 : Value → Heap → Prop), K2 (.bool x.up) (y :: H) → SCalls Tryz.prog 21 [ptr r] (y :: H) K2 := fun y K2 hk => c21 (k2.mono fun z hz => .tail _ hz) hk
    clear hR hnext hQ hset k2
    repeat' ((conv => whnf); (first | refine Branch.dt (by omega) ?_ | refine Idx.nat hlt ?_ | refine Look.cell (.tail _ k3) k4 ?_ | with_reducible refine h32 _ _ ?_ | refine Put.nthG (g := Value.bool) _ hi ?_ | exact hn1 _ .mk | refine Look.at0 ?_ | with_reducible refine Val.i64 (by omega) (by omega) ?_))
  · obtain rfl : k = s.ns.length := by omega
    have hall : mixL (s.ns.map Nd.up) (List.replicate s.ns.length false) s.ns.length = s.ns.map Nd.up := by
      have := mix_all hlen
      rwa [hln] at this
    rw [hall]
    have hq := fun S hS => hQ S hS
    clear hR hQ
    repeat' ((conv => whnf); (first | refine Branch.df (by omega) ?_ | exact hq _ .mk))
theorem c27 {F : Heap} (h : BusO p s F) (hw : BsW s) (he : eB e o.errs s.ns.length ∈ H) (hg : gB g o.got s.ns.length ∈ H) (hel : o.errs.length = s.ns.length) (hgl : o.got.length = s.ns.length)
    (hwin : o.win < 0 ∨ ∃ (w : Nat) (x : Nd) (f : Fm), o.win = (w : Int) ∧ s.ns[w]? = some x ∧ x.box = some f)
    (hK : ∀ F', BusO p ⟨s.time, stlN o bt s.ns⟩ F' → K (.tuple ⟨[]⟩) (F' ++ H)) : SCalls Tryz.prog 27 [ptr p, oV o e g s.ns.length, zi bt] (F ++ H) K := by
  have hn2 := hw.n2
  cases h with
  | @mk nv rs Mn N h1 h2 =>
    have hrl := h2.len
    have hin := h1.ins pC_len (fun z hz => hz)
    obtain ⟨na, nc, rfl, hml⟩ := h1.sv
    rw [hrl] at hin h1 ⊢
    have hr : ∀ H' : Heap, (∀ z ∈ bB p (.slice na s.ns.length nc) s.time :: (Mn ++ N), z ∈ H') → BusR p s (.slice na s.ns.length nc) rs H' := fun H' hs => BusO.readX h1 h2 hs
    have hsub : ∀ z ∈ bB p (.slice na s.ns.length nc) s.time :: (Mn ++ N), z ∈ (bB p (.slice na s.ns.length nc) s.time :: (Mn ++ N)) ++ H := fun z hz => List.mem_append_left _ hz
    have hX : ∀ {Q : Post} {S0 : List Value} {q t4 t6 : Nat}, S39a (ptr p) (zi bt) (ptr t4) (ptr t6) (.slice (some ⟨q, 0, none⟩) s.ns.length s.ns.length) (.slice na s.ns.length nc) (zi (s.ns.length : Int)) (zi 0) S0 → ∀ y z : Nat × Blk,
        (∀ S, S39a (ptr p) (zi bt) (ptr t4) (ptr t6) (.slice (some ⟨q, 0, none⟩) s.ns.length s.ns.length) (.slice na s.ns.length nc) (zi (s.ns.length : Int)) (zi (s.ns.length : Int)) S → Q (.exit 0) S (gB q (s.ns.map Nd.up) s.ns.length :: y :: z :: ((bB p (.slice na s.ns.length nc) s.time :: (Mn ++ N)) ++ H))) →
        SLoop Tryz.prog X27_l1 Q S0 ((q, .buf 4 (List.replicate s.ns.length (Value.bool false)) s.ns.length) :: y :: z :: ((bB p (.slice na s.ns.length nc) s.time :: (Mn ++ N)) ++ H)) := by
      intro Q S0 q t4 t6 hS y z hQ
      have e1 : (List.replicate s.ns.length false).map Value.bool = List.replicate s.ns.length (Value.bool false) := by simp
      rw [← e1]
      exact l39u (hr _ fun w hw => .tail _ (.tail _ (hsub w hw))) hS hn2 hQ
    have hY : ∀ {Q : Post} {S0 : List Value} {q t4 t6 : Nat}, S27 (zi bt) (ptr t4) (ptr t6) (.slice (some ⟨q, 0, none⟩) s.ns.length s.ns.length) (.slice na s.ns.length nc) (zi (s.ns.length : Int)) (zi 0) S0 →
        (∀ S N', NdL rs (s.ns.mapIdx (stl o bt (boxAt s.ns o.win))) N' → Q (.exit 2) S (N' ++ (gB q (s.ns.map Nd.up) s.ns.length :: (t6, .row 39 (frC (boxAt s.ns o.win)) (0, 0)) :: (t4, .row 43 [zi o.win, zi o.bits, .bool o.sent, .slice (some ⟨e, 0, none⟩) s.ns.length s.ns.length, .slice (some ⟨g, 0, none⟩) s.ns.length s.ns.length] (0, 0)) :: bB p (.slice na s.ns.length nc) s.time :: (Mn ++ H)))) →
        SLoop Tryz.prog X27_l0 Q S0 (gB q (s.ns.map Nd.up) s.ns.length :: (t6, .row 39 (frC (boxAt s.ns o.win)) (0, 0)) :: (t4, .row 43 [zi o.win, zi o.bits, .bool o.sent, .slice (some ⟨e, 0, none⟩) s.ns.length s.ns.length, .slice (some ⟨g, 0, none⟩) s.ns.length s.ns.length] (0, 0)) :: ((bB p (.slice na s.ns.length nc) s.time :: (Mn ++ N)) ++ H)) := by
      intro Q S0 q t4 t6 hS hQ
      refine SLoop.keep (Keep.perm (N ++ (gB q (s.ns.map Nd.up) s.ns.length :: (t6, .row 39 (frC (boxAt s.ns o.win)) (0, 0)) :: (t4, .row 43 [zi o.win, zi o.bits, .bool o.sent, .slice (some ⟨e, 0, none⟩) s.ns.length s.ns.length, .slice (some ⟨g, 0, none⟩) s.ns.length s.ns.length] (0, 0)) :: bB p (.slice na s.ns.length nc) s.time :: (Mn ++ H))) ?_ ?_)
      · exact perm_glue' (ls := [[gB q (s.ns.map Nd.up) s.ns.length, (t6, .row 39 (frC (boxAt s.ns o.win)) (0, 0)), (t4, .row 43 [zi o.win, zi o.bits, .bool o.sent, .slice (some ⟨e, 0, none⟩) s.ns.length s.ns.length, .slice (some ⟨g, 0, none⟩) s.ns.length s.ns.length] (0, 0)), bB p (.slice na s.ns.length nc) s.time], Mn, N, H]) (p := [0, 1, 2, 3]) (q := [2, 0, 1, 3]) (by decide) (by simp [glue]) (by simp [glue])
      · have hz : ∀ a b c d : Nat × Blk, ∀ z ∈ H, z ∈ a :: b :: c :: d :: (Mn ++ H) := fun a b c d z hz => .tail _ (.tail _ (.tail _ (.tail _ (List.mem_append_right _ hz))))
        exact l39 hw.w hn2 hrl (hin.mono fun z hz => .tail _ (.tail _ (.tail _ (.tail _ (List.mem_append_left _ hz))))) (.tail _ (.tail _ (.head _))) (.tail _ (.head _)) (.head _) (hz _ _ _ _ _ he) (hz _ _ _ _ _ hg) hel hgl hS h2 hQ
    have hfin : ∀ N' (a b c : Nat × Blk), NdL rs (s.ns.mapIdx (stl o bt (boxAt s.ns o.win))) N' → Keep (N' ++ (a :: b :: c :: bB p (.slice na s.ns.length nc) s.time :: (Mn ++ H))) fun H' => K (.tuple ⟨[]⟩) H' := by
      intro N' a b c hN'
      refine Keep.mk (((bB p (.slice na s.ns.length nc) s.time :: (Mn ++ N')) ++ H) ++ [a, b, c]) _ ?_ (List.sublist_append_left _ _) (hK _ (.mk (s := ⟨s.time, stlN o bt s.ns⟩) (by rw [← hrl] at h1 ⊢; exact h1) hN'))
      exact perm_glue' (ls := [N', [a, b, c], [bB p (.slice na s.ns.length nc) s.time], Mn, H]) (p := [0, 1, 2, 3, 4]) (q := [2, 3, 0, 4, 1]) (by decide) (by simp [glue]) (by simp [glue])
    clear hK
    have g0 : (Blk.row 58 [.slice na s.ns.length nc, .int .u64 (s.time : Int)] (0, 0)).cell 0 = some (.slice na s.ns.length nc) := rfl
    have hbm : ∀ a : Nat × Blk, bB p (.slice na s.ns.length nc) s.time ∈ a :: ((bB p (.slice na s.ns.length nc) s.time :: (Mn ++ N)) ++ H) := fun a => .tail _ (.head _)
    rcases hwin with hneg | ⟨w, x, f, hwe, hx, hbx⟩
    · have hbox : boxAt s.ns o.win = z0 := by unfold boxAt; rw [if_pos hneg]
      rw [hbox] at hY hfin
      refine enter27 ?_
      repeat' ((conv => whnf); (first | refine Branch.df (by omega) ?_ | refine RawV.make1 (t := 41) (k := .i64) (e := 4) (bytes := 1) (zv := .bool false) (n := s.ns.length) rfl (by kernel_rfl) (by kernel_rfl) rfl (by omega) (by simp only [maxLen]; omega) (fun g => ?_) | (refine hX .mk _ _ (fun S hS => ?_); cases hS) | (refine hY .mk (fun S N' hN' => ?_)) | exact hfin _ _ _ _ hN' | refine New.mk (fun _ => ?_) | refine Look.at0 ?_ | refine Cell.row ?_ | refine Put.row rfl ?_ | refine Look.at1 ?_ | refine Look.at2 ?_ | refine Look.at3 ?_))
    · have hbox : boxAt s.ns o.win = f := by
        unfold boxAt
        rw [if_neg (by omega), hwe, Int.toNat_natCast, List.getD_eq_getElem?_getD, hx]
        show x.box.getD z0 = f
        rw [hbx]; rfl
      rw [hbox] at hY hfin
      have hwl := (List.getElem?_eq_some_iff.1 hx).1
      have hRd := hr _ hsub
      obtain ⟨r, u, bv, iv, oo, r0, c, b, k1, k2, e1, k3, k4⟩ := hRd.at hx
      injection e1 with e1 _ _
      subst e1
      have hn := k2.n
      have hbox2 := k2.b
      obtain ⟨win, bits, sent, errs, got⟩ := o
      dsimp only at hwe
      subst hwe
      obtain ⟨xon, xu, xbox, xinn⟩ := x
      dsimp only at hbx hn hbox2
      subst hbx
      cases hbox2 with
      | @some q f hm =>
        have gb : (Blk.row 64 [.bool xon, ptr u, .slice (some ⟨q, 0, none⟩) 1 1, iv] (0, 0)).cell 2 = some (.slice (some ⟨q, 0, none⟩) 1 1) := rfl
        have hcf : ∀ i v, (frC f)[i]? = some v → (Blk.row 39 (frC f) (0, 0)).cell (0 + 0 * 12 + i) = some v := fun i v hv => by rw [Nat.zero_mul, Nat.zero_add]; exact hv
        have ht2 : ∀ z ∈ (bB p (.slice (some ⟨r0, oo, none⟩) s.ns.length nc) s.time :: (Mn ++ N)) ++ H, ∀ a b : Nat × Blk, z ∈ a :: b :: ((bB p (.slice (some ⟨r0, oo, none⟩) s.ns.length nc) s.time :: (Mn ++ N)) ++ H) := fun z hz a b => .tail _ (.tail _ hz)
        refine enter27 ?_
        repeat' ((conv => whnf); (first | refine Branch.dt (by omega) ?_ | refine Idx.nat hwl ?_ | refine Look.cell (ht2 _ k3 _ _) k4 ?_ | refine Look.cell (ht2 _ hn _ _) gb ?_ | refine Look.cells (ht2 _ hm _ _) rfl hcf ?_ | refine RawV.make1 (t := 41) (k := .i64) (e := 4) (bytes := 1) (zv := .bool false) (n := s.ns.length) rfl (by kernel_rfl) (by kernel_rfl) rfl (by omega) (by simp only [maxLen]; omega) (fun g => ?_) | (refine hX .mk _ _ (fun S hS => ?_); cases hS) | (refine hY .mk (fun S N' hN' => ?_)) | exact hfin _ _ _ _ hN' | refine New.mk (fun _ => ?_) | refine Look.at0 ?_ | refine Cell.row ?_ | refine Put.row rfl ?_ | refine Look.at1 ?_ | refine Look.at2 ?_ | refine Look.at3 ?_ | refine Branch.t rfl ?_ | refine Idx.auto (by first | omega | decide) (by first | omega | decide) ?_ | refine SDraw.all (by kernel_rfl) ?_))
end
end Go.Proofs.YtiaginlnapiijaaGreatDoor


/- Ported (port.py) from WrX. -/
set_option linter.unusedVariables false
set_option linter.unusedSimpArgs false
set_option maxRecDepth 100000
set_option maxHeartbeats 4000000
namespace Go.Proofs.YtiaginlnapiijaaGreatDoor
open Sx
theorem NdL.snoc {r : Nat} {x : Nd} {M : Heap} (h2 : NdO r x M) : ∀ {rs : List Nat} {xs : List Nd} {N : Heap}, NdL rs xs N → NdL (rs ++ [r]) (xs ++ [x]) (N ++ M) := by
  intro rs xs N h
  induction h with
  | nil => simpa using NdL.cons h2 .nil
  | cons h1 _ ih => simpa using NdL.cons h1 ih
inductive S7 (A4 A13 A14 : Value) : List Value → Prop
  | mk {r0 r1 r2 r3 r5 r6 r7 r8 r9 r10 r11 r12 r15 r16 r17 r18 r19 r20 r21 r22 r23 r24 r25 r26 r27 r28 r29 : Value} : S7 A4 A13 A14 [r0, r1, r2, r3, A4, r5, r6, r7, r8, r9, r10, r11, r12, A13, A14, r15, r16, r17, r18, r19, r20, r21, r22, r23, r24, r25, r26, r27, r28, r29]
section
variable {K : Value → Heap → Prop} {H : Heap}
theorem c7 {n : Int} (h0 : ¬ (1 ≤ n ∧ n ≤ 127) → K (.tuple ⟨[.pointer none, zi 1]⟩) H) (h1 : 1 ≤ n ∧ n ≤ 127 → ∀ p F, BusO p ⟨0, List.replicate n.toNat n0⟩ F → K (.tuple ⟨[ptr p, zi 0]⟩) (F ++ H)) : SCalls Tryz.prog 7 [zi n] H K := by
  refine enter7 ?_
  by_cases hn : 1 ≤ n ∧ n ≤ 127
  · obtain ⟨hn1, hn2⟩ := hn
    have hk := h1 ⟨hn1, hn2⟩
    clear h0 h1
    obtain ⟨m, rfl⟩ : ∃ m : Nat, n = (m : Int) := ⟨n.toNat, by omega⟩
    rw [Int.toNat_natCast] at hk
    repeat' ((conv => whnf); (first | refine Branch.df (show ¬ (m : Int) < 1 by omega) ?_ | refine Branch.df (by omega) ?_ | refine New.mk (fun _ => ?_)))
    rename_i p
    refine SLoop.invA (fun (k : Nat) S H' => k ≤ m ∧ S7 (ptr p) (zi (m : Int)) (zi (k : Int)) S ∧ ∃ a c rs Mn N, Grow pC 1 59 (.slice a k c) rs Mn ∧ rs.length = k ∧ NdL rs (List.replicate k n0) N ∧ H' = bB p (.slice a k c) 0 :: (Mn ++ (N ++ H))) (fun k => m - k) 0 (Keep.all ⟨Nat.zero_le _, .mk, none, 0, [], [], [], .nil, rfl, .nil, rfl⟩) ?_
    rintro k S H' ⟨hkm, hS, a, c, rs, Mn, N, hG, hrl, hN, rfl⟩ R hR
    cases hS
    by_cases hlt : k < m
    · have happ : ∀ q r u (o : Oper) (xs xx : Operand) (K2 : Value → Heap → Prop), o.op = .call { callee := .builtin .append, args := #[xs, xx], argTypes := #[56, 56] } → (∀ a' c' M', Grow pC 1 59 (.slice a' (k + 1) c') (rs ++ [r]) M' → K2 (.slice a' (k + 1) c') (M' ++ ((q, .row 59 (pC r) (0, 0)) :: nB r u false (.slice none 0 0) (.slice none 0 0) :: uB u u0 :: bB p (.slice a k c) 0 :: (N ++ H)))) →
          RawV Tryz.prog o [.slice a k c, .slice (some ⟨q, 0, none⟩) 1 1] ((q, .row 59 (pC r) (0, 0)) :: nB r u false (.slice none 0 0) (.slice none 0 0) :: uB u u0 :: bB p (.slice a k c) 0 :: (Mn ++ (N ++ H))) K2 := by
        intro q r u o xs xx K2 ho hk
        refine RawV.grow1 (A := [(q, .row 59 (pC r) (0, 0)), nB r u false (.slice none 0 0) (.slice none 0 0), uB u u0, bB p (.slice a k c) 0]) (B := N ++ H) (x := r) (bytes := 8) hG rfl (.head _) ho (by kernel_rfl) (by decide) pC_len (pC_one r) (by rw [hrl]; simp only [maxLen]; omega) (by rw [hrl]; omega) (fun a' c' M' g1 => ?_)
        rw [hrl] at g1 ⊢
        exact hk a' c' M' g1
      have hnext : ∀ S a' c' M' q r u, Grow pC 1 59 (.slice a' (k + 1) c') (rs ++ [r]) M' → S7 (ptr p) (zi (m : Int)) (zi ((k + 1 : Nat) : Int)) S → R S ((M' ++ [q, nB r u false (.slice none 0 0) (.slice none 0 0), uB u u0]) ++ (bB p (.slice a' (k + 1) c') 0 :: (N ++ H))) := by
        intro S a' c' M' q r u g1 g2
        refine hR (k + 1) S _ (by omega) (Keep.mk ((bB p (.slice a' (k + 1) c') 0 :: (M' ++ ((N ++ (nB r u false (.slice none 0 0) (.slice none 0 0) :: uB u u0 :: ([] ++ []))) ++ H))) ++ [q]) _ ?_ (List.sublist_append_left _ _) ⟨hlt, g2, a', c', rs ++ [r], M', _, g1, by simp [hrl], ?_, rfl⟩)
        · exact perm_glue' (ls := [M', [q], [nB r u false (.slice none 0 0) (.slice none 0 0), uB u u0], [bB p (.slice a' (k + 1) c') 0], N, H]) (p := [0, 1, 2, 3, 4, 5]) (q := [3, 0, 4, 2, 5, 1]) (by decide) (by simp [glue]) (by simp [glue])
        · rw [List.replicate_succ']
          exact hN.snoc (.mk (x := n0) .none .nil)
      have h28 : ∀ X (K2 : Value → Heap → Prop), (∀ u, K2 (ptr u) (uB u u0 :: X)) → SCalls Tryz.prog 17 [] X K2 := fun X K2 hk => c17 hk
      have hput : ∀ a' c', PutOk (.row 58 [.slice a k c, .int .u64 0] (0, 0)) (0 + 0) [.slice a' (k + 1) c'] (.row 58 [.slice a' (k + 1) c', .int .u64 0] (0, 0)) := fun a' c' => PutOk.rowb rfl rfl
      clear hR hk
      repeat' ((conv => whnf); (first | refine Branch.dt (by omega) ?_ | refine SDraw.held (by kernel_rfl) [bB p (.slice a k c) 0] (.same (.head _) .nil) ?_ | refine Kept.mk (Seen.of (fun z hz => by obtain rfl := List.mem_singleton.1 hz; simp)) ?_ | with_reducible refine h28 _ _ (fun u => ?_) | with_reducible refine happ _ _ _ _ _ _ _ rfl (fun a' c' M' g1 => ?_) | refine ⟨M' ++ [_, _, _], _, _, (by rw [List.append_assoc]; rfl), _, hput _ _, appK_to ?_⟩ | exact hnext _ _ _ _ _ _ _ g1 .mk | refine New.mk (fun _ => ?_) | refine Look.at0 ?_ | refine Cell.row ?_ | with_reducible refine Val.i64 (by omega) (by omega) ?_))
    · obtain rfl : k = m := by omega
      have hk2 := hk p _ (.mk (s := ⟨0, List.replicate k n0⟩) hG hN)
      clear hR hk
      repeat' ((conv => whnf); (first | refine Branch.df (by omega) ?_ | exact Keep.all (by simpa using hk2)))
  · have hk := h0 hn
    clear h0 h1
    by_cases h1 : n < 1
    · repeat' ((conv => whnf); (first | refine Branch.dt h1 ?_ | exact Keep.all hk | refine Branch.t rfl ?_))
    · repeat' ((conv => whnf); (first | refine Branch.df h1 ?_ | refine Branch.dt (by omega) ?_ | exact Keep.all hk))
end
end Go.Proofs.YtiaginlnapiijaaGreatDoor


/- Ported (port.py) from WrXa. -/
set_option linter.unusedVariables false
set_option linter.unusedSimpArgs false
set_option maxRecDepth 100000
set_option maxHeartbeats 4000000
namespace Go.Proofs.YtiaginlnapiijaaGreatDoor
open Sx
theorem snd1_ok {pre : List Nd} {x : Nd} (h : NdW x) : okF (snd1 pre x).f = true := by
  unfold snd1
  cases hb : x.box with
  | none => rfl
  | some f => exact (h.ok f hb).1
theorem sndN_ok : ∀ (xs pre : List Nd), (∀ x ∈ xs, NdW x) → ∀ s ∈ sndN pre xs, okF s.f = true
  | [], _, _ => by intro s hs; cases hs
  | x :: xs, pre, h => by
    intro s hs
    rw [sndN] at hs
    rcases List.mem_cons.1 hs with rfl | hs
    · exact snd1_ok (h x (.head _))
    · exact sndN_ok xs _ (fun y hy => h y (.tail _ hy)) s hs
theorem sndN_id {xs pre : List Nd} (h : ∀ x ∈ xs, NdW x) : ∀ s ∈ sndN pre xs, s.f.id < 4294967296 := fun s hs => (okF_bd (sndN_ok xs pre h s hs)).1
theorem sndN_at : ∀ (xs pre : List Nd) (i : Nat) (x : Nd), xs[i]? = some x → (sndN pre xs)[i]? = some (snd1 (pre ++ xs.take i) x)
  | [], _, i, x, h => by simp at h
  | y :: xs, pre, 0, x, h => by
    rw [List.getElem?_cons_zero] at h
    injection h with h
    subst h
    simp [sndN]
  | y :: xs, pre, i + 1, x, h => by
    rw [List.getElem?_cons_succ] at h
    rw [sndN, List.getElem?_cons_succ, sndN_at xs (pre ++ [y]) i x h]
    simp
theorem comesV_bits {l : List Sn} {n w : Nat} {fl : List (Int × Int)} (hok : ∀ x ∈ fl, 0 ≤ x.2) (hn : n ≤ 300) : 0 ≤ (comesV l n w (frF l n w fl)).bits ∧ (comesV l n w (frF l n w fl)).bits ≤ 400 := by
  have han := frF_any (l := l) (n := n) (w := w) (fl := fl)
  generalize frF l n w fl = r at *
  unfold comesV
  split
  · rename_i h
    obtain ⟨x, hx, h1, h2, h3⟩ := han h
    have := hok x hx
    dsimp only
    omega
  · split
    · dsimp only; omega
    · split <;> dsimp only <;> omega
theorem comesV_len (l : List Sn) (n w : Nat) (r : Fr) : (comesV l n w r).errs.length = l.length ∧ (comesV l n w r).got.length = l.length ∧ (comesV l n w r).win = (w : Int) := by
  unfold comesV
  split
  · refine ⟨?_, by simp, rfl⟩
    dsimp only
    split <;> simp [stfE]
  · split
    · simp
    · split <;> simp [gotE]
end Go.Proofs.YtiaginlnapiijaaGreatDoor


/- Ported (port.py) from WrY. -/
set_option linter.unusedVariables false
set_option linter.unusedSimpArgs false
set_option maxRecDepth 100000
set_option maxHeartbeats 4000000
namespace Go.Proofs.YtiaginlnapiijaaGreatDoor
open Sx
theorem rd_win {s : Bs} {fl : List (Int × Int)} (hw : BsW s) (he : (s.rd fl).e = 0) :
    (s.rd fl).o.errs.length = s.ns.length ∧ (s.rd fl).o.got.length = s.ns.length ∧ 0 ≤ (s.rd fl).o.bits ∧ (s.rd fl).o.bits ≤ 400 ∧ (∀ x ∈ fl, 0 ≤ x.1 ∧ x.1 < (s.ns.length : Int) ∧ 0 ≤ x.2) ∧
      ((s.rd fl).o.win < 0 ∧ (s.rd fl).bt = -1 ∨ ∃ (w : Nat) (x : Nd) (f : Fm), (s.rd fl).o.win = (w : Int) ∧ s.ns[w]? = some x ∧ x.box = some f ∧ okF f = true ∧ (s.rd fl).bt = if (frF s.snd (encN f) w fl).any then (frF s.snd (encN f) w fl).node else -1) := by
  have hsl : s.snd.length = s.ns.length := sndN_len _ _
  unfold Bs.rd roundV at he ⊢
  by_cases hc : chkX s.snd.length fl = 0
  · rw [if_pos hc] at he ⊢
    obtain ⟨_, hok⟩ := chkX_ok hc
    unfold winV at he ⊢
    dsimp only at he ⊢
    by_cases hC : cand 0 s.snd = []
    · rw [if_pos hC]
      unfold noneV
      dsimp only
      refine ⟨by simp [hsl], by simp [hsl], by decide, by decide, by rw [hsl] at hok; exact hok, .inl ⟨by decide, rfl⟩⟩
    · rw [if_neg hC] at he ⊢
      by_cases hr : (firstV ((cand 0 s.snd).map (·.2))).2 = 0
      · rw [if_pos hr] at he ⊢
        dsimp only
        obtain ⟨_, hall, _, _, hlt1⟩ := firstV_ok hr
        rw [List.length_map] at hlt1
        obtain ⟨⟨w, f0⟩, hx, _⟩ := list_at hlt1
        have hgd : (cand 0 s.snd).getD (firstV ((cand 0 s.snd).map (·.2))).1 (0, z0) = (w, f0) := by rw [List.getD_eq_getElem?_getD, hx]; rfl
        rw [hgd]
        dsimp only
        obtain ⟨k1, k2, k3⟩ := comesV_len s.snd (encN f0) w (frF s.snd (encN f0) w fl)
        obtain ⟨k4, k5⟩ := comesV_bits (l := s.snd) (n := encN f0) (w := w) (fun x hx => (hok x hx).2.2) (by have := (encN_lt f0).2; omega)
        refine ⟨k1.trans hsl, k2.trans hsl, k4, k5, by rw [hsl] at hok; exact hok, .inr ?_⟩
        obtain ⟨_, sn, h1, h2, h3, h4⟩ := cand_mem (List.mem_of_getElem? hx)
        rw [Nat.sub_zero] at h1
        have hwl : w < s.ns.length := by rw [← hsl]; exact (List.getElem?_eq_some_iff.1 h1).1
        obtain ⟨x, hxw, _⟩ := list_at hwl
        have h5 := sndN_at s.ns [] w x hxw
        have h6 : s.snd[w]? = (sndN [] s.ns)[w]? := rfl
        rw [h6, h5] at h1
        injection h1 with h1
        subst h1
        unfold snd1 at h3 h4
        cases hb : x.box with
        | none => rw [hb] at h3; cases h3
        | some f =>
          rw [hb] at h4
          have h4 : f = f0 := h4
          subst h4
          exact ⟨w, x, f, k3, hxw, hb, (hw.w x (List.mem_of_getElem? hxw)).ok f hb |>.1, rfl⟩
      · rw [if_neg hr] at he
        exact absurd he hr
  · rw [if_neg hc] at he
    exact absurd he hc
end Go.Proofs.YtiaginlnapiijaaGreatDoor


/- Ported (port.py) from WrYa. -/
set_option linter.unusedVariables false
set_option linter.unusedSimpArgs false
set_option maxRecDepth 100000
set_option maxHeartbeats 4000000
namespace Go.Proofs.YtiaginlnapiijaaGreatDoor
open Sx
section
variable {K : Value → Heap → Prop} {H : Heap} {p : Nat} {s : Bs} {fv : Value} {fl : List (Int × Int)}
theorem c10 {F : Heap} (h : BusO p s F) (hw : BsW s) (hD : Db H) (hf : InS xC 2 fv H fl)
    (hK0 : (s.rd fl).e ≠ 0 → K (.tuple ⟨[oZ, zi (s.rd fl).e]⟩) (F ++ H))
    (hK1 : (s.rd fl).e = 0 → ∀ F' e g, BusO p (s.step fl) F' → K (.tuple ⟨[oV (s.rd fl).o e g s.ns.length, zi 0]⟩) (F' ++ (eB e (s.rd fl).o.errs s.ns.length :: gB g (s.rd fl).o.got s.ns.length :: H))) : SCalls Tryz.prog 10 [ptr p, fv] (F ++ H) K := by
  obtain ⟨fa, fc, rfl, hml2⟩ := hf.sv
  have hn2 := hw.n2
  have hsl : s.snd.length = s.ns.length := sndN_len _ _
  have h36 : ∀ (X : Heap) (K2 : Value → Heap → Prop), (∀ z ∈ F, z ∈ X) → (∀ z ∈ H, z ∈ X) → (∀ a c M, Grow snC 14 119 (.slice a s.ns.length c) s.snd M → K2 (.slice a s.ns.length c) (M ++ X)) → SCalls Tryz.prog 24 [ptr p] X K2 := fun X K2 h1 h2 hk => by
    obtain ⟨nv, rs, hr⟩ := h.read (H := X) h1
    exact c24 (hD.mono h2) hr hw.w hn2 hk
  have h35 : ∀ (X : Heap) a c (M : Heap) (K2 : Value → Heap → Prop), (∀ z ∈ H, z ∈ X) → Grow snC 14 119 (.slice a s.ns.length c) s.snd M → ((s.rd fl).e ≠ 0 → K2 (.tuple ⟨[oZ, zi (s.rd fl).e]⟩) (M ++ X)) → ((s.rd fl).e = 0 → ∀ e g, K2 (.tuple ⟨[oV (s.rd fl).o e g s.ns.length, zi 0]⟩) (eB e (s.rd fl).o.errs s.ns.length :: gB g (s.rd fl).o.got s.ns.length :: (M ++ X))) →
      SCalls Tryz.prog 23 [.slice a s.ns.length c, .slice fa fl.length fc] (M ++ X) K2 := fun X a c M K2 h2 hG k0 k1 => by
    refine c23 (l := s.snd) (hD.mono fun z hz => List.mem_append_right _ (h2 z hz)) (hG.ins snC_len fun z hz => List.mem_append_left _ hz) (sndN_id hw.w) (hf.mono fun z hz => List.mem_append_right _ (h2 z hz)) k0 (fun he e g => ?_)
    have := k1 he e g
    rw [← hsl] at this
    exact this
  have hF1 : ∀ y : Nat × Blk, ∀ z ∈ F, z ∈ y :: (F ++ H) := fun y z hz => .tail _ (List.mem_append_left _ hz)
  have hH1 : ∀ y : Nat × Blk, ∀ z ∈ H, z ∈ y :: (F ++ H) := fun y z hz => .tail _ (List.mem_append_right _ hz)
  by_cases he : (s.rd fl).e = 0
  · obtain ⟨hel, hgl, hb0, hb1, hok, hwn⟩ := rd_win hw he
    have h35 : ∀ (X : Heap) a c (M : Heap) (K2 : Value → Heap → Prop), (∀ z ∈ H, z ∈ X) → Grow snC 14 119 (.slice a s.ns.length c) s.snd M → (∀ e g, K2 (.tuple ⟨[oV (s.rd fl).o e g s.ns.length, zi 0]⟩) (eB e (s.rd fl).o.errs s.ns.length :: gB g (s.rd fl).o.got s.ns.length :: (M ++ X))) → SCalls Tryz.prog 23 [.slice a s.ns.length c, .slice fa fl.length fc] (M ++ X) K2 := fun X a c M K2 h2 hG k0 => h35 X a c M K2 h2 hG (fun h => absurd he h) (fun _ => k0)
    have hk := hK1 he
    have hstep : s.step fl = ⟨(s.time + (s.rd fl).o.bits.toNat) % 18446744073709551616, stlN (s.rd fl).o (s.rd fl).bt s.ns⟩ := by unfold Bs.step; rw [if_pos he]
    rw [hstep] at hk
    clear hK0 hK1 hstep
    generalize hO : (s.rd fl).o = O at *
    generalize (s.rd fl).bt = bt at *
    have hT : ∀ F2, BusO p s F2 → ∃ nv Y, F2 = bB p nv s.time :: Y ∧ ∀ time, BusO p ⟨time, s.ns⟩ (bB p nv time :: Y) := fun F2 h2 => by
      cases h2 with
      | @mk nv rs Mn N g1 g2 => exact ⟨nv, Mn ++ N, rfl, fun time => .mk (s := ⟨time, s.ns⟩) g1 g2⟩
    obtain ⟨nv, Y, rfl, hb2⟩ := hT F h
    have hT4 : (s.time + O.bits.toNat) % 18446744073709551616 < 18446744073709551616 := Nat.mod_lt _ (by decide)
    have hn2' := hn2
    have hF' : ∀ time, ∀ z ∈ bB p nv time :: Y, ∀ (a b c d : Nat × Blk) (M : Heap), z ∈ (a :: b :: c :: (M ++ [d])) ++ (bB p nv time :: (Y ++ H)) := fun time z hz a b c d M => List.mem_append_right _ (List.mem_append_left H hz)
    have hH' : ∀ time, ∀ z ∈ H, ∀ (a b c d : Nat × Blk) (M : Heap), z ∈ (a :: b :: c :: (M ++ [d])) ++ (bB p nv time :: (Y ++ H)) := fun time z hz a b c d M => List.mem_append_right _ (.tail _ (List.mem_append_right _ hz))
    have hbm : ∀ (a b c d : Nat × Blk) (M : Heap), bB p nv s.time ∈ a :: b :: c :: (M ++ (d :: (bB p nv s.time :: (Y ++ H)))) := fun a b c d M => .tail _ (.tail _ (.tail _ (List.mem_append_right _ (.tail _ (.head _)))))
    have g1 : (Blk.row 58 [nv, .int .u64 (s.time : Int)] (0, 0)).cell (0 + 1) = some (.int .u64 (s.time : Int)) := rfl
    have ht := hw.t
    have hsum : IntKind.u64.wrap ((s.time : Int) + O.bits) = (((s.time + O.bits.toNat) % 18446744073709551616 : Nat) : Int) := by
      rw [wrap_u64]; omega
    have hconv : IntKind.u64.wrap O.bits = O.bits := by
      rw [wrap_u64]; omega
    have h36 := fun (X : Heap) (K2 : Value → Heap → Prop) (h1 : ∀ z ∈ bB p nv s.time :: Y, z ∈ X) h2 => h36 X K2 h1 h2
    generalize (s.time + O.bits.toNat) % 18446744073709551616 = T at *
    have hput : PutOk (.row 58 [nv, .int .u64 (s.time : Int)] (0, 0)) (0 + 1) [.int .u64 (T : Int)] (.row 58 [nv, .int .u64 (T : Int)] (0, 0)) := PutOk.rowb rfl rfl
    have hput4 : ∀ e g, PutOk (.row 43 [zi 0, zi 0, .bool false, .slice none 0 0, .slice none 0 0] (0, 0)) 0 [zi O.win, zi O.bits, .bool O.sent, .slice (some ⟨e, 0, none⟩) s.ns.length s.ns.length, .slice (some ⟨g, 0, none⟩) s.ns.length s.ns.length] (.row 43 [zi O.win, zi O.bits, .bool O.sent, .slice (some ⟨e, 0, none⟩) s.ns.length s.ns.length, .slice (some ⟨g, 0, none⟩) s.ns.length s.ns.length] (0, 0)) := fun e g => PutOk.rowb rfl rfl
    have hc6 : ∀ e g, ∀ (j : Nat) v, [zi O.win, zi O.bits, .bool O.sent, .slice (some ⟨e, 0, none⟩) s.ns.length s.ns.length, .slice (some ⟨g, 0, none⟩) s.ns.length s.ns.length][j]? = some v → (Blk.row 43 [zi O.win, zi O.bits, .bool O.sent, .slice (some ⟨e, 0, none⟩) s.ns.length s.ns.length, .slice (some ⟨g, 0, none⟩) s.ns.length s.ns.length] (0, 0)).cell (0 + j) = some v := fun e g j v hv => by rw [Nat.zero_add]; exact hv
    have hb3 := hb2 T
    have heq : ∀ (a b c d : Nat × Blk) (M : Heap), a :: b :: c :: (M ++ (d :: ((bB p nv s.time :: Y) ++ H))) = (a :: b :: c :: (M ++ [d])) ++ (p, .row 58 [nv, .int .u64 (s.time : Int)] (0, 0)) :: (Y ++ H) := by intros; simp [bB]
    have hwin39 : O.win < 0 ∨ ∃ (w : Nat) (x : Nd) (f : Fm), O.win = (w : Int) ∧ s.ns[w]? = some x ∧ x.box = some f := by
      rcases hwn with ⟨h, _⟩ | ⟨w, x, f, k1, k2, k3, _⟩
      · exact .inl h
      · exact .inr ⟨w, x, f, k1, k2, k3⟩
    have heq4 : ∀ (F2 : Heap) (a b c d : Nat × Blk) (M : Heap), F2 ++ (a :: b :: c :: (M ++ (d :: H))) = (F2 ++ (a :: b :: c :: M)) ++ d :: H := by intros; simp
    have h39 : ∀ (a d : Nat × Blk) e g M (K2 : Value → Heap → Prop), (∀ F2, BusO p ⟨T, stlN O bt s.ns⟩ F2 → K2 (.tuple ⟨[]⟩) (F2 ++ (a :: eB e O.errs s.ns.length :: gB g O.got s.ns.length :: (M ++ (d :: H))))) →
        SCalls Tryz.prog 27 [ptr p, oV O e g s.ns.length, zi bt] ((a :: eB e O.errs s.ns.length :: gB g O.got s.ns.length :: (M ++ [d])) ++ (bB p nv T :: (Y ++ H))) K2 := by
      intro a d e g M K2 hk
      refine SCalls.glue [[a, eB e O.errs s.ns.length, gB g O.got s.ns.length], M, [d], bB p nv T :: Y, H] [0, 1, 2, 3, 4] [3, 0, 1, 2, 4] (by decide) (by simp [glue]) ?_
      have e1 : glue [[a, eB e O.errs s.ns.length, gB g O.got s.ns.length], M, [d], bB p nv T :: Y, H] [3, 0, 1, 2, 4] = (bB p nv T :: Y) ++ (a :: eB e O.errs s.ns.length :: gB g O.got s.ns.length :: (M ++ (d :: H))) := by simp [glue]
      rw [e1]
      exact c27 (s := ⟨T, s.ns⟩) hb3 ⟨hw.n1, hw.n2, hw.w, hT4⟩ (.tail _ (.head _)) (.tail _ (.tail _ (.head _))) hel hgl hwin39 hk
    rcases hwn with ⟨hneg, rfl⟩ | ⟨w, x, f, hwe, hx, hbx, hokf, hbt⟩
    · have hfin : ∀ (F2 : Heap) (a d : Nat × Blk) e g M, BusO p ⟨T, stlN O (-1) s.ns⟩ F2 → Keep ((F2 ++ (a :: eB e O.errs s.ns.length :: gB g O.got s.ns.length :: M)) ++ (d :: H)) fun H' => K (.tuple ⟨[oV O e g s.ns.length, zi 0]⟩) H' := fun F2 a d e g M hF2 =>
        Keep.glue [F2, [a], [eB e O.errs s.ns.length, gB g O.got s.ns.length], M, [d], H] [0, 1, 2, 3, 4, 5] [0, 2, 5] [1, 3, 4] (by decide) (by simp [glue]) (by simpa [glue] using hk F2 e g hF2)
      clear hk
      refine enter10 ?_
      repeat' ((conv => whnf); (first | with_reducible refine h36 _ _ (hF1 _) (hH1 _) (fun a c M hG => ?_) | with_reducible refine h35 _ _ _ _ _ (hH1 _) hG (fun e g => ?_) | refine Branch.f rfl ?_ | refine SDraw.all (by kernel_rfl) ?_ | refine Look.cell (hbm _ _ _ _ _) g1 ?_ | with_reducible refine Val.to _ hconv ?_ | with_reducible refine Val.to _ hsum ?_ | refine ⟨_ :: _ :: _ :: (M ++ [_]), _, _, heq _ _ _ _ _, _, hput, appK_to ?_⟩ | refine Branch.df (show ¬ (0 : Int) ≤ O.win by omega) ?_ | refine h39 _ _ _ _ _ _ (fun F2 hF2 => ?_) | refine Look.cells (List.mem_append_right _ (.head _)) rfl (hc6 _ _) ?_ | refine ⟨F2 ++ (_ :: _ :: _ :: M), _, _, heq4 _ _ _ _ _ _, _, hput4 _ _, appK_to ?_⟩ | exact hfin _ _ _ _ _ _ hF2 | refine New.mk (fun _ => ?_) | refine Look.at0 ?_ | refine Cell.row ?_ | refine Cells.row rfl ?_ | refine Put.row rfl ?_))
    · obtain ⟨win, bits, sent, errs, got⟩ := O
      dsimp only at hwe
      subst hwe
      dsimp only at *
      have hwl := (List.getElem?_eq_some_iff.1 hx).1
      have hnb := encN_lt f
      have h36T : ∀ (X : Heap) (K2 : Value → Heap → Prop), (∀ z ∈ bB p nv T :: Y, z ∈ X) → (∀ z ∈ H, z ∈ X) → (∀ a c M, Grow snC 14 119 (.slice a s.ns.length c) s.snd M → K2 (.slice a s.ns.length c) (M ++ X)) → SCalls Tryz.prog 24 [ptr p] X K2 := fun X K2 h1 h2 hk => by
        obtain ⟨nv', rs, hr⟩ := hb3.read (H := X) h1
        exact c24 (hD.mono h2) hr hw.w hn2 hk
      have h37T : ∀ (X : Heap) e g (K2 : Value → Heap → Prop), (∀ z ∈ bB p nv T :: Y, z ∈ X) → (∀ z ∈ H, z ∈ X) → K2 (zi (encN f : Int)) X → SCalls Tryz.prog 25 [ptr p, oV ⟨(w : Int), bits, sent, errs, got⟩ e g s.ns.length] X K2 := fun X e g K2 h1 h2 hk => by
        obtain ⟨nv', rs, hr⟩ := hb3.read (H := X) h1
        exact c25 (w := w) (hD.mono h2) hr hx hbx hokf rfl hk
      have hF2 : ∀ z ∈ bB p nv T :: Y, ∀ (a b c d : Nat × Blk) (M M2 : Heap), z ∈ M2 ++ ((a :: b :: c :: (M ++ [d])) ++ (bB p nv T :: (Y ++ H))) := fun z hz a b c d M M2 => List.mem_append_right _ (hF' T z hz a b c d M)
      have hH2 : ∀ z ∈ H, ∀ (a b c d : Nat × Blk) (M M2 : Heap), z ∈ M2 ++ ((a :: b :: c :: (M ++ [d])) ++ (bB p nv T :: (Y ++ H))) := fun z hz a b c d M M2 => List.mem_append_right _ (hH' T z hz a b c d M)
      have h38 : ∀ (t : Nat) e g a2 c2 (M2 X : Heap) (K2 : Value → Heap → Prop), Grow snC 14 119 (.slice a2 s.ns.length c2) s.snd M2 → (∀ z ∈ H, z ∈ X) →
          K2 (.tuple ⟨[.agg ⟨[zi (frF s.snd (encN f) w fl).node, zi (frF s.snd (encN f) w fl).bit]⟩, .bool (frF s.snd (encN f) w fl).any, .bool (frF s.snd (encN f) w fl).late]⟩) ((t, .row 76 [zi (w : Int), zi bits, .bool sent, .slice (some ⟨e, 0, none⟩) s.ns.length s.ns.length, .slice (some ⟨g, 0, none⟩) s.ns.length s.ns.length, .slice a2 s.ns.length c2, zi (encN f : Int)] (0, 0)) :: (M2 ++ X)) →
          SCalls Tryz.prog 26 [ptr t, .slice fa fl.length fc] ((t, .row 76 [zi (w : Int), zi bits, .bool sent, .slice (some ⟨e, 0, none⟩) s.ns.length s.ns.length, .slice (some ⟨g, 0, none⟩) s.ns.length s.ns.length, .slice a2 s.ns.length c2, zi (encN f : Int)] (0, 0)) :: (M2 ++ X)) K2 := fun t e g a2 c2 M2 X K2 hG2 hs hk => by
        refine c26 (l := s.snd) (w := w) (nn := encN f) (.head _) (hG2.ins snC_len fun z hz => .tail _ (List.mem_append_left _ hz)) (hf.mono fun z hz => .tail _ (List.mem_append_right _ (hs z hz))) (fun x hx => ?_) (by omega) hk
        rw [hsl]
        exact ⟨(hok x hx).1, (hok x hx).2.1⟩
      have hfin : ∀ (F2 : Heap) (x y a d : Nat × Blk) e g (M M2 : Heap), BusO p ⟨T, stlN ⟨(w : Int), bits, sent, errs, got⟩ bt s.ns⟩ F2 → Keep ((x :: y :: (M2 ++ (F2 ++ (a :: eB e errs s.ns.length :: gB g got s.ns.length :: M)))) ++ (d :: H)) fun H' => K (.tuple ⟨[oV ⟨(w : Int), bits, sent, errs, got⟩ e g s.ns.length, zi 0]⟩) H' := fun F2 x y a d e g M M2 hF2 =>
        Keep.glue [[x, y], M2, F2, [a], [eB e errs s.ns.length, gB g got s.ns.length], M, [d], H] [0, 1, 2, 3, 4, 5, 6, 7] [2, 4, 7] [0, 1, 3, 5, 6] (by decide) (by simp [glue]) (by simpa [glue] using hk F2 e g hF2)
      have heq6 : ∀ (F2 M2 : Heap) (x y a b c d : Nat × Blk) (M : Heap), x :: y :: (M2 ++ (F2 ++ (a :: b :: c :: (M ++ (d :: H))))) = (x :: y :: (M2 ++ (F2 ++ (a :: b :: c :: M)))) ++ d :: H := by intros; simp
      have h39' : ∀ (x y a d : Nat × Blk) e g M M2 (K2 : Value → Heap → Prop), (∀ F2, BusO p ⟨T, stlN ⟨(w : Int), bits, sent, errs, got⟩ bt s.ns⟩ F2 → K2 (.tuple ⟨[]⟩) (x :: y :: (M2 ++ (F2 ++ (a :: eB e errs s.ns.length :: gB g got s.ns.length :: (M ++ (d :: H))))))) →
        SCalls Tryz.prog 27 [ptr p, oV ⟨(w : Int), bits, sent, errs, got⟩ e g s.ns.length, zi bt] (x :: y :: (M2 ++ ((a :: eB e errs s.ns.length :: gB g got s.ns.length :: (M ++ [d])) ++ (bB p nv T :: (Y ++ H))))) K2 := fun x y a d e g M M2 K2 hk =>
        SCalls.under (x :: y :: M2) (h39 a d e g M _ fun F2 hF => hk F2 hF)
      generalize frF s.snd (encN f) w fl = r at *
      obtain ⟨any, nd, bit, late⟩ := r
      dsimp only at hbt h38
      have hs6 : ∀ (t6 e g : Nat) (X : Heap), (t6, Blk.row 43 [zi (w : Int), zi bits, .bool sent, .slice (some ⟨e, 0, none⟩) s.ns.length s.ns.length, .slice (some ⟨g, 0, none⟩) s.ns.length s.ns.length] (0, 0)) ∈ X → Seen X [(t6, Blk.row 43 [zi (w : Int), zi bits, .bool sent, .slice (some ⟨e, 0, none⟩) s.ns.length s.ns.length, .slice (some ⟨g, 0, none⟩) s.ns.length s.ns.length] (0, 0))] := fun t6 e g X h => .same h .nil
      dsimp only [oV] at h37T h39' hfin h35 hput4 hc6 h38
      clear hk hb2 hb3 h h39
      cases any with
      | true =>
        rw [if_pos rfl] at hbt
        subst hbt
        refine enter10 ?_
        repeat' ((conv => whnf); (first | with_reducible refine h36 _ _ (hF1 _) (hH1 _) (fun a c M hG => ?_) | with_reducible refine h35 _ _ _ _ _ (hH1 _) hG (fun e g => ?_) | refine SDraw.held (by kernel_rfl) [_, bB p nv s.time] (.same (.head _) (.same (hbm _ _ _ _ _) .nil)) ?_ | with_reducible refine Val.to _ hconv ?_ | with_reducible refine Val.to _ hsum ?_ | refine ⟨_ :: _ :: _ :: (M ++ [_]), _, _, heq _ _ _ _ _, _, hput, appK_to ?_⟩ | refine Branch.dt (show (0 : Int) ≤ (w : Int) by omega) ?_ | refine SDraw.held (by kernel_rfl) [_] (hs6 _ _ _ _ (.head _)) ?_ | refine And.intro ?_ ?_ | with_reducible refine h36T _ _ (fun z hz => hF' T z hz _ _ _ _ _) (fun z hz => hH' T z hz _ _ _ _ _) (fun a2 c2 M2 hG2 => ?_) | with_reducible refine h37T _ _ _ _ (fun z hz => hF' T z hz _ _ _ _ _) (fun z hz => hH' T z hz _ _ _ _ _) ?_ | with_reducible refine h37T _ _ _ _ (fun z hz => hF2 z hz _ _ _ _ _ _) (fun z hz => hH2 z hz _ _ _ _ _ _) ?_ | refine Kept.mk (hs6 _ _ _ _ (.head _)) ?_ | refine Kept.mk (hs6 _ _ _ _ (List.mem_append_right _ (.head _))) ?_ | with_reducible refine h38 _ _ _ _ _ _ _ _ hG2 (fun z hz => hH' T z hz _ _ _ _ _) ?_ | refine Branch.f (by rfl) ?_ | refine Branch.t rfl ?_ | refine Look.cells (.tail _ (.tail _ (List.mem_append_right _ (.head _)))) rfl (hc6 _ _) ?_ | with_reducible refine h39' _ _ _ _ _ _ _ _ _ (fun F2 hF2 => ?_) | refine Look.cells (.tail _ (.tail _ (List.mem_append_right _ (List.mem_append_right _ (.head _))))) rfl (hc6 _ _) ?_ | refine ⟨_ :: _ :: (M2 ++ (F2 ++ (_ :: _ :: _ :: M))), _, _, heq6 _ _ _ _ _ _ _ _ _, _, hput4 _ _, appK_to ?_⟩ | refine Look.cells (List.mem_append_right _ (.head _)) rfl (hc6 _ _) ?_ | exact hfin _ _ _ _ _ _ _ _ _ hF2 | refine New.mk (fun _ => ?_) | refine Look.at0 ?_ | refine Cell.row ?_ | refine Cells.row rfl ?_ | refine Put.row rfl ?_ | refine Look.at1 ?_))
      | false =>
        rw [if_neg (by decide)] at hbt
        subst hbt
        refine enter10 ?_
        repeat' ((conv => whnf); (first | with_reducible refine h36 _ _ (hF1 _) (hH1 _) (fun a c M hG => ?_) | with_reducible refine h35 _ _ _ _ _ (hH1 _) hG (fun e g => ?_) | refine SDraw.held (by kernel_rfl) [_, bB p nv s.time] (.same (.head _) (.same (hbm _ _ _ _ _) .nil)) ?_ | with_reducible refine Val.to _ hconv ?_ | with_reducible refine Val.to _ hsum ?_ | refine ⟨_ :: _ :: _ :: (M ++ [_]), _, _, heq _ _ _ _ _, _, hput, appK_to ?_⟩ | refine Branch.dt (show (0 : Int) ≤ (w : Int) by omega) ?_ | refine SDraw.held (by kernel_rfl) [_] (hs6 _ _ _ _ (.head _)) ?_ | refine And.intro ?_ ?_ | with_reducible refine h36T _ _ (fun z hz => hF' T z hz _ _ _ _ _) (fun z hz => hH' T z hz _ _ _ _ _) (fun a2 c2 M2 hG2 => ?_) | with_reducible refine h37T _ _ _ _ (fun z hz => hF' T z hz _ _ _ _ _) (fun z hz => hH' T z hz _ _ _ _ _) ?_ | with_reducible refine h37T _ _ _ _ (fun z hz => hF2 z hz _ _ _ _ _ _) (fun z hz => hH2 z hz _ _ _ _ _ _) ?_ | refine Kept.mk (hs6 _ _ _ _ (.head _)) ?_ | refine Kept.mk (hs6 _ _ _ _ (List.mem_append_right _ (.head _))) ?_ | with_reducible refine h38 _ _ _ _ _ _ _ _ hG2 (fun z hz => hH' T z hz _ _ _ _ _) ?_ | refine Branch.f rfl ?_ | refine Look.cells (.tail _ (.tail _ (List.mem_append_right _ (.head _)))) rfl (hc6 _ _) ?_ | with_reducible refine h39' _ _ _ _ _ _ _ _ _ (fun F2 hF2 => ?_) | refine Look.cells (.tail _ (.tail _ (List.mem_append_right _ (List.mem_append_right _ (.head _))))) rfl (hc6 _ _) ?_ | refine ⟨_ :: _ :: (M2 ++ (F2 ++ (_ :: _ :: _ :: M))), _, _, heq6 _ _ _ _ _ _ _ _ _, _, hput4 _ _, appK_to ?_⟩ | refine Look.cells (List.mem_append_right _ (.head _)) rfl (hc6 _ _) ?_ | exact hfin _ _ _ _ _ _ _ _ _ hF2 | refine New.mk (fun _ => ?_) | refine Look.at0 ?_ | refine Cell.row ?_ | refine Cells.row rfl ?_ | refine Put.row rfl ?_ | refine Look.at1 ?_))
  · have hk := hK0 he
    have h35 : ∀ (X : Heap) a c (M : Heap) (K2 : Value → Heap → Prop), (∀ z ∈ H, z ∈ X) → Grow snC 14 119 (.slice a s.ns.length c) s.snd M → K2 (.tuple ⟨[oZ, zi (s.rd fl).e]⟩) (M ++ X) → SCalls Tryz.prog 23 [.slice a s.ns.length c, .slice fa fl.length fc] (M ++ X) K2 := fun X a c M K2 h2 hG k0 => h35 X a c M K2 h2 hG (fun _ => k0) (fun h => absurd h he)
    have hb : decide ((s.rd fl).e = 0) = false := decide_eq_false he
    clear hK0 hK1
    have hfin : ∀ (x z : Nat × Blk) (M : Heap), Keep (x :: (M ++ (z :: (F ++ H)))) fun H' => K (.tuple ⟨[oZ, zi (s.rd fl).e]⟩) H' := fun x z M => Keep.glue [[x], M, [z], F ++ H] [0, 1, 2, 3] [3] [0, 1, 2] (by decide) (by simp [glue]) (by simpa [glue] using hk)
    refine enter10 ?_
    repeat' ((conv => whnf); (first | with_reducible refine h36 _ _ (hF1 _) (hH1 _) (fun a c M hG => ?_) | with_reducible refine h35 _ _ _ _ _ (hH1 _) hG ?_ | refine Branch.t (by rw [hb]; rfl) ?_ | refine ⟨_ :: M, _, _, rfl, _, PutOk.rowb (cs' := [zi 0, zi 0, .bool false, .slice none 0 0, .slice none 0 0]) rfl rfl, appK_to ?_⟩ | refine Look.skip (Look.app ?_) | exact hfin _ _ _ | refine New.mk (fun _ => ?_) | refine Look.at0 ?_ | refine Cells.row rfl ?_ | refine Put.row rfl ?_))
end
end Go.Proofs.YtiaginlnapiijaaGreatDoor


/- Ported (port.py) from WrZa. -/
set_option linter.unusedVariables false
set_option linter.unusedSimpArgs false
set_option maxRecDepth 100000
set_option maxHeartbeats 4000000
namespace Go.Proofs.YtiaginlnapiijaaGreatDoor
open Sx
/-- What a round without an error comes to. -/
theorem round_cases {l : List Sn} {fl : List (Int × Int)} (he : (roundV l fl).e = 0) :
    chkX l.length fl = 0 ∧ ((cand 0 l = [] ∧ roundV l fl = ⟨0, -1, noneV l.length⟩) ∨
      ∃ k w f s, firstV ((cand 0 l).map (·.2)) = (k, 0) ∧ (cand 0 l)[k]? = some (w, f) ∧ l[w]? = some s ∧ s.up = true ∧ s.sends = true ∧ s.f = f ∧
        roundV l fl = ⟨0, if (frF l (encN f) w fl).any then (frF l (encN f) w fl).node else -1, comesV l (encN f) w (frF l (encN f) w fl)⟩) := by
  unfold roundV at he ⊢
  by_cases hc : chkX l.length fl = 0
  · rw [if_pos hc] at he ⊢
    refine ⟨hc, ?_⟩
    unfold winV at he ⊢
    dsimp only at he ⊢
    by_cases hC : cand 0 l = []
    · rw [if_pos hC]; exact .inl ⟨hC, rfl⟩
    · rw [if_neg hC] at he ⊢
      by_cases hr : (firstV ((cand 0 l).map (·.2))).2 = 0
      · rw [if_pos hr] at he ⊢
        refine .inr ?_
        obtain ⟨_, _, _, _, hlt⟩ := firstV_ok hr
        rw [List.length_map] at hlt
        obtain ⟨⟨w, f⟩, hx, _⟩ := list_at hlt
        have hgd : (cand 0 l).getD (firstV ((cand 0 l).map (·.2))).1 (0, z0) = (w, f) := by rw [List.getD_eq_getElem?_getD, hx]; rfl
        rw [hgd]
        obtain ⟨_, s, h1, h2, h3, h4⟩ := cand_mem (List.mem_of_getElem? hx)
        rw [Nat.sub_zero] at h1
        exact ⟨_, w, f, s, by rw [← hr], hx, h1, h2, h3, h4, rfl⟩
      · rw [if_neg hr] at he; exact absurd he hr
  · rw [if_neg hc] at he; exact absurd he hc
theorem tlt_irr (a : List UInt8) : tlt a a = false := Hp.bl_irr a
/-- The first of several different fields is the least one. -/
theorem bstN_min (fs : List (List UInt8)) : ∀ (k : Nat), k ≤ fs.length → ∀ j, j < k → tlt (fs.getD j []) (fs.getD (bstN fs k) []) = false
  | 0, _, j, hj => by omega
  | k + 1, hk, j, hj => by
    have ih := bstN_min fs k (by omega)
    rw [bstN]
    cases h : tlt (fs.getD k []) (fs.getD (bstN fs k) []) with
    | true =>
      rw [if_pos rfl]
      by_cases hjk : j = k
      · subst hjk; exact tlt_irr _
      · have h1 := ih j (by omega)
        cases h2 : tlt (fs.getD j []) (fs.getD k []) with
        | false => rfl
        | true =>
          have h3 : tlt (fs.getD j []) (fs.getD (bstN fs k) []) = true := Hp.bl_trans _ _ _ h2 h
          rw [h1] at h3; cases h3
    | false =>
      rw [if_neg (by decide)]
      by_cases hjk : j = k
      · subst hjk; exact h
      · exact ih j (by omega)
theorem getD_map {l : List Fm} {k : Nat} {f : Fm} (h : l[k]? = some f) : (l.map fld).getD k [] = fld f := by
  rw [List.getD_eq_getElem?_getD, List.getElem?_map, h]; rfl
end Go.Proofs.YtiaginlnapiijaaGreatDoor


/- Ported (port.py) from WrZc. -/
set_option linter.unusedVariables false
set_option linter.unusedSimpArgs false
set_option maxRecDepth 100000
set_option maxHeartbeats 4000000
namespace Go.Proofs.YtiaginlnapiijaaGreatDoor
open Sx
theorem NdW.stl {x : Nd} (h : NdW x) (o : Out) (bt : Int) (won : Fm) (i : Nat) : NdW (stl o bt won i x) := by
  obtain ⟨hu, hup, hok, hin⟩ := h
  have hu1 : UnW (if x.on then x.u.idl else x.u) := by split; exact hu.idl; exact hu
  obtain ⟨on, u, box, inn⟩ := x
  dsimp only at *
  unfold Go.Proofs.YtiaginlnapiijaaGreatDoor.stl
  dsimp only
  generalize (if on = true then u.idl else u) = u1 at *
  have key : ∀ x2 : Nd, UnW x2.u → (x2.on = false → x2.box = none) → (∀ f, x2.box = some f → okF f = true ∧ plF f = f) → x2.inn.length ≤ 64 → NdW ⟨x2.on, x2.u, if x2.u.off then none else x2.box, x2.inn⟩ := by
    rintro ⟨on2, u2, box2, inn2⟩ k1 k2 k3 k4
    dsimp only at *
    refine ⟨k1, fun h => ?_, fun f h => ?_, k4⟩
    · unfold Nd.up at h
      dsimp only at h ⊢
      cases ho : u2.off with
      | true => rfl
      | false =>
        rw [ho] at h
        rw [if_neg (by decide)]
        exact k2 (by simpa using h)
    · dsimp only at h
      split at h
      · cases h
      · exact k3 f h
  have hon : on = false → box = none := fun h => hup (by unfold Nd.up; rw [h]; rfl)
  apply key
  · split
    · exact hu1
    · split
      · split
        · exact hu1.sent
        · exact hu1.fail
      · split
        · exact hu1.recv
        · split
          · exact hu1
          · exact hu1.erred
  · split
    · exact hon
    · split
      · split
        · intro _; rfl
        · exact hon
      · split
        · exact hon
        · split
          · exact hon
          · exact hon
  · split
    · exact hok
    · split
      · split
        · intro f hf; cases hf
        · exact hok
      · split
        · exact hok
        · split
          · exact hok
          · exact hok
  · split
    · exact hin
    · split
      · split
        · exact hin
        · exact hin
      · split
        · dsimp only
          split
          · rw [List.length_append, List.length_singleton]; omega
          · exact hin
        · split
          · exact hin
          · exact hin
theorem BsW.put {s : Bs} (h : BsW s) {i : Int} {x : Nd} (hx : NdW x) : BsW (s.put i x) := by
  obtain ⟨h1, h2, h3, h4⟩ := h
  refine ⟨?_, ?_, fun y hy => ?_, h4⟩
  · show 1 ≤ (s.ns.set i.toNat x).length; rw [List.length_set]; exact h1
  · show (s.ns.set i.toNat x).length ≤ 127; rw [List.length_set]; exact h2
  · rcases List.mem_or_eq_of_mem_set hy with h | rfl
    · exact h3 _ h
    · exact hx
theorem UnW.zero : UnW u0 := ⟨by decide, by decide, by decide⟩
theorem NdW.new {on : Bool} : NdW ⟨on, u0, none, []⟩ := ⟨UnW.zero, fun _ => rfl, (fun f h => nomatch h), Nat.zero_le _⟩
theorem BsW.at {s : Bs} (h : BsW s) {i : Int} (hi : s.is i) : NdW (s.at i) := h.w _ (List.mem_of_getElem? (Bs.at_of hi))
theorem BsW.power {s : Bs} (h : BsW s) {i : Int} {on : Bool} : BsW (s.power i on).1 := by
  unfold Bs.power
  split
  · dsimp only
    split
    · exact h
    · exact h.put .new
  · exact h
theorem BsW.submit {s : Bs} (h : BsW s) {i : Int} {f : Fm} (hpp : plF (plF f) = plF f) : BsW (s.submit i f).1 := by
  unfold Bs.submit
  split
  · rename_i hi
    split
    · rename_i hf
      split
      · rename_i hu
        split
        · exact h
        · have hx := h.at hi
          exact h.put ⟨hx.u, fun hn => absurd hu (by rw [show (s.at i).up = false from hn]; decide), fun g hg => by injection hg with hg; subst hg; exact ⟨hf, hpp⟩, hx.inn⟩
      · exact h
    · exact h
  · exact h
theorem stlN_len (o : Out) (bt : Int) (ns : List Nd) : (stlN o bt ns).length = ns.length := by simp [stlN]
theorem BsW.step {s : Bs} (h : BsW s) {fl : List (Int × Int)} : BsW (s.step fl) := by
  unfold Bs.step
  split
  · refine ⟨?_, ?_, fun x hx => ?_, ?_⟩
    · show 1 ≤ (stlN _ _ _).length; rw [stlN_len]; exact h.n1
    · show (stlN _ _ _).length ≤ 127; rw [stlN_len]; exact h.n2
    · obtain ⟨i, hi⟩ := List.getElem?_of_mem hx
      unfold stlN at hi
      rw [List.getElem?_mapIdx] at hi
      obtain ⟨y, hy, rfl⟩ := Option.map_eq_some_iff.1 hi
      exact (h.w y (List.mem_of_getElem? hy)).stl _ _ _ _
    · exact Nat.mod_lt _ (by decide)
  · exact h
end Go.Proofs.YtiaginlnapiijaaGreatDoor


/- Ported (port.py) from WrZd. -/
set_option linter.unusedVariables false
set_option linter.unusedSimpArgs false
set_option maxRecDepth 100000
set_option maxHeartbeats 4000000
namespace Go.Proofs.YtiaginlnapiijaaGreatDoor
open Sx
/-- The one who sends, and the others. -/
def oneB (m a : Nat) (box : Option Fm) (inn : List Fm) (t : Nat) : Bs := ⟨t, ⟨true, ⟨a, 0, false, 0⟩, box, []⟩ :: List.replicate m ⟨true, u0, none, inn⟩⟩
/-- What a round tells, in memory. -/
def OuR (vs : List Value) (o : Out) (H : Heap) : Prop := ∃ se sg, vs = [zi o.win, zi o.bits, .bool o.sent, se, sg] ∧ InS (fun n : Int => [zi n]) 1 se H o.errs ∧ InS (fun b : Bool => [.bool b]) 1 sg H o.got
theorem OuR.mono {vs : List Value} {o : Out} {H H' : Heap} (h : OuR vs o H) (hs : ∀ z ∈ H, z ∈ H') : OuR vs o H' := by
  obtain ⟨se, sg, h1, h2, h3⟩ := h
  exact ⟨se, sg, h1, h2.mono hs, h3.mono hs⟩
theorem OuR.of {o : Out} {e g n : Nat} {H : Heap} (h1 : o.errs.length = n) (h2 : o.got.length = n) (hn : n ≤ 127) (h3 : eB e o.errs n ∈ H) (h4 : gB g o.got n ∈ H) : OuR [zi o.win, zi o.bits, .bool o.sent, .slice (some ⟨e, 0, none⟩) n n, .slice (some ⟨g, 0, none⟩) n n] o H := by
  refine ⟨_, _, rfl, ?_, ?_⟩
  · have := InS.buf (f := fun n : Int => [zi n]) (k := 1) (c := n) h3 (L := o.errs) List.map_eq_flatMap (fun _ => rfl) (by rw [h1]; simp only [maxLen]; omega)
    rwa [h1] at this
  · have := InS.buf (f := fun b : Bool => [Value.bool b]) (k := 1) (c := n) h4 (L := o.got) List.map_eq_flatMap (fun _ => rfl) (by rw [h2]; simp only [maxLen]; omega)
    rwa [h2] at this
theorem OuR.zero {H : Heap} : OuR [zi 0, zi 0, .bool false, .slice none 0 0, .slice none 0 0] zOut H := ⟨_, _, rfl, .nil, .nil⟩
theorem round_zero {l : List Sn} {fl : List (Int × Int)} (h : (roundV l fl).e ≠ 0) : (roundV l fl).o = zOut := by
  unfold roundV at h ⊢
  split
  · rename_i hc
    rw [if_pos hc] at h
    unfold winV at h ⊢
    dsimp only at h ⊢
    split
    · rename_i hC; rw [if_pos hC] at h; exact absurd rfl h
    · rename_i hC
      rw [if_neg hC] at h
      split
      · rename_i hr; rw [if_pos hr] at h; exact absurd rfl h
      · rfl
  · rfl
theorem round_len {l : List Sn} {fl : List (Int × Int)} (h : (roundV l fl).e = 0) : (roundV l fl).o.errs.length = l.length ∧ (roundV l fl).o.got.length = l.length ∧ l.length ≤ 127 := by
  obtain ⟨hc, hr⟩ := round_cases h
  obtain ⟨h127, _⟩ := chkX_ok hc
  rcases hr with ⟨_, e⟩ | ⟨k, w, f, s, _, _, _, _, _, _, e⟩
  · rw [e]; exact ⟨by simp [noneV], by simp [noneV], h127⟩
  · rw [e]
    obtain ⟨h1, h2, _⟩ := comesV_len l (encN f) w (frF l (encN f) w fl)
    exact ⟨h1, h2, h127⟩
end Go.Proofs.YtiaginlnapiijaaGreatDoor


/- Ported (port.py) from WrZj. -/
set_option linter.unusedVariables false
set_option linter.unusedSimpArgs false
set_option maxRecDepth 100000
set_option maxHeartbeats 4000000
namespace Go.Proofs.YtiaginlnapiijaaGreatDoor
open Sx
/-- Two objects and what is only read, wherever these lie. -/
def Own (A B : Heap → Prop) (R H : Heap) : Prop := ∃ F G X, A F ∧ B G ∧ H.Perm (F ++ (G ++ X)) ∧ ∀ z ∈ R, z ∈ X
def NoB (G : Heap) : Prop := G = []
section
variable {A B : Heap → Prop} {R R' H H' : Heap} {z : Nat × Blk} {M : Heap}
theorem Own.mem (h : Own A B R H) : ∀ z ∈ R, z ∈ H := fun z hz => by
  obtain ⟨F, G, X, _, _, hp, hs⟩ := h
  exact hp.symm.subset (List.mem_append_right _ (List.mem_append_right _ (hs z hz)))
theorem Own.less (h : Own A B R H) (hs : ∀ z ∈ R', z ∈ R) : Own A B R' H := by
  obtain ⟨F, G, X, h1, h2, hp, h3⟩ := h
  exact ⟨F, G, X, h1, h2, hp, fun z hz => h3 z (hs z hz)⟩
theorem Own.app (h : Own A B R H) : Own A B (M ++ R) (M ++ H) := by
  obtain ⟨F, G, X, h1, h2, hp, h3⟩ := h
  refine ⟨F, G, M ++ X, h1, h2, (hp.append_left M).trans ?_, fun z hz => ?_⟩
  · exact perm_glue' (ls := [M, F, G, X]) (p := [0, 1, 2, 3]) (q := [1, 2, 0, 3]) (by decide) (by simp [glue]) (by simp [glue])
  · rcases List.mem_append.1 hz with hz | hz
    · exact List.mem_append_left _ hz
    · exact List.mem_append_right _ (h3 z hz)
theorem Own.cons (h : Own A B R H) : Own A B (z :: R) (z :: H) := Own.app (M := [z]) h
theorem Own.skip (h : Own A B R H) : Own A B R (z :: H) := (Own.cons h).less fun _ hz => .tail _ hz
theorem Own.none (hs : ∀ z ∈ R, z ∈ H) : Own NoB NoB R H := ⟨[], [], H, rfl, rfl, .refl _, hs⟩
theorem InS.one {α : Type} {f : α → List Value} {k p c : Nat} {t : TypeId} {fz : Nat × Nat} {x : α} (hm : (p, .row t (f x) fz) ∈ R) (hk : ∀ x, (f x).length = k) : InS f k (.slice (some ⟨p, 0, none⟩) 1 c) R [x] :=
  InS.row (L := [x]) hm (by simp) hk (show (1 : Nat) ≤ maxLen by decide)
end
section
variable {B : Heap → Prop} {R H : Heap} {K : Value → Heap → Prop} {p : Nat} {s : Bs} {i : Int} {on : Bool} {f : Fm} {fl : List (Int × Int)} {fv : Value}
theorem h9 {n : Nat} (h : Own NoB B R H) (h1 : 1 ≤ n) (h2 : n ≤ 127) (hK : ∀ p H', Own (BusO p ⟨0, List.replicate n n0⟩) B R H' → K (.tuple ⟨[ptr p, zi 0]⟩) H') : SCalls Tryz.prog 7 [zi (n : Int)] H K := by
  obtain ⟨F, G, X, h3, h4, hp, h5⟩ := h
  refine c7 (fun hn => absurd (by omega) hn) (fun _ p F' hF' => ?_)
  rw [Int.toNat_natCast] at hF'
  refine hK p _ ⟨F', G, X, hF', h4, ?_, h5⟩
  rw [show F = [] from h3, List.nil_append] at hp
  exact hp.append_left F'
theorem h10 (h : Own (BusO p s) B R H) (hK : ∀ H', Own (BusO p (s.power i on).1) B R H' → K (zi (s.power i on).2) H') : SCalls Tryz.prog 8 [ptr p, zi i, .bool on] H K := by
  obtain ⟨F, G, X, h3, h4, hp, h5⟩ := h
  exact SCalls.perm (c8 h3 fun F' hF' => hK _ ⟨F', G, X, hF', h4, .refl _, h5⟩) hp
theorem h11 (h : Own (BusO p s) B R H) (hid : f.id < 4294967296) (hK : ∀ H', Own (BusO p (s.submit i f).1) B R H' → K (zi (s.submit i f).2) H') : SCalls Tryz.prog 9 [ptr p, zi i, frV f] H K := by
  obtain ⟨F, G, X, h3, h4, hp, h5⟩ := h
  exact SCalls.perm (c9 h3 hid fun F' hF' => hK _ ⟨F', G, X, hF', h4, .refl _, h5⟩) hp
theorem h24 (h : Own (BusO p s) B R H) (hK : K (.int .u64 (s.time : Int)) H) : SCalls Tryz.prog 12 [ptr p] H K := by
  obtain ⟨F, G, X, h3, h4, hp, h5⟩ := h
  obtain ⟨nv, rs, hr⟩ := h3.read (H := H) fun z hz => hp.symm.subset (List.mem_append_left _ hz)
  exact c12 hr hK
theorem h13 (h : Own (BusO p s) B R H) (hw : BsW s) (hD : Db R) (hf : InS xC 2 fv R fl)
    (hK : ∀ ea ec ga gc N H', Own (BusO p (s.step fl)) B (N ++ R) H' → OuR [zi (s.rd fl).o.win, zi (s.rd fl).o.bits, .bool (s.rd fl).o.sent, .slice ea (s.rd fl).o.errs.length ec, .slice ga (s.rd fl).o.got.length gc] (s.rd fl).o (N ++ R) →
      K (.tuple ⟨[.agg ⟨[zi (s.rd fl).o.win, zi (s.rd fl).o.bits, .bool (s.rd fl).o.sent, .slice ea (s.rd fl).o.errs.length ec, .slice ga (s.rd fl).o.got.length gc]⟩, zi (s.rd fl).e]⟩) H') : SCalls Tryz.prog 10 [ptr p, fv] H K := by
  obtain ⟨F, G, X, h3, h4, hp, h5⟩ := h
  have h6 : ∀ z ∈ R, z ∈ G ++ X := fun z hz => List.mem_append_right _ (h5 z hz)
  refine SCalls.perm (c10 h3 hw (hD.mono h6) (hf.mono h6) (fun he => ?_) (fun he F' e g hF' => ?_)) hp
  · have hz : (s.rd fl).o = zOut := round_zero he
    have hs : s.step fl = s := by unfold Bs.step; rw [if_neg he]
    have := hK none 0 none 0 [] (F ++ (G ++ X)) (by rw [hs]; exact ⟨F, G, X, h3, h4, .refl _, h5⟩) (by rw [hz]; exact .zero)
    rw [hz] at this
    exact this
  · obtain ⟨l1, l2, l3⟩ := round_len he
    have hn : s.snd.length = s.ns.length := sndN_len _ _
    rw [hn] at l1 l2 l3
    have hO := OuR.of (H := eB e (s.rd fl).o.errs s.ns.length :: gB g (s.rd fl).o.got s.ns.length :: R) l1 l2 l3 (.head _) (.tail _ (.head _))
    have l1' : (s.rd fl).o.errs.length = s.ns.length := l1
    have l2' : (s.rd fl).o.got.length = s.ns.length := l2
    have := hK (some ⟨e, 0, none⟩) s.ns.length (some ⟨g, 0, none⟩) s.ns.length [eB e (s.rd fl).o.errs s.ns.length, gB g (s.rd fl).o.got s.ns.length] (F' ++ (eB e (s.rd fl).o.errs s.ns.length :: gB g (s.rd fl).o.got s.ns.length :: (G ++ X)))
      ⟨F', G, eB e (s.rd fl).o.errs s.ns.length :: gB g (s.rd fl).o.got s.ns.length :: X, hF', h4, perm_glue' (ls := [F', [eB e (s.rd fl).o.errs s.ns.length, gB g (s.rd fl).o.got s.ns.length], G, X]) (p := [0, 1, 2, 3]) (q := [0, 2, 1, 3]) (by decide) (by simp [glue]) (by simp [glue]), fun z hz => by
        rcases List.mem_cons.1 hz with rfl | hz
        · exact .head _
        · rcases List.mem_cons.1 hz with rfl | hz
          · exact .tail _ (.head _)
          · exact .tail _ (.tail _ (h5 z hz))⟩ (by rw [l1', l2']; exact hO)
    rw [l1', l2', he] at this
    exact this
end
def pN : Nd := ⟨true, u0, none, []⟩
def pwN (n k : Nat) : List Nd := List.replicate k pN ++ List.replicate (n - k) n0
theorem pwN_zero (n : Nat) : pwN n 0 = List.replicate n n0 := by simp [pwN]
theorem pwN_all (n : Nat) : pwN n n = List.replicate n pN := by simp [pwN]
theorem pwN_len {n k : Nat} (h : k ≤ n) : (pwN n k).length = n := by simp [pwN]; omega
theorem pw_step {n k t : Nat} (h : k < n) : (⟨t, pwN n k⟩ : Bs).power (k : Int) true = (⟨t, pwN n (k + 1)⟩, 0) := by
  have hi : (⟨t, pwN n k⟩ : Bs).is (k : Int) := by
    unfold Bs.is
    show 0 ≤ (k : Int) ∧ (k : Int) < ((pwN n k).length : Int)
    rw [pwN_len (by omega)]; omega
  have hx : pwN n k = List.replicate k pN ++ n0 :: List.replicate (n - (k + 1)) n0 := by
    unfold pwN
    rw [show n - k = (n - (k + 1)) + 1 by omega, List.replicate_succ]
  have hat : (⟨t, pwN n k⟩ : Bs).at (k : Int) = n0 := by
    unfold Bs.at
    dsimp only
    rw [Int.toNat_natCast, hx, List.getD_eq_getElem?_getD, List.getElem?_append_right (by simp)]
    simp
  unfold Bs.power
  rw [if_pos hi, hat, if_neg (by decide)]
  unfold Bs.put
  dsimp only
  rw [Int.toNat_natCast, hx, List.set_append_right _ _ (by simp)]
  simp only [List.length_replicate, Nat.sub_self, List.set_cons_zero]
  congr 2
  unfold pwN
  rw [List.replicate_succ', List.append_assoc]; rfl
theorem zs_zs (f : Fm) (m : Nat) : zs (zs f m 8) m 8 = zs f m 8 := by
  unfold zs
  dsimp only
  congr 1 <;> (split <;> rfl)
theorem nb_pl (f : Fm) : nb (plF f) = nb f := rfl
theorem pl_pl (f : Fm) : plF (plF f) = plF f := by
  show zs (plF f) (nb (plF f)) 8 = plF f
  rw [nb_pl]
  exact zs_zs f (nb f)
end Go.Proofs.YtiaginlnapiijaaGreatDoor


/- Ported (port.py) from WrZl. -/
set_option linter.unusedVariables false
set_option linter.unusedSimpArgs false
set_option maxRecDepth 100000
set_option maxHeartbeats 4000000
namespace Go.Proofs.YtiaginlnapiijaaGreatDoor
open Sx
/-- All have power, and nothing went wrong yet. -/
def AllC (ns : List Nd) : Prop := ∀ x ∈ ns, x.on = true ∧ x.u = u0
theorem AllC.up {ns : List Nd} (h : AllC ns) {x : Nd} (hx : x ∈ ns) : x.up = true := by
  obtain ⟨h1, h2⟩ := h x hx
  unfold Nd.up
  rw [h1, h2]; rfl
theorem cand_of {i : Nat} {s : Sn} : ∀ {l : List Sn} {k : Nat}, l[i]? = some s → s.up = true → s.sends = true → (k + i, s.f) ∈ cand k l
  | [], k, h, _, _ => by simp at h
  | x :: l, k, h, h1, h2 => by
    rw [cand]
    cases i with
    | zero =>
      rw [List.getElem?_cons_zero] at h
      injection h with h
      subst h
      rw [h1, h2, Bool.and_self, if_pos rfl]
      exact .head _
    | succ i =>
      rw [List.getElem?_cons_succ] at h
      have := cand_of (k := k + 1) h h1 h2
      rw [show k + 1 + i = k + (i + 1) by omega] at this
      split
      · exact .tail _ this
      · exact this
/-- Whoever has a frame: one of its field is sent. -/
theorem cand_box {ns : List Nd} (hc : AllC ns) : ∀ (j : Nat) (y : Nd) (g : Fm), ns[j]? = some y → y.box = some g → ∃ i h, (i, h) ∈ cand 0 (sndN [] ns) ∧ fld h = fld g := by
  intro j
  induction j using Nat.strongRecOn with
  | _ j ih =>
    intro y g hy hg
    have hs := sndN_at ns [] j y hy
    rw [List.nil_append] at hs
    have hup := hc.up (List.mem_of_getElem? hy)
    cases ha : (ns.take j).any fun y => fldO y g with
    | false =>
      have hf : snd1 (ns.take j) y = ⟨y.up, y.up && !((ns.take j).any fun y => fldO y g), g⟩ := by unfold snd1; rw [hg]
      rw [hf, hup, ha] at hs
      have := cand_of (k := 0) hs rfl rfl
      exact ⟨_, _, this, rfl⟩
    | true =>
      obtain ⟨z, hz, h1⟩ := List.any_eq_true.1 ha
      obtain ⟨i, hi⟩ := List.getElem?_of_mem hz
      have hil := (List.getElem?_eq_some_iff.1 hi).1
      rw [List.length_take] at hil
      rw [List.getElem?_take, if_pos (by omega)] at hi
      unfold fldO at h1
      cases hb : z.box with
      | none => rw [hb] at h1; cases h1
      | some g' =>
        rw [hb] at h1
        simp only [Bool.and_eq_true, decide_eq_true_eq] at h1
        obtain ⟨i', h', k1, k2⟩ := ih i (by omega) z g' hi hb
        exact ⟨i', h', k1, k2.trans h1.2⟩
theorem cand_nodup : ∀ (xs pre : List Nd) (k : Nat), ((cand k (sndN pre xs)).map fun x => fld x.2).Nodup ∧ ∀ b ∈ (cand k (sndN pre xs)).map (fun x => fld x.2), ∀ y ∈ pre, ∀ g, y.up = true → y.box = some g → fld g ≠ b
  | [], pre, k => ⟨List.nodup_nil, fun b hb => nomatch hb⟩
  | x :: xs, pre, k => by
    obtain ⟨h1, h2⟩ := cand_nodup xs (pre ++ [x]) (k + 1)
    have h2' : ∀ b ∈ (cand (k + 1) (sndN (pre ++ [x]) xs)).map (fun x => fld x.2), ∀ y ∈ pre, ∀ g, y.up = true → y.box = some g → fld g ≠ b := fun b hb y hy => h2 b hb y (List.mem_append_left _ hy)
    rw [sndN, cand]
    split
    · rename_i hs
      rw [Bool.and_eq_true] at hs
      unfold snd1 at hs ⊢
      cases hb : x.box with
      | none => rw [hb] at hs; exact nomatch hs.2
      | some f =>
        rw [hb] at hs
        dsimp only at hs ⊢
        obtain ⟨hu, hs⟩ := hs
        rw [hu, Bool.true_and, Bool.not_eq_true'] at hs
        rw [List.map_cons]
        refine ⟨List.nodup_cons.2 ⟨fun hm => h2 _ hm x (List.mem_append_right _ (.head _)) f hu hb rfl, h1⟩, fun b hb2 y hy g k1 k2 => ?_⟩
        rcases List.mem_cons.1 hb2 with rfl | hb2
        · intro e
          have := List.any_eq_false.1 hs y hy
          unfold fldO at this
          rw [k2, k1] at this
          simp [e] at this
        · exact h2' b hb2 y hy g k1 k2
    · exact ⟨h1, h2'⟩
/-- What a node is behind a calm round that w won with f. -/
def calmN (w : Nat) (f : Fm) (i : Nat) (x : Nd) : Nd := if i = w then ⟨true, u0, none, x.inn⟩ else ⟨true, u0, x.box, if x.inn.length < 64 then x.inn ++ [f] else x.inn⟩
theorem upN_all {l : List Sn} (h : ∀ s ∈ l, s.up = true) : upN l = l.length := by
  unfold upN
  rw [List.countP_eq_length]; exact h
theorem snd_up {ns : List Nd} (hc : AllC ns) : ∀ s ∈ sndN [] ns, s.up = true := by
  intro s hs
  obtain ⟨i, hi⟩ := List.getElem?_of_mem hs
  have hl := (List.getElem?_eq_some_iff.1 hi).1
  rw [sndN_len] at hl
  obtain ⟨x, hx, _⟩ := list_at hl
  rw [sndN_at _ _ _ _ hx] at hi
  injection hi with hi
  subst hi
  have := hc.up (List.mem_of_getElem? hx)
  unfold snd1
  split <;> exact this
end Go.Proofs.YtiaginlnapiijaaGreatDoor


/- Ported (port.py) from WrZm. -/
set_option linter.unusedVariables false
set_option linter.unusedSimpArgs false
set_option maxRecDepth 100000
set_option maxHeartbeats 4000000
namespace Go.Proofs.YtiaginlnapiijaaGreatDoor
open Sx
/-- How many wait. -/
def bxs (s : Bs) : List (Option Fm) := s.ns.map (·.box)
def nbx (s : Bs) : Nat := (bxs s).countP Option.isSome
theorem cnt_set {l : List (Option Fm)} {i : Nat} {o o' : Option Fm} (h : l[i]? = some o) : (l.set i o').countP Option.isSome + (if o.isSome then 1 else 0) = l.countP Option.isSome + if o'.isSome then 1 else 0 := by
  have e := list_set (x' := o') h
  have e2 := list_split h
  rw [e]
  conv => rhs; rw [e2]
  rw [List.countP_append, List.countP_append, List.countP_cons, List.countP_cons]
  omega
structure En (n : Nat) (s : Bs) : Prop where
  c : AllC s.ns
  w : BsW s
  l : s.ns.length = n + 1
  t : s.ns[n]? = some pN
def Box (s : Bs) (g : Fm) : Prop := some g ∈ bxs s
theorem Box.at {s : Bs} {g : Fm} (h : Box s g) : ∃ (j : Nat) (y : Nd), s.ns[j]? = some y ∧ y.box = some g := by
  obtain ⟨y, hy, hb⟩ := List.mem_map.1 h
  obtain ⟨j, hj⟩ := List.getElem?_of_mem hy
  exact ⟨j, y, hj, hb⟩
/-- Frames are being handed in. -/
structure Su (n k : Nat) (s : Bs) : Prop where
  c : AllC s.ns
  w : BsW s
  l : s.ns.length = n + 1
  t : ∀ j, k ≤ j → j ≤ n → s.ns[j]? = some pN
theorem Su.end {n : Nat} {s : Bs} (h : Su n n s) : En n s := ⟨h.c, h.w, h.l, h.t n (Nat.le_refl _) (Nat.le_refl _)⟩
theorem Su.sub {n k : Nat} {s : Bs} {f : Fm} (h : Su n k s) (hk : k < n) : Su n (k + 1) (s.submit (k : Int) f).1 ∧ (s.submit (k : Int) f).2 = erF f ∧ nbx (s.submit (k : Int) f).1 = nbx s + if okF f then 1 else 0 := by
  have hi : s.is (k : Int) := by unfold Bs.is; rw [h.l]; omega
  have hx := h.t k (Nat.le_refl _) (by omega)
  have hat := Bs.at_of hi
  rw [Int.toNat_natCast, hx] at hat
  injection hat with hat
  have hw := h.w.submit (i := (k : Int)) (f := f) (pl_pl f)
  unfold Bs.submit erF at *
  rw [if_pos hi] at hw ⊢
  rw [← hat] at hw ⊢
  cases hok : okF f with
  | true =>
    rw [hok, if_pos rfl, if_pos (show pN.up = true from rfl), if_neg (show ¬ pN.box.isSome = true by decide)] at hw
    rw [if_pos rfl, if_pos (show pN.up = true from rfl), if_neg (show ¬ pN.box.isSome = true by decide), if_pos rfl, if_pos rfl]
    unfold Bs.put at hw ⊢
    dsimp only at hw ⊢
    rw [Int.toNat_natCast] at hw ⊢
    refine ⟨⟨fun y hy => ?_, hw, by simpa using h.l, fun j hj hjn => ?_⟩, rfl, ?_⟩
    · rcases List.mem_or_eq_of_mem_set hy with hy | rfl
      · exact h.c y hy
      · exact ⟨rfl, rfl⟩
    · show (s.ns.set k _)[j]? = _
      rw [List.getElem?_set_ne (by omega)]
      exact h.t j (by omega) hjn
    · unfold nbx bxs
      dsimp only
      rw [List.map_set]
      have := cnt_set (l := s.ns.map (·.box)) (i := k) (o := none) (o' := some (plF f)) (by rw [List.getElem?_map, hx]; rfl)
      simpa using this
  | false =>
    rw [if_neg (show ¬ false = true by decide), if_neg (show ¬ false = true by decide), if_neg (show ¬ false = true by decide)]
    exact ⟨⟨h.c, h.w, h.l, fun j hj hjn => h.t j (by omega) hjn⟩, rfl, rfl⟩
end Go.Proofs.YtiaginlnapiijaaGreatDoor


/- Ported (port.py) from FmA. -/
set_option linter.unusedVariables false
set_option linter.unusedSimpArgs false
set_option maxRecDepth 100000
set_option maxHeartbeats 4000000
namespace Go.Proofs.YtiaginlnapiijaaGreatDoor
open Sx
theorem St.step_out (s : St) (b : UInt8) : ∃ z, (s.step b).out = s.out ++ b :: z := by
  unfold St.step
  split
  · exact ⟨[oth b], by simp⟩
  · exact ⟨[], by simp⟩
theorem stf_pre (p q : List UInt8) : ∃ z, (stf (p ++ q)).out = (stf p).out ++ z := by
  induction q using snoc_ind with
  | h0 => exact ⟨[], by simp⟩
  | h1 q b ih =>
    obtain ⟨z, hz⟩ := ih
    obtain ⟨y, hy⟩ := St.step_out (stf (p ++ q)) b
    exact ⟨z ++ b :: y, by rw [← List.append_assoc, stf_snoc, hy, hz, List.append_assoc]⟩
/-- Where a reader stands that has read the bits p: at, the level, how many of it. -/
inductive RdAt (p : List UInt8) : Nat → Nat → Nat → Prop
  | done : RdAt p (stf p).out.length (stf p).lv (stf p).n
  | pend (q : List UInt8) (b : UInt8) : p = q ++ [b] → tk (stf q).lv (stf q).n b.toNat = 5 → RdAt p ((stf q).out.length + 1) b.toNat 5
theorem RdAt.zero : RdAt [] 0 0 0 := .done
/-- Behind one more bit. -/
theorem RdAt.more (p : List UInt8) (b : UInt8) : RdAt (p ++ [b]) ((stf p).out.length + 1) b.toNat (tk (stf p).lv (stf p).n b.toNat) := by
  by_cases h : tk (stf p).lv (stf p).n b.toNat = 5
  · rw [h]; exact .pend p b rfl h
  · have e : stf (p ++ [b]) = ⟨(stf p).out ++ [b], b.toNat, tk (stf p).lv (stf p).n b.toNat⟩ := by rw [stf_snoc, St.step, if_neg h]
    have := RdAt.done (p := p ++ [b])
    rw [e] at this
    simpa using this
/-- Either nothing is to be left out, or the bit that is. -/
theorem RdAt.cases {p : List UInt8} {a lv n : Nat} (h : RdAt p a lv n) : (n < 5 ∧ a = (stf p).out.length ∧ lv = (stf p).lv ∧ n = (stf p).n) ∨
    ∃ b : UInt8, n = 5 ∧ lv = b.toNat ∧ (stf p).out[a]? = some (oth b) ∧ a + 1 = (stf p).out.length ∧ (stf p).lv = (oth b).toNat ∧ (stf p).n = 1 := by
  cases h with
  | done =>
    have := (St.ok p).1
    exact .inl ⟨by omega, rfl, rfl, rfl⟩
  | pend q b hp h5 =>
    subst hp
    have e : stf (q ++ [b]) = ⟨(stf q).out ++ [b] ++ [oth b], (oth b).toNat, 1⟩ := by rw [stf_snoc, St.step, if_pos h5]
    refine .inr ⟨b, rfl, rfl, ?_, ?_, ?_, ?_⟩ <;> rw [e] <;> simp
theorem RdAt.le {p : List UInt8} {a lv n : Nat} (h : RdAt p a lv n) : a ≤ (stf p).out.length ∧ n ≤ 5 := by
  rcases h.cases with ⟨h1, h2, h3, h4⟩ | ⟨b, h1, h2, h3, h4, h5⟩ <;> omega
/-- The text s begins as t does, as far as it goes. -/
def Alike (s t : List UInt8) : Prop := ∀ (i : Nat) (a b : UInt8), s[i]? = some a → t[i]? = some b → a = b
/-- The next bit of the body. -/
theorem body_at {p z : List UInt8} {b : UInt8} {u : List UInt8} : ((stf (p ++ b :: z)).out ++ u)[(stf p).out.length]? = some b := by
  obtain ⟨y, hy⟩ := St.step_out (stf p) b
  obtain ⟨x, hx⟩ := stf_pre (p ++ [b]) z
  rw [stf_snoc, hy] at hx
  have e : p ++ b :: z = p ++ [b] ++ z := by simp
  rw [e, hx]
  simp [List.append_assoc]
/-- The bit that was put in. -/
theorem put_at {p z u : List UInt8} {a : Nat} {c : UInt8} (h : (stf p).out[a]? = some c) : ((stf (p ++ z)).out ++ u)[a]? = some c := by
  obtain ⟨x, hx⟩ := stf_pre p z
  have hl := (List.getElem?_eq_some_iff.1 h).1
  rw [hx, List.append_assoc, List.getElem?_append_left hl, h]
/-- What bits are worth. -/
def vB (l : List UInt8) : Nat := l.foldl (fun v b => 2 * v + (b.toNat - 48)) 0
theorem vB_snoc (l : List UInt8) (b : UInt8) : vB (l ++ [b]) = 2 * vB l + (b.toNat - 48) := by simp [vB]
theorem vB_lt (l : List UInt8) (h : ∀ b ∈ l, isB b = true) : vB l < 2 ^ l.length := by
  induction l using snoc_ind with
  | h0 => decide
  | h1 l b ih =>
    have h1 := ih fun x hx => h x (List.mem_append_left _ hx)
    have h2 : b.toNat - 48 ≤ 1 := by
      rcases isB_cases (h b (by simp)) with ⟨h1, h2⟩ | ⟨h1, h2⟩ <;> omega
    rw [vB_snoc, List.length_append, List.length_singleton, Nat.pow_succ]
    omega
theorem vB_numB : ∀ (w n : Nat), n < 2 ^ w → vB (numB w n) = n
  | 0, n, h => by
    have : n = 0 := by simpa using h
    rw [this]; rfl
  | w + 1, n, h => by
    show vB (numB w (n / 2) ++ [bitB (n % 2)]) = n
    rw [Nat.pow_succ] at h
    have h2 : (bitB (n % 2)).toNat - 48 = n % 2 := by
      rcases Nat.mod_two_eq_zero_or_one n with e | e <;> rw [e] <;> rfl
    rw [vB_snoc, vB_numB w (n / 2) (by omega), h2]
    omega
end Go.Proofs.YtiaginlnapiijaaGreatDoor


/- Ported (port.py) from FmB. -/
set_option linter.unusedVariables false
set_option linter.unusedSimpArgs false
set_option maxRecDepth 100000
set_option maxHeartbeats 4000000
namespace Go.Proofs.YtiaginlnapiijaaGreatDoor
open Sx
theorem lt8 {i : Nat} (h : i < 8) : i = 0 ∨ i = 1 ∨ i = 2 ∨ i = 3 ∨ i = 4 ∨ i = 5 ∨ i = 6 ∨ i = 7 := by omega
/-- One more byte. -/
theorem zs_step (f : Fm) {i : Nat} (h : i < 8) : (frC (zs f i 8)).set (4 + i) (b8 ((dB f).getD i 0)) = frC (zs f (i + 1) 8) := by
  rcases lt8 h with rfl | rfl | rfl | rfl | rfl | rfl | rfl | rfl <;> rfl
theorem datB_step (f : Fm) {i : Nat} (h : i < 8) : datB f (i + 1) = datB f i ++ numB 8 ((dB f).getD i 0).toNat := by
  rcases lt8 h with rfl | rfl | rfl | rfl | rfl | rfl | rfl | rfl <;> simp [datB, dB]
theorem vB_byte (b : UInt8) : vB (numB 8 b.toNat) = b.toNat := vB_numB 8 _ b.toNat_lt
theorem datB_split (f : Fm) {i k : Nat} (hi : i < k) (hk : k ≤ 8) : ∃ z, datB f k = datB f i ++ numB 8 ((dB f).getD i 0).toNat ++ z := by
  induction k with
  | zero => omega
  | succ k ih =>
    rw [datB_step f (by omega)]
    by_cases h : i = k
    · subst h; exact ⟨[], by simp⟩
    · obtain ⟨z, hz⟩ := ih (by omega) (by omega)
      exact ⟨z ++ numB 8 ((dB f).getD k 0).toNat, by rw [hz]; simp [List.append_assoc]⟩
end Go.Proofs.YtiaginlnapiijaaGreatDoor


