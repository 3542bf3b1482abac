/- Layer 2: the law on frames' bits, and on those that are cut off: by walks. -/
import Derived.Test.YtledahfkpnbfcaaDoorBMain1
import Derived.Test.YtledahfkpnbfcaaDoorRd
import Derived.Test.YtledahfkpnbfcaaDoorBSx1
import Derived.Test.YtledahfkpnbfcaaDoorTy
import Derived.Lib.LaidTab
import Derived.Stop.LaidErr

set_option linter.unusedVariables false
set_option linter.unusedSimpArgs false
set_option maxRecDepth 100000
set_option maxHeartbeats 4000000
namespace Go.Proofs.YtledahfkpnbfcaaDoor
open Sx
section
variable {K : Value → Heap → Prop} {H : Heap} {f g : Fm} {ack : Bool}
theorem c8n (hid : f.id < 4294967296) (hok : okF f = false) (hK : K (.tuple ⟨[.string ⟨#[]⟩, .int .i64 1]⟩) H) : SCalls Tryd.prog 8 [frV f, .bool ack] H K := by
  have h29 : ∀ H (K2 : Value → Heap → Prop), K2 (.int .i64 1) H → SCalls Tryd.prog 29 [frV f] H K2 := fun H K2 hk => c29 hid (by unfold erF; rw [hok]; exact hk)
  have hfin : ∀ q : Nat × Blk, Keep (q :: H) fun H' => K (.tuple ⟨[.string ⟨#[]⟩, .int .i64 1]⟩) H' := fun q => Keep.d1 hK
  refine enter8 ?_
  repeat' ((conv => whnf); (first | with_reducible refine h29 _ _ ?_ | exact hfin _ | refine New.mk (fun _ => ?_) | refine Look.at0 ?_ | refine Cell.row ?_ | refine Cell.buf ?_ | refine Cells.row rfl ?_ | refine Put.row rfl ?_ | refine Put.buf rfl ?_ | refine Look.at1 ?_ | refine Look.at2 ?_ | refine Look.at3 ?_ | refine Look.at4 ?_ | refine Look.at5 ?_ | refine Look.at6 ?_ | refine Look.at7 ?_ | refine Look.at8 ?_ | with_reducible refine Val.i64 (by omega) (by omega) ?_ | with_reducible refine Val.u8 (by omega) (by omega) ?_ | with_reducible refine Val.u32 (by omega) (by omega) ?_ | with_reducible refine Val.u64 (by omega) (by omega) ?_ | with_reducible refine Val.u8m ?_ | with_reducible refine Val.u32m ?_ | with_reducible refine Val.u64m ?_ | with_reducible refine Val.shr8 ?_ | with_reducible refine Val.shr16 (by decide) ?_ | with_reducible refine Val.shr24 (by decide) ?_ | with_reducible refine Val.raw ?_ | refine Branch.not ?_ | refine Branch.and ?_ | refine Branch.or ?_ | refine Branch.dt (by assumption) ?_ | refine Branch.df (by assumption) ?_ | refine Branch.dt rfl ?_ | refine Branch.dt (by omega) ?_ | refine Branch.df (by omega) ?_ | refine Branch.t rfl ?_ | refine Branch.f rfl ?_ | refine Branch.t (by assumption) ?_ | refine Branch.f (by assumption) ?_ | refine Branch.d (fun _ => ?_) (fun _ => ?_) | refine Branch.mk (fun _ => ?_) (fun _ => ?_) | refine Need.mk (by first | omega | decide | rfl) ?_ | refine Idx.nat (by omega) ?_ | refine Idx.auto (by first | omega | decide) (by first | omega | decide) ?_ | refine Cell.ro rfl ?_ | refine SDraw.all (by kernel_rfl) ?_ | refine Kept.k0 ?_ | refine Kept.k1 ?_ | refine Kept.k2 ?_ | refine Kept.k3 ?_ | refine Kept.k4 ?_))
theorem c13n (hok : okF f = false) (hK : K (.tuple ⟨[.string ⟨#[]⟩, .int .i64 1]⟩) H) : SCalls Tryd.prog 13 [frV f, .bool ack] H K := by
  have h17 : ∀ H (K2 : Value → Heap → Prop), K2 (.int .i64 1) H → SCalls Tryd.prog 17 [frV f] H K2 := fun H K2 hk => c17 (by unfold erF; rw [hok]; exact hk)
  have hfin : ∀ q : Nat × Blk, Keep (q :: H) fun H' => K (.tuple ⟨[.string ⟨#[]⟩, .int .i64 1]⟩) H' := fun q => Keep.d1 hK
  refine enter13 ?_
  repeat' ((conv => whnf); (first | with_reducible refine h17 _ _ ?_ | exact hfin _ | refine New.mk (fun _ => ?_) | refine Look.at0 ?_ | refine Cell.row ?_ | refine Cell.buf ?_ | refine Cells.row rfl ?_ | refine Put.row rfl ?_ | refine Put.buf rfl ?_ | refine Look.at1 ?_ | refine Look.at2 ?_ | refine Look.at3 ?_ | refine Look.at4 ?_ | refine Look.at5 ?_ | refine Look.at6 ?_ | refine Look.at7 ?_ | refine Look.at8 ?_ | with_reducible refine Val.i64 (by omega) (by omega) ?_ | with_reducible refine Val.u8 (by omega) (by omega) ?_ | with_reducible refine Val.u32 (by omega) (by omega) ?_ | with_reducible refine Val.u64 (by omega) (by omega) ?_ | with_reducible refine Val.u8m ?_ | with_reducible refine Val.u32m ?_ | with_reducible refine Val.u64m ?_ | with_reducible refine Val.shr8 ?_ | with_reducible refine Val.shr16 (by decide) ?_ | with_reducible refine Val.shr24 (by decide) ?_ | with_reducible refine Val.raw ?_ | refine Branch.not ?_ | refine Branch.and ?_ | refine Branch.or ?_ | refine Branch.dt (by assumption) ?_ | refine Branch.df (by assumption) ?_ | refine Branch.dt rfl ?_ | refine Branch.dt (by omega) ?_ | refine Branch.df (by omega) ?_ | refine Branch.t rfl ?_ | refine Branch.f rfl ?_ | refine Branch.t (by assumption) ?_ | refine Branch.f (by assumption) ?_ | refine Branch.d (fun _ => ?_) (fun _ => ?_) | refine Branch.mk (fun _ => ?_) (fun _ => ?_) | refine Need.mk (by first | omega | decide | rfl) ?_ | refine Idx.nat (by omega) ?_ | refine Idx.auto (by first | omega | decide) (by first | omega | decide) ?_ | refine Cell.ro rfl ?_ | refine SDraw.all (by kernel_rfl) ?_ | refine Kept.k0 ?_ | refine Kept.k1 ?_ | refine Kept.k2 ?_ | refine Kept.k3 ?_ | refine Kept.k4 ?_))
theorem lon_le (n : Nat) (x : Bool) (h : n ≤ 8) : 0 ≤ (lonV (n : Int) x).1 ∧ (lonV (n : Int) x).1 ≤ 200 := by
  unfold lonV
  rw [if_neg (by omega), Int.toNat_natCast]
  unfold lonM
  dsimp only
  cases x
  · simp only [Bool.false_eq_true, if_false]; omega
  · simp only [if_true]; omega
theorem encodes_c (hD : Db H) (hf : f.id < 4294967296) (hg : g.id < 4294967296) : SCalls Tryd.prog 4 [frV f, frV g, .bool ack] H fun v _ => v = .bool true := by
  have hD' : ∀ q p : Nat × Blk, Db (q :: p :: H) := fun q p => hD.mono fun p hp => .tail _ (.tail _ hp)
  have hD3 : ∀ q p r : Nat × Blk, Db (q :: p :: r :: H) := fun q p r => hD.mono fun p hp => .tail _ (.tail _ (.tail _ hp))
  have h14 : ∀ (q p : Nat × Blk) (K2 : Value → Heap → Prop), K2 (.tuple ⟨[.string (strOf (fV f).1), .int .i64 (fV f).2]⟩) (q :: p :: H) → SCalls Tryd.prog 14 [frV f] (q :: p :: H) K2 := fun q p K2 hk => c14 hf (hD' q p) hk
  have h15 : ∀ H (K2 : Value → Heap → Prop), K2 (.tuple ⟨[.string (strOf (fV f).1), .int .i64 (fV f).2]⟩) H → SCalls Tryd.prog 15 [frV f] H K2 := fun H K2 hk => c15 hk
  have h16 : ∀ H (K2 : Value → Heap → Prop), K2 (.int .i64 (erF f)) H → SCalls Tryd.prog 16 [frV f] H K2 := fun H K2 hk => c16 hf hk
  have h17 : ∀ H (K2 : Value → Heap → Prop), K2 (.int .i64 (erF f)) H → SCalls Tryd.prog 17 [frV f] H K2 := fun H K2 hk => c17 hk
  have h18 : ∀ H (K2 : Value → Heap → Prop), K2 (frV (plF f)) H → SCalls Tryd.prog 18 [frV f] H K2 := fun H K2 hk => c18 hk
  have h12 : ∀ f H (K2 : Value → Heap → Prop), K2 (frV (plF f)) H → SCalls Tryd.prog 12 [frV f] H K2 := fun f H K2 hk => c12 hk
  have h19 : ∀ H (K2 : Value → Heap → Prop), K2 (.bool (eqV (plF f) (plF g))) H → SCalls Tryd.prog 19 [frV f, frV g] H K2 := fun H K2 hk => c19 hk
  have h9 : ∀ (q p : Nat × Blk) (K2 : Value → Heap → Prop), K2 (.bool true) (q :: p :: H) → SCalls Tryd.prog 9 [] (q :: p :: H) K2 := fun q p K2 hk => c9 (hD' q p) hk
  have h93 : ∀ (q p r : Nat × Blk) (K2 : Value → Heap → Prop), K2 (.bool true) (q :: p :: r :: H) → SCalls Tryd.prog 9 [] (q :: p :: r :: H) K2 := fun q p r K2 hk => c9 (hD3 q p r) hk
  generalize (fV f).1 = F1 at h14 h15
  generalize (fV f).2 = F2 at h14 h15
  generalize erF f = E at h16 h17
  refine enter4 ?_
  cases hok : okF f with
  | false =>
    have h8 : ∀ H (K2 : Value → Heap → Prop), K2 (.tuple ⟨[.string ⟨#[]⟩, .int .i64 1]⟩) H → SCalls Tryd.prog 8 [frV f, .bool ack] H K2 := fun H K2 hk => c8n hf hok hk
    have h13 : ∀ H (K2 : Value → Heap → Prop), K2 (.tuple ⟨[.string ⟨#[]⟩, .int .i64 1]⟩) H → SCalls Tryd.prog 13 [frV f, .bool ack] H K2 := fun H K2 hk => c13n hok hk
    repeat' ((conv => whnf); (first | with_reducible refine h8 _ _ ?_ | with_reducible refine h13 _ _ ?_ | with_reducible refine h14 _ _ _ ?_ | with_reducible refine h15 _ _ ?_ | with_reducible refine h16 _ _ ?_ | with_reducible refine h17 _ _ ?_ | with_reducible refine h18 _ _ ?_ | with_reducible refine h12 _ _ _ ?_ | with_reducible refine h19 _ _ ?_ | with_reducible refine h9 _ _ _ ?_ | refine Branch.t (eqV_refl _) ?_ | refine Branch.t (beqB _) ?_ | exact Keep.all rfl | refine New.mk (fun _ => ?_) | refine Look.at0 ?_ | refine Cell.row ?_ | refine Cell.buf ?_ | refine Cells.row rfl ?_ | refine Put.row rfl ?_ | refine Put.buf rfl ?_ | refine Look.at1 ?_ | refine Look.at2 ?_ | refine Look.at3 ?_ | refine Look.at4 ?_ | refine Look.at5 ?_ | refine Look.at6 ?_ | refine Look.at7 ?_ | refine Look.at8 ?_ | with_reducible refine Val.i64 (by omega) (by omega) ?_ | with_reducible refine Val.u8 (by omega) (by omega) ?_ | with_reducible refine Val.u32 (by omega) (by omega) ?_ | with_reducible refine Val.u64 (by omega) (by omega) ?_ | with_reducible refine Val.u8m ?_ | with_reducible refine Val.u32m ?_ | with_reducible refine Val.u64m ?_ | with_reducible refine Val.shr8 ?_ | with_reducible refine Val.shr16 (by decide) ?_ | with_reducible refine Val.shr24 (by decide) ?_ | with_reducible refine Val.raw ?_ | refine Branch.not ?_ | refine Branch.and ?_ | refine Branch.or ?_ | refine Branch.dt (by assumption) ?_ | refine Branch.df (by assumption) ?_ | refine Branch.dt rfl ?_ | refine Branch.dt (by omega) ?_ | refine Branch.df (by omega) ?_ | refine Branch.t rfl ?_ | refine Branch.f rfl ?_ | refine Branch.t (by assumption) ?_ | refine Branch.f (by assumption) ?_ | refine Branch.d (fun _ => ?_) (fun _ => ?_) | refine Branch.mk (fun _ => ?_) (fun _ => ?_) | refine Need.mk (by first | omega | decide | rfl) ?_ | refine Idx.nat (by omega) ?_ | refine Idx.auto (by first | omega | decide) (by first | omega | decide) ?_ | refine Cell.ro rfl ?_ | refine SDraw.all (by kernel_rfl) ?_ | refine Kept.k0 ?_ | refine Kept.k1 ?_ | refine Kept.k2 ?_ | refine Kept.k3 ?_ | refine Kept.k4 ?_))
  | true =>
    have h8 : ∀ (q p : Nat × Blk) (K2 : Value → Heap → Prop), K2 (.tuple ⟨[.string (strOf (encB f ack)), .int .i64 0]⟩) (q :: p :: H) → SCalls Tryd.prog 8 [frV f, .bool ack] (q :: p :: H) K2 := fun q p K2 hk => c8 hok (hD' q p) hk
    have h13 : ∀ H (K2 : Value → Heap → Prop), K2 (.tuple ⟨[.string (strOf (encB f ack)), .int .i64 0]⟩) H → SCalls Tryd.prog 13 [frV f, .bool ack] H K2 := fun H K2 hk => c13 hok hk
    have h21 : ∀ H (K2 : Value → Heap → Prop), K2 (.int .i64 (nb f : Int)) H → SCalls Tryd.prog 21 [frV f] H K2 := fun H K2 hk => c21 hk
    have hnb := nb_le f
    obtain ⟨hm1, hm2⟩ := encN_most f
    obtain ⟨hl1, hl2⟩ := lon_le (nb f) f.x hnb
    have h20 : ∀ H (K2 : Value → Heap → Prop), K2 (.tuple ⟨[.int .i64 (lonV (nb f : Int) f.x).1, .int .i64 0]⟩) H → SCalls Tryd.prog 20 [.int .i64 (nb f : Int), .bool f.x] H K2 := fun H K2 hk => c20 (by omega) (by omega) (by rw [hm2]; exact hk)
    have hsz : ((strOf (encB f ack)).size : Int) = (encN f : Int) := by rw [strOf_size, encB_len]
    have hen := (encN_lt f).2
    generalize (lonV (nb f : Int) f.x).1 = L at *
    cases ack with
    | true =>
      have h10 : ∀ H (K2 : Value → Heap → Prop), K2 (.tuple ⟨[frV (plF f), .int .i64 (encN f : Int), .int .i64 0]⟩) H → SCalls Tryd.prog 10 [.string (strOf (encB f true))] H K2 := fun H K2 hk => c10t hok hk
      generalize encB f true = s at *
      repeat' ((conv => whnf); (first | with_reducible refine h8 _ _ _ ?_ | with_reducible refine h13 _ _ ?_ | with_reducible refine h14 _ _ _ ?_ | with_reducible refine h15 _ _ ?_ | with_reducible refine h16 _ _ ?_ | with_reducible refine h17 _ _ ?_ | with_reducible refine h18 _ _ ?_ | with_reducible refine h12 _ _ _ ?_ | with_reducible refine h19 _ _ ?_ | with_reducible refine h21 _ _ ?_ | with_reducible refine h20 _ _ ?_ | with_reducible refine h10 _ _ ?_ | with_reducible refine h93 _ _ _ _ ?_ | with_reducible rw [hsz] | refine Branch.t (eqV_refl _) ?_ | refine Branch.t (beqB _) ?_ | refine Branch.df (by omega) ?_ | exact Keep.all rfl | refine New.mk (fun _ => ?_) | refine Look.at0 ?_ | refine Cell.row ?_ | refine Cell.buf ?_ | refine Cells.row rfl ?_ | refine Put.row rfl ?_ | refine Put.buf rfl ?_ | refine Look.at1 ?_ | refine Look.at2 ?_ | refine Look.at3 ?_ | refine Look.at4 ?_ | refine Look.at5 ?_ | refine Look.at6 ?_ | refine Look.at7 ?_ | refine Look.at8 ?_ | with_reducible refine Val.i64 (by omega) (by omega) ?_ | with_reducible refine Val.u8 (by omega) (by omega) ?_ | with_reducible refine Val.u32 (by omega) (by omega) ?_ | with_reducible refine Val.u64 (by omega) (by omega) ?_ | with_reducible refine Val.u8m ?_ | with_reducible refine Val.u32m ?_ | with_reducible refine Val.u64m ?_ | with_reducible refine Val.shr8 ?_ | with_reducible refine Val.shr16 (by decide) ?_ | with_reducible refine Val.shr24 (by decide) ?_ | with_reducible refine Val.raw ?_ | refine Branch.not ?_ | refine Branch.and ?_ | refine Branch.or ?_ | refine Branch.dt (by assumption) ?_ | refine Branch.df (by assumption) ?_ | refine Branch.dt rfl ?_ | refine Branch.dt (by omega) ?_ | refine Branch.df (by omega) ?_ | refine Branch.t rfl ?_ | refine Branch.f rfl ?_ | refine Branch.t (by assumption) ?_ | refine Branch.f (by assumption) ?_ | refine Branch.d (fun _ => ?_) (fun _ => ?_) | refine Branch.mk (fun _ => ?_) (fun _ => ?_) | refine Need.mk (by first | omega | decide | rfl) ?_ | refine Idx.nat (by omega) ?_ | refine Idx.auto (by first | omega | decide) (by first | omega | decide) ?_ | refine Cell.ro rfl ?_ | refine SDraw.all (by kernel_rfl) ?_ | refine Kept.k0 ?_ | refine Kept.k1 ?_ | refine Kept.k2 ?_ | refine Kept.k3 ?_ | refine Kept.k4 ?_))
    | false =>
      have h10 : ∀ H (K2 : Value → Heap → Prop), (∀ p, K2 (.tuple ⟨[frV z0, .int .i64 p, .int .i64 23]⟩) H) → SCalls Tryd.prog 10 [.string (strOf (encB f false))] H K2 := fun H K2 hk => c10b hok hk
      generalize encB f false = s at *
      repeat' ((conv => whnf); (first | with_reducible refine h8 _ _ _ ?_ | with_reducible refine h13 _ _ ?_ | with_reducible refine h14 _ _ _ ?_ | with_reducible refine h15 _ _ ?_ | with_reducible refine h16 _ _ ?_ | with_reducible refine h17 _ _ ?_ | with_reducible refine h18 _ _ ?_ | with_reducible refine h12 _ _ _ ?_ | with_reducible refine h19 _ _ ?_ | with_reducible refine h21 _ _ ?_ | with_reducible refine h20 _ _ ?_ | with_reducible refine h10 _ _ (fun pp => ?_) | with_reducible refine h93 _ _ _ _ ?_ | with_reducible rw [hsz] | refine Branch.t (eqV_refl _) ?_ | refine Branch.t (beqB _) ?_ | refine Branch.df (by omega) ?_ | exact Keep.all rfl | refine New.mk (fun _ => ?_) | refine Look.at0 ?_ | refine Cell.row ?_ | refine Cell.buf ?_ | refine Cells.row rfl ?_ | refine Put.row rfl ?_ | refine Put.buf rfl ?_ | refine Look.at1 ?_ | refine Look.at2 ?_ | refine Look.at3 ?_ | refine Look.at4 ?_ | refine Look.at5 ?_ | refine Look.at6 ?_ | refine Look.at7 ?_ | refine Look.at8 ?_ | with_reducible refine Val.i64 (by omega) (by omega) ?_ | with_reducible refine Val.u8 (by omega) (by omega) ?_ | with_reducible refine Val.u32 (by omega) (by omega) ?_ | with_reducible refine Val.u64 (by omega) (by omega) ?_ | with_reducible refine Val.u8m ?_ | with_reducible refine Val.u32m ?_ | with_reducible refine Val.u64m ?_ | with_reducible refine Val.shr8 ?_ | with_reducible refine Val.shr16 (by decide) ?_ | with_reducible refine Val.shr24 (by decide) ?_ | with_reducible refine Val.raw ?_ | refine Branch.not ?_ | refine Branch.and ?_ | refine Branch.or ?_ | refine Branch.dt (by assumption) ?_ | refine Branch.df (by assumption) ?_ | refine Branch.dt rfl ?_ | refine Branch.dt (by omega) ?_ | refine Branch.df (by omega) ?_ | refine Branch.t rfl ?_ | refine Branch.f rfl ?_ | refine Branch.t (by assumption) ?_ | refine Branch.f (by assumption) ?_ | refine Branch.d (fun _ => ?_) (fun _ => ?_) | refine Branch.mk (fun _ => ?_) (fun _ => ?_) | refine Need.mk (by first | omega | decide | rfl) ?_ | refine Idx.nat (by omega) ?_ | refine Idx.auto (by first | omega | decide) (by first | omega | decide) ?_ | refine Cell.ro rfl ?_ | refine SDraw.all (by kernel_rfl) ?_ | refine Kept.k0 ?_ | refine Kept.k1 ?_ | refine Kept.k2 ?_ | refine Kept.k3 ?_ | refine Kept.k4 ?_))
end
end Go.Proofs.YtledahfkpnbfcaaDoor

/- Layer 2: the law on frames that are cut off: by walks. -/
set_option linter.unusedVariables false
set_option linter.unusedSimpArgs false
set_option maxRecDepth 100000
set_option maxHeartbeats 4000000
namespace Go.Proofs.YtledahfkpnbfcaaDoor
open Sx
section
variable {K : Value → Heap → Prop} {H : Heap} {f : Fm} {u : List UInt8} {a : Nat}
theorem cut_c (hD : Db H) (hf : f.id < 4294967296) (ha : a < 65536) (hu : u.length ≤ 140737488355328) : SCalls Tryd.prog 3 [frV f, .int .u16 (a : Int), .string (strOf u)] H fun v _ => v = .bool true := by
  have hD' : ∀ q : Nat × Blk, Db (q :: H) := fun q => hD.mono fun p hp => .tail _ hp
  have hD2 : ∀ q p : Nat × Blk, Db (q :: p :: H) := fun q p => hD.mono fun p hp => .tail _ (.tail _ hp)
  have h9 : ∀ (q : Nat × Blk) (K2 : Value → Heap → Prop), K2 (.bool true) (q :: H) → SCalls Tryd.prog 9 [] (q :: H) K2 := fun q K2 hk => c9 (hD' q) hk
  have h92 : ∀ (q p : Nat × Blk) (K2 : Value → Heap → Prop), K2 (.bool true) (q :: p :: H) → SCalls Tryd.prog 9 [] (q :: p :: H) K2 := fun q p K2 hk => c9 (hD2 q p) hk
  refine enter3 ?_
  cases hok : okF f with
  | false =>
    have h8 : ∀ H (K2 : Value → Heap → Prop), K2 (.tuple ⟨[.string ⟨#[]⟩, .int .i64 1]⟩) H → SCalls Tryd.prog 8 [frV f, .bool true] H K2 := fun H K2 hk => c8n hf hok hk
    repeat' ((conv => whnf); (first | with_reducible refine h8 _ _ ?_ | with_reducible refine h9 _ _ ?_ | exact Keep.all rfl | refine New.mk (fun _ => ?_) | refine Look.at0 ?_ | refine Cell.row ?_ | refine Cell.buf ?_ | refine Cells.row rfl ?_ | refine Put.row rfl ?_ | refine Put.buf rfl ?_ | refine Look.at1 ?_ | refine Look.at2 ?_ | refine Look.at3 ?_ | refine Look.at4 ?_ | refine Look.at5 ?_ | refine Look.at6 ?_ | refine Look.at7 ?_ | refine Look.at8 ?_ | with_reducible refine Val.i64 (by omega) (by omega) ?_ | with_reducible refine Val.u8 (by omega) (by omega) ?_ | with_reducible refine Val.u32 (by omega) (by omega) ?_ | with_reducible refine Val.u64 (by omega) (by omega) ?_ | with_reducible refine Val.u8m ?_ | with_reducible refine Val.u32m ?_ | with_reducible refine Val.u64m ?_ | with_reducible refine Val.shr8 ?_ | with_reducible refine Val.shr16 (by decide) ?_ | with_reducible refine Val.shr24 (by decide) ?_ | with_reducible refine Val.raw ?_ | refine Branch.not ?_ | refine Branch.and ?_ | refine Branch.or ?_ | refine Branch.dt (by assumption) ?_ | refine Branch.df (by assumption) ?_ | refine Branch.dt rfl ?_ | refine Branch.dt (by omega) ?_ | refine Branch.df (by omega) ?_ | refine Branch.t rfl ?_ | refine Branch.f rfl ?_ | refine Branch.t (by assumption) ?_ | refine Branch.f (by assumption) ?_ | refine Branch.d (fun _ => ?_) (fun _ => ?_) | refine Branch.mk (fun _ => ?_) (fun _ => ?_) | refine Need.mk (by first | omega | decide | rfl) ?_ | refine Idx.nat (by omega) ?_ | refine Idx.auto (by first | omega | decide) (by first | omega | decide) ?_ | refine Cell.ro rfl ?_ | refine SDraw.all (by kernel_rfl) ?_ | refine Kept.k0 ?_ | refine Kept.k1 ?_ | refine Kept.k2 ?_ | refine Kept.k3 ?_ | refine Kept.k4 ?_))
  | true =>
    have h8 : ∀ (q : Nat × Blk) (K2 : Value → Heap → Prop), K2 (.tuple ⟨[.string (strOf (encB f true)), .int .i64 0]⟩) (q :: H) → SCalls Tryd.prog 8 [frV f, .bool true] (q :: H) K2 := fun q K2 hk => c8 hok (hD' q) hk
    have h12 : ∀ H (K2 : Value → Heap → Prop), K2 (frV (plF f)) H → SCalls Tryd.prog 12 [frV f] H K2 := fun H K2 hk => c12 hk
    have hlen := encB_len f true
    have hen := encN_lt f
    have hsz0 : (strOf (encB f true)).size = encN f := by rw [strOf_size, hlen]
    have hsz : ((strOf (encB f true)).size : Int) = (encN f : Int) := by rw [hsz0]
    obtain ⟨k, hk0⟩ : ∃ k, k = a % encN f := ⟨_, rfl⟩
    have hkl : k < encN f := by rw [hk0]; exact Nat.mod_lt _ (by omega)
    have hmod : (a : Int).tmod (encN f : Int) = (k : Int) := by rw [hk0]; exact (Int.ofNat_tmod a (encN f)).symm
    have hcut : (strOf (encB f true)).extract 0 k = strOf ((encB f true).take k) := by rw [strOf_cut]; simp
    have h10 : ∀ H (K2 : Value → Heap → Prop), K2 (.tuple ⟨[frV z0, .int .i64 (k : Int), .int .i64 3]⟩) H → SCalls Tryd.prog 10 [.string (strOf ((encB f true).take k))] H K2 := fun H K2 hk => c10c hok hkl hk
    have happ : strOf (encB f true) ++ strOf u = strOf (encB f true ++ u) := strOf_app _ _
    have hus : ((strOf u).size : Int) = (u.length : Int) := by rw [strOf_size]
    clear hk0
    by_cases hc : chk u = 0
    · have h11 : ∀ H (K2 : Value → Heap → Prop), K2 (.tuple ⟨[.string (strOf (stf u).out), .int .i64 0]⟩) H → SCalls Tryd.prog 11 [.string (strOf u)] H K2 := fun H K2 hk => c11 hc hk
      obtain ⟨_, hul, huB⟩ : chk u = 0 ∧ u.length ≤ 65536 ∧ ∀ b ∈ u, isB b = true := by
        rcases chk_cases u with h | ⟨h, _⟩
        · exact h
        · exact absurd hc h
      by_cases hlong : 65536 < encN f + u.length
      · have hlong' : (65536 : Int) < (encN f : Int) + (u.length : Int) := by omega
        clear h12
        generalize strOf ((encB f true).take k) = sk at *
        generalize strOf (encB f true) = s at *
        repeat' ((conv => whnf); (first | with_reducible refine h8 _ _ ?_ | with_reducible rw [hsz] | refine Need.mk (by omega) ?_ | with_reducible refine Val.to _ hmod ?_ | refine Idx.of k rfl (by omega) ?_ | with_reducible rw [hcut] | with_reducible refine h10 _ _ ?_ | refine Branch.t (eqV_refl z0) ?_ | with_reducible refine h11 _ _ ?_ | with_reducible rw [hus] | refine Branch.dt hlong' ?_ | with_reducible refine h92 _ _ _ ?_ | exact Keep.all rfl | refine New.mk (fun _ => ?_) | refine Look.at0 ?_ | refine Cell.row ?_ | refine Cell.buf ?_ | refine Cells.row rfl ?_ | refine Put.row rfl ?_ | refine Put.buf rfl ?_ | refine Look.at1 ?_ | refine Look.at2 ?_ | refine Look.at3 ?_ | refine Look.at4 ?_ | refine Look.at5 ?_ | refine Look.at6 ?_ | refine Look.at7 ?_ | refine Look.at8 ?_ | with_reducible refine Val.i64 (by omega) (by omega) ?_ | with_reducible refine Val.u8 (by omega) (by omega) ?_ | with_reducible refine Val.u32 (by omega) (by omega) ?_ | with_reducible refine Val.u64 (by omega) (by omega) ?_ | with_reducible refine Val.u8m ?_ | with_reducible refine Val.u32m ?_ | with_reducible refine Val.u64m ?_ | with_reducible refine Val.shr8 ?_ | with_reducible refine Val.shr16 (by decide) ?_ | with_reducible refine Val.shr24 (by decide) ?_ | with_reducible refine Val.raw ?_ | refine Branch.not ?_ | refine Branch.and ?_ | refine Branch.or ?_ | refine Branch.dt (by assumption) ?_ | refine Branch.df (by assumption) ?_ | refine Branch.dt rfl ?_ | refine Branch.dt (by omega) ?_ | refine Branch.df (by omega) ?_ | refine Branch.t rfl ?_ | refine Branch.f rfl ?_ | refine Branch.t (by assumption) ?_ | refine Branch.f (by assumption) ?_ | refine Branch.d (fun _ => ?_) (fun _ => ?_) | refine Branch.mk (fun _ => ?_) (fun _ => ?_) | refine Need.mk (by first | omega | decide | rfl) ?_ | refine Idx.nat (by omega) ?_ | refine Idx.auto (by first | omega | decide) (by first | omega | decide) ?_ | refine Cell.ro rfl ?_ | refine SDraw.all (by kernel_rfl) ?_ | refine Kept.k0 ?_ | refine Kept.k1 ?_ | refine Kept.k2 ?_ | refine Kept.k3 ?_ | refine Kept.k4 ?_))
      · have hlong' : ¬ (65536 : Int) < (encN f : Int) + (u.length : Int) := by omega
        have h10b : ∀ H (K2 : Value → Heap → Prop), K2 (.tuple ⟨[frV (plF f), .int .i64 (encN f : Int), .int .i64 0]⟩) H → SCalls Tryd.prog 10 [.string (strOf (encB f true ++ u))] H K2 := fun H K2 hk => c10a hok huB (by rw [List.length_append]; omega) hk
        have hst : (strOf (encB f true)).size + (strOf u).size ≤ 9223372036854775807 := by rw [strOf_size, strOf_size]; omega
        generalize strOf ((encB f true).take k) = sk at *
        generalize strOf (encB f true ++ u) = su at *
        generalize strOf (encB f true) = s at *
        repeat' ((conv => whnf); (first | with_reducible refine h8 _ _ ?_ | with_reducible rw [hsz] | refine Need.mk (by omega) ?_ | with_reducible refine Val.to _ hmod ?_ | refine Idx.of k rfl (by omega) ?_ | with_reducible rw [hcut] | with_reducible refine h10 _ _ ?_ | refine Branch.t (eqV_refl z0) ?_ | with_reducible refine h11 _ _ ?_ | with_reducible rw [hus] | refine Branch.df hlong' ?_ | refine Need.mk hst ?_ | with_reducible rw [happ] | with_reducible refine h10b _ _ ?_ | with_reducible refine h12 _ _ ?_ | refine Branch.t (eqV_refl _) ?_ | with_reducible refine h92 _ _ _ ?_ | exact Keep.all rfl | refine New.mk (fun _ => ?_) | refine Look.at0 ?_ | refine Cell.row ?_ | refine Cell.buf ?_ | refine Cells.row rfl ?_ | refine Put.row rfl ?_ | refine Put.buf rfl ?_ | refine Look.at1 ?_ | refine Look.at2 ?_ | refine Look.at3 ?_ | refine Look.at4 ?_ | refine Look.at5 ?_ | refine Look.at6 ?_ | refine Look.at7 ?_ | refine Look.at8 ?_ | with_reducible refine Val.i64 (by omega) (by omega) ?_ | with_reducible refine Val.u8 (by omega) (by omega) ?_ | with_reducible refine Val.u32 (by omega) (by omega) ?_ | with_reducible refine Val.u64 (by omega) (by omega) ?_ | with_reducible refine Val.u8m ?_ | with_reducible refine Val.u32m ?_ | with_reducible refine Val.u64m ?_ | with_reducible refine Val.shr8 ?_ | with_reducible refine Val.shr16 (by decide) ?_ | with_reducible refine Val.shr24 (by decide) ?_ | with_reducible refine Val.raw ?_ | refine Branch.not ?_ | refine Branch.and ?_ | refine Branch.or ?_ | refine Branch.dt (by assumption) ?_ | refine Branch.df (by assumption) ?_ | refine Branch.dt rfl ?_ | refine Branch.dt (by omega) ?_ | refine Branch.df (by omega) ?_ | refine Branch.t rfl ?_ | refine Branch.f rfl ?_ | refine Branch.t (by assumption) ?_ | refine Branch.f (by assumption) ?_ | refine Branch.d (fun _ => ?_) (fun _ => ?_) | refine Branch.mk (fun _ => ?_) (fun _ => ?_) | refine Need.mk (by first | omega | decide | rfl) ?_ | refine Idx.nat (by omega) ?_ | refine Idx.auto (by first | omega | decide) (by first | omega | decide) ?_ | refine Cell.ro rfl ?_ | refine SDraw.all (by kernel_rfl) ?_ | refine Kept.k0 ?_ | refine Kept.k1 ?_ | refine Kept.k2 ?_ | refine Kept.k3 ?_ | refine Kept.k4 ?_))
    · have h11 : ∀ H (K2 : Value → Heap → Prop), K2 (.tuple ⟨[.string (strOf []), .int .i64 (chk u)]⟩) H → SCalls Tryd.prog 11 [.string (strOf u)] H K2 := fun H K2 hk => c11e hc hk
      generalize strOf ((encB f true).take k) = sk at *
      generalize strOf (encB f true) = s at *
      generalize chk u = v at *
      repeat' ((conv => whnf); (first | with_reducible refine h8 _ _ ?_ | with_reducible rw [hsz] | refine Need.mk (by omega) ?_ | with_reducible refine Val.to _ hmod ?_ | refine Idx.of k rfl (by omega) ?_ | with_reducible rw [hcut] | with_reducible refine h10 _ _ ?_ | refine Branch.t (eqV_refl z0) ?_ | with_reducible refine h11 _ _ ?_ | refine Branch.df hc ?_ | with_reducible refine h92 _ _ _ ?_ | exact Keep.all rfl | refine New.mk (fun _ => ?_) | refine Look.at0 ?_ | refine Cell.row ?_ | refine Cell.buf ?_ | refine Cells.row rfl ?_ | refine Put.row rfl ?_ | refine Put.buf rfl ?_ | refine Look.at1 ?_ | refine Look.at2 ?_ | refine Look.at3 ?_ | refine Look.at4 ?_ | refine Look.at5 ?_ | refine Look.at6 ?_ | refine Look.at7 ?_ | refine Look.at8 ?_ | with_reducible refine Val.i64 (by omega) (by omega) ?_ | with_reducible refine Val.u8 (by omega) (by omega) ?_ | with_reducible refine Val.u32 (by omega) (by omega) ?_ | with_reducible refine Val.u64 (by omega) (by omega) ?_ | with_reducible refine Val.u8m ?_ | with_reducible refine Val.u32m ?_ | with_reducible refine Val.u64m ?_ | with_reducible refine Val.shr8 ?_ | with_reducible refine Val.shr16 (by decide) ?_ | with_reducible refine Val.shr24 (by decide) ?_ | with_reducible refine Val.raw ?_ | refine Branch.not ?_ | refine Branch.and ?_ | refine Branch.or ?_ | refine Branch.dt (by assumption) ?_ | refine Branch.df (by assumption) ?_ | refine Branch.dt rfl ?_ | refine Branch.dt (by omega) ?_ | refine Branch.df (by omega) ?_ | refine Branch.t rfl ?_ | refine Branch.f rfl ?_ | refine Branch.t (by assumption) ?_ | refine Branch.f (by assumption) ?_ | refine Branch.d (fun _ => ?_) (fun _ => ?_) | refine Branch.mk (fun _ => ?_) (fun _ => ?_) | refine Need.mk (by first | omega | decide | rfl) ?_ | refine Idx.nat (by omega) ?_ | refine Idx.auto (by first | omega | decide) (by first | omega | decide) ?_ | refine Cell.ro rfl ?_ | refine SDraw.all (by kernel_rfl) ?_ | refine Kept.k0 ?_ | refine Kept.k1 ?_ | refine Kept.k2 ?_ | refine Kept.k3 ?_ | refine Kept.k4 ?_))
end
end Go.Proofs.YtledahfkpnbfcaaDoor

/- Layer 2: the law on the order of two frames: by walks. -/
set_option linter.unusedVariables false
set_option linter.unusedSimpArgs false
set_option maxRecDepth 100000
set_option maxHeartbeats 4000000
namespace Go.Proofs.YtledahfkpnbfcaaDoor
open Sx
theorem tlt_not : ∀ a b : List UInt8, a ≠ b → tlt a b = !(tlt b a)
  | [], [], h => absurd rfl h
  | [], y :: b, _ => by simp [tlt, Op.bytesLess]
  | x :: a, [], _ => by simp [tlt, Op.bytesLess]
  | x :: a, y :: b, h => by
    by_cases hxy : x = y
    · subst hxy
      have ih := tlt_not a b (fun e => h (by rw [e]))
      simpa [tlt, Op.bytesLess] using ih
    · have h1 : ¬ y = x := fun e => hxy e.symm
      simp only [tlt, Op.bytesLess, hxy, h1, if_false]
      have hn : x.toNat ≠ y.toNat := fun e => hxy (UInt8.toNat_inj.1 e)
      by_cases hlt : x < y
      · have : ¬ y < x := fun h => by
          have h2 := UInt8.lt_iff_toNat_lt.1 h
          have h3 := UInt8.lt_iff_toNat_lt.1 hlt
          omega
        simp [hlt, this, hxy, h1]
      · have : y < x := by
          have h3 : ¬ x.toNat < y.toNat := fun h => hlt (UInt8.lt_iff_toNat_lt.2 h)
          exact UInt8.lt_iff_toNat_lt.2 (by omega)
        simp [hlt, this, hxy, h1]
section
variable {K : Value → Heap → Prop} {H : Heap} {f g : Fm}
theorem two_in {q : Nat} {f g : Fm} {H : Heap} : InS frC 12 (.slice (some ⟨q, 0, none⟩) 2 2) ((q, .row 25 [.int .u32 (f.id : Int), .bool f.x, .bool f.r, .int .i64 f.n, b8 f.d0, b8 f.d1, b8 f.d2, b8 f.d3, b8 f.d4, b8 f.d5, b8 f.d6, b8 f.d7, .int .u32 (g.id : Int), .bool g.x, .bool g.r, .int .i64 g.n, b8 g.d0, b8 g.d1, b8 g.d2, b8 g.d3, b8 g.d4, b8 g.d5, b8 g.d6, b8 g.d7] (0, 0)) :: H) [f, g] := by
  refine ⟨_, 2, rfl, (show (2 : Nat) ≤ maxLen by decide), .inr ⟨q, 0, _, rfl, .head _, fun j x i v hj hv hi => ?_⟩⟩
  match j, hj with
  | 0, hj =>
    injection hj with hj; subst hj
    show (frC f ++ frC g)[0 + 0 * 12 + i]? = some v
    rw [show 0 + 0 * 12 + i = i by omega, List.getElem?_append_left (by show i < 12; exact hi)]; exact hv
  | 1, hj =>
    injection hj with hj; subst hj
    show (frC f ++ frC g)[0 + 1 * 12 + i]? = some v
    rw [show 0 + 1 * 12 + i = 12 + i by omega, List.getElem?_append_right (by show 12 ≤ 12 + i; omega)]
    show (frC g)[12 + i - 12]? = some v
    rw [Nat.add_sub_cancel_left]; exact hv
theorem order_c (hD : Db H) (hf : f.id < 4294967296) (hg : g.id < 4294967296) : SCalls Tryd.prog 5 [frV f, frV g] H fun v _ => v = .bool true := by
  have hD2 : ∀ q p : Nat × Blk, Db (q :: p :: H) := fun q p => hD.mono fun p hp => .tail _ (.tail _ hp)
  have hD3 : ∀ q p r : Nat × Blk, Db (q :: p :: r :: H) := fun q p r => hD.mono fun p hp => .tail _ (.tail _ (.tail _ hp))
  have hD4 : ∀ q p r s : Nat × Blk, Db (q :: p :: r :: s :: H) := fun q p r s => hD.mono fun p hp => .tail _ (.tail _ (.tail _ (.tail _ hp)))
  have h9 : ∀ (q p : Nat × Blk) (K2 : Value → Heap → Prop), K2 (.bool true) (q :: p :: H) → SCalls Tryd.prog 9 [] (q :: p :: H) K2 := fun q p K2 hk => c9 (hD2 q p) hk
  have h94 : ∀ (q p r s : Nat × Blk) (K2 : Value → Heap → Prop), K2 (.bool true) (q :: p :: r :: s :: H) → SCalls Tryd.prog 9 [] (q :: p :: r :: s :: H) K2 := fun q p r s K2 hk => c9 (hD4 q p r s) hk
  have hfl : ∀ f : Fm, okF f = true → fV f = (fld f, 0) := fun f h => by unfold fV; rw [if_pos h]
  have hfn : ∀ f : Fm, okF f = false → fV f = ([], 1) := fun f h => by unfold fV; rw [if_neg (by simp [h])]
  have hw : ∀ x ∈ [f, g], x.id < 4294967296 := by
    intro x hx
    simp only [List.mem_cons, List.not_mem_nil, or_false] at hx
    rcases hx with rfl | rfl
    · exact hf
    · exact hg
  have hw' : ∀ x ∈ [g, f], x.id < 4294967296 := by
    intro x hx
    simp only [List.mem_cons, List.not_mem_nil, or_false] at hx
    rcases hx with rfl | rfl
    · exact hg
    · exact hf
  refine enter5 ?_
  cases hof : okF f with
  | false =>
    have h14f : ∀ (q p : Nat × Blk) (K2 : Value → Heap → Prop), K2 (.tuple ⟨[.string (strOf []), .int .i64 1]⟩) (q :: p :: H) → SCalls Tryd.prog 14 [frV f] (q :: p :: H) K2 := fun q p K2 hk => c14 hf (hD2 q p) (by rw [hfn f hof]; exact hk)
    have h14g : ∀ (q p : Nat × Blk) (K2 : Value → Heap → Prop), K2 (.tuple ⟨[.string (strOf (fV g).1), .int .i64 (fV g).2]⟩) (q :: p :: H) → SCalls Tryd.prog 14 [frV g] (q :: p :: H) K2 := fun q p K2 hk => c14 hg (hD2 q p) hk
    generalize (fV g).1 = G1 at *
    generalize (fV g).2 = G2 at *
    repeat' ((conv => whnf); (first | with_reducible refine h14f _ _ _ ?_ | with_reducible refine h14g _ _ _ ?_ | with_reducible refine h9 _ _ _ ?_ | exact Keep.all rfl | refine New.mk (fun _ => ?_) | refine Look.at0 ?_ | refine Cell.row ?_ | refine Cell.buf ?_ | refine Cells.row rfl ?_ | refine Put.row rfl ?_ | refine Put.buf rfl ?_ | refine Look.at1 ?_ | refine Look.at2 ?_ | refine Look.at3 ?_ | refine Look.at4 ?_ | refine Look.at5 ?_ | refine Look.at6 ?_ | refine Look.at7 ?_ | refine Look.at8 ?_ | with_reducible refine Val.i64 (by omega) (by omega) ?_ | with_reducible refine Val.u8 (by omega) (by omega) ?_ | with_reducible refine Val.u32 (by omega) (by omega) ?_ | with_reducible refine Val.u64 (by omega) (by omega) ?_ | with_reducible refine Val.u8m ?_ | with_reducible refine Val.u32m ?_ | with_reducible refine Val.u64m ?_ | with_reducible refine Val.shr8 ?_ | with_reducible refine Val.shr16 (by decide) ?_ | with_reducible refine Val.shr24 (by decide) ?_ | with_reducible refine Val.raw ?_ | refine Branch.not ?_ | refine Branch.and ?_ | refine Branch.or ?_ | refine Branch.dt (by assumption) ?_ | refine Branch.df (by assumption) ?_ | refine Branch.dt rfl ?_ | refine Branch.dt (by omega) ?_ | refine Branch.df (by omega) ?_ | refine Branch.t rfl ?_ | refine Branch.f rfl ?_ | refine Branch.t (by assumption) ?_ | refine Branch.f (by assumption) ?_ | refine Branch.d (fun _ => ?_) (fun _ => ?_) | refine Branch.mk (fun _ => ?_) (fun _ => ?_) | refine Need.mk (by first | omega | decide | rfl) ?_ | refine Idx.nat (by omega) ?_ | refine Idx.auto (by first | omega | decide) (by first | omega | decide) ?_ | refine Cell.ro rfl ?_ | refine SDraw.all (by kernel_rfl) ?_ | refine Kept.k0 ?_ | refine Kept.k1 ?_ | refine Kept.k2 ?_ | refine Kept.k3 ?_ | refine Kept.k4 ?_))
  | true =>
    have h14f : ∀ (q p : Nat × Blk) (K2 : Value → Heap → Prop), K2 (.tuple ⟨[.string (strOf (fld f)), .int .i64 0]⟩) (q :: p :: H) → SCalls Tryd.prog 14 [frV f] (q :: p :: H) K2 := fun q p K2 hk => c14 hf (hD2 q p) (by rw [hfl f hof]; exact hk)
    cases hog : okF g with
    | false =>
      have h14g : ∀ (q p : Nat × Blk) (K2 : Value → Heap → Prop), K2 (.tuple ⟨[.string (strOf []), .int .i64 1]⟩) (q :: p :: H) → SCalls Tryd.prog 14 [frV g] (q :: p :: H) K2 := fun q p K2 hk => c14 hg (hD2 q p) (by rw [hfn g hog]; exact hk)
      repeat' ((conv => whnf); (first | with_reducible refine h14f _ _ _ ?_ | with_reducible refine h14g _ _ _ ?_ | with_reducible refine h9 _ _ _ ?_ | exact Keep.all rfl | refine New.mk (fun _ => ?_) | refine Look.at0 ?_ | refine Cell.row ?_ | refine Cell.buf ?_ | refine Cells.row rfl ?_ | refine Put.row rfl ?_ | refine Put.buf rfl ?_ | refine Look.at1 ?_ | refine Look.at2 ?_ | refine Look.at3 ?_ | refine Look.at4 ?_ | refine Look.at5 ?_ | refine Look.at6 ?_ | refine Look.at7 ?_ | refine Look.at8 ?_ | with_reducible refine Val.i64 (by omega) (by omega) ?_ | with_reducible refine Val.u8 (by omega) (by omega) ?_ | with_reducible refine Val.u32 (by omega) (by omega) ?_ | with_reducible refine Val.u64 (by omega) (by omega) ?_ | with_reducible refine Val.u8m ?_ | with_reducible refine Val.u32m ?_ | with_reducible refine Val.u64m ?_ | with_reducible refine Val.shr8 ?_ | with_reducible refine Val.shr16 (by decide) ?_ | with_reducible refine Val.shr24 (by decide) ?_ | with_reducible refine Val.raw ?_ | refine Branch.not ?_ | refine Branch.and ?_ | refine Branch.or ?_ | refine Branch.dt (by assumption) ?_ | refine Branch.df (by assumption) ?_ | refine Branch.dt rfl ?_ | refine Branch.dt (by omega) ?_ | refine Branch.df (by omega) ?_ | refine Branch.t rfl ?_ | refine Branch.f rfl ?_ | refine Branch.t (by assumption) ?_ | refine Branch.f (by assumption) ?_ | refine Branch.d (fun _ => ?_) (fun _ => ?_) | refine Branch.mk (fun _ => ?_) (fun _ => ?_) | refine Need.mk (by first | omega | decide | rfl) ?_ | refine Idx.nat (by omega) ?_ | refine Idx.auto (by first | omega | decide) (by first | omega | decide) ?_ | refine Cell.ro rfl ?_ | refine SDraw.all (by kernel_rfl) ?_ | refine Kept.k0 ?_ | refine Kept.k1 ?_ | refine Kept.k2 ?_ | refine Kept.k3 ?_ | refine Kept.k4 ?_))
    | true =>
      have h14g : ∀ (q p : Nat × Blk) (K2 : Value → Heap → Prop), K2 (.tuple ⟨[.string (strOf (fld g)), .int .i64 0]⟩) (q :: p :: H) → SCalls Tryd.prog 14 [frV g] (q :: p :: H) K2 := fun q p K2 hk => c14 hg (hD2 q p) (by rw [hfl g hog]; exact hk)
      have e1 := first_two hof hog
      have e2 := first_two hog hof
      have h22a : ∀ (q : Nat) (r s : Nat × Blk) (K2 : Value → Heap → Prop), K2 (.tuple ⟨[.int .i64 ((firstV [f, g]).1 : Int), .int .i64 (firstV [f, g]).2]⟩) ((q, .row 25 [.int .u32 (f.id : Int), .bool f.x, .bool f.r, .int .i64 f.n, b8 f.d0, b8 f.d1, b8 f.d2, b8 f.d3, b8 f.d4, b8 f.d5, b8 f.d6, b8 f.d7, .int .u32 (g.id : Int), .bool g.x, .bool g.r, .int .i64 g.n, b8 g.d0, b8 g.d1, b8 g.d2, b8 g.d3, b8 g.d4, b8 g.d5, b8 g.d6, b8 g.d7] (0, 0)) :: r :: s :: H) →
          SCalls Tryd.prog 22 [.slice (some ⟨q, 0, none⟩) 2 2] ((q, .row 25 [.int .u32 (f.id : Int), .bool f.x, .bool f.r, .int .i64 f.n, b8 f.d0, b8 f.d1, b8 f.d2, b8 f.d3, b8 f.d4, b8 f.d5, b8 f.d6, b8 f.d7, .int .u32 (g.id : Int), .bool g.x, .bool g.r, .int .i64 g.n, b8 g.d0, b8 g.d1, b8 g.d2, b8 g.d3, b8 g.d4, b8 g.d5, b8 g.d6, b8 g.d7] (0, 0)) :: r :: s :: H) K2 :=
        fun q r s K2 hk => c22 (hD3 _ _ _) two_in hw hk
      have h22b : ∀ (q : Nat) (r s t : Nat × Blk) (K2 : Value → Heap → Prop), K2 (.tuple ⟨[.int .i64 ((firstV [g, f]).1 : Int), .int .i64 (firstV [g, f]).2]⟩) ((q, .row 25 [.int .u32 (g.id : Int), .bool g.x, .bool g.r, .int .i64 g.n, b8 g.d0, b8 g.d1, b8 g.d2, b8 g.d3, b8 g.d4, b8 g.d5, b8 g.d6, b8 g.d7, .int .u32 (f.id : Int), .bool f.x, .bool f.r, .int .i64 f.n, b8 f.d0, b8 f.d1, b8 f.d2, b8 f.d3, b8 f.d4, b8 f.d5, b8 f.d6, b8 f.d7] (0, 0)) :: r :: s :: t :: H) →
          SCalls Tryd.prog 22 [.slice (some ⟨q, 0, none⟩) 2 2] ((q, .row 25 [.int .u32 (g.id : Int), .bool g.x, .bool g.r, .int .i64 g.n, b8 g.d0, b8 g.d1, b8 g.d2, b8 g.d3, b8 g.d4, b8 g.d5, b8 g.d6, b8 g.d7, .int .u32 (f.id : Int), .bool f.x, .bool f.r, .int .i64 f.n, b8 f.d0, b8 f.d1, b8 f.d2, b8 f.d3, b8 f.d4, b8 f.d5, b8 f.d6, b8 f.d7] (0, 0)) :: r :: s :: t :: H) K2 :=
        fun q r s t K2 hk => c22 (hD4 _ _ _ _) two_in hw' hk
      have hlt : strLt (strOf (fld g)) (strOf (fld f)) = tlt (fld g) (fld f) := strLt_of _ _
      by_cases heq : fld f = fld g
      · rw [if_pos heq] at e1
        rw [if_pos heq.symm] at e2
        rw [e1] at h22a
        rw [e2] at h22b
        have hse : strOf (fld f) = strOf (fld g) := by rw [heq]
        repeat' ((conv => whnf); (first | with_reducible refine h14f _ _ _ ?_ | with_reducible refine h14g _ _ _ ?_ | with_reducible refine h22a _ _ _ _ ?_ | with_reducible refine h22b _ _ _ _ _ ?_ | refine Branch.dt hse ?_ | with_reducible refine h94 _ _ _ _ _ ?_ | exact Keep.all rfl | refine New.mk (fun _ => ?_) | refine Look.at0 ?_ | refine Cell.row ?_ | refine Cell.buf ?_ | refine Cells.row rfl ?_ | refine Put.row rfl ?_ | refine Put.buf rfl ?_ | refine Look.at1 ?_ | refine Look.at2 ?_ | refine Look.at3 ?_ | refine Look.at4 ?_ | refine Look.at5 ?_ | refine Look.at6 ?_ | refine Look.at7 ?_ | refine Look.at8 ?_ | with_reducible refine Val.i64 (by omega) (by omega) ?_ | with_reducible refine Val.u8 (by omega) (by omega) ?_ | with_reducible refine Val.u32 (by omega) (by omega) ?_ | with_reducible refine Val.u64 (by omega) (by omega) ?_ | with_reducible refine Val.u8m ?_ | with_reducible refine Val.u32m ?_ | with_reducible refine Val.u64m ?_ | with_reducible refine Val.shr8 ?_ | with_reducible refine Val.shr16 (by decide) ?_ | with_reducible refine Val.shr24 (by decide) ?_ | with_reducible refine Val.raw ?_ | refine Branch.not ?_ | refine Branch.and ?_ | refine Branch.or ?_ | refine Branch.dt (by assumption) ?_ | refine Branch.df (by assumption) ?_ | refine Branch.dt rfl ?_ | refine Branch.dt (by omega) ?_ | refine Branch.df (by omega) ?_ | refine Branch.t rfl ?_ | refine Branch.f rfl ?_ | refine Branch.t (by assumption) ?_ | refine Branch.f (by assumption) ?_ | refine Branch.d (fun _ => ?_) (fun _ => ?_) | refine Branch.mk (fun _ => ?_) (fun _ => ?_) | refine Need.mk (by first | omega | decide | rfl) ?_ | refine Idx.nat (by omega) ?_ | refine Idx.auto (by first | omega | decide) (by first | omega | decide) ?_ | refine Cell.ro rfl ?_ | refine SDraw.all (by kernel_rfl) ?_ | refine Kept.k0 ?_ | refine Kept.k1 ?_ | refine Kept.k2 ?_ | refine Kept.k3 ?_ | refine Kept.k4 ?_))
      · rw [if_neg heq] at e1
        rw [if_neg (fun h => heq h.symm)] at e2
        rw [e1] at h22a
        rw [e2] at h22b
        have hse : ¬ strOf (fld f) = strOf (fld g) := fun h => heq (strOf_inj h)
        have hn := tlt_not _ _ heq
        rw [hn] at h22b
        cases hb : tlt (fld g) (fld f) with
        | true =>
          rw [hb] at hlt h22a h22b
          repeat' ((conv => whnf); (first | with_reducible refine h14f _ _ _ ?_ | with_reducible refine h14g _ _ _ ?_ | with_reducible refine h22a _ _ _ _ ?_ | with_reducible refine h22b _ _ _ _ _ ?_ | refine Branch.df hse ?_ | refine Branch.t hlt ?_ | with_reducible refine h94 _ _ _ _ _ ?_ | exact Keep.all rfl | refine New.mk (fun _ => ?_) | refine Look.at0 ?_ | refine Cell.row ?_ | refine Cell.buf ?_ | refine Cells.row rfl ?_ | refine Put.row rfl ?_ | refine Put.buf rfl ?_ | refine Look.at1 ?_ | refine Look.at2 ?_ | refine Look.at3 ?_ | refine Look.at4 ?_ | refine Look.at5 ?_ | refine Look.at6 ?_ | refine Look.at7 ?_ | refine Look.at8 ?_ | with_reducible refine Val.i64 (by omega) (by omega) ?_ | with_reducible refine Val.u8 (by omega) (by omega) ?_ | with_reducible refine Val.u32 (by omega) (by omega) ?_ | with_reducible refine Val.u64 (by omega) (by omega) ?_ | with_reducible refine Val.u8m ?_ | with_reducible refine Val.u32m ?_ | with_reducible refine Val.u64m ?_ | with_reducible refine Val.shr8 ?_ | with_reducible refine Val.shr16 (by decide) ?_ | with_reducible refine Val.shr24 (by decide) ?_ | with_reducible refine Val.raw ?_ | refine Branch.not ?_ | refine Branch.and ?_ | refine Branch.or ?_ | refine Branch.dt (by assumption) ?_ | refine Branch.df (by assumption) ?_ | refine Branch.dt rfl ?_ | refine Branch.dt (by omega) ?_ | refine Branch.df (by omega) ?_ | refine Branch.t rfl ?_ | refine Branch.f rfl ?_ | refine Branch.t (by assumption) ?_ | refine Branch.f (by assumption) ?_ | refine Branch.d (fun _ => ?_) (fun _ => ?_) | refine Branch.mk (fun _ => ?_) (fun _ => ?_) | refine Need.mk (by first | omega | decide | rfl) ?_ | refine Idx.nat (by omega) ?_ | refine Idx.auto (by first | omega | decide) (by first | omega | decide) ?_ | refine Cell.ro rfl ?_ | refine SDraw.all (by kernel_rfl) ?_ | refine Kept.k0 ?_ | refine Kept.k1 ?_ | refine Kept.k2 ?_ | refine Kept.k3 ?_ | refine Kept.k4 ?_))
        | false =>
          rw [hb] at hlt h22a h22b
          repeat' ((conv => whnf); (first | with_reducible refine h14f _ _ _ ?_ | with_reducible refine h14g _ _ _ ?_ | with_reducible refine h22a _ _ _ _ ?_ | with_reducible refine h22b _ _ _ _ _ ?_ | refine Branch.df hse ?_ | refine Branch.f hlt ?_ | with_reducible refine h94 _ _ _ _ _ ?_ | exact Keep.all rfl | refine New.mk (fun _ => ?_) | refine Look.at0 ?_ | refine Cell.row ?_ | refine Cell.buf ?_ | refine Cells.row rfl ?_ | refine Put.row rfl ?_ | refine Put.buf rfl ?_ | refine Look.at1 ?_ | refine Look.at2 ?_ | refine Look.at3 ?_ | refine Look.at4 ?_ | refine Look.at5 ?_ | refine Look.at6 ?_ | refine Look.at7 ?_ | refine Look.at8 ?_ | with_reducible refine Val.i64 (by omega) (by omega) ?_ | with_reducible refine Val.u8 (by omega) (by omega) ?_ | with_reducible refine Val.u32 (by omega) (by omega) ?_ | with_reducible refine Val.u64 (by omega) (by omega) ?_ | with_reducible refine Val.u8m ?_ | with_reducible refine Val.u32m ?_ | with_reducible refine Val.u64m ?_ | with_reducible refine Val.shr8 ?_ | with_reducible refine Val.shr16 (by decide) ?_ | with_reducible refine Val.shr24 (by decide) ?_ | with_reducible refine Val.raw ?_ | refine Branch.not ?_ | refine Branch.and ?_ | refine Branch.or ?_ | refine Branch.dt (by assumption) ?_ | refine Branch.df (by assumption) ?_ | refine Branch.dt rfl ?_ | refine Branch.dt (by omega) ?_ | refine Branch.df (by omega) ?_ | refine Branch.t rfl ?_ | refine Branch.f rfl ?_ | refine Branch.t (by assumption) ?_ | refine Branch.f (by assumption) ?_ | refine Branch.d (fun _ => ?_) (fun _ => ?_) | refine Branch.mk (fun _ => ?_) (fun _ => ?_) | refine Need.mk (by first | omega | decide | rfl) ?_ | refine Idx.nat (by omega) ?_ | refine Idx.auto (by first | omega | decide) (by first | omega | decide) ?_ | refine Cell.ro rfl ?_ | refine SDraw.all (by kernel_rfl) ?_ | refine Kept.k0 ?_ | refine Kept.k1 ?_ | refine Kept.k2 ?_ | refine Kept.k3 ?_ | refine Kept.k4 ?_))
end
end Go.Proofs.YtledahfkpnbfcaaDoor

/- Input slices: from what the row tells of one to what a walk knows of it. -/
set_option linter.unusedVariables false
set_option linter.unusedSimpArgs false
namespace Go.Proofs.YtledahfkpnbfcaaDoor
open Sx
theorem inS_of {α : Type} {f : α → List Value} {k B : Nat} {R : World → List Value → Prop} {Good : α → Prop} {w : World} {a : Option Addr} {n c : Nat} (h : SliceAt k B R w a n c) (hk0 : 0 < k) (hk : ∀ x, (f x).length = k) (hR : ∀ cs, R w cs → ∃ x, cs = f x ∧ Good x) :
    ∃ H L, L.length = n ∧ InS f k (.slice a L.length c) H L ∧ (∀ x ∈ L, Good x) ∧ Holds w H ∧ ∀ p ∈ H, p.2.excl = false := by
  have hml : n ≤ maxLen := Nat.le_trans h.1 h.2.1
  by_cases hl : 0 < n
  · obtain ⟨b, o, rfl, hb, hc⟩ := h.plain hk0 hl
    obtain ⟨L, h1, h2⟩ := list_of (P := fun j (m : α) => Good m ∧ ∀ i v, (f m)[i]? = some v → w.cell? ⟨b, o + j * k + i, none⟩ = some v) n fun j hj => by
      obtain ⟨cs, hlc, hcell, hr⟩ := hc j hj
      obtain ⟨x, rfl, hg⟩ := hR cs hr
      refine ⟨x, hg, fun i v hi => ?_⟩
      have hik : i < k := by rw [← hk x]; exact (List.getElem?_eq_some_iff.1 hi).1
      exact (hcell i hik).trans hi
    refine ⟨[(b, .ro fun j => w.cell? ⟨b, j, none⟩)], L, h1, ⟨_, c, rfl, by omega, .inr ⟨b, o, _, rfl, .head _, fun j x i v hj hv hi => (h2 j x hj).2 i v hv⟩⟩, fun x hx => ?_, ⟨fun p hp => ?_, List.pairwise_singleton _ _⟩, fun p hp => ?_⟩
    · obtain ⟨j, hlt, rfl⟩ := List.getElem_of_mem hx
      exact (h2 j _ (List.getElem?_eq_getElem hlt)).1
    · obtain rfl := List.mem_singleton.1 hp
      exact ⟨hb, fun _ _ h => h⟩
    · obtain rfl := List.mem_singleton.1 hp
      rfl
  · obtain rfl : n = 0 := by omega
    exact ⟨[], [], rfl, ⟨a, c, rfl, by simp, .inl rfl⟩, fun x hx => (by cases hx), Holds.empty w, fun p hp => by cases hp⟩
/-- Two inputs, side by side. -/
theorem Holds.join {w : World} {H G : Heap} (h1 : Holds w H) (h2 : Holds w G) (x1 : ∀ p ∈ H, p.2.excl = false) (x2 : ∀ p ∈ G, p.2.excl = false) : Holds w (H ++ G) := by
  refine ⟨fun p hp => ?_, List.pairwise_append.2 ⟨h1.sep, h2.sep, fun p hp q hq hx => ?_⟩⟩
  · rcases List.mem_append.1 hp with hp | hp
    · exact h1.at_ p hp
    · exact h2.at_ p hp
  · rw [x1 p hp, x2 q hq] at hx
    rcases hx with hx | hx <;> cases hx
theorem excl_join {H G : Heap} (x1 : ∀ p ∈ H, p.2.excl = false) (x2 : ∀ p ∈ G, p.2.excl = false) : ∀ p ∈ H ++ G, p.2.excl = false := fun p hp => by
  rcases List.mem_append.1 hp with hp | hp
  · exact x1 p hp
  · exact x2 p hp
end Go.Proofs.YtledahfkpnbfcaaDoor

/- Layer 2: what comes in; the laws on bits, on those that are cut off, on order. -/
set_option linter.unusedVariables false
set_option linter.unusedSimpArgs false
set_option maxRecDepth 100000
set_option maxHeartbeats 4000000
namespace Go.Proofs.YtledahfkpnbfcaaDoor
open Sx
theorem g5 : Tryd.prog.globalNamed "math/bits.deBruijn64tab" = some 7 := by kernel_rfl
theorem g5t : ∃ t, (Tryd.prog.globals[7]?).map (·.type) = some t ∧ Tryd.prog.underlying t = some (.array 64 5) ∧ Tryd.prog.cellsOf t = 64 := ⟨163, by kernel_rfl, by kernel_rfl, by kernel_rfl⟩
theorem db_of {W : World} {d : DataW Unit} {rest : List (String × DataW Unit)} (h : laidMet Tryd.prog (("math/bits.deBruijn32tab", d) :: ("math/bits.deBruijn64tab", Rows.laid_math_bits_deBruijn64tab) :: rest) W) :
    Db [(7, .ro fun j => if j = 1 then some (.int .u8 1) else none)] ∧ Holds W [(7, .ro fun j => if j = 1 then some (.int .u8 1) else none)] ∧ ∀ p ∈ [((7 : Nat), Blk.ro fun j => if j = 1 then some (.int .u8 1) else none)], p.2.excl = false := by
  obtain ⟨t, h1, h2, h3⟩ := g5t
  have hT := Lib.tabIs_of_head (k := .u8) (zs := [0, 1, 56, 2, 57, 49, 28, 3, 61, 58, 42, 50, 38, 29, 17, 4, 62, 47, 59, 36, 45, 43, 51, 22, 53, 39, 33, 30, 24, 18, 12, 5, 63, 55, 48, 27, 60, 41, 37, 16, 46, 35, 44, 21, 52, 32, 23, 11, 54, 26, 40, 15, 34, 20, 31, 10, 25, 14, 19, 9, 13, 8, 7, 6]) g5 h1 h2 (show Tryd.prog.underlying 5 = some (.int .u8) by kernel_rfl) (by kernel_rfl) h3 h.tail
  have hc : W.cell? ⟨7, 1, none⟩ = some (.int .u8 1) := hT.cell g5 1 (by decide)
  refine ⟨⟨_, .head _, rfl⟩, ⟨fun p hp => ?_, List.pairwise_singleton _ _⟩, fun p hp => ?_⟩
  · obtain rfl := List.mem_singleton.1 hp
    refine ⟨World.block_lt_of_cell? W _ hc, fun j v hj => ?_⟩
    by_cases h : j = 1
    · subst h
      injection hj with hj
      subst hj
      exact hc
    · simp only [h, if_false] at hj
      cases hj
  · obtain rfl := List.mem_singleton.1 hp
    rfl
theorem u8_of {x : Int} (h : (Lit.int .u8 x).wf = true) : ∃ b : UInt8, Value.int .u8 x = b8 b := by
  have e := wf_u8 h
  refine ⟨UInt8.ofNat x.toNat, ?_⟩
  have : (UInt8.ofNat x.toNat).toNat = x.toNat := by
    rw [UInt8.toNat_ofNat']
    exact Nat.mod_eq_of_lt (by omega)
  show _ = Value.int .u8 (((UInt8.ofNat x.toNat).toNat : Nat) : Int)
  rw [this, Int.toNat_of_nonneg e.1]
/-- A frame that comes in. -/
theorem frame_of {id n y0 y1 y2 y3 y4 y5 y6 y7 : Int} {x r : Bool} (h0 : (Lit.int .u32 id).wf = true) (h1 : (Lit.int .i64 n).wf = true) (k0 : (Lit.int .u8 y0).wf = true) (k1 : (Lit.int .u8 y1).wf = true) (k2 : (Lit.int .u8 y2).wf = true) (k3 : (Lit.int .u8 y3).wf = true)
    (k4 : (Lit.int .u8 y4).wf = true) (k5 : (Lit.int .u8 y5).wf = true) (k6 : (Lit.int .u8 y6).wf = true) (k7 : (Lit.int .u8 y7).wf = true) :
    ∃ f : Fm, [Value.int .u32 id, .bool x, .bool r, .int .i64 n, .int .u8 y0, .int .u8 y1, .int .u8 y2, .int .u8 y3, .int .u8 y4, .int .u8 y5, .int .u8 y6, .int .u8 y7] = frC f ∧ f.wf := by
  have e0 := wf_u32 h0
  have e1 := wf_i64 h1
  obtain ⟨b0, q0⟩ := u8_of k0
  obtain ⟨b1, q1⟩ := u8_of k1
  obtain ⟨b2, q2⟩ := u8_of k2
  obtain ⟨b3, q3⟩ := u8_of k3
  obtain ⟨b4, q4⟩ := u8_of k4
  obtain ⟨b5, q5⟩ := u8_of k5
  obtain ⟨b6, q6⟩ := u8_of k6
  obtain ⟨b7, q7⟩ := u8_of k7
  obtain ⟨i, rfl⟩ : ∃ i : Nat, id = (i : Int) := ⟨id.toNat, by omega⟩
  refine ⟨⟨i, x, r, n, b0, b1, b2, b3, b4, b5, b6, b7⟩, by rw [q0, q1, q2, q3, q4, q5, q6, q7], (by show i < 4294967296; omega), e1.1, e1.2⟩
theorem frame_in {w : World} {cs : List Value} (h : R25 w cs) : ∃ f, cs = frC f ∧ f.wf := by
  obtain ⟨x0, x1, x2, x3, y0, y1, y2, y3, y4, y5, y6, y7, rfl, h0, h1, k0, k1, k2, k3, k4, k5, k6, k7⟩ := h
  exact frame_of h0 h1 k0 k1 k2 k3 k4 k5 k6 k7
theorem frames_of {w : World} {a : Option Addr} {n c : Nat} (h : SliceAt 12 B25 R25 w a n c) : ∃ H L, L.length = n ∧ InS frC 12 (.slice a L.length c) H L ∧ (∀ x ∈ L, x.wf) ∧ Holds w H ∧ (∀ p ∈ H, p.2.excl = false) ∧ L.length * 24 ≤ 140737488355328 := by
  obtain ⟨H, L, e, hin, hwf, hw, hx⟩ := inS_of (f := frC) (Good := Fm.wf) h (by decide) frC_len (fun cs hc => frame_in hc)
  have hb := h.2.2.1
  simp only [reachBytes, B25] at hb
  exact ⟨H, L, e, hin, hwf, hw, hx, by omega⟩

theorem FrameEncodesW (a0x0 : Int) (a0x1 : Bool) (a0x2 : Bool) (a0x3 : Int) (a0x4_0 : Int) (a0x4_1 : Int) (a0x4_2 : Int) (a0x4_3 : Int) (a0x4_4 : Int) (a0x4_5 : Int) (a0x4_6 : Int) (a0x4_7 : Int) (a1x0 : Int) (a1x1 : Bool) (a1x2 : Bool) (a1x3 : Int) (a1x4_0 : Int) (a1x4_1 : Int) (a1x4_2 : Int) (a1x4_3 : Int) (a1x4_4 : Int) (a1x4_5 : Int) (a1x4_6 : Int) (a1x4_7 : Int) (a2 : Bool) (w : World) (h0_0 : (Lit.int .u32 a0x0).wf = true) (h0_1 : (Lit.int .i64 a0x3).wf = true) (h0_2 : (Lit.int .u8 a0x4_0).wf = true) (h0_3 : (Lit.int .u8 a0x4_1).wf = true) (h0_4 : (Lit.int .u8 a0x4_2).wf = true) (h0_5 : (Lit.int .u8 a0x4_3).wf = true) (h0_6 : (Lit.int .u8 a0x4_4).wf = true) (h0_7 : (Lit.int .u8 a0x4_5).wf = true) (h0_8 : (Lit.int .u8 a0x4_6).wf = true) (h0_9 : (Lit.int .u8 a0x4_7).wf = true) (h1_0 : (Lit.int .u32 a1x0).wf = true) (h1_1 : (Lit.int .i64 a1x3).wf = true) (h1_2 : (Lit.int .u8 a1x4_0).wf = true) (h1_3 : (Lit.int .u8 a1x4_1).wf = true) (h1_4 : (Lit.int .u8 a1x4_2).wf = true) (h1_5 : (Lit.int .u8 a1x4_3).wf = true) (h1_6 : (Lit.int .u8 a1x4_4).wf = true) (h1_7 : (Lit.int .u8 a1x4_5).wf = true) (h1_8 : (Lit.int .u8 a1x4_6).wf = true) (h1_9 : (Lit.int .u8 a1x4_7).wf = true)
    (hL : laidMet Tryd.prog Rows.frameEncodesRow.laid w) :
    Calls Tryd.prog 4 #[.agg #[.int .u32 a0x0, .bool a0x1, .bool a0x2, .int .i64 a0x3, .int .u8 a0x4_0, .int .u8 a0x4_1, .int .u8 a0x4_2, .int .u8 a0x4_3, .int .u8 a0x4_4, .int .u8 a0x4_5, .int .u8 a0x4_6, .int .u8 a0x4_7], .agg #[.int .u32 a1x0, .bool a1x1, .bool a1x2, .int .i64 a1x3, .int .u8 a1x4_0, .int .u8 a1x4_1, .int .u8 a1x4_2, .int .u8 a1x4_3, .int .u8 a1x4_4, .int .u8 a1x4_5, .int .u8 a1x4_6, .int .u8 a1x4_7], .bool a2] w fun e w' => e = .returned (.bool true) ∧ Go.RowKit.Below w.heap.size w w' := by
  obtain ⟨hD, hw, hx⟩ := db_of hL
  obtain ⟨f0, hf0, hfw0⟩ := frame_of (x := a0x1) (r := a0x2) h0_0 h0_1 h0_2 h0_3 h0_4 h0_5 h0_6 h0_7 h0_8 h0_9
  have hv0 : Value.agg #[.int .u32 a0x0, .bool a0x1, .bool a0x2, .int .i64 a0x3, .int .u8 a0x4_0, .int .u8 a0x4_1, .int .u8 a0x4_2, .int .u8 a0x4_3, .int .u8 a0x4_4, .int .u8 a0x4_5, .int .u8 a0x4_6, .int .u8 a0x4_7] = frV f0 := congrArg (fun l => Value.agg ⟨l⟩) hf0
  rw [hv0]
  obtain ⟨f1, hf1, hfw1⟩ := frame_of (x := a1x1) (r := a1x2) h1_0 h1_1 h1_2 h1_3 h1_4 h1_5 h1_6 h1_7 h1_8 h1_9
  have hv1 : Value.agg #[.int .u32 a1x0, .bool a1x1, .bool a1x2, .int .i64 a1x3, .int .u8 a1x4_0, .int .u8 a1x4_1, .int .u8 a1x4_2, .int .u8 a1x4_3, .int .u8 a1x4_4, .int .u8 a1x4_5, .int .u8 a1x4_6, .int .u8 a1x4_7] = frV f1 := congrArg (fun l => Value.agg ⟨l⟩) hf1
  rw [hv1]
  exact (encodes_c hD hfw0.1 hfw1.1).fin w hw hx
theorem FrameOrderW (a0x0 : Int) (a0x1 : Bool) (a0x2 : Bool) (a0x3 : Int) (a0x4_0 : Int) (a0x4_1 : Int) (a0x4_2 : Int) (a0x4_3 : Int) (a0x4_4 : Int) (a0x4_5 : Int) (a0x4_6 : Int) (a0x4_7 : Int) (a1x0 : Int) (a1x1 : Bool) (a1x2 : Bool) (a1x3 : Int) (a1x4_0 : Int) (a1x4_1 : Int) (a1x4_2 : Int) (a1x4_3 : Int) (a1x4_4 : Int) (a1x4_5 : Int) (a1x4_6 : Int) (a1x4_7 : Int) (w : World) (h0_0 : (Lit.int .u32 a0x0).wf = true) (h0_1 : (Lit.int .i64 a0x3).wf = true) (h0_2 : (Lit.int .u8 a0x4_0).wf = true) (h0_3 : (Lit.int .u8 a0x4_1).wf = true) (h0_4 : (Lit.int .u8 a0x4_2).wf = true) (h0_5 : (Lit.int .u8 a0x4_3).wf = true) (h0_6 : (Lit.int .u8 a0x4_4).wf = true) (h0_7 : (Lit.int .u8 a0x4_5).wf = true) (h0_8 : (Lit.int .u8 a0x4_6).wf = true) (h0_9 : (Lit.int .u8 a0x4_7).wf = true) (h1_0 : (Lit.int .u32 a1x0).wf = true) (h1_1 : (Lit.int .i64 a1x3).wf = true) (h1_2 : (Lit.int .u8 a1x4_0).wf = true) (h1_3 : (Lit.int .u8 a1x4_1).wf = true) (h1_4 : (Lit.int .u8 a1x4_2).wf = true) (h1_5 : (Lit.int .u8 a1x4_3).wf = true) (h1_6 : (Lit.int .u8 a1x4_4).wf = true) (h1_7 : (Lit.int .u8 a1x4_5).wf = true) (h1_8 : (Lit.int .u8 a1x4_6).wf = true) (h1_9 : (Lit.int .u8 a1x4_7).wf = true)
    (hL : laidMet Tryd.prog Rows.frameOrderRow.laid w) :
    Calls Tryd.prog 5 #[.agg #[.int .u32 a0x0, .bool a0x1, .bool a0x2, .int .i64 a0x3, .int .u8 a0x4_0, .int .u8 a0x4_1, .int .u8 a0x4_2, .int .u8 a0x4_3, .int .u8 a0x4_4, .int .u8 a0x4_5, .int .u8 a0x4_6, .int .u8 a0x4_7], .agg #[.int .u32 a1x0, .bool a1x1, .bool a1x2, .int .i64 a1x3, .int .u8 a1x4_0, .int .u8 a1x4_1, .int .u8 a1x4_2, .int .u8 a1x4_3, .int .u8 a1x4_4, .int .u8 a1x4_5, .int .u8 a1x4_6, .int .u8 a1x4_7]] w fun e w' => e = .returned (.bool true) ∧ Go.RowKit.Below w.heap.size w w' := by
  obtain ⟨hD, hw, hx⟩ := db_of hL
  obtain ⟨f0, hf0, hfw0⟩ := frame_of (x := a0x1) (r := a0x2) h0_0 h0_1 h0_2 h0_3 h0_4 h0_5 h0_6 h0_7 h0_8 h0_9
  have hv0 : Value.agg #[.int .u32 a0x0, .bool a0x1, .bool a0x2, .int .i64 a0x3, .int .u8 a0x4_0, .int .u8 a0x4_1, .int .u8 a0x4_2, .int .u8 a0x4_3, .int .u8 a0x4_4, .int .u8 a0x4_5, .int .u8 a0x4_6, .int .u8 a0x4_7] = frV f0 := congrArg (fun l => Value.agg ⟨l⟩) hf0
  rw [hv0]
  obtain ⟨f1, hf1, hfw1⟩ := frame_of (x := a1x1) (r := a1x2) h1_0 h1_1 h1_2 h1_3 h1_4 h1_5 h1_6 h1_7 h1_8 h1_9
  have hv1 : Value.agg #[.int .u32 a1x0, .bool a1x1, .bool a1x2, .int .i64 a1x3, .int .u8 a1x4_0, .int .u8 a1x4_1, .int .u8 a1x4_2, .int .u8 a1x4_3, .int .u8 a1x4_4, .int .u8 a1x4_5, .int .u8 a1x4_6, .int .u8 a1x4_7] = frV f1 := congrArg (fun l => Value.agg ⟨l⟩) hf1
  rw [hv1]
  exact (order_c hD hfw0.1 hfw1.1).fin w hw hx
theorem FrameCutW (a0x0 : Int) (a0x1 : Bool) (a0x2 : Bool) (a0x3 : Int) (a0x4_0 : Int) (a0x4_1 : Int) (a0x4_2 : Int) (a0x4_3 : Int) (a0x4_4 : Int) (a0x4_5 : Int) (a0x4_6 : Int) (a0x4_7 : Int) (a1 : Int) (a2 : ByteArray) (w : World) (h0_0 : (Lit.int .u32 a0x0).wf = true) (h0_1 : (Lit.int .i64 a0x3).wf = true) (h0_2 : (Lit.int .u8 a0x4_0).wf = true) (h0_3 : (Lit.int .u8 a0x4_1).wf = true) (h0_4 : (Lit.int .u8 a0x4_2).wf = true) (h0_5 : (Lit.int .u8 a0x4_3).wf = true) (h0_6 : (Lit.int .u8 a0x4_4).wf = true) (h0_7 : (Lit.int .u8 a0x4_5).wf = true) (h0_8 : (Lit.int .u8 a0x4_6).wf = true) (h0_9 : (Lit.int .u8 a0x4_7).wf = true) (h1_0 : (Lit.int .u16 a1).wf = true) (h2_0 : a2.size ≤ reachBytes)
    (hL : laidMet Tryd.prog Rows.frameCutRow.laid w) :
    Calls Tryd.prog 3 #[.agg #[.int .u32 a0x0, .bool a0x1, .bool a0x2, .int .i64 a0x3, .int .u8 a0x4_0, .int .u8 a0x4_1, .int .u8 a0x4_2, .int .u8 a0x4_3, .int .u8 a0x4_4, .int .u8 a0x4_5, .int .u8 a0x4_6, .int .u8 a0x4_7], .int .u16 a1, .string a2] w fun e w' => e = .returned (.bool true) ∧ Go.RowKit.Below w.heap.size w w' := by
  obtain ⟨hD, hw, hx⟩ := db_of hL
  obtain ⟨f0, hf0, hfw0⟩ := frame_of (x := a0x1) (r := a0x2) h0_0 h0_1 h0_2 h0_3 h0_4 h0_5 h0_6 h0_7 h0_8 h0_9
  have hv0 : Value.agg #[.int .u32 a0x0, .bool a0x1, .bool a0x2, .int .i64 a0x3, .int .u8 a0x4_0, .int .u8 a0x4_1, .int .u8 a0x4_2, .int .u8 a0x4_3, .int .u8 a0x4_4, .int .u8 a0x4_5, .int .u8 a0x4_6, .int .u8 a0x4_7] = frV f0 := congrArg (fun l => Value.agg ⟨l⟩) hf0
  rw [hv0]
  have e1 := wf_u16 h1_0
  obtain ⟨a, rfl⟩ : ∃ a : Nat, a1 = (a : Int) := ⟨a1.toNat, by omega⟩
  have hr : a2.data.toList.length ≤ 140737488355328 := by
    have h1 := h2_0
    simp only [reachBytes] at h1
    have h2 : a2.size = a2.data.toList.length := rfl
    omega
  exact (cut_c (u := a2.data.toList) hD hfw0.1 (by omega) hr).fin w hw hx
end Go.Proofs.YtledahfkpnbfcaaDoor

/- Layer 1: what a wire has of single bits: by walks. -/
set_option linter.unusedVariables false
set_option linter.unusedSimpArgs false
set_option maxRecDepth 100000
set_option maxHeartbeats 4000000
namespace Go.Proofs.YtledahfkpnbfcaaDoor
open Sx
/-- A text of one bit. -/
abbrev s1 (b : UInt8) : List Value := [.string (strOf [b])]
/-- What a wire has. -/
def wr1 (bs : List UInt8) : UInt8 := if bs.any (· == 48) then 48 else 49
theorem wr1_snoc (bs : List UInt8) (b : UInt8) : wr1 (bs ++ [b]) = if b = 48 then 48 else wr1 bs := by
  unfold wr1
  rw [List.any_append]
  by_cases h : b = 48
  · simp [h]
  · simp [h]
theorem wr1_or (bs : List UInt8) : wr1 bs = 48 ∨ wr1 bs = 49 := by
  unfold wr1
  split
  · exact .inl rfl
  · exact .inr rfl
theorem bit_or {b : UInt8} (h : isB b = true) : b = 48 ∨ b = 49 := by
  rcases isB_cases h with ⟨h, _⟩ | ⟨h, _⟩
  · exact .inl (UInt8.toNat_inj.1 h)
  · exact .inr (UInt8.toNat_inj.1 h)
theorem chk_one {b : UInt8} (h : isB b = true) : chk [b] = 0 := chk_ok (by show 1 ≤ 65536; decide) (fun x hx => by rw [List.mem_singleton.1 hx]; exact h)
inductive S48 (A0 A4 A12 A13 A14 : Value) : List Value → Prop
  | mk {r1 r2 r3 r5 r6 r7 r8 r9 r10 r11 r15 r16 r17 r18 r19 r20 r21 r22 r23 r24 r25 r26 r27 r28 r29 r30 r31 r32 r33 r34 r35 r36 r37 r38 r39 r40 r41 r42 r43 r44 r45 r46 r47 r48 r49 r50 r51 r52 r53 r54 r55 r56 : Value} : S48 A0 A4 A12 A13 A14 [A0, r1, r2, r3, A4, r5, r6, r7, r8, r9, r10, r11, A12, A13, A14, r15, r16, r17, r18, r19, r20, r21, r22, r23, r24, r25, r26, r27, r28, r29, r30, r31, r32, r33, r34, r35, r36, r37, r38, r39, r40, r41, r42, r43, r44, r45, r46, r47, r48, r49, r50, r51, r52, r53, r54, r55, r56]
inductive T48 (A8 A31 A32 A33 : Value) : List Value → Prop
  | mk {r0 r1 r2 r3 r4 r5 r6 r7 r9 r10 r11 r12 r13 r14 r15 r16 r17 r18 r19 r20 r21 r22 r23 r24 r25 r26 r27 r28 r29 r30 r34 r35 r36 r37 r38 r39 r40 r41 r42 r43 r44 r45 r46 r47 r48 r49 r50 r51 r52 r53 r54 r55 r56 : Value} : T48 A8 A31 A32 A33 [r0, r1, r2, r3, r4, r5, r6, r7, A8, r9, r10, r11, r12, r13, r14, r15, r16, r17, r18, r19, r20, r21, r22, r23, r24, r25, r26, r27, r28, r29, r30, A31, A32, A33, r34, r35, r36, r37, r38, r39, r40, r41, r42, r43, r44, r45, r46, r47, r48, r49, r50, r51, r52, r53, r54, r55, r56]
section
variable {K : Value → Heap → Prop} {H : Heap}
theorem c61o (hK : K (.string ⟨#[49]⟩) H) : SCalls Tryd.prog 61 [.string ⟨#[49]⟩, .int .i64 1] H K := by
  refine enter61 ?_
  repeat' ((conv => whnf); (first | exact Keep.all hK | refine New.mk (fun _ => ?_) | refine Look.at0 ?_ | refine Cell.row ?_ | refine Cell.buf ?_ | refine Cells.row rfl ?_ | refine Put.row rfl ?_ | refine Put.buf rfl ?_ | refine Look.at1 ?_ | refine Look.at2 ?_ | refine Look.at3 ?_ | refine Look.at4 ?_ | refine Look.at5 ?_ | refine Look.at6 ?_ | refine Look.at7 ?_ | refine Look.at8 ?_ | with_reducible refine Val.i64 (by omega) (by omega) ?_ | with_reducible refine Val.u8 (by omega) (by omega) ?_ | with_reducible refine Val.u32 (by omega) (by omega) ?_ | with_reducible refine Val.u64 (by omega) (by omega) ?_ | with_reducible refine Val.u8m ?_ | with_reducible refine Val.u32m ?_ | with_reducible refine Val.u64m ?_ | with_reducible refine Val.shr8 ?_ | with_reducible refine Val.shr16 (by decide) ?_ | with_reducible refine Val.shr24 (by decide) ?_ | with_reducible refine Val.raw ?_ | refine Branch.not ?_ | refine Branch.and ?_ | refine Branch.or ?_ | refine Branch.dt (by assumption) ?_ | refine Branch.df (by assumption) ?_ | refine Branch.dt rfl ?_ | refine Branch.dt (by omega) ?_ | refine Branch.df (by omega) ?_ | refine Branch.t rfl ?_ | refine Branch.f rfl ?_ | refine Branch.t (by assumption) ?_ | refine Branch.f (by assumption) ?_ | refine Branch.d (fun _ => ?_) (fun _ => ?_) | refine Branch.mk (fun _ => ?_) (fun _ => ?_) | refine Need.mk (by first | omega | decide | rfl) ?_ | refine Idx.nat (by omega) ?_ | refine Idx.auto (by first | omega | decide) (by first | omega | decide) ?_ | refine Cell.ro rfl ?_ | refine SDraw.all (by kernel_rfl) ?_ | refine Kept.k0 ?_ | refine Kept.k1 ?_ | refine Kept.k2 ?_ | refine Kept.k3 ?_ | refine Kept.k4 ?_))
/-- The least bit. -/
theorem min1 {c b w : UInt8} (hc : c = 48 ∨ c = 49) (hb : b = 48 ∨ b = 49) (hw : w = if b = 48 then 48 else c) : (if (b.toNat : Int) < (c.toNat : Int) then (b.toNat : Int) else (c.toNat : Int)) = (w.toNat : Int) := by
  subst hw
  rcases hc with rfl | rfl <;> rcases hb with rfl | rfl <;> rfl
theorem c48 {sv : Value} {bs : List UInt8} (hin : InS s1 1 sv H bs) (hne : bs ≠ []) (hB : ∀ b ∈ bs, isB b = true) (hK : K (.tuple ⟨[.string (strOf [wr1 bs]), .int .i64 0]⟩) H) : SCalls Tryd.prog 48 [sv] H K := by
  obtain ⟨sa, sc, rfl, hml⟩ := hin.sv
  have hml' : bs.length ≤ 9223372036854775807 := by simp only [maxLen] at hml; omega
  have hpos : 0 < bs.length := List.length_pos_iff.2 hne
  refine enter48 ?_
  repeat' ((conv => whnf); (first | refine New.mk (fun _ => ?_) | refine Look.at0 ?_ | refine Cell.row ?_ | refine Cell.buf ?_ | refine Cells.row rfl ?_ | refine Put.row rfl ?_ | refine Put.buf rfl ?_ | refine Look.at1 ?_ | refine Look.at2 ?_ | refine Look.at3 ?_ | refine Look.at4 ?_ | refine Look.at5 ?_ | refine Look.at6 ?_ | refine Look.at7 ?_ | refine Look.at8 ?_ | with_reducible refine Val.i64 (by omega) (by omega) ?_ | with_reducible refine Val.u8 (by omega) (by omega) ?_ | with_reducible refine Val.u32 (by omega) (by omega) ?_ | with_reducible refine Val.u64 (by omega) (by omega) ?_ | with_reducible refine Val.u8m ?_ | with_reducible refine Val.u32m ?_ | with_reducible refine Val.u64m ?_ | with_reducible refine Val.shr8 ?_ | with_reducible refine Val.shr16 (by decide) ?_ | with_reducible refine Val.shr24 (by decide) ?_ | with_reducible refine Val.raw ?_ | refine Branch.not ?_ | refine Branch.and ?_ | refine Branch.or ?_ | refine Branch.dt (by assumption) ?_ | refine Branch.df (by assumption) ?_ | refine Branch.dt rfl ?_ | refine Branch.dt (by omega) ?_ | refine Branch.df (by omega) ?_ | refine Branch.t rfl ?_ | refine Branch.f rfl ?_ | refine Branch.t (by assumption) ?_ | refine Branch.f (by assumption) ?_ | refine Branch.d (fun _ => ?_) (fun _ => ?_) | refine Branch.mk (fun _ => ?_) (fun _ => ?_) | refine Need.mk (by first | omega | decide | rfl) ?_ | refine Idx.nat (by omega) ?_ | refine Idx.auto (by first | omega | decide) (by first | omega | decide) ?_ | refine Cell.ro rfl ?_ | refine SDraw.all (by kernel_rfl) ?_ | refine Kept.k0 ?_ | refine Kept.k1 ?_ | refine Kept.k2 ?_ | refine Kept.k3 ?_ | refine Kept.k4 ?_))
  refine SLoop.invA (fun (j : Nat) S H' => j ≤ bs.length ∧ S48 (.slice sa bs.length sc) (.int .i64 (if j = 0 then 0 else 1)) (.slice sa bs.length sc) (.int .i64 (bs.length : Int)) (.int .i64 (j : Int)) S ∧ H' = H) (fun j => bs.length - j) 0 (Keep.all ⟨Nat.zero_le _, .mk, rfl⟩) ?_
  rintro j S H' ⟨hj, hS, rfl⟩ R hR
  cases hS
  by_cases hlt : j < bs.length
  · have hx := List.getElem?_eq_getElem hlt
    generalize bs[j] = b at hx
    have hbB := hB b (List.mem_of_getElem? hx)
    obtain ⟨ra, oa, ca, blk, e, hm, hc⟩ := hin.at1 hx rfl
    injection e with e _ _
    subst e
    have h38 : ∀ H (K2 : Value → Heap → Prop), K2 (.int .i64 0) H → SCalls Tryd.prog 38 [.string (strOf [b])] H K2 := fun H K2 hk => c38 (by rw [chk_one hbB]; exact hk)
    have hnext := fun S hS => hR (j + 1) S H' (by omega) (Keep.all ⟨hlt, hS, rfl⟩)
    rw [if_neg (by omega)] at hnext
    have hsz : ((strOf [b]).size : Int) = 1 := by rw [strOf_size]; rfl
    have hmx : ∀ (o : Oper) (xx yy : Operand) (K2 : Value → Heap → Prop), o.op = .call { callee := .builtin .max, args := #[xx, yy], argTypes := #[3, 3] } → K2 (.int .i64 1) H' → RawV Tryd.prog o [.int .i64 (if j = 0 then 0 else 1), .int .i64 1] H' K2 := fun o xx yy K2 ho hk =>
      RawV.max2 ho (by split <;> rfl) hk
    clear hR
    repeat' ((conv => whnf); (first | refine Branch.dt (by omega) ?_ | refine Look.cell hm hc ?_ | with_reducible refine h38 _ _ ?_ | with_reducible rw [hsz] | with_reducible refine hmx _ _ _ _ rfl ?_ | exact hnext _ .mk | refine New.mk (fun _ => ?_) | refine Look.at0 ?_ | refine Cell.row ?_ | refine Cell.buf ?_ | refine Cells.row rfl ?_ | refine Put.row rfl ?_ | refine Put.buf rfl ?_ | refine Look.at1 ?_ | refine Look.at2 ?_ | refine Look.at3 ?_ | refine Look.at4 ?_ | refine Look.at5 ?_ | refine Look.at6 ?_ | refine Look.at7 ?_ | refine Look.at8 ?_ | with_reducible refine Val.i64 (by omega) (by omega) ?_ | with_reducible refine Val.u8 (by omega) (by omega) ?_ | with_reducible refine Val.u32 (by omega) (by omega) ?_ | with_reducible refine Val.u64 (by omega) (by omega) ?_ | with_reducible refine Val.u8m ?_ | with_reducible refine Val.u32m ?_ | with_reducible refine Val.u64m ?_ | with_reducible refine Val.shr8 ?_ | with_reducible refine Val.shr16 (by decide) ?_ | with_reducible refine Val.shr24 (by decide) ?_ | with_reducible refine Val.raw ?_ | refine Branch.not ?_ | refine Branch.and ?_ | refine Branch.or ?_ | refine Branch.dt (by assumption) ?_ | refine Branch.df (by assumption) ?_ | refine Branch.dt rfl ?_ | refine Branch.dt (by omega) ?_ | refine Branch.df (by omega) ?_ | refine Branch.t rfl ?_ | refine Branch.f rfl ?_ | refine Branch.t (by assumption) ?_ | refine Branch.f (by assumption) ?_ | refine Branch.d (fun _ => ?_) (fun _ => ?_) | refine Branch.mk (fun _ => ?_) (fun _ => ?_) | refine Need.mk (by first | omega | decide | rfl) ?_ | refine Idx.nat (by omega) ?_ | refine Idx.auto (by first | omega | decide) (by first | omega | decide) ?_ | refine Cell.ro rfl ?_ | refine SDraw.all (by kernel_rfl) ?_ | refine Kept.k0 ?_ | refine Kept.k1 ?_ | refine Kept.k2 ?_ | refine Kept.k3 ?_ | refine Kept.k4 ?_))
  · obtain rfl : j = bs.length := by omega
    rw [if_neg (by omega)]
    clear hR
    repeat' ((conv => whnf); (first | refine Branch.df (by omega) ?_ | refine c61o ?_ | refine RawV.toBytes (e := 5) (l := [49]) rfl (by kernel_rfl) (by kernel_rfl) (by kernel_rfl) (by decide) (fun r cap z h1 h2 h3 => ?_) | refine New.mk (fun _ => ?_) | refine Look.at0 ?_ | refine Cell.row ?_ | refine Cell.buf ?_ | refine Cells.row rfl ?_ | refine Put.row rfl ?_ | refine Put.buf rfl ?_ | refine Look.at1 ?_ | refine Look.at2 ?_ | refine Look.at3 ?_ | refine Look.at4 ?_ | refine Look.at5 ?_ | refine Look.at6 ?_ | refine Look.at7 ?_ | refine Look.at8 ?_ | with_reducible refine Val.i64 (by omega) (by omega) ?_ | with_reducible refine Val.u8 (by omega) (by omega) ?_ | with_reducible refine Val.u32 (by omega) (by omega) ?_ | with_reducible refine Val.u64 (by omega) (by omega) ?_ | with_reducible refine Val.u8m ?_ | with_reducible refine Val.u32m ?_ | with_reducible refine Val.u64m ?_ | with_reducible refine Val.shr8 ?_ | with_reducible refine Val.shr16 (by decide) ?_ | with_reducible refine Val.shr24 (by decide) ?_ | with_reducible refine Val.raw ?_ | refine Branch.not ?_ | refine Branch.and ?_ | refine Branch.or ?_ | refine Branch.dt (by assumption) ?_ | refine Branch.df (by assumption) ?_ | refine Branch.dt rfl ?_ | refine Branch.dt (by omega) ?_ | refine Branch.df (by omega) ?_ | refine Branch.t rfl ?_ | refine Branch.f rfl ?_ | refine Branch.t (by assumption) ?_ | refine Branch.f (by assumption) ?_ | refine Branch.d (fun _ => ?_) (fun _ => ?_) | refine Branch.mk (fun _ => ?_) (fun _ => ?_) | refine Need.mk (by first | omega | decide | rfl) ?_ | refine Idx.nat (by omega) ?_ | refine Idx.auto (by first | omega | decide) (by first | omega | decide) ?_ | refine Cell.ro rfl ?_ | refine SDraw.all (by kernel_rfl) ?_ | refine Kept.k0 ?_ | refine Kept.k1 ?_ | refine Kept.k2 ?_ | refine Kept.k3 ?_ | refine Kept.k4 ?_))
    refine SLoop.invA (fun (j : Nat) S H2 => j ≤ bs.length ∧ T48 (.slice (some ⟨r, 0, none⟩) 1 cap) (.slice sa bs.length sc) (.int .i64 (bs.length : Int)) (.int .i64 (j : Int)) S ∧ H2 = (r, .row 5 (cel [wr1 (bs.take j)] ++ z) (cap, cap + 1)) :: H') (fun j => bs.length - j) 0 (Keep.all ⟨Nat.zero_le _, .mk, rfl⟩) ?_
    rintro j S H2 ⟨hj2, hS, rfl⟩ R hR
    cases hS
    by_cases hlt : j < bs.length
    · have hx := List.getElem?_eq_getElem hlt
      generalize bs[j] = b at hx
      have hbB := hB b (List.mem_of_getElem? hx)
      obtain ⟨ra, oa, ca, blk, e, hm, hc⟩ := hin.at1 hx rfl
      injection e with e _ _
      subst e
      have hsz : ((strOf [b]).size : Int) = 1 := by rw [strOf_size]; rfl
      have hsz2 : (strOf [b]).size = 1 := by rw [strOf_size]; rfl
      have hat : byteAt (strOf [b]) 0 = (b.toNat : Int) := byteAt_of rfl
      have htk : bs.take (j + 1) = bs.take j ++ [b] := by rw [List.take_add_one, hx]; rfl
      have hw := wr1_snoc (bs.take j) b
      have hmn : ∀ (o : Oper) (xx yy : Operand) H3 (K2 : Value → Heap → Prop), o.op = .call { callee := .builtin .min, args := #[xx, yy], argTypes := #[5, 5] } → K2 (.int .u8 ((wr1 (bs.take (j + 1))).toNat : Int)) H3 → RawV Tryd.prog o [.int .u8 ((wr1 (bs.take j)).toNat : Int), .int .u8 (b.toNat : Int)] H3 K2 := fun o xx yy H3 K2 ho hk =>
        RawV.min2 ho (min1 (wr1_or _) (bit_or hbB) (by rw [htk]; exact hw)) hk
      have hput := txt_put (l := [wr1 (bs.take j)]) (z := z) (cap := cap) (k := 0) (b := wr1 (bs.take (j + 1))) (Nat.zero_lt_one) (by rw [← h3]; simp [cel])
      have hcell : (Blk.row 5 (cel [wr1 (bs.take j)] ++ z) (cap, cap + 1)).cell (0 + 0 * 1) = some (.int .u8 ((wr1 (bs.take j)).toNat : Int)) := rfl
      have hnext := fun S hS => hR (j + 1) S _ (by omega) (Keep.all ⟨hlt, hS, rfl⟩)
      have hm2 : ∀ B, (ra, blk) ∈ (r, B) :: H' := fun B => .tail _ hm
      clear hR
      generalize wr1 (bs.take j) = c at *
      generalize wr1 (bs.take (j + 1)) = c' at *
      repeat' ((conv => whnf); (first | refine Branch.dt (by omega) ?_ | refine Look.cell (hm2 _) hc ?_ | with_reducible rw [hsz] | refine New.mk (fun _ => ?_) | refine Look.at0 ?_ | refine Cell.row ?_ | refine Cell.buf ?_ | refine Cells.row rfl ?_ | refine Put.row rfl ?_ | refine Put.buf rfl ?_ | refine Look.at1 ?_ | refine Look.at2 ?_ | refine Look.at3 ?_ | refine Look.at4 ?_ | refine Look.at5 ?_ | refine Look.at6 ?_ | refine Look.at7 ?_ | refine Look.at8 ?_ | with_reducible refine Val.i64 (by omega) (by omega) ?_ | with_reducible refine Val.u8 (by omega) (by omega) ?_ | with_reducible refine Val.u32 (by omega) (by omega) ?_ | with_reducible refine Val.u64 (by omega) (by omega) ?_ | with_reducible refine Val.u8m ?_ | with_reducible refine Val.u32m ?_ | with_reducible refine Val.u64m ?_ | with_reducible refine Val.shr8 ?_ | with_reducible refine Val.shr16 (by decide) ?_ | with_reducible refine Val.shr24 (by decide) ?_ | with_reducible refine Val.raw ?_ | refine Branch.not ?_ | refine Branch.and ?_ | refine Branch.or ?_ | refine Branch.dt (by assumption) ?_ | refine Branch.df (by assumption) ?_ | refine Branch.dt rfl ?_ | refine Branch.dt (by omega) ?_ | refine Branch.df (by omega) ?_ | refine Branch.t rfl ?_ | refine Branch.f rfl ?_ | refine Branch.t (by assumption) ?_ | refine Branch.f (by assumption) ?_ | refine Branch.d (fun _ => ?_) (fun _ => ?_) | refine Branch.mk (fun _ => ?_) (fun _ => ?_) | refine Need.mk (by first | omega | decide | rfl) ?_ | refine Idx.nat (by omega) ?_ | refine Idx.auto (by first | omega | decide) (by first | omega | decide) ?_ | refine Cell.ro rfl ?_ | refine SDraw.all (by kernel_rfl) ?_ | refine Kept.k0 ?_ | refine Kept.k1 ?_ | refine Kept.k2 ?_ | refine Kept.k3 ?_ | refine Kept.k4 ?_))
      refine SLoop.round ?_
      repeat' ((conv => whnf); (first | refine Branch.dt (by omega) ?_ | refine SDraw.held (by kernel_rfl) [(r, .row 5 (cel [c] ++ z) (cap, cap + 1))] (.same (.head _) .nil) ?_ | refine Idx.of 0 rfl (by omega) ?_ | refine Look.cell (.head _) hcell ?_ | with_reducible rw [hat] | with_reducible refine hmn _ _ _ _ _ rfl ?_ | refine Kept.sub (List.Sublist.cons_cons _ (List.nil_sublist _)) ?_ | refine ⟨[], _, _, rfl, _, hput, appK_to ?_⟩ | refine New.mk (fun _ => ?_) | refine Look.at0 ?_ | refine Cell.row ?_ | refine Cell.buf ?_ | refine Cells.row rfl ?_ | refine Put.row rfl ?_ | refine Put.buf rfl ?_ | refine Look.at1 ?_ | refine Look.at2 ?_ | refine Look.at3 ?_ | refine Look.at4 ?_ | refine Look.at5 ?_ | refine Look.at6 ?_ | refine Look.at7 ?_ | refine Look.at8 ?_ | with_reducible refine Val.i64 (by omega) (by omega) ?_ | with_reducible refine Val.u8 (by omega) (by omega) ?_ | with_reducible refine Val.u32 (by omega) (by omega) ?_ | with_reducible refine Val.u64 (by omega) (by omega) ?_ | with_reducible refine Val.u8m ?_ | with_reducible refine Val.u32m ?_ | with_reducible refine Val.u64m ?_ | with_reducible refine Val.shr8 ?_ | with_reducible refine Val.shr16 (by decide) ?_ | with_reducible refine Val.shr24 (by decide) ?_ | with_reducible refine Val.raw ?_ | refine Branch.not ?_ | refine Branch.and ?_ | refine Branch.or ?_ | refine Branch.dt (by assumption) ?_ | refine Branch.df (by assumption) ?_ | refine Branch.dt rfl ?_ | refine Branch.dt (by omega) ?_ | refine Branch.df (by omega) ?_ | refine Branch.t rfl ?_ | refine Branch.f rfl ?_ | refine Branch.t (by assumption) ?_ | refine Branch.f (by assumption) ?_ | refine Branch.d (fun _ => ?_) (fun _ => ?_) | refine Branch.mk (fun _ => ?_) (fun _ => ?_) | refine Need.mk (by first | omega | decide | rfl) ?_ | refine Idx.nat (by omega) ?_ | refine Idx.auto (by first | omega | decide) (by first | omega | decide) ?_ | refine Cell.ro rfl ?_ | refine SDraw.all (by kernel_rfl) ?_ | refine Kept.k0 ?_ | refine Kept.k1 ?_ | refine Kept.k2 ?_ | refine Kept.k3 ?_ | refine Kept.k4 ?_))
      refine SLoop.round ?_
      repeat' ((conv => whnf); (first | refine Branch.df (by omega) ?_ | exact hnext _ .mk | refine New.mk (fun _ => ?_) | refine Look.at0 ?_ | refine Cell.row ?_ | refine Cell.buf ?_ | refine Cells.row rfl ?_ | refine Put.row rfl ?_ | refine Put.buf rfl ?_ | refine Look.at1 ?_ | refine Look.at2 ?_ | refine Look.at3 ?_ | refine Look.at4 ?_ | refine Look.at5 ?_ | refine Look.at6 ?_ | refine Look.at7 ?_ | refine Look.at8 ?_ | with_reducible refine Val.i64 (by omega) (by omega) ?_ | with_reducible refine Val.u8 (by omega) (by omega) ?_ | with_reducible refine Val.u32 (by omega) (by omega) ?_ | with_reducible refine Val.u64 (by omega) (by omega) ?_ | with_reducible refine Val.u8m ?_ | with_reducible refine Val.u32m ?_ | with_reducible refine Val.u64m ?_ | with_reducible refine Val.shr8 ?_ | with_reducible refine Val.shr16 (by decide) ?_ | with_reducible refine Val.shr24 (by decide) ?_ | with_reducible refine Val.raw ?_ | refine Branch.not ?_ | refine Branch.and ?_ | refine Branch.or ?_ | refine Branch.dt (by assumption) ?_ | refine Branch.df (by assumption) ?_ | refine Branch.dt rfl ?_ | refine Branch.dt (by omega) ?_ | refine Branch.df (by omega) ?_ | refine Branch.t rfl ?_ | refine Branch.f rfl ?_ | refine Branch.t (by assumption) ?_ | refine Branch.f (by assumption) ?_ | refine Branch.d (fun _ => ?_) (fun _ => ?_) | refine Branch.mk (fun _ => ?_) (fun _ => ?_) | refine Need.mk (by first | omega | decide | rfl) ?_ | refine Idx.nat (by omega) ?_ | refine Idx.auto (by first | omega | decide) (by first | omega | decide) ?_ | refine Cell.ro rfl ?_ | refine SDraw.all (by kernel_rfl) ?_ | refine Kept.k0 ?_ | refine Kept.k1 ?_ | refine Kept.k2 ?_ | refine Kept.k3 ?_ | refine Kept.k4 ?_))
    · obtain rfl : j = bs.length := by omega
      rw [List.take_length]
      clear hR
      have hstr : ∀ (o : Oper) (xx : Operand) (K2 : Value → Heap → Prop), o.op = .convert 48 9 xx → K2 (.string (strOf [wr1 bs])) ((r, .row 5 (cel [wr1 bs] ++ z) (cap, cap + 1)) :: H') → RawV Tryd.prog o [.slice (some ⟨r, 0, none⟩) 1 cap] ((r, .row 5 (cel [wr1 bs] ++ z) (cap, cap + 1)) :: H') K2 := fun o xx K2 ho hk =>
        RawV.toStr (e := 5) (l := [wr1 bs]) ho (by kernel_rfl) (by kernel_rfl) (by kernel_rfl) (.head _) rfl (fun k y hk => by
          match k, hk with
          | 0, hk => injection hk with hk; subst hk; rfl) hk
      repeat' ((conv => whnf); (first | refine Branch.df (by omega) ?_ | with_reducible refine hstr _ _ _ rfl ?_ | exact Keep.d1 hK | refine New.mk (fun _ => ?_) | refine Look.at0 ?_ | refine Cell.row ?_ | refine Cell.buf ?_ | refine Cells.row rfl ?_ | refine Put.row rfl ?_ | refine Put.buf rfl ?_ | refine Look.at1 ?_ | refine Look.at2 ?_ | refine Look.at3 ?_ | refine Look.at4 ?_ | refine Look.at5 ?_ | refine Look.at6 ?_ | refine Look.at7 ?_ | refine Look.at8 ?_ | with_reducible refine Val.i64 (by omega) (by omega) ?_ | with_reducible refine Val.u8 (by omega) (by omega) ?_ | with_reducible refine Val.u32 (by omega) (by omega) ?_ | with_reducible refine Val.u64 (by omega) (by omega) ?_ | with_reducible refine Val.u8m ?_ | with_reducible refine Val.u32m ?_ | with_reducible refine Val.u64m ?_ | with_reducible refine Val.shr8 ?_ | with_reducible refine Val.shr16 (by decide) ?_ | with_reducible refine Val.shr24 (by decide) ?_ | with_reducible refine Val.raw ?_ | refine Branch.not ?_ | refine Branch.and ?_ | refine Branch.or ?_ | refine Branch.dt (by assumption) ?_ | refine Branch.df (by assumption) ?_ | refine Branch.dt rfl ?_ | refine Branch.dt (by omega) ?_ | refine Branch.df (by omega) ?_ | refine Branch.t rfl ?_ | refine Branch.f rfl ?_ | refine Branch.t (by assumption) ?_ | refine Branch.f (by assumption) ?_ | refine Branch.d (fun _ => ?_) (fun _ => ?_) | refine Branch.mk (fun _ => ?_) (fun _ => ?_) | refine Need.mk (by first | omega | decide | rfl) ?_ | refine Idx.nat (by omega) ?_ | refine Idx.auto (by first | omega | decide) (by first | omega | decide) ?_ | refine Cell.ro rfl ?_ | refine SDraw.all (by kernel_rfl) ?_ | refine Kept.k0 ?_ | refine Kept.k1 ?_ | refine Kept.k2 ?_ | refine Kept.k3 ?_ | refine Kept.k4 ?_))
end
end Go.Proofs.YtledahfkpnbfcaaDoor

/- Layer 2: those that do not leave off at a place, by walks. -/
set_option linter.unusedVariables false
set_option linter.unusedSimpArgs false
set_option maxRecDepth 100000
set_option maxHeartbeats 4000000
namespace Go.Proofs.YtledahfkpnbfcaaDoor
open Sx
abbrev cN (n : Nat) : List Value := [.int .i64 (n : Int)]
theorem cN_len (n : Nat) : (cN n).length = 1 := rfl
theorem cN_one (n : Nat) : ∀ u ∈ cN n, u.oneCell' = true := fun u hu => by rw [List.mem_singleton.1 hu]; rfl
theorem s1_len (b : UInt8) : (s1 b).length = 1 := rfl
theorem s1_one (b : UInt8) : ∀ u ∈ s1 b, u.oneCell' = true := fun u hu => by rw [List.mem_singleton.1 hu]; rfl
/-- Which bits those have at a place that are left. -/
def bitsP (fs : List (List UInt8)) (left : List Nat) (p : Nat) : List UInt8 := left.map fun j => pb (fs.getD j []) p
theorem wire_bits (fs : List (List UInt8)) (left : List Nat) (p : Nat) : wr1 (bitsP fs left p) = wireB fs left p := by
  unfold wr1 bitsP wireB
  rw [List.any_map]
  rfl
inductive S25 (A0 A1 A2 A7 A8 : Value) : List Value → Prop
  | mk {r3 r4 r5 r6 r9 r10 r11 r12 r13 r14 r15 r16 r17 r18 r19 r20 r21 r22 r23 r24 r25 r26 r27 r28 r29 r30 r31 r32 r33 r34 r35 r36 r37 r38 r39 r40 r41 r42 r43 r44 r45 r46 r47 r48 r49 r50 r51 r52 r53 r54 r55 r56 r57 r58 r59 r60 r61 r62 r63 r64 r65 r66 r67 r68 r69 r70 r71 r72 r73 : Value} : S25 A0 A1 A2 A7 A8 [A0, A1, A2, r3, r4, r5, r6, A7, A8, r9, r10, r11, r12, r13, r14, r15, r16, r17, r18, r19, r20, r21, r22, r23, r24, r25, r26, r27, r28, r29, r30, r31, r32, r33, r34, r35, r36, r37, r38, r39, r40, r41, r42, r43, r44, r45, r46, r47, r48, r49, r50, r51, r52, r53, r54, r55, r56, r57, r58, r59, r60, r61, r62, r63, r64, r65, r66, r67, r68, r69, r70, r71, r72, r73]
inductive T25 (A1 A7 A11 A13 A14 : Value) : List Value → Prop
  | mk {r0 r2 r3 r4 r5 r6 r8 r9 r10 r12 r15 r16 r17 r18 r19 r20 r21 r22 r23 r24 r25 r26 r27 r28 r29 r30 r31 r32 r33 r34 r35 r36 r37 r38 r39 r40 r41 r42 r43 r44 r45 r46 r47 r48 r49 r50 r51 r52 r53 r54 r55 r56 r57 r58 r59 r60 r61 r62 r63 r64 r65 r66 r67 r68 r69 r70 r71 r72 r73 : Value} : T25 A1 A7 A11 A13 A14 [r0, A1, r2, r3, r4, r5, r6, A7, r8, r9, r10, A11, r12, A13, A14, r15, r16, r17, r18, r19, r20, r21, r22, r23, r24, r25, r26, r27, r28, r29, r30, r31, r32, r33, r34, r35, r36, r37, r38, r39, r40, r41, r42, r43, r44, r45, r46, r47, r48, r49, r50, r51, r52, r53, r54, r55, r56, r57, r58, r59, r60, r61, r62, r63, r64, r65, r66, r67, r68, r69, r70, r71, r72, r73]
section
variable {K : Value → Heap → Prop} {H : Heap} {L : List Fm} {left : List Nat} {p : Nat} {la ea : Option Addr} {lc ec : Nat}
theorem l25a {Q : Post} {S0 : List Value} {q : Nat} (hD : Db H) (hL : InS frC 12 (.slice la L.length lc) H L) (hE : InS cN 1 (.slice ea left.length ec) H left) (hok : ∀ x ∈ L, okF x = true) (hb : left.length * 16 ≤ 140737488355328) (hlt0 : ∀ j ∈ left, j < L.length) (hp : p < 32)
    (hS : S25 (.slice la L.length lc) (.slice ea left.length ec) (.int .i64 (p : Int)) (.slice (some ⟨q, 0, none⟩) 0 0) (.int .i64 0) S0)
    (hQ : ∀ S a c M, Grow s1 1 9 (.slice a left.length c) (bitsP (L.map fld) left p) M → S25 (.slice la L.length lc) (.slice ea left.length ec) (.int .i64 (p : Int)) (.slice a left.length c) (.int .i64 (left.length : Int)) S → Q (.exit 0) S (M ++ H)) :
    SLoop Tryd.prog X25_l1 Q S0 ((q, .row 9 [] (0, 0)) :: H) := by
  have hml : left.length ≤ 9223372036854775807 := by omega
  refine SLoop.toBuf (A := []) ?_
  refine SLoop.invA (fun (k : Nat) S H' => k ≤ left.length ∧ ∃ a c M, Grow s1 1 9 (.slice a k c) (bitsP (L.map fld) (left.take k) p) M ∧ S25 (.slice la L.length lc) (.slice ea left.length ec) (.int .i64 (p : Int)) (.slice a k c) (.int .i64 (k : Int)) S ∧ H' = M ++ H) (fun k => left.length - k) 0
    (Keep.all ⟨Nat.zero_le _, _, 0, _, .zero, hS, rfl⟩) ?_
  rintro k S H' ⟨hk, a, c, M, hG, hS, rfl⟩ R hR
  by_cases hlt : k < left.length
  · obtain ⟨j, hj, _, htk⟩ := list_at hlt
    have hjL := hlt0 j (List.mem_of_getElem? hj)
    obtain ⟨x, hx, _, _⟩ := list_at hjL
    have hxo := hok x (List.mem_of_getElem? hx)
    obtain ⟨hid, _, _⟩ := okF_bd hxo
    obtain ⟨lr, lo, lc2, lb, e1, hlb, hlcc⟩ := inS_at hL frC_len hx
    injection e1 with e1 _ e3
    subst e1 e3
    obtain ⟨er, eo, ec2, eb, e1, heb, hecc⟩ := inS_at hE cN_len hj
    injection e1 with e1 _ e3
    subst e1 e3
    have he0 := hecc 0 _ rfl
    have htl : (bitsP (L.map fld) (left.take k) p).length = k := by unfold bitsP; simp; omega
    have hbt : bitsP (L.map fld) (left.take (k + 1)) p = bitsP (L.map fld) (left.take k) p ++ [pb (fld x) p] := by
      unfold bitsP
      rw [htk, List.map_append]
      simp [List.getD_eq_getElem?_getD, hx]
    have happ : ∀ q (o : Oper) (xs xx : Operand) (K2 : Value → Heap → Prop), o.op = .call { callee := .builtin .append, args := #[xs, xx], argTypes := #[87, 87] } → (∀ a' c' M', Grow s1 1 9 (.slice a' (k + 1) c') (bitsP (L.map fld) (left.take (k + 1)) p) M' → K2 (.slice a' (k + 1) c') (M' ++ ((q, .row 9 (s1 (pb (fld x) p)) (0, 0)) :: H))) →
        RawV Tryd.prog o [.slice a k c, .slice (some ⟨q, 0, none⟩) 1 1] ((q, .row 9 (s1 (pb (fld x) p)) (0, 0)) :: (M ++ H)) K2 := by
      intro q o xs xx K2 ho hk2
      refine RawV.grow1 (A := [(q, .row 9 (s1 (pb (fld x) p)) (0, 0))]) (B := H) (x := pb (fld x) p) (bytes := 16) hG rfl (.head _) ho (by kernel_rfl) (by decide) s1_len (s1_one _) (by rw [htl]; simp only [maxLen]; omega) (by rw [htl]; omega) (fun a' c' M' g1 => ?_)
      rw [htl] at g1 ⊢
      exact hk2 a' c' M' (by rw [hbt]; exact g1)
    have hnext : ∀ S a' c' M' q, Grow s1 1 9 (.slice a' (k + 1) c') (bitsP (L.map fld) (left.take (k + 1)) p) M' → S25 (.slice (some ⟨lr, lo, none⟩) L.length lc) (.slice (some ⟨er, eo, none⟩) left.length ec) (.int .i64 (p : Int)) (.slice a' (k + 1) c') (.int .i64 ((k + 1 : Nat) : Int)) S → R S (M' ++ (q :: H)) := by
      intro S a' c' M' q g1 g2
      exact hR (k + 1) S _ (by omega) (Keep.glue [M', [q], H] [0, 1, 2] [0, 2] [1] (by decide) (by simp [glue]) ⟨hlt, a', c', M', g1, g2, by simp [glue]⟩)
    have h14 : ∀ (K2 : Value → Heap → Prop), K2 (.tuple ⟨[.string (strOf (fld x)), .int .i64 0]⟩) (M ++ H) → SCalls Tryd.prog 14 [frV x] (M ++ H) K2 := fun K2 hk => c14 hid (hD.mono fun p hp => List.mem_append_right _ hp) (by unfold fV; rw [if_pos hxo]; exact hk)
    have hsz : ((strOf (fld x)).size : Int) = ((fld x).length : Int) := by rw [strOf_size]
    have hsz2 : (strOf (fld x)).size = (fld x).length := strOf_size _
    have hfl : (fld x).length ≤ 32 := fldB_len x.id x.x x.r
    clear hR hQ hbt
    cases hS
    by_cases hpl : p < (fld x).length
    · have hcut : (strOf (fld x)).extract p (p + 1) = strOf [pb (fld x) p] := by
        rw [strOf_cut, show p + 1 - p = 1 by omega]
        have hb := List.getElem?_eq_getElem hpl
        have : pb (fld x) p = (fld x)[p] := by unfold pb; rw [List.getD_eq_getElem?_getD, hb]; rfl
        rw [this, List.drop_eq_getElem_cons hpl]
        rfl
      generalize pb (fld x) p = bb at *
      repeat' ((conv => whnf); (first | refine Branch.dt (by omega) ?_ | refine Look.cell (List.mem_append_right _ heb) he0 ?_ | refine Idx.nat hjL ?_ | refine Look.cells (List.mem_append_right _ hlb) rfl hlcc ?_ | with_reducible refine h14 _ ?_ | with_reducible rw [hsz] | refine Idx.of (p + 1) (by omega) (by omega) ?_ | refine Idx.of p rfl (by omega) ?_ | with_reducible rw [hcut] | with_reducible refine happ _ _ _ _ _ rfl (fun a' c' M' g1 => ?_) | exact hnext _ _ _ _ _ g1 .mk | refine New.mk (fun _ => ?_) | refine Look.at0 ?_ | refine Cell.row ?_ | refine Cell.buf ?_ | refine Cells.row rfl ?_ | refine Put.row rfl ?_ | refine Put.buf rfl ?_ | refine Look.at1 ?_ | refine Look.at2 ?_ | refine Look.at3 ?_ | refine Look.at4 ?_ | refine Look.at5 ?_ | refine Look.at6 ?_ | refine Look.at7 ?_ | refine Look.at8 ?_ | with_reducible refine Val.i64 (by omega) (by omega) ?_ | with_reducible refine Val.u8 (by omega) (by omega) ?_ | with_reducible refine Val.u32 (by omega) (by omega) ?_ | with_reducible refine Val.u64 (by omega) (by omega) ?_ | with_reducible refine Val.u8m ?_ | with_reducible refine Val.u32m ?_ | with_reducible refine Val.u64m ?_ | with_reducible refine Val.shr8 ?_ | with_reducible refine Val.shr16 (by decide) ?_ | with_reducible refine Val.shr24 (by decide) ?_ | with_reducible refine Val.raw ?_ | refine Branch.not ?_ | refine Branch.and ?_ | refine Branch.or ?_ | refine Branch.dt (by assumption) ?_ | refine Branch.df (by assumption) ?_ | refine Branch.dt rfl ?_ | refine Branch.dt (by omega) ?_ | refine Branch.df (by omega) ?_ | refine Branch.t rfl ?_ | refine Branch.f rfl ?_ | refine Branch.t (by assumption) ?_ | refine Branch.f (by assumption) ?_ | refine Branch.d (fun _ => ?_) (fun _ => ?_) | refine Branch.mk (fun _ => ?_) (fun _ => ?_) | refine Need.mk (by first | omega | decide | rfl) ?_ | refine Idx.nat (by omega) ?_ | refine Idx.auto (by first | omega | decide) (by first | omega | decide) ?_ | refine Cell.ro rfl ?_ | refine SDraw.all (by kernel_rfl) ?_ | refine Kept.k0 ?_ | refine Kept.k1 ?_ | refine Kept.k2 ?_ | refine Kept.k3 ?_ | refine Kept.k4 ?_))
    · have hpb : pb (fld x) p = 49 := by unfold pb; rw [List.getD_eq_getElem?_getD, List.getElem?_eq_none (by omega)]; rfl
      rw [hpb] at happ
      have happ2 : ∀ q (o : Oper) (xs xx : Operand) (K2 : Value → Heap → Prop), o.op = .call { callee := .builtin .append, args := #[xs, xx], argTypes := #[87, 87] } → (∀ a' c' M', Grow s1 1 9 (.slice a' (k + 1) c') (bitsP (L.map fld) (left.take (k + 1)) p) M' → K2 (.slice a' (k + 1) c') (M' ++ ((q, .row 9 [.string ⟨#[49]⟩] (0, 0)) :: H))) →
          RawV Tryd.prog o [.slice a k c, .slice (some ⟨q, 0, none⟩) 1 1] ((q, .row 9 [.string ⟨#[49]⟩] (0, 0)) :: (M ++ H)) K2 := happ
      clear happ
      repeat' ((conv => whnf); (first | refine Branch.dt (by omega) ?_ | refine Look.cell (List.mem_append_right _ heb) he0 ?_ | refine Idx.nat hjL ?_ | refine Look.cells (List.mem_append_right _ hlb) rfl hlcc ?_ | with_reducible refine h14 _ ?_ | with_reducible rw [hsz] | refine Branch.df (by omega) ?_ | with_reducible refine happ2 _ _ _ _ _ rfl (fun a' c' M' g1 => ?_) | exact hnext _ _ _ _ _ g1 .mk | refine New.mk (fun _ => ?_) | refine Look.at0 ?_ | refine Cell.row ?_ | refine Cell.buf ?_ | refine Cells.row rfl ?_ | refine Put.row rfl ?_ | refine Put.buf rfl ?_ | refine Look.at1 ?_ | refine Look.at2 ?_ | refine Look.at3 ?_ | refine Look.at4 ?_ | refine Look.at5 ?_ | refine Look.at6 ?_ | refine Look.at7 ?_ | refine Look.at8 ?_ | with_reducible refine Val.i64 (by omega) (by omega) ?_ | with_reducible refine Val.u8 (by omega) (by omega) ?_ | with_reducible refine Val.u32 (by omega) (by omega) ?_ | with_reducible refine Val.u64 (by omega) (by omega) ?_ | with_reducible refine Val.u8m ?_ | with_reducible refine Val.u32m ?_ | with_reducible refine Val.u64m ?_ | with_reducible refine Val.shr8 ?_ | with_reducible refine Val.shr16 (by decide) ?_ | with_reducible refine Val.shr24 (by decide) ?_ | with_reducible refine Val.raw ?_ | refine Branch.not ?_ | refine Branch.and ?_ | refine Branch.or ?_ | refine Branch.dt (by assumption) ?_ | refine Branch.df (by assumption) ?_ | refine Branch.dt rfl ?_ | refine Branch.dt (by omega) ?_ | refine Branch.df (by omega) ?_ | refine Branch.t rfl ?_ | refine Branch.f rfl ?_ | refine Branch.t (by assumption) ?_ | refine Branch.f (by assumption) ?_ | refine Branch.d (fun _ => ?_) (fun _ => ?_) | refine Branch.mk (fun _ => ?_) (fun _ => ?_) | refine Need.mk (by first | omega | decide | rfl) ?_ | refine Idx.nat (by omega) ?_ | refine Idx.auto (by first | omega | decide) (by first | omega | decide) ?_ | refine Cell.ro rfl ?_ | refine SDraw.all (by kernel_rfl) ?_ | refine Kept.k0 ?_ | refine Kept.k1 ?_ | refine Kept.k2 ?_ | refine Kept.k3 ?_ | refine Kept.k4 ?_))
  · obtain rfl : k = left.length := by omega
    have hq := hQ
    rw [List.take_length] at hG
    clear hR hQ
    cases hS
    repeat' ((conv => whnf); (first | refine Branch.df (by omega) ?_ | exact hq _ _ _ _ hG .mk | refine New.mk (fun _ => ?_) | refine Look.at0 ?_ | refine Cell.row ?_ | refine Cell.buf ?_ | refine Cells.row rfl ?_ | refine Put.row rfl ?_ | refine Put.buf rfl ?_ | refine Look.at1 ?_ | refine Look.at2 ?_ | refine Look.at3 ?_ | refine Look.at4 ?_ | refine Look.at5 ?_ | refine Look.at6 ?_ | refine Look.at7 ?_ | refine Look.at8 ?_ | with_reducible refine Val.i64 (by omega) (by omega) ?_ | with_reducible refine Val.u8 (by omega) (by omega) ?_ | with_reducible refine Val.u32 (by omega) (by omega) ?_ | with_reducible refine Val.u64 (by omega) (by omega) ?_ | with_reducible refine Val.u8m ?_ | with_reducible refine Val.u32m ?_ | with_reducible refine Val.u64m ?_ | with_reducible refine Val.shr8 ?_ | with_reducible refine Val.shr16 (by decide) ?_ | with_reducible refine Val.shr24 (by decide) ?_ | with_reducible refine Val.raw ?_ | refine Branch.not ?_ | refine Branch.and ?_ | refine Branch.or ?_ | refine Branch.dt (by assumption) ?_ | refine Branch.df (by assumption) ?_ | refine Branch.dt rfl ?_ | refine Branch.dt (by omega) ?_ | refine Branch.df (by omega) ?_ | refine Branch.t rfl ?_ | refine Branch.f rfl ?_ | refine Branch.t (by assumption) ?_ | refine Branch.f (by assumption) ?_ | refine Branch.d (fun _ => ?_) (fun _ => ?_) | refine Branch.mk (fun _ => ?_) (fun _ => ?_) | refine Need.mk (by first | omega | decide | rfl) ?_ | refine Idx.nat (by omega) ?_ | refine Idx.auto (by first | omega | decide) (by first | omega | decide) ?_ | refine Cell.ro rfl ?_ | refine SDraw.all (by kernel_rfl) ?_ | refine Kept.k0 ?_ | refine Kept.k1 ?_ | refine Kept.k2 ?_ | refine Kept.k3 ?_ | refine Kept.k4 ?_))
/-- Those that have the wire's bit, of the first k. -/
def keepP (fs : List (List UInt8)) (left : List Nat) (p : Nat) (w : UInt8) (k : Nat) : List Nat := (left.take k).filter fun j => pb (fs.getD j []) p == w
theorem l25b {Q : Post} {S0 : List Value} {q c0 : Nat} {a0 : Option Addr} {w : UInt8} {fs : List (List UInt8)} (hO : InS s1 1 (.slice a0 left.length c0) H (bitsP fs left p)) (hE : InS cN 1 (.slice ea left.length ec) H left) (hb : left.length * 16 ≤ 140737488355328)
    (hS : T25 (.slice ea left.length ec) (.slice a0 left.length c0) (.string (strOf [w])) (.slice (some ⟨q, 0, none⟩) 0 0) (.int .i64 0) S0)
    (hQ : ∀ S a c M, Grow cN 1 3 (.slice a (keepP fs left p w left.length).length c) (keepP fs left p w left.length) M → T25 (.slice ea left.length ec) (.slice a0 left.length c0) (.string (strOf [w])) (.slice a (keepP fs left p w left.length).length c) (.int .i64 (left.length : Int)) S → Q (.exit 2) S (M ++ H)) :
    SLoop Tryd.prog X25_l0 Q S0 ((q, .row 3 [] (0, 0)) :: H) := by
  have hml : left.length ≤ 9223372036854775807 := by omega
  refine SLoop.toBuf (A := []) ?_
  refine SLoop.invA (fun (k : Nat) S H' => k ≤ left.length ∧ ∃ a c M, Grow cN 1 3 (.slice a (keepP fs left p w k).length c) (keepP fs left p w k) M ∧ T25 (.slice ea left.length ec) (.slice a0 left.length c0) (.string (strOf [w])) (.slice a (keepP fs left p w k).length c) (.int .i64 (k : Int)) S ∧ H' = M ++ H) (fun k => left.length - k) 0
    (Keep.all ⟨Nat.zero_le _, _, 0, _, .zero, hS, rfl⟩) ?_
  rintro k S H' ⟨hk, a, c, M, hG, hS, rfl⟩ R hR
  by_cases hlt : k < left.length
  · obtain ⟨j, hj, _, htk⟩ := list_at hlt
    obtain ⟨er, eo, ec2, eb, e1, heb, hecc⟩ := inS_at hE cN_len hj
    injection e1 with e1 _ e3
    subst e1 e3
    have he0 := hecc 0 _ rfl
    have hbj : (bitsP fs left p)[k]? = some (pb (fs.getD j []) p) := by unfold bitsP; rw [List.getElem?_map, hj]; rfl
    have hbl : (bitsP fs left p).length = left.length := by unfold bitsP; simp
    obtain ⟨sr, so, sc2, sb, e1, hsb, hscc⟩ := inS_at hO s1_len hbj
    injection e1 with e1 _ e3
    subst e1 e3
    have hs0 := hscc 0 _ rfl
    have hkl : (keepP fs left p w k).length ≤ k := by
      unfold keepP
      have := List.length_filter_le (fun j => pb (fs.getD j []) p == w) (left.take k)
      rw [List.length_take] at this
      omega
    by_cases hw : pb (fs.getD j []) p = w
    · have hks : keepP fs left p w (k + 1) = keepP fs left p w k ++ [j] := by
        unfold keepP
        rw [htk, List.filter_append, List.filter_cons_of_pos (by show (pb (fs.getD j []) p == w) = true; rw [hw]; exact beq_self_eq_true _), List.filter_nil]
      have hst : strOf [pb (fs.getD j []) p] = strOf [w] := by rw [hw]
      have happ : ∀ q (o : Oper) (xs xx : Operand) (K2 : Value → Heap → Prop), o.op = .call { callee := .builtin .append, args := #[xs, xx], argTypes := #[45, 45] } → (∀ a' c' M', Grow cN 1 3 (.slice a' (keepP fs left p w (k + 1)).length c') (keepP fs left p w (k + 1)) M' → K2 (.slice a' (keepP fs left p w (k + 1)).length c') (M' ++ ((q, .row 3 (cN j) (0, 0)) :: H))) →
          RawV Tryd.prog o [.slice a (keepP fs left p w k).length c, .slice (some ⟨q, 0, none⟩) 1 1] ((q, .row 3 (cN j) (0, 0)) :: (M ++ H)) K2 := by
        intro q o xs xx K2 ho hk2
        refine RawV.grow1 (A := [(q, .row 3 (cN j) (0, 0))]) (B := H) (x := j) (bytes := 8) hG rfl (.head _) ho (by kernel_rfl) (by decide) cN_len (cN_one _) (by simp only [maxLen]; omega) (by omega) (fun a' c' M' g1 => ?_)
        have hl : (keepP fs left p w (k + 1)).length = (keepP fs left p w k).length + 1 := by rw [hks]; simp
        rw [← hl] at g1 ⊢
        exact hk2 a' c' M' (by rw [hks] at g1 ⊢; exact g1)
      have hnext : ∀ S a' c' M' q, Grow cN 1 3 (.slice a' (keepP fs left p w (k + 1)).length c') (keepP fs left p w (k + 1)) M' → T25 (.slice (some ⟨er, eo, none⟩) left.length ec) (.slice (some ⟨sr, so, none⟩) left.length c0) (.string (strOf [w])) (.slice a' (keepP fs left p w (k + 1)).length c') (.int .i64 ((k + 1 : Nat) : Int)) S → R S (M' ++ (q :: H)) := by
        intro S a' c' M' q g1 g2
        exact hR (k + 1) S _ (by omega) (Keep.glue [M', [q], H] [0, 1, 2] [0, 2] [1] (by decide) (by simp [glue]) ⟨hlt, a', c', M', g1, g2, by simp [glue]⟩)
      clear hR hQ hks
      cases hS
      repeat' ((conv => whnf); (first | refine Branch.dt (by omega) ?_ | refine Look.cell (List.mem_append_right _ hsb) hs0 ?_ | refine Branch.dt hst ?_ | refine Look.cell (List.mem_append_right _ heb) he0 ?_ | with_reducible refine happ _ _ _ _ _ rfl (fun a' c' M' g1 => ?_) | exact hnext _ _ _ _ _ g1 .mk | refine New.mk (fun _ => ?_) | refine Look.at0 ?_ | refine Cell.row ?_ | refine Cell.buf ?_ | refine Cells.row rfl ?_ | refine Put.row rfl ?_ | refine Put.buf rfl ?_ | refine Look.at1 ?_ | refine Look.at2 ?_ | refine Look.at3 ?_ | refine Look.at4 ?_ | refine Look.at5 ?_ | refine Look.at6 ?_ | refine Look.at7 ?_ | refine Look.at8 ?_ | with_reducible refine Val.i64 (by omega) (by omega) ?_ | with_reducible refine Val.u8 (by omega) (by omega) ?_ | with_reducible refine Val.u32 (by omega) (by omega) ?_ | with_reducible refine Val.u64 (by omega) (by omega) ?_ | with_reducible refine Val.u8m ?_ | with_reducible refine Val.u32m ?_ | with_reducible refine Val.u64m ?_ | with_reducible refine Val.shr8 ?_ | with_reducible refine Val.shr16 (by decide) ?_ | with_reducible refine Val.shr24 (by decide) ?_ | with_reducible refine Val.raw ?_ | refine Branch.not ?_ | refine Branch.and ?_ | refine Branch.or ?_ | refine Branch.dt (by assumption) ?_ | refine Branch.df (by assumption) ?_ | refine Branch.dt rfl ?_ | refine Branch.dt (by omega) ?_ | refine Branch.df (by omega) ?_ | refine Branch.t rfl ?_ | refine Branch.f rfl ?_ | refine Branch.t (by assumption) ?_ | refine Branch.f (by assumption) ?_ | refine Branch.d (fun _ => ?_) (fun _ => ?_) | refine Branch.mk (fun _ => ?_) (fun _ => ?_) | refine Need.mk (by first | omega | decide | rfl) ?_ | refine Idx.nat (by omega) ?_ | refine Idx.auto (by first | omega | decide) (by first | omega | decide) ?_ | refine Cell.ro rfl ?_ | refine SDraw.all (by kernel_rfl) ?_ | refine Kept.k0 ?_ | refine Kept.k1 ?_ | refine Kept.k2 ?_ | refine Kept.k3 ?_ | refine Kept.k4 ?_))
    · have hks : keepP fs left p w (k + 1) = keepP fs left p w k := by
        unfold keepP
        rw [htk, List.filter_append, List.filter_cons_of_neg (by show ¬ (pb (fs.getD j []) p == w) = true; rw [beq_iff_eq]; exact hw), List.filter_nil, List.append_nil]
      have hst : ¬ strOf [pb (fs.getD j []) p] = strOf [w] := fun e => hw (by have := strOf_inj e; injection this)
      have hnext : ∀ S, T25 (.slice (some ⟨er, eo, none⟩) left.length ec) (.slice (some ⟨sr, so, none⟩) left.length c0) (.string (strOf [w])) (.slice a (keepP fs left p w k).length c) (.int .i64 ((k + 1 : Nat) : Int)) S → R S (M ++ H) := fun S g2 =>
        hR (k + 1) S _ (by omega) (Keep.all ⟨hlt, a, c, M, by rw [hks]; exact hG, by rw [hks]; exact g2, rfl⟩)
      clear hR hQ hks
      cases hS
      repeat' ((conv => whnf); (first | refine Branch.dt (by omega) ?_ | refine Look.cell (List.mem_append_right _ hsb) hs0 ?_ | refine Branch.df hst ?_ | exact hnext _ .mk | refine New.mk (fun _ => ?_) | refine Look.at0 ?_ | refine Cell.row ?_ | refine Cell.buf ?_ | refine Cells.row rfl ?_ | refine Put.row rfl ?_ | refine Put.buf rfl ?_ | refine Look.at1 ?_ | refine Look.at2 ?_ | refine Look.at3 ?_ | refine Look.at4 ?_ | refine Look.at5 ?_ | refine Look.at6 ?_ | refine Look.at7 ?_ | refine Look.at8 ?_ | with_reducible refine Val.i64 (by omega) (by omega) ?_ | with_reducible refine Val.u8 (by omega) (by omega) ?_ | with_reducible refine Val.u32 (by omega) (by omega) ?_ | with_reducible refine Val.u64 (by omega) (by omega) ?_ | with_reducible refine Val.u8m ?_ | with_reducible refine Val.u32m ?_ | with_reducible refine Val.u64m ?_ | with_reducible refine Val.shr8 ?_ | with_reducible refine Val.shr16 (by decide) ?_ | with_reducible refine Val.shr24 (by decide) ?_ | with_reducible refine Val.raw ?_ | refine Branch.not ?_ | refine Branch.and ?_ | refine Branch.or ?_ | refine Branch.dt (by assumption) ?_ | refine Branch.df (by assumption) ?_ | refine Branch.dt rfl ?_ | refine Branch.dt (by omega) ?_ | refine Branch.df (by omega) ?_ | refine Branch.t rfl ?_ | refine Branch.f rfl ?_ | refine Branch.t (by assumption) ?_ | refine Branch.f (by assumption) ?_ | refine Branch.d (fun _ => ?_) (fun _ => ?_) | refine Branch.mk (fun _ => ?_) (fun _ => ?_) | refine Need.mk (by first | omega | decide | rfl) ?_ | refine Idx.nat (by omega) ?_ | refine Idx.auto (by first | omega | decide) (by first | omega | decide) ?_ | refine Cell.ro rfl ?_ | refine SDraw.all (by kernel_rfl) ?_ | refine Kept.k0 ?_ | refine Kept.k1 ?_ | refine Kept.k2 ?_ | refine Kept.k3 ?_ | refine Kept.k4 ?_))
  · obtain rfl : k = left.length := by omega
    have hq := hQ
    clear hR hQ
    cases hS
    repeat' ((conv => whnf); (first | refine Branch.df (by omega) ?_ | exact hq _ _ _ _ hG .mk | refine New.mk (fun _ => ?_) | refine Look.at0 ?_ | refine Cell.row ?_ | refine Cell.buf ?_ | refine Cells.row rfl ?_ | refine Put.row rfl ?_ | refine Put.buf rfl ?_ | refine Look.at1 ?_ | refine Look.at2 ?_ | refine Look.at3 ?_ | refine Look.at4 ?_ | refine Look.at5 ?_ | refine Look.at6 ?_ | refine Look.at7 ?_ | refine Look.at8 ?_ | with_reducible refine Val.i64 (by omega) (by omega) ?_ | with_reducible refine Val.u8 (by omega) (by omega) ?_ | with_reducible refine Val.u32 (by omega) (by omega) ?_ | with_reducible refine Val.u64 (by omega) (by omega) ?_ | with_reducible refine Val.u8m ?_ | with_reducible refine Val.u32m ?_ | with_reducible refine Val.u64m ?_ | with_reducible refine Val.shr8 ?_ | with_reducible refine Val.shr16 (by decide) ?_ | with_reducible refine Val.shr24 (by decide) ?_ | with_reducible refine Val.raw ?_ | refine Branch.not ?_ | refine Branch.and ?_ | refine Branch.or ?_ | refine Branch.dt (by assumption) ?_ | refine Branch.df (by assumption) ?_ | refine Branch.dt rfl ?_ | refine Branch.dt (by omega) ?_ | refine Branch.df (by omega) ?_ | refine Branch.t rfl ?_ | refine Branch.f rfl ?_ | refine Branch.t (by assumption) ?_ | refine Branch.f (by assumption) ?_ | refine Branch.d (fun _ => ?_) (fun _ => ?_) | refine Branch.mk (fun _ => ?_) (fun _ => ?_) | refine Need.mk (by first | omega | decide | rfl) ?_ | refine Idx.nat (by omega) ?_ | refine Idx.auto (by first | omega | decide) (by first | omega | decide) ?_ | refine Cell.ro rfl ?_ | refine SDraw.all (by kernel_rfl) ?_ | refine Kept.k0 ?_ | refine Kept.k1 ?_ | refine Kept.k2 ?_ | refine Kept.k3 ?_ | refine Kept.k4 ?_))
theorem c25 (hD : Db H) (hL : InS frC 12 (.slice la L.length lc) H L) (hE : InS cN 1 (.slice ea left.length ec) H left) (hok : ∀ x ∈ L, okF x = true) (hb : left.length * 16 ≤ 140737488355328) (hlt0 : ∀ j ∈ left, j < L.length) (hp : p < 32) (hne : left ≠ [])
    (hK : ∀ a c M, Grow cN 1 3 (.slice a (leavesP (L.map fld) left p).length c) (leavesP (L.map fld) left p) M → K (.slice a (leavesP (L.map fld) left p).length c) (M ++ H)) :
    SCalls Tryd.prog 25 [.slice la L.length lc, .slice ea left.length ec, .int .i64 (p : Int)] H K := by
  have hbB : ∀ b ∈ bitsP (L.map fld) left p, isB b = true := by
    intro b hb
    unfold bitsP at hb
    obtain ⟨j, hj, rfl⟩ := List.mem_map.1 hb
    have hjL := hlt0 j hj
    rw [fs_at hjL]
    rcases fld_bits L[j] p with h | h <;> rw [h] <;> rfl
  have hbne : bitsP (L.map fld) left p ≠ [] := fun e => hne (by unfold bitsP at e; simpa using e)
  have hbl : (bitsP (L.map fld) left p).length = left.length := by unfold bitsP; simp
  have hkp : keepP (L.map fld) left p (wr1 (bitsP (L.map fld) left p)) left.length = leavesP (L.map fld) left p := by
    unfold keepP leavesP
    rw [List.take_length, wire_bits]
  have h48 : ∀ a c M (K2 : Value → Heap → Prop), Grow s1 1 9 (.slice a left.length c) (bitsP (L.map fld) left p) M → K2 (.tuple ⟨[.string (strOf [wr1 (bitsP (L.map fld) left p)]), .int .i64 0]⟩) (M ++ H) → SCalls Tryd.prog 48 [.slice a left.length c] (M ++ H) K2 := fun a c M K2 hG hk =>
    c48 (hG.ins s1_len (fun p hp => List.mem_append_left _ hp)) hbne hbB hk
  have hl2 : ∀ {Q : Post} {S0 : List Value} {q c0 : Nat} {a0 : Option Addr} {M : Heap}, Grow s1 1 9 (.slice a0 left.length c0) (bitsP (L.map fld) left p) M → T25 (.slice ea left.length ec) (.slice a0 left.length c0) (.string (strOf [wr1 (bitsP (L.map fld) left p)])) (.slice (some ⟨q, 0, none⟩) 0 0) (.int .i64 0) S0 →
      (∀ S a c M2, Grow cN 1 3 (.slice a (leavesP (L.map fld) left p).length c) (leavesP (L.map fld) left p) M2 → T25 (.slice ea left.length ec) (.slice a0 left.length c0) (.string (strOf [wr1 (bitsP (L.map fld) left p)])) (.slice a (leavesP (L.map fld) left p).length c) (.int .i64 (left.length : Int)) S → Q (.exit 2) S (M2 ++ (M ++ H))) →
      SLoop Tryd.prog X25_l0 Q S0 ((q, .row 3 [] (0, 0)) :: (M ++ H)) := by
    intro Q S0 q c0 a0 M hG hS hQ
    have := l25b (Q := Q) (hG.ins s1_len (fun p hp => List.mem_append_left _ hp)) (hE.mono fun p hp => List.mem_append_right _ hp) hb hS (by rw [hkp]; exact hQ)
    exact this
  have hfin : ∀ a c (M M2 : Heap), Grow cN 1 3 (.slice a (leavesP (L.map fld) left p).length c) (leavesP (L.map fld) left p) M2 → Keep (M2 ++ (M ++ H)) fun H' => K (.slice a (leavesP (L.map fld) left p).length c) H' := fun a c M M2 hG => Keep.sub _ (List.Sublist.append (List.Sublist.refl _) (List.sublist_append_right _ _)) (hK a c M2 hG)
  refine enter25 ?_
  repeat' ((conv => whnf); (first | (refine l25a hD hL hE hok hb hlt0 hp .mk (fun S a c M hG hS => ?_); cases hS) | with_reducible refine h48 _ _ _ _ hG ?_ | (refine hl2 hG .mk (fun S a2 c2 M2 hG2 hS => ?_); cases hS) | exact hfin _ _ _ _ hG2 | refine New.mk (fun _ => ?_) | refine Look.at0 ?_ | refine Cell.row ?_ | refine Cell.buf ?_ | refine Cells.row rfl ?_ | refine Put.row rfl ?_ | refine Put.buf rfl ?_ | refine Look.at1 ?_ | refine Look.at2 ?_ | refine Look.at3 ?_ | refine Look.at4 ?_ | refine Look.at5 ?_ | refine Look.at6 ?_ | refine Look.at7 ?_ | refine Look.at8 ?_ | with_reducible refine Val.i64 (by omega) (by omega) ?_ | with_reducible refine Val.u8 (by omega) (by omega) ?_ | with_reducible refine Val.u32 (by omega) (by omega) ?_ | with_reducible refine Val.u64 (by omega) (by omega) ?_ | with_reducible refine Val.u8m ?_ | with_reducible refine Val.u32m ?_ | with_reducible refine Val.u64m ?_ | with_reducible refine Val.shr8 ?_ | with_reducible refine Val.shr16 (by decide) ?_ | with_reducible refine Val.shr24 (by decide) ?_ | with_reducible refine Val.raw ?_ | refine Branch.not ?_ | refine Branch.and ?_ | refine Branch.or ?_ | refine Branch.dt (by assumption) ?_ | refine Branch.df (by assumption) ?_ | refine Branch.dt rfl ?_ | refine Branch.dt (by omega) ?_ | refine Branch.df (by omega) ?_ | refine Branch.t rfl ?_ | refine Branch.f rfl ?_ | refine Branch.t (by assumption) ?_ | refine Branch.f (by assumption) ?_ | refine Branch.d (fun _ => ?_) (fun _ => ?_) | refine Branch.mk (fun _ => ?_) (fun _ => ?_) | refine Need.mk (by first | omega | decide | rfl) ?_ | refine Idx.nat (by omega) ?_ | refine Idx.auto (by first | omega | decide) (by first | omega | decide) ?_ | refine Cell.ro rfl ?_ | refine SDraw.all (by kernel_rfl) ?_ | refine Kept.k0 ?_ | refine Kept.k1 ?_ | refine Kept.k2 ?_ | refine Kept.k3 ?_ | refine Kept.k4 ?_))
end
end Go.Proofs.YtledahfkpnbfcaaDoor

/- Layer 2: the law on bits of a body that are turned about: by walks. -/
set_option linter.unusedVariables false
set_option linter.unusedSimpArgs false
set_option maxRecDepth 100000
set_option maxHeartbeats 4000000
namespace Go.Proofs.YtledahfkpnbfcaaDoor
open Sx
abbrev cB (b : UInt8) : List Value := [b8 b]
inductive S7 (A1 A7 A10 A11 A12 : Value) : List Value → Prop
  | mk {r0 r2 r3 r4 r5 r6 r8 r9 r13 r14 r15 r16 r17 r18 r19 r20 r21 r22 r23 r24 r25 r26 r27 r28 r29 r30 r31 r32 r33 r34 r35 r36 r37 r38 r39 r40 r41 r42 r43 r44 r45 r46 r47 r48 r49 r50 r51 r52 r53 r54 r55 r56 r57 r58 r59 r60 r61 r62 r63 r64 r65 r66 r67 r68 r69 r70 r71 r72 r73 r74 r75 r76 r77 r78 r79 r80 r81 r82 r83 r84 r85 r86 r87 r88 r89 r90 r91 r92 r93 r94 r95 r96 r97 r98 r99 r100 r101 r102 r103 r104 r105 r106 r107 r108 r109 r110 r111 r112 r113 r114 r115 r116 r117 r118 r119 r120 r121 r122 r123 : Value} : S7 A1 A7 A10 A11 A12 [r0, A1, r2, r3, r4, r5, r6, A7, r8, r9, A10, A11, A12, r13, r14, r15, r16, r17, r18, r19, r20, r21, r22, r23, r24, r25, r26, r27, r28, r29, r30, r31, r32, r33, r34, r35, r36, r37, r38, r39, r40, r41, r42, r43, r44, r45, r46, r47, r48, r49, r50, r51, r52, r53, r54, r55, r56, r57, r58, r59, r60, r61, r62, r63, r64, r65, r66, r67, r68, r69, r70, r71, r72, r73, r74, r75, r76, r77, r78, r79, r80, r81, r82, r83, r84, r85, r86, r87, r88, r89, r90, r91, r92, r93, r94, r95, r96, r97, r98, r99, r100, r101, r102, r103, r104, r105, r106, r107, r108, r109, r110, r111, r112, r113, r114, r115, r116, r117, r118, r119, r120, r121, r122, r123]
theorem syn_body (f : Fm) : syn (bodyB f) = 0 := syn_word (sumB f)
theorem syn_dec {y : List UInt8} : decide (syn y ≠ 0) = !decide ((crc (y.take (y.length - 15)) : Int) = (val (y.drop (y.length - 15)) : Int)) := by
  unfold syn
  by_cases h : crc (y.take (y.length - 15)) = val (y.drop (y.length - 15))
  · rw [h, Nat.xor_self]; simp
  · have h1 : ¬ crc (y.take (y.length - 15)) ^^^ val (y.drop (y.length - 15)) = 0 := fun e => h (xor_zero e)
    have h2 : ¬ (crc (y.take (y.length - 15)) : Int) = (val (y.drop (y.length - 15)) : Int) := by omega
    simp [h1, h2]
section
variable {H : Heap} {f : Fm}
theorem five_c {sv : Value} {l : List UInt8} (hD : Db H) (hf : f.id < 4294967296) (hin : InS cB 1 sv H l) : SCalls Tryd.prog 7 [frV f, sv] H fun v _ => v = .bool true := by
  have hD' : ∀ q : Nat × Blk, Db (q :: H) := fun q => hD.mono fun p hp => .tail _ hp
  have hD2 : ∀ q p : Nat × Blk, Db (q :: p :: H) := fun q p => hD.mono fun p hp => .tail _ (.tail _ hp)
  have h9 : ∀ (q : Nat × Blk) (K2 : Value → Heap → Prop), K2 (.bool true) (q :: H) → SCalls Tryd.prog 9 [] (q :: H) K2 := fun q K2 hk => c9 (hD' q) hk
  have h92 : ∀ (q p : Nat × Blk) (K2 : Value → Heap → Prop), K2 (.bool true) (q :: p :: H) → SCalls Tryd.prog 9 [] (q :: p :: H) K2 := fun q p K2 hk => c9 (hD2 q p) hk
  obtain ⟨sa, sc, rfl, hml⟩ := hin.sv
  have hml' : l.length ≤ 9223372036854775807 := by simp only [maxLen] at hml; omega
  refine enter7 ?_
  cases hok : okF f with
  | false =>
    have h16 : ∀ H (K2 : Value → Heap → Prop), K2 (.int .i64 1) H → SCalls Tryd.prog 16 [frV f] H K2 := fun H K2 hk => c16 hf (by unfold erF; rw [hok]; exact hk)
    have h17 : ∀ H (K2 : Value → Heap → Prop), K2 (.int .i64 1) H → SCalls Tryd.prog 17 [frV f] H K2 := fun H K2 hk => c17 (by unfold erF; rw [hok]; exact hk)
    repeat' ((conv => whnf); (first | with_reducible refine h16 _ _ ?_ | with_reducible refine h17 _ _ ?_ | with_reducible refine h9 _ _ ?_ | exact Keep.all rfl | refine New.mk (fun _ => ?_) | refine Look.at0 ?_ | refine Cell.row ?_ | refine Cell.buf ?_ | refine Cells.row rfl ?_ | refine Put.row rfl ?_ | refine Put.buf rfl ?_ | refine Look.at1 ?_ | refine Look.at2 ?_ | refine Look.at3 ?_ | refine Look.at4 ?_ | refine Look.at5 ?_ | refine Look.at6 ?_ | refine Look.at7 ?_ | refine Look.at8 ?_ | with_reducible refine Val.i64 (by omega) (by omega) ?_ | with_reducible refine Val.u8 (by omega) (by omega) ?_ | with_reducible refine Val.u32 (by omega) (by omega) ?_ | with_reducible refine Val.u64 (by omega) (by omega) ?_ | with_reducible refine Val.u8m ?_ | with_reducible refine Val.u32m ?_ | with_reducible refine Val.u64m ?_ | with_reducible refine Val.shr8 ?_ | with_reducible refine Val.shr16 (by decide) ?_ | with_reducible refine Val.shr24 (by decide) ?_ | with_reducible refine Val.raw ?_ | refine Branch.not ?_ | refine Branch.and ?_ | refine Branch.or ?_ | refine Branch.dt (by assumption) ?_ | refine Branch.df (by assumption) ?_ | refine Branch.dt rfl ?_ | refine Branch.dt (by omega) ?_ | refine Branch.df (by omega) ?_ | refine Branch.t rfl ?_ | refine Branch.f rfl ?_ | refine Branch.t (by assumption) ?_ | refine Branch.f (by assumption) ?_ | refine Branch.d (fun _ => ?_) (fun _ => ?_) | refine Branch.mk (fun _ => ?_) (fun _ => ?_) | refine Need.mk (by first | omega | decide | rfl) ?_ | refine Idx.nat (by omega) ?_ | refine Idx.auto (by first | omega | decide) (by first | omega | decide) ?_ | refine Cell.ro rfl ?_ | refine SDraw.all (by kernel_rfl) ?_ | refine Kept.k0 ?_ | refine Kept.k1 ?_ | refine Kept.k2 ?_ | refine Kept.k3 ?_ | refine Kept.k4 ?_))
  | true =>
    have h16 : ∀ H (K2 : Value → Heap → Prop), K2 (.int .i64 0) H → SCalls Tryd.prog 16 [frV f] H K2 := fun H K2 hk => c16 hf (by unfold erF; rw [hok]; exact hk)
    have h8 : ∀ (q : Nat × Blk) (K2 : Value → Heap → Prop), K2 (.tuple ⟨[.string (strOf (encB f true)), .int .i64 0]⟩) (q :: H) → SCalls Tryd.prog 8 [frV f, .bool true] (q :: H) K2 := fun q K2 hk => c8 hok (hD' q) hk
    have hen := encN_lt f
    have hsz0 : (strOf (encB f true)).size = encN f := by rw [strOf_size, encB_len]
    have hsz : ((strOf (encB f true)).size : Int) = (encN f : Int) := by rw [hsz0]
    have hol : (stf (bodyB f)).out.length = encN f - 10 := by unfold encN; omega
    have hcut : (strOf (encB f true)).extract 0 (encN f - 10) = strOf (stf (bodyB f)).out := by
      rw [strOf_cut, List.drop_zero]
      unfold encB
      rw [List.append_assoc, List.take_append_of_le_length (by omega), List.take_of_length_le (by omega)]
    have hoB := (stf_run (bodyB f) (bodyB_ok f)).2
    have h26 : ∀ H (K2 : Value → Heap → Prop), K2 (.tuple ⟨[.string (strOf (bodyB f)), .int .i64 ((stf (bodyB f)).out.length : Int), .int .i64 0]⟩) H → SCalls Tryd.prog 26 [.string (strOf (stf (bodyB f)).out)] H K2 := fun H K2 hk => c26 (chk_ok (by omega) hoB) (by rw [uns_stf (bodyB_ok f)]; exact hk)
    have hx0 := syn_body f
    have hxB := bodyB_ok f
    have hxl : 15 ≤ (bodyB f).length ∧ (bodyB f).length ≤ 118 := ⟨by unfold bodyB; rw [List.length_append, numB_len]; omega, bodyB_len f⟩
    have hxs : ((strOf (bodyB f)).size : Int) = ((bodyB f).length : Int) := by rw [strOf_size]
    generalize (stf (bodyB f)).out = out at *
    generalize bodyB f = x at *
    generalize encB f true = en at *
    obtain ⟨hx15, hx118⟩ := hxl
    repeat' ((conv => whnf); (first | with_reducible refine h16 _ _ ?_ | with_reducible refine h8 _ _ ?_ | with_reducible rw [hsz] | refine Idx.of (encN f - 10) (by omega) (by omega) ?_ | with_reducible rw [hcut] | with_reducible refine h26 _ _ ?_ | with_reducible rw [hxs] | refine Branch.df (by omega) ?_ | refine RawV.toBytes (e := 5) (l := x) rfl (by kernel_rfl) (by kernel_rfl) (by kernel_rfl) (by simp only [maxLen]; omega) (fun r cap z h1 h2 h3 => ?_) | refine New.mk (fun _ => ?_) | refine Look.at0 ?_ | refine Cell.row ?_ | refine Cell.buf ?_ | refine Cells.row rfl ?_ | refine Put.row rfl ?_ | refine Put.buf rfl ?_ | refine Look.at1 ?_ | refine Look.at2 ?_ | refine Look.at3 ?_ | refine Look.at4 ?_ | refine Look.at5 ?_ | refine Look.at6 ?_ | refine Look.at7 ?_ | refine Look.at8 ?_ | with_reducible refine Val.i64 (by omega) (by omega) ?_ | with_reducible refine Val.u8 (by omega) (by omega) ?_ | with_reducible refine Val.u32 (by omega) (by omega) ?_ | with_reducible refine Val.u64 (by omega) (by omega) ?_ | with_reducible refine Val.u8m ?_ | with_reducible refine Val.u32m ?_ | with_reducible refine Val.u64m ?_ | with_reducible refine Val.shr8 ?_ | with_reducible refine Val.shr16 (by decide) ?_ | with_reducible refine Val.shr24 (by decide) ?_ | with_reducible refine Val.raw ?_ | refine Branch.not ?_ | refine Branch.and ?_ | refine Branch.or ?_ | refine Branch.dt (by assumption) ?_ | refine Branch.df (by assumption) ?_ | refine Branch.dt rfl ?_ | refine Branch.dt (by omega) ?_ | refine Branch.df (by omega) ?_ | refine Branch.t rfl ?_ | refine Branch.f rfl ?_ | refine Branch.t (by assumption) ?_ | refine Branch.f (by assumption) ?_ | refine Branch.d (fun _ => ?_) (fun _ => ?_) | refine Branch.mk (fun _ => ?_) (fun _ => ?_) | refine Need.mk (by first | omega | decide | rfl) ?_ | refine Idx.nat (by omega) ?_ | refine Idx.auto (by first | omega | decide) (by first | omega | decide) ?_ | refine Cell.ro rfl ?_ | refine SDraw.all (by kernel_rfl) ?_ | refine Kept.k0 ?_ | refine Kept.k1 ?_ | refine Kept.k2 ?_ | refine Kept.k3 ?_ | refine Kept.k4 ?_))
    rename_i q0
    generalize hF : (q0, Blk.row 25 _ (0, 0)) = F
    refine SLoop.invA (fun (w : Nat × List Nat) S H' => w.1 ≤ l.length ∧ w.2.Nodup ∧ (∀ p ∈ w.2, p < x.length) ∧ w.2.length ≤ 5 ∧ S7 (.slice sa l.length sc) (.string (strOf x)) (.slice (some ⟨r, 0, none⟩) x.length cap) (.int .i64 (w.2.length : Int)) (.int .i64 (w.1 : Int)) S ∧ H' = (r, .row 5 (cel (fl x w.2) ++ z) (cap, cap + 1)) :: F :: H) (fun w => l.length - w.1) (0, []) (Keep.all ⟨Nat.zero_le _, List.nodup_nil, (fun p hp => by cases hp), Nat.zero_le _, .mk, by rw [fl_nil]⟩) ?_
    rintro ⟨j, ps⟩ S H' ⟨hj, hnd, hps, hp5, hS, rfl⟩ R hR
    dsimp only at hj hnd hps hp5 hS hR ⊢
    cases hS
    have hfl := fl_len x ps
    have hfB := fl_ok (ps := ps) hxB
    obtain ⟨yt, hyt⟩ : ∃ yt, yt = (fl x ps).take (x.length - 15) := ⟨_, rfl⟩
    obtain ⟨yd, hyd⟩ : ∃ yd, yd = (fl x ps).drop (x.length - 15) := ⟨_, rfl⟩
    have hytl : yt.length = x.length - 15 := by rw [hyt, List.length_take]; omega
    have hydl : yd.length = 15 := by rw [hyd, List.length_drop]; omega
    have hytc : ∀ (k : Nat) y, yt[k]? = some y → (Blk.row 5 (cel (fl x ps) ++ z) (cap, cap + 1)).cell (0 + k) = some (.int .u8 (y.toNat : Int)) := fun k y hk => by
      rw [hyt, List.getElem?_take] at hk
      split at hk
      · have := cel_at hk
        show (cel (fl x ps) ++ z)[0 + k]? = _
        rw [Nat.zero_add, List.getElem?_append_left (List.getElem?_eq_some_iff.1 this).1, this]
      · cases hk
    have hydc : ∀ (k : Nat) y, yd[k]? = some y → (Blk.row 5 (cel (fl x ps) ++ z) (cap, cap + 1)).cell (0 + (x.length - 15) * 1 + k) = some (.int .u8 (y.toNat : Int)) := fun k y hk => by
      rw [hyd, List.getElem?_drop] at hk
      have := cel_at hk
      show (cel (fl x ps) ++ z)[0 + (x.length - 15) * 1 + k]? = _
      rw [Nat.zero_add, Nat.mul_one, List.getElem?_append_left (List.getElem?_eq_some_iff.1 this).1, this]
    have k1 : chk yt = 0 := chk_ok (by omega) (fun b hb => hfB b (by rw [hyt] at hb; exact List.mem_of_mem_take hb))
    have k2 : chk yd = 0 := chk_ok (by omega) (fun b hb => hfB b (by rw [hyd] at hb; exact List.mem_of_mem_drop hb))
    have hcr := crc_lt yt
    have h27 : ∀ H (K : Value → Heap → Prop), K (.tuple ⟨[.int .u16 (crc yt : Int), .int .i64 0]⟩) H → SCalls Tryd.prog 27 [.string (strOf yt)] H K := fun H K hk => c27 (by unfold crcV; rw [if_pos k1, k1]; exact hk)
    have h28 : ∀ H (K : Value → Heap → Prop), K (.tuple ⟨[.int .u64 (val yd : Int), .int .i64 0]⟩) H → SCalls Tryd.prog 28 [.string (strOf yd)] H K := fun H K hk => c28 (by unfold valV; rw [if_pos k2, if_neg (show ¬ 64 < yd.length by omega)]; exact hk)
    have htold : ((!decide ((crc yt : Int) = (val yd : Int))) == decide ((0 : Int) < (ps.length : Int))) = true := by
      have h1 := five_told hx15 (by omega) hx0 hnd hps hp5
      rw [syn_dec, hfl, ← hyt, ← hyd] at h1
      rw [h1]
      have : decide ((0 : Int) < (ps.length : Int)) = decide (0 < ps.length) := by
        by_cases h : 0 < ps.length
        · rw [decide_eq_true h, decide_eq_true (by omega)]
        · rw [decide_eq_false h, decide_eq_false (by omega)]
      rw [this]
      cases decide (0 < ps.length) <;> rfl
    have hst1 : ∀ (o : Oper) (xx : Operand) (K2 : Value → Heap → Prop), o.op = .convert 48 9 xx → K2 (.string (strOf yt)) ((r, .row 5 (cel (fl x ps) ++ z) (cap, cap + 1)) :: F :: H) → RawV Tryd.prog o [.slice (some ⟨r, 0, none⟩) (x.length - 15) cap] ((r, .row 5 (cel (fl x ps) ++ z) (cap, cap + 1)) :: F :: H) K2 := fun o xx K2 ho hk =>
      RawV.toStr (e := 5) (l := yt) ho (by kernel_rfl) (by kernel_rfl) (by kernel_rfl) (.head _) hytl hytc hk
    have hst2 : ∀ (c : Nat) (o : Oper) (xx : Operand) (K2 : Value → Heap → Prop), o.op = .convert 48 9 xx → K2 (.string (strOf yd)) ((r, .row 5 (cel (fl x ps) ++ z) (cap, cap + 1)) :: F :: H) → RawV Tryd.prog o [.slice (some ⟨r, 0 + (x.length - 15) * 1, none⟩) (x.length - (x.length - 15)) c] ((r, .row 5 (cel (fl x ps) ++ z) (cap, cap + 1)) :: F :: H) K2 := fun c o xx K2 ho hk =>
      RawV.toStr (e := 5) (l := yd) ho (by kernel_rfl) (by kernel_rfl) (by kernel_rfl) (.head _) (by omega) hydc hk
    have hcap : ¬ cap = x.length - 15 := by omega
    by_cases hgo : j < l.length ∧ ps.length < 5
    · obtain ⟨hlt, hlt5⟩ := hgo
      have hx := List.getElem?_eq_getElem hlt
      generalize l[j] = a at hx
      obtain ⟨ra, oa, ca, b, e, hm, hc⟩ := hin.at1 hx rfl
      injection e with e _ _
      subst e
      obtain ⟨k, hk⟩ : ∃ k, a.toNat % x.length = k := ⟨_, rfl⟩
      have hkl : k < x.length := by rw [← hk]; exact Nat.mod_lt _ (by omega)
      have hy := List.getElem?_eq_getElem hkl
      generalize x[k] = y at hy
      have ha8 := u8_lt a
      have hyB := hxB y (List.mem_of_getElem? hy)
      have hat := byteAt_of hy
      have hyo := oth_n hyB
      have hyc := isB_cases hyB
      have hfa := fl_at (ps := ps) hy
      have hmod : ∀ K : Int → Prop, K (k : Int) → Val ((a.toNat : Int).tmod (x.length : Int)) K := fun K hk2 => Val.to _ (by rw [Int.tmod_eq_emod_of_nonneg (by omega), ← Int.natCast_emod, hk]) hk2
      have hcell : ∀ v : UInt8, (fl x ps)[k]? = some v → (Blk.row 5 (cel (fl x ps) ++ z) (cap, cap + 1)).cell (0 + k * 1) = some (.int .u8 (v.toNat : Int)) := fun v hv => by
        have := cel_at hv
        show (cel (fl x ps) ++ z)[0 + k * 1]? = _
        rw [Nat.zero_add, Nat.mul_one, List.getElem?_append_left (List.getElem?_eq_some_iff.1 this).1, this]
      have hx127 : ¬ (x.length : Int) = 0 := by omega
      have hm2 : (ra, b) ∈ (r, Blk.row 5 (cel (fl x ps) ++ z) (cap, cap + 1)) :: F :: H := .tail _ (.tail _ hm)
      by_cases hkp : k ∈ ps
      · rw [if_pos hkp] at hfa
        have hcell := hcell _ hfa
        have hne : ¬ ((oth y).toNat : Int) = (y.toNat : Int) := by omega
        have hnext : ∀ S, S7 (.slice (some ⟨ra, oa, none⟩) l.length sc) (.string (strOf x)) (.slice (some ⟨r, 0, none⟩) x.length cap) (.int .i64 (ps.length : Int)) (.int .i64 ((j + 1 : Nat) : Int)) S → R S ((r, .row 5 (cel (fl x ps) ++ z) (cap, cap + 1)) :: F :: H) := fun S hS => hR (j + 1, ps) _ _ (by show l.length - (j + 1) < l.length - j; omega) (Keep.all ⟨hlt, hnd, hps, hp5, hS, rfl⟩)
        clear hR hst1 hst2 h27 h28 hytc hydc
        repeat' ((conv => whnf); (first | refine Branch.dt (by omega) ?_ | refine Look.cell hm2 hc ?_ | refine Need.mk hx127 ?_ | with_reducible refine hmod _ ?_ | refine Idx.of k rfl (by omega) ?_ | refine Idx.of k rfl (by rw [strOf_size]; omega) ?_ | refine Look.cell (.head _) hcell ?_ | with_reducible rw [hat] | refine Branch.df hne ?_ | exact hnext _ .mk | refine New.mk (fun _ => ?_) | refine Look.at0 ?_ | refine Cell.row ?_ | refine Cell.buf ?_ | refine Cells.row rfl ?_ | refine Put.row rfl ?_ | refine Put.buf rfl ?_ | refine Look.at1 ?_ | refine Look.at2 ?_ | refine Look.at3 ?_ | refine Look.at4 ?_ | refine Look.at5 ?_ | refine Look.at6 ?_ | refine Look.at7 ?_ | refine Look.at8 ?_ | with_reducible refine Val.i64 (by omega) (by omega) ?_ | with_reducible refine Val.u8 (by omega) (by omega) ?_ | with_reducible refine Val.u32 (by omega) (by omega) ?_ | with_reducible refine Val.u64 (by omega) (by omega) ?_ | with_reducible refine Val.u8m ?_ | with_reducible refine Val.u32m ?_ | with_reducible refine Val.u64m ?_ | with_reducible refine Val.shr8 ?_ | with_reducible refine Val.shr16 (by decide) ?_ | with_reducible refine Val.shr24 (by decide) ?_ | with_reducible refine Val.raw ?_ | refine Branch.not ?_ | refine Branch.and ?_ | refine Branch.or ?_ | refine Branch.dt (by assumption) ?_ | refine Branch.df (by assumption) ?_ | refine Branch.dt rfl ?_ | refine Branch.dt (by omega) ?_ | refine Branch.df (by omega) ?_ | refine Branch.t rfl ?_ | refine Branch.f rfl ?_ | refine Branch.t (by assumption) ?_ | refine Branch.f (by assumption) ?_ | refine Branch.d (fun _ => ?_) (fun _ => ?_) | refine Branch.mk (fun _ => ?_) (fun _ => ?_) | refine Need.mk (by first | omega | decide | rfl) ?_ | refine Idx.nat (by omega) ?_ | refine Idx.auto (by first | omega | decide) (by first | omega | decide) ?_ | refine Cell.ro rfl ?_ | refine SDraw.all (by kernel_rfl) ?_ | refine Kept.k0 ?_ | refine Kept.k1 ?_ | refine Kept.k2 ?_ | refine Kept.k3 ?_ | refine Kept.k4 ?_))
      · rw [if_neg hkp] at hfa
        have hcell := hcell _ hfa
        have hput := txt_put (l := fl x ps) (z := z) (cap := cap) (k := k) (b := oth y) (by omega) (by rw [← h3, List.length_append, List.length_append, cel_len, cel_len, hfl])
        rw [fl_cons hy] at hput
        have h97 : ∀ K : Int → Prop, K ((oth y).toNat : Int) → Val (IntKind.u8.wrap (97 - (y.toNat : Int))) K := fun K hk2 => Val.to _ (by rw [wrap_u8]; omega) hk2
        have hnext : ∀ S, S7 (.slice (some ⟨ra, oa, none⟩) l.length sc) (.string (strOf x)) (.slice (some ⟨r, 0, none⟩) x.length cap) (.int .i64 ((ps.length : Int) + 1)) (.int .i64 ((j + 1 : Nat) : Int)) S → R S ((r, .row 5 (cel (fl x (k :: ps)) ++ z) (cap, cap + 1)) :: F :: H) := fun S hS => hR (j + 1, k :: ps) _ _ (by show l.length - (j + 1) < l.length - j; omega) (Keep.all ⟨hlt, List.nodup_cons.2 ⟨hkp, hnd⟩, (fun q hq => by
          rcases List.mem_cons.1 hq with rfl | hq
          · exact hkl
          · exact hps q hq), by show ps.length + 1 ≤ 5; omega, hS, rfl⟩)
        clear hR hst1 hst2 h27 h28 hytc hydc
        repeat' ((conv => whnf); (first | refine Branch.dt (by omega) ?_ | refine Look.cell hm2 hc ?_ | refine Need.mk hx127 ?_ | with_reducible refine hmod _ ?_ | refine Idx.of k rfl (by omega) ?_ | refine Idx.of k rfl (by rw [strOf_size]; omega) ?_ | refine Look.cell (.head _) hcell ?_ | with_reducible rw [hat] | refine Branch.dt rfl ?_ | with_reducible refine h97 _ ?_ | refine ⟨[], _, _, rfl, _, hput, appK_to ?_⟩ | exact hnext _ .mk | refine New.mk (fun _ => ?_) | refine Look.at0 ?_ | refine Cell.row ?_ | refine Cell.buf ?_ | refine Cells.row rfl ?_ | refine Put.row rfl ?_ | refine Put.buf rfl ?_ | refine Look.at1 ?_ | refine Look.at2 ?_ | refine Look.at3 ?_ | refine Look.at4 ?_ | refine Look.at5 ?_ | refine Look.at6 ?_ | refine Look.at7 ?_ | refine Look.at8 ?_ | with_reducible refine Val.i64 (by omega) (by omega) ?_ | with_reducible refine Val.u8 (by omega) (by omega) ?_ | with_reducible refine Val.u32 (by omega) (by omega) ?_ | with_reducible refine Val.u64 (by omega) (by omega) ?_ | with_reducible refine Val.u8m ?_ | with_reducible refine Val.u32m ?_ | with_reducible refine Val.u64m ?_ | with_reducible refine Val.shr8 ?_ | with_reducible refine Val.shr16 (by decide) ?_ | with_reducible refine Val.shr24 (by decide) ?_ | with_reducible refine Val.raw ?_ | refine Branch.not ?_ | refine Branch.and ?_ | refine Branch.or ?_ | refine Branch.dt (by assumption) ?_ | refine Branch.df (by assumption) ?_ | refine Branch.dt rfl ?_ | refine Branch.dt (by omega) ?_ | refine Branch.df (by omega) ?_ | refine Branch.t rfl ?_ | refine Branch.f rfl ?_ | refine Branch.t (by assumption) ?_ | refine Branch.f (by assumption) ?_ | refine Branch.d (fun _ => ?_) (fun _ => ?_) | refine Branch.mk (fun _ => ?_) (fun _ => ?_) | refine Need.mk (by first | omega | decide | rfl) ?_ | refine Idx.nat (by omega) ?_ | refine Idx.auto (by first | omega | decide) (by first | omega | decide) ?_ | refine Cell.ro rfl ?_ | refine SDraw.all (by kernel_rfl) ?_ | refine Kept.k0 ?_ | refine Kept.k1 ?_ | refine Kept.k2 ?_ | refine Kept.k3 ?_ | refine Kept.k4 ?_))
    · have hgo2 : ¬ j < l.length ∨ ¬ ps.length < 5 := by omega
      clear hR
      by_cases hlt : j < l.length
      · have h5 : ¬ ps.length < 5 := by omega
        repeat' ((conv => whnf); (first | refine Branch.dt (by omega) ?_ | refine Branch.df (by omega) ?_ | refine Idx.of (x.length - 15) (by omega) (by omega) ?_ | refine Branch.df hcap ?_ | refine hst1 _ _ _ rfl ?_ | refine hst2 _ _ _ _ rfl ?_ | with_reducible refine h27 _ _ ?_ | with_reducible refine h28 _ _ ?_ | with_reducible refine Val.u64 (by omega) (by omega) ?_ | refine Branch.t htold ?_ | with_reducible refine h92 _ _ _ ?_ | exact Keep.all rfl | refine New.mk (fun _ => ?_) | refine Look.at0 ?_ | refine Cell.row ?_ | refine Cell.buf ?_ | refine Cells.row rfl ?_ | refine Put.row rfl ?_ | refine Put.buf rfl ?_ | refine Look.at1 ?_ | refine Look.at2 ?_ | refine Look.at3 ?_ | refine Look.at4 ?_ | refine Look.at5 ?_ | refine Look.at6 ?_ | refine Look.at7 ?_ | refine Look.at8 ?_ | with_reducible refine Val.i64 (by omega) (by omega) ?_ | with_reducible refine Val.u8 (by omega) (by omega) ?_ | with_reducible refine Val.u32 (by omega) (by omega) ?_ | with_reducible refine Val.u64 (by omega) (by omega) ?_ | with_reducible refine Val.u8m ?_ | with_reducible refine Val.u32m ?_ | with_reducible refine Val.u64m ?_ | with_reducible refine Val.shr8 ?_ | with_reducible refine Val.shr16 (by decide) ?_ | with_reducible refine Val.shr24 (by decide) ?_ | with_reducible refine Val.raw ?_ | refine Branch.not ?_ | refine Branch.and ?_ | refine Branch.or ?_ | refine Branch.dt (by assumption) ?_ | refine Branch.df (by assumption) ?_ | refine Branch.dt rfl ?_ | refine Branch.dt (by omega) ?_ | refine Branch.df (by omega) ?_ | refine Branch.t rfl ?_ | refine Branch.f rfl ?_ | refine Branch.t (by assumption) ?_ | refine Branch.f (by assumption) ?_ | refine Branch.d (fun _ => ?_) (fun _ => ?_) | refine Branch.mk (fun _ => ?_) (fun _ => ?_) | refine Need.mk (by first | omega | decide | rfl) ?_ | refine Idx.nat (by omega) ?_ | refine Idx.auto (by first | omega | decide) (by first | omega | decide) ?_ | refine Cell.ro rfl ?_ | refine SDraw.all (by kernel_rfl) ?_ | refine Kept.k0 ?_ | refine Kept.k1 ?_ | refine Kept.k2 ?_ | refine Kept.k3 ?_ | refine Kept.k4 ?_))
      · repeat' ((conv => whnf); (first | refine Branch.df (by omega) ?_ | refine Idx.of (x.length - 15) (by omega) (by omega) ?_ | refine Branch.df hcap ?_ | refine hst1 _ _ _ rfl ?_ | refine hst2 _ _ _ _ rfl ?_ | with_reducible refine h27 _ _ ?_ | with_reducible refine h28 _ _ ?_ | with_reducible refine Val.u64 (by omega) (by omega) ?_ | refine Branch.t htold ?_ | with_reducible refine h92 _ _ _ ?_ | exact Keep.all rfl | refine New.mk (fun _ => ?_) | refine Look.at0 ?_ | refine Cell.row ?_ | refine Cell.buf ?_ | refine Cells.row rfl ?_ | refine Put.row rfl ?_ | refine Put.buf rfl ?_ | refine Look.at1 ?_ | refine Look.at2 ?_ | refine Look.at3 ?_ | refine Look.at4 ?_ | refine Look.at5 ?_ | refine Look.at6 ?_ | refine Look.at7 ?_ | refine Look.at8 ?_ | with_reducible refine Val.i64 (by omega) (by omega) ?_ | with_reducible refine Val.u8 (by omega) (by omega) ?_ | with_reducible refine Val.u32 (by omega) (by omega) ?_ | with_reducible refine Val.u64 (by omega) (by omega) ?_ | with_reducible refine Val.u8m ?_ | with_reducible refine Val.u32m ?_ | with_reducible refine Val.u64m ?_ | with_reducible refine Val.shr8 ?_ | with_reducible refine Val.shr16 (by decide) ?_ | with_reducible refine Val.shr24 (by decide) ?_ | with_reducible refine Val.raw ?_ | refine Branch.not ?_ | refine Branch.and ?_ | refine Branch.or ?_ | refine Branch.dt (by assumption) ?_ | refine Branch.df (by assumption) ?_ | refine Branch.dt rfl ?_ | refine Branch.dt (by omega) ?_ | refine Branch.df (by omega) ?_ | refine Branch.t rfl ?_ | refine Branch.f rfl ?_ | refine Branch.t (by assumption) ?_ | refine Branch.f (by assumption) ?_ | refine Branch.d (fun _ => ?_) (fun _ => ?_) | refine Branch.mk (fun _ => ?_) (fun _ => ?_) | refine Need.mk (by first | omega | decide | rfl) ?_ | refine Idx.nat (by omega) ?_ | refine Idx.auto (by first | omega | decide) (by first | omega | decide) ?_ | refine Cell.ro rfl ?_ | refine SDraw.all (by kernel_rfl) ?_ | refine Kept.k0 ?_ | refine Kept.k1 ?_ | refine Kept.k2 ?_ | refine Kept.k3 ?_ | refine Kept.k4 ?_))
end
theorem FrameFiveW (a0x0 : Int) (a0x1 : Bool) (a0x2 : Bool) (a0x3 : Int) (a0x4_0 : Int) (a0x4_1 : Int) (a0x4_2 : Int) (a0x4_3 : Int) (a0x4_4 : Int) (a0x4_5 : Int) (a0x4_6 : Int) (a0x4_7 : Int) (a1a : Option Addr) (a1l : Nat) (a1c : Nat) (w : World) (h0_0 : (Lit.int .u32 a0x0).wf = true) (h0_1 : (Lit.int .i64 a0x3).wf = true) (h0_2 : (Lit.int .u8 a0x4_0).wf = true) (h0_3 : (Lit.int .u8 a0x4_1).wf = true) (h0_4 : (Lit.int .u8 a0x4_2).wf = true) (h0_5 : (Lit.int .u8 a0x4_3).wf = true) (h0_6 : (Lit.int .u8 a0x4_4).wf = true) (h0_7 : (Lit.int .u8 a0x4_5).wf = true) (h0_8 : (Lit.int .u8 a0x4_6).wf = true) (h0_9 : (Lit.int .u8 a0x4_7).wf = true) (h1_0 : SliceAt 1 B5 R5 w a1a a1l a1c)
    (hL : laidMet Tryd.prog Rows.frameFiveRow.laid w) :
    Calls Tryd.prog 7 #[.agg #[.int .u32 a0x0, .bool a0x1, .bool a0x2, .int .i64 a0x3, .int .u8 a0x4_0, .int .u8 a0x4_1, .int .u8 a0x4_2, .int .u8 a0x4_3, .int .u8 a0x4_4, .int .u8 a0x4_5, .int .u8 a0x4_6, .int .u8 a0x4_7], .slice a1a a1l a1c] w fun e w' => e = .returned (.bool true) ∧ Go.RowKit.Below w.heap.size w w' := by
  obtain ⟨hD, hw, hx⟩ := db_of hL
  obtain ⟨f0, hf0, hfw0⟩ := frame_of (x := a0x1) (r := a0x2) h0_0 h0_1 h0_2 h0_3 h0_4 h0_5 h0_6 h0_7 h0_8 h0_9
  have hv0 : Value.agg #[.int .u32 a0x0, .bool a0x1, .bool a0x2, .int .i64 a0x3, .int .u8 a0x4_0, .int .u8 a0x4_1, .int .u8 a0x4_2, .int .u8 a0x4_3, .int .u8 a0x4_4, .int .u8 a0x4_5, .int .u8 a0x4_6, .int .u8 a0x4_7] = frV f0 := congrArg (fun l => Value.agg ⟨l⟩) hf0
  rw [hv0]
  obtain ⟨H, L, rfl, hin, _, hw2, x2⟩ := inS_of (f := cB) (Good := fun _ => True) h1_0 (by decide) (fun x => rfl) (fun cs hc => by
    obtain ⟨x, rfl, hx⟩ := hc
    obtain ⟨b, hb⟩ := u8_of hx
    exact ⟨b, by rw [hb], trivial⟩)
  exact (five_c (hD.mono fun p hp => List.mem_append_left _ hp) hfw0.1 (hin.mono fun p hp => List.mem_append_right _ hp)).fin w (Holds.join hw hw2 hx x2) (excl_join hx x2)
end Go.Proofs.YtledahfkpnbfcaaDoor

/- Layer 2: the law on which of several frames comes first: by walks. -/
set_option linter.unusedVariables false
set_option linter.unusedSimpArgs false
set_option maxRecDepth 100000
set_option maxHeartbeats 4000000
namespace Go.Proofs.YtledahfkpnbfcaaDoor
open Sx
theorem tlt_irr (a : List UInt8) : tlt a a = false := Hp.bl_irr a
/-- The first of several different fields is the least one. -/
theorem bstN_min (fs : List (List UInt8)) : ∀ (k : Nat), k ≤ fs.length → ∀ j, j < k → tlt (fs.getD j []) (fs.getD (bstN fs k) []) = false
  | 0, _, j, hj => by omega
  | k + 1, hk, j, hj => by
    have ih := bstN_min fs k (by omega)
    rw [bstN]
    cases h : tlt (fs.getD k []) (fs.getD (bstN fs k) []) with
    | true =>
      rw [if_pos rfl]
      by_cases hjk : j = k
      · subst hjk; exact tlt_irr _
      · have h1 := ih j (by omega)
        cases h2 : tlt (fs.getD j []) (fs.getD k []) with
        | false => rfl
        | true =>
          have h3 : tlt (fs.getD j []) (fs.getD (bstN fs k) []) = true := Hp.bl_trans _ _ _ h2 h
          rw [h1] at h3; cases h3
    | false =>
      rw [if_neg (by decide)]
      by_cases hjk : j = k
      · subst hjk; exact h
      · exact ih j (by omega)
theorem firstV_ok {L : List Fm} (h : (firstV L).2 = 0) : L ≠ [] ∧ L.all okF = true ∧ (L.map fld).Nodup ∧ firstV L = (bstN (L.map fld) L.length, 0) ∧ (firstV L).1 < L.length := by
  unfold firstV at h ⊢
  by_cases h1 : L = []
  · rw [if_pos h1] at h; cases h
  · rw [if_neg h1] at h ⊢
    by_cases h2 : L.all okF = false
    · rw [if_pos h2] at h; cases h
    · rw [if_neg h2] at h ⊢
      by_cases h3 : (L.map fld).Nodup
      · rw [if_pos h3]
        refine ⟨h1, by simpa using h2, h3, rfl, ?_⟩
        have := bstN_lt (L.map fld) L.length
        have : L.length ≠ 0 := fun e => h1 (List.length_eq_zero_iff.1 e)
        show bstN _ _ < _
        omega
      · rw [if_neg h3] at h; cases h
theorem left_zero {L : List Fm} {i : Nat} (hi : i < L.length) : LeftOk L i 0 (List.range L.length) :=
  ⟨List.mem_range.2 hi, List.nodup_range, fun j hj => List.mem_range.1 hj, fun _ _ q hq => absurd hq (Nat.not_lt_zero _)⟩
theorem left_le {fs : List (List UInt8)} {left : List Nat} {p : Nat} : (leavesP fs left p).length ≤ left.length := List.length_filter_le _ _
inductive S6 (A0 A7 A15 A16 : Value) : List Value → Prop
  | mk {r1 r2 r3 r4 r5 r6 r8 r9 r10 r11 r12 r13 r14 r17 r18 r19 r20 r21 r22 r23 r24 r25 r26 r27 r28 r29 r30 r31 r32 r33 r34 r35 r36 r37 r38 r39 r40 r41 r42 r43 r44 r45 r46 r47 r48 r49 r50 r51 r52 r53 r54 r55 r56 r57 r58 r59 r60 r61 r62 r63 r64 r65 r66 r67 r68 r69 r70 r71 r72 r73 r74 r75 r76 r77 r78 r79 r80 r81 r82 r83 r84 r85 r86 r87 r88 r89 r90 r91 r92 r93 r94 r95 r96 r97 r98 r99 : Value} : S6 A0 A7 A15 A16 [A0, r1, r2, r3, r4, r5, r6, A7, r8, r9, r10, r11, r12, r13, r14, A15, A16, r17, r18, r19, r20, r21, r22, r23, r24, r25, r26, r27, r28, r29, r30, r31, r32, r33, r34, r35, r36, r37, r38, r39, r40, r41, r42, r43, r44, r45, r46, r47, r48, r49, r50, r51, r52, r53, r54, r55, r56, r57, r58, r59, r60, r61, r62, r63, r64, r65, r66, r67, r68, r69, r70, r71, r72, r73, r74, r75, r76, r77, r78, r79, r80, r81, r82, r83, r84, r85, r86, r87, r88, r89, r90, r91, r92, r93, r94, r95, r96, r97, r98, r99]
inductive T6 (A0 A7 A15 A17 : Value) : List Value → Prop
  | mk {r1 r2 r3 r4 r5 r6 r8 r9 r10 r11 r12 r13 r14 r16 r18 r19 r20 r21 r22 r23 r24 r25 r26 r27 r28 r29 r30 r31 r32 r33 r34 r35 r36 r37 r38 r39 r40 r41 r42 r43 r44 r45 r46 r47 r48 r49 r50 r51 r52 r53 r54 r55 r56 r57 r58 r59 r60 r61 r62 r63 r64 r65 r66 r67 r68 r69 r70 r71 r72 r73 r74 r75 r76 r77 r78 r79 r80 r81 r82 r83 r84 r85 r86 r87 r88 r89 r90 r91 r92 r93 r94 r95 r96 r97 r98 r99 : Value} : T6 A0 A7 A15 A17 [A0, r1, r2, r3, r4, r5, r6, A7, r8, r9, r10, r11, r12, r13, r14, A15, r16, A17, r18, r19, r20, r21, r22, r23, r24, r25, r26, r27, r28, r29, r30, r31, r32, r33, r34, r35, r36, r37, r38, r39, r40, r41, r42, r43, r44, r45, r46, r47, r48, r49, r50, r51, r52, r53, r54, r55, r56, r57, r58, r59, r60, r61, r62, r63, r64, r65, r66, r67, r68, r69, r70, r71, r72, r73, r74, r75, r76, r77, r78, r79, r80, r81, r82, r83, r84, r85, r86, r87, r88, r89, r90, r91, r92, r93, r94, r95, r96, r97, r98, r99]
section
variable {K : Value → Heap → Prop} {H : Heap} {L : List Fm} {la : Option Addr} {lc : Nat} {iv : Value}
theorem l6a {Q : Post} {S0 : List Value} {q : Nat} (hb : L.length * 24 ≤ 140737488355328)
    (hS : S6 (.slice la L.length lc) iv (.slice (some ⟨q, 0, none⟩) 0 0) (.int .i64 0) S0)
    (hQ : ∀ S a c M, Grow cN 1 3 (.slice a L.length c) (List.range L.length) M → S6 (.slice la L.length lc) iv (.slice a L.length c) (.int .i64 (L.length : Int)) S → Q (.exit 0) S (M ++ H)) :
    SLoop Tryd.prog X6_l1 Q S0 ((q, .row 3 [] (0, 0)) :: H) := by
  have hml : L.length ≤ 9223372036854775807 := by omega
  refine SLoop.toBuf (A := []) ?_
  refine SLoop.invA (fun (k : Nat) S H' => k ≤ L.length ∧ ∃ a c M, Grow cN 1 3 (.slice a k c) (List.range k) M ∧ S6 (.slice la L.length lc) iv (.slice a k c) (.int .i64 (k : Int)) S ∧ H' = M ++ H) (fun k => L.length - k) 0
    (Keep.all ⟨Nat.zero_le _, _, 0, _, .zero, hS, rfl⟩) ?_
  rintro k S H' ⟨hk, a, c, M, hG, hS, rfl⟩ R hR
  by_cases hlt : k < L.length
  · have happ : ∀ q (o : Oper) (xs xx : Operand) (K2 : Value → Heap → Prop), o.op = .call { callee := .builtin .append, args := #[xs, xx], argTypes := #[45, 45] } → (∀ a' c' M', Grow cN 1 3 (.slice a' (k + 1) c') (List.range (k + 1)) M' → K2 (.slice a' (k + 1) c') (M' ++ ((q, .row 3 (cN k) (0, 0)) :: H))) →
        RawV Tryd.prog o [.slice a k c, .slice (some ⟨q, 0, none⟩) 1 1] ((q, .row 3 (cN k) (0, 0)) :: (M ++ H)) K2 := by
      intro q o xs xx K2 ho hk2
      refine RawV.grow1 (A := [(q, .row 3 (cN k) (0, 0))]) (B := H) (x := k) (bytes := 8) hG rfl (.head _) ho (by kernel_rfl) (by decide) cN_len (cN_one _) (by rw [List.length_range]; simp only [maxLen]; omega) (by rw [List.length_range]; omega) (fun a' c' M' g1 => ?_)
      rw [List.length_range] at g1 ⊢
      exact hk2 a' c' M' (by rw [List.range_succ]; exact g1)
    have hnext : ∀ S a' c' M' q, Grow cN 1 3 (.slice a' (k + 1) c') (List.range (k + 1)) M' → S6 (.slice la L.length lc) iv (.slice a' (k + 1) c') (.int .i64 ((k + 1 : Nat) : Int)) S → R S (M' ++ (q :: H)) := by
      intro S a' c' M' q g1 g2
      exact hR (k + 1) S _ (by omega) (Keep.glue [M', [q], H] [0, 1, 2] [0, 2] [1] (by decide) (by simp [glue]) ⟨hlt, a', c', M', g1, g2, by simp [glue]⟩)
    clear hR hQ
    cases hS
    repeat' ((conv => whnf); (first | refine Branch.dt (by omega) ?_ | with_reducible refine happ _ _ _ _ _ rfl (fun a' c' M' g1 => ?_) | exact hnext _ _ _ _ _ g1 .mk | refine New.mk (fun _ => ?_) | refine Look.at0 ?_ | refine Cell.row ?_ | refine Cell.buf ?_ | refine Cells.row rfl ?_ | refine Put.row rfl ?_ | refine Put.buf rfl ?_ | refine Look.at1 ?_ | refine Look.at2 ?_ | refine Look.at3 ?_ | refine Look.at4 ?_ | refine Look.at5 ?_ | refine Look.at6 ?_ | refine Look.at7 ?_ | refine Look.at8 ?_ | with_reducible refine Val.i64 (by omega) (by omega) ?_ | with_reducible refine Val.u8 (by omega) (by omega) ?_ | with_reducible refine Val.u32 (by omega) (by omega) ?_ | with_reducible refine Val.u64 (by omega) (by omega) ?_ | with_reducible refine Val.u8m ?_ | with_reducible refine Val.u32m ?_ | with_reducible refine Val.u64m ?_ | with_reducible refine Val.shr8 ?_ | with_reducible refine Val.shr16 (by decide) ?_ | with_reducible refine Val.shr24 (by decide) ?_ | with_reducible refine Val.raw ?_ | refine Branch.not ?_ | refine Branch.and ?_ | refine Branch.or ?_ | refine Branch.dt (by assumption) ?_ | refine Branch.df (by assumption) ?_ | refine Branch.dt rfl ?_ | refine Branch.dt (by omega) ?_ | refine Branch.df (by omega) ?_ | refine Branch.t rfl ?_ | refine Branch.f rfl ?_ | refine Branch.t (by assumption) ?_ | refine Branch.f (by assumption) ?_ | refine Branch.d (fun _ => ?_) (fun _ => ?_) | refine Branch.mk (fun _ => ?_) (fun _ => ?_) | refine Need.mk (by first | omega | decide | rfl) ?_ | refine Idx.nat (by omega) ?_ | refine Idx.auto (by first | omega | decide) (by first | omega | decide) ?_ | refine Cell.ro rfl ?_ | refine SDraw.all (by kernel_rfl) ?_ | refine Kept.k0 ?_ | refine Kept.k1 ?_ | refine Kept.k2 ?_ | refine Kept.k3 ?_ | refine Kept.k4 ?_))
  · obtain rfl : k = L.length := by omega
    have hq := hQ
    clear hR hQ
    cases hS
    repeat' ((conv => whnf); (first | refine Branch.df (by omega) ?_ | exact hq _ _ _ _ hG .mk | refine New.mk (fun _ => ?_) | refine Look.at0 ?_ | refine Cell.row ?_ | refine Cell.buf ?_ | refine Cells.row rfl ?_ | refine Put.row rfl ?_ | refine Put.buf rfl ?_ | refine Look.at1 ?_ | refine Look.at2 ?_ | refine Look.at3 ?_ | refine Look.at4 ?_ | refine Look.at5 ?_ | refine Look.at6 ?_ | refine Look.at7 ?_ | refine Look.at8 ?_ | with_reducible refine Val.i64 (by omega) (by omega) ?_ | with_reducible refine Val.u8 (by omega) (by omega) ?_ | with_reducible refine Val.u32 (by omega) (by omega) ?_ | with_reducible refine Val.u64 (by omega) (by omega) ?_ | with_reducible refine Val.u8m ?_ | with_reducible refine Val.u32m ?_ | with_reducible refine Val.u64m ?_ | with_reducible refine Val.shr8 ?_ | with_reducible refine Val.shr16 (by decide) ?_ | with_reducible refine Val.shr24 (by decide) ?_ | with_reducible refine Val.raw ?_ | refine Branch.not ?_ | refine Branch.and ?_ | refine Branch.or ?_ | refine Branch.dt (by assumption) ?_ | refine Branch.df (by assumption) ?_ | refine Branch.dt rfl ?_ | refine Branch.dt (by omega) ?_ | refine Branch.df (by omega) ?_ | refine Branch.t rfl ?_ | refine Branch.f rfl ?_ | refine Branch.t (by assumption) ?_ | refine Branch.f (by assumption) ?_ | refine Branch.d (fun _ => ?_) (fun _ => ?_) | refine Branch.mk (fun _ => ?_) (fun _ => ?_) | refine Need.mk (by first | omega | decide | rfl) ?_ | refine Idx.nat (by omega) ?_ | refine Idx.auto (by first | omega | decide) (by first | omega | decide) ?_ | refine Cell.ro rfl ?_ | refine SDraw.all (by kernel_rfl) ?_ | refine Kept.k0 ?_ | refine Kept.k1 ?_ | refine Kept.k2 ?_ | refine Kept.k3 ?_ | refine Kept.k4 ?_))
theorem l6b {Q : Post} {S0 : List Value} {c0 i : Nat} {a0 : Option Addr} {M0 : Heap} (hD : Db H) (hL : InS frC 12 (.slice la L.length lc) H L) (hok : ∀ x ∈ L, okF x = true) (hb : L.length * 24 ≤ 140737488355328) (hi : i < L.length)
    (hnd : (L.map fld).Nodup) (hmin : ∀ j, j < L.length → tlt ((L.map fld).getD j []) ((L.map fld).getD i []) = false) (hG : Grow cN 1 3 (.slice a0 L.length c0) (List.range L.length) M0)
    (hS : T6 (.slice la L.length lc) iv (.slice a0 L.length c0) (.int .i64 0) S0)
    (hQ : ∀ S a c M p, Grow cN 1 3 (.slice a 1 c) [i] M → T6 (.slice la L.length lc) iv (.slice a 1 c) (.int .i64 p) S → Q (.exit 2) S (M ++ H)) :
    SLoop Tryd.prog X6_l0 Q S0 (M0 ++ H) := by
  refine SLoop.invA (fun (w : Nat × List Nat) S H' => w.1 ≤ 32 ∧ w.2.length ≤ L.length ∧ LeftOk L i w.1 w.2 ∧ ∃ a c M, Grow cN 1 3 (.slice a w.2.length c) w.2 M ∧ T6 (.slice la L.length lc) iv (.slice a w.2.length c) (.int .i64 (w.1 : Int)) S ∧ H' = M ++ H) (fun w => 32 - w.1) (0, List.range L.length)
    (Keep.all ⟨Nat.zero_le _, by rw [List.length_range]; exact Nat.le_refl _, left_zero hi, a0, c0, M0, by rw [List.length_range]; exact hG, by rw [List.length_range]; exact hS, rfl⟩) ?_
  rintro ⟨p, left⟩ S H' ⟨hp, hll, hO, a, c, M, hG, hS, rfl⟩ R hR
  dsimp only at hp hll hO hG hS hR ⊢
  have hlm : left.length ≤ 9223372036854775807 := by omega
  by_cases hgo : p < 32 ∧ 1 < left.length
  · obtain ⟨hp32, hl1⟩ := hgo
    have hne : left ≠ [] := fun e => by rw [e] at hl1; simp at hl1
    have h25 : ∀ (K2 : Value → Heap → Prop), (∀ a' c' M2, Grow cN 1 3 (.slice a' (leavesP (L.map fld) left p).length c') (leavesP (L.map fld) left p) M2 → K2 (.slice a' (leavesP (L.map fld) left p).length c') (M2 ++ (M ++ H))) →
        SCalls Tryd.prog 25 [.slice la L.length lc, .slice a left.length c, .int .i64 (p : Int)] (M ++ H) K2 := fun K2 hk =>
      c25 (hD.mono fun p hp => List.mem_append_right _ hp) (hL.mono fun p hp => List.mem_append_right _ hp) (hG.ins cN_len (fun p hp => List.mem_append_left _ hp)) hok (by omega) hO.lt hp32 hne hk
    have hnext : ∀ S a' c' M2, Grow cN 1 3 (.slice a' (leavesP (L.map fld) left p).length c') (leavesP (L.map fld) left p) M2 → T6 (.slice la L.length lc) iv (.slice a' (leavesP (L.map fld) left p).length c') (.int .i64 ((p + 1 : Nat) : Int)) S → R S (M2 ++ (M ++ H)) := by
      intro S a' c' M2 g1 g2
      refine hR (p + 1, leavesP (L.map fld) left p) S _ (by show 32 - (p + 1) < 32 - p; omega) (Keep.sub _ (List.Sublist.append (List.Sublist.refl M2) (List.sublist_append_right M H)) ⟨hp32, Nat.le_trans left_le hll, hO.step hmin, a', c', M2, g1, g2, rfl⟩)
    clear hR hQ
    cases hS
    repeat' ((conv => whnf); (first | refine Branch.dt (by omega) ?_ | with_reducible refine h25 _ (fun a' c' M2 g1 => ?_) | exact hnext _ _ _ _ g1 .mk | refine New.mk (fun _ => ?_) | refine Look.at0 ?_ | refine Cell.row ?_ | refine Cell.buf ?_ | refine Cells.row rfl ?_ | refine Put.row rfl ?_ | refine Put.buf rfl ?_ | refine Look.at1 ?_ | refine Look.at2 ?_ | refine Look.at3 ?_ | refine Look.at4 ?_ | refine Look.at5 ?_ | refine Look.at6 ?_ | refine Look.at7 ?_ | refine Look.at8 ?_ | with_reducible refine Val.i64 (by omega) (by omega) ?_ | with_reducible refine Val.u8 (by omega) (by omega) ?_ | with_reducible refine Val.u32 (by omega) (by omega) ?_ | with_reducible refine Val.u64 (by omega) (by omega) ?_ | with_reducible refine Val.u8m ?_ | with_reducible refine Val.u32m ?_ | with_reducible refine Val.u64m ?_ | with_reducible refine Val.shr8 ?_ | with_reducible refine Val.shr16 (by decide) ?_ | with_reducible refine Val.shr24 (by decide) ?_ | with_reducible refine Val.raw ?_ | refine Branch.not ?_ | refine Branch.and ?_ | refine Branch.or ?_ | refine Branch.dt (by assumption) ?_ | refine Branch.df (by assumption) ?_ | refine Branch.dt rfl ?_ | refine Branch.dt (by omega) ?_ | refine Branch.df (by omega) ?_ | refine Branch.t rfl ?_ | refine Branch.f rfl ?_ | refine Branch.t (by assumption) ?_ | refine Branch.f (by assumption) ?_ | refine Branch.d (fun _ => ?_) (fun _ => ?_) | refine Branch.mk (fun _ => ?_) (fun _ => ?_) | refine Need.mk (by first | omega | decide | rfl) ?_ | refine Idx.nat (by omega) ?_ | refine Idx.auto (by first | omega | decide) (by first | omega | decide) ?_ | refine Cell.ro rfl ?_ | refine SDraw.all (by kernel_rfl) ?_ | refine Kept.k0 ?_ | refine Kept.k1 ?_ | refine Kept.k2 ?_ | refine Kept.k3 ?_ | refine Kept.k4 ?_))
  · have hone : left = [i] := by
      by_cases hp32 : 32 ≤ p
      · exact hO.full hp32 hnd
      · exact hO.one (by omega)
    have hq := hQ
    clear hR hQ
    subst hone
    have h1 : ¬ ((1 : Nat) : Int) > 1 := by decide
    cases hS
    by_cases hp32 : p < 32
    · repeat' ((conv => whnf); (first | refine Branch.dt (by omega) ?_ | refine Branch.df (by decide) ?_ | exact hq _ _ _ _ _ hG .mk | refine New.mk (fun _ => ?_) | refine Look.at0 ?_ | refine Cell.row ?_ | refine Cell.buf ?_ | refine Cells.row rfl ?_ | refine Put.row rfl ?_ | refine Put.buf rfl ?_ | refine Look.at1 ?_ | refine Look.at2 ?_ | refine Look.at3 ?_ | refine Look.at4 ?_ | refine Look.at5 ?_ | refine Look.at6 ?_ | refine Look.at7 ?_ | refine Look.at8 ?_ | with_reducible refine Val.i64 (by omega) (by omega) ?_ | with_reducible refine Val.u8 (by omega) (by omega) ?_ | with_reducible refine Val.u32 (by omega) (by omega) ?_ | with_reducible refine Val.u64 (by omega) (by omega) ?_ | with_reducible refine Val.u8m ?_ | with_reducible refine Val.u32m ?_ | with_reducible refine Val.u64m ?_ | with_reducible refine Val.shr8 ?_ | with_reducible refine Val.shr16 (by decide) ?_ | with_reducible refine Val.shr24 (by decide) ?_ | with_reducible refine Val.raw ?_ | refine Branch.not ?_ | refine Branch.and ?_ | refine Branch.or ?_ | refine Branch.dt (by assumption) ?_ | refine Branch.df (by assumption) ?_ | refine Branch.dt rfl ?_ | refine Branch.dt (by omega) ?_ | refine Branch.df (by omega) ?_ | refine Branch.t rfl ?_ | refine Branch.f rfl ?_ | refine Branch.t (by assumption) ?_ | refine Branch.f (by assumption) ?_ | refine Branch.d (fun _ => ?_) (fun _ => ?_) | refine Branch.mk (fun _ => ?_) (fun _ => ?_) | refine Need.mk (by first | omega | decide | rfl) ?_ | refine Idx.nat (by omega) ?_ | refine Idx.auto (by first | omega | decide) (by first | omega | decide) ?_ | refine Cell.ro rfl ?_ | refine SDraw.all (by kernel_rfl) ?_ | refine Kept.k0 ?_ | refine Kept.k1 ?_ | refine Kept.k2 ?_ | refine Kept.k3 ?_ | refine Kept.k4 ?_))
    · repeat' ((conv => whnf); (first | refine Branch.df (by omega) ?_ | exact hq _ _ _ _ _ hG .mk | refine New.mk (fun _ => ?_) | refine Look.at0 ?_ | refine Cell.row ?_ | refine Cell.buf ?_ | refine Cells.row rfl ?_ | refine Put.row rfl ?_ | refine Put.buf rfl ?_ | refine Look.at1 ?_ | refine Look.at2 ?_ | refine Look.at3 ?_ | refine Look.at4 ?_ | refine Look.at5 ?_ | refine Look.at6 ?_ | refine Look.at7 ?_ | refine Look.at8 ?_ | with_reducible refine Val.i64 (by omega) (by omega) ?_ | with_reducible refine Val.u8 (by omega) (by omega) ?_ | with_reducible refine Val.u32 (by omega) (by omega) ?_ | with_reducible refine Val.u64 (by omega) (by omega) ?_ | with_reducible refine Val.u8m ?_ | with_reducible refine Val.u32m ?_ | with_reducible refine Val.u64m ?_ | with_reducible refine Val.shr8 ?_ | with_reducible refine Val.shr16 (by decide) ?_ | with_reducible refine Val.shr24 (by decide) ?_ | with_reducible refine Val.raw ?_ | refine Branch.not ?_ | refine Branch.and ?_ | refine Branch.or ?_ | refine Branch.dt (by assumption) ?_ | refine Branch.df (by assumption) ?_ | refine Branch.dt rfl ?_ | refine Branch.dt (by omega) ?_ | refine Branch.df (by omega) ?_ | refine Branch.t rfl ?_ | refine Branch.f rfl ?_ | refine Branch.t (by assumption) ?_ | refine Branch.f (by assumption) ?_ | refine Branch.d (fun _ => ?_) (fun _ => ?_) | refine Branch.mk (fun _ => ?_) (fun _ => ?_) | refine Need.mk (by first | omega | decide | rfl) ?_ | refine Idx.nat (by omega) ?_ | refine Idx.auto (by first | omega | decide) (by first | omega | decide) ?_ | refine Cell.ro rfl ?_ | refine SDraw.all (by kernel_rfl) ?_ | refine Kept.k0 ?_ | refine Kept.k1 ?_ | refine Kept.k2 ?_ | refine Kept.k3 ?_ | refine Kept.k4 ?_))
theorem first_c {n : Int} {x : Bool} {sv : Value} (hD : Db H) (hin : InS frC 12 sv H L) (hwf : ∀ f ∈ L, f.id < 4294967296) (hb : L.length * 24 ≤ 140737488355328) (h1 : -9223372036854775808 ≤ n) (h2 : n ≤ 9223372036854775807) :
    SCalls Tryd.prog 6 [sv, .int .i64 n, .bool x] H fun v _ => v = .bool true := by
  have hD' : ∀ q : Nat × Blk, Db (q :: H) := fun q => hD.mono fun p hp => .tail _ hp
  obtain ⟨sa, sc, rfl, hml⟩ := hin.sv
  have hcp : ∀ p (o : Oper) (xs xx : Operand) (K2 : Value → Heap → Prop), o.op = .call { callee := .builtin .append, args := #[xs, xx], argTypes := #[44, 44] } → (∀ q c, K2 (.slice (some ⟨q, 0, none⟩) L.length c) ((q, .buf 25 (L.flatMap frC) (c * 12)) :: H)) → RawV Tryd.prog o [.slice (some ⟨p, 0, none⟩) 0 0, .slice sa L.length sc] ((p, .row 25 [] (0, 0)) :: H) K2 :=
    fun p o xs xx K2 ho hk => RawV.copyS (bytes := 24) hin ho (by kernel_rfl) (by decide) frC_len frC_one hb (fun q c _ _ => hk q c)
  have h22 : ∀ q c (K2 : Value → Heap → Prop), K2 (.tuple ⟨[.int .i64 ((firstV L).1 : Int), .int .i64 (firstV L).2]⟩) ((q, .buf 25 (L.flatMap frC) (c * 12)) :: H) → SCalls Tryd.prog 22 [.slice (some ⟨q, 0, none⟩) L.length c] ((q, .buf 25 (L.flatMap frC) (c * 12)) :: H) K2 :=
    fun q c K2 hk => c22 (hD' _) (InS.buf (.head _) rfl frC_len hml) hwf hk
  have h23 : ∀ (q : Nat × Blk) (K2 : Value → Heap → Prop), K2 (.tuple ⟨[.int .i64 ((firstV L).1 : Int), .int .i64 (firstV L).2]⟩) (q :: H) → SCalls Tryd.prog 23 [.slice sa L.length sc] (q :: H) K2 := fun q K2 hk => c23 (hin.mono fun p hp => .tail _ hp) hk
  have h20 : ∀ H (K2 : Value → Heap → Prop), K2 (.tuple ⟨[.int .i64 (lonV n x).1, .int .i64 (lonV n x).2]⟩) H → SCalls Tryd.prog 20 [.int .i64 n, .bool x] H K2 := fun H K2 hk => c20 h1 h2 hk
  have h24 : ∀ H (K2 : Value → Heap → Prop), K2 (.tuple ⟨[.int .i64 (lonV n x).1, .int .i64 (lonV n x).2]⟩) H → SCalls Tryd.prog 24 [.int .i64 n, .bool x] H K2 := fun H K2 hk => c24 h1 h2 hk
  have h9 : ∀ (q : Nat × Blk) (K2 : Value → Heap → Prop), K2 (.bool true) (q :: H) → SCalls Tryd.prog 9 [] (q :: H) K2 := fun q K2 hk => c9 (hD' q) hk
  generalize (lonV n x).1 = y1 at *
  generalize (lonV n x).2 = y2 at *
  refine enter6 ?_
  by_cases h0 : (firstV L).2 = 0
  · obtain ⟨hne, hall, hnd, hfv, hil⟩ := firstV_ok h0
    rw [h0] at h22 h23
    have hok : ∀ x ∈ L, okF x = true := List.all_eq_true.1 hall
    have hmin : ∀ j, j < L.length → tlt ((L.map fld).getD j []) ((L.map fld).getD (firstV L).1 []) = false := fun j hj => by
      rw [hfv]
      exact bstN_min (L.map fld) L.length (by simp) j hj
    generalize (firstV L).1 = i at *
    have hl1 : ∀ {Q : Post} {S0 : List Value} {q : Nat} {z : Nat × Blk}, S6 (.slice sa L.length sc) (.int .i64 (i : Int)) (.slice (some ⟨q, 0, none⟩) 0 0) (.int .i64 0) S0 →
        (∀ S a c M, Grow cN 1 3 (.slice a L.length c) (List.range L.length) M → S6 (.slice sa L.length sc) (.int .i64 (i : Int)) (.slice a L.length c) (.int .i64 (L.length : Int)) S → Q (.exit 0) S (M ++ (z :: H))) → SLoop Tryd.prog X6_l1 Q S0 ((q, .row 3 [] (0, 0)) :: z :: H) := fun hS hQ => l6a hb hS hQ
    have hl2 : ∀ {Q : Post} {S0 : List Value} {c0 : Nat} {a0 : Option Addr} {M0 : Heap} {z : Nat × Blk}, Grow cN 1 3 (.slice a0 L.length c0) (List.range L.length) M0 → T6 (.slice sa L.length sc) (.int .i64 (i : Int)) (.slice a0 L.length c0) (.int .i64 0) S0 →
        (∀ S a c M p, Grow cN 1 3 (.slice a 1 c) [i] M → T6 (.slice sa L.length sc) (.int .i64 (i : Int)) (.slice a 1 c) (.int .i64 p) S → Q (.exit 2) S (M ++ (z :: H))) → SLoop Tryd.prog X6_l0 Q S0 (M0 ++ (z :: H)) := fun hG hS hQ =>
      l6b (hD' _) (hin.mono fun p hp => .tail _ hp) hok hb hil hnd hmin hG hS hQ
    have h9b : ∀ (M : Heap) (z : Nat × Blk) (K2 : Value → Heap → Prop), K2 (.bool true) (M ++ (z :: H)) → SCalls Tryd.prog 9 [] (M ++ (z :: H)) K2 := fun M z K2 hk => c9 (hD.mono fun p hp => List.mem_append_right _ (.tail _ hp)) hk
    have hg1 : ∀ {a : Option Addr} {c : Nat} {M : Heap}, Grow cN 1 3 (.slice a 1 c) [i] M → ∃ q, a = some ⟨q, 0, none⟩ ∧ M = [(q, .buf 3 ([i].flatMap cN) (c * 1))] := fun hG => by
      obtain ⟨q, e1, _, _, _, e2⟩ := hG.inv (by simp)
      exact ⟨q, e1, e2⟩
    have hcell : ∀ c, (Blk.buf 3 ([i].flatMap cN) (c * 1)).cell (0 + 0 * 1) = some (.int .i64 (i : Int)) := fun c => rfl
    clear hmin hwf hall hfv hok h0
    repeat' ((conv => whnf); (first | refine hcp _ _ _ _ _ rfl (fun q c => ?_) | with_reducible refine h22 _ _ _ ?_ | with_reducible refine h23 _ _ ?_ | with_reducible refine h20 _ _ ?_ | with_reducible refine h24 _ _ ?_ | (refine hl1 .mk (fun S a c M hG hS => ?_); cases hS) | (refine hl2 hG .mk (fun S a2 c2 M2 p hG2 hS => ?_); cases hS; obtain ⟨q3, rfl, rfl⟩ := hg1 hG2) | refine Idx.of 0 rfl (by decide) ?_ | refine Look.cell (.head _) (hcell _) ?_ | with_reducible refine h9b _ _ _ ?_ | exact Keep.all rfl | refine New.mk (fun _ => ?_) | refine Look.at0 ?_ | refine Cell.row ?_ | refine Cell.buf ?_ | refine Cells.row rfl ?_ | refine Put.row rfl ?_ | refine Put.buf rfl ?_ | refine Look.at1 ?_ | refine Look.at2 ?_ | refine Look.at3 ?_ | refine Look.at4 ?_ | refine Look.at5 ?_ | refine Look.at6 ?_ | refine Look.at7 ?_ | refine Look.at8 ?_ | with_reducible refine Val.i64 (by omega) (by omega) ?_ | with_reducible refine Val.u8 (by omega) (by omega) ?_ | with_reducible refine Val.u32 (by omega) (by omega) ?_ | with_reducible refine Val.u64 (by omega) (by omega) ?_ | with_reducible refine Val.u8m ?_ | with_reducible refine Val.u32m ?_ | with_reducible refine Val.u64m ?_ | with_reducible refine Val.shr8 ?_ | with_reducible refine Val.shr16 (by decide) ?_ | with_reducible refine Val.shr24 (by decide) ?_ | with_reducible refine Val.raw ?_ | refine Branch.not ?_ | refine Branch.and ?_ | refine Branch.or ?_ | refine Branch.dt (by assumption) ?_ | refine Branch.df (by assumption) ?_ | refine Branch.dt rfl ?_ | refine Branch.dt (by omega) ?_ | refine Branch.df (by omega) ?_ | refine Branch.t rfl ?_ | refine Branch.f rfl ?_ | refine Branch.t (by assumption) ?_ | refine Branch.f (by assumption) ?_ | refine Branch.d (fun _ => ?_) (fun _ => ?_) | refine Branch.mk (fun _ => ?_) (fun _ => ?_) | refine Need.mk (by first | omega | decide | rfl) ?_ | refine Idx.nat (by omega) ?_ | refine Idx.auto (by first | omega | decide) (by first | omega | decide) ?_ | refine Cell.ro rfl ?_ | refine SDraw.all (by kernel_rfl) ?_ | refine Kept.k0 ?_ | refine Kept.k1 ?_ | refine Kept.k2 ?_ | refine Kept.k3 ?_ | refine Kept.k4 ?_))
  · generalize (firstV L).1 = v1 at *
    generalize (firstV L).2 = v2 at *
    repeat' ((conv => whnf); (first | refine hcp _ _ _ _ _ rfl (fun q c => ?_) | with_reducible refine h22 _ _ _ ?_ | with_reducible refine h23 _ _ ?_ | with_reducible refine h20 _ _ ?_ | with_reducible refine h24 _ _ ?_ | refine Branch.df h0 ?_ | with_reducible refine h9 _ _ ?_ | exact Keep.all rfl | refine New.mk (fun _ => ?_) | refine Look.at0 ?_ | refine Cell.row ?_ | refine Cell.buf ?_ | refine Cells.row rfl ?_ | refine Put.row rfl ?_ | refine Put.buf rfl ?_ | refine Look.at1 ?_ | refine Look.at2 ?_ | refine Look.at3 ?_ | refine Look.at4 ?_ | refine Look.at5 ?_ | refine Look.at6 ?_ | refine Look.at7 ?_ | refine Look.at8 ?_ | with_reducible refine Val.i64 (by omega) (by omega) ?_ | with_reducible refine Val.u8 (by omega) (by omega) ?_ | with_reducible refine Val.u32 (by omega) (by omega) ?_ | with_reducible refine Val.u64 (by omega) (by omega) ?_ | with_reducible refine Val.u8m ?_ | with_reducible refine Val.u32m ?_ | with_reducible refine Val.u64m ?_ | with_reducible refine Val.shr8 ?_ | with_reducible refine Val.shr16 (by decide) ?_ | with_reducible refine Val.shr24 (by decide) ?_ | with_reducible refine Val.raw ?_ | refine Branch.not ?_ | refine Branch.and ?_ | refine Branch.or ?_ | refine Branch.dt (by assumption) ?_ | refine Branch.df (by assumption) ?_ | refine Branch.dt rfl ?_ | refine Branch.dt (by omega) ?_ | refine Branch.df (by omega) ?_ | refine Branch.t rfl ?_ | refine Branch.f rfl ?_ | refine Branch.t (by assumption) ?_ | refine Branch.f (by assumption) ?_ | refine Branch.d (fun _ => ?_) (fun _ => ?_) | refine Branch.mk (fun _ => ?_) (fun _ => ?_) | refine Need.mk (by first | omega | decide | rfl) ?_ | refine Idx.nat (by omega) ?_ | refine Idx.auto (by first | omega | decide) (by first | omega | decide) ?_ | refine Cell.ro rfl ?_ | refine SDraw.all (by kernel_rfl) ?_ | refine Kept.k0 ?_ | refine Kept.k1 ?_ | refine Kept.k2 ?_ | refine Kept.k3 ?_ | refine Kept.k4 ?_))
end
theorem FrameFirstW (a0a : Option Addr) (a0l : Nat) (a0c : Nat) (a1 : Int) (a2 : Bool) (w : World) (h0_0 : SliceAt 12 B25 R25 w a0a a0l a0c) (h1_0 : (Lit.int .i64 a1).wf = true)
    (hL : laidMet Tryd.prog Rows.frameFirstRow.laid w) :
    Calls Tryd.prog 6 #[.slice a0a a0l a0c, .int .i64 a1, .bool a2] w fun e w' => e = .returned (.bool true) ∧ Go.RowKit.Below w.heap.size w w' := by
  obtain ⟨hD, hw, hx⟩ := db_of hL
  obtain ⟨H, L, rfl, hin, hwf, hw2, x2, hb⟩ := frames_of h0_0
  have e1 := wf_i64 h1_0
  exact (first_c (hD.mono fun p hp => List.mem_append_left _ hp) (hin.mono fun p hp => List.mem_append_right _ hp) (fun f hf => (hwf f hf).1) hb e1.1 e1.2).fin w (Holds.join hw hw2 hx x2) (excl_join hx x2)
end Go.Proofs.YtledahfkpnbfcaaDoor

