/- Layer 1: the document's stuffing: by walks. -/
import Derived.Test.YtijnjklofdmelaaDoorBMain
import Derived.Test.YtijnjklofdmelaaDoorRd
import Derived.Test.YtijnjklofdmelaaDoorBSx1
import Derived.Test.YtijnjklofdmelaaDoorTy

set_option linter.unusedVariables false
set_option linter.unusedSimpArgs false
set_option maxRecDepth 100000
set_option maxHeartbeats 4000000
namespace Go.Proofs.YtijnjklofdmelaaDoor
open Sx
inductive S17 (A0 A4 A5 A6 A7 : Value) : List Value → Prop
  | mk {r1 r2 r3 r8 r9 r10 r11 r12 r13 r14 r15 r16 r17 r18 r19 r20 r21 r22 r23 r24 r25 r26 r27 r28 r29 r30 r31 r32 r33 r34 r35 r36 r37 r38 r39 r40 r41 r42 r43 r44 r45 r46 r47 r48 r49 r50 r51 r52 r53 : Value} : S17 A0 A4 A5 A6 A7 [A0, r1, r2, r3, A4, A5, A6, A7, r8, r9, r10, r11, r12, r13, r14, r15, r16, r17, r18, r19, r20, r21, r22, r23, r24, r25, r26, r27, r28, r29, r30, r31, r32, r33, r34, r35, r36, r37, r38, r39, r40, r41, r42, r43, r44, r45, r46, r47, r48, r49, r50, r51, r52, r53]
section
variable {K : Value → Heap → Prop} {H : Heap}
theorem c17 {l : List UInt8} (h0 : chk l = 0) (hK : K (.tuple ⟨[.string (strOf (stf l).out), .int .i64 0]⟩) H) : SCalls Tryd.prog 17 [.string (strOf l)] H K := by
  refine enter17 ?_
  rcases chk_cases l with ⟨_, hl, hB⟩ | ⟨h0', _⟩
  · have h29 := fun (K : Value → Heap → Prop) (hk : K (.int .i64 0) H) => c29 (l := l) (K := K) (H := H) (by rw [h0]; exact hk)
    repeat' ((conv => whnf); (first
        | with_reducible refine h29 _ ?_
        | refine Branch.f rfl ?_
        | refine New.mk (fun _ => ?_)
        | refine Look.at0 ?_
        | refine Cell.row ?_
        | refine Cell.buf ?_
        | refine Cells.row rfl ?_
        | refine Put.row rfl ?_
        | refine Put.buf rfl ?_
        | refine Look.at1 ?_
        | refine Look.at2 ?_
        | refine Look.at3 ?_
        | refine Look.at4 ?_
        | refine Look.at5 ?_
        | refine Look.at6 ?_
        | refine Look.at7 ?_
        | refine Look.at8 ?_
        | with_reducible refine Val.i64 (by omega) (by omega) ?_
        | with_reducible refine Val.u8 (by omega) (by omega) ?_
        | with_reducible refine Val.u32 (by omega) (by omega) ?_
        | with_reducible refine Val.u64 (by omega) (by omega) ?_
        | with_reducible refine Val.u8m ?_
        | with_reducible refine Val.u32m ?_
        | with_reducible refine Val.u64m ?_
        | with_reducible refine Val.shr8 ?_
        | with_reducible refine Val.shr16 (by decide) ?_
        | with_reducible refine Val.shr24 (by decide) ?_
        | with_reducible refine Val.raw ?_
        | refine Branch.not ?_
        | refine Branch.and ?_
        | refine Branch.or ?_
        | refine Branch.dt (by assumption) ?_
        | refine Branch.df (by assumption) ?_
        | refine Branch.dt rfl ?_
        | refine Branch.dt (by omega) ?_
        | refine Branch.df (by omega) ?_
        | refine Branch.t rfl ?_
        | refine Branch.f rfl ?_
        | refine Branch.t (by assumption) ?_
        | refine Branch.f (by assumption) ?_
        | refine Branch.d (fun _ => ?_) (fun _ => ?_)
        | refine Branch.mk (fun _ => ?_) (fun _ => ?_)
        | refine Need.mk (by first | omega | decide | rfl) ?_
        | refine Idx.nat (by omega) ?_
        | refine Idx.auto (by first | omega | decide) (by first | omega | decide) ?_
        | refine Cell.ro rfl ?_
        | refine SDraw.all (by kernel_rfl) ?_
        | refine Kept.k0 ?_
        | refine Kept.k1 ?_
        | refine Kept.k2 ?_
        | refine Kept.k3 ?_
        | refine Kept.k4 ?_))
    rename_i p
    refine SLoop.toBuf (A := []) ?_
    refine SLoop.invA (fun (j : Nat) S H' => j ≤ l.length ∧ ∃ r cap, S17 (.string (strOf l)) (.int .i64 0) (.slice (some ⟨r, 0, none⟩) (stf (l.take j)).out.length cap) (.int .i64 ((stf (l.take j)).n : Int)) (.int .i64 (j : Int)) S ∧ (stf (l.take j)).out.length ≤ cap ∧ cap ≤ maxLen ∧ ∃ G, H' = bBuf r cap (stf (l.take j)).out :: G ∧ (H : Heap).Sublist G) (fun j => l.length - j) 0 (Keep.all ⟨Nat.zero_le _, p, 0, .mk, Nat.le_refl _, Nat.zero_le _, H, rfl, .refl _⟩) ?_
    rintro j S H' ⟨hj, r, cap, hS, hcap, hcm, G, rfl, hG⟩ R hR
    cases hS
    obtain ⟨k1, k2, k3⟩ := St.ok (l.take j)
    have k4 : (l.take j).length ≤ 65536 := by rw [List.length_take]; omega
    have hsz : (strOf l).size = l.length := strOf_size l
    by_cases hlt : j < l.length
    · have hx := List.getElem?_eq_getElem hlt
      generalize l[j] = c at hx
      have hat := byteAt_of hx
      have htk : l.take (j + 1) = l.take j ++ [c] := by rw [List.take_add_one, hx]; rfl
      have hcB := hB c (List.mem_of_getElem? hx)
      have hc0 : 0 < c.toNat := by rcases isB_cases hcB with ⟨h, _⟩ | ⟨h, _⟩ <;> omega
      have hoth := oth_n hcB
      have hnext : ∀ S r' cap' G', S17 (.string (strOf l)) (.int .i64 0) (.slice (some ⟨r', 0, none⟩) (St.step ⟨(stf (l.take j)).out, (stf (l.take j)).lv, (stf (l.take j)).n⟩ c).out.length cap') (.int .i64 ((St.step ⟨(stf (l.take j)).out, (stf (l.take j)).lv, (stf (l.take j)).n⟩ c).n : Int)) (.int .i64 ((j + 1 : Nat) : Int)) S →
          (St.step ⟨(stf (l.take j)).out, (stf (l.take j)).lv, (stf (l.take j)).n⟩ c).out.length ≤ cap' → cap' ≤ maxLen → (H : Heap).Sublist G' → R S (bBuf r' cap' (St.step ⟨(stf (l.take j)).out, (stf (l.take j)).lv, (stf (l.take j)).n⟩ c).out :: G') := fun S r' cap' G' hS h1 h2 h3 => hR (j + 1) _ _ (by omega) (Keep.all ⟨hlt, r', cap', by rw [htk, stf_snoc]; exact hS, by rw [htk, stf_snoc]; exact h1, h2, G', by rw [htk, stf_snoc], h3⟩)
      clear hR hK h29 htk
      generalize (stf (l.take j)).out = out at hcap hnext k2 k3
      generalize (stf (l.take j)).lv = lv at hnext k3
      generalize (stf (l.take j)).n = n at hnext k1 k3
      have happ : ∀ (q : Nat) (H : Heap) (o : Oper) (xs xx : Operand) (K2 : Value → Heap → Prop), o.op = .call { callee := .builtin .append, args := #[xs, xx], argTypes := #[27, 27] } → (∀ r' cap', (out ++ [c]).length ≤ cap' → cap' ≤ maxLen → K2 (.slice (some ⟨r', 0, none⟩) (out ++ [c]).length cap') (bBuf r' cap' (out ++ [c]) :: bBox q (c.toNat : Int) :: H)) →
          RawV Tryd.prog o [.slice (some ⟨r, 0, none⟩) out.length cap, .slice (some ⟨q, 0, none⟩) 1 1] (bBox q (c.toNat : Int) :: bBuf r cap out :: H) K2 := fun q H o xs xx K2 ho hk => appB ho (by omega) hcap hcm hk
      have happ2 : ∀ (r cap q : Nat) (H : Heap) (o : Oper) (xs xx : Operand) (K2 : Value → Heap → Prop), (out ++ [c]).length ≤ cap → cap ≤ maxLen → o.op = .call { callee := .builtin .append, args := #[xs, xx], argTypes := #[27, 27] } → (∀ r' cap', (out ++ [c] ++ [oth c]).length ≤ cap' → cap' ≤ maxLen → K2 (.slice (some ⟨r', 0, none⟩) (out ++ [c] ++ [oth c]).length cap') (bBuf r' cap' (out ++ [c] ++ [oth c]) :: bBox q ((oth c).toNat : Int) :: H)) →
          RawV Tryd.prog o [.slice (some ⟨r, 0, none⟩) (out ++ [c]).length cap, .slice (some ⟨q, 0, none⟩) 1 1] (bBox q ((oth c).toNat : Int) :: bBuf r cap (out ++ [c]) :: H) K2 := fun r cap q H o xs xx K2 h1 h2 ho hk => appB ho (by simp; omega) h1 h2 hk
      have g1 : ∀ q, (H : Heap).Sublist (bBox q (c.toNat : Int) :: G) := fun q => .cons _ hG
      have g2 : ∀ q q2, (H : Heap).Sublist (bBox q ((oth c).toNat : Int) :: bBox q2 (c.toNat : Int) :: G) := fun q q2 => .cons _ (.cons _ hG)
      unfold St.step at hnext
      dsimp only at hnext
      rcases k3 with ⟨rfl, rfl, rfl, _⟩ | ⟨a, d, rfl, rfl⟩
      · rw [show tk 0 0 c.toNat = 1 by unfold tk; rw [if_neg (by omega)], if_neg (by decide)] at hnext
        repeat' ((conv => whnf); (first
            | refine Branch.dt (by omega) ?_
            | refine Branch.f rfl ?_
            | refine Branch.t rfl ?_
            | refine Idx.nat (by omega) ?_
            | with_reducible rw [hat]
            | refine happ _ _ _ _ _ _ rfl (fun r' cap' g3 g4 => ?_)
            | exact hnext _ _ _ _ .mk g3 g4 (g1 _)
            | refine New.mk (fun _ => ?_)
            | refine Look.at0 ?_
            | refine Cell.row ?_
            | refine Cell.buf ?_
            | refine Cells.row rfl ?_
            | refine Put.row rfl ?_
            | refine Put.buf rfl ?_
            | refine Look.at1 ?_
            | refine Look.at2 ?_
            | refine Look.at3 ?_
            | refine Look.at4 ?_
            | refine Look.at5 ?_
            | refine Look.at6 ?_
            | refine Look.at7 ?_
            | refine Look.at8 ?_
            | with_reducible refine Val.i64 (by omega) (by omega) ?_
            | with_reducible refine Val.u8 (by omega) (by omega) ?_
            | with_reducible refine Val.u32 (by omega) (by omega) ?_
            | with_reducible refine Val.u64 (by omega) (by omega) ?_
            | with_reducible refine Val.u8m ?_
            | with_reducible refine Val.u32m ?_
            | with_reducible refine Val.u64m ?_
            | with_reducible refine Val.shr8 ?_
            | with_reducible refine Val.shr16 (by decide) ?_
            | with_reducible refine Val.shr24 (by decide) ?_
            | with_reducible refine Val.raw ?_
            | refine Branch.not ?_
            | refine Branch.and ?_
            | refine Branch.or ?_
            | refine Branch.dt (by assumption) ?_
            | refine Branch.df (by assumption) ?_
            | refine Branch.dt rfl ?_
            | refine Branch.dt (by omega) ?_
            | refine Branch.df (by omega) ?_
            | refine Branch.t rfl ?_
            | refine Branch.f rfl ?_
            | refine Branch.t (by assumption) ?_
            | refine Branch.f (by assumption) ?_
            | refine Branch.d (fun _ => ?_) (fun _ => ?_)
            | refine Branch.mk (fun _ => ?_) (fun _ => ?_)
            | refine Need.mk (by first | omega | decide | rfl) ?_
            | refine Idx.nat (by omega) ?_
            | refine Idx.auto (by first | omega | decide) (by first | omega | decide) ?_
            | refine Cell.ro rfl ?_
            | refine SDraw.all (by kernel_rfl) ?_
            | refine Kept.k0 ?_
            | refine Kept.k1 ?_
            | refine Kept.k2 ?_
            | refine Kept.k3 ?_
            | refine Kept.k4 ?_))
      · have hlen : ((a ++ [d]).length : Int) = (a.length : Int) + 1 := by simp
        have hlen2 : (a ++ [d]).length = a.length + 1 := by simp
        have hcd : (Blk.buf 5 (cel (a ++ [d])) (cap * 1)).cell (0 + a.length * 1) = some (.int .u8 (d.toNat : Int)) := by
          show (cel (a ++ [d]))[0 + a.length * 1]? = _
          rw [Nat.zero_add, Nat.mul_one]; exact cel_at (by simp)
        unfold tk at hnext
        have hv97 : ∀ K : Int → Prop, K ((oth c).toNat : Int) → Val (IntKind.u8.wrap (97 - (c.toNat : Int))) K := fun K hk => Val.to _ (by rw [wrap_u8]; omega) hk
        by_cases hdc : c.toNat = d.toNat
        · have hdc' : (d.toNat : Int) = (c.toNat : Int) := by omega
          rw [if_pos hdc] at hnext
          by_cases h5 : n + 1 = 5
          · rw [if_pos h5] at hnext
            have h5' : (n : Int) + 1 = 5 := by omega
            repeat' ((conv => whnf); (first
                | refine Branch.dt (by omega) ?_
                | refine Branch.dt hdc' ?_
                | refine Branch.dt h5' ?_
                | refine Branch.t rfl ?_
                | refine Look.cell (.head _) hcd ?_
                | refine Idx.of a.length rfl (by omega) ?_
                | refine Idx.nat (by omega) ?_
                | with_reducible rw [hat]
                | with_reducible refine hv97 _ ?_
                | with_reducible refine Val.to (a.length : Int) (by rw [wrap_i64 (by omega) (by omega)]; omega) ?_
                | refine happ _ _ _ _ _ _ rfl (fun r' cap' g3 g4 => ?_)
                | refine happ2 _ _ _ _ _ _ _ _ g3 g4 rfl (fun r2 cap2 g5 g6 => ?_)
                | exact hnext _ _ _ _ .mk g5 g6 (g2 _ _)
                | refine New.mk (fun _ => ?_)
                | refine Look.at0 ?_
                | refine Cell.row ?_
                | refine Cell.buf ?_
                | refine Cells.row rfl ?_
                | refine Put.row rfl ?_
                | refine Put.buf rfl ?_
                | refine Look.at1 ?_
                | refine Look.at2 ?_
                | refine Look.at3 ?_
                | refine Look.at4 ?_
                | refine Look.at5 ?_
                | refine Look.at6 ?_
                | refine Look.at7 ?_
                | refine Look.at8 ?_
                | with_reducible refine Val.i64 (by omega) (by omega) ?_
                | with_reducible refine Val.u8 (by omega) (by omega) ?_
                | with_reducible refine Val.u32 (by omega) (by omega) ?_
                | with_reducible refine Val.u64 (by omega) (by omega) ?_
                | with_reducible refine Val.u8m ?_
                | with_reducible refine Val.u32m ?_
                | with_reducible refine Val.u64m ?_
                | with_reducible refine Val.shr8 ?_
                | with_reducible refine Val.shr16 (by decide) ?_
                | with_reducible refine Val.shr24 (by decide) ?_
                | with_reducible refine Val.raw ?_
                | refine Branch.not ?_
                | refine Branch.and ?_
                | refine Branch.or ?_
                | refine Branch.dt (by assumption) ?_
                | refine Branch.df (by assumption) ?_
                | refine Branch.dt rfl ?_
                | refine Branch.dt (by omega) ?_
                | refine Branch.df (by omega) ?_
                | refine Branch.t rfl ?_
                | refine Branch.f rfl ?_
                | refine Branch.t (by assumption) ?_
                | refine Branch.f (by assumption) ?_
                | refine Branch.d (fun _ => ?_) (fun _ => ?_)
                | refine Branch.mk (fun _ => ?_) (fun _ => ?_)
                | refine Need.mk (by first | omega | decide | rfl) ?_
                | refine Idx.nat (by omega) ?_
                | refine Idx.auto (by first | omega | decide) (by first | omega | decide) ?_
                | refine Cell.ro rfl ?_
                | refine SDraw.all (by kernel_rfl) ?_
                | refine Kept.k0 ?_
                | refine Kept.k1 ?_
                | refine Kept.k2 ?_
                | refine Kept.k3 ?_
                | refine Kept.k4 ?_))
          · rw [if_neg h5] at hnext
            have h5' : ¬ (n : Int) + 1 = 5 := by omega
            repeat' ((conv => whnf); (first
                | refine Branch.dt (by omega) ?_
                | refine Branch.dt hdc' ?_
                | refine Branch.df h5' ?_
                | refine Branch.t rfl ?_
                | refine Look.cell (.head _) hcd ?_
                | refine Idx.of a.length rfl (by omega) ?_
                | refine Idx.nat (by omega) ?_
                | with_reducible rw [hat]
                | with_reducible refine Val.to (a.length : Int) (by rw [wrap_i64 (by omega) (by omega)]; omega) ?_
                | refine happ _ _ _ _ _ _ rfl (fun r' cap' g3 g4 => ?_)
                | exact hnext _ _ _ _ .mk g3 g4 (g1 _)
                | refine New.mk (fun _ => ?_)
                | refine Look.at0 ?_
                | refine Cell.row ?_
                | refine Cell.buf ?_
                | refine Cells.row rfl ?_
                | refine Put.row rfl ?_
                | refine Put.buf rfl ?_
                | refine Look.at1 ?_
                | refine Look.at2 ?_
                | refine Look.at3 ?_
                | refine Look.at4 ?_
                | refine Look.at5 ?_
                | refine Look.at6 ?_
                | refine Look.at7 ?_
                | refine Look.at8 ?_
                | with_reducible refine Val.i64 (by omega) (by omega) ?_
                | with_reducible refine Val.u8 (by omega) (by omega) ?_
                | with_reducible refine Val.u32 (by omega) (by omega) ?_
                | with_reducible refine Val.u64 (by omega) (by omega) ?_
                | with_reducible refine Val.u8m ?_
                | with_reducible refine Val.u32m ?_
                | with_reducible refine Val.u64m ?_
                | with_reducible refine Val.shr8 ?_
                | with_reducible refine Val.shr16 (by decide) ?_
                | with_reducible refine Val.shr24 (by decide) ?_
                | with_reducible refine Val.raw ?_
                | refine Branch.not ?_
                | refine Branch.and ?_
                | refine Branch.or ?_
                | refine Branch.dt (by assumption) ?_
                | refine Branch.df (by assumption) ?_
                | refine Branch.dt rfl ?_
                | refine Branch.dt (by omega) ?_
                | refine Branch.df (by omega) ?_
                | refine Branch.t rfl ?_
                | refine Branch.f rfl ?_
                | refine Branch.t (by assumption) ?_
                | refine Branch.f (by assumption) ?_
                | refine Branch.d (fun _ => ?_) (fun _ => ?_)
                | refine Branch.mk (fun _ => ?_) (fun _ => ?_)
                | refine Need.mk (by first | omega | decide | rfl) ?_
                | refine Idx.nat (by omega) ?_
                | refine Idx.auto (by first | omega | decide) (by first | omega | decide) ?_
                | refine Cell.ro rfl ?_
                | refine SDraw.all (by kernel_rfl) ?_
                | refine Kept.k0 ?_
                | refine Kept.k1 ?_
                | refine Kept.k2 ?_
                | refine Kept.k3 ?_
                | refine Kept.k4 ?_))
        · have hdc' : ¬ (d.toNat : Int) = (c.toNat : Int) := by omega
          rw [if_neg hdc, if_neg (by decide)] at hnext
          repeat' ((conv => whnf); (first
              | refine Branch.dt (by omega) ?_
              | refine Branch.df hdc' ?_
              | refine Branch.f rfl ?_
              | refine Branch.t rfl ?_
              | refine Look.cell (.head _) hcd ?_
              | refine Idx.of a.length rfl (by omega) ?_
              | refine Idx.nat (by omega) ?_
              | with_reducible rw [hat]
              | with_reducible refine Val.to (a.length : Int) (by rw [wrap_i64 (by omega) (by omega)]; omega) ?_
              | refine happ _ _ _ _ _ _ rfl (fun r' cap' g3 g4 => ?_)
              | exact hnext _ _ _ _ .mk g3 g4 (g1 _)
              | refine New.mk (fun _ => ?_)
              | refine Look.at0 ?_
              | refine Cell.row ?_
              | refine Cell.buf ?_
              | refine Cells.row rfl ?_
              | refine Put.row rfl ?_
              | refine Put.buf rfl ?_
              | refine Look.at1 ?_
              | refine Look.at2 ?_
              | refine Look.at3 ?_
              | refine Look.at4 ?_
              | refine Look.at5 ?_
              | refine Look.at6 ?_
              | refine Look.at7 ?_
              | refine Look.at8 ?_
              | with_reducible refine Val.i64 (by omega) (by omega) ?_
              | with_reducible refine Val.u8 (by omega) (by omega) ?_
              | with_reducible refine Val.u32 (by omega) (by omega) ?_
              | with_reducible refine Val.u64 (by omega) (by omega) ?_
              | with_reducible refine Val.u8m ?_
              | with_reducible refine Val.u32m ?_
              | with_reducible refine Val.u64m ?_
              | with_reducible refine Val.shr8 ?_
              | with_reducible refine Val.shr16 (by decide) ?_
              | with_reducible refine Val.shr24 (by decide) ?_
              | with_reducible refine Val.raw ?_
              | refine Branch.not ?_
              | refine Branch.and ?_
              | refine Branch.or ?_
              | refine Branch.dt (by assumption) ?_
              | refine Branch.df (by assumption) ?_
              | refine Branch.dt rfl ?_
              | refine Branch.dt (by omega) ?_
              | refine Branch.df (by omega) ?_
              | refine Branch.t rfl ?_
              | refine Branch.f rfl ?_
              | refine Branch.t (by assumption) ?_
              | refine Branch.f (by assumption) ?_
              | refine Branch.d (fun _ => ?_) (fun _ => ?_)
              | refine Branch.mk (fun _ => ?_) (fun _ => ?_)
              | refine Need.mk (by first | omega | decide | rfl) ?_
              | refine Idx.nat (by omega) ?_
              | refine Idx.auto (by first | omega | decide) (by first | omega | decide) ?_
              | refine Cell.ro rfl ?_
              | refine SDraw.all (by kernel_rfl) ?_
              | refine Kept.k0 ?_
              | refine Kept.k1 ?_
              | refine Kept.k2 ?_
              | refine Kept.k3 ?_
              | refine Kept.k4 ?_))
    · have e : j = l.length := by omega
      subst e
      rw [List.take_length]
      have hstr : ∀ (o : Oper) (xx : Operand) (K2 : Value → Heap → Prop), o.op = .convert 27 9 xx → K2 (.string (strOf (stf l).out)) (bBuf r cap (stf l).out :: G) → RawV Tryd.prog o [.slice (some ⟨r, 0, none⟩) (stf l).out.length cap] (bBuf r cap (stf l).out :: G) K2 := fun o xx K2 ho hk =>
        RawV.toStr (e := 5) (l := (stf l).out) ho (by kernel_rfl) (by kernel_rfl) (by kernel_rfl) (.head _) rfl (fun j x hj => by rw [Nat.zero_add]; exact cel_at hj) hk
      clear hR h29
      repeat' ((conv => whnf); (first
          | refine Branch.df (by omega) ?_
          | refine hstr _ _ _ rfl ?_
          | exact Keep.sub H (.cons _ hG) hK
          | refine New.mk (fun _ => ?_)
          | refine Look.at0 ?_
          | refine Cell.row ?_
          | refine Cell.buf ?_
          | refine Cells.row rfl ?_
          | refine Put.row rfl ?_
          | refine Put.buf rfl ?_
          | refine Look.at1 ?_
          | refine Look.at2 ?_
          | refine Look.at3 ?_
          | refine Look.at4 ?_
          | refine Look.at5 ?_
          | refine Look.at6 ?_
          | refine Look.at7 ?_
          | refine Look.at8 ?_
          | with_reducible refine Val.i64 (by omega) (by omega) ?_
          | with_reducible refine Val.u8 (by omega) (by omega) ?_
          | with_reducible refine Val.u32 (by omega) (by omega) ?_
          | with_reducible refine Val.u64 (by omega) (by omega) ?_
          | with_reducible refine Val.u8m ?_
          | with_reducible refine Val.u32m ?_
          | with_reducible refine Val.u64m ?_
          | with_reducible refine Val.shr8 ?_
          | with_reducible refine Val.shr16 (by decide) ?_
          | with_reducible refine Val.shr24 (by decide) ?_
          | with_reducible refine Val.raw ?_
          | refine Branch.not ?_
          | refine Branch.and ?_
          | refine Branch.or ?_
          | refine Branch.dt (by assumption) ?_
          | refine Branch.df (by assumption) ?_
          | refine Branch.dt rfl ?_
          | refine Branch.dt (by omega) ?_
          | refine Branch.df (by omega) ?_
          | refine Branch.t rfl ?_
          | refine Branch.f rfl ?_
          | refine Branch.t (by assumption) ?_
          | refine Branch.f (by assumption) ?_
          | refine Branch.d (fun _ => ?_) (fun _ => ?_)
          | refine Branch.mk (fun _ => ?_) (fun _ => ?_)
          | refine Need.mk (by first | omega | decide | rfl) ?_
          | refine Idx.nat (by omega) ?_
          | refine Idx.auto (by first | omega | decide) (by first | omega | decide) ?_
          | refine Cell.ro rfl ?_
          | refine SDraw.all (by kernel_rfl) ?_
          | refine Kept.k0 ?_
          | refine Kept.k1 ?_
          | refine Kept.k2 ?_
          | refine Kept.k3 ?_
          | refine Kept.k4 ?_))
  · exact absurd h0 h0'
theorem c17e {l : List UInt8} (h0 : chk l ≠ 0) (hK : K (.tuple ⟨[.string (strOf []), .int .i64 (chk l)]⟩) H) : SCalls Tryd.prog 17 [.string (strOf l)] H K := by
  refine enter17 ?_
  have h29 := fun (K : Value → Heap → Prop) hk => c29 (l := l) (K := K) (H := H) hk
  generalize chk l = v at h0 hK h29
  repeat' ((conv => whnf); (first
      | with_reducible refine h29 _ ?_
      | refine Branch.t (by simp [h0]; done) ?_
      | exact Keep.all hK
      | refine New.mk (fun _ => ?_)
      | refine Look.at0 ?_
      | refine Cell.row ?_
      | refine Cell.buf ?_
      | refine Cells.row rfl ?_
      | refine Put.row rfl ?_
      | refine Put.buf rfl ?_
      | refine Look.at1 ?_
      | refine Look.at2 ?_
      | refine Look.at3 ?_
      | refine Look.at4 ?_
      | refine Look.at5 ?_
      | refine Look.at6 ?_
      | refine Look.at7 ?_
      | refine Look.at8 ?_
      | with_reducible refine Val.i64 (by omega) (by omega) ?_
      | with_reducible refine Val.u8 (by omega) (by omega) ?_
      | with_reducible refine Val.u32 (by omega) (by omega) ?_
      | with_reducible refine Val.u64 (by omega) (by omega) ?_
      | with_reducible refine Val.u8m ?_
      | with_reducible refine Val.u32m ?_
      | with_reducible refine Val.u64m ?_
      | with_reducible refine Val.shr8 ?_
      | with_reducible refine Val.shr16 (by decide) ?_
      | with_reducible refine Val.shr24 (by decide) ?_
      | with_reducible refine Val.raw ?_
      | refine Branch.not ?_
      | refine Branch.and ?_
      | refine Branch.or ?_
      | refine Branch.dt (by assumption) ?_
      | refine Branch.df (by assumption) ?_
      | refine Branch.dt rfl ?_
      | refine Branch.dt (by omega) ?_
      | refine Branch.df (by omega) ?_
      | refine Branch.t rfl ?_
      | refine Branch.f rfl ?_
      | refine Branch.t (by assumption) ?_
      | refine Branch.f (by assumption) ?_
      | refine Branch.d (fun _ => ?_) (fun _ => ?_)
      | refine Branch.mk (fun _ => ?_) (fun _ => ?_)
      | refine Need.mk (by first | omega | decide | rfl) ?_
      | refine Idx.nat (by omega) ?_
      | refine Idx.auto (by first | omega | decide) (by first | omega | decide) ?_
      | refine Cell.ro rfl ?_
      | refine SDraw.all (by kernel_rfl) ?_
      | refine Kept.k0 ?_
      | refine Kept.k1 ?_
      | refine Kept.k2 ?_
      | refine Kept.k3 ?_
      | refine Kept.k4 ?_))
/-- A text of bits. -/
theorem c28 {l : List UInt8} (hK : K (.bool (decide (chk l = 0))) H) : SCalls Tryd.prog 28 [.string (strOf l)] H K := by
  refine enter28 ?_
  repeat' ((conv => whnf); (first
      | refine c32 ?_
      | exact Keep.all hK
      | refine New.mk (fun _ => ?_)
      | refine Look.at0 ?_
      | refine Cell.row ?_
      | refine Cell.buf ?_
      | refine Cells.row rfl ?_
      | refine Put.row rfl ?_
      | refine Put.buf rfl ?_
      | refine Look.at1 ?_
      | refine Look.at2 ?_
      | refine Look.at3 ?_
      | refine Look.at4 ?_
      | refine Look.at5 ?_
      | refine Look.at6 ?_
      | refine Look.at7 ?_
      | refine Look.at8 ?_
      | with_reducible refine Val.i64 (by omega) (by omega) ?_
      | with_reducible refine Val.u8 (by omega) (by omega) ?_
      | with_reducible refine Val.u32 (by omega) (by omega) ?_
      | with_reducible refine Val.u64 (by omega) (by omega) ?_
      | with_reducible refine Val.u8m ?_
      | with_reducible refine Val.u32m ?_
      | with_reducible refine Val.u64m ?_
      | with_reducible refine Val.shr8 ?_
      | with_reducible refine Val.shr16 (by decide) ?_
      | with_reducible refine Val.shr24 (by decide) ?_
      | with_reducible refine Val.raw ?_
      | refine Branch.not ?_
      | refine Branch.and ?_
      | refine Branch.or ?_
      | refine Branch.dt (by assumption) ?_
      | refine Branch.df (by assumption) ?_
      | refine Branch.dt rfl ?_
      | refine Branch.dt (by omega) ?_
      | refine Branch.df (by omega) ?_
      | refine Branch.t rfl ?_
      | refine Branch.f rfl ?_
      | refine Branch.t (by assumption) ?_
      | refine Branch.f (by assumption) ?_
      | refine Branch.d (fun _ => ?_) (fun _ => ?_)
      | refine Branch.mk (fun _ => ?_) (fun _ => ?_)
      | refine Need.mk (by first | omega | decide | rfl) ?_
      | refine Idx.nat (by omega) ?_
      | refine Idx.auto (by first | omega | decide) (by first | omega | decide) ?_
      | refine Cell.ro rfl ?_
      | refine SDraw.all (by kernel_rfl) ?_
      | refine Kept.k0 ?_
      | refine Kept.k1 ?_
      | refine Kept.k2 ?_
      | refine Kept.k3 ?_
      | refine Kept.k4 ?_))
theorem c12 (hK : K (.bool true) H) : SCalls Tryd.prog 12 [] H K := by
  refine enter12 (_u := .bool false) ?_
  have e1 : ∀ (K : Value → Heap → Prop), K (.tuple ⟨[.string ⟨#[48, 48, 48, 48, 48, 49]⟩, .int .i64 0]⟩) H → SCalls Tryd.prog 16 [.string ⟨#[48, 48, 48, 48, 48]⟩] H K := fun K hk => c16 (l := [48, 48, 48, 48, 48]) (by decide) hk
  have e2 : ∀ (K : Value → Heap → Prop), K (.tuple ⟨[.int .u16 17817, .int .i64 0]⟩) H → SCalls Tryd.prog 11 [.string ⟨#[49]⟩] H K := fun K hk => c11 (l := [49]) hk
  have e3 : ∀ (K : Value → Heap → Prop), K (.bool true) H → SCalls Tryd.prog 28 [.string ⟨#[48, 49]⟩] H K := fun K hk => c28 (l := [48, 49]) hk
  have e4 : ∀ (K : Value → Heap → Prop), K (.bool false) H → SCalls Tryd.prog 28 [.string ⟨#[50]⟩] H K := fun K hk => c28 (l := [50]) hk
  repeat' ((conv => whnf); (first
      | with_reducible refine e1 _ ?_
      | with_reducible refine e2 _ ?_
      | with_reducible refine e3 _ ?_
      | with_reducible refine e4 _ ?_
      | refine Branch.t rfl ?_
      | exact Keep.all hK
      | refine New.mk (fun _ => ?_)
      | refine Look.at0 ?_
      | refine Cell.row ?_
      | refine Cell.buf ?_
      | refine Cells.row rfl ?_
      | refine Put.row rfl ?_
      | refine Put.buf rfl ?_
      | refine Look.at1 ?_
      | refine Look.at2 ?_
      | refine Look.at3 ?_
      | refine Look.at4 ?_
      | refine Look.at5 ?_
      | refine Look.at6 ?_
      | refine Look.at7 ?_
      | refine Look.at8 ?_
      | with_reducible refine Val.i64 (by omega) (by omega) ?_
      | with_reducible refine Val.u8 (by omega) (by omega) ?_
      | with_reducible refine Val.u32 (by omega) (by omega) ?_
      | with_reducible refine Val.u64 (by omega) (by omega) ?_
      | with_reducible refine Val.u8m ?_
      | with_reducible refine Val.u32m ?_
      | with_reducible refine Val.u64m ?_
      | with_reducible refine Val.shr8 ?_
      | with_reducible refine Val.shr16 (by decide) ?_
      | with_reducible refine Val.shr24 (by decide) ?_
      | with_reducible refine Val.raw ?_
      | refine Branch.not ?_
      | refine Branch.and ?_
      | refine Branch.or ?_
      | refine Branch.dt (by assumption) ?_
      | refine Branch.df (by assumption) ?_
      | refine Branch.dt rfl ?_
      | refine Branch.dt (by omega) ?_
      | refine Branch.df (by omega) ?_
      | refine Branch.t rfl ?_
      | refine Branch.f rfl ?_
      | refine Branch.t (by assumption) ?_
      | refine Branch.f (by assumption) ?_
      | refine Branch.d (fun _ => ?_) (fun _ => ?_)
      | refine Branch.mk (fun _ => ?_) (fun _ => ?_)
      | refine Need.mk (by first | omega | decide | rfl) ?_
      | refine Idx.nat (by omega) ?_
      | refine Idx.auto (by first | omega | decide) (by first | omega | decide) ?_
      | refine Cell.ro rfl ?_
      | refine SDraw.all (by kernel_rfl) ?_
      | refine Kept.k0 ?_
      | refine Kept.k1 ?_
      | refine Kept.k2 ?_
      | refine Kept.k3 ?_
      | refine Kept.k4 ?_))
end
end Go.Proofs.YtijnjklofdmelaaDoor

/- Layer 1: the sums of bytes: by walks; and that bytes with their sum behind them have the sum 0. -/
set_option linter.unusedVariables false
set_option linter.unusedSimpArgs false
set_option maxRecDepth 100000
set_option maxHeartbeats 4000000
namespace Go.Proofs.YtijnjklofdmelaaDoor
open Sx
/-- A bit of a byte's sum; so many. -/
def bs16 (r : Nat) : Nat := (r * 2 % 65536) ^^^ (r / 32768 * 4129)
def it16 : Nat → Nat → Nat
  | 0, r => r
  | n + 1, r => bs16 (it16 n r)
def by16 (r x : Nat) : Nat := it16 8 (r ^^^ (x * 256))
def crc16 (l : List UInt8) : Nat := l.foldl (fun r b => by16 r b.toNat) 0
theorem bs16_lt {r : Nat} (h : r < 65536) : bs16 r < 65536 :=
  Nat.xor_lt_two_pow (n := 16) (Nat.mod_lt _ (by decide)) (by show r / 32768 * 4129 < 65536; omega)
theorem it16_lt {r : Nat} (h : r < 65536) : ∀ n, it16 n r < 65536
  | 0 => h
  | n + 1 => bs16_lt (it16_lt h n)
theorem x256_lt {r x : Nat} (h : r < 65536) (hx : x < 256) : r ^^^ (x * 256) < 65536 := Nat.xor_lt_two_pow (n := 16) h (by show x * 256 < 65536; omega)
theorem by16_lt {r x : Nat} (h : r < 65536) (hx : x < 256) : by16 r x < 65536 := it16_lt (x256_lt h hx) 8
theorem u8_lt (b : UInt8) : b.toNat < 256 := by have := b.toNat_lt; omega
theorem fold16_lt (l : List UInt8) : ∀ r, r < 65536 → l.foldl (fun r b => by16 r b.toNat) r < 65536 := by
  induction l with
  | nil => exact fun r h => h
  | cons b l ih => exact fun r h => ih _ (by16_lt h (u8_lt b))
theorem crc16_lt (l : List UInt8) : crc16 l < 65536 := fold16_lt l 0 (by decide)
theorem crc16_snoc (l : List UInt8) (b : UInt8) : crc16 (l ++ [b]) = by16 (crc16 l) b.toNat := by simp [crc16]
theorem low8 (r : Nat) : r ^^^ (r / 256 * 256) = r % 256 := by
  apply Nat.eq_of_testBit_eq
  intro i
  rw [Nat.testBit_xor, show r / 256 * 256 = (r >>> 8) <<< 8 by rw [Nat.shiftRight_eq_div_pow, Nat.shiftLeft_eq], Nat.testBit_shiftLeft, Nat.testBit_shiftRight, show r % 256 = r % 2 ^ 8 from rfl, Nat.testBit_mod_two_pow]
  by_cases h : i < 8
  · have h' : ¬ i ≥ 8 := by omega
    simp [h, h']
  · have h' : i ≥ 8 := by omega
    simp [h, h', show 8 + (i - 8) = i by omega]
theorem bs16_small {r : Nat} (h : r < 32768) : bs16 r = r * 2 := by
  unfold bs16
  rw [show r / 32768 = 0 by omega, Nat.zero_mul, Nat.xor_zero]; omega
theorem it16_low {x : Nat} (h : x < 256) : it16 8 x = x * 256 := by
  have e1 : it16 1 x = x * 2 := bs16_small (by show it16 0 x < _; show x < _; omega)
  have e2 : it16 2 x = x * 4 := by show bs16 (it16 1 x) = _; rw [e1, bs16_small (by omega)]; omega
  have e3 : it16 3 x = x * 8 := by show bs16 (it16 2 x) = _; rw [e2, bs16_small (by omega)]; omega
  have e4 : it16 4 x = x * 16 := by show bs16 (it16 3 x) = _; rw [e3, bs16_small (by omega)]; omega
  have e5 : it16 5 x = x * 32 := by show bs16 (it16 4 x) = _; rw [e4, bs16_small (by omega)]; omega
  have e6 : it16 6 x = x * 64 := by show bs16 (it16 5 x) = _; rw [e5, bs16_small (by omega)]; omega
  have e7 : it16 7 x = x * 128 := by show bs16 (it16 6 x) = _; rw [e6, bs16_small (by omega)]; omega
  show bs16 (it16 7 x) = _
  rw [e7, bs16_small (by omega)]; omega
theorem crc16_zero {l : List UInt8} {hi lo : UInt8} (h1 : hi.toNat = crc16 l / 256) (h2 : lo.toNat = crc16 l % 256) : crc16 (l ++ [hi] ++ [lo]) = 0 := by
  rw [crc16_snoc, crc16_snoc, h1, h2]
  generalize crc16 l = r
  unfold by16
  rw [low8, it16_low (Nat.mod_lt _ (by decide)), Nat.xor_self]
  rfl
abbrev cB (b : UInt8) : List Value := [.int .u8 (b.toNat : Int)]
theorem cel_flat (l : List UInt8) : l.flatMap cB = cel l := by
  induction l with
  | nil => rfl
  | cons b l ih => rw [List.flatMap_cons, ih]; rfl
/-- The numbers of a round. -/
theorem n16 {k : IntKind} (hk : k.signed = false) (h16 : 16 ≤ k.bits) {r : Nat} (hr : r < 65536) : ∃ q t u : Nat, (q = 0 ∧ bs16 r = t ∨ q = 1 ∧ bs16 r = u) ∧ t < 65536 ∧ u < 65536 ∧ shrI k (r : Int) 15 = (q : Int) ∧ bitAnd k (q : Int) 1 = (q : Int) ∧
    bitAnd k (shlI k (r : Int) 1) 65535 = (t : Int) ∧ bitXor k (t : Int) 4129 = (u : Int) ∧ bitXor k (t : Int) ((q : Int) * 4129) = (bs16 r : Int) ∧ (k = .u16 → shlI k (r : Int) 1 = (t : Int)) := by
  have hp : (65536 : Nat) ≤ 2 ^ k.bits := by
    have : (2 : Nat) ^ 16 ≤ 2 ^ k.bits := Nat.pow_le_pow_right (by decide) h16
    exact this
  have ht : r * 2 % 65536 < 65536 := Nat.mod_lt _ (by decide)
  have hu : (r * 2 % 65536) ^^^ 4129 < 65536 := Nat.xor_lt_two_pow (n := 16) ht (by decide)
  have h4 : (4129 : Nat) < 2 ^ k.bits := Nat.lt_of_lt_of_le (by decide) hp
  refine ⟨r / 32768, r * 2 % 65536, (r * 2 % 65536) ^^^ 4129, ?_, ht, hu, ?_, ?_, ?_, ?_, ?_, ?_⟩
  · unfold bs16
    rcases (by omega : r / 32768 = 0 ∨ r / 32768 = 1) with h | h
    · rw [h]; exact .inl ⟨rfl, by simp⟩
    · rw [h]; exact .inr ⟨rfl, by simp⟩
  · exact shr_nat (k := k) (n := 15) (by omega)
  · have := bitMask_nat (k := k) hk (a := r / 32768) (n := 1) (by omega) (by omega)
    rw [show r / 32768 % 2 ^ 1 = r / 32768 by omega] at this
    exact this
  · have h1 : shlI k (r : Int) 1 = ((r * 2 ^ 1 % 2 ^ k.bits : Nat) : Int) := shl_nat (k := k) hk (a := r) (n := 1) (by omega)
    have h2 := bitMask_nat (k := k) hk (a := r * 2 ^ 1 % 2 ^ k.bits) (n := 16) (Nat.mod_lt _ (by omega)) (by omega)
    rw [h1]
    have e : r * 2 ^ 1 % 2 ^ k.bits % 2 ^ 16 = r * 2 % 65536 := by
      rw [Nat.mod_mod_of_dvd _ (Nat.pow_dvd_pow 2 h16)]
    rw [e] at h2
    exact h2
  · exact bitXor_nat hk (Nat.lt_of_lt_of_le ht hp) h4
  · have h5 : r / 32768 * 4129 < 65536 := by omega
    have := bitXor_nat (k := k) hk (a := r * 2 % 65536) (b := r / 32768 * 4129) (Nat.lt_of_lt_of_le ht hp) (Nat.lt_of_lt_of_le h5 hp)
    rw [Int.natCast_mul] at this
    exact this
  · rintro rfl
    exact shl_nat (k := .u16) rfl (a := r) (n := 1) (by decide)
inductive S14 (A3 A6 A7 A8 : Value) : List Value → Prop
  | mk {r0 r1 r2 r4 r5 r9 r10 r11 r12 r13 r14 r15 r16 r17 r18 r19 r20 r21 r22 r23 r24 r25 r26 r27 : Value} : S14 A3 A6 A7 A8 [r0, r1, r2, A3, r4, r5, A6, A7, A8, r9, r10, r11, r12, r13, r14, r15, r16, r17, r18, r19, r20, r21, r22, r23, r24, r25, r26, r27]
inductive S14i (A3 A6 A7 A8 A17 : Value) : List Value → Prop
  | mk {r0 r1 r2 r4 r5 r9 r10 r11 r12 r13 r14 r15 r16 r18 r19 r20 r21 r22 r23 r24 r25 r26 r27 : Value} : S14i A3 A6 A7 A8 A17 [r0, r1, r2, A3, r4, r5, A6, A7, A8, r9, r10, r11, r12, r13, r14, r15, r16, A17, r18, r19, r20, r21, r22, r23, r24, r25, r26, r27]
inductive S15 (A0 A3 A4 : Value) : List Value → Prop
  | mk {r1 r2 r5 r6 r7 r8 r9 r10 r11 r12 r13 r14 r15 r16 r17 r18 r19 r20 r21 r22 r23 r24 r25 r26 r27 r28 r29 r30 r31 r32 r33 r34 r35 r36 : Value} : S15 A0 A3 A4 [A0, r1, r2, A3, A4, r5, r6, r7, r8, r9, r10, r11, r12, r13, r14, r15, r16, r17, r18, r19, r20, r21, r22, r23, r24, r25, r26, r27, r28, r29, r30, r31, r32, r33, r34, r35, r36]
inductive S15i (A0 A3 A4 A5 : Value) : List Value → Prop
  | mk {r1 r2 r6 r7 r8 r9 r10 r11 r12 r13 r14 r15 r16 r17 r18 r19 r20 r21 r22 r23 r24 r25 r26 r27 r28 r29 r30 r31 r32 r33 r34 r35 r36 : Value} : S15i A0 A3 A4 A5 [A0, r1, r2, A3, A4, A5, r6, r7, r8, r9, r10, r11, r12, r13, r14, r15, r16, r17, r18, r19, r20, r21, r22, r23, r24, r25, r26, r27, r28, r29, r30, r31, r32, r33, r34, r35, r36]
section
variable {K : Value → Heap → Prop} {H : Heap}
theorem c14 {sv : Value} {l : List UInt8} (hin : InS cB 1 sv H l) (hK : K (.int .u16 (crc16 l : Int)) H) : SCalls Tryd.prog 14 [sv] H K := by
  refine enter14 ?_
  obtain ⟨sa, sc, rfl, hml⟩ := hin.sv
  have hml' : l.length ≤ 9223372036854775807 := by simp only [maxLen] at hml; omega
  repeat' ((conv => whnf); (first
      | refine New.mk (fun _ => ?_)
      | refine Look.at0 ?_
      | refine Cell.row ?_
      | refine Cell.buf ?_
      | refine Cells.row rfl ?_
      | refine Put.row rfl ?_
      | refine Put.buf rfl ?_
      | refine Look.at1 ?_
      | refine Look.at2 ?_
      | refine Look.at3 ?_
      | refine Look.at4 ?_
      | refine Look.at5 ?_
      | refine Look.at6 ?_
      | refine Look.at7 ?_
      | refine Look.at8 ?_
      | with_reducible refine Val.i64 (by omega) (by omega) ?_
      | with_reducible refine Val.u8 (by omega) (by omega) ?_
      | with_reducible refine Val.u32 (by omega) (by omega) ?_
      | with_reducible refine Val.u64 (by omega) (by omega) ?_
      | with_reducible refine Val.u8m ?_
      | with_reducible refine Val.u32m ?_
      | with_reducible refine Val.u64m ?_
      | with_reducible refine Val.shr8 ?_
      | with_reducible refine Val.shr16 (by decide) ?_
      | with_reducible refine Val.shr24 (by decide) ?_
      | with_reducible refine Val.raw ?_
      | refine Branch.not ?_
      | refine Branch.and ?_
      | refine Branch.or ?_
      | refine Branch.dt (by assumption) ?_
      | refine Branch.df (by assumption) ?_
      | refine Branch.dt rfl ?_
      | refine Branch.dt (by omega) ?_
      | refine Branch.df (by omega) ?_
      | refine Branch.t rfl ?_
      | refine Branch.f rfl ?_
      | refine Branch.t (by assumption) ?_
      | refine Branch.f (by assumption) ?_
      | refine Branch.d (fun _ => ?_) (fun _ => ?_)
      | refine Branch.mk (fun _ => ?_) (fun _ => ?_)
      | refine Need.mk (by first | omega | decide | rfl) ?_
      | refine Idx.nat (by omega) ?_
      | refine Idx.auto (by first | omega | decide) (by first | omega | decide) ?_
      | refine Cell.ro rfl ?_
      | refine SDraw.all (by kernel_rfl) ?_
      | refine Kept.k0 ?_
      | refine Kept.k1 ?_
      | refine Kept.k2 ?_
      | refine Kept.k3 ?_
      | refine Kept.k4 ?_))
  refine SLoop.invA (fun (j : Nat) S H' => j ≤ l.length ∧ S14 (.int .u16 (crc16 (l.take j) : Int)) (.slice sa l.length sc) (.int .i64 (l.length : Int)) (.int .i64 (j : Int)) S ∧ H' = H) (fun j => l.length - j) 0 (Keep.all ⟨Nat.zero_le _, .mk, rfl⟩) ?_
  rintro j S H' ⟨hj, hS, rfl⟩ R hR
  cases hS
  by_cases hlt : j < l.length
  · have hx := List.getElem?_eq_getElem hlt
    generalize l[j] = c at hx
    obtain ⟨r, o, cc, b, e, hm, hc⟩ := hin.at1 hx rfl
    injection e with e _ _
    subst e
    have htk : l.take (j + 1) = l.take j ++ [c] := by rw [List.take_add_one, hx]; rfl
    have hc8 := u8_lt c
    have hlt16 := crc16_lt (l.take j)
    have hnext : ∀ S, S14 (.int .u16 (it16 8 (crc16 (l.take j) ^^^ (c.toNat * 256)) : Int)) (.slice (some ⟨r, o, none⟩) l.length sc) (.int .i64 (l.length : Int)) (.int .i64 ((j + 1 : Nat) : Int)) S → R S H' := fun S hS => hR (j + 1) _ _ (by omega) (Keep.all ⟨hlt, by rw [htk, crc16_snoc]; exact hS, rfl⟩)
    clear hR hK htk
    generalize crc16 (l.take j) = v at hlt16 hnext
    have e1 : shlI .u16 (c.toNat : Int) 8 = ((c.toNat * 256 : Nat) : Int) := by
      have := shl_nat (k := .u16) rfl (a := c.toNat) (n := 8) (by decide)
      rw [show c.toNat * 2 ^ 8 % 2 ^ IntKind.u16.bits = c.toNat * 256 by show c.toNat * 256 % 65536 = _; omega] at this
      exact this
    have e2 : bitXor .u16 (v : Int) ((c.toNat * 256 : Nat) : Int) = ((v ^^^ (c.toNat * 256) : Nat) : Int) := bitXor_nat rfl hlt16 (by show c.toNat * 256 < 65536; omega)
    have hlt2 := x256_lt hlt16 hc8
    repeat' ((conv => whnf); (first
        | refine Branch.dt (by omega) ?_
        | refine Look.cell hm hc ?_
        | with_reducible refine Val.to _ e1 ?_
        | with_reducible refine Val.to _ e2 ?_
        | with_reducible refine Val.u16 (by omega) (by omega) ?_
        | refine New.mk (fun _ => ?_)
        | refine Look.at0 ?_
        | refine Cell.row ?_
        | refine Cell.buf ?_
        | refine Cells.row rfl ?_
        | refine Put.row rfl ?_
        | refine Put.buf rfl ?_
        | refine Look.at1 ?_
        | refine Look.at2 ?_
        | refine Look.at3 ?_
        | refine Look.at4 ?_
        | refine Look.at5 ?_
        | refine Look.at6 ?_
        | refine Look.at7 ?_
        | refine Look.at8 ?_
        | with_reducible refine Val.i64 (by omega) (by omega) ?_
        | with_reducible refine Val.u8 (by omega) (by omega) ?_
        | with_reducible refine Val.u32 (by omega) (by omega) ?_
        | with_reducible refine Val.u64 (by omega) (by omega) ?_
        | with_reducible refine Val.u8m ?_
        | with_reducible refine Val.u32m ?_
        | with_reducible refine Val.u64m ?_
        | with_reducible refine Val.shr8 ?_
        | with_reducible refine Val.shr16 (by decide) ?_
        | with_reducible refine Val.shr24 (by decide) ?_
        | with_reducible refine Val.raw ?_
        | refine Branch.not ?_
        | refine Branch.and ?_
        | refine Branch.or ?_
        | refine Branch.dt (by assumption) ?_
        | refine Branch.df (by assumption) ?_
        | refine Branch.dt rfl ?_
        | refine Branch.dt (by omega) ?_
        | refine Branch.df (by omega) ?_
        | refine Branch.t rfl ?_
        | refine Branch.f rfl ?_
        | refine Branch.t (by assumption) ?_
        | refine Branch.f (by assumption) ?_
        | refine Branch.d (fun _ => ?_) (fun _ => ?_)
        | refine Branch.mk (fun _ => ?_) (fun _ => ?_)
        | refine Need.mk (by first | omega | decide | rfl) ?_
        | refine Idx.nat (by omega) ?_
        | refine Idx.auto (by first | omega | decide) (by first | omega | decide) ?_
        | refine Cell.ro rfl ?_
        | refine SDraw.all (by kernel_rfl) ?_
        | refine Kept.k0 ?_
        | refine Kept.k1 ?_
        | refine Kept.k2 ?_
        | refine Kept.k3 ?_
        | refine Kept.k4 ?_))
    generalize v ^^^ (c.toNat * 256) = v2 at hlt2 hnext
    refine SLoop.invA (fun (i : Nat) S H2 => i ≤ 8 ∧ S14i (.int .u16 (it16 i v2 : Int)) (.slice (some ⟨r, o, none⟩) l.length sc) (.int .i64 (l.length : Int)) (.int .i64 (j : Int)) (.int .i64 (i : Int)) S ∧ H2 = H') (fun i => 8 - i) 0 (Keep.all ⟨by decide, .mk, rfl⟩) ?_
    rintro i S H2 ⟨hi, hS, rfl⟩ R2 hR2
    cases hS
    by_cases hi8 : i < 8
    · obtain ⟨q, t, u, hq, ht, hu, f1, f2, f3, f4, f5, f6⟩ := n16 (k := .u16) rfl (by decide) (it16_lt hlt2 i)
      have hnext2 : ∀ S, S14i (.int .u16 (bs16 (it16 i v2) : Int)) (.slice (some ⟨r, o, none⟩) l.length sc) (.int .i64 (l.length : Int)) (.int .i64 (j : Int)) (.int .i64 ((i + 1 : Nat) : Int)) S → R2 S H2 := fun S hS => hR2 (i + 1) _ _ (by omega) (Keep.all ⟨hi8, hS, rfl⟩)
      clear hR2 hnext
      have hq1 : q ≤ 1 := by omega
      have f6 := f6 rfl
      generalize bs16 (it16 i v2) = w at f5 hnext2 hq
      generalize it16 i v2 = v3 at f1 f3 f6
      repeat' ((conv => whnf); (first
          | refine Branch.dt (by omega) ?_
          | with_reducible refine Val.to _ f1 ?_
          | with_reducible refine Val.to _ f6 ?_
          | with_reducible refine Val.to _ f5 ?_
          | with_reducible refine Val.u16 (by omega) (by omega) ?_
          | exact hnext2 _ .mk
          | refine New.mk (fun _ => ?_)
          | refine Look.at0 ?_
          | refine Cell.row ?_
          | refine Cell.buf ?_
          | refine Cells.row rfl ?_
          | refine Put.row rfl ?_
          | refine Put.buf rfl ?_
          | refine Look.at1 ?_
          | refine Look.at2 ?_
          | refine Look.at3 ?_
          | refine Look.at4 ?_
          | refine Look.at5 ?_
          | refine Look.at6 ?_
          | refine Look.at7 ?_
          | refine Look.at8 ?_
          | with_reducible refine Val.i64 (by omega) (by omega) ?_
          | with_reducible refine Val.u8 (by omega) (by omega) ?_
          | with_reducible refine Val.u32 (by omega) (by omega) ?_
          | with_reducible refine Val.u64 (by omega) (by omega) ?_
          | with_reducible refine Val.u8m ?_
          | with_reducible refine Val.u32m ?_
          | with_reducible refine Val.u64m ?_
          | with_reducible refine Val.shr8 ?_
          | with_reducible refine Val.shr16 (by decide) ?_
          | with_reducible refine Val.shr24 (by decide) ?_
          | with_reducible refine Val.raw ?_
          | refine Branch.not ?_
          | refine Branch.and ?_
          | refine Branch.or ?_
          | refine Branch.dt (by assumption) ?_
          | refine Branch.df (by assumption) ?_
          | refine Branch.dt rfl ?_
          | refine Branch.dt (by omega) ?_
          | refine Branch.df (by omega) ?_
          | refine Branch.t rfl ?_
          | refine Branch.f rfl ?_
          | refine Branch.t (by assumption) ?_
          | refine Branch.f (by assumption) ?_
          | refine Branch.d (fun _ => ?_) (fun _ => ?_)
          | refine Branch.mk (fun _ => ?_) (fun _ => ?_)
          | refine Need.mk (by first | omega | decide | rfl) ?_
          | refine Idx.nat (by omega) ?_
          | refine Idx.auto (by first | omega | decide) (by first | omega | decide) ?_
          | refine Cell.ro rfl ?_
          | refine SDraw.all (by kernel_rfl) ?_
          | refine Kept.k0 ?_
          | refine Kept.k1 ?_
          | refine Kept.k2 ?_
          | refine Kept.k3 ?_
          | refine Kept.k4 ?_))
    · have e : i = 8 := by omega
      subst e
      clear hR2
      repeat' ((conv => whnf); (first
          | refine Branch.f rfl ?_
          | exact hnext _ .mk
          | refine New.mk (fun _ => ?_)
          | refine Look.at0 ?_
          | refine Cell.row ?_
          | refine Cell.buf ?_
          | refine Cells.row rfl ?_
          | refine Put.row rfl ?_
          | refine Put.buf rfl ?_
          | refine Look.at1 ?_
          | refine Look.at2 ?_
          | refine Look.at3 ?_
          | refine Look.at4 ?_
          | refine Look.at5 ?_
          | refine Look.at6 ?_
          | refine Look.at7 ?_
          | refine Look.at8 ?_
          | with_reducible refine Val.i64 (by omega) (by omega) ?_
          | with_reducible refine Val.u8 (by omega) (by omega) ?_
          | with_reducible refine Val.u32 (by omega) (by omega) ?_
          | with_reducible refine Val.u64 (by omega) (by omega) ?_
          | with_reducible refine Val.u8m ?_
          | with_reducible refine Val.u32m ?_
          | with_reducible refine Val.u64m ?_
          | with_reducible refine Val.shr8 ?_
          | with_reducible refine Val.shr16 (by decide) ?_
          | with_reducible refine Val.shr24 (by decide) ?_
          | with_reducible refine Val.raw ?_
          | refine Branch.not ?_
          | refine Branch.and ?_
          | refine Branch.or ?_
          | refine Branch.dt (by assumption) ?_
          | refine Branch.df (by assumption) ?_
          | refine Branch.dt rfl ?_
          | refine Branch.dt (by omega) ?_
          | refine Branch.df (by omega) ?_
          | refine Branch.t rfl ?_
          | refine Branch.f rfl ?_
          | refine Branch.t (by assumption) ?_
          | refine Branch.f (by assumption) ?_
          | refine Branch.d (fun _ => ?_) (fun _ => ?_)
          | refine Branch.mk (fun _ => ?_) (fun _ => ?_)
          | refine Need.mk (by first | omega | decide | rfl) ?_
          | refine Idx.nat (by omega) ?_
          | refine Idx.auto (by first | omega | decide) (by first | omega | decide) ?_
          | refine Cell.ro rfl ?_
          | refine SDraw.all (by kernel_rfl) ?_
          | refine Kept.k0 ?_
          | refine Kept.k1 ?_
          | refine Kept.k2 ?_
          | refine Kept.k3 ?_
          | refine Kept.k4 ?_))
  · have e : j = l.length := by omega
    subst e
    rw [List.take_length]
    clear hR
    repeat' ((conv => whnf); (first
        | refine Branch.df (by omega) ?_
        | exact Keep.all hK
        | refine New.mk (fun _ => ?_)
        | refine Look.at0 ?_
        | refine Cell.row ?_
        | refine Cell.buf ?_
        | refine Cells.row rfl ?_
        | refine Put.row rfl ?_
        | refine Put.buf rfl ?_
        | refine Look.at1 ?_
        | refine Look.at2 ?_
        | refine Look.at3 ?_
        | refine Look.at4 ?_
        | refine Look.at5 ?_
        | refine Look.at6 ?_
        | refine Look.at7 ?_
        | refine Look.at8 ?_
        | with_reducible refine Val.i64 (by omega) (by omega) ?_
        | with_reducible refine Val.u8 (by omega) (by omega) ?_
        | with_reducible refine Val.u32 (by omega) (by omega) ?_
        | with_reducible refine Val.u64 (by omega) (by omega) ?_
        | with_reducible refine Val.u8m ?_
        | with_reducible refine Val.u32m ?_
        | with_reducible refine Val.u64m ?_
        | with_reducible refine Val.shr8 ?_
        | with_reducible refine Val.shr16 (by decide) ?_
        | with_reducible refine Val.shr24 (by decide) ?_
        | with_reducible refine Val.raw ?_
        | refine Branch.not ?_
        | refine Branch.and ?_
        | refine Branch.or ?_
        | refine Branch.dt (by assumption) ?_
        | refine Branch.df (by assumption) ?_
        | refine Branch.dt rfl ?_
        | refine Branch.dt (by omega) ?_
        | refine Branch.df (by omega) ?_
        | refine Branch.t rfl ?_
        | refine Branch.f rfl ?_
        | refine Branch.t (by assumption) ?_
        | refine Branch.f (by assumption) ?_
        | refine Branch.d (fun _ => ?_) (fun _ => ?_)
        | refine Branch.mk (fun _ => ?_) (fun _ => ?_)
        | refine Need.mk (by first | omega | decide | rfl) ?_
        | refine Idx.nat (by omega) ?_
        | refine Idx.auto (by first | omega | decide) (by first | omega | decide) ?_
        | refine Cell.ro rfl ?_
        | refine SDraw.all (by kernel_rfl) ?_
        | refine Kept.k0 ?_
        | refine Kept.k1 ?_
        | refine Kept.k2 ?_
        | refine Kept.k3 ?_
        | refine Kept.k4 ?_))
theorem c15 {sv : Value} {l : List UInt8} (hin : InS cB 1 sv H l) (hK : K (.int .u16 (crc16 l : Int)) H) : SCalls Tryd.prog 15 [sv] H K := by
  refine enter15 ?_
  obtain ⟨sa, sc, rfl, hml⟩ := hin.sv
  have hml' : l.length ≤ 9223372036854775807 := by simp only [maxLen] at hml; omega
  repeat' ((conv => whnf); (first
      | refine New.mk (fun _ => ?_)
      | refine Look.at0 ?_
      | refine Cell.row ?_
      | refine Cell.buf ?_
      | refine Cells.row rfl ?_
      | refine Put.row rfl ?_
      | refine Put.buf rfl ?_
      | refine Look.at1 ?_
      | refine Look.at2 ?_
      | refine Look.at3 ?_
      | refine Look.at4 ?_
      | refine Look.at5 ?_
      | refine Look.at6 ?_
      | refine Look.at7 ?_
      | refine Look.at8 ?_
      | with_reducible refine Val.i64 (by omega) (by omega) ?_
      | with_reducible refine Val.u8 (by omega) (by omega) ?_
      | with_reducible refine Val.u32 (by omega) (by omega) ?_
      | with_reducible refine Val.u64 (by omega) (by omega) ?_
      | with_reducible refine Val.u8m ?_
      | with_reducible refine Val.u32m ?_
      | with_reducible refine Val.u64m ?_
      | with_reducible refine Val.shr8 ?_
      | with_reducible refine Val.shr16 (by decide) ?_
      | with_reducible refine Val.shr24 (by decide) ?_
      | with_reducible refine Val.raw ?_
      | refine Branch.not ?_
      | refine Branch.and ?_
      | refine Branch.or ?_
      | refine Branch.dt (by assumption) ?_
      | refine Branch.df (by assumption) ?_
      | refine Branch.dt rfl ?_
      | refine Branch.dt (by omega) ?_
      | refine Branch.df (by omega) ?_
      | refine Branch.t rfl ?_
      | refine Branch.f rfl ?_
      | refine Branch.t (by assumption) ?_
      | refine Branch.f (by assumption) ?_
      | refine Branch.d (fun _ => ?_) (fun _ => ?_)
      | refine Branch.mk (fun _ => ?_) (fun _ => ?_)
      | refine Need.mk (by first | omega | decide | rfl) ?_
      | refine Idx.nat (by omega) ?_
      | refine Idx.auto (by first | omega | decide) (by first | omega | decide) ?_
      | refine Cell.ro rfl ?_
      | refine SDraw.all (by kernel_rfl) ?_
      | refine Kept.k0 ?_
      | refine Kept.k1 ?_
      | refine Kept.k2 ?_
      | refine Kept.k3 ?_
      | refine Kept.k4 ?_))
  refine SLoop.invA (fun (j : Nat) S H' => j ≤ l.length ∧ S15 (.slice sa l.length sc) (.int .u32 (crc16 (l.take j) : Int)) (.int .i64 (j : Int)) S ∧ H' = H) (fun j => l.length - j) 0 (Keep.all ⟨Nat.zero_le _, .mk, rfl⟩) ?_
  rintro j S H' ⟨hj, hS, rfl⟩ R hR
  cases hS
  by_cases hlt : j < l.length
  · have hx := List.getElem?_eq_getElem hlt
    generalize l[j] = c at hx
    obtain ⟨r, o, cc, b, e, hm, hc⟩ := hin.at1 hx rfl
    injection e with e _ _
    subst e
    have htk : l.take (j + 1) = l.take j ++ [c] := by rw [List.take_add_one, hx]; rfl
    have hc8 := u8_lt c
    have hlt16 := crc16_lt (l.take j)
    have hnext : ∀ S, S15 (.slice (some ⟨r, o, none⟩) l.length sc) (.int .u32 (it16 8 (crc16 (l.take j) ^^^ (c.toNat * 256)) : Int)) (.int .i64 ((j + 1 : Nat) : Int)) S → R S H' := fun S hS => hR (j + 1) _ _ (by omega) (Keep.all ⟨hlt, by rw [htk, crc16_snoc]; exact hS, rfl⟩)
    clear hR hK htk
    generalize crc16 (l.take j) = v at hlt16 hnext
    have e1 : shlI .u32 (c.toNat : Int) 8 = ((c.toNat * 256 : Nat) : Int) := by
      have := shl_nat (k := .u32) rfl (a := c.toNat) (n := 8) (by decide)
      rw [show c.toNat * 2 ^ 8 % 2 ^ IntKind.u32.bits = c.toNat * 256 by show c.toNat * 256 % 4294967296 = _; omega] at this
      exact this
    have e2 : bitXor .u32 (v : Int) ((c.toNat * 256 : Nat) : Int) = ((v ^^^ (c.toNat * 256) : Nat) : Int) := bitXor_nat rfl (by show v < 4294967296; omega) (by show c.toNat * 256 < 4294967296; omega)
    have hlt2 := x256_lt hlt16 hc8
    repeat' ((conv => whnf); (first
        | refine Branch.dt (by omega) ?_
        | refine Look.cell hm hc ?_
        | refine Idx.nat (by omega) ?_
        | with_reducible refine Val.to _ e1 ?_
        | with_reducible refine Val.to _ e2 ?_
        | refine New.mk (fun _ => ?_)
        | refine Look.at0 ?_
        | refine Cell.row ?_
        | refine Cell.buf ?_
        | refine Cells.row rfl ?_
        | refine Put.row rfl ?_
        | refine Put.buf rfl ?_
        | refine Look.at1 ?_
        | refine Look.at2 ?_
        | refine Look.at3 ?_
        | refine Look.at4 ?_
        | refine Look.at5 ?_
        | refine Look.at6 ?_
        | refine Look.at7 ?_
        | refine Look.at8 ?_
        | with_reducible refine Val.i64 (by omega) (by omega) ?_
        | with_reducible refine Val.u8 (by omega) (by omega) ?_
        | with_reducible refine Val.u32 (by omega) (by omega) ?_
        | with_reducible refine Val.u64 (by omega) (by omega) ?_
        | with_reducible refine Val.u8m ?_
        | with_reducible refine Val.u32m ?_
        | with_reducible refine Val.u64m ?_
        | with_reducible refine Val.shr8 ?_
        | with_reducible refine Val.shr16 (by decide) ?_
        | with_reducible refine Val.shr24 (by decide) ?_
        | with_reducible refine Val.raw ?_
        | refine Branch.not ?_
        | refine Branch.and ?_
        | refine Branch.or ?_
        | refine Branch.dt (by assumption) ?_
        | refine Branch.df (by assumption) ?_
        | refine Branch.dt rfl ?_
        | refine Branch.dt (by omega) ?_
        | refine Branch.df (by omega) ?_
        | refine Branch.t rfl ?_
        | refine Branch.f rfl ?_
        | refine Branch.t (by assumption) ?_
        | refine Branch.f (by assumption) ?_
        | refine Branch.d (fun _ => ?_) (fun _ => ?_)
        | refine Branch.mk (fun _ => ?_) (fun _ => ?_)
        | refine Need.mk (by first | omega | decide | rfl) ?_
        | refine Idx.nat (by omega) ?_
        | refine Idx.auto (by first | omega | decide) (by first | omega | decide) ?_
        | refine Cell.ro rfl ?_
        | refine SDraw.all (by kernel_rfl) ?_
        | refine Kept.k0 ?_
        | refine Kept.k1 ?_
        | refine Kept.k2 ?_
        | refine Kept.k3 ?_
        | refine Kept.k4 ?_))
    generalize v ^^^ (c.toNat * 256) = v2 at hlt2 hnext
    refine SLoop.invA (fun (i : Nat) S H2 => i ≤ 8 ∧ S15i (.slice (some ⟨r, o, none⟩) l.length sc) (.int .u32 (it16 i v2 : Int)) (.int .i64 (j : Int)) (.int .i64 (i : Int)) S ∧ H2 = H') (fun i => 8 - i) 0 (Keep.all ⟨by decide, .mk, rfl⟩) ?_
    rintro i S H2 ⟨hi, hS, rfl⟩ R2 hR2
    cases hS
    by_cases hi8 : i < 8
    · obtain ⟨q, t, u, hq, ht, hu, f1, f2, f3, f4, f5, f6⟩ := n16 (k := .u32) rfl (by decide) (it16_lt hlt2 i)
      have hnext2 : ∀ S, S15i (.slice (some ⟨r, o, none⟩) l.length sc) (.int .u32 (bs16 (it16 i v2) : Int)) (.int .i64 (j : Int)) (.int .i64 ((i + 1 : Nat) : Int)) S → R2 S H2 := fun S hS => hR2 (i + 1) _ _ (by omega) (Keep.all ⟨hi8, hS, rfl⟩)
      clear hR2 hnext
      generalize bs16 (it16 i v2) = w at f5 hnext2 hq
      generalize it16 i v2 = v3 at f1 f3
      rcases hq with ⟨rfl, rfl⟩ | ⟨rfl, rfl⟩
      · repeat' ((conv => whnf); (first
            | refine Branch.dt (by omega) ?_
            | with_reducible refine Val.to _ f1 ?_
            | with_reducible refine Val.to _ f2 ?_
            | refine Val.mk (shlI .u32 (v3 : Int) 1) rfl ?_
            | with_reducible refine Val.to _ f3 ?_
            | refine Branch.f rfl ?_
            | exact hnext2 _ .mk
            | refine New.mk (fun _ => ?_)
            | refine Look.at0 ?_
            | refine Cell.row ?_
            | refine Cell.buf ?_
            | refine Cells.row rfl ?_
            | refine Put.row rfl ?_
            | refine Put.buf rfl ?_
            | refine Look.at1 ?_
            | refine Look.at2 ?_
            | refine Look.at3 ?_
            | refine Look.at4 ?_
            | refine Look.at5 ?_
            | refine Look.at6 ?_
            | refine Look.at7 ?_
            | refine Look.at8 ?_
            | with_reducible refine Val.i64 (by omega) (by omega) ?_
            | with_reducible refine Val.u8 (by omega) (by omega) ?_
            | with_reducible refine Val.u32 (by omega) (by omega) ?_
            | with_reducible refine Val.u64 (by omega) (by omega) ?_
            | with_reducible refine Val.u8m ?_
            | with_reducible refine Val.u32m ?_
            | with_reducible refine Val.u64m ?_
            | with_reducible refine Val.shr8 ?_
            | with_reducible refine Val.shr16 (by decide) ?_
            | with_reducible refine Val.shr24 (by decide) ?_
            | with_reducible refine Val.raw ?_
            | refine Branch.not ?_
            | refine Branch.and ?_
            | refine Branch.or ?_
            | refine Branch.dt (by assumption) ?_
            | refine Branch.df (by assumption) ?_
            | refine Branch.dt rfl ?_
            | refine Branch.dt (by omega) ?_
            | refine Branch.df (by omega) ?_
            | refine Branch.t rfl ?_
            | refine Branch.f rfl ?_
            | refine Branch.t (by assumption) ?_
            | refine Branch.f (by assumption) ?_
            | refine Branch.d (fun _ => ?_) (fun _ => ?_)
            | refine Branch.mk (fun _ => ?_) (fun _ => ?_)
            | refine Need.mk (by first | omega | decide | rfl) ?_
            | refine Idx.nat (by omega) ?_
            | refine Idx.auto (by first | omega | decide) (by first | omega | decide) ?_
            | refine Cell.ro rfl ?_
            | refine SDraw.all (by kernel_rfl) ?_
            | refine Kept.k0 ?_
            | refine Kept.k1 ?_
            | refine Kept.k2 ?_
            | refine Kept.k3 ?_
            | refine Kept.k4 ?_))
      · repeat' ((conv => whnf); (first
            | refine Branch.dt (by omega) ?_
            | with_reducible refine Val.to _ f1 ?_
            | with_reducible refine Val.to _ f2 ?_
            | refine Val.mk (shlI .u32 (v3 : Int) 1) rfl ?_
            | with_reducible refine Val.to _ f3 ?_
            | with_reducible refine Val.to _ f4 ?_
            | refine Branch.t rfl ?_
            | exact hnext2 _ .mk
            | refine New.mk (fun _ => ?_)
            | refine Look.at0 ?_
            | refine Cell.row ?_
            | refine Cell.buf ?_
            | refine Cells.row rfl ?_
            | refine Put.row rfl ?_
            | refine Put.buf rfl ?_
            | refine Look.at1 ?_
            | refine Look.at2 ?_
            | refine Look.at3 ?_
            | refine Look.at4 ?_
            | refine Look.at5 ?_
            | refine Look.at6 ?_
            | refine Look.at7 ?_
            | refine Look.at8 ?_
            | with_reducible refine Val.i64 (by omega) (by omega) ?_
            | with_reducible refine Val.u8 (by omega) (by omega) ?_
            | with_reducible refine Val.u32 (by omega) (by omega) ?_
            | with_reducible refine Val.u64 (by omega) (by omega) ?_
            | with_reducible refine Val.u8m ?_
            | with_reducible refine Val.u32m ?_
            | with_reducible refine Val.u64m ?_
            | with_reducible refine Val.shr8 ?_
            | with_reducible refine Val.shr16 (by decide) ?_
            | with_reducible refine Val.shr24 (by decide) ?_
            | with_reducible refine Val.raw ?_
            | refine Branch.not ?_
            | refine Branch.and ?_
            | refine Branch.or ?_
            | refine Branch.dt (by assumption) ?_
            | refine Branch.df (by assumption) ?_
            | refine Branch.dt rfl ?_
            | refine Branch.dt (by omega) ?_
            | refine Branch.df (by omega) ?_
            | refine Branch.t rfl ?_
            | refine Branch.f rfl ?_
            | refine Branch.t (by assumption) ?_
            | refine Branch.f (by assumption) ?_
            | refine Branch.d (fun _ => ?_) (fun _ => ?_)
            | refine Branch.mk (fun _ => ?_) (fun _ => ?_)
            | refine Need.mk (by first | omega | decide | rfl) ?_
            | refine Idx.nat (by omega) ?_
            | refine Idx.auto (by first | omega | decide) (by first | omega | decide) ?_
            | refine Cell.ro rfl ?_
            | refine SDraw.all (by kernel_rfl) ?_
            | refine Kept.k0 ?_
            | refine Kept.k1 ?_
            | refine Kept.k2 ?_
            | refine Kept.k3 ?_
            | refine Kept.k4 ?_))
    · have e : i = 8 := by omega
      subst e
      clear hR2
      repeat' ((conv => whnf); (first
          | refine Branch.f rfl ?_
          | exact hnext _ .mk
          | refine New.mk (fun _ => ?_)
          | refine Look.at0 ?_
          | refine Cell.row ?_
          | refine Cell.buf ?_
          | refine Cells.row rfl ?_
          | refine Put.row rfl ?_
          | refine Put.buf rfl ?_
          | refine Look.at1 ?_
          | refine Look.at2 ?_
          | refine Look.at3 ?_
          | refine Look.at4 ?_
          | refine Look.at5 ?_
          | refine Look.at6 ?_
          | refine Look.at7 ?_
          | refine Look.at8 ?_
          | with_reducible refine Val.i64 (by omega) (by omega) ?_
          | with_reducible refine Val.u8 (by omega) (by omega) ?_
          | with_reducible refine Val.u32 (by omega) (by omega) ?_
          | with_reducible refine Val.u64 (by omega) (by omega) ?_
          | with_reducible refine Val.u8m ?_
          | with_reducible refine Val.u32m ?_
          | with_reducible refine Val.u64m ?_
          | with_reducible refine Val.shr8 ?_
          | with_reducible refine Val.shr16 (by decide) ?_
          | with_reducible refine Val.shr24 (by decide) ?_
          | with_reducible refine Val.raw ?_
          | refine Branch.not ?_
          | refine Branch.and ?_
          | refine Branch.or ?_
          | refine Branch.dt (by assumption) ?_
          | refine Branch.df (by assumption) ?_
          | refine Branch.dt rfl ?_
          | refine Branch.dt (by omega) ?_
          | refine Branch.df (by omega) ?_
          | refine Branch.t rfl ?_
          | refine Branch.f rfl ?_
          | refine Branch.t (by assumption) ?_
          | refine Branch.f (by assumption) ?_
          | refine Branch.d (fun _ => ?_) (fun _ => ?_)
          | refine Branch.mk (fun _ => ?_) (fun _ => ?_)
          | refine Need.mk (by first | omega | decide | rfl) ?_
          | refine Idx.nat (by omega) ?_
          | refine Idx.auto (by first | omega | decide) (by first | omega | decide) ?_
          | refine Cell.ro rfl ?_
          | refine SDraw.all (by kernel_rfl) ?_
          | refine Kept.k0 ?_
          | refine Kept.k1 ?_
          | refine Kept.k2 ?_
          | refine Kept.k3 ?_
          | refine Kept.k4 ?_))
  · have e : j = l.length := by omega
    subst e
    rw [List.take_length]
    have := crc16_lt l
    clear hR
    repeat' ((conv => whnf); (first
        | refine Branch.df (by omega) ?_
        | with_reducible refine Val.u16 (by omega) (by omega) ?_
        | exact Keep.all hK
        | refine New.mk (fun _ => ?_)
        | refine Look.at0 ?_
        | refine Cell.row ?_
        | refine Cell.buf ?_
        | refine Cells.row rfl ?_
        | refine Put.row rfl ?_
        | refine Put.buf rfl ?_
        | refine Look.at1 ?_
        | refine Look.at2 ?_
        | refine Look.at3 ?_
        | refine Look.at4 ?_
        | refine Look.at5 ?_
        | refine Look.at6 ?_
        | refine Look.at7 ?_
        | refine Look.at8 ?_
        | with_reducible refine Val.i64 (by omega) (by omega) ?_
        | with_reducible refine Val.u8 (by omega) (by omega) ?_
        | with_reducible refine Val.u32 (by omega) (by omega) ?_
        | with_reducible refine Val.u64 (by omega) (by omega) ?_
        | with_reducible refine Val.u8m ?_
        | with_reducible refine Val.u32m ?_
        | with_reducible refine Val.u64m ?_
        | with_reducible refine Val.shr8 ?_
        | with_reducible refine Val.shr16 (by decide) ?_
        | with_reducible refine Val.shr24 (by decide) ?_
        | with_reducible refine Val.raw ?_
        | refine Branch.not ?_
        | refine Branch.and ?_
        | refine Branch.or ?_
        | refine Branch.dt (by assumption) ?_
        | refine Branch.df (by assumption) ?_
        | refine Branch.dt rfl ?_
        | refine Branch.dt (by omega) ?_
        | refine Branch.df (by omega) ?_
        | refine Branch.t rfl ?_
        | refine Branch.f rfl ?_
        | refine Branch.t (by assumption) ?_
        | refine Branch.f (by assumption) ?_
        | refine Branch.d (fun _ => ?_) (fun _ => ?_)
        | refine Branch.mk (fun _ => ?_) (fun _ => ?_)
        | refine Need.mk (by first | omega | decide | rfl) ?_
        | refine Idx.nat (by omega) ?_
        | refine Idx.auto (by first | omega | decide) (by first | omega | decide) ?_
        | refine Cell.ro rfl ?_
        | refine SDraw.all (by kernel_rfl) ?_
        | refine Kept.k0 ?_
        | refine Kept.k1 ?_
        | refine Kept.k2 ?_
        | refine Kept.k3 ?_
        | refine Kept.k4 ?_))
end
end Go.Proofs.YtijnjklofdmelaaDoor

/- Input slices: from what the row tells of one to what a walk knows of it. -/
set_option linter.unusedVariables false
set_option linter.unusedSimpArgs false
namespace Go.Proofs.YtijnjklofdmelaaDoor
open Sx
theorem inS_of {α : Type} {f : α → List Value} {k B : Nat} {R : World → List Value → Prop} {Good : α → Prop} {w : World} {a : Option Addr} {n c : Nat} (h : SliceAt k B R w a n c) (hk0 : 0 < k) (hk : ∀ x, (f x).length = k) (hR : ∀ cs, R w cs → ∃ x, cs = f x ∧ Good x) :
    ∃ H L, L.length = n ∧ InS f k (.slice a L.length c) H L ∧ (∀ x ∈ L, Good x) ∧ Holds w H ∧ ∀ p ∈ H, p.2.excl = false := by
  have hml : n ≤ maxLen := Nat.le_trans h.1 h.2.1
  by_cases hl : 0 < n
  · obtain ⟨b, o, rfl, hb, hc⟩ := h.plain hk0 hl
    obtain ⟨L, h1, h2⟩ := list_of (P := fun j (m : α) => Good m ∧ ∀ i v, (f m)[i]? = some v → w.cell? ⟨b, o + j * k + i, none⟩ = some v) n fun j hj => by
      obtain ⟨cs, hlc, hcell, hr⟩ := hc j hj
      obtain ⟨x, rfl, hg⟩ := hR cs hr
      refine ⟨x, hg, fun i v hi => ?_⟩
      have hik : i < k := by rw [← hk x]; exact (List.getElem?_eq_some_iff.1 hi).1
      exact (hcell i hik).trans hi
    refine ⟨[(b, .ro fun j => w.cell? ⟨b, j, none⟩)], L, h1, ⟨_, c, rfl, by omega, .inr ⟨b, o, _, rfl, .head _, fun j x i v hj hv hi => (h2 j x hj).2 i v hv⟩⟩, fun x hx => ?_, ⟨fun p hp => ?_, List.pairwise_singleton _ _⟩, fun p hp => ?_⟩
    · obtain ⟨j, hlt, rfl⟩ := List.getElem_of_mem hx
      exact (h2 j _ (List.getElem?_eq_getElem hlt)).1
    · obtain rfl := List.mem_singleton.1 hp
      exact ⟨hb, fun _ _ h => h⟩
    · obtain rfl := List.mem_singleton.1 hp
      rfl
  · obtain rfl : n = 0 := by omega
    exact ⟨[], [], rfl, ⟨a, c, rfl, by simp, .inl rfl⟩, fun x hx => (by cases hx), Holds.empty w, fun p hp => by cases hp⟩
/-- Two inputs, side by side. -/
theorem Holds.join {w : World} {H G : Heap} (h1 : Holds w H) (h2 : Holds w G) (x1 : ∀ p ∈ H, p.2.excl = false) (x2 : ∀ p ∈ G, p.2.excl = false) : Holds w (H ++ G) := by
  refine ⟨fun p hp => ?_, List.pairwise_append.2 ⟨h1.sep, h2.sep, fun p hp q hq hx => ?_⟩⟩
  · rcases List.mem_append.1 hp with hp | hp
    · exact h1.at_ p hp
    · exact h2.at_ p hp
  · rw [x1 p hp, x2 q hq] at hx
    rcases hx with hx | hx <;> cases hx
theorem excl_join {H G : Heap} (x1 : ∀ p ∈ H, p.2.excl = false) (x2 : ∀ p ∈ G, p.2.excl = false) : ∀ p ∈ H ++ G, p.2.excl = false := fun p hp => by
  rcases List.mem_append.1 hp with hp | hp
  · exact x1 p hp
  · exact x2 p hp
end Go.Proofs.YtijnjklofdmelaaDoor

/- Layer 1: the laws of the sums of bytes: by walks. -/
set_option linter.unusedVariables false
set_option linter.unusedSimpArgs false
set_option maxRecDepth 100000
set_option maxHeartbeats 4000000
namespace Go.Proofs.YtijnjklofdmelaaDoor
open Sx
theorem byte_of {w : World} {cs : List Value} (h : R5 w cs) : ∃ b : UInt8, cs = cB b ∧ True := by
  obtain ⟨x, rfl, hx⟩ := h
  have := wf_u8 hx
  refine ⟨UInt8.ofNat x.toNat, ?_, trivial⟩
  have e : ((UInt8.ofNat x.toNat).toNat : Int) = x := by
    rw [UInt8.toNat_ofNat']
    omega
  unfold cB
  rw [e]
theorem cB_one : ∀ (x : UInt8), ∀ u ∈ cB x, u.oneCell' = true := fun x u hu => by obtain rfl := List.mem_singleton.1 hu; rfl
section
variable {K : Value → Heap → Prop} {H : Heap}
/-- append([]byte{}, b...) -/
theorem copyB {sv : Value} {l : List UInt8} {p : Nat} {o : Oper} {xs xx : Operand} (hin : InS cB 1 sv H l) (hb : l.length ≤ 140737488355328) (ho : o.op = .call { callee := .builtin .append, args := #[xs, xx], argTypes := #[27, 27] })
    (h : ∀ q c, l.length ≤ c → c ≤ maxLen → K (.slice (some ⟨q, 0, none⟩) l.length c) (bBuf q c l :: H)) : RawV Tryd.prog o [.slice (some ⟨p, 0, none⟩) 0 0, sv] ((p, .row 5 [] (0, 0)) :: H) K := by
  refine RawV.copyS (L := l) (f := cB) (k := 1) (bytes := 1) hin ho (by kernel_rfl) (by decide) (fun _ => rfl) cB_one (by omega) (fun q c h1 h2 => ?_)
  rw [cel_flat]
  exact h q c h1 h2
theorem inB {H : Heap} {q c : Nat} {l : List UInt8} (hm : bBuf q c l ∈ H) (hl : l.length ≤ maxLen) (cc : Nat) : InS cB 1 (.slice (some ⟨q, 0, none⟩) l.length cc) H l := InS.buf hm (cel_flat l).symm (fun _ => rfl) hl
theorem sums_c {sv : Value} {s l : List UInt8} (hin : InS cB 1 sv H l) (hb : l.length ≤ 140737488355328) : SCalls Tryd.prog 4 [.string (strOf s), sv] H fun v _ => v = .bool true := by
  refine enter4 ?_
  obtain ⟨sa, sc, rfl, hml⟩ := hin.sv
  have h15 : ∀ (q c : Nat) (K : Value → Heap → Prop), K (.int .u16 (crc16 l : Int)) (bBuf q c l :: H) → SCalls Tryd.prog 15 [.slice sa l.length sc] (bBuf q c l :: H) K := fun q c K hk => c15 (hin.mono fun p hp => .tail _ hp) hk
  have h14 : ∀ (q c : Nat) (K : Value → Heap → Prop), K (.int .u16 (crc16 l : Int)) (bBuf q c l :: H) → SCalls Tryd.prog 14 [.slice (some ⟨q, 0, none⟩) l.length c] (bBuf q c l :: H) K := fun q c K hk => c14 (inB (.head _) hml _) hk
  repeat' ((conv => whnf); (first
      | refine c11 ?_
      | refine c13 ?_
      | refine copyB hin hb rfl (fun q c g1 g2 => ?_)
      | refine h14 _ _ _ ?_
      | refine h15 _ _ _ ?_
      | refine c12 ?_
      | refine Branch.t (by first | (simp; done) | omega) ?_
      | exact Keep.sub [] (List.nil_sublist _) rfl
      | refine New.mk (fun _ => ?_)
      | refine Look.at0 ?_
      | refine Cell.row ?_
      | refine Cell.buf ?_
      | refine Cells.row rfl ?_
      | refine Put.row rfl ?_
      | refine Put.buf rfl ?_
      | refine Look.at1 ?_
      | refine Look.at2 ?_
      | refine Look.at3 ?_
      | refine Look.at4 ?_
      | refine Look.at5 ?_
      | refine Look.at6 ?_
      | refine Look.at7 ?_
      | refine Look.at8 ?_
      | with_reducible refine Val.i64 (by omega) (by omega) ?_
      | with_reducible refine Val.u8 (by omega) (by omega) ?_
      | with_reducible refine Val.u32 (by omega) (by omega) ?_
      | with_reducible refine Val.u64 (by omega) (by omega) ?_
      | with_reducible refine Val.u8m ?_
      | with_reducible refine Val.u32m ?_
      | with_reducible refine Val.u64m ?_
      | with_reducible refine Val.shr8 ?_
      | with_reducible refine Val.shr16 (by decide) ?_
      | with_reducible refine Val.shr24 (by decide) ?_
      | with_reducible refine Val.raw ?_
      | refine Branch.not ?_
      | refine Branch.and ?_
      | refine Branch.or ?_
      | refine Branch.dt (by assumption) ?_
      | refine Branch.df (by assumption) ?_
      | refine Branch.dt rfl ?_
      | refine Branch.dt (by omega) ?_
      | refine Branch.df (by omega) ?_
      | refine Branch.t rfl ?_
      | refine Branch.f rfl ?_
      | refine Branch.t (by assumption) ?_
      | refine Branch.f (by assumption) ?_
      | refine Branch.d (fun _ => ?_) (fun _ => ?_)
      | refine Branch.mk (fun _ => ?_) (fun _ => ?_)
      | refine Need.mk (by first | omega | decide | rfl) ?_
      | refine Idx.nat (by omega) ?_
      | refine Idx.auto (by first | omega | decide) (by first | omega | decide) ?_
      | refine Cell.ro rfl ?_
      | refine SDraw.all (by kernel_rfl) ?_
      | refine Kept.k0 ?_
      | refine Kept.k1 ?_
      | refine Kept.k2 ?_
      | refine Kept.k3 ?_
      | refine Kept.k4 ?_))
theorem remain_c {sv : Value} {l : List UInt8} (hin : InS cB 1 sv H l) (hb : l.length + 2 ≤ 140737488355328) : SCalls Tryd.prog 5 [sv] H fun v _ => v = .bool true := by
  refine enter5 ?_
  obtain ⟨sa, sc, rfl, hml⟩ := hin.sv
  have hlt := crc16_lt l
  obtain ⟨hi, hhi⟩ : ∃ b : UInt8, b.toNat = crc16 l / 256 := ⟨UInt8.ofNat (crc16 l / 256), by rw [UInt8.toNat_ofNat']; omega⟩
  obtain ⟨lo, hlo⟩ : ∃ b : UInt8, b.toNat = crc16 l % 256 := ⟨UInt8.ofNat (crc16 l % 256), by rw [UInt8.toNat_ofNat']; omega⟩
  have hz := crc16_zero hhi hlo
  have h14 : ∀ (q c : Nat) (H : Heap) (K : Value → Heap → Prop), K (.int .u16 (crc16 l : Int)) (bBuf q c l :: H) → SCalls Tryd.prog 14 [.slice (some ⟨q, 0, none⟩) l.length c] (bBuf q c l :: H) K := fun q c H K hk => c14 (inB (.head _) hml _) hk
  have hlen : (l ++ [hi] ++ [lo]).length = l.length + 2 := by simp
  have h14b : ∀ (q c : Nat) (H : Heap) (K : Value → Heap → Prop), K (.int .u16 0) (bBuf q c (l ++ [hi] ++ [lo]) :: H) → SCalls Tryd.prog 14 [.slice (some ⟨q, 0, none⟩) (l.length + 2) c] (bBuf q c (l ++ [hi] ++ [lo]) :: H) K := fun q c H K hk => by
    have := c14 (K := K) (H := bBuf q c (l ++ [hi] ++ [lo]) :: H) (inB (.head _) (by rw [hlen]; simp only [maxLen]; omega) c) (by rw [hz]; exact hk)
    rwa [hlen] at this
  have hc2 : ∀ (q c : Nat) (p : Nat) (o : Oper) (xs xx : Operand) (K : Value → Heap → Prop), o.op = .call { callee := .builtin .append, args := #[xs, xx], argTypes := #[27, 27] } → (∀ q2 c2, l.length ≤ c2 → c2 ≤ maxLen → K (.slice (some ⟨q2, 0, none⟩) l.length c2) (bBuf q2 c2 l :: bBuf q c l :: H)) →
      RawV Tryd.prog o [.slice (some ⟨p, 0, none⟩) 0 0, .slice sa l.length sc] ((p, .row 5 [] (0, 0)) :: bBuf q c l :: H) K := fun q c p o xs xx K ho hk => copyB (hin.mono fun p hp => .tail _ hp) (by omega) ho hk
  have e1 : ∀ K : Int → Prop, K (hi.toNat : Int) → Val (shrI .u16 (crc16 l : Int) 8) K := fun K hk => Val.to _ (by rw [hhi]; exact shr_nat (k := .u16) (n := 8) (by decide)) hk
  have hi8 := u8_lt hi
  have lo8 := u8_lt lo
  have e2 : ∀ K : Int → Prop, K (lo.toNat : Int) → Val (IntKind.u8.wrap (crc16 l : Int)) K := fun K hk => Val.to _ (by rw [wrap_u8, hlo]; omega) hk
  have happ : ∀ (b q c : Nat) (H : Heap) (o : Oper) (xs xx : Operand) (K : Value → Heap → Prop), l.length ≤ c → c ≤ maxLen → o.op = .call { callee := .builtin .append, args := #[xs, xx], argTypes := #[27, 27] } → (∀ q2 c2, K (.slice (some ⟨q2, 0, none⟩) (l.length + 2) c2) (bBuf q2 c2 (l ++ [hi] ++ [lo]) :: (b, .row 5 [.int .u8 (hi.toNat : Int), .int .u8 (lo.toNat : Int)] (0, 0)) :: H)) →
      RawV Tryd.prog o [.slice (some ⟨q, 0, none⟩) l.length c, .slice (some ⟨b, 0, none⟩) 2 2] ((b, .row 5 [.int .u8 (hi.toNat : Int), .int .u8 (lo.toNat : Int)] (0, 0)) :: bBuf q c l :: H) K := by
    intro b q c H o xs xx K h1 h2 ho hk
    refine RawV.appT (A := [(b, .row 5 [.int .u8 (hi.toNat : Int), .int .u8 (lo.toNat : Int)] (0, 0))]) (B := H) (n := l.length) (m := 2) (cs := cel l) (news := cel ([hi] ++ [lo])) (r2 := b) (o2 := 0) (size := 1) (bytes := 1) (e := 5) ho (by kernel_rfl) (by decide) (by rw [cel_len, Nat.mul_one]) rfl h1 h2 (.head _) rfl (fun j v hj => by rw [Nat.zero_add]; exact hj) (cel_one _) (by simp only [maxLen]; omega) (by omega) (fun r' cap' g1 g2 => ?_)
    rw [← cel_app, ← List.append_assoc]
    exact hk r' cap'
  repeat' ((conv => whnf); (first
      | refine copyB hin (by omega) rfl (fun q c g1 g2 => ?_)
      | refine h14 _ _ _ _ ?_
      | refine hc2 _ _ _ _ _ _ _ rfl (fun q2 c2 g3 g4 => ?_)
      | with_reducible refine e1 _ ?_
      | with_reducible refine e2 _ ?_
      | refine happ _ _ _ _ _ _ _ _ g3 g4 rfl (fun q3 c3 => ?_)
      | refine h14b _ _ _ _ ?_
      | refine c12 ?_
      | refine Branch.t (by first | (simp; done) | omega) ?_
      | exact Keep.sub [] (List.nil_sublist _) rfl
      | refine New.mk (fun _ => ?_)
      | refine Look.at0 ?_
      | refine Cell.row ?_
      | refine Cell.buf ?_
      | refine Cells.row rfl ?_
      | refine Put.row rfl ?_
      | refine Put.buf rfl ?_
      | refine Look.at1 ?_
      | refine Look.at2 ?_
      | refine Look.at3 ?_
      | refine Look.at4 ?_
      | refine Look.at5 ?_
      | refine Look.at6 ?_
      | refine Look.at7 ?_
      | refine Look.at8 ?_
      | with_reducible refine Val.i64 (by omega) (by omega) ?_
      | with_reducible refine Val.u8 (by omega) (by omega) ?_
      | with_reducible refine Val.u32 (by omega) (by omega) ?_
      | with_reducible refine Val.u64 (by omega) (by omega) ?_
      | with_reducible refine Val.u8m ?_
      | with_reducible refine Val.u32m ?_
      | with_reducible refine Val.u64m ?_
      | with_reducible refine Val.shr8 ?_
      | with_reducible refine Val.shr16 (by decide) ?_
      | with_reducible refine Val.shr24 (by decide) ?_
      | with_reducible refine Val.raw ?_
      | refine Branch.not ?_
      | refine Branch.and ?_
      | refine Branch.or ?_
      | refine Branch.dt (by assumption) ?_
      | refine Branch.df (by assumption) ?_
      | refine Branch.dt rfl ?_
      | refine Branch.dt (by omega) ?_
      | refine Branch.df (by omega) ?_
      | refine Branch.t rfl ?_
      | refine Branch.f rfl ?_
      | refine Branch.t (by assumption) ?_
      | refine Branch.f (by assumption) ?_
      | refine Branch.d (fun _ => ?_) (fun _ => ?_)
      | refine Branch.mk (fun _ => ?_) (fun _ => ?_)
      | refine Need.mk (by first | omega | decide | rfl) ?_
      | refine Idx.nat (by omega) ?_
      | refine Idx.auto (by first | omega | decide) (by first | omega | decide) ?_
      | refine Cell.ro rfl ?_
      | refine SDraw.all (by kernel_rfl) ?_
      | refine Kept.k0 ?_
      | refine Kept.k1 ?_
      | refine Kept.k2 ?_
      | refine Kept.k3 ?_
      | refine Kept.k4 ?_))
end
theorem BitsSumsW (a0 : ByteArray) (a1a : Option Addr) (a1l : Nat) (a1c : Nat) (w : World) (h0_0 : a0.size ≤ reachBytes) (h1_0 : SliceAt 1 B5 R5 w a1a a1l a1c) :
    Calls Tryd.prog 4 #[.string a0, .slice a1a a1l a1c] w fun e w' => e = .returned (.bool true) ∧ Go.RowKit.Below w.heap.size w w' := by
  have hb := h1_0.2.2.1
  obtain ⟨H, L, rfl, hin, _, hw, x⟩ := inS_of (f := cB) (Good := fun _ => True) h1_0 (by decide) (fun _ => rfl) (fun cs hc => byte_of hc)
  have e : B5 = 1 := rfl
  rw [e] at hb
  simp only [reachBytes] at hb
  exact (sums_c (s := a0.data.toList) hin (by omega)).fin w hw x
theorem BitsRemainW (a0a : Option Addr) (a0l : Nat) (a0c : Nat) (w : World) (h0_0 : SliceAt 1 B5 R5 w a0a a0l a0c) :
    Calls Tryd.prog 5 #[.slice a0a a0l a0c] w fun e w' => e = .returned (.bool true) ∧ Go.RowKit.Below w.heap.size w w' := by
  have hb := h0_0.2.2.1
  obtain ⟨H, L, rfl, hin, _, hw, x⟩ := inS_of (f := cB) (Good := fun _ => True) h0_0 (by decide) (fun _ => rfl) (fun cs hc => byte_of hc)
  have e : B5 = 1 := rfl
  rw [e] at hb
  simp only [reachBytes] at hb
  exact (remain_c hin (by omega)).fin w hw x
end Go.Proofs.YtijnjklofdmelaaDoor

/- Layer 1: the law of stuffing: by walks. -/
set_option linter.unusedVariables false
set_option linter.unusedSimpArgs false
set_option maxRecDepth 100000
set_option maxHeartbeats 4000000
namespace Go.Proofs.YtijnjklofdmelaaDoor
open Sx
/-- Unstuffing, as long as it goes. -/
def uRun : St → List UInt8 → Option St
  | s, [] => some s
  | s, b :: r => if s.n = 5 ∧ b.toNat = s.lv then none else uRun ⟨if s.n = 5 then s.out else s.out ++ [b], b.toNat, tk s.lv s.n b.toNat⟩ r
theorem unsR_run : ∀ (x y : List UInt8) (s s' : St) (j : Nat), uRun s x = some s' → unsR s j (x ++ y) = unsR s' (j + x.length) y
  | [], y, s, s', j, h => by
    injection h with h
    subst h; rfl
  | b :: x, y, s, s', j, h => by
    show (if s.n = 5 ∧ b.toNat = s.lv then _ else _) = _
    unfold uRun at h
    by_cases hc : s.n = 5 ∧ b.toNat = s.lv
    · rw [if_pos hc] at h; cases h
    · rw [if_neg hc] at h ⊢
      show unsR _ (j + 1) (x ++ y) = _
      rw [unsR_run x y _ s' (j + 1) h, List.length_cons, show j + 1 + x.length = j + (x.length + 1) by omega]
theorem uRun_app : ∀ (x y : List UInt8) (s s' : St), uRun s x = some s' → uRun s (x ++ y) = uRun s' y
  | [], y, s, s', h => by
    injection h with h
    subst h; rfl
  | b :: x, y, s, s', h => by
    show (if s.n = 5 ∧ b.toNat = s.lv then _ else _) = _
    unfold uRun at h
    by_cases hc : s.n = 5 ∧ b.toNat = s.lv
    · rw [if_pos hc] at h; cases h
    · rw [if_neg hc] at h ⊢
      exact uRun_app x y _ s' h
theorem stf_run (l : List UInt8) : (∀ b ∈ l, isB b = true) → uRun ⟨[], 0, 0⟩ (stf l).out = some ⟨l, (stf l).lv, (stf l).n⟩ ∧ ∀ b ∈ (stf l).out, isB b = true := by
  induction l using snoc_ind with
  | h0 => exact fun _ => ⟨rfl, fun b hb => by cases hb⟩
  | h1 l b ih =>
    intro hB
    obtain ⟨ih, ihB⟩ := ih fun x hx => hB x (List.mem_append_left _ hx)
    have hb := hB b (List.mem_append_right _ (.head _))
    have hn := (St.ok l).1
    rw [stf_snoc]
    generalize stf l = s at ih ihB hn
    obtain ⟨out, lv, n⟩ := s
    dsimp only at ih ihB hn
    have hn5 : ¬ n = 5 := by omega
    unfold St.step
    dsimp only
    split
    · rename_i h5
      have ho := oth_n hb
      refine ⟨?_, fun x hx => ?_⟩
      · show uRun _ (out ++ [b] ++ [oth b]) = some ⟨l ++ [b], (oth b).toNat, 1⟩
        rw [List.append_assoc, uRun_app _ _ _ _ ih]
        show (if n = 5 ∧ b.toNat = lv then _ else _) = _
        rw [if_neg (fun h => hn5 h.1)]
        dsimp only
        rw [if_neg hn5, h5]
        show (if (5 : Nat) = 5 ∧ (oth b).toNat = b.toNat then _ else _) = _
        rw [if_neg (fun h => by omega)]
        show some _ = _
        have e : tk b.toNat 5 (oth b).toNat = 1 := by unfold tk; rw [if_neg (by omega)]
        rw [e]; rfl
      · simp only [List.mem_append, List.mem_singleton] at hx
        rcases hx with (hx | rfl) | rfl
        · exact ihB x hx
        · exact hb
        · exact oth_b
    · refine ⟨?_, fun x hx => ?_⟩
      · show uRun _ (out ++ [b]) = _
        rw [uRun_app _ _ _ _ ih]
        show (if n = 5 ∧ b.toNat = lv then _ else _) = _
        rw [if_neg (fun h => hn5 h.1)]
        dsimp only
        rw [if_neg hn5]; rfl
      · simp only [List.mem_append, List.mem_singleton] at hx
        rcases hx with hx | rfl
        · exact ihB x hx
        · exact hb
theorem uns_stf {l : List UInt8} (hB : ∀ b ∈ l, isB b = true) : uns (stf l).out = (l, (stf l).out.length, 0) := by
  have h := unsR_run (stf l).out [] _ _ 0 (stf_run l hB).1
  rw [List.append_nil, Nat.zero_add] at h
  show unsR _ 0 _ = _
  rw [h]
  have hn := (St.ok l).1
  show (if (stf l).n = 5 then _ else _) = _
  rw [if_neg (by omega)]
theorem chk_ok {l : List UInt8} (hl : l.length ≤ 65536) (hB : ∀ b ∈ l, isB b = true) : chk l = 0 := by
  unfold chk
  rw [if_neg (by omega), if_pos (List.all_eq_true.2 hB)]
inductive S6 (A0 A3 A13 A14 : Value) : List Value → Prop
  | mk {r1 r2 r4 r5 r6 r7 r8 r9 r10 r11 r12 r15 r16 r17 r18 r19 r20 r21 r22 r23 r24 r25 r26 r27 r28 r29 r30 r31 r32 r33 r34 r35 r36 r37 r38 r39 r40 r41 r42 r43 r44 r45 r46 r47 r48 r49 r50 r51 r52 r53 r54 r55 r56 r57 r58 r59 r60 r61 r62 r63 r64 r65 r66 r67 r68 r69 r70 r71 r72 r73 r74 r75 r76 r77 r78 r79 r80 r81 r82 r83 r84 r85 r86 r87 r88 r89 r90 r91 r92 r93 r94 r95 r96 r97 r98 r99 r100 r101 r102 r103 r104 r105 r106 r107 r108 r109 r110 r111 r112 r113 r114 : Value} : S6 A0 A3 A13 A14 [A0, r1, r2, A3, r4, r5, r6, r7, r8, r9, r10, r11, r12, A13, A14, r15, r16, r17, r18, r19, r20, r21, r22, r23, r24, r25, r26, r27, r28, r29, r30, r31, r32, r33, r34, r35, r36, r37, r38, r39, r40, r41, r42, r43, r44, r45, r46, r47, r48, r49, r50, r51, r52, r53, r54, r55, r56, r57, r58, r59, r60, r61, r62, r63, r64, r65, r66, r67, r68, r69, r70, r71, r72, r73, r74, r75, r76, r77, r78, r79, r80, r81, r82, r83, r84, r85, r86, r87, r88, r89, r90, r91, r92, r93, r94, r95, r96, r97, r98, r99, r100, r101, r102, r103, r104, r105, r106, r107, r108, r109, r110, r111, r112, r113, r114]
theorem stuffs_c {H : Heap} {l : List UInt8} : SCalls Tryd.prog 6 [.string (strOf l)] H fun v _ => v = .bool true := by
  refine enter6 ?_
  by_cases h0 : chk l = 0
  · have e16 := fun (K : Value → Heap → Prop) hk => c16 (K := K) (H := H) h0 hk
    have e17 := fun (K : Value → Heap → Prop) hk => c17 (K := K) (H := H) h0 hk
    have e18 := fun (K : Value → Heap → Prop) hk => c18 (K := K) (H := H) h0 hk
    have e19 := fun (K : Value → Heap → Prop) hk => c19 (K := K) (H := H) h0 hk
    obtain ⟨_, hl, hB⟩ : chk l = 0 ∧ l.length ≤ 65536 ∧ ∀ b ∈ l, isB b = true := by
      rcases chk_cases l with h | ⟨h, _⟩
      · exact h
      · exact absurd h0 h
    have hu := uns_stf hB
    have hBa := (stf_run l hB).2
    generalize (stf l).out = a at e16 e17 hu hBa
    generalize uns l = u at e18 e19
    obtain ⟨u1, u2, u3⟩ := u
    have hsz : (strOf a).size = a.length := strOf_size a
    by_cases hla : a.length ≤ 65536
    · have hca := chk_ok hla hBa
      have e18a := fun (K : Value → Heap → Prop) hk => c18 (K := K) (H := H) hca hk
      rw [hu, ← hsz] at e18a
      repeat' ((conv => whnf); (first
          | with_reducible refine e16 _ ?_
          | with_reducible refine e17 _ ?_
          | with_reducible refine e18 _ ?_
          | with_reducible refine e19 _ ?_
          | refine Branch.f (by first | (simp; done) | omega) ?_
          | refine Branch.df (by omega) ?_
          | refine New.mk (fun _ => ?_)
          | refine Look.at0 ?_
          | refine Cell.row ?_
          | refine Cell.buf ?_
          | refine Cells.row rfl ?_
          | refine Put.row rfl ?_
          | refine Put.buf rfl ?_
          | refine Look.at1 ?_
          | refine Look.at2 ?_
          | refine Look.at3 ?_
          | refine Look.at4 ?_
          | refine Look.at5 ?_
          | refine Look.at6 ?_
          | refine Look.at7 ?_
          | refine Look.at8 ?_
          | with_reducible refine Val.i64 (by omega) (by omega) ?_
          | with_reducible refine Val.u8 (by omega) (by omega) ?_
          | with_reducible refine Val.u32 (by omega) (by omega) ?_
          | with_reducible refine Val.u64 (by omega) (by omega) ?_
          | with_reducible refine Val.u8m ?_
          | with_reducible refine Val.u32m ?_
          | with_reducible refine Val.u64m ?_
          | with_reducible refine Val.shr8 ?_
          | with_reducible refine Val.shr16 (by decide) ?_
          | with_reducible refine Val.shr24 (by decide) ?_
          | with_reducible refine Val.raw ?_
          | refine Branch.not ?_
          | refine Branch.and ?_
          | refine Branch.or ?_
          | refine Branch.dt (by assumption) ?_
          | refine Branch.df (by assumption) ?_
          | refine Branch.dt rfl ?_
          | refine Branch.dt (by omega) ?_
          | refine Branch.df (by omega) ?_
          | refine Branch.t rfl ?_
          | refine Branch.f rfl ?_
          | refine Branch.t (by assumption) ?_
          | refine Branch.f (by assumption) ?_
          | refine Branch.d (fun _ => ?_) (fun _ => ?_)
          | refine Branch.mk (fun _ => ?_) (fun _ => ?_)
          | refine Need.mk (by first | omega | decide | rfl) ?_
          | refine Idx.nat (by omega) ?_
          | refine Idx.auto (by first | omega | decide) (by first | omega | decide) ?_
          | refine Cell.ro rfl ?_
          | refine SDraw.all (by kernel_rfl) ?_
          | refine Kept.k0 ?_
          | refine Kept.k1 ?_
          | refine Kept.k2 ?_
          | refine Kept.k3 ?_
          | refine Kept.k4 ?_))
      refine SLoop.invA (fun (j : Nat) S H' => ∃ out lv n, At a j out lv n ∧ S6 (.string (strOf l)) (.string (strOf a)) (.int .i64 (n : Int)) (.int .i64 (j : Int)) S ∧ H' = H) (fun j => a.length - j) 0 (Keep.all ⟨_, _, _, At.zero a, .mk, rfl⟩) ?_
      rintro j S H' ⟨out, lv, n, hA, hS, rfl⟩ R hR
      cases hS
      have hj := hA.le
      have k1 := hA.n5
      clear e16 e17 e18 e19
      by_cases hlt : j < a.length
      · have hx := List.getElem?_eq_getElem hlt
        generalize a[j] = c at hx
        have hat := byteAt_of hx
        have hnot : ¬ (n = 5 ∧ c.toNat = lv) := fun h => by
          have := hA.stop hx h.1 h.2
          rw [hu] at this
          injection this with _ h2
          injection h2 with _ h3
          cases h3
        have hnx := hA.next hx hnot
        have k2 := hnx.n5
        have hnext := fun S hS => hR (j + 1) S H' (by omega) (Keep.all ⟨_, _, _, hnx, hS, rfl⟩)
        clear hR e18a
        rcases hA.last with ⟨rfl, rfl, rfl⟩ | ⟨hj0, d, hd, rfl⟩
        · have hc0 : 0 < c.toNat := by rcases isB_cases (hBa c (List.mem_of_getElem? hx)) with ⟨h, _⟩ | ⟨h, _⟩ <;> omega
          rw [show tk 0 0 c.toNat = 1 by unfold tk; rw [if_neg (by omega)]] at hnext
          repeat' ((conv => whnf); (first
              | refine Branch.dt (by omega) ?_
              | refine Branch.f rfl ?_
              | refine Branch.df (by decide) ?_
              | exact hnext _ .mk
              | refine New.mk (fun _ => ?_)
              | refine Look.at0 ?_
              | refine Cell.row ?_
              | refine Cell.buf ?_
              | refine Cells.row rfl ?_
              | refine Put.row rfl ?_
              | refine Put.buf rfl ?_
              | refine Look.at1 ?_
              | refine Look.at2 ?_
              | refine Look.at3 ?_
              | refine Look.at4 ?_
              | refine Look.at5 ?_
              | refine Look.at6 ?_
              | refine Look.at7 ?_
              | refine Look.at8 ?_
              | with_reducible refine Val.i64 (by omega) (by omega) ?_
              | with_reducible refine Val.u8 (by omega) (by omega) ?_
              | with_reducible refine Val.u32 (by omega) (by omega) ?_
              | with_reducible refine Val.u64 (by omega) (by omega) ?_
              | with_reducible refine Val.u8m ?_
              | with_reducible refine Val.u32m ?_
              | with_reducible refine Val.u64m ?_
              | with_reducible refine Val.shr8 ?_
              | with_reducible refine Val.shr16 (by decide) ?_
              | with_reducible refine Val.shr24 (by decide) ?_
              | with_reducible refine Val.raw ?_
              | refine Branch.not ?_
              | refine Branch.and ?_
              | refine Branch.or ?_
              | refine Branch.dt (by assumption) ?_
              | refine Branch.df (by assumption) ?_
              | refine Branch.dt rfl ?_
              | refine Branch.dt (by omega) ?_
              | refine Branch.df (by omega) ?_
              | refine Branch.t rfl ?_
              | refine Branch.f rfl ?_
              | refine Branch.t (by assumption) ?_
              | refine Branch.f (by assumption) ?_
              | refine Branch.d (fun _ => ?_) (fun _ => ?_)
              | refine Branch.mk (fun _ => ?_) (fun _ => ?_)
              | refine Need.mk (by first | omega | decide | rfl) ?_
              | refine Idx.nat (by omega) ?_
              | refine Idx.auto (by first | omega | decide) (by first | omega | decide) ?_
              | refine Cell.ro rfl ?_
              | refine SDraw.all (by kernel_rfl) ?_
              | refine Kept.k0 ?_
              | refine Kept.k1 ?_
              | refine Kept.k2 ?_
              | refine Kept.k3 ?_
              | refine Kept.k4 ?_))
        · obtain ⟨i, rfl⟩ : ∃ i, j = i + 1 := ⟨j - 1, by omega⟩
          rw [show i + 1 - 1 = i by omega] at hd
          have hatd := byteAt_of hd
          unfold tk at hnext k2
          by_cases hcd : c.toNat = d.toNat
          · rw [if_pos hcd] at hnext k2
            have hcd' : (c.toNat : Int) = (d.toNat : Int) := by omega
            repeat' ((conv => whnf); (first
                | refine Branch.dt (by omega) ?_
                | refine Branch.dt hcd' ?_
                | refine Branch.df (by omega) ?_
                | refine Idx.of (i + 1) rfl (by omega) ?_
                | refine Idx.of i rfl (by omega) ?_
                | with_reducible rw [hat]
                | with_reducible rw [hatd]
                | with_reducible refine Val.to (i : Int) (by rw [wrap_i64 (by omega) (by omega)]; omega) ?_
                | exact hnext _ .mk
                | refine New.mk (fun _ => ?_)
                | refine Look.at0 ?_
                | refine Cell.row ?_
                | refine Cell.buf ?_
                | refine Cells.row rfl ?_
                | refine Put.row rfl ?_
                | refine Put.buf rfl ?_
                | refine Look.at1 ?_
                | refine Look.at2 ?_
                | refine Look.at3 ?_
                | refine Look.at4 ?_
                | refine Look.at5 ?_
                | refine Look.at6 ?_
                | refine Look.at7 ?_
                | refine Look.at8 ?_
                | with_reducible refine Val.i64 (by omega) (by omega) ?_
                | with_reducible refine Val.u8 (by omega) (by omega) ?_
                | with_reducible refine Val.u32 (by omega) (by omega) ?_
                | with_reducible refine Val.u64 (by omega) (by omega) ?_
                | with_reducible refine Val.u8m ?_
                | with_reducible refine Val.u32m ?_
                | with_reducible refine Val.u64m ?_
                | with_reducible refine Val.shr8 ?_
                | with_reducible refine Val.shr16 (by decide) ?_
                | with_reducible refine Val.shr24 (by decide) ?_
                | with_reducible refine Val.raw ?_
                | refine Branch.not ?_
                | refine Branch.and ?_
                | refine Branch.or ?_
                | refine Branch.dt (by assumption) ?_
                | refine Branch.df (by assumption) ?_
                | refine Branch.dt rfl ?_
                | refine Branch.dt (by omega) ?_
                | refine Branch.df (by omega) ?_
                | refine Branch.t rfl ?_
                | refine Branch.f rfl ?_
                | refine Branch.t (by assumption) ?_
                | refine Branch.f (by assumption) ?_
                | refine Branch.d (fun _ => ?_) (fun _ => ?_)
                | refine Branch.mk (fun _ => ?_) (fun _ => ?_)
                | refine Need.mk (by first | omega | decide | rfl) ?_
                | refine Idx.nat (by omega) ?_
                | refine Idx.auto (by first | omega | decide) (by first | omega | decide) ?_
                | refine Cell.ro rfl ?_
                | refine SDraw.all (by kernel_rfl) ?_
                | refine Kept.k0 ?_
                | refine Kept.k1 ?_
                | refine Kept.k2 ?_
                | refine Kept.k3 ?_
                | refine Kept.k4 ?_))
          · rw [if_neg hcd] at hnext
            have hcd' : ¬ (c.toNat : Int) = (d.toNat : Int) := by omega
            repeat' ((conv => whnf); (first
                | refine Branch.dt (by omega) ?_
                | refine Branch.df hcd' ?_
                | refine Branch.df (by decide) ?_
                | refine Idx.of (i + 1) rfl (by omega) ?_
                | refine Idx.of i rfl (by omega) ?_
                | with_reducible rw [hat]
                | with_reducible rw [hatd]
                | with_reducible refine Val.to (i : Int) (by rw [wrap_i64 (by omega) (by omega)]; omega) ?_
                | exact hnext _ .mk
                | refine New.mk (fun _ => ?_)
                | refine Look.at0 ?_
                | refine Cell.row ?_
                | refine Cell.buf ?_
                | refine Cells.row rfl ?_
                | refine Put.row rfl ?_
                | refine Put.buf rfl ?_
                | refine Look.at1 ?_
                | refine Look.at2 ?_
                | refine Look.at3 ?_
                | refine Look.at4 ?_
                | refine Look.at5 ?_
                | refine Look.at6 ?_
                | refine Look.at7 ?_
                | refine Look.at8 ?_
                | with_reducible refine Val.i64 (by omega) (by omega) ?_
                | with_reducible refine Val.u8 (by omega) (by omega) ?_
                | with_reducible refine Val.u32 (by omega) (by omega) ?_
                | with_reducible refine Val.u64 (by omega) (by omega) ?_
                | with_reducible refine Val.u8m ?_
                | with_reducible refine Val.u32m ?_
                | with_reducible refine Val.u64m ?_
                | with_reducible refine Val.shr8 ?_
                | with_reducible refine Val.shr16 (by decide) ?_
                | with_reducible refine Val.shr24 (by decide) ?_
                | with_reducible refine Val.raw ?_
                | refine Branch.not ?_
                | refine Branch.and ?_
                | refine Branch.or ?_
                | refine Branch.dt (by assumption) ?_
                | refine Branch.df (by assumption) ?_
                | refine Branch.dt rfl ?_
                | refine Branch.dt (by omega) ?_
                | refine Branch.df (by omega) ?_
                | refine Branch.t rfl ?_
                | refine Branch.f rfl ?_
                | refine Branch.t (by assumption) ?_
                | refine Branch.f (by assumption) ?_
                | refine Branch.d (fun _ => ?_) (fun _ => ?_)
                | refine Branch.mk (fun _ => ?_) (fun _ => ?_)
                | refine Need.mk (by first | omega | decide | rfl) ?_
                | refine Idx.nat (by omega) ?_
                | refine Idx.auto (by first | omega | decide) (by first | omega | decide) ?_
                | refine Cell.ro rfl ?_
                | refine SDraw.all (by kernel_rfl) ?_
                | refine Kept.k0 ?_
                | refine Kept.k1 ?_
                | refine Kept.k2 ?_
                | refine Kept.k3 ?_
                | refine Kept.k4 ?_))
      · clear hR
        repeat' ((conv => whnf); (first
            | refine Branch.df (by omega) ?_
            | refine e18a _ ?_
            | refine c12 ?_
            | refine Branch.t (by first | (simp; done) | rfl) ?_
            | exact Keep.sub [] (List.nil_sublist _) rfl
            | refine New.mk (fun _ => ?_)
            | refine Look.at0 ?_
            | refine Cell.row ?_
            | refine Cell.buf ?_
            | refine Cells.row rfl ?_
            | refine Put.row rfl ?_
            | refine Put.buf rfl ?_
            | refine Look.at1 ?_
            | refine Look.at2 ?_
            | refine Look.at3 ?_
            | refine Look.at4 ?_
            | refine Look.at5 ?_
            | refine Look.at6 ?_
            | refine Look.at7 ?_
            | refine Look.at8 ?_
            | with_reducible refine Val.i64 (by omega) (by omega) ?_
            | with_reducible refine Val.u8 (by omega) (by omega) ?_
            | with_reducible refine Val.u32 (by omega) (by omega) ?_
            | with_reducible refine Val.u64 (by omega) (by omega) ?_
            | with_reducible refine Val.u8m ?_
            | with_reducible refine Val.u32m ?_
            | with_reducible refine Val.u64m ?_
            | with_reducible refine Val.shr8 ?_
            | with_reducible refine Val.shr16 (by decide) ?_
            | with_reducible refine Val.shr24 (by decide) ?_
            | with_reducible refine Val.raw ?_
            | refine Branch.not ?_
            | refine Branch.and ?_
            | refine Branch.or ?_
            | refine Branch.dt (by assumption) ?_
            | refine Branch.df (by assumption) ?_
            | refine Branch.dt rfl ?_
            | refine Branch.dt (by omega) ?_
            | refine Branch.df (by omega) ?_
            | refine Branch.t rfl ?_
            | refine Branch.f rfl ?_
            | refine Branch.t (by assumption) ?_
            | refine Branch.f (by assumption) ?_
            | refine Branch.d (fun _ => ?_) (fun _ => ?_)
            | refine Branch.mk (fun _ => ?_) (fun _ => ?_)
            | refine Need.mk (by first | omega | decide | rfl) ?_
            | refine Idx.nat (by omega) ?_
            | refine Idx.auto (by first | omega | decide) (by first | omega | decide) ?_
            | refine Cell.ro rfl ?_
            | refine SDraw.all (by kernel_rfl) ?_
            | refine Kept.k0 ?_
            | refine Kept.k1 ?_
            | refine Kept.k2 ?_
            | refine Kept.k3 ?_
            | refine Kept.k4 ?_))
    · repeat' ((conv => whnf); (first
          | with_reducible refine e16 _ ?_
          | with_reducible refine e17 _ ?_
          | with_reducible refine e18 _ ?_
          | with_reducible refine e19 _ ?_
          | refine Branch.f (by first | (simp; done) | omega) ?_
          | refine Branch.dt (by omega) ?_
          | refine c12 ?_
          | exact Keep.sub [] (List.nil_sublist _) rfl
          | refine New.mk (fun _ => ?_)
          | refine Look.at0 ?_
          | refine Cell.row ?_
          | refine Cell.buf ?_
          | refine Cells.row rfl ?_
          | refine Put.row rfl ?_
          | refine Put.buf rfl ?_
          | refine Look.at1 ?_
          | refine Look.at2 ?_
          | refine Look.at3 ?_
          | refine Look.at4 ?_
          | refine Look.at5 ?_
          | refine Look.at6 ?_
          | refine Look.at7 ?_
          | refine Look.at8 ?_
          | with_reducible refine Val.i64 (by omega) (by omega) ?_
          | with_reducible refine Val.u8 (by omega) (by omega) ?_
          | with_reducible refine Val.u32 (by omega) (by omega) ?_
          | with_reducible refine Val.u64 (by omega) (by omega) ?_
          | with_reducible refine Val.u8m ?_
          | with_reducible refine Val.u32m ?_
          | with_reducible refine Val.u64m ?_
          | with_reducible refine Val.shr8 ?_
          | with_reducible refine Val.shr16 (by decide) ?_
          | with_reducible refine Val.shr24 (by decide) ?_
          | with_reducible refine Val.raw ?_
          | refine Branch.not ?_
          | refine Branch.and ?_
          | refine Branch.or ?_
          | refine Branch.dt (by assumption) ?_
          | refine Branch.df (by assumption) ?_
          | refine Branch.dt rfl ?_
          | refine Branch.dt (by omega) ?_
          | refine Branch.df (by omega) ?_
          | refine Branch.t rfl ?_
          | refine Branch.f rfl ?_
          | refine Branch.t (by assumption) ?_
          | refine Branch.f (by assumption) ?_
          | refine Branch.d (fun _ => ?_) (fun _ => ?_)
          | refine Branch.mk (fun _ => ?_) (fun _ => ?_)
          | refine Need.mk (by first | omega | decide | rfl) ?_
          | refine Idx.nat (by omega) ?_
          | refine Idx.auto (by first | omega | decide) (by first | omega | decide) ?_
          | refine Cell.ro rfl ?_
          | refine SDraw.all (by kernel_rfl) ?_
          | refine Kept.k0 ?_
          | refine Kept.k1 ?_
          | refine Kept.k2 ?_
          | refine Kept.k3 ?_
          | refine Kept.k4 ?_))
  · have e16 := fun (K : Value → Heap → Prop) hk => c16e (K := K) (H := H) h0 hk
    have e17 := fun (K : Value → Heap → Prop) hk => c17e (K := K) (H := H) h0 hk
    have e18 := fun (K : Value → Heap → Prop) hk => c18e (K := K) (H := H) h0 hk
    have e19 := fun (K : Value → Heap → Prop) hk => c19e (K := K) (H := H) h0 hk
    generalize chk l = v at h0 e16 e17 e18 e19
    repeat' ((conv => whnf); (first
        | with_reducible refine e16 _ ?_
        | with_reducible refine e17 _ ?_
        | with_reducible refine e18 _ ?_
        | with_reducible refine e19 _ ?_
        | refine Branch.f (by first | (simp; done) | omega) ?_
        | refine Branch.t (by first | (simp [h0]; done) | omega) ?_
        | refine c12 ?_
        | exact Keep.sub [] (List.nil_sublist _) rfl
        | refine New.mk (fun _ => ?_)
        | refine Look.at0 ?_
        | refine Cell.row ?_
        | refine Cell.buf ?_
        | refine Cells.row rfl ?_
        | refine Put.row rfl ?_
        | refine Put.buf rfl ?_
        | refine Look.at1 ?_
        | refine Look.at2 ?_
        | refine Look.at3 ?_
        | refine Look.at4 ?_
        | refine Look.at5 ?_
        | refine Look.at6 ?_
        | refine Look.at7 ?_
        | refine Look.at8 ?_
        | with_reducible refine Val.i64 (by omega) (by omega) ?_
        | with_reducible refine Val.u8 (by omega) (by omega) ?_
        | with_reducible refine Val.u32 (by omega) (by omega) ?_
        | with_reducible refine Val.u64 (by omega) (by omega) ?_
        | with_reducible refine Val.u8m ?_
        | with_reducible refine Val.u32m ?_
        | with_reducible refine Val.u64m ?_
        | with_reducible refine Val.shr8 ?_
        | with_reducible refine Val.shr16 (by decide) ?_
        | with_reducible refine Val.shr24 (by decide) ?_
        | with_reducible refine Val.raw ?_
        | refine Branch.not ?_
        | refine Branch.and ?_
        | refine Branch.or ?_
        | refine Branch.dt (by assumption) ?_
        | refine Branch.df (by assumption) ?_
        | refine Branch.dt rfl ?_
        | refine Branch.dt (by omega) ?_
        | refine Branch.df (by omega) ?_
        | refine Branch.t rfl ?_
        | refine Branch.f rfl ?_
        | refine Branch.t (by assumption) ?_
        | refine Branch.f (by assumption) ?_
        | refine Branch.d (fun _ => ?_) (fun _ => ?_)
        | refine Branch.mk (fun _ => ?_) (fun _ => ?_)
        | refine Need.mk (by first | omega | decide | rfl) ?_
        | refine Idx.nat (by omega) ?_
        | refine Idx.auto (by first | omega | decide) (by first | omega | decide) ?_
        | refine Cell.ro rfl ?_
        | refine SDraw.all (by kernel_rfl) ?_
        | refine Kept.k0 ?_
        | refine Kept.k1 ?_
        | refine Kept.k2 ?_
        | refine Kept.k3 ?_
        | refine Kept.k4 ?_))
theorem BitsStuffsW (a0 : ByteArray) (w : World) (h0_0 : a0.size ≤ reachBytes) :
    Calls Tryd.prog 6 #[.string a0] w fun e w' => e = .returned (.bool true) ∧ Go.RowKit.Below w.heap.size w w' :=
  (stuffs_c (H := []) (l := a0.data.toList)).fin w (Holds.empty w) (fun p hp => by cases hp)
end Go.Proofs.YtijnjklofdmelaaDoor

/- Layer 1: the sum is linear: by walks. -/
set_option linter.unusedVariables false
set_option linter.unusedSimpArgs false
set_option maxRecDepth 100000
set_option maxHeartbeats 4000000
namespace Go.Proofs.YtijnjklofdmelaaDoor
open Sx
/-- Two bits put together. -/
def xorB (a b : UInt8) : UInt8 := if bitOf a == bitOf b then 48 else 49
theorem bitOf_xor (a b : UInt8) : bitOf (xorB a b) = (bitOf a != bitOf b) := by
  unfold xorB
  cases bitOf a <;> cases bitOf b <;> rfl
theorem isB_xor (a b : UInt8) : isB (xorB a b) = true := by unfold xorB; split <;> rfl
theorem dec_bit {r : Nat} (h : r < 32768) : decide (r / 16384 = 1) = r.testBit 14 := by
  rw [Nat.testBit_eq_decide_div_mod_eq, show r / 2 ^ 14 % 2 = r / 16384 by omega]
theorem dec_xor {r s : Nat} (h : r < 32768) (h' : s < 32768) : decide ((r ^^^ s) / 16384 = 1) = (decide (r / 16384 = 1) != decide (s / 16384 = 1)) := by
  rw [dec_bit h, dec_bit h', dec_bit (Nat.xor_lt_two_pow (n := 15) h h'), Nat.testBit_xor]
theorem dbl_bit (r i : Nat) : (r * 2 % 32768).testBit i = (decide (i < 15) && (decide (1 ≤ i) && r.testBit (i - 1))) := by
  rw [show r * 2 = r <<< 1 by rw [Nat.shiftLeft_eq], show (32768 : Nat) = 2 ^ 15 from rfl, Nat.testBit_mod_two_pow, Nat.testBit_shiftLeft]
theorem dbl_xor (r s : Nat) : (r ^^^ s) * 2 % 32768 = (r * 2 % 32768) ^^^ (s * 2 % 32768) := by
  apply Nat.eq_of_testBit_eq
  intro i
  rw [Nat.testBit_xor, dbl_bit, dbl_bit, dbl_bit, Nat.testBit_xor]
  cases decide (i < 15) <;> cases decide (1 ≤ i) <;> simp
theorem cStep_eq (r : Nat) (b : Bool) : cStep r b = (r * 2 % 32768) ^^^ (if (decide (r / 16384 = 1) != b) = true then 17817 else 0) := by
  unfold cStep
  generalize decide (r / 16384 = 1) = d
  cases d <;> cases b <;> simp
theorem xor4 (a b x y : Nat) : (a ^^^ x) ^^^ (b ^^^ y) = (a ^^^ b) ^^^ (x ^^^ y) := by
  rw [Nat.xor_assoc, Nat.xor_assoc, ← Nat.xor_assoc x, Nat.xor_comm x b, Nat.xor_assoc b]
theorem cStep_xor {r s : Nat} (h : r < 32768) (h' : s < 32768) (b c : Bool) : cStep (r ^^^ s) (b != c) = cStep r b ^^^ cStep s c := by
  rw [cStep_eq, cStep_eq, cStep_eq, dbl_xor, dec_xor h h', xor4]
  congr 1
  generalize decide (r / 16384 = 1) = d
  generalize decide (s / 16384 = 1) = e
  cases d <;> cases e <;> cases b <;> cases c <;> rfl
theorem fold_xor : ∀ (A B : List UInt8) (r s : Nat), A.length = B.length → r < 32768 → s < 32768 →
    (List.zipWith xorB A B).foldl (fun r b => cStep r (bitOf b)) (r ^^^ s) = A.foldl (fun r b => cStep r (bitOf b)) r ^^^ B.foldl (fun r b => cStep r (bitOf b)) s
  | [], [], r, s, _, _, _ => rfl
  | a :: A, b :: B, r, s, h, h1, h2 => by
    simp only [List.zipWith_cons_cons, List.foldl_cons, bitOf_xor]
    rw [cStep_xor h1 h2]
    exact fold_xor A B _ _ (by simpa using h) (cStep_lt _ _) (cStep_lt _ _)
  | [], _ :: _, _, _, h, _, _ => by simp at h
  | _ :: _, [], _, _, h, _, _ => by simp at h
theorem crc_xor {A B : List UInt8} (h : A.length = B.length) : crc (List.zipWith xorB A B) = crc A ^^^ crc B := fold_xor A B 0 0 h (by decide) (by decide)
inductive S3 (A0 A1 A5 A7 A9 A10 : Value) : List Value → Prop
  | mk {r2 r3 r4 r6 r8 r11 r12 r13 r14 r15 r16 r17 r18 r19 r20 r21 r22 r23 r24 r25 r26 r27 r28 r29 r30 r31 r32 r33 r34 r35 r36 r37 r38 r39 r40 r41 r42 r43 r44 r45 r46 r47 r48 r49 r50 r51 r52 r53 r54 r55 r56 r57 r58 r59 r60 r61 r62 r63 r64 r65 r66 r67 r68 r69 r70 r71 r72 r73 r74 r75 r76 r77 r78 r79 r80 r81 r82 r83 r84 r85 r86 r87 r88 r89 r90 r91 r92 r93 r94 r95 r96 : Value} : S3 A0 A1 A5 A7 A9 A10 [A0, A1, r2, r3, r4, A5, r6, A7, r8, A9, A10, r11, r12, r13, r14, r15, r16, r17, r18, r19, r20, r21, r22, r23, r24, r25, r26, r27, r28, r29, r30, r31, r32, r33, r34, r35, r36, r37, r38, r39, r40, r41, r42, r43, r44, r45, r46, r47, r48, r49, r50, r51, r52, r53, r54, r55, r56, r57, r58, r59, r60, r61, r62, r63, r64, r65, r66, r67, r68, r69, r70, r71, r72, r73, r74, r75, r76, r77, r78, r79, r80, r81, r82, r83, r84, r85, r86, r87, r88, r89, r90, r91, r92, r93, r94, r95, r96]
section
variable {H : Heap} {A B : List UInt8}
abbrev zw (A B : List UInt8) (j : Nat) : List UInt8 := (List.zipWith xorB A B).take j
theorem zw_len (hAB : A.length = B.length) {j : Nat} (hj : j ≤ A.length) : (zw A B j).length = j := by simp [zw]; omega
theorem l3 {Qp : Post} {nv mv : Value} {p : Nat} (hAB : A.length = B.length) (hl : A.length ≤ 65536) (hA : ∀ b ∈ A, isB b = true) (hB : ∀ b ∈ B, isB b = true) (S : List Value) (hS : S3 (.string (strOf A)) (.string (strOf B)) nv mv (.slice (some ⟨p, 0, none⟩) 0 0) (.int .i64 0) S)
    (hQ : ∀ S r cap G, S3 (.string (strOf A)) (.string (strOf B)) nv mv (.slice (some ⟨r, 0, none⟩) (List.zipWith xorB A B).length cap) (.int .i64 (A.length : Int)) S → cap ≤ maxLen → Qp (.exit 0) S (bBuf r cap (List.zipWith xorB A B) :: G)) : SLoop Tryd.prog X3_l0 Qp S ((p, .row 5 [] (0, 0)) :: H) := by
  refine SLoop.toBuf (A := []) ?_
  have hzl : (List.zipWith xorB A B).length = A.length := by simp; omega
  refine SLoop.invA (fun (j : Nat) S H' => j ≤ A.length ∧ ∃ r cap G, S3 (.string (strOf A)) (.string (strOf B)) nv mv (.slice (some ⟨r, 0, none⟩) (zw A B j).length cap) (.int .i64 (j : Int)) S ∧ (zw A B j).length ≤ cap ∧ cap ≤ maxLen ∧ H' = bBuf r cap (zw A B j) :: G) (fun j => A.length - j) 0 (Keep.all ⟨Nat.zero_le _, p, 0, H, hS, Nat.le_refl _, Nat.zero_le _, rfl⟩) ?_
  rintro j S H' ⟨hj, r, cap, G, hS, hcap, hcm, rfl⟩ R hR
  cases hS
  have hsA : (strOf A).size = A.length := strOf_size A
  have hsB : (strOf B).size = A.length := by rw [strOf_size, hAB]
  have hzj := zw_len hAB hj
  by_cases hlt : j < A.length
  · have hx := List.getElem?_eq_getElem hlt
    generalize A[j] = a at hx
    have hy := List.getElem?_eq_getElem (show j < B.length by omega)
    generalize B[j] = b at hy
    have hatA := byteAt_of hx
    have hatB := byteAt_of hy
    have hz : (List.zipWith xorB A B)[j]? = some (xorB a b) := by rw [List.getElem?_zipWith, hx, hy]
    have htk : zw A B (j + 1) = zw A B j ++ [xorB a b] := by rw [zw, List.take_add_one, hz]; rfl
    have hnext : ∀ S r' cap' G, S3 (.string (strOf A)) (.string (strOf B)) nv mv (.slice (some ⟨r', 0, none⟩) (zw A B j ++ [xorB a b]).length cap') (.int .i64 ((j + 1 : Nat) : Int)) S → (zw A B j ++ [xorB a b]).length ≤ cap' → cap' ≤ maxLen → R S (bBuf r' cap' (zw A B j ++ [xorB a b]) :: G) := fun S r' cap' G h1 h2 h3 => hR (j + 1) _ _ (by omega) (Keep.all ⟨hlt, r', cap', G, by rw [htk]; exact h1, by rw [htk]; exact h2, h3, by rw [htk]⟩)
    have happ : ∀ (q : Nat) (H : Heap) (o : Oper) (xs xx : Operand) (K2 : Value → Heap → Prop), o.op = .call { callee := .builtin .append, args := #[xs, xx], argTypes := #[27, 27] } → (∀ r' cap', (zw A B j ++ [xorB a b]).length ≤ cap' → cap' ≤ maxLen → K2 (.slice (some ⟨r', 0, none⟩) (zw A B j ++ [xorB a b]).length cap') (bBuf r' cap' (zw A B j ++ [xorB a b]) :: bBox q ((xorB a b).toNat : Int) :: H)) →
        RawV Tryd.prog o [.slice (some ⟨r, 0, none⟩) (zw A B j).length cap, .slice (some ⟨q, 0, none⟩) 1 1] (bBox q ((xorB a b).toNat : Int) :: bBuf r cap (zw A B j) :: H) K2 := fun q H o xs xx K2 ho hk => appB ho (by omega) hcap hcm hk
    have hv : ∀ K : Int → Prop, K ((xorB a b).toNat : Int) → Val (bitXor .u8 (a.toNat : Int) ((b.toNat : Int) - 48)) K := by
      intro K hk
      refine Val.to _ ?_ hk
      unfold xorB
      rcases isB_cases (hA a (List.mem_of_getElem? hx)) with ⟨h1, h2⟩ | ⟨h1, h2⟩ <;> rcases isB_cases (hB b (List.mem_of_getElem? hy)) with ⟨h3, h4⟩ | ⟨h3, h4⟩ <;> rw [h1, h2, h3, h4] <;> decide
    have hA8 := isB_cases (hA a (List.mem_of_getElem? hx))
    have hB8 := isB_cases (hB b (List.mem_of_getElem? hy))
    clear hR hQ htk
    generalize zw A B j = z at hcap hnext happ hzj
    have hv1 : ∀ K : Int → Prop, K (a.toNat : Int) → Val (IntKind.u8.wrap (48 + ((a.toNat : Int) - 48))) K := fun K hk => Val.to _ (by rw [wrap_u8]; omega) hk
    repeat' ((conv => whnf); (first
        | refine Branch.dt (by omega) ?_
        | refine Idx.nat (by omega) ?_
        | with_reducible rw [hatA]
        | with_reducible rw [hatB]
        | with_reducible refine hv1 _ ?_
        | with_reducible refine hv _ ?_
        | refine happ _ _ _ _ _ _ rfl (fun r' cap' g1 g2 => ?_)
        | exact hnext _ _ _ _ .mk g1 g2
        | refine New.mk (fun _ => ?_)
        | refine Look.at0 ?_
        | refine Cell.row ?_
        | refine Cell.buf ?_
        | refine Cells.row rfl ?_
        | refine Put.row rfl ?_
        | refine Put.buf rfl ?_
        | refine Look.at1 ?_
        | refine Look.at2 ?_
        | refine Look.at3 ?_
        | refine Look.at4 ?_
        | refine Look.at5 ?_
        | refine Look.at6 ?_
        | refine Look.at7 ?_
        | refine Look.at8 ?_
        | with_reducible refine Val.i64 (by omega) (by omega) ?_
        | with_reducible refine Val.u8 (by omega) (by omega) ?_
        | with_reducible refine Val.u32 (by omega) (by omega) ?_
        | with_reducible refine Val.u64 (by omega) (by omega) ?_
        | with_reducible refine Val.u8m ?_
        | with_reducible refine Val.u32m ?_
        | with_reducible refine Val.u64m ?_
        | with_reducible refine Val.shr8 ?_
        | with_reducible refine Val.shr16 (by decide) ?_
        | with_reducible refine Val.shr24 (by decide) ?_
        | with_reducible refine Val.raw ?_
        | refine Branch.not ?_
        | refine Branch.and ?_
        | refine Branch.or ?_
        | refine Branch.dt (by assumption) ?_
        | refine Branch.df (by assumption) ?_
        | refine Branch.dt rfl ?_
        | refine Branch.dt (by omega) ?_
        | refine Branch.df (by omega) ?_
        | refine Branch.t rfl ?_
        | refine Branch.f rfl ?_
        | refine Branch.t (by assumption) ?_
        | refine Branch.f (by assumption) ?_
        | refine Branch.d (fun _ => ?_) (fun _ => ?_)
        | refine Branch.mk (fun _ => ?_) (fun _ => ?_)
        | refine Need.mk (by first | omega | decide | rfl) ?_
        | refine Idx.nat (by omega) ?_
        | refine Idx.auto (by first | omega | decide) (by first | omega | decide) ?_
        | refine Cell.ro rfl ?_
        | refine SDraw.all (by kernel_rfl) ?_
        | refine Kept.k0 ?_
        | refine Kept.k1 ?_
        | refine Kept.k2 ?_
        | refine Kept.k3 ?_
        | refine Kept.k4 ?_))
  · have e : j = A.length := by omega
    subst e
    have hall : zw A B A.length = List.zipWith xorB A B := List.take_of_length_le (by omega)
    rw [hall]
    have hq := fun S hS => hQ S r cap G hS hcm
    clear hR hQ
    repeat' ((conv => whnf); (first
        | refine Branch.df (by omega) ?_
        | exact hq _ .mk
        | refine New.mk (fun _ => ?_)
        | refine Look.at0 ?_
        | refine Cell.row ?_
        | refine Cell.buf ?_
        | refine Cells.row rfl ?_
        | refine Put.row rfl ?_
        | refine Put.buf rfl ?_
        | refine Look.at1 ?_
        | refine Look.at2 ?_
        | refine Look.at3 ?_
        | refine Look.at4 ?_
        | refine Look.at5 ?_
        | refine Look.at6 ?_
        | refine Look.at7 ?_
        | refine Look.at8 ?_
        | with_reducible refine Val.i64 (by omega) (by omega) ?_
        | with_reducible refine Val.u8 (by omega) (by omega) ?_
        | with_reducible refine Val.u32 (by omega) (by omega) ?_
        | with_reducible refine Val.u64 (by omega) (by omega) ?_
        | with_reducible refine Val.u8m ?_
        | with_reducible refine Val.u32m ?_
        | with_reducible refine Val.u64m ?_
        | with_reducible refine Val.shr8 ?_
        | with_reducible refine Val.shr16 (by decide) ?_
        | with_reducible refine Val.shr24 (by decide) ?_
        | with_reducible refine Val.raw ?_
        | refine Branch.not ?_
        | refine Branch.and ?_
        | refine Branch.or ?_
        | refine Branch.dt (by assumption) ?_
        | refine Branch.df (by assumption) ?_
        | refine Branch.dt rfl ?_
        | refine Branch.dt (by omega) ?_
        | refine Branch.df (by omega) ?_
        | refine Branch.t rfl ?_
        | refine Branch.f rfl ?_
        | refine Branch.t (by assumption) ?_
        | refine Branch.f (by assumption) ?_
        | refine Branch.d (fun _ => ?_) (fun _ => ?_)
        | refine Branch.mk (fun _ => ?_) (fun _ => ?_)
        | refine Need.mk (by first | omega | decide | rfl) ?_
        | refine Idx.nat (by omega) ?_
        | refine Idx.auto (by first | omega | decide) (by first | omega | decide) ?_
        | refine Cell.ro rfl ?_
        | refine SDraw.all (by kernel_rfl) ?_
        | refine Kept.k0 ?_
        | refine Kept.k1 ?_
        | refine Kept.k2 ?_
        | refine Kept.k3 ?_
        | refine Kept.k4 ?_))
theorem linear_c {a b : List UInt8} : SCalls Tryd.prog 3 [.string (strOf a), .string (strOf b)] H fun v _ => v = .bool true := by
  refine enter3 ?_
  have hsA : (strOf a).size = a.length := strOf_size a
  have hsB : (strOf b).size = b.length := strOf_size b
  have e11 : ∀ (l : List UInt8) (H : Heap) (K : Value → Heap → Prop), chk l = 0 → K (.tuple ⟨[.int .u16 (crc l : Int), .int .i64 0]⟩) H → SCalls Tryd.prog 11 [.string (strOf l)] H K := fun l H K h hk => c11 (by
    unfold crcV; rw [if_pos h, h]; exact hk)
  have e11e : ∀ (l : List UInt8) (v : Int) (H : Heap) (K : Value → Heap → Prop), chk l = v → (∀ c, K (.tuple ⟨[.int .u16 c, .int .i64 v]⟩) H) → SCalls Tryd.prog 11 [.string (strOf l)] H K := fun l v H K h hk => c11 (by rw [h]; exact hk _)
  by_cases ha : chk a = 0
  · by_cases hb : chk b = 0
    · obtain ⟨_, hla, hBa⟩ : chk a = 0 ∧ a.length ≤ 65536 ∧ ∀ b ∈ a, isB b = true := by
        rcases chk_cases a with h | ⟨h, _⟩
        · exact h
        · exact absurd ha h
      obtain ⟨_, hlb, hBb⟩ : chk b = 0 ∧ b.length ≤ 65536 ∧ ∀ c ∈ b, isB c = true := by
        rcases chk_cases b with h | ⟨h, _⟩
        · exact h
        · exact absurd hb h
      have hz : ∀ A B : List UInt8, A.length = B.length → A.length ≤ 65536 → ∀ (K : Value → Heap → Prop) H, K (.tuple ⟨[.int .u16 ((crc A ^^^ crc B : Nat) : Int), .int .i64 0]⟩) H → SCalls Tryd.prog 11 [.string (strOf (List.zipWith xorB A B))] H K := fun A B h hl K H hk =>
        e11 _ _ _ (chk_ok (by simp; omega) (fun x hx => by
          obtain ⟨i, hi, rfl⟩ := List.getElem_of_mem hx
          rw [List.getElem_zipWith]; exact isB_xor _ _)) (by rw [crc_xor h]; exact hk)
      have hstr : ∀ (z : List UInt8) (r cap : Nat) (G : Heap) (o : Oper) (xx : Operand) (K2 : Value → Heap → Prop), o.op = .convert 27 9 xx → K2 (.string (strOf z)) (bBuf r cap z :: G) → RawV Tryd.prog o [.slice (some ⟨r, 0, none⟩) z.length cap] (bBuf r cap z :: G) K2 := fun z r cap G o xx K2 ho hk =>
        RawV.toStr (e := 5) (l := z) ho (by kernel_rfl) (by kernel_rfl) (by kernel_rfl) (.head _) rfl (fun j x hj => by rw [Nat.zero_add]; exact cel_at hj) hk
      have hvx : ∀ (A B : List UInt8) (K : Int → Prop), K ((crc A ^^^ crc B : Nat) : Int) → Val (bitXor .u16 (crc A : Int) (crc B : Int)) K := fun A B K hk => Val.to _ (bitXor_nat rfl (Nat.lt_trans (crc_lt A) (by decide)) (Nat.lt_trans (crc_lt B) (by decide))) hk
      by_cases hgt : b.length < a.length
      · have hcut : (strOf a).extract (a.length - b.length) (strOf a).size = strOf (a.drop (a.length - b.length)) := by
          rw [strOf_cut, hsA, List.take_of_length_le (by simp)]
        have hBd : ∀ x ∈ a.drop (a.length - b.length), isB x = true := fun x hx => hBa x (List.mem_of_mem_drop hx)
        have hld : (a.drop (a.length - b.length)).length = b.length := by simp; omega
        have hcd : chk (a.drop (a.length - b.length)) = 0 := chk_ok (by omega) hBd
        generalize a.drop (a.length - b.length) = d at hcut hBd hld hcd
        have hsub : ((a.length : Int) - (b.length : Int)) = ((a.length - b.length : Nat) : Int) := by omega
        rw [hsA] at hcut
        repeat' ((conv => whnf); (first
            | with_reducible refine e11 _ _ _ ha ?_
            | with_reducible refine e11 _ _ _ hb ?_
            | with_reducible refine e11 _ _ _ hcd ?_
            | refine Branch.f (by first | (simp; done) | omega) ?_
            | refine Branch.dt (by omega) ?_
            | with_reducible refine Val.to ((a.length - b.length : Nat) : Int) (by rw [wrap_i64 (by omega) (by omega)]; omega) ?_
            | refine Idx.of (a.length - b.length) rfl (by omega) ?_
            | with_reducible rw [hsA, hcut]
            | refine New.mk (fun _ => ?_)
            | refine Look.at0 ?_
            | refine Cell.row ?_
            | refine Cell.buf ?_
            | refine Cells.row rfl ?_
            | refine Put.row rfl ?_
            | refine Put.buf rfl ?_
            | refine Look.at1 ?_
            | refine Look.at2 ?_
            | refine Look.at3 ?_
            | refine Look.at4 ?_
            | refine Look.at5 ?_
            | refine Look.at6 ?_
            | refine Look.at7 ?_
            | refine Look.at8 ?_
            | with_reducible refine Val.i64 (by omega) (by omega) ?_
            | with_reducible refine Val.u8 (by omega) (by omega) ?_
            | with_reducible refine Val.u32 (by omega) (by omega) ?_
            | with_reducible refine Val.u64 (by omega) (by omega) ?_
            | with_reducible refine Val.u8m ?_
            | with_reducible refine Val.u32m ?_
            | with_reducible refine Val.u64m ?_
            | with_reducible refine Val.shr8 ?_
            | with_reducible refine Val.shr16 (by decide) ?_
            | with_reducible refine Val.shr24 (by decide) ?_
            | with_reducible refine Val.raw ?_
            | refine Branch.not ?_
            | refine Branch.and ?_
            | refine Branch.or ?_
            | refine Branch.dt (by assumption) ?_
            | refine Branch.df (by assumption) ?_
            | refine Branch.dt rfl ?_
            | refine Branch.dt (by omega) ?_
            | refine Branch.df (by omega) ?_
            | refine Branch.t rfl ?_
            | refine Branch.f rfl ?_
            | refine Branch.t (by assumption) ?_
            | refine Branch.f (by assumption) ?_
            | refine Branch.d (fun _ => ?_) (fun _ => ?_)
            | refine Branch.mk (fun _ => ?_) (fun _ => ?_)
            | refine Need.mk (by first | omega | decide | rfl) ?_
            | refine Idx.nat (by omega) ?_
            | refine Idx.auto (by first | omega | decide) (by first | omega | decide) ?_
            | refine Cell.ro rfl ?_
            | refine SDraw.all (by kernel_rfl) ?_
            | refine Kept.k0 ?_
            | refine Kept.k1 ?_
            | refine Kept.k2 ?_
            | refine Kept.k3 ?_
            | refine Kept.k4 ?_))
        refine l3 hld (by omega) hBd hBb _ .mk (fun S r cap G hS hcm => ?_)
        cases hS
        repeat' ((conv => whnf); (first
            | refine hstr _ _ _ _ _ _ _ rfl ?_
            | with_reducible refine hz _ _ hld (by omega) _ _ ?_
            | with_reducible refine hvx _ _ _ ?_
            | refine c12 ?_
            | refine Branch.t (by first | (simp; done) | rfl) ?_
            | exact Keep.sub [] (List.nil_sublist _) rfl
            | refine New.mk (fun _ => ?_)
            | refine Look.at0 ?_
            | refine Cell.row ?_
            | refine Cell.buf ?_
            | refine Cells.row rfl ?_
            | refine Put.row rfl ?_
            | refine Put.buf rfl ?_
            | refine Look.at1 ?_
            | refine Look.at2 ?_
            | refine Look.at3 ?_
            | refine Look.at4 ?_
            | refine Look.at5 ?_
            | refine Look.at6 ?_
            | refine Look.at7 ?_
            | refine Look.at8 ?_
            | with_reducible refine Val.i64 (by omega) (by omega) ?_
            | with_reducible refine Val.u8 (by omega) (by omega) ?_
            | with_reducible refine Val.u32 (by omega) (by omega) ?_
            | with_reducible refine Val.u64 (by omega) (by omega) ?_
            | with_reducible refine Val.u8m ?_
            | with_reducible refine Val.u32m ?_
            | with_reducible refine Val.u64m ?_
            | with_reducible refine Val.shr8 ?_
            | with_reducible refine Val.shr16 (by decide) ?_
            | with_reducible refine Val.shr24 (by decide) ?_
            | with_reducible refine Val.raw ?_
            | refine Branch.not ?_
            | refine Branch.and ?_
            | refine Branch.or ?_
            | refine Branch.dt (by assumption) ?_
            | refine Branch.df (by assumption) ?_
            | refine Branch.dt rfl ?_
            | refine Branch.dt (by omega) ?_
            | refine Branch.df (by omega) ?_
            | refine Branch.t rfl ?_
            | refine Branch.f rfl ?_
            | refine Branch.t (by assumption) ?_
            | refine Branch.f (by assumption) ?_
            | refine Branch.d (fun _ => ?_) (fun _ => ?_)
            | refine Branch.mk (fun _ => ?_) (fun _ => ?_)
            | refine Need.mk (by first | omega | decide | rfl) ?_
            | refine Idx.nat (by omega) ?_
            | refine Idx.auto (by first | omega | decide) (by first | omega | decide) ?_
            | refine Cell.ro rfl ?_
            | refine SDraw.all (by kernel_rfl) ?_
            | refine Kept.k0 ?_
            | refine Kept.k1 ?_
            | refine Kept.k2 ?_
            | refine Kept.k3 ?_
            | refine Kept.k4 ?_))
      · have hcut : (strOf b).extract (b.length - a.length) (strOf b).size = strOf (b.drop (b.length - a.length)) := by
          rw [strOf_cut, hsB, List.take_of_length_le (by simp)]
        have hBd : ∀ x ∈ b.drop (b.length - a.length), isB x = true := fun x hx => hBb x (List.mem_of_mem_drop hx)
        have hld : a.length = (b.drop (b.length - a.length)).length := by simp; omega
        have hcd : chk (b.drop (b.length - a.length)) = 0 := chk_ok (by omega) hBd
        generalize b.drop (b.length - a.length) = d at hcut hBd hld hcd
        rw [hsB] at hcut
        repeat' ((conv => whnf); (first
            | with_reducible refine e11 _ _ _ ha ?_
            | with_reducible refine e11 _ _ _ hb ?_
            | with_reducible refine e11 _ _ _ hcd ?_
            | refine Branch.f (by first | (simp; done) | omega) ?_
            | refine Branch.df (by omega) ?_
            | with_reducible refine Val.to ((b.length - a.length : Nat) : Int) (by rw [wrap_i64 (by omega) (by omega)]; omega) ?_
            | refine Idx.of (b.length - a.length) rfl (by omega) ?_
            | with_reducible rw [hsB, hcut]
            | refine New.mk (fun _ => ?_)
            | refine Look.at0 ?_
            | refine Cell.row ?_
            | refine Cell.buf ?_
            | refine Cells.row rfl ?_
            | refine Put.row rfl ?_
            | refine Put.buf rfl ?_
            | refine Look.at1 ?_
            | refine Look.at2 ?_
            | refine Look.at3 ?_
            | refine Look.at4 ?_
            | refine Look.at5 ?_
            | refine Look.at6 ?_
            | refine Look.at7 ?_
            | refine Look.at8 ?_
            | with_reducible refine Val.i64 (by omega) (by omega) ?_
            | with_reducible refine Val.u8 (by omega) (by omega) ?_
            | with_reducible refine Val.u32 (by omega) (by omega) ?_
            | with_reducible refine Val.u64 (by omega) (by omega) ?_
            | with_reducible refine Val.u8m ?_
            | with_reducible refine Val.u32m ?_
            | with_reducible refine Val.u64m ?_
            | with_reducible refine Val.shr8 ?_
            | with_reducible refine Val.shr16 (by decide) ?_
            | with_reducible refine Val.shr24 (by decide) ?_
            | with_reducible refine Val.raw ?_
            | refine Branch.not ?_
            | refine Branch.and ?_
            | refine Branch.or ?_
            | refine Branch.dt (by assumption) ?_
            | refine Branch.df (by assumption) ?_
            | refine Branch.dt rfl ?_
            | refine Branch.dt (by omega) ?_
            | refine Branch.df (by omega) ?_
            | refine Branch.t rfl ?_
            | refine Branch.f rfl ?_
            | refine Branch.t (by assumption) ?_
            | refine Branch.f (by assumption) ?_
            | refine Branch.d (fun _ => ?_) (fun _ => ?_)
            | refine Branch.mk (fun _ => ?_) (fun _ => ?_)
            | refine Need.mk (by first | omega | decide | rfl) ?_
            | refine Idx.nat (by omega) ?_
            | refine Idx.auto (by first | omega | decide) (by first | omega | decide) ?_
            | refine Cell.ro rfl ?_
            | refine SDraw.all (by kernel_rfl) ?_
            | refine Kept.k0 ?_
            | refine Kept.k1 ?_
            | refine Kept.k2 ?_
            | refine Kept.k3 ?_
            | refine Kept.k4 ?_))
        refine l3 hld (by omega) hBa hBd _ .mk (fun S r cap G hS hcm => ?_)
        cases hS
        repeat' ((conv => whnf); (first
            | refine hstr _ _ _ _ _ _ _ rfl ?_
            | with_reducible refine hz _ _ hld (by omega) _ _ ?_
            | with_reducible refine hvx _ _ _ ?_
            | refine c12 ?_
            | refine Branch.t (by first | (simp; done) | rfl) ?_
            | exact Keep.sub [] (List.nil_sublist _) rfl
            | refine New.mk (fun _ => ?_)
            | refine Look.at0 ?_
            | refine Cell.row ?_
            | refine Cell.buf ?_
            | refine Cells.row rfl ?_
            | refine Put.row rfl ?_
            | refine Put.buf rfl ?_
            | refine Look.at1 ?_
            | refine Look.at2 ?_
            | refine Look.at3 ?_
            | refine Look.at4 ?_
            | refine Look.at5 ?_
            | refine Look.at6 ?_
            | refine Look.at7 ?_
            | refine Look.at8 ?_
            | with_reducible refine Val.i64 (by omega) (by omega) ?_
            | with_reducible refine Val.u8 (by omega) (by omega) ?_
            | with_reducible refine Val.u32 (by omega) (by omega) ?_
            | with_reducible refine Val.u64 (by omega) (by omega) ?_
            | with_reducible refine Val.u8m ?_
            | with_reducible refine Val.u32m ?_
            | with_reducible refine Val.u64m ?_
            | with_reducible refine Val.shr8 ?_
            | with_reducible refine Val.shr16 (by decide) ?_
            | with_reducible refine Val.shr24 (by decide) ?_
            | with_reducible refine Val.raw ?_
            | refine Branch.not ?_
            | refine Branch.and ?_
            | refine Branch.or ?_
            | refine Branch.dt (by assumption) ?_
            | refine Branch.df (by assumption) ?_
            | refine Branch.dt rfl ?_
            | refine Branch.dt (by omega) ?_
            | refine Branch.df (by omega) ?_
            | refine Branch.t rfl ?_
            | refine Branch.f rfl ?_
            | refine Branch.t (by assumption) ?_
            | refine Branch.f (by assumption) ?_
            | refine Branch.d (fun _ => ?_) (fun _ => ?_)
            | refine Branch.mk (fun _ => ?_) (fun _ => ?_)
            | refine Need.mk (by first | omega | decide | rfl) ?_
            | refine Idx.nat (by omega) ?_
            | refine Idx.auto (by first | omega | decide) (by first | omega | decide) ?_
            | refine Cell.ro rfl ?_
            | refine SDraw.all (by kernel_rfl) ?_
            | refine Kept.k0 ?_
            | refine Kept.k1 ?_
            | refine Kept.k2 ?_
            | refine Kept.k3 ?_
            | refine Kept.k4 ?_))
    · generalize hv : chk b = v at hb
      repeat' ((conv => whnf); (first
          | with_reducible refine e11 _ _ _ ha ?_
          | with_reducible refine e11e _ _ _ _ hv (fun c => ?_)
          | refine Branch.f rfl ?_
          | refine Branch.t (by first | (simp [hb]; done) | omega) ?_
          | refine c12 ?_
          | exact Keep.sub [] (List.nil_sublist _) rfl
          | refine New.mk (fun _ => ?_)
          | refine Look.at0 ?_
          | refine Cell.row ?_
          | refine Cell.buf ?_
          | refine Cells.row rfl ?_
          | refine Put.row rfl ?_
          | refine Put.buf rfl ?_
          | refine Look.at1 ?_
          | refine Look.at2 ?_
          | refine Look.at3 ?_
          | refine Look.at4 ?_
          | refine Look.at5 ?_
          | refine Look.at6 ?_
          | refine Look.at7 ?_
          | refine Look.at8 ?_
          | with_reducible refine Val.i64 (by omega) (by omega) ?_
          | with_reducible refine Val.u8 (by omega) (by omega) ?_
          | with_reducible refine Val.u32 (by omega) (by omega) ?_
          | with_reducible refine Val.u64 (by omega) (by omega) ?_
          | with_reducible refine Val.u8m ?_
          | with_reducible refine Val.u32m ?_
          | with_reducible refine Val.u64m ?_
          | with_reducible refine Val.shr8 ?_
          | with_reducible refine Val.shr16 (by decide) ?_
          | with_reducible refine Val.shr24 (by decide) ?_
          | with_reducible refine Val.raw ?_
          | refine Branch.not ?_
          | refine Branch.and ?_
          | refine Branch.or ?_
          | refine Branch.dt (by assumption) ?_
          | refine Branch.df (by assumption) ?_
          | refine Branch.dt rfl ?_
          | refine Branch.dt (by omega) ?_
          | refine Branch.df (by omega) ?_
          | refine Branch.t rfl ?_
          | refine Branch.f rfl ?_
          | refine Branch.t (by assumption) ?_
          | refine Branch.f (by assumption) ?_
          | refine Branch.d (fun _ => ?_) (fun _ => ?_)
          | refine Branch.mk (fun _ => ?_) (fun _ => ?_)
          | refine Need.mk (by first | omega | decide | rfl) ?_
          | refine Idx.nat (by omega) ?_
          | refine Idx.auto (by first | omega | decide) (by first | omega | decide) ?_
          | refine Cell.ro rfl ?_
          | refine SDraw.all (by kernel_rfl) ?_
          | refine Kept.k0 ?_
          | refine Kept.k1 ?_
          | refine Kept.k2 ?_
          | refine Kept.k3 ?_
          | refine Kept.k4 ?_))
  · generalize hv : chk a = v at ha
    generalize hv2 : chk b = v2
    repeat' ((conv => whnf); (first
        | with_reducible refine e11e _ _ _ _ hv (fun c => ?_)
        | with_reducible refine e11e _ _ _ _ hv2 (fun c => ?_)
        | refine Branch.t (by first | (simp [ha]; done) | omega) ?_
        | refine c12 ?_
        | exact Keep.sub [] (List.nil_sublist _) rfl
        | refine New.mk (fun _ => ?_)
        | refine Look.at0 ?_
        | refine Cell.row ?_
        | refine Cell.buf ?_
        | refine Cells.row rfl ?_
        | refine Put.row rfl ?_
        | refine Put.buf rfl ?_
        | refine Look.at1 ?_
        | refine Look.at2 ?_
        | refine Look.at3 ?_
        | refine Look.at4 ?_
        | refine Look.at5 ?_
        | refine Look.at6 ?_
        | refine Look.at7 ?_
        | refine Look.at8 ?_
        | with_reducible refine Val.i64 (by omega) (by omega) ?_
        | with_reducible refine Val.u8 (by omega) (by omega) ?_
        | with_reducible refine Val.u32 (by omega) (by omega) ?_
        | with_reducible refine Val.u64 (by omega) (by omega) ?_
        | with_reducible refine Val.u8m ?_
        | with_reducible refine Val.u32m ?_
        | with_reducible refine Val.u64m ?_
        | with_reducible refine Val.shr8 ?_
        | with_reducible refine Val.shr16 (by decide) ?_
        | with_reducible refine Val.shr24 (by decide) ?_
        | with_reducible refine Val.raw ?_
        | refine Branch.not ?_
        | refine Branch.and ?_
        | refine Branch.or ?_
        | refine Branch.dt (by assumption) ?_
        | refine Branch.df (by assumption) ?_
        | refine Branch.dt rfl ?_
        | refine Branch.dt (by omega) ?_
        | refine Branch.df (by omega) ?_
        | refine Branch.t rfl ?_
        | refine Branch.f rfl ?_
        | refine Branch.t (by assumption) ?_
        | refine Branch.f (by assumption) ?_
        | refine Branch.d (fun _ => ?_) (fun _ => ?_)
        | refine Branch.mk (fun _ => ?_) (fun _ => ?_)
        | refine Need.mk (by first | omega | decide | rfl) ?_
        | refine Idx.nat (by omega) ?_
        | refine Idx.auto (by first | omega | decide) (by first | omega | decide) ?_
        | refine Cell.ro rfl ?_
        | refine SDraw.all (by kernel_rfl) ?_
        | refine Kept.k0 ?_
        | refine Kept.k1 ?_
        | refine Kept.k2 ?_
        | refine Kept.k3 ?_
        | refine Kept.k4 ?_))
end
theorem BitsLinearW (a0 : ByteArray) (a1 : ByteArray) (w : World) (h0_0 : a0.size ≤ reachBytes) (h1_0 : a1.size ≤ reachBytes) :
    Calls Tryd.prog 3 #[.string a0, .string a1] w fun e w' => e = .returned (.bool true) ∧ Go.RowKit.Below w.heap.size w w' :=
  (linear_c (H := []) (a := a0.data.toList) (b := a1.data.toList)).fin w (Holds.empty w) (fun p hp => by cases hp)
end Go.Proofs.YtijnjklofdmelaaDoor

/- Layer 1: numbers become bits: by walks. -/
set_option linter.unusedVariables false
set_option linter.unusedSimpArgs false
set_option maxRecDepth 100000
set_option maxHeartbeats 4000000
namespace Go.Proofs.YtijnjklofdmelaaDoor
open Sx
def bitB (q : Nat) : UInt8 := if q = 0 then 48 else 49
/-- A number's digits, at most so many. -/
def binF : Nat → Nat → List UInt8
  | 0, _ => []
  | n + 1, u => if u < 2 then [bitB u] else binF n (u / 2) ++ [bitB (u % 2)]
/-- Just so many bits of a number. -/
def numB : Nat → Nat → List UInt8
  | 0, _ => []
  | w + 1, n => numB w (n / 2) ++ [bitB (n % 2)]
theorem numB_len : ∀ w n, (numB w n).length = w
  | 0, _ => rfl
  | w + 1, n => by simp [numB, numB_len w]
theorem numB_zero : ∀ w, numB w 0 = List.replicate w 48
  | 0 => rfl
  | w + 1 => by
    show numB w 0 ++ [bitB 0] = _
    rw [numB_zero w, List.replicate_succ']; rfl
theorem bitB_ok (q : Nat) : isB (bitB q) = true := by unfold bitB; split <;> rfl
theorem numB_ok : ∀ w n, ∀ b ∈ numB w n, isB b = true
  | 0, _, b, h => by cases h
  | w + 1, n, b, h => by
    rcases List.mem_append.1 h with h | h
    · exact numB_ok w _ b h
    · rw [List.mem_singleton.1 h]; exact bitB_ok _
theorem pad : ∀ (k w n : Nat), n < 2 ^ k → n < 2 ^ w → 1 ≤ w → (binF k n).length ≤ w ∧ List.replicate (w - (binF k n).length) 48 ++ binF k n = numB w n
  | 0, w, n, h1, _, _ => by
    obtain rfl : n = 0 := by simpa using h1
    exact ⟨Nat.zero_le _, by rw [numB_zero]; simp [binF]⟩
  | k + 1, w + 1, n, h1, h2, _ => by
    by_cases h : n < 2
    · have e : binF (k + 1) n = [bitB n] := by unfold binF; rw [if_pos h]
      rw [e]
      refine ⟨by simp, ?_⟩
      show _ = numB w (n / 2) ++ [bitB (n % 2)]
      rw [show n / 2 = 0 by omega, show n % 2 = n by omega, numB_zero]; simp
    · have e : binF (k + 1) n = binF k (n / 2) ++ [bitB (n % 2)] := by
        show (if n < 2 then _ else _) = _
        rw [if_neg h]
      have hw : 1 ≤ w := by
        rcases Nat.eq_zero_or_pos w with rfl | hw
        · simp at h2; omega
        · exact hw
      obtain ⟨i1, i2⟩ := pad k w (n / 2) (by rw [Nat.pow_succ] at h1; omega) (by rw [Nat.pow_succ] at h2; omega) hw
      rw [e]
      refine ⟨by simp; omega, ?_⟩
      show _ = numB w (n / 2) ++ [bitB (n % 2)]
      rw [← i2, ← List.append_assoc]
      congr 3
      simp
theorem bitB_n {q : Nat} (h : q < 2) : ((bitB q).toNat : Int) = 48 + (q : Int) := by
  unfold bitB
  rcases (by omega : q = 0 ∨ q = 1) with rfl | rfl <;> rfl
/-- The table that tells where a number's lowest bit is. -/
def Db (H : Heap) : Prop := ∃ b, (7, b) ∈ H ∧ b.cell 1 = some (.int .u8 1)
theorem Db.mono {H H' : Heap} (h : Db H) (hs : ∀ p ∈ H, p ∈ H') : Db H' := by
  obtain ⟨b, h1, h2⟩ := h
  exact ⟨b, hs _ h1, h2⟩
abbrev zv : Value := .int .u8 0
abbrev digR (p n : Nat) (ds : List UInt8) : Nat × Blk := (p, .row 111 (List.replicate n zv ++ cel ds) (0, 0))
theorem dig_put {n : Nat} {ds : List UInt8} (b : UInt8) : PutOk (.row 111 (List.replicate (n + 1) zv ++ cel ds) (0, 0)) (0 + n * 1) [.int .u8 (b.toNat : Int)] (.row 111 (List.replicate n zv ++ cel (b :: ds)) (0, 0)) := by
  refine PutOk.row (by simp) ?_
  have e0 : List.replicate (n + 1) zv ++ cel ds = List.replicate n zv ++ ([zv] ++ cel ds) := by rw [List.replicate_succ', List.append_assoc]
  rw [e0, Nat.zero_add, Nat.mul_one]
  have e1 : (List.replicate n zv ++ ([zv] ++ cel ds)).take n = List.replicate n zv := by
    conv => lhs; rw [show n = (List.replicate n zv).length by simp]
    simp only [List.length_replicate]
    rw [List.take_append_of_le_length (by simp)]; simp
  have e2 : (List.replicate n zv ++ ([zv] ++ cel ds)).drop (n + [Value.int .u8 (b.toNat : Int)].length) = cel ds := by
    rw [List.drop_append]; simp
  rw [e1, e2, List.append_assoc]; rfl
inductive S67 (A1 A3 A4 A10 A12 A13 A14 A15 A16 : Value) : List Value → Prop
  | mk {r0 r2 r5 r6 r7 r8 r9 r11 r17 r18 r19 r20 r21 r22 r23 r24 r25 r26 r27 r28 r29 r30 r31 r32 r33 r34 r35 r36 r37 r38 r39 r40 r41 r42 r43 r44 r45 r46 r47 r48 r49 r50 r51 r52 r53 r54 r55 r56 r57 r58 r59 r60 r61 r62 r63 r64 r65 r66 r67 r68 r69 r70 r71 r72 r73 r74 r75 r76 r77 r78 r79 r80 r81 r82 r83 r84 r85 r86 r87 r88 r89 r90 r91 r92 r93 r94 r95 r96 r97 r98 r99 r100 r101 : Value} : S67 A1 A3 A4 A10 A12 A13 A14 A15 A16 [r0, A1, r2, A3, A4, r5, r6, r7, r8, r9, A10, r11, A12, A13, A14, A15, A16, r17, r18, r19, r20, r21, r22, r23, r24, r25, r26, r27, r28, r29, r30, r31, r32, r33, r34, r35, r36, r37, r38, r39, r40, r41, r42, r43, r44, r45, r46, r47, r48, r49, r50, r51, r52, r53, r54, r55, r56, r57, r58, r59, r60, r61, r62, r63, r64, r65, r66, r67, r68, r69, r70, r71, r72, r73, r74, r75, r76, r77, r78, r79, r80, r81, r82, r83, r84, r85, r86, r87, r88, r89, r90, r91, r92, r93, r94, r95, r96, r97, r98, r99, r100, r101]
section
variable {K : Value → Heap → Prop} {H : Heap}
theorem c82 (hK : K (.bool true) H) : SCalls Tryd.prog 82 [.int .i64 2] H K := by
  refine enter82 ?_
  repeat' ((conv => whnf); (first
      | refine Val.to 1 rfl ?_
      | refine Val.to 0 (by decide) ?_
      | exact Keep.all hK
      | refine New.mk (fun _ => ?_)
      | refine Look.at0 ?_
      | refine Cell.row ?_
      | refine Cell.buf ?_
      | refine Cells.row rfl ?_
      | refine Put.row rfl ?_
      | refine Put.buf rfl ?_
      | refine Look.at1 ?_
      | refine Look.at2 ?_
      | refine Look.at3 ?_
      | refine Look.at4 ?_
      | refine Look.at5 ?_
      | refine Look.at6 ?_
      | refine Look.at7 ?_
      | refine Look.at8 ?_
      | with_reducible refine Val.i64 (by omega) (by omega) ?_
      | with_reducible refine Val.u8 (by omega) (by omega) ?_
      | with_reducible refine Val.u32 (by omega) (by omega) ?_
      | with_reducible refine Val.u64 (by omega) (by omega) ?_
      | with_reducible refine Val.u8m ?_
      | with_reducible refine Val.u32m ?_
      | with_reducible refine Val.u64m ?_
      | with_reducible refine Val.shr8 ?_
      | with_reducible refine Val.shr16 (by decide) ?_
      | with_reducible refine Val.shr24 (by decide) ?_
      | with_reducible refine Val.raw ?_
      | refine Branch.not ?_
      | refine Branch.and ?_
      | refine Branch.or ?_
      | refine Branch.dt (by assumption) ?_
      | refine Branch.df (by assumption) ?_
      | refine Branch.dt rfl ?_
      | refine Branch.dt (by omega) ?_
      | refine Branch.df (by omega) ?_
      | refine Branch.t rfl ?_
      | refine Branch.f rfl ?_
      | refine Branch.t (by assumption) ?_
      | refine Branch.f (by assumption) ?_
      | refine Branch.d (fun _ => ?_) (fun _ => ?_)
      | refine Branch.mk (fun _ => ?_) (fun _ => ?_)
      | refine Need.mk (by first | omega | decide | rfl) ?_
      | refine Idx.nat (by omega) ?_
      | refine Idx.auto (by first | omega | decide) (by first | omega | decide) ?_
      | refine Cell.ro rfl ?_
      | refine SDraw.all (by kernel_rfl) ?_
      | refine Kept.k0 ?_
      | refine Kept.k1 ?_
      | refine Kept.k2 ?_
      | refine Kept.k3 ?_
      | refine Kept.k4 ?_))
theorem c91 (hD : Db H) (hK : K (.int .i64 1) H) : SCalls Tryd.prog 91 [.int .u64 2] H K := by
  refine enter91 ?_
  obtain ⟨b, hm, hc⟩ := hD
  repeat' ((conv => whnf); (first
      | refine Val.to 18446744073709551614 (by decide) ?_
      | refine Val.to 2 (by decide) ?_
      | refine Val.to 571740426102707730 (by decide) ?_
      | refine Val.to 1 (by decide) ?_
      | refine Branch.f rfl ?_
      | refine Idx.of 1 rfl (by decide) ?_
      | refine Look.cell hm hc ?_
      | exact Keep.all hK
      | refine New.mk (fun _ => ?_)
      | refine Look.at0 ?_
      | refine Cell.row ?_
      | refine Cell.buf ?_
      | refine Cells.row rfl ?_
      | refine Put.row rfl ?_
      | refine Put.buf rfl ?_
      | refine Look.at1 ?_
      | refine Look.at2 ?_
      | refine Look.at3 ?_
      | refine Look.at4 ?_
      | refine Look.at5 ?_
      | refine Look.at6 ?_
      | refine Look.at7 ?_
      | refine Look.at8 ?_
      | with_reducible refine Val.i64 (by omega) (by omega) ?_
      | with_reducible refine Val.u8 (by omega) (by omega) ?_
      | with_reducible refine Val.u32 (by omega) (by omega) ?_
      | with_reducible refine Val.u64 (by omega) (by omega) ?_
      | with_reducible refine Val.u8m ?_
      | with_reducible refine Val.u32m ?_
      | with_reducible refine Val.u64m ?_
      | with_reducible refine Val.shr8 ?_
      | with_reducible refine Val.shr16 (by decide) ?_
      | with_reducible refine Val.shr24 (by decide) ?_
      | with_reducible refine Val.raw ?_
      | refine Branch.not ?_
      | refine Branch.and ?_
      | refine Branch.or ?_
      | refine Branch.dt (by assumption) ?_
      | refine Branch.df (by assumption) ?_
      | refine Branch.dt rfl ?_
      | refine Branch.dt (by omega) ?_
      | refine Branch.df (by omega) ?_
      | refine Branch.t rfl ?_
      | refine Branch.f rfl ?_
      | refine Branch.t (by assumption) ?_
      | refine Branch.f (by assumption) ?_
      | refine Branch.d (fun _ => ?_) (fun _ => ?_)
      | refine Branch.mk (fun _ => ?_) (fun _ => ?_)
      | refine Need.mk (by first | omega | decide | rfl) ?_
      | refine Idx.nat (by omega) ?_
      | refine Idx.auto (by first | omega | decide) (by first | omega | decide) ?_
      | refine Cell.ro rfl ?_
      | refine SDraw.all (by kernel_rfl) ?_
      | refine Kept.k0 ?_
      | refine Kept.k1 ?_
      | refine Kept.k2 ?_
      | refine Kept.k3 ?_
      | refine Kept.k4 ?_))
theorem c83 (hD : Db H) (hK : K (.int .i64 1) H) : SCalls Tryd.prog 83 [.int .u64 2] H K := by
  refine enter83 ?_
  repeat' ((conv => whnf); (first
      | refine c91 hD ?_
      | refine Branch.f rfl ?_
      | exact Keep.all hK
      | refine New.mk (fun _ => ?_)
      | refine Look.at0 ?_
      | refine Cell.row ?_
      | refine Cell.buf ?_
      | refine Cells.row rfl ?_
      | refine Put.row rfl ?_
      | refine Put.buf rfl ?_
      | refine Look.at1 ?_
      | refine Look.at2 ?_
      | refine Look.at3 ?_
      | refine Look.at4 ?_
      | refine Look.at5 ?_
      | refine Look.at6 ?_
      | refine Look.at7 ?_
      | refine Look.at8 ?_
      | with_reducible refine Val.i64 (by omega) (by omega) ?_
      | with_reducible refine Val.u8 (by omega) (by omega) ?_
      | with_reducible refine Val.u32 (by omega) (by omega) ?_
      | with_reducible refine Val.u64 (by omega) (by omega) ?_
      | with_reducible refine Val.u8m ?_
      | with_reducible refine Val.u32m ?_
      | with_reducible refine Val.u64m ?_
      | with_reducible refine Val.shr8 ?_
      | with_reducible refine Val.shr16 (by decide) ?_
      | with_reducible refine Val.shr24 (by decide) ?_
      | with_reducible refine Val.raw ?_
      | refine Branch.not ?_
      | refine Branch.and ?_
      | refine Branch.or ?_
      | refine Branch.dt (by assumption) ?_
      | refine Branch.df (by assumption) ?_
      | refine Branch.dt rfl ?_
      | refine Branch.dt (by omega) ?_
      | refine Branch.df (by omega) ?_
      | refine Branch.t rfl ?_
      | refine Branch.f rfl ?_
      | refine Branch.t (by assumption) ?_
      | refine Branch.f (by assumption) ?_
      | refine Branch.d (fun _ => ?_) (fun _ => ?_)
      | refine Branch.mk (fun _ => ?_) (fun _ => ?_)
      | refine Need.mk (by first | omega | decide | rfl) ?_
      | refine Idx.nat (by omega) ?_
      | refine Idx.auto (by first | omega | decide) (by first | omega | decide) ?_
      | refine Cell.ro rfl ?_
      | refine SDraw.all (by kernel_rfl) ?_
      | refine Kept.k0 ?_
      | refine Kept.k1 ?_
      | refine Kept.k2 ?_
      | refine Kept.k3 ?_
      | refine Kept.k4 ?_))
theorem c67 {u : Nat} (hD : Db H) (hu : u < 2 ^ 64) (hK : K (.tuple ⟨[.slice none 0 0, .string (strOf (binF 64 u))]⟩) H) : SCalls Tryd.prog 67 [.slice none 0 0, .int .u64 (u : Int), .int .i64 2, .bool false, .bool false] H K := by
  refine enter67 ?_
  have h83 := fun (p : Nat × Blk) (K : Value → Heap → Prop) hk => c83 (K := K) (H := p :: H) (hD.mono fun q hq => .tail _ hq) hk
  repeat' ((conv => whnf); (first
      | refine c82 ?_
      | refine h83 _ _ ?_
      | refine Branch.f rfl ?_
      | refine Branch.t rfl ?_
      | refine Val.to 1 rfl ?_
      | refine New.mk (fun _ => ?_)
      | refine Look.at0 ?_
      | refine Cell.row ?_
      | refine Cell.buf ?_
      | refine Cells.row rfl ?_
      | refine Put.row rfl ?_
      | refine Put.buf rfl ?_
      | refine Look.at1 ?_
      | refine Look.at2 ?_
      | refine Look.at3 ?_
      | refine Look.at4 ?_
      | refine Look.at5 ?_
      | refine Look.at6 ?_
      | refine Look.at7 ?_
      | refine Look.at8 ?_
      | with_reducible refine Val.i64 (by omega) (by omega) ?_
      | with_reducible refine Val.u8 (by omega) (by omega) ?_
      | with_reducible refine Val.u32 (by omega) (by omega) ?_
      | with_reducible refine Val.u64 (by omega) (by omega) ?_
      | with_reducible refine Val.u8m ?_
      | with_reducible refine Val.u32m ?_
      | with_reducible refine Val.u64m ?_
      | with_reducible refine Val.shr8 ?_
      | with_reducible refine Val.shr16 (by decide) ?_
      | with_reducible refine Val.shr24 (by decide) ?_
      | with_reducible refine Val.raw ?_
      | refine Branch.not ?_
      | refine Branch.and ?_
      | refine Branch.or ?_
      | refine Branch.dt (by assumption) ?_
      | refine Branch.df (by assumption) ?_
      | refine Branch.dt rfl ?_
      | refine Branch.dt (by omega) ?_
      | refine Branch.df (by omega) ?_
      | refine Branch.t rfl ?_
      | refine Branch.f rfl ?_
      | refine Branch.t (by assumption) ?_
      | refine Branch.f (by assumption) ?_
      | refine Branch.d (fun _ => ?_) (fun _ => ?_)
      | refine Branch.mk (fun _ => ?_) (fun _ => ?_)
      | refine Need.mk (by first | omega | decide | rfl) ?_
      | refine Idx.nat (by omega) ?_
      | refine Idx.auto (by first | omega | decide) (by first | omega | decide) ?_
      | refine Cell.ro rfl ?_
      | refine SDraw.all (by kernel_rfl) ?_
      | refine Kept.k0 ?_
      | refine Kept.k1 ?_
      | refine Kept.k2 ?_
      | refine Kept.k3 ?_
      | refine Kept.k4 ?_))
  rename_i p
  refine SLoop.invA (fun (x : Nat × List UInt8) S H' => x.2.length ≤ 63 ∧ x.1 < 2 ^ (64 - x.2.length) ∧ binF 64 u = binF (64 - x.2.length) x.1 ++ x.2 ∧ S67 (.int .u64 (x.1 : Int)) (.bool false) (.bool false) (.slice none 0 0) (ptr p) (.int .i64 ((65 - x.2.length : Nat) : Int)) (.int .u64 1) (.int .u64 2) (.int .u64 1) S ∧ H' = digR p (65 - x.2.length) x.2 :: H) (fun x => x.1) (u, []) (Keep.all ⟨Nat.zero_le _, hu, by simp, .mk, rfl⟩) ?_
  rintro ⟨c, ds⟩ S H' ⟨h1, h2, h3, hS, rfl⟩ R hR
  dsimp only at h1 h2 h3 hS hR ⊢
  cases hS
  obtain ⟨n, hn⟩ : ∃ n, 64 - ds.length = n := ⟨_, rfl⟩
  have hn1 : 65 - ds.length = n + 1 := by omega
  rw [hn] at h2 h3
  rw [hn1]
  have hc64 : c < 2 ^ IntKind.u64.bits := Nat.lt_of_lt_of_le h2 (by show 2 ^ n ≤ 2 ^ 64; exact Nat.pow_le_pow_right (by decide) (by omega))
  have hc64' : (c : Int) ≤ 18446744073709551615 := by
    have : (2 : Nat) ^ IntKind.u64.bits = 18446744073709551616 := rfl
    omega
  have hi : ((n + 1 : Nat) : Int) - 1 = (n : Int) := by omega
  have hvn : ∀ K : Int → Prop, K (n : Int) → Val (IntKind.i64.wrap (((n + 1 : Nat) : Int) - 1)) K := fun K hk => Val.to _ (by rw [wrap_i64 (by omega) (by omega)]; omega) hk
  by_cases hc2 : c < 2
  · obtain ⟨m, rfl⟩ : ∃ m, n = m + 1 := ⟨n - 1, by omega⟩
    have e : binF (m + 1) c = [bitB c] := by unfold binF; rw [if_pos hc2]
    rw [e] at h3
    have hput := dig_put (n := m + 1) (ds := ds) (bitB c)
    rw [bitB_n hc2] at hput
    have hstr : ∀ (o : Oper) (xx : Operand) (K2 : Value → Heap → Prop), o.op = .convert 27 9 xx → K2 (.string (strOf (bitB c :: ds))) (digR p (m + 1) (bitB c :: ds) :: H) → RawV Tryd.prog o [.slice (some ⟨p, 0 + (m + 1), none⟩) (65 - (m + 1)) (65 - (m + 1))] (digR p (m + 1) (bitB c :: ds) :: H) K2 := fun o xx K2 ho hk =>
      RawV.toStr (e := 5) (l := bitB c :: ds) ho (by kernel_rfl) (by kernel_rfl) (by kernel_rfl) (.head _) (by rw [List.length_cons]; omega) (fun j x hj => by
        show (List.replicate (m + 1) zv ++ cel (bitB c :: ds))[0 + (m + 1) + j]? = _
        rw [List.getElem?_append_right (by rw [List.length_replicate]; omega), List.length_replicate, show 0 + (m + 1) + j - (m + 1) = j by omega]
        exact cel_at hj) hk
    have hK' : K (.tuple ⟨[.slice none 0 0, .string (strOf (bitB c :: ds))]⟩) H := by rw [h3] at hK; exact hK
    clear hR hK
    have hge : ¬ (2 : Int) ≤ (c : Int) := by omega
    rcases (by omega : c = 0 ∨ c = 1) with rfl | rfl
    · repeat' ((conv => whnf); (first
          | refine Branch.df hge ?_
          | with_reducible refine hvn _ ?_
          | refine Idx.of 0 rfl (by decide) ?_
          | refine Idx.of (m + 1) rfl (by omega) ?_
          | refine ⟨[], _, H, rfl, _, hput, appK_to ?_⟩
          | refine Branch.f rfl ?_
          | refine RawV.sliceArrFrom (e := 5) (n := 65) (k := m + 1) rfl (by kernel_rfl) (by kernel_rfl) (by omega) ?_
          | refine hstr _ _ _ rfl ?_
          | exact Keep.d1 hK'
          | refine New.mk (fun _ => ?_)
          | refine Look.at0 ?_
          | refine Cell.row ?_
          | refine Cell.buf ?_
          | refine Cells.row rfl ?_
          | refine Put.row rfl ?_
          | refine Put.buf rfl ?_
          | refine Look.at1 ?_
          | refine Look.at2 ?_
          | refine Look.at3 ?_
          | refine Look.at4 ?_
          | refine Look.at5 ?_
          | refine Look.at6 ?_
          | refine Look.at7 ?_
          | refine Look.at8 ?_
          | with_reducible refine Val.i64 (by omega) (by omega) ?_
          | with_reducible refine Val.u8 (by omega) (by omega) ?_
          | with_reducible refine Val.u32 (by omega) (by omega) ?_
          | with_reducible refine Val.u64 (by omega) (by omega) ?_
          | with_reducible refine Val.u8m ?_
          | with_reducible refine Val.u32m ?_
          | with_reducible refine Val.u64m ?_
          | with_reducible refine Val.shr8 ?_
          | with_reducible refine Val.shr16 (by decide) ?_
          | with_reducible refine Val.shr24 (by decide) ?_
          | with_reducible refine Val.raw ?_
          | refine Branch.not ?_
          | refine Branch.and ?_
          | refine Branch.or ?_
          | refine Branch.dt (by assumption) ?_
          | refine Branch.df (by assumption) ?_
          | refine Branch.dt rfl ?_
          | refine Branch.dt (by omega) ?_
          | refine Branch.df (by omega) ?_
          | refine Branch.t rfl ?_
          | refine Branch.f rfl ?_
          | refine Branch.t (by assumption) ?_
          | refine Branch.f (by assumption) ?_
          | refine Branch.d (fun _ => ?_) (fun _ => ?_)
          | refine Branch.mk (fun _ => ?_) (fun _ => ?_)
          | refine Need.mk (by first | omega | decide | rfl) ?_
          | refine Idx.nat (by omega) ?_
          | refine Idx.auto (by first | omega | decide) (by first | omega | decide) ?_
          | refine Cell.ro rfl ?_
          | refine SDraw.all (by kernel_rfl) ?_
          | refine Kept.k0 ?_
          | refine Kept.k1 ?_
          | refine Kept.k2 ?_
          | refine Kept.k3 ?_
          | refine Kept.k4 ?_))
    · repeat' ((conv => whnf); (first
          | refine Branch.df hge ?_
          | with_reducible refine hvn _ ?_
          | refine Idx.of 1 rfl (by decide) ?_
          | refine Idx.of (m + 1) rfl (by omega) ?_
          | refine ⟨[], _, H, rfl, _, hput, appK_to ?_⟩
          | refine Branch.f rfl ?_
          | refine RawV.sliceArrFrom (e := 5) (n := 65) (k := m + 1) rfl (by kernel_rfl) (by kernel_rfl) (by omega) ?_
          | refine hstr _ _ _ rfl ?_
          | exact Keep.d1 hK'
          | refine New.mk (fun _ => ?_)
          | refine Look.at0 ?_
          | refine Cell.row ?_
          | refine Cell.buf ?_
          | refine Cells.row rfl ?_
          | refine Put.row rfl ?_
          | refine Put.buf rfl ?_
          | refine Look.at1 ?_
          | refine Look.at2 ?_
          | refine Look.at3 ?_
          | refine Look.at4 ?_
          | refine Look.at5 ?_
          | refine Look.at6 ?_
          | refine Look.at7 ?_
          | refine Look.at8 ?_
          | with_reducible refine Val.i64 (by omega) (by omega) ?_
          | with_reducible refine Val.u8 (by omega) (by omega) ?_
          | with_reducible refine Val.u32 (by omega) (by omega) ?_
          | with_reducible refine Val.u64 (by omega) (by omega) ?_
          | with_reducible refine Val.u8m ?_
          | with_reducible refine Val.u32m ?_
          | with_reducible refine Val.u64m ?_
          | with_reducible refine Val.shr8 ?_
          | with_reducible refine Val.shr16 (by decide) ?_
          | with_reducible refine Val.shr24 (by decide) ?_
          | with_reducible refine Val.raw ?_
          | refine Branch.not ?_
          | refine Branch.and ?_
          | refine Branch.or ?_
          | refine Branch.dt (by assumption) ?_
          | refine Branch.df (by assumption) ?_
          | refine Branch.dt rfl ?_
          | refine Branch.dt (by omega) ?_
          | refine Branch.df (by omega) ?_
          | refine Branch.t rfl ?_
          | refine Branch.f rfl ?_
          | refine Branch.t (by assumption) ?_
          | refine Branch.f (by assumption) ?_
          | refine Branch.d (fun _ => ?_) (fun _ => ?_)
          | refine Branch.mk (fun _ => ?_) (fun _ => ?_)
          | refine Need.mk (by first | omega | decide | rfl) ?_
          | refine Idx.nat (by omega) ?_
          | refine Idx.auto (by first | omega | decide) (by first | omega | decide) ?_
          | refine Cell.ro rfl ?_
          | refine SDraw.all (by kernel_rfl) ?_
          | refine Kept.k0 ?_
          | refine Kept.k1 ?_
          | refine Kept.k2 ?_
          | refine Kept.k3 ?_
          | refine Kept.k4 ?_))
  · obtain ⟨m, rfl⟩ : ∃ m, n = m + 1 + 1 := ⟨n - 2, by
      rcases (by omega : n = 0 ∨ n = 1 ∨ 2 ≤ n) with rfl | rfl | h
      · simp at h2; omega
      · simp at h2; omega
      · omega⟩
    have e : binF (m + 1 + 1) c = binF (m + 1) (c / 2) ++ [bitB (c % 2)] := by
      show (if c < 2 then _ else _) = _
      rw [if_neg hc2]
    rw [e, List.append_assoc] at h3
    have hput := dig_put (n := m + 1 + 1) (ds := ds) (bitB (c % 2))
    rw [bitB_n (Nat.mod_lt _ (by decide))] at hput
    have hlen : (bitB (c % 2) :: ds).length = ds.length + 1 := rfl
    have hnext : ∀ S, S67 (.int .u64 ((c / 2 : Nat) : Int)) (.bool false) (.bool false) (.slice none 0 0) (ptr p) (.int .i64 ((m + 1 + 1 : Nat) : Int)) (.int .u64 1) (.int .u64 2) (.int .u64 1) S → R S (digR p (m + 1 + 1) (bitB (c % 2) :: ds) :: H) := fun S hS => hR (c / 2, bitB (c % 2) :: ds) _ _ (by show c / 2 < c; omega) (Keep.all ⟨by show (bitB (c % 2) :: ds).length ≤ 63; omega, by
      show c / 2 < 2 ^ (64 - (bitB (c % 2) :: ds).length)
      rw [hlen, show 64 - (ds.length + 1) = m + 1 by omega]
      rw [Nat.pow_succ] at h2; omega, by
      show _ = binF (64 - (bitB (c % 2) :: ds).length) (c / 2) ++ (bitB (c % 2) :: ds)
      rw [hlen, show 64 - (ds.length + 1) = m + 1 by omega]
      exact h3, by
      show S67 _ _ _ _ _ (.int .i64 ((65 - (bitB (c % 2) :: ds).length : Nat) : Int)) _ _ _ S
      rw [hlen, show 65 - (ds.length + 1) = m + 1 + 1 by omega]
      exact hS, by
      show _ = digR p (65 - (bitB (c % 2) :: ds).length) (bitB (c % 2) :: ds) :: H
      rw [hlen, show 65 - (ds.length + 1) = m + 1 + 1 by omega]⟩)
    clear hR hK
    have hge : (2 : Int) ≤ (c : Int) := by omega
    have hshr : ∀ K : Int → Prop, K ((c / 2 : Nat) : Int) → Val (shrI .u64 (c : Int) 1) K := fun K hk => Val.to _ (shr_nat (k := .u64) (n := 1) (by decide)) hk
    have hand : bitAnd .u64 (c : Int) 1 = ((c % 2 : Nat) : Int) := bitMask_nat (k := .u64) rfl (a := c) (n := 1) hc64 (by decide)
    rcases (by omega : c % 2 = 0 ∨ c % 2 = 1) with hq | hq <;> rw [hq] at hand hput hnext
    · repeat' ((conv => whnf); (first
          | refine Branch.dt hge ?_
          | with_reducible refine hvn _ ?_
          | with_reducible refine Val.to _ hand ?_
          | refine Idx.of 0 rfl (by decide) ?_
          | refine Idx.of (m + 1 + 1) rfl (by omega) ?_
          | refine ⟨[], _, H, rfl, _, hput, appK_to ?_⟩
          | with_reducible refine hshr _ ?_
          | exact hnext _ .mk
          | refine New.mk (fun _ => ?_)
          | refine Look.at0 ?_
          | refine Cell.row ?_
          | refine Cell.buf ?_
          | refine Cells.row rfl ?_
          | refine Put.row rfl ?_
          | refine Put.buf rfl ?_
          | refine Look.at1 ?_
          | refine Look.at2 ?_
          | refine Look.at3 ?_
          | refine Look.at4 ?_
          | refine Look.at5 ?_
          | refine Look.at6 ?_
          | refine Look.at7 ?_
          | refine Look.at8 ?_
          | with_reducible refine Val.i64 (by omega) (by omega) ?_
          | with_reducible refine Val.u8 (by omega) (by omega) ?_
          | with_reducible refine Val.u32 (by omega) (by omega) ?_
          | with_reducible refine Val.u64 (by omega) (by omega) ?_
          | with_reducible refine Val.u8m ?_
          | with_reducible refine Val.u32m ?_
          | with_reducible refine Val.u64m ?_
          | with_reducible refine Val.shr8 ?_
          | with_reducible refine Val.shr16 (by decide) ?_
          | with_reducible refine Val.shr24 (by decide) ?_
          | with_reducible refine Val.raw ?_
          | refine Branch.not ?_
          | refine Branch.and ?_
          | refine Branch.or ?_
          | refine Branch.dt (by assumption) ?_
          | refine Branch.df (by assumption) ?_
          | refine Branch.dt rfl ?_
          | refine Branch.dt (by omega) ?_
          | refine Branch.df (by omega) ?_
          | refine Branch.t rfl ?_
          | refine Branch.f rfl ?_
          | refine Branch.t (by assumption) ?_
          | refine Branch.f (by assumption) ?_
          | refine Branch.d (fun _ => ?_) (fun _ => ?_)
          | refine Branch.mk (fun _ => ?_) (fun _ => ?_)
          | refine Need.mk (by first | omega | decide | rfl) ?_
          | refine Idx.nat (by omega) ?_
          | refine Idx.auto (by first | omega | decide) (by first | omega | decide) ?_
          | refine Cell.ro rfl ?_
          | refine SDraw.all (by kernel_rfl) ?_
          | refine Kept.k0 ?_
          | refine Kept.k1 ?_
          | refine Kept.k2 ?_
          | refine Kept.k3 ?_
          | refine Kept.k4 ?_))
    · repeat' ((conv => whnf); (first
          | refine Branch.dt hge ?_
          | with_reducible refine hvn _ ?_
          | with_reducible refine Val.to _ hand ?_
          | refine Idx.of 1 rfl (by decide) ?_
          | refine Idx.of (m + 1 + 1) rfl (by omega) ?_
          | refine ⟨[], _, H, rfl, _, hput, appK_to ?_⟩
          | with_reducible refine hshr _ ?_
          | exact hnext _ .mk
          | refine New.mk (fun _ => ?_)
          | refine Look.at0 ?_
          | refine Cell.row ?_
          | refine Cell.buf ?_
          | refine Cells.row rfl ?_
          | refine Put.row rfl ?_
          | refine Put.buf rfl ?_
          | refine Look.at1 ?_
          | refine Look.at2 ?_
          | refine Look.at3 ?_
          | refine Look.at4 ?_
          | refine Look.at5 ?_
          | refine Look.at6 ?_
          | refine Look.at7 ?_
          | refine Look.at8 ?_
          | with_reducible refine Val.i64 (by omega) (by omega) ?_
          | with_reducible refine Val.u8 (by omega) (by omega) ?_
          | with_reducible refine Val.u32 (by omega) (by omega) ?_
          | with_reducible refine Val.u64 (by omega) (by omega) ?_
          | with_reducible refine Val.u8m ?_
          | with_reducible refine Val.u32m ?_
          | with_reducible refine Val.u64m ?_
          | with_reducible refine Val.shr8 ?_
          | with_reducible refine Val.shr16 (by decide) ?_
          | with_reducible refine Val.shr24 (by decide) ?_
          | with_reducible refine Val.raw ?_
          | refine Branch.not ?_
          | refine Branch.and ?_
          | refine Branch.or ?_
          | refine Branch.dt (by assumption) ?_
          | refine Branch.df (by assumption) ?_
          | refine Branch.dt rfl ?_
          | refine Branch.dt (by omega) ?_
          | refine Branch.df (by omega) ?_
          | refine Branch.t rfl ?_
          | refine Branch.f rfl ?_
          | refine Branch.t (by assumption) ?_
          | refine Branch.f (by assumption) ?_
          | refine Branch.d (fun _ => ?_) (fun _ => ?_)
          | refine Branch.mk (fun _ => ?_) (fun _ => ?_)
          | refine Need.mk (by first | omega | decide | rfl) ?_
          | refine Idx.nat (by omega) ?_
          | refine Idx.auto (by first | omega | decide) (by first | omega | decide) ?_
          | refine Cell.ro rfl ?_
          | refine SDraw.all (by kernel_rfl) ?_
          | refine Kept.k0 ?_
          | refine Kept.k1 ?_
          | refine Kept.k2 ?_
          | refine Kept.k3 ?_
          | refine Kept.k4 ?_))
theorem c48 {u : Nat} (hD : Db H) (hu : u < 2 ^ 64) (hK : K (.string (strOf (binF 64 u))) H) : SCalls Tryd.prog 48 [.int .u64 (u : Int), .int .i64 2] H K := by
  refine enter48 ?_
  repeat' ((conv => whnf); (first
      | refine c67 hD hu ?_
      | refine Branch.f rfl ?_
      | exact Keep.all hK
      | refine New.mk (fun _ => ?_)
      | refine Look.at0 ?_
      | refine Cell.row ?_
      | refine Cell.buf ?_
      | refine Cells.row rfl ?_
      | refine Put.row rfl ?_
      | refine Put.buf rfl ?_
      | refine Look.at1 ?_
      | refine Look.at2 ?_
      | refine Look.at3 ?_
      | refine Look.at4 ?_
      | refine Look.at5 ?_
      | refine Look.at6 ?_
      | refine Look.at7 ?_
      | refine Look.at8 ?_
      | with_reducible refine Val.i64 (by omega) (by omega) ?_
      | with_reducible refine Val.u8 (by omega) (by omega) ?_
      | with_reducible refine Val.u32 (by omega) (by omega) ?_
      | with_reducible refine Val.u64 (by omega) (by omega) ?_
      | with_reducible refine Val.u8m ?_
      | with_reducible refine Val.u32m ?_
      | with_reducible refine Val.u64m ?_
      | with_reducible refine Val.shr8 ?_
      | with_reducible refine Val.shr16 (by decide) ?_
      | with_reducible refine Val.shr24 (by decide) ?_
      | with_reducible refine Val.raw ?_
      | refine Branch.not ?_
      | refine Branch.and ?_
      | refine Branch.or ?_
      | refine Branch.dt (by assumption) ?_
      | refine Branch.df (by assumption) ?_
      | refine Branch.dt rfl ?_
      | refine Branch.dt (by omega) ?_
      | refine Branch.df (by omega) ?_
      | refine Branch.t rfl ?_
      | refine Branch.f rfl ?_
      | refine Branch.t (by assumption) ?_
      | refine Branch.f (by assumption) ?_
      | refine Branch.d (fun _ => ?_) (fun _ => ?_)
      | refine Branch.mk (fun _ => ?_) (fun _ => ?_)
      | refine Need.mk (by first | omega | decide | rfl) ?_
      | refine Idx.nat (by omega) ?_
      | refine Idx.auto (by first | omega | decide) (by first | omega | decide) ?_
      | refine Cell.ro rfl ?_
      | refine SDraw.all (by kernel_rfl) ?_
      | refine Kept.k0 ?_
      | refine Kept.k1 ?_
      | refine Kept.k2 ?_
      | refine Kept.k3 ?_
      | refine Kept.k4 ?_))
theorem c38 {u : Nat} (hD : Db H) (hu : u < 2 ^ 64) (hK : K (.string (strOf (binF 64 u))) H) : SCalls Tryd.prog 38 [.int .u64 (u : Int), .int .i64 2] H K := by
  refine enter38 ?_
  repeat' ((conv => whnf); (first
      | refine c48 hD hu ?_
      | exact Keep.all hK
      | refine New.mk (fun _ => ?_)
      | refine Look.at0 ?_
      | refine Cell.row ?_
      | refine Cell.buf ?_
      | refine Cells.row rfl ?_
      | refine Put.row rfl ?_
      | refine Put.buf rfl ?_
      | refine Look.at1 ?_
      | refine Look.at2 ?_
      | refine Look.at3 ?_
      | refine Look.at4 ?_
      | refine Look.at5 ?_
      | refine Look.at6 ?_
      | refine Look.at7 ?_
      | refine Look.at8 ?_
      | with_reducible refine Val.i64 (by omega) (by omega) ?_
      | with_reducible refine Val.u8 (by omega) (by omega) ?_
      | with_reducible refine Val.u32 (by omega) (by omega) ?_
      | with_reducible refine Val.u64 (by omega) (by omega) ?_
      | with_reducible refine Val.u8m ?_
      | with_reducible refine Val.u32m ?_
      | with_reducible refine Val.u64m ?_
      | with_reducible refine Val.shr8 ?_
      | with_reducible refine Val.shr16 (by decide) ?_
      | with_reducible refine Val.shr24 (by decide) ?_
      | with_reducible refine Val.raw ?_
      | refine Branch.not ?_
      | refine Branch.and ?_
      | refine Branch.or ?_
      | refine Branch.dt (by assumption) ?_
      | refine Branch.df (by assumption) ?_
      | refine Branch.dt rfl ?_
      | refine Branch.dt (by omega) ?_
      | refine Branch.df (by omega) ?_
      | refine Branch.t rfl ?_
      | refine Branch.f rfl ?_
      | refine Branch.t (by assumption) ?_
      | refine Branch.f (by assumption) ?_
      | refine Branch.d (fun _ => ?_) (fun _ => ?_)
      | refine Branch.mk (fun _ => ?_) (fun _ => ?_)
      | refine Need.mk (by first | omega | decide | rfl) ?_
      | refine Idx.nat (by omega) ?_
      | refine Idx.auto (by first | omega | decide) (by first | omega | decide) ?_
      | refine Cell.ro rfl ?_
      | refine SDraw.all (by kernel_rfl) ?_
      | refine Kept.k0 ?_
      | refine Kept.k1 ?_
      | refine Kept.k2 ?_
      | refine Kept.k3 ?_
      | refine Kept.k4 ?_))
end
end Go.Proofs.YtijnjklofdmelaaDoor

