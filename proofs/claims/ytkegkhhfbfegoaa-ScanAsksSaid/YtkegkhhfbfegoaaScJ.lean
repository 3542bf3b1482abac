/- Layer 20: what is wrong with slaves and numbers: by walks. -/
import Derived.Test.YtkegkhhfbfegoaaScI
set_option linter.unusedVariables false
set_option linter.unusedSimpArgs false
set_option maxRecDepth 100000
set_option maxHeartbeats 4000000
namespace Go.Proofs.Ytkegkhhfbfegoaa
open Sx Ls
abbrev cI (n : Int) : List Value := [.int .i64 n]
abbrev cP (r : Nat) : List Value := [ptr r]
inductive S43 (A0 A1 A7 A8 : Value) : List Value → Prop
  | mk {r2 r3 r4 r5 r6 r9 r10 r11 r12 r13 r14 r15 r16 r17 r18 : Value} : S43 A0 A1 A7 A8 [A0, A1, r2, r3, r4, r5, r6, A7, A8, r9, r10, r11, r12, r13, r14, r15, r16, r17, r18]
section
variable {K : Value → Heap → Prop} {sv : Value} {H : Heap} {ad : List Nat} {xs : List Int}
def I43 (sv : Value) (H : Heap) (n : Nat) (j : Nat) (S : List Value) (H' : Heap) : Prop := j ≤ n ∧ H' = H ∧ S43 sv (.pointer none) (.int .i64 (n : Int)) (.int .i64 (j : Int)) S
/-- None of the slaves is nil. -/
theorem c43 (hin : InS cP 1 sv H ad) (h : K (.int .i64 (-1)) H) : SCalls Try.prog 43 [sv, .pointer none] H K := by
  obtain ⟨sa, sc, rfl, hml⟩ := hin.sv
  refine enter43 ?_
  repeat' ((conv => whnf); (first
      | refine New.mk (fun _ => ?_)
      | refine Look.at0 ?_
      | refine Cell.row ?_
      | refine Cell.buf ?_
      | refine Cells.row rfl ?_
      | refine Put.row rfl ?_
      | refine Put.buf rfl ?_
      | refine Look.at1 ?_
      | refine Look.at2 ?_
      | refine Look.at3 ?_
      | refine Look.at4 ?_
      | refine Look.at5 ?_
      | refine Look.at6 ?_
      | refine Look.at7 ?_
      | refine Look.at8 ?_
      | with_reducible refine Val.i64 (by omega) (by omega) ?_
      | with_reducible refine Val.u8 (by omega) (by omega) ?_
      | with_reducible refine Val.u32 (by omega) (by omega) ?_
      | with_reducible refine Val.u64 (by omega) (by omega) ?_
      | with_reducible refine Val.u8m ?_
      | with_reducible refine Val.u32m ?_
      | with_reducible refine Val.u64m ?_
      | with_reducible refine Val.shr8 ?_
      | with_reducible refine Val.shr16 (by decide) ?_
      | with_reducible refine Val.shr24 (by decide) ?_
      | with_reducible refine Val.raw ?_
      | refine Branch.not ?_
      | refine Branch.and ?_
      | refine Branch.or ?_
      | refine Branch.dt (by assumption) ?_
      | refine Branch.df (by assumption) ?_
      | refine Branch.dt rfl ?_
      | refine Branch.dt (by omega) ?_
      | refine Branch.df (by omega) ?_
      | refine Branch.t rfl ?_
      | refine Branch.f rfl ?_
      | refine Branch.t (by assumption) ?_
      | refine Branch.f (by assumption) ?_
      | refine Branch.d (fun _ => ?_) (fun _ => ?_)
      | refine Branch.mk (fun _ => ?_) (fun _ => ?_)
      | refine Need.mk (by first | omega | decide | rfl) ?_
      | refine Idx.nat (by omega) ?_
      | refine Idx.auto (by first | omega | decide) (by first | omega | decide) ?_
      | refine Cell.ro rfl ?_
      | refine SDraw.all (by kernel_rfl) ?_
      | refine Kept.k0 ?_
      | refine Kept.k1 ?_
      | refine Kept.k2 ?_
      | refine Kept.k3 ?_
      | refine Kept.k4 ?_))
  refine SLoop.invA (I43 (.slice sa ad.length sc) H ad.length) (fun j => ad.length - j) 0 (Keep.all ⟨by omega, rfl, .mk⟩) ?_
  rintro j S H' ⟨hj, rfl, hS⟩ R hR
  cases hS
  have hml' : ad.length ≤ 9223372036854775807 := by simp only [maxLen] at hml; omega
  by_cases hlt : j < ad.length
  · obtain ⟨r, o, c, b, e1, hm, hc⟩ := hin.at1 (List.getElem?_eq_getElem hlt) rfl
    injection e1 with e1 _ e3
    subst e1
    clear h
    repeat' ((conv => whnf); (first
        | refine Look.cell hm hc ?_
        | refine New.mk (fun _ => ?_)
        | refine Look.at0 ?_
        | refine Cell.row ?_
        | refine Cell.buf ?_
        | refine Cells.row rfl ?_
        | refine Put.row rfl ?_
        | refine Put.buf rfl ?_
        | refine Look.at1 ?_
        | refine Look.at2 ?_
        | refine Look.at3 ?_
        | refine Look.at4 ?_
        | refine Look.at5 ?_
        | refine Look.at6 ?_
        | refine Look.at7 ?_
        | refine Look.at8 ?_
        | with_reducible refine Val.i64 (by omega) (by omega) ?_
        | with_reducible refine Val.u8 (by omega) (by omega) ?_
        | with_reducible refine Val.u32 (by omega) (by omega) ?_
        | with_reducible refine Val.u64 (by omega) (by omega) ?_
        | with_reducible refine Val.u8m ?_
        | with_reducible refine Val.u32m ?_
        | with_reducible refine Val.u64m ?_
        | with_reducible refine Val.shr8 ?_
        | with_reducible refine Val.shr16 (by decide) ?_
        | with_reducible refine Val.shr24 (by decide) ?_
        | with_reducible refine Val.raw ?_
        | refine Branch.not ?_
        | refine Branch.and ?_
        | refine Branch.or ?_
        | refine Branch.dt (by assumption) ?_
        | refine Branch.df (by assumption) ?_
        | refine Branch.dt rfl ?_
        | refine Branch.dt (by omega) ?_
        | refine Branch.df (by omega) ?_
        | refine Branch.t rfl ?_
        | refine Branch.f rfl ?_
        | refine Branch.t (by assumption) ?_
        | refine Branch.f (by assumption) ?_
        | refine Branch.d (fun _ => ?_) (fun _ => ?_)
        | refine Branch.mk (fun _ => ?_) (fun _ => ?_)
        | refine Need.mk (by first | omega | decide | rfl) ?_
        | refine Idx.nat (by omega) ?_
        | refine Idx.auto (by first | omega | decide) (by first | omega | decide) ?_
        | refine Cell.ro rfl ?_
        | refine SDraw.all (by kernel_rfl) ?_
        | refine Kept.k0 ?_
        | refine Kept.k1 ?_
        | refine Kept.k2 ?_
        | refine Kept.k3 ?_
        | refine Kept.k4 ?_))
    all_goals (conv => whnf)
    exact hR (j + 1) _ _ (by omega) (Keep.all ⟨by omega, rfl, .mk⟩)
  · repeat' ((conv => whnf); (first
        | refine New.mk (fun _ => ?_)
        | refine Look.at0 ?_
        | refine Cell.row ?_
        | refine Cell.buf ?_
        | refine Cells.row rfl ?_
        | refine Put.row rfl ?_
        | refine Put.buf rfl ?_
        | refine Look.at1 ?_
        | refine Look.at2 ?_
        | refine Look.at3 ?_
        | refine Look.at4 ?_
        | refine Look.at5 ?_
        | refine Look.at6 ?_
        | refine Look.at7 ?_
        | refine Look.at8 ?_
        | with_reducible refine Val.i64 (by omega) (by omega) ?_
        | with_reducible refine Val.u8 (by omega) (by omega) ?_
        | with_reducible refine Val.u32 (by omega) (by omega) ?_
        | with_reducible refine Val.u64 (by omega) (by omega) ?_
        | with_reducible refine Val.u8m ?_
        | with_reducible refine Val.u32m ?_
        | with_reducible refine Val.u64m ?_
        | with_reducible refine Val.shr8 ?_
        | with_reducible refine Val.shr16 (by decide) ?_
        | with_reducible refine Val.shr24 (by decide) ?_
        | with_reducible refine Val.raw ?_
        | refine Branch.not ?_
        | refine Branch.and ?_
        | refine Branch.or ?_
        | refine Branch.dt (by assumption) ?_
        | refine Branch.df (by assumption) ?_
        | refine Branch.dt rfl ?_
        | refine Branch.dt (by omega) ?_
        | refine Branch.df (by omega) ?_
        | refine Branch.t rfl ?_
        | refine Branch.f rfl ?_
        | refine Branch.t (by assumption) ?_
        | refine Branch.f (by assumption) ?_
        | refine Branch.d (fun _ => ?_) (fun _ => ?_)
        | refine Branch.mk (fun _ => ?_) (fun _ => ?_)
        | refine Need.mk (by first | omega | decide | rfl) ?_
        | refine Idx.nat (by omega) ?_
        | refine Idx.auto (by first | omega | decide) (by first | omega | decide) ?_
        | refine Cell.ro rfl ?_
        | refine SDraw.all (by kernel_rfl) ?_
        | refine Kept.k0 ?_
        | refine Kept.k1 ?_
        | refine Kept.k2 ?_
        | refine Kept.k3 ?_
        | refine Kept.k4 ?_))
    all_goals (conv => whnf)
    exact Keep.all h
theorem c40 (hin : InS cP 1 sv H ad) (h : K (.bool false) H) : SCalls Try.prog 40 [sv, .pointer none] H K := by
  refine enter40 ?_
  obtain ⟨sa, sc, rfl, hml⟩ := hin.sv
  repeat' ((conv => whnf); (first
      | refine c43 hin ?_
      | refine New.mk (fun _ => ?_)
      | refine Look.at0 ?_
      | refine Cell.row ?_
      | refine Cell.buf ?_
      | refine Cells.row rfl ?_
      | refine Put.row rfl ?_
      | refine Put.buf rfl ?_
      | refine Look.at1 ?_
      | refine Look.at2 ?_
      | refine Look.at3 ?_
      | refine Look.at4 ?_
      | refine Look.at5 ?_
      | refine Look.at6 ?_
      | refine Look.at7 ?_
      | refine Look.at8 ?_
      | with_reducible refine Val.i64 (by omega) (by omega) ?_
      | with_reducible refine Val.u8 (by omega) (by omega) ?_
      | with_reducible refine Val.u32 (by omega) (by omega) ?_
      | with_reducible refine Val.u64 (by omega) (by omega) ?_
      | with_reducible refine Val.u8m ?_
      | with_reducible refine Val.u32m ?_
      | with_reducible refine Val.u64m ?_
      | with_reducible refine Val.shr8 ?_
      | with_reducible refine Val.shr16 (by decide) ?_
      | with_reducible refine Val.shr24 (by decide) ?_
      | with_reducible refine Val.raw ?_
      | refine Branch.not ?_
      | refine Branch.and ?_
      | refine Branch.or ?_
      | refine Branch.dt (by assumption) ?_
      | refine Branch.df (by assumption) ?_
      | refine Branch.dt rfl ?_
      | refine Branch.dt (by omega) ?_
      | refine Branch.df (by omega) ?_
      | refine Branch.t rfl ?_
      | refine Branch.f rfl ?_
      | refine Branch.t (by assumption) ?_
      | refine Branch.f (by assumption) ?_
      | refine Branch.d (fun _ => ?_) (fun _ => ?_)
      | refine Branch.mk (fun _ => ?_) (fun _ => ?_)
      | refine Need.mk (by first | omega | decide | rfl) ?_
      | refine Idx.nat (by omega) ?_
      | refine Idx.auto (by first | omega | decide) (by first | omega | decide) ?_
      | refine Cell.ro rfl ?_
      | refine SDraw.all (by kernel_rfl) ?_
      | refine Kept.k0 ?_
      | refine Kept.k1 ?_
      | refine Kept.k2 ?_
      | refine Kept.k3 ?_
      | refine Kept.k4 ?_))
  all_goals (conv => whnf)
  exact Keep.all h
/-- Whether a number is wrong: too small, too great, or there ahead. -/
def badIds : List Int → List Int → Bool
  | _, [] => false
  | seen, x :: r => if x < 1 then true else if 127 < x then true else if x ∈ seen then true else badIds (seen ++ [x]) r
def chk28 (xs : List Int) (n : Nat) : Int := if badIds [] xs = true then 1 else if 127 < n then 2 else 0
inductive S28 (A0 A1 A5 A9 A10 A11 : Value) : List Value → Prop
  | mk {r2 r3 r4 r6 r7 r8 r12 r13 r14 r15 r16 r17 r18 r19 r20 r21 r22 r23 r24 r25 r26 r27 r28 r29 r30 r31 r32 r33 r34 r35 : Value} : S28 A0 A1 A5 A9 A10 A11 [A0, A1, r2, r3, r4, A5, r6, r7, r8, A9, A10, A11, r12, r13, r14, r15, r16, r17, r18, r19, r20, r21, r22, r23, r24, r25, r26, r27, r28, r29, r30, r31, r32, r33, r34, r35]
structure T28 where
  (j : Nat) (l : List (Ent Int)) (c : Nat)
def I28 (sa sv : Value) (H : Heap) (xs : List Int) (g : Nat) (T : Bool) (x : T28) (S : List Value) (H' : Heap) : Prop :=
  x.j ≤ xs.length ∧ x.l.map Ent.key = xs.take x.j ∧ (∀ e ∈ x.l, e.val = .bool true) ∧ badIds (xs.take x.j) (xs.drop x.j) = T ∧ H' = (g, mapB (Value.int .i64) x.l x.c) :: H ∧
    S28 sa sv (.map (some g)) sv (.int .i64 (xs.length : Int)) (.int .i64 (x.j : Int)) S
theorem c28 {n cap : Nat} {a : Option Addr} (hin : InS cP 1 (.slice a n cap) H ad) (hn : ad.length = n) (hix : InS cI 1 sv H xs) (h : K (.int .i64 (chk28 xs n)) H) : SCalls Try.prog 28 [.slice a n cap, sv] H K := by
  subst hn
  have hty : mapTy Try.prog 84 3 4 (.int .i64) (.bool false) := mapTy.mk' (by kernel_rfl) (by kernel_rfl) (by kernel_rfl)
  obtain ⟨sa, sc, rfl, hml⟩ := hix.sv
  obtain ⟨_, _, _, hml2⟩ := hin.sv
  have hml' : xs.length ≤ 9223372036854775807 := by simp only [maxLen] at hml; omega
  have hml2' : ad.length ≤ 9223372036854775807 := by simp only [maxLen] at hml2; omega
  refine enter28 ?_
  repeat' ((conv => whnf); (first
      | refine RawV.mkMap (Value.int .i64) rfl (fun g => ?_)
      | refine New.mk (fun _ => ?_)
      | refine Look.at0 ?_
      | refine Cell.row ?_
      | refine Cell.buf ?_
      | refine Cells.row rfl ?_
      | refine Put.row rfl ?_
      | refine Put.buf rfl ?_
      | refine Look.at1 ?_
      | refine Look.at2 ?_
      | refine Look.at3 ?_
      | refine Look.at4 ?_
      | refine Look.at5 ?_
      | refine Look.at6 ?_
      | refine Look.at7 ?_
      | refine Look.at8 ?_
      | with_reducible refine Val.i64 (by omega) (by omega) ?_
      | with_reducible refine Val.u8 (by omega) (by omega) ?_
      | with_reducible refine Val.u32 (by omega) (by omega) ?_
      | with_reducible refine Val.u64 (by omega) (by omega) ?_
      | with_reducible refine Val.u8m ?_
      | with_reducible refine Val.u32m ?_
      | with_reducible refine Val.u64m ?_
      | with_reducible refine Val.shr8 ?_
      | with_reducible refine Val.shr16 (by decide) ?_
      | with_reducible refine Val.shr24 (by decide) ?_
      | with_reducible refine Val.raw ?_
      | refine Branch.not ?_
      | refine Branch.and ?_
      | refine Branch.or ?_
      | refine Branch.dt (by assumption) ?_
      | refine Branch.df (by assumption) ?_
      | refine Branch.dt rfl ?_
      | refine Branch.dt (by omega) ?_
      | refine Branch.df (by omega) ?_
      | refine Branch.t rfl ?_
      | refine Branch.f rfl ?_
      | refine Branch.t (by assumption) ?_
      | refine Branch.f (by assumption) ?_
      | refine Branch.d (fun _ => ?_) (fun _ => ?_)
      | refine Branch.mk (fun _ => ?_) (fun _ => ?_)
      | refine Need.mk (by first | omega | decide | rfl) ?_
      | refine Idx.nat (by omega) ?_
      | refine Idx.auto (by first | omega | decide) (by first | omega | decide) ?_
      | refine Cell.ro rfl ?_
      | refine SDraw.all (by kernel_rfl) ?_
      | refine Kept.k0 ?_
      | refine Kept.k1 ?_
      | refine Kept.k2 ?_
      | refine Kept.k3 ?_
      | refine Kept.k4 ?_))
  rename_i g
  refine SLoop.invA (I28 (.slice a ad.length cap) (.slice sa xs.length sc) H xs g (badIds [] xs)) (fun x => xs.length - x.j) ⟨0, [], 0⟩ (Keep.all ⟨by simp, by simp, by simp, by simp, rfl, .mk⟩) ?_
  rintro ⟨j, l, c⟩ S H' ⟨hj, hkeys, hvals, hbad, rfl, hS⟩ R hR
  dsimp only at hj hkeys hvals hbad hR hS ⊢
  cases hS
  by_cases hlt : j < xs.length
  · have hx := List.getElem?_eq_getElem hlt
    generalize xs[j] = x at hx
    obtain ⟨r, o, c', b, e1, hm, hc⟩ := hix.at1 hx rfl
    injection e1 with e1 _ e3
    subst e1
    have hdrop : xs.drop j = x :: xs.drop (j + 1) := by
      obtain ⟨h1, rfl⟩ := List.getElem?_eq_some_iff.1 hx
      exact List.drop_eq_getElem_cons hlt
    have htake : xs.take (j + 1) = xs.take j ++ [x] := by
      obtain ⟨h1, rfl⟩ := List.getElem?_eq_some_iff.1 hx
      exact List.take_succ_eq_append_getElem hlt
    have hin1 : x ∈ xs.take j ↔ ∃ e ∈ l, e.key = x := by rw [← hkeys]; simp
    rw [hdrop, badIds] at hbad
    repeat' ((conv => whnf); (first
        | refine Look.cell (.tail _ hm) hc ?_
        | refine RawV.look rfl hty (keysInt .i64) (.head _) (fun hno => ?_) (fun i e hi he => ?_)
        | refine RawV.upd (A := []) rfl hty (keysInt .i64) (fun hno2 => ?_) (fun i e hi he => ?_)
        | (rw [hvals _ (List.mem_of_getElem? hi)])
        | refine New.mk (fun _ => ?_)
        | refine Look.at0 ?_
        | refine Cell.row ?_
        | refine Cell.buf ?_
        | refine Cells.row rfl ?_
        | refine Put.row rfl ?_
        | refine Put.buf rfl ?_
        | refine Look.at1 ?_
        | refine Look.at2 ?_
        | refine Look.at3 ?_
        | refine Look.at4 ?_
        | refine Look.at5 ?_
        | refine Look.at6 ?_
        | refine Look.at7 ?_
        | refine Look.at8 ?_
        | with_reducible refine Val.i64 (by omega) (by omega) ?_
        | with_reducible refine Val.u8 (by omega) (by omega) ?_
        | with_reducible refine Val.u32 (by omega) (by omega) ?_
        | with_reducible refine Val.u64 (by omega) (by omega) ?_
        | with_reducible refine Val.u8m ?_
        | with_reducible refine Val.u32m ?_
        | with_reducible refine Val.u64m ?_
        | with_reducible refine Val.shr8 ?_
        | with_reducible refine Val.shr16 (by decide) ?_
        | with_reducible refine Val.shr24 (by decide) ?_
        | with_reducible refine Val.raw ?_
        | refine Branch.not ?_
        | refine Branch.and ?_
        | refine Branch.or ?_
        | refine Branch.dt (by assumption) ?_
        | refine Branch.df (by assumption) ?_
        | refine Branch.dt rfl ?_
        | refine Branch.dt (by omega) ?_
        | refine Branch.df (by omega) ?_
        | refine Branch.t rfl ?_
        | refine Branch.f rfl ?_
        | refine Branch.t (by assumption) ?_
        | refine Branch.f (by assumption) ?_
        | refine Branch.d (fun _ => ?_) (fun _ => ?_)
        | refine Branch.mk (fun _ => ?_) (fun _ => ?_)
        | refine Need.mk (by first | omega | decide | rfl) ?_
        | refine Idx.nat (by omega) ?_
        | refine Idx.auto (by first | omega | decide) (by first | omega | decide) ?_
        | refine Cell.ro rfl ?_
        | refine SDraw.all (by kernel_rfl) ?_
        | refine Kept.k0 ?_
        | refine Kept.k1 ?_
        | refine Kept.k2 ?_
        | refine Kept.k3 ?_
        | refine Kept.k4 ?_))
    all_goals (conv => whnf)
    · rename_i h1
      rw [if_pos h1] at hbad
      rw [chk28, if_pos hbad.symm] at h
      exact Keep.d1 h
    · rename_i h0 h1
      rw [if_neg h0, if_pos h1] at hbad
      rw [chk28, if_pos hbad.symm] at h
      exact Keep.d1 h
    · rename_i h0 h1
      have hnin : x ∉ xs.take j := fun hm => by
        obtain ⟨e, he1, he2⟩ := hin1.1 hm
        exact hno e he1 he2
      rw [if_neg h0, if_neg h1, if_neg hnin, ← htake] at hbad
      refine hR ⟨j + 1, l ++ [⟨x, .bool true, c⟩], c + 1⟩ _ _ (by show xs.length - (j + 1) < xs.length - j; omega) (Keep.all ⟨by show j + 1 ≤ xs.length; omega, ?_, ?_, hbad, rfl, .mk⟩)
      · show (l ++ [(⟨x, .bool true, c⟩ : Ent Int)]).map Ent.key = xs.take (j + 1)
        rw [List.map_append, hkeys, htake]; rfl
      · intro e he
        rcases List.mem_append.1 he with he | he
        · exact hvals e he
        · obtain rfl := List.mem_singleton.1 he; rfl
    · exact absurd he (hno e (List.mem_of_getElem? hi))
    · rename_i h0 h1
      rw [if_neg h0, if_neg h1, if_pos (hin1.2 ⟨e, List.mem_of_getElem? hi, he⟩)] at hbad
      rw [chk28, if_pos hbad.symm] at h
      exact Keep.d1 h
  · have e : j = xs.length := by omega
    subst e
    rw [List.drop_length, badIds] at hbad
    rw [chk28, if_neg (by rw [← hbad]; decide)] at h
    have hin2 : InS cP 1 (.slice a ad.length cap) ((g, mapB (Value.int .i64) l c) :: H) ad := hin.mono fun p hp => .tail _ hp
    repeat' ((conv => whnf); (first
        | refine c40 hin2 ?_
        | refine New.mk (fun _ => ?_)
        | refine Look.at0 ?_
        | refine Cell.row ?_
        | refine Cell.buf ?_
        | refine Cells.row rfl ?_
        | refine Put.row rfl ?_
        | refine Put.buf rfl ?_
        | refine Look.at1 ?_
        | refine Look.at2 ?_
        | refine Look.at3 ?_
        | refine Look.at4 ?_
        | refine Look.at5 ?_
        | refine Look.at6 ?_
        | refine Look.at7 ?_
        | refine Look.at8 ?_
        | with_reducible refine Val.i64 (by omega) (by omega) ?_
        | with_reducible refine Val.u8 (by omega) (by omega) ?_
        | with_reducible refine Val.u32 (by omega) (by omega) ?_
        | with_reducible refine Val.u64 (by omega) (by omega) ?_
        | with_reducible refine Val.u8m ?_
        | with_reducible refine Val.u32m ?_
        | with_reducible refine Val.u64m ?_
        | with_reducible refine Val.shr8 ?_
        | with_reducible refine Val.shr16 (by decide) ?_
        | with_reducible refine Val.shr24 (by decide) ?_
        | with_reducible refine Val.raw ?_
        | refine Branch.not ?_
        | refine Branch.and ?_
        | refine Branch.or ?_
        | refine Branch.dt (by assumption) ?_
        | refine Branch.df (by assumption) ?_
        | refine Branch.dt rfl ?_
        | refine Branch.dt (by omega) ?_
        | refine Branch.df (by omega) ?_
        | refine Branch.t rfl ?_
        | refine Branch.f rfl ?_
        | refine Branch.t (by assumption) ?_
        | refine Branch.f (by assumption) ?_
        | refine Branch.d (fun _ => ?_) (fun _ => ?_)
        | refine Branch.mk (fun _ => ?_) (fun _ => ?_)
        | refine Need.mk (by first | omega | decide | rfl) ?_
        | refine Idx.nat (by omega) ?_
        | refine Idx.auto (by first | omega | decide) (by first | omega | decide) ?_
        | refine Cell.ro rfl ?_
        | refine SDraw.all (by kernel_rfl) ?_
        | refine Kept.k0 ?_
        | refine Kept.k1 ?_
        | refine Kept.k2 ?_
        | refine Kept.k3 ?_
        | refine Kept.k4 ?_))
    all_goals (conv => whnf)
    · rw [if_pos (by omega)] at h; exact Keep.d1 h
    · rw [if_neg (by omega)] at h; exact Keep.d1 h
end
end Go.Proofs.Ytkegkhhfbfegoaa
