/- Layer 24: whether anybody becomes master; small forms: by walks. -/
import Derived.Test.YtmakaofdpoiaaaaFlG
set_option linter.unusedVariables false
set_option linter.unusedSimpArgs false
set_option maxRecDepth 100000
set_option maxHeartbeats 4000000
namespace Go.Proofs.Ytmakaofdpoiaaaa
open Sx
section
variable {K : Value → Heap → Prop} {g cap : Nat} {a : Option Addr} {Bh : Heap} {slot lost : Int} {ms : List PM} {l : List M}
theorem c12E {l' : List M} {t : Option Int} (hn : Net a cap Bh ms l) (he : tickM slot lost l = (l', t)) (h : ∀ q c ms', 1 ≤ c → Net a cap Bh ms' l' → K (toldV q c t) (toldH q c t ++ netH g a cap Bh slot lost ms')) :
    SCalls Try.prog 12 [.pointer (some ⟨g, 0, none⟩)] (netH g a cap Bh slot lost ms) K :=
  c12N hn fun q c ms' hq hn' => by rw [he] at hn' ⊢; exact h q c ms' hq hn'
theorem c14E {n x : Int} {b : Bool} (hn : Net a cap Bh ms l) (he : knowsM l n = (x, b)) (h : K (.tuple ⟨[.int .i64 x, .bool b]⟩) (netH g a cap Bh slot lost ms)) :
    SCalls Try.prog 14 [.pointer (some ⟨g, 0, none⟩), .int .i64 n] (netH g a cap Bh slot lost ms) K := c14N hn n (by rw [he]; exact h)
theorem c15E {n x : Int} {b : Bool} (hn : Net a cap Bh ms l) (he : leftM l n = (x, b)) (h : K (.tuple ⟨[.int .u64 x, .bool b]⟩) (netH g a cap Bh slot lost ms)) :
    SCalls Try.prog 15 [.pointer (some ⟨g, 0, none⟩), .int .i64 n] (netH g a cap Bh slot lost ms) K := c15N hn n (by rw [he]; exact h)
theorem c8 {H : Heap} {sv : Value} (s lo : Int) (hs : 0 ≤ s) (hl : 0 ≤ lo) (hsv : ∃ a n c, sv = .slice a n c) (h : K (.agg ⟨[sv, .int .u64 (1 + s % 3), .int .u64 (1 + lo % 9)]⟩) H) : SCalls Try.prog 8 [.agg ⟨[sv, .int .u64 s, .int .u64 lo]⟩] H K := by
  obtain ⟨a, n, c, rfl⟩ := hsv
  refine SCalls.any (K := fun v N => v = .agg ⟨[.slice a n c, .int .u64 (1 + s % 3), .int .u64 (1 + lo % 9)]⟩ ∧ N = []) (enter8 ?_) (by rintro v N ⟨rfl, rfl⟩; exact h)
  repeat' ((conv => whnf); (first
      | with_reducible refine Val.tmod (by omega) ?_
      | refine New.mk (fun _ => ?_)
      | refine Look.at0 ?_
      | refine Cell.row ?_
      | refine Cell.buf ?_
      | refine Cells.row rfl ?_
      | refine Put.row rfl ?_
      | refine Put.buf rfl ?_
      | refine Look.at1 ?_
      | refine Look.at2 ?_
      | refine Look.at3 ?_
      | refine Look.at4 ?_
      | refine Look.at5 ?_
      | refine Look.at6 ?_
      | refine Look.at7 ?_
      | refine Look.at8 ?_
      | with_reducible refine Val.i64 (by omega) (by omega) ?_
      | with_reducible refine Val.u8 (by omega) (by omega) ?_
      | with_reducible refine Val.u32 (by omega) (by omega) ?_
      | with_reducible refine Val.u64 (by omega) (by omega) ?_
      | with_reducible refine Val.u8m ?_
      | with_reducible refine Val.u32m ?_
      | with_reducible refine Val.u64m ?_
      | with_reducible refine Val.shr8 ?_
      | with_reducible refine Val.shr16 (by decide) ?_
      | with_reducible refine Val.shr24 (by decide) ?_
      | with_reducible refine Val.raw ?_
      | refine Branch.not ?_
      | refine Branch.and ?_
      | refine Branch.or ?_
      | refine Branch.dt (by assumption) ?_
      | refine Branch.df (by assumption) ?_
      | refine Branch.dt rfl ?_
      | refine Branch.dt (by omega) ?_
      | refine Branch.df (by omega) ?_
      | refine Branch.t rfl ?_
      | refine Branch.f rfl ?_
      | refine Branch.t (by assumption) ?_
      | refine Branch.f (by assumption) ?_
      | refine Branch.d (fun _ => ?_) (fun _ => ?_)
      | refine Branch.mk (fun _ => ?_) (fun _ => ?_)
      | refine Need.mk (by first | omega | decide | rfl) ?_
      | refine Idx.nat (by omega) ?_
      | refine Idx.auto (by first | omega | decide) (by first | omega | decide) ?_
      | refine Cell.ro rfl ?_
      | refine SDraw.all (by kernel_rfl) ?_
      | refine Kept.k0 ?_
      | refine Kept.k1 ?_
      | refine Kept.k2 ?_
      | refine Kept.k3 ?_
      | refine Kept.k4 ?_))
  all_goals (conv => whnf)
  all_goals exact Keep.sub [] (List.nil_sublist _) ⟨rfl, rfl⟩
def lv0 : List M := [⟨5, 1, true, 1, 133, 0, 0⟩, ⟨3, 0, true, 1, 3, 0, 0⟩]
def lv1 : List M := [⟨5, 1, true, 1, 132, 0, 0⟩, ⟨3, 0, true, 1, 2, 0, 0⟩]
def lv2 : List M := [⟨5, 1, true, 1, 131, 0, 0⟩, ⟨3, 0, true, 1, 1, 0, 0⟩]
def lv3 : List M := [⟨5, 1, true, 3, 0, 3, 0⟩, ⟨3, 0, true, 2, 0, 0, 0⟩]
theorem lvN : newF 1 4 [⟨5, 1, true⟩, ⟨3, 0, true⟩] = .ok lv0 := by rfl
theorem lvT0 : tickM 1 4 lv0 = (lv1, none) := by rfl
theorem lvT1 : tickM 1 4 lv1 = (lv2, none) := by rfl
theorem lvT2 : tickM 1 4 lv2 = (lv3, some 3) := by rfl
theorem lvK : knowsM lv3 5 = (3, true) := by rfl
theorem live_c {H : Heap} (h : K (.bool true) H) : SCalls Try.prog 11 [] H K := by
  refine SCalls.any (K := fun v N => v = .bool true ∧ N = []) (enter11 (_u := undef) ?_) (by rintro v N ⟨rfl, rfl⟩; exact h)
  have hc : ∀ (j : Nat) m, [(⟨5, 1, true⟩ : Mas), ⟨3, 0, true⟩][j]? = some m → ∀ i v, m.cells[i]? = some v → (Blk.row 30 [.int .i64 5, .int .i64 1, .bool true, .int .i64 3, .int .i64 0, .bool true] (0, 0)).cell (0 + j * 3 + i) = some v := by
    intro j m hj i v hv
    have hi : i < 3 := (List.getElem?_eq_some_iff.1 hv).1
    have := flat_nth Mas.len hj hi
    rw [Nat.zero_add]
    exact this.trans hv
  have hE : ∀ e, newF 1 4 [⟨5, 1, true⟩, ⟨3, 0, true⟩] = .error e → False := fun e he => by rw [lvN] at he; cases he
  have hN : ∀ l, newF 1 4 [⟨5, 1, true⟩, ⟨3, 0, true⟩] = .ok l → l = lv0 := fun l he => by rw [lvN] at he; injection he with he; exact he.symm
  repeat' ((conv => whnf); (first
      | refine c10N (L := [⟨5, 1, true⟩, ⟨3, 0, true⟩]) hc (by decide) (fun e he => (hE e he).elim) (fun ms g a cap Bh l he hn => ?_)
      | refine SCalls.under [_] (c12E (l := lv0) (by have := hN _ he; subst this; assumption) lvT0 (fun q c ms' hq hn' => ?_))
      | refine SCalls.under [_] (c12E (l := lv1) (by assumption) lvT1 (fun q c ms' hq hn' => ?_))
      | refine SCalls.under [_] (c12E (l := lv2) (by assumption) lvT2 (fun q c ms' hq hn' => ?_))
      | refine SCalls.under [_, _] (c14E (l := lv3) (by assumption) lvK ?_)
      | refine SCalls.under [_] (c14E (l := lv3) (by assumption) lvK ?_)
      | refine New.mk (fun _ => ?_)
      | refine Look.at0 ?_
      | refine Cell.row ?_
      | refine Cell.buf ?_
      | refine Cells.row rfl ?_
      | refine Put.row rfl ?_
      | refine Put.buf rfl ?_
      | refine Look.at1 ?_
      | refine Look.at2 ?_
      | refine Look.at3 ?_
      | refine Look.at4 ?_
      | refine Look.at5 ?_
      | refine Look.at6 ?_
      | refine Look.at7 ?_
      | refine Look.at8 ?_
      | with_reducible refine Val.i64 (by omega) (by omega) ?_
      | with_reducible refine Val.u8 (by omega) (by omega) ?_
      | with_reducible refine Val.u32 (by omega) (by omega) ?_
      | with_reducible refine Val.u64 (by omega) (by omega) ?_
      | with_reducible refine Val.u8m ?_
      | with_reducible refine Val.u32m ?_
      | with_reducible refine Val.u64m ?_
      | with_reducible refine Val.shr8 ?_
      | with_reducible refine Val.shr16 (by decide) ?_
      | with_reducible refine Val.shr24 (by decide) ?_
      | with_reducible refine Val.raw ?_
      | refine Branch.not ?_
      | refine Branch.and ?_
      | refine Branch.or ?_
      | refine Branch.dt (by assumption) ?_
      | refine Branch.df (by assumption) ?_
      | refine Branch.dt rfl ?_
      | refine Branch.dt (by omega) ?_
      | refine Branch.df (by omega) ?_
      | refine Branch.t rfl ?_
      | refine Branch.f rfl ?_
      | refine Branch.t (by assumption) ?_
      | refine Branch.f (by assumption) ?_
      | refine Branch.d (fun _ => ?_) (fun _ => ?_)
      | refine Branch.mk (fun _ => ?_) (fun _ => ?_)
      | refine Need.mk (by first | omega | decide | rfl) ?_
      | refine Idx.nat (by omega) ?_
      | refine Idx.auto (by first | omega | decide) (by first | omega | decide) ?_
      | refine Cell.ro rfl ?_
      | refine SDraw.all (by kernel_rfl) ?_
      | refine Kept.k0 ?_
      | refine Kept.k1 ?_
      | refine Kept.k2 ?_
      | refine Kept.k3 ?_
      | refine Kept.k4 ?_))
  all_goals (conv => whnf)
  all_goals exact Keep.sub [] (List.nil_sublist _) ⟨rfl, rfl⟩
end
end Go.Proofs.Ytmakaofdpoiaaaa
