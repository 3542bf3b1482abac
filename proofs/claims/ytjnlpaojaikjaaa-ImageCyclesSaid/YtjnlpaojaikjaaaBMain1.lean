/- Layer 26: what is wrong with variables: by walks. -/
import Derived.Test.YtjnlpaojaikjaaaBMain

set_option linter.unusedVariables false
set_option linter.unusedSimpArgs false
set_option maxRecDepth 100000
set_option maxHeartbeats 4000000
namespace Go.Proofs.Ytjnlpaojaikjaaa
open Sx
/-- A variable as it comes in: its producer, its consumers, and where they lie. -/
structure VarI where
  prod : Int
  cons : List Int
  a : Option Addr
  c : Nat
abbrev VarI.cells (x : VarI) : List Value := [.int .i64 x.prod, .slice x.a x.cons.length x.c]
structure InV (sv : Value) (H : Heap) (L : List VarI) : Prop where
  sl : InS VarI.cells 2 sv H L
  el : ∀ x ∈ L, InS cI 1 (.slice x.a x.cons.length x.c) H x.cons
theorem InV.mono {sv : Value} {H H' : Heap} {L : List VarI} (h : InV sv H L) (hs : ∀ q ∈ H, q ∈ H') : InV sv H' L := ⟨h.sl.mono hs, fun x hx => (h.el x hx).mono hs⟩
theorem inS_at {α : Type} {f : α → List Value} {k : Nat} {sv : Value} {H : Heap} {L : List α} (h : InS f k sv H L) (hk : ∀ x, (f x).length = k) {j : Nat} {x : α} (hj : L[j]? = some x) :
    ∃ r o c b, sv = .slice (some ⟨r, o, none⟩) L.length c ∧ (r, b) ∈ H ∧ ∀ i v, (f x)[i]? = some v → b.cell (o + j * k + i) = some v := by
  obtain ⟨a, c, rfl, h1, h2⟩ := h
  rcases h2 with rfl | ⟨r, o, b, rfl, hm, hc⟩
  · simp at hj
  · exact ⟨r, o, c, b, rfl, hm, fun i v hv => hc j x i v hj hv (by rw [← hk x]; exact (List.getElem?_eq_some_iff.1 hv).1)⟩
/-- A slice is appended to one of the call's own. -/
theorem RawV.appS {α : Type} {f : α → List Value} {k bytes r n cap : Nat} {P : Program} {o : Oper} {t e : TypeId} {xs xx : Operand} {sv : Value} {H : Heap} {L : List α} {cs : List Value} {K : Value → Heap → Prop} (hin : InS f k sv H L) (ho : o.op = .call { callee := .builtin .append, args := #[xs, xx], argTypes := #[t, t] }) (ht : tyOk P t e k bytes = true) (hk0 : 0 < k)
    (hk : ∀ x, (f x).length = k) (h1 : ∀ x, ∀ u ∈ f x, u.oneCell' = true) (hcs : cs.length = n * k) (hcap : n ≤ cap) (hcm : cap ≤ maxLen) (h63 : n + L.length ≤ maxLen) (hb : (n + L.length) * bytes ≤ 140737488355328) (h : ∀ q c, n + L.length ≤ c → c ≤ maxLen → K (.slice (some ⟨q, 0, none⟩) (n + L.length) c) ((q, .buf e (cs ++ L.flatMap f) (c * k)) :: H)) :
    RawV P o [.slice (some ⟨r, 0, none⟩) n cap, sv] ((r, .buf e cs (cap * k)) :: H) K := by
  obtain ⟨a, c, rfl, hml, hc⟩ := hin
  rcases hc with rfl | ⟨r2, o2, b, rfl, hm, hc⟩
  · refine RawV.appE (bytes := bytes) (size := k) (e := e) ho ht hcap ?_
    have := h r cap (by simpa using hcap) hcm
    simpa using this
  · have hn : ∀ j v, (L.flatMap f)[j]? = some v → b.cell (o2 + j) = some v := by
      intro j v hj
      obtain ⟨j', i, x, rfl, hi, hx, hv⟩ := flat_inv hk hj
      have := hc j' x i v hx hv hi
      rw [← Nat.add_assoc]; exact this
    have h1' : ∀ u ∈ L.flatMap f, u.oneCell' = true := by
      intro u hu
      obtain ⟨x, _, hx⟩ := List.mem_flatMap.1 hu
      exact h1 x u hx
    exact RawV.appT (A := []) (B := H) (m := L.length) (news := L.flatMap f) (r2 := r2) (o2 := o2) (b2 := b) (size := k) (bytes := bytes) (e := e) ho ht hk0 hcs rfl hcap hcm (.tail _ hm) (flat_len hk _) hn h1' h63 hb (fun r' cap' g1 g2 => h _ _ g1 g2)
def dupI : List Int → List Int → Bool
  | _, [] => false
  | seen, x :: r => if x ∈ seen then true else dupI (seen ++ [x]) r
def badV (nodes : Int) (p : Int) (c : List Int) : Bool := (p :: c).any (fun n => decide (n < 0) || decide (nodes ≤ n)) || decide (p ∈ c)
def goV (nodes : Int) : List (Int × List Int) → Int
  | [] => 0
  | x :: r => if badV nodes x.1 x.2 = true then 1 else if dupI [] x.2 = true then 5 else goV nodes r
def chkV (nodes : Int) (l : List (Int × List Int)) : Int := if nodes < 1 ∨ 127 < nodes then 1 else if 64 < l.length then 2 else goV nodes l
abbrev VarI.lg (x : VarI) : Int × List Int := (x.prod, x.cons)
inductive S23a (A2 A7 A22 A23 A24 A46 A47 A48 : Value) : List Value → Prop
  | mk {r0 r1 r3 r4 r5 r6 r8 r9 r10 r11 r12 r13 r14 r15 r16 r17 r18 r19 r20 r21 r25 r26 r27 r28 r29 r30 r31 r32 r33 r34 r35 r36 r37 r38 r39 r40 r41 r42 r43 r44 r45 r49 r50 r51 r52 r53 r54 r55 r56 r57 r58 : Value} : S23a A2 A7 A22 A23 A24 A46 A47 A48 [r0, r1, A2, r3, r4, r5, r6, A7, r8, r9, r10, r11, r12, r13, r14, r15, r16, r17, r18, r19, r20, r21, A22, A23, A24, r25, r26, r27, r28, r29, r30, r31, r32, r33, r34, r35, r36, r37, r38, r39, r40, r41, r42, r43, r44, r45, A46, A47, A48, r49, r50, r51, r52, r53, r54, r55, r56, r57, r58]
inductive S23 (A2 A22 A23 A24 : Value) : List Value → Prop
  | mk {r0 r1 r3 r4 r5 r6 r7 r8 r9 r10 r11 r12 r13 r14 r15 r16 r17 r18 r19 r20 r21 r25 r26 r27 r28 r29 r30 r31 r32 r33 r34 r35 r36 r37 r38 r39 r40 r41 r42 r43 r44 r45 r46 r47 r48 r49 r50 r51 r52 r53 r54 r55 r56 r57 r58 : Value} : S23 A2 A22 A23 A24 [r0, r1, A2, r3, r4, r5, r6, r7, r8, r9, r10, r11, r12, r13, r14, r15, r16, r17, r18, r19, r20, r21, A22, A23, A24, r25, r26, r27, r28, r29, r30, r31, r32, r33, r34, r35, r36, r37, r38, r39, r40, r41, r42, r43, r44, r45, r46, r47, r48, r49, r50, r51, r52, r53, r54, r55, r56, r57, r58]
structure T23 where
  (k : Nat) (l : List (Ent Int)) (c : Nat)
section
variable {K : Value → Heap → Prop} {H : Heap}
theorem c37 {p2 : Nat} {nodes : Int} (h2 : (p2, Blk.row 3 [.int .i64 nodes] (0, 0)) ∈ H) (n : Int) (h : K (.bool (decide (n < 0) || decide (nodes ≤ n))) H) : SCalls Try.prog 37 [.int .i64 n, ptr p2] H K := by
  refine enter37 ?_
  repeat' ((conv => whnf); (first
      | refine Look.mem h2 (fun _ _ _ => ?_)
      | refine New.mk (fun _ => ?_)
      | refine Look.at0 ?_
      | refine Cell.row ?_
      | refine Cell.buf ?_
      | refine Cells.row rfl ?_
      | refine Put.row rfl ?_
      | refine Put.buf rfl ?_
      | refine Look.at1 ?_
      | refine Look.at2 ?_
      | refine Look.at3 ?_
      | refine Look.at4 ?_
      | refine Look.at5 ?_
      | refine Look.at6 ?_
      | refine Look.at7 ?_
      | refine Look.at8 ?_
      | with_reducible refine Val.i64 (by omega) (by omega) ?_
      | with_reducible refine Val.u8 (by omega) (by omega) ?_
      | with_reducible refine Val.u32 (by omega) (by omega) ?_
      | with_reducible refine Val.u64 (by omega) (by omega) ?_
      | with_reducible refine Val.u8m ?_
      | with_reducible refine Val.u32m ?_
      | with_reducible refine Val.u64m ?_
      | with_reducible refine Val.shr8 ?_
      | with_reducible refine Val.shr16 (by decide) ?_
      | with_reducible refine Val.shr24 (by decide) ?_
      | with_reducible refine Val.raw ?_
      | refine Branch.not ?_
      | refine Branch.and ?_
      | refine Branch.or ?_
      | refine Branch.dt (by assumption) ?_
      | refine Branch.df (by assumption) ?_
      | refine Branch.dt rfl ?_
      | refine Branch.dt (by omega) ?_
      | refine Branch.df (by omega) ?_
      | refine Branch.t rfl ?_
      | refine Branch.f rfl ?_
      | refine Branch.t (by assumption) ?_
      | refine Branch.f (by assumption) ?_
      | refine Branch.d (fun _ => ?_) (fun _ => ?_)
      | refine Branch.mk (fun _ => ?_) (fun _ => ?_)
      | refine Need.mk (by first | omega | decide | rfl) ?_
      | refine Idx.nat (by omega) ?_
      | refine Idx.auto (by first | omega | decide) (by first | omega | decide) ?_
      | refine Cell.ro rfl ?_
      | refine SDraw.all (by kernel_rfl) ?_
      | refine Kept.k0 ?_
      | refine Kept.k1 ?_
      | refine Kept.k2 ?_
      | refine Kept.k3 ?_
      | refine Kept.k4 ?_))
  all_goals (conv => whnf)
  · rw [decide_eq_true (by assumption), Bool.true_or] at h; exact Keep.all h
  · rw [decide_eq_false (by assumption), Bool.false_or] at h; exact Keep.all h
def I23a (p2 pm : Nat) (so n0 j0 sv : Value) (cons : List Int) (A : Nat × Blk) (B : Heap) (T : Bool) (x : T23) (S : List Value) (H : Heap) : Prop :=
  x.k ≤ cons.length ∧ x.l.map Ent.key = cons.take x.k ∧ (∀ e ∈ x.l, e.val = .bool true) ∧ dupI (cons.take x.k) (cons.drop x.k) = T ∧ S23a (ptr p2) (.map (some pm)) so n0 j0 sv (.int .i64 (cons.length : Int)) (.int .i64 (x.k : Int)) S ∧ H = A :: (pm, mapB kI x.l x.c) :: B
def I23 (p2 : Nat) (sv : Value) (nodes : Int) (L : List VarI) (H : Heap) (T : Int) (j : Nat) (S : List Value) (H' : Heap) : Prop :=
  j ≤ L.length ∧ goV nodes ((L.drop j).map VarI.lg) = T ∧ S23 (ptr p2) sv (.int .i64 (L.length : Int)) (.int .i64 (j : Int)) S ∧ H' = (p2, .row 3 [.int .i64 nodes] (0, 0)) :: H
theorem hty82 : mapTy Try.prog 82 3 4 (.int .i64) (.bool false) := mapTy.mk' (by kernel_rfl) (by kernel_rfl) (by kernel_rfl)
theorem c23 {sv : Value} {L : List VarI} (hin : InV sv H L) (hbig : ∀ x ∈ L, x.cons.length * 8 ≤ 140737488355000) (nodes : Int) (h : K (.int .i64 (chkV nodes (L.map VarI.lg))) H) : SCalls Try.prog 23 [.int .i64 nodes, sv] H K := by
  obtain ⟨sa, sc, rfl, hml⟩ := hin.sl.sv
  have hml' : L.length ≤ 9223372036854775807 := by simp only [maxLen] at hml; omega
  refine enter23 ?_
  unfold chkV at h
  rw [List.length_map] at h
  by_cases hn : nodes < 1 ∨ 127 < nodes
  · rw [if_pos hn] at h
    rcases hn with hn | hn
    · repeat' ((conv => whnf); (first
          | refine New.mk (fun _ => ?_)
          | refine Look.at0 ?_
          | refine Cell.row ?_
          | refine Cell.buf ?_
          | refine Cells.row rfl ?_
          | refine Put.row rfl ?_
          | refine Put.buf rfl ?_
          | refine Look.at1 ?_
          | refine Look.at2 ?_
          | refine Look.at3 ?_
          | refine Look.at4 ?_
          | refine Look.at5 ?_
          | refine Look.at6 ?_
          | refine Look.at7 ?_
          | refine Look.at8 ?_
          | with_reducible refine Val.i64 (by omega) (by omega) ?_
          | with_reducible refine Val.u8 (by omega) (by omega) ?_
          | with_reducible refine Val.u32 (by omega) (by omega) ?_
          | with_reducible refine Val.u64 (by omega) (by omega) ?_
          | with_reducible refine Val.u8m ?_
          | with_reducible refine Val.u32m ?_
          | with_reducible refine Val.u64m ?_
          | with_reducible refine Val.shr8 ?_
          | with_reducible refine Val.shr16 (by decide) ?_
          | with_reducible refine Val.shr24 (by decide) ?_
          | with_reducible refine Val.raw ?_
          | refine Branch.not ?_
          | refine Branch.and ?_
          | refine Branch.or ?_
          | refine Branch.dt (by assumption) ?_
          | refine Branch.df (by assumption) ?_
          | refine Branch.dt rfl ?_
          | refine Branch.dt (by omega) ?_
          | refine Branch.df (by omega) ?_
          | refine Branch.t rfl ?_
          | refine Branch.f rfl ?_
          | refine Branch.t (by assumption) ?_
          | refine Branch.f (by assumption) ?_
          | refine Branch.d (fun _ => ?_) (fun _ => ?_)
          | refine Branch.mk (fun _ => ?_) (fun _ => ?_)
          | refine Need.mk (by first | omega | decide | rfl) ?_
          | refine Idx.nat (by omega) ?_
          | refine Idx.auto (by first | omega | decide) (by first | omega | decide) ?_
          | refine Cell.ro rfl ?_
          | refine SDraw.all (by kernel_rfl) ?_
          | refine Kept.k0 ?_
          | refine Kept.k1 ?_
          | refine Kept.k2 ?_
          | refine Kept.k3 ?_
          | refine Kept.k4 ?_))
      all_goals (conv => whnf)
      exact Keep.d1 h
    · by_cases hn1 : nodes < 1
      · omega
      · repeat' ((conv => whnf); (first
            | refine New.mk (fun _ => ?_)
            | refine Look.at0 ?_
            | refine Cell.row ?_
            | refine Cell.buf ?_
            | refine Cells.row rfl ?_
            | refine Put.row rfl ?_
            | refine Put.buf rfl ?_
            | refine Look.at1 ?_
            | refine Look.at2 ?_
            | refine Look.at3 ?_
            | refine Look.at4 ?_
            | refine Look.at5 ?_
            | refine Look.at6 ?_
            | refine Look.at7 ?_
            | refine Look.at8 ?_
            | with_reducible refine Val.i64 (by omega) (by omega) ?_
            | with_reducible refine Val.u8 (by omega) (by omega) ?_
            | with_reducible refine Val.u32 (by omega) (by omega) ?_
            | with_reducible refine Val.u64 (by omega) (by omega) ?_
            | with_reducible refine Val.u8m ?_
            | with_reducible refine Val.u32m ?_
            | with_reducible refine Val.u64m ?_
            | with_reducible refine Val.shr8 ?_
            | with_reducible refine Val.shr16 (by decide) ?_
            | with_reducible refine Val.shr24 (by decide) ?_
            | with_reducible refine Val.raw ?_
            | refine Branch.not ?_
            | refine Branch.and ?_
            | refine Branch.or ?_
            | refine Branch.dt (by assumption) ?_
            | refine Branch.df (by assumption) ?_
            | refine Branch.dt rfl ?_
            | refine Branch.dt (by omega) ?_
            | refine Branch.df (by omega) ?_
            | refine Branch.t rfl ?_
            | refine Branch.f rfl ?_
            | refine Branch.t (by assumption) ?_
            | refine Branch.f (by assumption) ?_
            | refine Branch.d (fun _ => ?_) (fun _ => ?_)
            | refine Branch.mk (fun _ => ?_) (fun _ => ?_)
            | refine Need.mk (by first | omega | decide | rfl) ?_
            | refine Idx.nat (by omega) ?_
            | refine Idx.auto (by first | omega | decide) (by first | omega | decide) ?_
            | refine Cell.ro rfl ?_
            | refine SDraw.all (by kernel_rfl) ?_
            | refine Kept.k0 ?_
            | refine Kept.k1 ?_
            | refine Kept.k2 ?_
            | refine Kept.k3 ?_
            | refine Kept.k4 ?_))
        all_goals (conv => whnf)
        exact Keep.d1 h
  · rw [if_neg hn] at h
    have hn1 : ¬ nodes < 1 := by omega
    have hn2 : ¬ 127 < nodes := by omega
    by_cases hl : 64 < L.length
    · rw [if_pos hl] at h
      repeat' ((conv => whnf); (first
          | refine New.mk (fun _ => ?_)
          | refine Look.at0 ?_
          | refine Cell.row ?_
          | refine Cell.buf ?_
          | refine Cells.row rfl ?_
          | refine Put.row rfl ?_
          | refine Put.buf rfl ?_
          | refine Look.at1 ?_
          | refine Look.at2 ?_
          | refine Look.at3 ?_
          | refine Look.at4 ?_
          | refine Look.at5 ?_
          | refine Look.at6 ?_
          | refine Look.at7 ?_
          | refine Look.at8 ?_
          | with_reducible refine Val.i64 (by omega) (by omega) ?_
          | with_reducible refine Val.u8 (by omega) (by omega) ?_
          | with_reducible refine Val.u32 (by omega) (by omega) ?_
          | with_reducible refine Val.u64 (by omega) (by omega) ?_
          | with_reducible refine Val.u8m ?_
          | with_reducible refine Val.u32m ?_
          | with_reducible refine Val.u64m ?_
          | with_reducible refine Val.shr8 ?_
          | with_reducible refine Val.shr16 (by decide) ?_
          | with_reducible refine Val.shr24 (by decide) ?_
          | with_reducible refine Val.raw ?_
          | refine Branch.not ?_
          | refine Branch.and ?_
          | refine Branch.or ?_
          | refine Branch.dt (by assumption) ?_
          | refine Branch.df (by assumption) ?_
          | refine Branch.dt rfl ?_
          | refine Branch.dt (by omega) ?_
          | refine Branch.df (by omega) ?_
          | refine Branch.t rfl ?_
          | refine Branch.f rfl ?_
          | refine Branch.t (by assumption) ?_
          | refine Branch.f (by assumption) ?_
          | refine Branch.d (fun _ => ?_) (fun _ => ?_)
          | refine Branch.mk (fun _ => ?_) (fun _ => ?_)
          | refine Need.mk (by first | omega | decide | rfl) ?_
          | refine Idx.nat (by omega) ?_
          | refine Idx.auto (by first | omega | decide) (by first | omega | decide) ?_
          | refine Cell.ro rfl ?_
          | refine SDraw.all (by kernel_rfl) ?_
          | refine Kept.k0 ?_
          | refine Kept.k1 ?_
          | refine Kept.k2 ?_
          | refine Kept.k3 ?_
          | refine Kept.k4 ?_))
      all_goals (conv => whnf)
      exact Keep.d1 h
    · rw [if_neg hl] at h
      repeat' ((conv => whnf); (first
          | refine New.mk (fun _ => ?_)
          | refine Look.at0 ?_
          | refine Cell.row ?_
          | refine Cell.buf ?_
          | refine Cells.row rfl ?_
          | refine Put.row rfl ?_
          | refine Put.buf rfl ?_
          | refine Look.at1 ?_
          | refine Look.at2 ?_
          | refine Look.at3 ?_
          | refine Look.at4 ?_
          | refine Look.at5 ?_
          | refine Look.at6 ?_
          | refine Look.at7 ?_
          | refine Look.at8 ?_
          | with_reducible refine Val.i64 (by omega) (by omega) ?_
          | with_reducible refine Val.u8 (by omega) (by omega) ?_
          | with_reducible refine Val.u32 (by omega) (by omega) ?_
          | with_reducible refine Val.u64 (by omega) (by omega) ?_
          | with_reducible refine Val.u8m ?_
          | with_reducible refine Val.u32m ?_
          | with_reducible refine Val.u64m ?_
          | with_reducible refine Val.shr8 ?_
          | with_reducible refine Val.shr16 (by decide) ?_
          | with_reducible refine Val.shr24 (by decide) ?_
          | with_reducible refine Val.raw ?_
          | refine Branch.not ?_
          | refine Branch.and ?_
          | refine Branch.or ?_
          | refine Branch.dt (by assumption) ?_
          | refine Branch.df (by assumption) ?_
          | refine Branch.dt rfl ?_
          | refine Branch.dt (by omega) ?_
          | refine Branch.df (by omega) ?_
          | refine Branch.t rfl ?_
          | refine Branch.f rfl ?_
          | refine Branch.t (by assumption) ?_
          | refine Branch.f (by assumption) ?_
          | refine Branch.d (fun _ => ?_) (fun _ => ?_)
          | refine Branch.mk (fun _ => ?_) (fun _ => ?_)
          | refine Need.mk (by first | omega | decide | rfl) ?_
          | refine Idx.nat (by omega) ?_
          | refine Idx.auto (by first | omega | decide) (by first | omega | decide) ?_
          | refine Cell.ro rfl ?_
          | refine SDraw.all (by kernel_rfl) ?_
          | refine Kept.k0 ?_
          | refine Kept.k1 ?_
          | refine Kept.k2 ?_
          | refine Kept.k3 ?_
          | refine Kept.k4 ?_))
      rename_i p2
      generalize hT : goV nodes (L.map VarI.lg) = T at h
      refine SLoop.invA (I23 p2 (.slice sa L.length sc) nodes L H T) (fun j => L.length - j) 0 (Keep.all ⟨by omega, hT, .mk, rfl⟩) ?_
      rintro j S H' ⟨hj, hgo, hS, rfl⟩ R hR
      cases hS
      by_cases hlt : j < L.length
      · obtain ⟨x, hx, hdrop, _⟩ := list_at hlt
        obtain ⟨r, o, c, b, e1, hm, hc⟩ := inS_at hin.sl (fun _ => rfl) hx
        injection e1 with e1 _ e3
        subst e1
        have hxm := List.mem_of_getElem? hx
        have hel := hin.el x hxm
        have hbx := hbig x hxm
        rw [hdrop, List.map_cons, goV] at hgo
        obtain ⟨xpr, xco, xad, xcp⟩ := x
        dsimp only at hgo hbx hel hc hx
        obtain ⟨_, _, _, hxl⟩ := hel.sv
        have hxl2 : xco.length ≤ 9223372036854775807 := by omega
        clear hT
        have hnext : ∀ S (y1 y2 y3 : Nat × Blk), badV nodes xpr xco = false → dupI [] xco = false → S23 (ptr p2) (.slice (some ⟨r, o, none⟩) L.length sc) (.int .i64 (L.length : Int)) (.int .i64 ((j + 1 : Nat) : Int)) S → R S (y1 :: y2 :: y3 :: (p2, .row 3 [.int .i64 nodes] (0, 0)) :: H) := fun S y1 y2 y3 h1 h2 h3 => by
          rw [if_neg (by rw [h1]; decide), if_neg (by rw [h2]; decide)] at hgo
          exact hR (j + 1) _ _ (by omega) (Keep.d3 ⟨by omega, hgo, h3, rfl⟩)
        clear hR
        have hall : ∀ (q c : Nat) (B : Heap), InS cI 1 (.slice (some ⟨q, 0, none⟩) (1 + xco.length) c) ((q, .buf 3 ([Value.int .i64 xpr] ++ xco.flatMap cI) (c * 1)) :: B) (xpr :: xco) := fun q c B => by
          have := InS.buf (f := cI) (k := 1) (p := q) (c := c) (N := c * 1) (t := 3) (H := (q, .buf 3 ([Value.int .i64 xpr] ++ xco.flatMap cI) (c * 1)) :: B) (L := xpr :: xco) (.head _) rfl (fun _ => rfl) (by simp only [List.length_cons, maxLen]; omega)
          rw [List.length_cons, Nat.add_comm] at this
          exact this
        unfold badV at hgo hnext
        cases hA : (xpr :: xco).any (fun n => decide (n < 0) || decide (nodes ≤ n)) with
        | true =>
          rw [hA, Bool.true_or, if_pos rfl] at hgo
          rw [← hgo] at h
          repeat' ((conv => whnf); (first
              | refine Look.cells (.tail _ hm) rfl hc ?_
              | refine RawV.mkMap kI rfl (fun pm => ?_)
              | refine RawV.toBuf (A := []) (RawV.appS (e := 3) (k := 1) (bytes := 8) (L := xco) (f := cI) (n := 1) (cap := 1) (hel.mono fun z hz => .tail _ (.tail _ (.tail _ hz))) rfl (by kernel_rfl) (by decide) (fun _ => rfl) (fun y u hu => by obtain rfl := List.mem_singleton.1 hu; rfl) rfl (by decide) (by unfold maxLen; decide) (by unfold maxLen; omega) (by omega) (fun q c hq1 hq2 => ?_))
              | refine c30 (xs := xpr :: xco) (hall _ _ _) (fun n => decide (n < 0) || decide (nodes ≤ n)) (fun n K hk => c37 (.tail _ (.tail _ (.tail _ (.head _)))) n hk) ?_
              | refine c32 (hel.mono fun z hz => .tail _ (.tail _ (.tail _ (.tail _ hz)))) _ ?_
              | refine Branch.t hA ?_
              | refine New.mk (fun _ => ?_)
              | refine Look.at0 ?_
              | refine Cell.row ?_
              | refine Cell.buf ?_
              | refine Cells.row rfl ?_
              | refine Put.row rfl ?_
              | refine Put.buf rfl ?_
              | refine Look.at1 ?_
              | refine Look.at2 ?_
              | refine Look.at3 ?_
              | refine Look.at4 ?_
              | refine Look.at5 ?_
              | refine Look.at6 ?_
              | refine Look.at7 ?_
              | refine Look.at8 ?_
              | with_reducible refine Val.i64 (by omega) (by omega) ?_
              | with_reducible refine Val.u8 (by omega) (by omega) ?_
              | with_reducible refine Val.u32 (by omega) (by omega) ?_
              | with_reducible refine Val.u64 (by omega) (by omega) ?_
              | with_reducible refine Val.u8m ?_
              | with_reducible refine Val.u32m ?_
              | with_reducible refine Val.u64m ?_
              | with_reducible refine Val.shr8 ?_
              | with_reducible refine Val.shr16 (by decide) ?_
              | with_reducible refine Val.shr24 (by decide) ?_
              | with_reducible refine Val.raw ?_
              | refine Branch.not ?_
              | refine Branch.and ?_
              | refine Branch.or ?_
              | refine Branch.dt (by assumption) ?_
              | refine Branch.df (by assumption) ?_
              | refine Branch.dt rfl ?_
              | refine Branch.dt (by omega) ?_
              | refine Branch.df (by omega) ?_
              | refine Branch.t rfl ?_
              | refine Branch.f rfl ?_
              | refine Branch.t (by assumption) ?_
              | refine Branch.f (by assumption) ?_
              | refine Branch.d (fun _ => ?_) (fun _ => ?_)
              | refine Branch.mk (fun _ => ?_) (fun _ => ?_)
              | refine Need.mk (by first | omega | decide | rfl) ?_
              | refine Idx.nat (by omega) ?_
              | refine Idx.auto (by first | omega | decide) (by first | omega | decide) ?_
              | refine Cell.ro rfl ?_
              | refine SDraw.all (by kernel_rfl) ?_
              | refine Kept.k0 ?_
              | refine Kept.k1 ?_
              | refine Kept.k2 ?_
              | refine Kept.k3 ?_
              | refine Kept.k4 ?_))
          all_goals (conv => whnf)
          exact Keep.sub _ (List.sublist_append_right [_, _, _, _] _) h
        | false =>
          rw [hA, Bool.false_or] at hgo hnext
          by_cases hB : xpr ∈ xco
          · rw [decide_eq_true hB, if_pos rfl] at hgo
            rw [← hgo] at h
            repeat' ((conv => whnf); (first
                | refine Look.cells (.tail _ hm) rfl hc ?_
                | refine RawV.mkMap kI rfl (fun pm => ?_)
                | refine RawV.toBuf (A := []) (RawV.appS (e := 3) (k := 1) (bytes := 8) (L := xco) (f := cI) (n := 1) (cap := 1) (hel.mono fun z hz => .tail _ (.tail _ (.tail _ hz))) rfl (by kernel_rfl) (by decide) (fun _ => rfl) (fun y u hu => by obtain rfl := List.mem_singleton.1 hu; rfl) rfl (by decide) (by unfold maxLen; decide) (by unfold maxLen; omega) (by omega) (fun q c hq1 hq2 => ?_))
                | refine c30 (xs := xpr :: xco) (hall _ _ _) (fun n => decide (n < 0) || decide (nodes ≤ n)) (fun n K hk => c37 (.tail _ (.tail _ (.tail _ (.head _)))) n hk) ?_
                | refine c32 (hel.mono fun z hz => .tail _ (.tail _ (.tail _ (.tail _ hz)))) _ ?_
                | refine Branch.f hA ?_
                | refine New.mk (fun _ => ?_)
                | refine Look.at0 ?_
                | refine Cell.row ?_
                | refine Cell.buf ?_
                | refine Cells.row rfl ?_
                | refine Put.row rfl ?_
                | refine Put.buf rfl ?_
                | refine Look.at1 ?_
                | refine Look.at2 ?_
                | refine Look.at3 ?_
                | refine Look.at4 ?_
                | refine Look.at5 ?_
                | refine Look.at6 ?_
                | refine Look.at7 ?_
                | refine Look.at8 ?_
                | with_reducible refine Val.i64 (by omega) (by omega) ?_
                | with_reducible refine Val.u8 (by omega) (by omega) ?_
                | with_reducible refine Val.u32 (by omega) (by omega) ?_
                | with_reducible refine Val.u64 (by omega) (by omega) ?_
                | with_reducible refine Val.u8m ?_
                | with_reducible refine Val.u32m ?_
                | with_reducible refine Val.u64m ?_
                | with_reducible refine Val.shr8 ?_
                | with_reducible refine Val.shr16 (by decide) ?_
                | with_reducible refine Val.shr24 (by decide) ?_
                | with_reducible refine Val.raw ?_
                | refine Branch.not ?_
                | refine Branch.and ?_
                | refine Branch.or ?_
                | refine Branch.dt (by assumption) ?_
                | refine Branch.df (by assumption) ?_
                | refine Branch.dt rfl ?_
                | refine Branch.dt (by omega) ?_
                | refine Branch.df (by omega) ?_
                | refine Branch.t rfl ?_
                | refine Branch.f rfl ?_
                | refine Branch.t (by assumption) ?_
                | refine Branch.f (by assumption) ?_
                | refine Branch.d (fun _ => ?_) (fun _ => ?_)
                | refine Branch.mk (fun _ => ?_) (fun _ => ?_)
                | refine Need.mk (by first | omega | decide | rfl) ?_
                | refine Idx.nat (by omega) ?_
                | refine Idx.auto (by first | omega | decide) (by first | omega | decide) ?_
                | refine Cell.ro rfl ?_
                | refine SDraw.all (by kernel_rfl) ?_
                | refine Kept.k0 ?_
                | refine Kept.k1 ?_
                | refine Kept.k2 ?_
                | refine Kept.k3 ?_
                | refine Kept.k4 ?_))
            all_goals (conv => whnf)
            exact Keep.sub _ (List.sublist_append_right [_, _, _, _] _) h
          · rw [decide_eq_false hB, if_neg (by decide)] at hgo
            rw [decide_eq_false hB] at hnext
            repeat' ((conv => whnf); (first
                | refine Look.cells (.tail _ hm) rfl hc ?_
                | refine RawV.mkMap kI rfl (fun pm => ?_)
                | refine RawV.toBuf (A := []) (RawV.appS (e := 3) (k := 1) (bytes := 8) (L := xco) (f := cI) (n := 1) (cap := 1) (hel.mono fun z hz => .tail _ (.tail _ (.tail _ hz))) rfl (by kernel_rfl) (by decide) (fun _ => rfl) (fun y u hu => by obtain rfl := List.mem_singleton.1 hu; rfl) rfl (by decide) (by unfold maxLen; decide) (by unfold maxLen; omega) (by omega) (fun q c hq1 hq2 => ?_))
                | refine c30 (xs := xpr :: xco) (hall _ _ _) (fun n => decide (n < 0) || decide (nodes ≤ n)) (fun n K hk => c37 (.tail _ (.tail _ (.tail _ (.head _)))) n hk) ?_
                | refine c32 (hel.mono fun z hz => .tail _ (.tail _ (.tail _ (.tail _ hz)))) _ ?_
                | refine Branch.f hA ?_
                | refine New.mk (fun _ => ?_)
                | refine Look.at0 ?_
                | refine Cell.row ?_
                | refine Cell.buf ?_
                | refine Cells.row rfl ?_
                | refine Put.row rfl ?_
                | refine Put.buf rfl ?_
                | refine Look.at1 ?_
                | refine Look.at2 ?_
                | refine Look.at3 ?_
                | refine Look.at4 ?_
                | refine Look.at5 ?_
                | refine Look.at6 ?_
                | refine Look.at7 ?_
                | refine Look.at8 ?_
                | with_reducible refine Val.i64 (by omega) (by omega) ?_
                | with_reducible refine Val.u8 (by omega) (by omega) ?_
                | with_reducible refine Val.u32 (by omega) (by omega) ?_
                | with_reducible refine Val.u64 (by omega) (by omega) ?_
                | with_reducible refine Val.u8m ?_
                | with_reducible refine Val.u32m ?_
                | with_reducible refine Val.u64m ?_
                | with_reducible refine Val.shr8 ?_
                | with_reducible refine Val.shr16 (by decide) ?_
                | with_reducible refine Val.shr24 (by decide) ?_
                | with_reducible refine Val.raw ?_
                | refine Branch.not ?_
                | refine Branch.and ?_
                | refine Branch.or ?_
                | refine Branch.dt (by assumption) ?_
                | refine Branch.df (by assumption) ?_
                | refine Branch.dt rfl ?_
                | refine Branch.dt (by omega) ?_
                | refine Branch.df (by omega) ?_
                | refine Branch.t rfl ?_
                | refine Branch.f rfl ?_
                | refine Branch.t (by assumption) ?_
                | refine Branch.f (by assumption) ?_
                | refine Branch.d (fun _ => ?_) (fun _ => ?_)
                | refine Branch.mk (fun _ => ?_) (fun _ => ?_)
                | refine Need.mk (by first | omega | decide | rfl) ?_
                | refine Idx.nat (by omega) ?_
                | refine Idx.auto (by first | omega | decide) (by first | omega | decide) ?_
                | refine Cell.ro rfl ?_
                | refine SDraw.all (by kernel_rfl) ?_
                | refine Kept.k0 ?_
                | refine Kept.k1 ?_
                | refine Kept.k2 ?_
                | refine Kept.k3 ?_
                | refine Kept.k4 ?_))
            refine SLoop.invA (I23a p2 pm _ _ _ (.slice xad xco.length xcp) xco _ _ (dupI [] xco)) (fun y => xco.length - y.k) ⟨0, [], 0⟩ (Keep.all ⟨by simp, by simp, by simp, by simp, .mk, rfl⟩) ?_
            rintro ⟨k, l, c2⟩ S H' ⟨hk, hkeys, hvals, hdup, hS, rfl⟩ R2 hR2
            dsimp only at hk hkeys hvals hdup hS hR2 ⊢
            cases hS
            by_cases hlt2 : k < xco.length
            · obtain ⟨n, hn0, hdrop2, htake2⟩ := list_at hlt2
              obtain ⟨r2, o2, c3, b2, e12, hm2, hc2⟩ := hel.at1 hn0 rfl
              injection e12 with e12 _ e32
              have hin1 : n ∈ xco.take k ↔ ∃ e ∈ l, e.key = n := by rw [← hkeys]; simp
              rw [hdrop2, dupI] at hdup
              subst e12
              clear hnext
              repeat' ((conv => whnf); (first
                  | refine Look.cell (.tail _ (.tail _ (.tail _ (.tail _ hm2)))) hc2 ?_
                  | refine RawV.look (f := kI) rfl hty82 (keysInt .i64) (.tail _ (.head _)) (fun hno => ?_) (fun i e hi he => ?_)
                  | refine RawV.upd (A := [_]) rfl hty82 (keysInt .i64) (fun hno2 => ?_) (fun i e hi he => ?_)
                  | (rw [hvals _ (List.mem_of_getElem? hi)])
                  | refine New.mk (fun _ => ?_)
                  | refine Look.at0 ?_
                  | refine Cell.row ?_
                  | refine Cell.buf ?_
                  | refine Cells.row rfl ?_
                  | refine Put.row rfl ?_
                  | refine Put.buf rfl ?_
                  | refine Look.at1 ?_
                  | refine Look.at2 ?_
                  | refine Look.at3 ?_
                  | refine Look.at4 ?_
                  | refine Look.at5 ?_
                  | refine Look.at6 ?_
                  | refine Look.at7 ?_
                  | refine Look.at8 ?_
                  | with_reducible refine Val.i64 (by omega) (by omega) ?_
                  | with_reducible refine Val.u8 (by omega) (by omega) ?_
                  | with_reducible refine Val.u32 (by omega) (by omega) ?_
                  | with_reducible refine Val.u64 (by omega) (by omega) ?_
                  | with_reducible refine Val.u8m ?_
                  | with_reducible refine Val.u32m ?_
                  | with_reducible refine Val.u64m ?_
                  | with_reducible refine Val.shr8 ?_
                  | with_reducible refine Val.shr16 (by decide) ?_
                  | with_reducible refine Val.shr24 (by decide) ?_
                  | with_reducible refine Val.raw ?_
                  | refine Branch.not ?_
                  | refine Branch.and ?_
                  | refine Branch.or ?_
                  | refine Branch.dt (by assumption) ?_
                  | refine Branch.df (by assumption) ?_
                  | refine Branch.dt rfl ?_
                  | refine Branch.dt (by omega) ?_
                  | refine Branch.df (by omega) ?_
                  | refine Branch.t rfl ?_
                  | refine Branch.f rfl ?_
                  | refine Branch.t (by assumption) ?_
                  | refine Branch.f (by assumption) ?_
                  | refine Branch.d (fun _ => ?_) (fun _ => ?_)
                  | refine Branch.mk (fun _ => ?_) (fun _ => ?_)
                  | refine Need.mk (by first | omega | decide | rfl) ?_
                  | refine Idx.nat (by omega) ?_
                  | refine Idx.auto (by first | omega | decide) (by first | omega | decide) ?_
                  | refine Cell.ro rfl ?_
                  | refine SDraw.all (by kernel_rfl) ?_
                  | refine Kept.k0 ?_
                  | refine Kept.k1 ?_
                  | refine Kept.k2 ?_
                  | refine Kept.k3 ?_
                  | refine Kept.k4 ?_))
              all_goals (conv => whnf)
              · have hnin : n ∉ xco.take k := fun hm => by
                  obtain ⟨e, he1, he2⟩ := hin1.1 hm
                  exact hno e he1 he2
                rw [if_neg hnin, ← htake2] at hdup
                refine hR2 ⟨k + 1, l ++ [⟨n, .bool true, c2⟩], c2 + 1⟩ _ _ (by show xco.length - (k + 1) < xco.length - k; omega) (Keep.all ⟨by show k + 1 ≤ xco.length; omega, ?_, ?_, hdup, .mk, rfl⟩)
                · show (l ++ [(⟨n, .bool true, c2⟩ : Ent Int)]).map Ent.key = xco.take (k + 1)
                  rw [List.map_append, hkeys, htake2]; rfl
                · intro e he
                  rcases List.mem_append.1 he with he | he
                  · exact hvals e he
                  · obtain rfl := List.mem_singleton.1 he; rfl
              · exact absurd he (hno e (List.mem_of_getElem? hi))
              · rw [if_pos (hin1.2 ⟨e, List.mem_of_getElem? hi, he⟩)] at hdup
                rw [if_pos hdup.symm] at hgo
                rw [← hgo] at h
                exact Keep.sub _ (List.sublist_append_right [_, _, _, _] _) h
            · have e : k = xco.length := by omega
              subst e
              rw [List.drop_length, dupI] at hdup
              repeat' ((conv => whnf); (first
                  | refine New.mk (fun _ => ?_)
                  | refine Look.at0 ?_
                  | refine Cell.row ?_
                  | refine Cell.buf ?_
                  | refine Cells.row rfl ?_
                  | refine Put.row rfl ?_
                  | refine Put.buf rfl ?_
                  | refine Look.at1 ?_
                  | refine Look.at2 ?_
                  | refine Look.at3 ?_
                  | refine Look.at4 ?_
                  | refine Look.at5 ?_
                  | refine Look.at6 ?_
                  | refine Look.at7 ?_
                  | refine Look.at8 ?_
                  | with_reducible refine Val.i64 (by omega) (by omega) ?_
                  | with_reducible refine Val.u8 (by omega) (by omega) ?_
                  | with_reducible refine Val.u32 (by omega) (by omega) ?_
                  | with_reducible refine Val.u64 (by omega) (by omega) ?_
                  | with_reducible refine Val.u8m ?_
                  | with_reducible refine Val.u32m ?_
                  | with_reducible refine Val.u64m ?_
                  | with_reducible refine Val.shr8 ?_
                  | with_reducible refine Val.shr16 (by decide) ?_
                  | with_reducible refine Val.shr24 (by decide) ?_
                  | with_reducible refine Val.raw ?_
                  | refine Branch.not ?_
                  | refine Branch.and ?_
                  | refine Branch.or ?_
                  | refine Branch.dt (by assumption) ?_
                  | refine Branch.df (by assumption) ?_
                  | refine Branch.dt rfl ?_
                  | refine Branch.dt (by omega) ?_
                  | refine Branch.df (by omega) ?_
                  | refine Branch.t rfl ?_
                  | refine Branch.f rfl ?_
                  | refine Branch.t (by assumption) ?_
                  | refine Branch.f (by assumption) ?_
                  | refine Branch.d (fun _ => ?_) (fun _ => ?_)
                  | refine Branch.mk (fun _ => ?_) (fun _ => ?_)
                  | refine Need.mk (by first | omega | decide | rfl) ?_
                  | refine Idx.nat (by omega) ?_
                  | refine Idx.auto (by first | omega | decide) (by first | omega | decide) ?_
                  | refine Cell.ro rfl ?_
                  | refine SDraw.all (by kernel_rfl) ?_
                  | refine Kept.k0 ?_
                  | refine Kept.k1 ?_
                  | refine Kept.k2 ?_
                  | refine Kept.k3 ?_
                  | refine Kept.k4 ?_))
              all_goals (conv => whnf)
              exact hnext _ _ _ _ rfl hdup.symm .mk
      · have e : j = L.length := by omega
        subst e
        rw [List.drop_length, List.map_nil, goV] at hgo
        rw [← hgo] at h
        repeat' ((conv => whnf); (first
            | refine New.mk (fun _ => ?_)
            | refine Look.at0 ?_
            | refine Cell.row ?_
            | refine Cell.buf ?_
            | refine Cells.row rfl ?_
            | refine Put.row rfl ?_
            | refine Put.buf rfl ?_
            | refine Look.at1 ?_
            | refine Look.at2 ?_
            | refine Look.at3 ?_
            | refine Look.at4 ?_
            | refine Look.at5 ?_
            | refine Look.at6 ?_
            | refine Look.at7 ?_
            | refine Look.at8 ?_
            | with_reducible refine Val.i64 (by omega) (by omega) ?_
            | with_reducible refine Val.u8 (by omega) (by omega) ?_
            | with_reducible refine Val.u32 (by omega) (by omega) ?_
            | with_reducible refine Val.u64 (by omega) (by omega) ?_
            | with_reducible refine Val.u8m ?_
            | with_reducible refine Val.u32m ?_
            | with_reducible refine Val.u64m ?_
            | with_reducible refine Val.shr8 ?_
            | with_reducible refine Val.shr16 (by decide) ?_
            | with_reducible refine Val.shr24 (by decide) ?_
            | with_reducible refine Val.raw ?_
            | refine Branch.not ?_
            | refine Branch.and ?_
            | refine Branch.or ?_
            | refine Branch.dt (by assumption) ?_
            | refine Branch.df (by assumption) ?_
            | refine Branch.dt rfl ?_
            | refine Branch.dt (by omega) ?_
            | refine Branch.df (by omega) ?_
            | refine Branch.t rfl ?_
            | refine Branch.f rfl ?_
            | refine Branch.t (by assumption) ?_
            | refine Branch.f (by assumption) ?_
            | refine Branch.d (fun _ => ?_) (fun _ => ?_)
            | refine Branch.mk (fun _ => ?_) (fun _ => ?_)
            | refine Need.mk (by first | omega | decide | rfl) ?_
            | refine Idx.nat (by omega) ?_
            | refine Idx.auto (by first | omega | decide) (by first | omega | decide) ?_
            | refine Cell.ro rfl ?_
            | refine SDraw.all (by kernel_rfl) ?_
            | refine Kept.k0 ?_
            | refine Kept.k1 ?_
            | refine Kept.k2 ?_
            | refine Kept.k3 ?_
            | refine Kept.k4 ?_))
        all_goals (conv => whnf)
        exact Keep.d1 h
end
end Go.Proofs.Ytjnlpaojaikjaaa

/- Layer 26: as many as there are nodes: by walks. -/
set_option linter.unusedVariables false
set_option linter.unusedSimpArgs false
set_option maxRecDepth 100000
set_option maxHeartbeats 4000000
namespace Go.Proofs.Ytjnlpaojaikjaaa
open Sx
theorem mask_small : ∀ m : Nat, m < 128 → bitAnd .u64 (m : Int) 4294967295 = (m : Int) := by decide
section
variable {K : Value → Heap → Prop} {H : Heap}
theorem c44 (n : Int) (hn : 1 ≤ n ∧ n ≤ 127) (h : K (.tuple ⟨[.int .u64 0, .int .u64 n]⟩) H) : SCalls Try.prog 44 [.int .u64 1, .int .u64 n] H K := by
  refine SCalls.any (K := fun v N => v = .tuple ⟨[.int .u64 0, .int .u64 n]⟩ ∧ N = []) (enter44 ?_) (by rintro v N ⟨rfl, rfl⟩; exact h)
  have e1 : bitAnd .u64 1 4294967295 = 1 := mask_small 1 (by decide)
  have e0 : bitAnd .u64 0 4294967295 = 0 := mask_small 0 (by decide)
  have en : bitAnd .u64 n 4294967295 = n := by have := mask_small n.toNat (by omega); rwa [Int.toNat_of_nonneg (by omega)] at this
  have s1 : shrI .u64 1 32 = 0 := by decide
  have s0 : shrI .u64 0 32 = 0 := by decide
  have sn : shrI .u64 n 32 = 0 := by
    show n.fdiv (2 ^ (min (32 : Int).toNat 64)) = 0
    rw [show (2 : Int) ^ (min (32 : Int).toNat 64) = 4294967296 by decide, Int.fdiv_eq_ediv_of_nonneg _ (by decide)]; omega
  have m1 : IntKind.u64.wrap (1 * n) = n := by rw [Int.one_mul, wrap_u64]; omega
  have m2 : IntKind.u64.wrap (0 * n) = 0 := by rw [Int.zero_mul, wrap_u64]; rfl
  have a0 : IntKind.u64.wrap (0 + 0) = 0 := by decide
  have p0 : IntKind.u64.wrap (1 * 0) = 0 := by decide
  have q0 : IntKind.u64.wrap (0 * 0) = 0 := by decide
  repeat' ((conv => whnf); (first
      | with_reducible refine ⟨_, e1, ?_⟩
      | with_reducible refine ⟨_, e0, ?_⟩
      | with_reducible refine ⟨_, en, ?_⟩
      | with_reducible refine ⟨_, s1, ?_⟩
      | with_reducible refine ⟨_, s0, ?_⟩
      | with_reducible refine ⟨_, sn, ?_⟩
      | with_reducible refine ⟨_, m1, ?_⟩
      | with_reducible refine ⟨_, m2, ?_⟩
      | with_reducible refine ⟨_, a0, ?_⟩
      | with_reducible refine ⟨_, p0, ?_⟩
      | with_reducible refine ⟨_, q0, ?_⟩
      | refine New.mk (fun _ => ?_)
      | refine Look.at0 ?_
      | refine Cell.row ?_
      | refine Cell.buf ?_
      | refine Cells.row rfl ?_
      | refine Put.row rfl ?_
      | refine Put.buf rfl ?_
      | refine Look.at1 ?_
      | refine Look.at2 ?_
      | refine Look.at3 ?_
      | refine Look.at4 ?_
      | refine Look.at5 ?_
      | refine Look.at6 ?_
      | refine Look.at7 ?_
      | refine Look.at8 ?_
      | with_reducible refine Val.i64 (by omega) (by omega) ?_
      | with_reducible refine Val.u8 (by omega) (by omega) ?_
      | with_reducible refine Val.u32 (by omega) (by omega) ?_
      | with_reducible refine Val.u64 (by omega) (by omega) ?_
      | with_reducible refine Val.u8m ?_
      | with_reducible refine Val.u32m ?_
      | with_reducible refine Val.u64m ?_
      | with_reducible refine Val.shr8 ?_
      | with_reducible refine Val.shr16 (by decide) ?_
      | with_reducible refine Val.shr24 (by decide) ?_
      | with_reducible refine Val.raw ?_
      | refine Branch.not ?_
      | refine Branch.and ?_
      | refine Branch.or ?_
      | refine Branch.dt (by assumption) ?_
      | refine Branch.df (by assumption) ?_
      | refine Branch.dt rfl ?_
      | refine Branch.dt (by omega) ?_
      | refine Branch.df (by omega) ?_
      | refine Branch.t rfl ?_
      | refine Branch.f rfl ?_
      | refine Branch.t (by assumption) ?_
      | refine Branch.f (by assumption) ?_
      | refine Branch.d (fun _ => ?_) (fun _ => ?_)
      | refine Branch.mk (fun _ => ?_) (fun _ => ?_)
      | refine Need.mk (by first | omega | decide | rfl) ?_
      | refine Idx.nat (by omega) ?_
      | refine Idx.auto (by first | omega | decide) (by first | omega | decide) ?_
      | refine Cell.ro rfl ?_
      | refine SDraw.all (by kernel_rfl) ?_
      | refine Kept.k0 ?_
      | refine Kept.k1 ?_
      | refine Kept.k2 ?_
      | refine Kept.k3 ?_
      | refine Kept.k4 ?_))
  all_goals (conv => whnf)
  exact Keep.all ⟨rfl, rfl⟩
theorem c38 (n : Int) (hn : 1 ≤ n ∧ n ≤ 127) (h : K (.tuple ⟨[.int .u64 0, .int .u64 n]⟩) H) : SCalls Try.prog 38 [.int .u64 1, .int .u64 n] H K := by
  refine enter38 ?_
  repeat' ((conv => whnf); (first
      | refine c44 n hn ?_
      | refine New.mk (fun _ => ?_)
      | refine Look.at0 ?_
      | refine Cell.row ?_
      | refine Cell.buf ?_
      | refine Cells.row rfl ?_
      | refine Put.row rfl ?_
      | refine Put.buf rfl ?_
      | refine Look.at1 ?_
      | refine Look.at2 ?_
      | refine Look.at3 ?_
      | refine Look.at4 ?_
      | refine Look.at5 ?_
      | refine Look.at6 ?_
      | refine Look.at7 ?_
      | refine Look.at8 ?_
      | with_reducible refine Val.i64 (by omega) (by omega) ?_
      | with_reducible refine Val.u8 (by omega) (by omega) ?_
      | with_reducible refine Val.u32 (by omega) (by omega) ?_
      | with_reducible refine Val.u64 (by omega) (by omega) ?_
      | with_reducible refine Val.u8m ?_
      | with_reducible refine Val.u32m ?_
      | with_reducible refine Val.u64m ?_
      | with_reducible refine Val.shr8 ?_
      | with_reducible refine Val.shr16 (by decide) ?_
      | with_reducible refine Val.shr24 (by decide) ?_
      | with_reducible refine Val.raw ?_
      | refine Branch.not ?_
      | refine Branch.and ?_
      | refine Branch.or ?_
      | refine Branch.dt (by assumption) ?_
      | refine Branch.df (by assumption) ?_
      | refine Branch.dt rfl ?_
      | refine Branch.dt (by omega) ?_
      | refine Branch.df (by omega) ?_
      | refine Branch.t rfl ?_
      | refine Branch.f rfl ?_
      | refine Branch.t (by assumption) ?_
      | refine Branch.f (by assumption) ?_
      | refine Branch.d (fun _ => ?_) (fun _ => ?_)
      | refine Branch.mk (fun _ => ?_) (fun _ => ?_)
      | refine Need.mk (by first | omega | decide | rfl) ?_
      | refine Idx.nat (by omega) ?_
      | refine Idx.auto (by first | omega | decide) (by first | omega | decide) ?_
      | refine Cell.ro rfl ?_
      | refine SDraw.all (by kernel_rfl) ?_
      | refine Kept.k0 ?_
      | refine Kept.k1 ?_
      | refine Kept.k2 ?_
      | refine Kept.k3 ?_
      | refine Kept.k4 ?_))
  all_goals (conv => whnf)
  exact Keep.all h
inductive S24 (A7 A8 : Value) : List Value → Prop
  | mk {r0 r1 r2 r3 r4 r5 r6 r9 r10 r11 r12 r13 r14 r15 r16 r17 r18 r19 r20 r21 r22 r23 r24 r25 r26 r27 r28 r29 r30 r31 r32 r33 r34 r35 r36 r37 r38 r39 r40 r41 r42 r43 r44 r45 r46 r47 : Value} : S24 A7 A8 [r0, r1, r2, r3, r4, r5, r6, A7, A8, r9, r10, r11, r12, r13, r14, r15, r16, r17, r18, r19, r20, r21, r22, r23, r24, r25, r26, r27, r28, r29, r30, r31, r32, r33, r34, r35, r36, r37, r38, r39, r40, r41, r42, r43, r44, r45, r46, r47]
abbrev tf (m n : Nat) : List Value := List.replicate m (.bool true) ++ List.replicate (n - m) (.bool false)
def I24 (r n : Nat) (H : Heap) (m : Nat) (S : List Value) (H' : Heap) : Prop := 1 ≤ m ∧ m ≤ n ∧ S24 (.slice (some ⟨r, 0, none⟩) n n) (.int .i64 (m : Int)) S ∧ H' = (r, .buf 4 (tf m n) n) :: H
theorem c24 {p : Nat} (hp : (p, Blk.row 4 [.bool true] (0, 0)) ∈ H) (n : Nat) (hn : 1 ≤ n ∧ n ≤ 127) (h : ∀ q, K (.slice (some ⟨q, 0, none⟩) n n) ((q, .buf 4 (List.replicate n (.bool true)) n) :: H)) :
    SCalls Try.prog 24 [.slice (some ⟨p, 0, none⟩) 1 1, .int .i64 (n : Int)] H K := by
  refine enter24 ?_
  repeat' ((conv => whnf); (first
      | refine c38 (n : Int) (by omega) ?_
      | refine RawV.make1 (e := 4) (bytes := 1) (zv := .bool false) (n := n) rfl (by kernel_rfl) (by kernel_rfl) rfl (by omega) (by unfold maxLen; omega) (fun r => ?_)
      | refine RawV.copyP (A := []) (e := 4) (bytes := 1) (news := [.bool true]) rfl (by kernel_rfl) (.tail _ hp) (by show 1 = min 1 n; omega) (fun j v hj => by rw [Nat.zero_add]; exact hj) (by simp; omega) (by intro u hu; obtain rfl := List.mem_singleton.1 hu; rfl) ?_
      | refine New.mk (fun _ => ?_)
      | refine Look.at0 ?_
      | refine Cell.row ?_
      | refine Cell.buf ?_
      | refine Cells.row rfl ?_
      | refine Put.row rfl ?_
      | refine Put.buf rfl ?_
      | refine Look.at1 ?_
      | refine Look.at2 ?_
      | refine Look.at3 ?_
      | refine Look.at4 ?_
      | refine Look.at5 ?_
      | refine Look.at6 ?_
      | refine Look.at7 ?_
      | refine Look.at8 ?_
      | with_reducible refine Val.i64 (by omega) (by omega) ?_
      | with_reducible refine Val.u8 (by omega) (by omega) ?_
      | with_reducible refine Val.u32 (by omega) (by omega) ?_
      | with_reducible refine Val.u64 (by omega) (by omega) ?_
      | with_reducible refine Val.u8m ?_
      | with_reducible refine Val.u32m ?_
      | with_reducible refine Val.u64m ?_
      | with_reducible refine Val.shr8 ?_
      | with_reducible refine Val.shr16 (by decide) ?_
      | with_reducible refine Val.shr24 (by decide) ?_
      | with_reducible refine Val.raw ?_
      | refine Branch.not ?_
      | refine Branch.and ?_
      | refine Branch.or ?_
      | refine Branch.dt (by assumption) ?_
      | refine Branch.df (by assumption) ?_
      | refine Branch.dt rfl ?_
      | refine Branch.dt (by omega) ?_
      | refine Branch.df (by omega) ?_
      | refine Branch.t rfl ?_
      | refine Branch.f rfl ?_
      | refine Branch.t (by assumption) ?_
      | refine Branch.f (by assumption) ?_
      | refine Branch.d (fun _ => ?_) (fun _ => ?_)
      | refine Branch.mk (fun _ => ?_) (fun _ => ?_)
      | refine Need.mk (by first | omega | decide | rfl) ?_
      | refine Idx.nat (by omega) ?_
      | refine Idx.auto (by first | omega | decide) (by first | omega | decide) ?_
      | refine Cell.ro rfl ?_
      | refine SDraw.all (by kernel_rfl) ?_
      | refine Kept.k0 ?_
      | refine Kept.k1 ?_
      | refine Kept.k2 ?_
      | refine Kept.k3 ?_
      | refine Kept.k4 ?_))
  have e0 : ∀ r, ([] : Heap) ++ (r, Blk.buf 4 ((List.replicate n (.bool false)).take 0 ++ [.bool true] ++ (List.replicate n (.bool false)).drop (0 + [Value.bool true].length)) n) :: H = (r, .buf 4 (tf 1 n) n) :: H := fun r => by
    rw [List.nil_append]
    congr 3
    simp [tf]
  rw [e0]
  refine SLoop.invA (I24 _ n H) (fun m => n - m) 1 (Keep.all ⟨by omega, by omega, .mk, rfl⟩) ?_
  rintro m S H' ⟨hm1, hmn, hS, rfl⟩ R hR
  cases hS
  by_cases hlt : m < n
  · obtain ⟨c, hc⟩ : ∃ c, c = min m (n - m) := ⟨_, rfl⟩
    have e2 : ∀ (X : Heap), ([] : Heap) ++ (r, Blk.buf 4 ((tf m n).take (0 + m * 1) ++ List.replicate c (.bool true) ++ (tf m n).drop (0 + m * 1 + (List.replicate c (Value.bool true)).length)) n) :: X = (r, .buf 4 (tf (m + c) n) n) :: X := fun X => by
      rw [List.nil_append]
      congr 3
      have h1 : (tf m n).take (0 + m * 1) = List.replicate m (.bool true) := by
        rw [Nat.zero_add, Nat.mul_one, List.take_left' (by simp)]
      have h2 : (tf m n).drop (0 + m * 1 + (List.replicate c (Value.bool true)).length) = List.replicate (n - (m + c)) (.bool false) := by
        rw [Nat.zero_add, Nat.mul_one, List.length_replicate, ← List.drop_drop, List.drop_left' (by simp), List.drop_replicate]
        congr 1; omega
      rw [h1, h2, List.replicate_append_replicate]
    have hadd : IntKind.i64.wrap ((m : Int) + ((List.replicate c (Value.bool true)).length : Int)) = ((m + c : Nat) : Int) := by
      rw [List.length_replicate, wrap_i64 (by omega) (by omega)]; omega
    have hcell : ∀ j v, (List.replicate c (Value.bool true))[j]? = some v → (Blk.buf 4 (tf m n) n).cell (0 + j) = some v := by
      intro j v hj
      obtain ⟨hj1, hj2⟩ := List.getElem?_eq_some_iff.1 hj
      rw [List.length_replicate] at hj1
      rw [List.getElem_replicate] at hj2
      subst hj2
      show (tf m n)[0 + j]? = _
      rw [Nat.zero_add, List.getElem?_append_left (by rw [List.length_replicate]; omega)]
      simp only [List.getElem?_replicate]; rw [if_pos (by omega)]
    repeat' ((conv => whnf); (first
        | refine Branch.df (b := _) (p := n = m) (by omega) ?_
        | refine Idx.nat (by omega) ?_
        | refine SDraw.held (by kernel_rfl) [] .nil ?_
        | refine Kept.mk .nil ?_
        | refine RawV.copyP (A := []) (e := 4) (bytes := 1) (news := List.replicate c (.bool true)) rfl (by kernel_rfl) (.head _) (by rw [List.length_replicate, hc]) hcell (by simp [tf]; omega) (by intro u hu; rw [List.eq_of_mem_replicate hu]; rfl) ?_
        | with_reducible refine ⟨_, hadd, ?_⟩
        | refine New.mk (fun _ => ?_)
        | refine Look.at0 ?_
        | refine Cell.row ?_
        | refine Cell.buf ?_
        | refine Cells.row rfl ?_
        | refine Put.row rfl ?_
        | refine Put.buf rfl ?_
        | refine Look.at1 ?_
        | refine Look.at2 ?_
        | refine Look.at3 ?_
        | refine Look.at4 ?_
        | refine Look.at5 ?_
        | refine Look.at6 ?_
        | refine Look.at7 ?_
        | refine Look.at8 ?_
        | with_reducible refine Val.i64 (by omega) (by omega) ?_
        | with_reducible refine Val.u8 (by omega) (by omega) ?_
        | with_reducible refine Val.u32 (by omega) (by omega) ?_
        | with_reducible refine Val.u64 (by omega) (by omega) ?_
        | with_reducible refine Val.u8m ?_
        | with_reducible refine Val.u32m ?_
        | with_reducible refine Val.u64m ?_
        | with_reducible refine Val.shr8 ?_
        | with_reducible refine Val.shr16 (by decide) ?_
        | with_reducible refine Val.shr24 (by decide) ?_
        | with_reducible refine Val.raw ?_
        | refine Branch.not ?_
        | refine Branch.and ?_
        | refine Branch.or ?_
        | refine Branch.dt (by assumption) ?_
        | refine Branch.df (by assumption) ?_
        | refine Branch.dt rfl ?_
        | refine Branch.dt (by omega) ?_
        | refine Branch.df (by omega) ?_
        | refine Branch.t rfl ?_
        | refine Branch.f rfl ?_
        | refine Branch.t (by assumption) ?_
        | refine Branch.f (by assumption) ?_
        | refine Branch.d (fun _ => ?_) (fun _ => ?_)
        | refine Branch.mk (fun _ => ?_) (fun _ => ?_)
        | refine Need.mk (by first | omega | decide | rfl) ?_
        | refine Idx.nat (by omega) ?_
        | refine Idx.auto (by first | omega | decide) (by first | omega | decide) ?_
        | refine Cell.ro rfl ?_
        | refine SDraw.all (by kernel_rfl) ?_
        | refine Kept.k0 ?_
        | refine Kept.k1 ?_
        | refine Kept.k2 ?_
        | refine Kept.k3 ?_
        | refine Kept.k4 ?_))
    all_goals (conv => whnf)
    rw [e2]
    exact hR (m + c) _ _ (by omega) (Keep.all ⟨by omega, by omega, .mk, rfl⟩)
  · have e : m = n := by omega
    subst e
    have e3 : tf m m = List.replicate m (.bool true) := by simp [tf]
    rw [e3]
    repeat' ((conv => whnf); (first
        | refine New.mk (fun _ => ?_)
        | refine Look.at0 ?_
        | refine Cell.row ?_
        | refine Cell.buf ?_
        | refine Cells.row rfl ?_
        | refine Put.row rfl ?_
        | refine Put.buf rfl ?_
        | refine Look.at1 ?_
        | refine Look.at2 ?_
        | refine Look.at3 ?_
        | refine Look.at4 ?_
        | refine Look.at5 ?_
        | refine Look.at6 ?_
        | refine Look.at7 ?_
        | refine Look.at8 ?_
        | with_reducible refine Val.i64 (by omega) (by omega) ?_
        | with_reducible refine Val.u8 (by omega) (by omega) ?_
        | with_reducible refine Val.u32 (by omega) (by omega) ?_
        | with_reducible refine Val.u64 (by omega) (by omega) ?_
        | with_reducible refine Val.u8m ?_
        | with_reducible refine Val.u32m ?_
        | with_reducible refine Val.u64m ?_
        | with_reducible refine Val.shr8 ?_
        | with_reducible refine Val.shr16 (by decide) ?_
        | with_reducible refine Val.shr24 (by decide) ?_
        | with_reducible refine Val.raw ?_
        | refine Branch.not ?_
        | refine Branch.and ?_
        | refine Branch.or ?_
        | refine Branch.dt (by assumption) ?_
        | refine Branch.df (by assumption) ?_
        | refine Branch.dt rfl ?_
        | refine Branch.dt (by omega) ?_
        | refine Branch.df (by omega) ?_
        | refine Branch.t rfl ?_
        | refine Branch.f rfl ?_
        | refine Branch.t (by assumption) ?_
        | refine Branch.f (by assumption) ?_
        | refine Branch.d (fun _ => ?_) (fun _ => ?_)
        | refine Branch.mk (fun _ => ?_) (fun _ => ?_)
        | refine Need.mk (by first | omega | decide | rfl) ?_
        | refine Idx.nat (by omega) ?_
        | refine Idx.auto (by first | omega | decide) (by first | omega | decide) ?_
        | refine Cell.ro rfl ?_
        | refine SDraw.all (by kernel_rfl) ?_
        | refine Kept.k0 ?_
        | refine Kept.k1 ?_
        | refine Kept.k2 ?_
        | refine Kept.k3 ?_
        | refine Kept.k4 ?_))
    all_goals (conv => whnf)
    exact Keep.all (h _)
end
end Go.Proofs.Ytjnlpaojaikjaaa

/- Layer 26: variables in memory of their own: by walks. -/
set_option linter.unusedVariables false
set_option linter.unusedSimpArgs false
set_option maxRecDepth 100000
set_option maxHeartbeats 4000000
namespace Go.Proofs.Ytjnlpaojaikjaaa
open Sx
inductive S8 (A0 A3 A4 : Value) : List Value → Prop
  | mk {r1 r2 r5 r6 r7 r8 r9 r10 r11 r12 r13 r14 r15 r16 r17 r18 r19 r20 r21 r22 r23 r24 r25 r26 r27 r28 : Value} : S8 A0 A3 A4 [A0, r1, r2, A3, A4, r5, r6, r7, r8, r9, r10, r11, r12, r13, r14, r15, r16, r17, r18, r19, r20, r21, r22, r23, r24, r25, r26, r27, r28]
structure T8 where
  (j q c : Nat) (Lo : List VarI) (Bs : Heap)
def I8 (sv : Value) (L : List VarI) (H : Heap) (x : T8) (S : List Value) (H' : Heap) : Prop :=
  x.j ≤ L.length ∧ x.Lo.map VarI.lg = (L.take x.j).map VarI.lg ∧ x.Lo.length = x.j ∧ x.j ≤ x.c ∧ x.c ≤ maxLen ∧ (∀ y ∈ x.Lo, InS cI 1 (.slice y.a y.cons.length y.c) x.Bs y.cons) ∧ (∀ p ∈ x.Bs, kd p.2 = 1003) ∧
    S8 sv (.slice (some ⟨x.q, 0, none⟩) x.j x.c) (.int .i64 (x.j : Int)) S ∧ H' = (x.q, .buf 42 (x.Lo.flatMap VarI.cells) (x.c * 2)) :: (x.Bs ++ H)
section
variable {K : Value → Heap → Prop} {H : Heap}
theorem c8 {sv : Value} {L : List VarI} (hin : InV sv H L) (hbig : ∀ x ∈ L, x.cons.length * 8 ≤ 140737488355000) (hL : L.length * 32 ≤ 140737488355000)
    (h : ∀ q c Lo N, Lo.map VarI.lg = L.map VarI.lg → InV (.slice (some ⟨q, 0, none⟩) L.length c) N Lo → (∀ p ∈ N, kd p.2 = 1042 ∨ kd p.2 = 1003) → K (.slice (some ⟨q, 0, none⟩) L.length c) (N ++ H)) : SCalls Try.prog 8 [sv] H K := by
  obtain ⟨sa, sc, rfl, hml⟩ := hin.sl.sv
  refine enter8 ?_
  repeat' ((conv => whnf); (first
      | refine New.mk (fun _ => ?_)
      | refine Look.at0 ?_
      | refine Cell.row ?_
      | refine Cell.buf ?_
      | refine Cells.row rfl ?_
      | refine Put.row rfl ?_
      | refine Put.buf rfl ?_
      | refine Look.at1 ?_
      | refine Look.at2 ?_
      | refine Look.at3 ?_
      | refine Look.at4 ?_
      | refine Look.at5 ?_
      | refine Look.at6 ?_
      | refine Look.at7 ?_
      | refine Look.at8 ?_
      | with_reducible refine Val.i64 (by omega) (by omega) ?_
      | with_reducible refine Val.u8 (by omega) (by omega) ?_
      | with_reducible refine Val.u32 (by omega) (by omega) ?_
      | with_reducible refine Val.u64 (by omega) (by omega) ?_
      | with_reducible refine Val.u8m ?_
      | with_reducible refine Val.u32m ?_
      | with_reducible refine Val.u64m ?_
      | with_reducible refine Val.shr8 ?_
      | with_reducible refine Val.shr16 (by decide) ?_
      | with_reducible refine Val.shr24 (by decide) ?_
      | with_reducible refine Val.raw ?_
      | refine Branch.not ?_
      | refine Branch.and ?_
      | refine Branch.or ?_
      | refine Branch.dt (by assumption) ?_
      | refine Branch.df (by assumption) ?_
      | refine Branch.dt rfl ?_
      | refine Branch.dt (by omega) ?_
      | refine Branch.df (by omega) ?_
      | refine Branch.t rfl ?_
      | refine Branch.f rfl ?_
      | refine Branch.t (by assumption) ?_
      | refine Branch.f (by assumption) ?_
      | refine Branch.d (fun _ => ?_) (fun _ => ?_)
      | refine Branch.mk (fun _ => ?_) (fun _ => ?_)
      | refine Need.mk (by first | omega | decide | rfl) ?_
      | refine Idx.nat (by omega) ?_
      | refine Idx.auto (by first | omega | decide) (by first | omega | decide) ?_
      | refine Cell.ro rfl ?_
      | refine SDraw.all (by kernel_rfl) ?_
      | refine Kept.k0 ?_
      | refine Kept.k1 ?_
      | refine Kept.k2 ?_
      | refine Kept.k3 ?_
      | refine Kept.k4 ?_))
  rename_i q0
  refine SLoop.toBuf (A := []) ?_
  refine SLoop.invA (I8 (.slice sa L.length sc) L H) (fun x => L.length - x.j) ⟨0, q0, 0, [], []⟩ (Keep.all ⟨by simp, rfl, rfl, Nat.le_refl 0, Nat.zero_le _, fun y hy => (by cases hy), fun p hp => (by cases hp), .mk, rfl⟩) ?_
  rintro ⟨j, q, c, Lo, Bs⟩ S H' ⟨hj, hlg, hlo, hc1, hc2, hel, hkB, hS, rfl⟩ R hR
  dsimp only at hj hlg hlo hc1 hc2 hel hS hR ⊢
  cases hS
  by_cases hlt : j < L.length
  · obtain ⟨x, hx, _, htake⟩ := list_at hlt
    obtain ⟨r, o, c', b, e1, hm, hc⟩ := inS_at hin.sl (fun _ => rfl) hx
    injection e1 with e1 _ e3
    subst e1
    have hxm := List.mem_of_getElem? hx
    have hex := hin.el x hxm
    have hbx := hbig x hxm
    obtain ⟨xpr, xco, xad, xcp⟩ := x
    dsimp only at hbx hex
    have hc0 : b.cell (o + j * 2 + 0) = some (.int .i64 xpr) := hc 0 _ rfl
    have hc1' : b.cell (o + j * 2 + 1) = some (.slice xad xco.length xcp) := hc 1 _ rfl
    have next : ∀ (S : List Value) (r3 c3 q' cq : Nat) (z : Nat × Blk), xco.length ≤ c3 → c3 ≤ maxLen → j + 1 ≤ cq → cq ≤ maxLen → S8 (.slice (some ⟨r, o, none⟩) L.length sc) (.slice (some ⟨q', 0, none⟩) (j + 1) cq) (.int .i64 ((j + 1 : Nat) : Int)) S →
        R S ((q', .buf 42 (Lo.flatMap VarI.cells ++ [.int .i64 xpr, .slice (some ⟨r3, 0, none⟩) xco.length c3]) (cq * 2)) :: z :: (r3, .buf 3 (xco.flatMap cI) (c3 * 1)) :: (Bs ++ H)) := by
      intro S r3 c3 q' cq z h1 h2 h3 h4 h5
      refine hR ⟨j + 1, q', cq, Lo ++ [(⟨xpr, xco, some ⟨r3, 0, none⟩, c3⟩ : VarI)], (r3, .buf 3 (xco.flatMap cI) (c3 * 1)) :: Bs⟩ _ _ (by show L.length - (j + 1) < L.length - j; omega) (Keep.sub _ (List.Sublist.cons_cons _ (List.Sublist.cons _ (List.Sublist.refl _))) ⟨by show j + 1 ≤ L.length; omega, ?_, by show (Lo ++ [_]).length = j + 1; rw [List.length_append, hlo]; rfl, h3, h4, fun y hy => ?_, fun p hp => ?_, h5, ?_⟩)
      · show (Lo ++ [_]).map VarI.lg = (L.take (j + 1)).map VarI.lg
        rw [htake, List.map_append, List.map_append, hlg]; rfl
      · rcases List.mem_append.1 hy with hy | hy
        · exact (hel y hy).mono fun z hz => .tail _ hz
        · obtain rfl := List.mem_singleton.1 hy
          exact InS.buf (.head _) rfl (fun _ => rfl) (by show xco.length ≤ maxLen; omega)
      · rcases List.mem_cons.1 hp with rfl | hp
        · rfl
        · exact hkB p hp
      · show _ = (q', Blk.buf 42 ((Lo ++ [(⟨xpr, xco, some ⟨r3, 0, none⟩, c3⟩ : VarI)]).flatMap VarI.cells) (cq * 2)) :: _
        rw [List.flatMap_append]; rfl
    have hm2 : (r, b) ∈ (q, Blk.buf 42 (Lo.flatMap VarI.cells) (c * 2)) :: (Bs ++ H) := .tail _ (List.mem_append_right _ hm)
    clear hR
    repeat' ((conv => whnf); (first
        | refine SDraw.held (by kernel_rfl) [(r, b)] (.same hm2 .nil) ?_
        | refine Look.cell (.head _) hc0 ?_
        | refine Look.cell (.head _) hc1' ?_
        | refine Kept.mk (.same (.tail _ hm2) .nil) ?_
        | refine Kept.mk (.same (.tail _ (.tail _ hm2)) .nil) ?_
        | refine RawV.copyS (L := xco) (f := cI) (k := 1) (bytes := 8) (hex.mono fun z hz => .tail _ (List.mem_append_right _ hz)) rfl (by kernel_rfl) (by decide) (fun _ => rfl) (fun y u hu => by obtain rfl := List.mem_singleton.1 hu; rfl) (by omega) (fun r3 c3 g1 g2 => ?_)
        | refine RawV.appT (A := [_, _]) (e := 42) (size := 2) (bytes := 32) (m := 1) (news := [.int .i64 xpr, .slice (some ⟨r3, 0, none⟩) xco.length c3]) rfl (by kernel_rfl) (by decide) (by rw [flat_len (f := VarI.cells) (k := 2) (fun _ => rfl), hlo]) rfl hc1 hc2 (.head _) rfl (fun j v hj => by rw [Nat.zero_add]; exact hj) (by intro u hu; simp only [List.mem_cons, List.not_mem_nil, or_false] at hu; rcases hu with rfl | rfl <;> rfl) (by unfold maxLen; omega) (by omega) (fun q' cq h1 h2 => ?_)
        | refine New.mk (fun _ => ?_)
        | refine Look.at0 ?_
        | refine Cell.row ?_
        | refine Cell.buf ?_
        | refine Cells.row rfl ?_
        | refine Put.row rfl ?_
        | refine Put.buf rfl ?_
        | refine Look.at1 ?_
        | refine Look.at2 ?_
        | refine Look.at3 ?_
        | refine Look.at4 ?_
        | refine Look.at5 ?_
        | refine Look.at6 ?_
        | refine Look.at7 ?_
        | refine Look.at8 ?_
        | with_reducible refine Val.i64 (by omega) (by omega) ?_
        | with_reducible refine Val.u8 (by omega) (by omega) ?_
        | with_reducible refine Val.u32 (by omega) (by omega) ?_
        | with_reducible refine Val.u64 (by omega) (by omega) ?_
        | with_reducible refine Val.u8m ?_
        | with_reducible refine Val.u32m ?_
        | with_reducible refine Val.u64m ?_
        | with_reducible refine Val.shr8 ?_
        | with_reducible refine Val.shr16 (by decide) ?_
        | with_reducible refine Val.shr24 (by decide) ?_
        | with_reducible refine Val.raw ?_
        | refine Branch.not ?_
        | refine Branch.and ?_
        | refine Branch.or ?_
        | refine Branch.dt (by assumption) ?_
        | refine Branch.df (by assumption) ?_
        | refine Branch.dt rfl ?_
        | refine Branch.dt (by omega) ?_
        | refine Branch.df (by omega) ?_
        | refine Branch.t rfl ?_
        | refine Branch.f rfl ?_
        | refine Branch.t (by assumption) ?_
        | refine Branch.f (by assumption) ?_
        | refine Branch.d (fun _ => ?_) (fun _ => ?_)
        | refine Branch.mk (fun _ => ?_) (fun _ => ?_)
        | refine Need.mk (by first | omega | decide | rfl) ?_
        | refine Idx.nat (by omega) ?_
        | refine Idx.auto (by first | omega | decide) (by first | omega | decide) ?_
        | refine Cell.ro rfl ?_
        | refine SDraw.all (by kernel_rfl) ?_
        | refine Kept.k0 ?_
        | refine Kept.k1 ?_
        | refine Kept.k2 ?_
        | refine Kept.k3 ?_
        | refine Kept.k4 ?_))
    all_goals (conv => whnf)
    exact next _ _ _ _ _ _ g1 g2 h1 h2 .mk
  · have e : j = L.length := by omega
    subst e
    rw [List.take_length] at hlg
    have hin2 : InV (.slice (some ⟨q, 0, none⟩) L.length c) ((q, .buf 42 (Lo.flatMap VarI.cells) (c * 2)) :: Bs) Lo := by
      refine ⟨?_, fun y hy => (hel y hy).mono fun z hz => .tail _ hz⟩
      have := InS.buf (f := VarI.cells) (k := 2) (p := q) (c := c) (N := c * 2) (t := 42) (H := (q, .buf 42 (Lo.flatMap VarI.cells) (c * 2)) :: Bs) (L := Lo) (.head _) rfl (fun _ => rfl) (by rw [hlo]; exact hml)
      rwa [hlo] at this
    repeat' ((conv => whnf); (first
        | refine New.mk (fun _ => ?_)
        | refine Look.at0 ?_
        | refine Cell.row ?_
        | refine Cell.buf ?_
        | refine Cells.row rfl ?_
        | refine Put.row rfl ?_
        | refine Put.buf rfl ?_
        | refine Look.at1 ?_
        | refine Look.at2 ?_
        | refine Look.at3 ?_
        | refine Look.at4 ?_
        | refine Look.at5 ?_
        | refine Look.at6 ?_
        | refine Look.at7 ?_
        | refine Look.at8 ?_
        | with_reducible refine Val.i64 (by omega) (by omega) ?_
        | with_reducible refine Val.u8 (by omega) (by omega) ?_
        | with_reducible refine Val.u32 (by omega) (by omega) ?_
        | with_reducible refine Val.u64 (by omega) (by omega) ?_
        | with_reducible refine Val.u8m ?_
        | with_reducible refine Val.u32m ?_
        | with_reducible refine Val.u64m ?_
        | with_reducible refine Val.shr8 ?_
        | with_reducible refine Val.shr16 (by decide) ?_
        | with_reducible refine Val.shr24 (by decide) ?_
        | with_reducible refine Val.raw ?_
        | refine Branch.not ?_
        | refine Branch.and ?_
        | refine Branch.or ?_
        | refine Branch.dt (by assumption) ?_
        | refine Branch.df (by assumption) ?_
        | refine Branch.dt rfl ?_
        | refine Branch.dt (by omega) ?_
        | refine Branch.df (by omega) ?_
        | refine Branch.t rfl ?_
        | refine Branch.f rfl ?_
        | refine Branch.t (by assumption) ?_
        | refine Branch.f (by assumption) ?_
        | refine Branch.d (fun _ => ?_) (fun _ => ?_)
        | refine Branch.mk (fun _ => ?_) (fun _ => ?_)
        | refine Need.mk (by first | omega | decide | rfl) ?_
        | refine Idx.nat (by omega) ?_
        | refine Idx.auto (by first | omega | decide) (by first | omega | decide) ?_
        | refine Cell.ro rfl ?_
        | refine SDraw.all (by kernel_rfl) ?_
        | refine Kept.k0 ?_
        | refine Kept.k1 ?_
        | refine Kept.k2 ?_
        | refine Kept.k3 ?_
        | refine Kept.k4 ?_))
    all_goals (conv => whnf)
    exact Keep.all (h _ _ _ _ hlg hin2 fun p hp => by
      rcases List.mem_cons.1 hp with rfl | hp
      · exact .inl rfl
      · exact .inr (hkB p hp))
end
end Go.Proofs.Ytjnlpaojaikjaaa

/- Layer 26: a new image: by walks. -/
set_option linter.unusedVariables false
set_option linter.unusedSimpArgs false
set_option maxRecDepth 100000
set_option maxHeartbeats 4000000
namespace Go.Proofs.Ytjnlpaojaikjaaa
open Sx
def mkLv (x : Int × List Int) : Lv := ⟨x.1, 0, x.2.map fun n => (n, none)⟩
def newM (n : Nat) (l : List (Int × List Int)) : Mc := ⟨List.replicate n true, l.map mkLv, 0⟩
theorem dup_nodup : ∀ (l seen : List Int), dupI seen l = false → l.Nodup ∧ ∀ x ∈ l, x ∉ seen
  | [], _, _ => ⟨List.nodup_nil, fun x hx => by cases hx⟩
  | y :: r, seen, h => by
    unfold dupI at h
    split at h
    · cases h
    · rename_i h3
      obtain ⟨h4, h5⟩ := dup_nodup r _ h
      refine ⟨List.nodup_cons.2 ⟨fun hy => h5 y hy (by simp), h4⟩, fun x hx => ?_⟩
      rcases List.mem_cons.1 hx with rfl | hx
      · exact h3
      · exact fun hs => h5 x hx (List.mem_append_left _ hs)
theorem goV_zero {nodes : Int} : ∀ {l : List (Int × List Int)}, goV nodes l = 0 → ∀ x ∈ l, badV nodes x.1 x.2 = false ∧ dupI [] x.2 = false
  | [], _, x, hx => by cases hx
  | y :: r, h, x, hx => by
    unfold goV at h
    split at h
    · cases h
    · split at h
      · cases h
      · rename_i h1 h2
        rcases List.mem_cons.1 hx with rfl | hx
        · exact ⟨by simpa using h1, by simpa using h2⟩
        · exact goV_zero h x hx
theorem mk_ok {n : Nat} {x : Int × List Int} (h1 : badV (n : Int) x.1 x.2 = false) (h2 : dupI [] x.2 = false) : (mkLv x).Ok n := by
  have hr : ∀ y ∈ x.1 :: x.2, 0 ≤ y ∧ y < (n : Int) := by
    intro y hy
    unfold badV at h1
    rw [Bool.or_eq_false_iff, List.any_eq_false] at h1
    have := h1.1 y hy
    simp at this
    omega
  refine ⟨hr _ (.head _), fun s hs => ?_, ?_⟩
  · obtain ⟨y, hy, rfl⟩ := List.mem_map.1 hs
    exact hr y (.tail _ hy)
  · show ((x.2.map fun n => (n, none)).map Prod.fst).Nodup
    rw [List.map_map]
    have : (Prod.fst ∘ fun n : Int => (n, (none : Option (Int × Int)))) = id := by funext z; rfl
    rw [this, List.map_id]
    exact (dup_nodup _ _ h2).1
theorem chk_zero {nodes : Int} {l : List (Int × List Int)} (h : chkV nodes l = 0) : 1 ≤ nodes ∧ nodes ≤ 127 ∧ l.length ≤ 64 ∧ goV nodes l = 0 := by
  unfold chkV at h
  split at h
  · cases h
  · split at h
    · cases h
    · exact ⟨by omega, by omega, by omega, h⟩
theorem Mach.add {gm : Nat} {ids : List (Nat × Nat)} {M : Mc} {H H2 : Heap} (hM : Mach gm ids M H) {gt nt ct gv pm r' c' : Nat} {v : Lv} (g2 : (gt, Blk.buf 4 (M.there.map Value.bool) nt) ∈ H)
    (hnew : (gm, rowM gt M.there.length ct (some ⟨r', 0, none⟩) (ids.length + 1) c' M.cyc) ∈ H2) (hbuf : (r', Blk.buf 68 (ptrs (ids.map Prod.fst) ++ [ptr gv]) (c' * 1)) ∈ H2) (hl1 : ids.length + 1 ≤ c') (hl2 : c' ≤ maxLen)
    (hs : ∀ z ∈ H, kd z.2 ≠ 67 → kd z.2 ≠ 1068 → z ∈ H2) (hv : VarAt H2 (gv, pm) v) (hok : v.Ok M.there.length) (hfv : ∀ p ∈ H, p.1 ≠ gv) (hfm : ∀ p ∈ H, p.1 ≠ pm) (few : M.vs.length + 1 ≤ 64) :
    Mach gm (ids ++ [(gv, pm)]) { M with vs := M.vs ++ [v] } H2 := by
  refine ⟨⟨gt, nt, ct, _, c', ?_, hs _ g2 (by show 1004 ≠ 67; decide) (by show 1004 ≠ 1068; decide), .inr ⟨r', rfl, ?_, hl2, ?_⟩⟩, ?_, ?_, ?_, fun j p w hp hw => ?_, fun w hw => ?_, ?_⟩
  · show (gm, rowM gt M.there.length ct (some ⟨r', 0, none⟩) (ids ++ [(gv, pm)]).length c' M.cyc) ∈ H2
    rw [List.length_append]; exact hnew
  · simpa using hl1
  · rw [List.map_append]
    show (r', Blk.buf 68 (ptrs (ids.map Prod.fst ++ [gv])) (c' * 1)) ∈ H2
    unfold ptrs
    rw [List.map_append]; exact hbuf
  · rw [List.map_append, List.nodup_append]
    refine ⟨hM.gn, by simp, fun a ha b hb e => ?_⟩
    obtain rfl := List.mem_singleton.1 hb
    obtain ⟨p, hp, rfl⟩ := List.mem_map.1 ha
    obtain ⟨j, hj, rfl⟩ := List.getElem_of_mem hp
    obtain ⟨w, hw, _, _⟩ := list_at (L := M.vs) (j := j) (by rw [← hM.len]; exact hj)
    exact hfv _ (hM.var j _ w (List.getElem?_eq_getElem hj) hw).row e
  · rw [List.map_append, List.nodup_append]
    refine ⟨hM.mn, by simp, fun a ha b hb e => ?_⟩
    obtain rfl := List.mem_singleton.1 hb
    obtain ⟨p, hp, rfl⟩ := List.mem_map.1 ha
    obtain ⟨j, hj, rfl⟩ := List.getElem_of_mem hp
    obtain ⟨w, hw, _, _⟩ := list_at (L := M.vs) (j := j) (by rw [← hM.len]; exact hj)
    obtain ⟨es, clk, h1, _⟩ := (hM.var j _ w (List.getElem?_eq_getElem hj) hw).map
    exact hfm _ h1 e
  · show _ = (M.vs ++ [v]).length
    rw [List.length_append, List.length_append, hM.len]; rfl
  · have hw : (M.vs ++ [v])[j]? = some w := hw
    by_cases hj : j < ids.length
    · rw [List.getElem?_append_left hj] at hp
      rw [List.getElem?_append_left (by rw [← hM.len]; exact hj)] at hw
      exact (hM.var j p w hp hw).keep (fun z hz _ hk => hs z hz (by rw [hk]; decide) (by rw [hk]; decide)) (fun z hz _ hk => hs z hz (by rw [hk]; decide) (by rw [hk]; decide)) (fun z hz hk => hs z hz (by rw [hk]; decide) (by rw [hk]; decide))
    · have hjl := (List.getElem?_eq_some_iff.1 hp).1
      rw [List.length_append] at hjl
      have : j = ids.length := by simp only [List.length_cons, List.length_nil] at hjl; omega
      subst this
      rw [List.getElem?_append_right (Nat.le_refl _), Nat.sub_self] at hp
      rw [hM.len, List.getElem?_append_right (Nat.le_refl _), Nat.sub_self] at hw
      simp only [List.getElem?_cons_zero, Option.some.injEq] at hp hw
      subst hp; subst hw
      exact hv
  · have hw : w ∈ M.vs ++ [v] := hw
    rcases List.mem_append.1 hw with hw | hw
    · exact hM.ok w hw
    · obtain rfl := List.mem_singleton.1 hw; exact hok
  · show M.there.length ≤ 127 ∧ (M.vs ++ [v]).length ≤ 64
    rw [List.length_append]; exact ⟨hM.few.1, few⟩
/-- Entries, all of nothing. -/
def ent0 (l : List Int) : List (Ent Int) := l.mapIdx fun i n => ⟨n, .pointer none, i⟩
theorem ent0_app (l : List Int) (n : Int) : ent0 (l ++ [n]) = ent0 l ++ [⟨n, .pointer none, l.length⟩] := by unfold ent0; rw [List.mapIdx_concat]
theorem ent0_key {l : List Int} {j : Nat} {e : Ent Int} (h : (ent0 l)[j]? = some e) : l[j]? = some e.key ∧ e.val = .pointer none ∧ e.born = j := by
  unfold ent0 at h
  rw [List.getElem?_mapIdx] at h
  cases hq : l[j]? with
  | none => rw [hq] at h; cases h
  | some n => rw [hq] at h; injection h with h; subst h; exact ⟨rfl, rfl, rfl⟩
theorem ent0_ents (H : Heap) (l : List Int) : Ents H (ent0 l) l.length (l.map fun n => (n, none)) := by
  refine ⟨fun e he => ?_, ?_, by unfold ent0; simp, fun j e s he hs => ?_⟩
  · obtain ⟨j, hj, rfl⟩ := List.getElem_of_mem he
    obtain ⟨h1, _, h3⟩ := ent0_key (List.getElem?_eq_getElem hj)
    rw [h3]; exact (List.getElem?_eq_some_iff.1 h1).1
  · have : (ent0 l).map Ent.born = List.range l.length := by
      refine List.ext_getElem? fun j => ?_
      rw [List.getElem?_map]
      cases hq : (ent0 l)[j]? with
      | none =>
        rw [List.getElem?_eq_none_iff] at hq
        unfold ent0 at hq
        rw [List.length_mapIdx] at hq
        rw [List.getElem?_eq_none (by simpa using hq)]; rfl
      | some e =>
        obtain ⟨h1, _, h3⟩ := ent0_key hq
        rw [List.getElem?_range (List.getElem?_eq_some_iff.1 h1).1]
        simp [h3]
    rw [this]; exact List.nodup_range
  · obtain ⟨h1, h2, h3⟩ := ent0_key he
    rw [List.getElem?_map, h1] at hs
    injection hs with hs
    subst hs
    exact ⟨rfl, h2⟩
inductive S7 (A7 A24 A25 A26 : Value) : List Value → Prop
  | mk {r0 r1 r2 r3 r4 r5 r6 r8 r9 r10 r11 r12 r13 r14 r15 r16 r17 r18 r19 r20 r21 r22 r23 r27 r28 r29 r30 r31 r32 r33 r34 r35 r36 r37 r38 r39 r40 r41 r42 r43 r44 r45 r46 r47 r48 r49 r50 r51 r52 r53 r54 r55 r56 r57 r58 r59 : Value} : S7 A7 A24 A25 A26 [r0, r1, r2, r3, r4, r5, r6, A7, r8, r9, r10, r11, r12, r13, r14, r15, r16, r17, r18, r19, r20, r21, r22, r23, A24, A25, A26, r27, r28, r29, r30, r31, r32, r33, r34, r35, r36, r37, r38, r39, r40, r41, r42, r43, r44, r45, r46, r47, r48, r49, r50, r51, r52, r53, r54, r55, r56, r57, r58, r59]
inductive S7i (A7 A10 A24 A25 A26 A36 A37 A38 : Value) : List Value → Prop
  | mk {r0 r1 r2 r3 r4 r5 r6 r8 r9 r11 r12 r13 r14 r15 r16 r17 r18 r19 r20 r21 r22 r23 r27 r28 r29 r30 r31 r32 r33 r34 r35 r39 r40 r41 r42 r43 r44 r45 r46 r47 r48 r49 r50 r51 r52 r53 r54 r55 r56 r57 r58 r59 : Value} : S7i A7 A10 A24 A25 A26 A36 A37 A38 [r0, r1, r2, r3, r4, r5, r6, A7, r8, r9, A10, r11, r12, r13, r14, r15, r16, r17, r18, r19, r20, r21, r22, r23, A24, A25, A26, r27, r28, r29, r30, r31, r32, r33, r34, r35, A36, A37, A38, r39, r40, r41, r42, r43, r44, r45, r46, r47, r48, r49, r50, r51, r52, r53, r54, r55, r56, r57, r58, r59]
section
variable {K : Value → Heap → Prop} {H : Heap}
def I7i (gm gv pm : Nat) (sv n0 j0 sc : Value) (cons : List Int) (B : Heap) (A C : Nat × Blk) (k : Nat) (S : List Value) (H : Heap) : Prop :=
  k ≤ cons.length ∧ S7i (ptr gm) (ptr gv) sv n0 j0 sc (.int .i64 (cons.length : Int)) (.int .i64 (k : Int)) S ∧ H = A :: (pm, mapB kI (ent0 (cons.take k)) k) :: C :: B
theorem l7i {Qp : Post} {gm gv pm : Nat} {sv n0 j0 sc : Value} {cons : List Int} {B : Heap} {prod : Int} {C : Nat × Blk} (hcons : InS cI 1 sc B cons) (hnd : cons.Nodup) (S : List Value)
    (hS : S7i (ptr gm) (ptr gv) sv n0 j0 sc (.int .i64 (cons.length : Int)) (.int .i64 0) S)
    (hQ : ∀ S i, S7i (ptr gm) (ptr gv) sv n0 j0 sc (.int .i64 (cons.length : Int)) i S → Qp (.exit 2) S ((gv, rowV prod 0 pm) :: (pm, mapB kI (ent0 cons) cons.length) :: C :: B)) :
    SLoop Try.prog X7_l0 Qp S ((gv, rowV prod 0 pm) :: (pm, mapB kI [] 0) :: C :: B) := by
  obtain ⟨xa, xc, rfl, hml⟩ := hcons.sv
  have hml' : cons.length ≤ 9223372036854775807 := by simp only [maxLen] at hml; omega
  refine SLoop.invA (I7i gm gv pm sv n0 j0 (.slice xa cons.length xc) cons B (gv, rowV prod 0 pm) C) (fun k => cons.length - k) 0 (Keep.all ⟨by omega, hS, rfl⟩) ?_
  rintro k S H' ⟨hk, hS, rfl⟩ R hR
  cases hS
  by_cases hlt : k < cons.length
  · obtain ⟨n, hn, _, htake⟩ := list_at hlt
    obtain ⟨r, o, c, b, e1, hm, hc⟩ := hcons.at1 hn rfl
    injection e1 with e1 _ e3
    subst e1
    have hnin : ∀ x ∈ ent0 (cons.take k), x.key ≠ n := by
      intro x hx e
      obtain ⟨j, hj, rfl⟩ := List.getElem_of_mem hx
      obtain ⟨h1, _, _⟩ := ent0_key (List.getElem?_eq_getElem hj)
      rw [List.getElem?_take] at h1
      split at h1
      · rename_i hjk
        exact nodup_ne hnd h1 hn (by omega) e
      · cases h1
    have hlen : (cons.take k).length = k := by rw [List.length_take]; omega
    repeat' ((conv => whnf); (first
        | refine Look.cell (.tail _ (.tail _ (.tail _ hm))) hc ?_
        | refine RawV.upd (A := [_]) rfl hty69 (keysInt .i64) (fun _ => ?_) (fun i e hi he => absurd he (hnin e (List.mem_of_getElem? hi)))
        | refine New.mk (fun _ => ?_)
        | refine Look.at0 ?_
        | refine Cell.row ?_
        | refine Cell.buf ?_
        | refine Cells.row rfl ?_
        | refine Put.row rfl ?_
        | refine Put.buf rfl ?_
        | refine Look.at1 ?_
        | refine Look.at2 ?_
        | refine Look.at3 ?_
        | refine Look.at4 ?_
        | refine Look.at5 ?_
        | refine Look.at6 ?_
        | refine Look.at7 ?_
        | refine Look.at8 ?_
        | with_reducible refine Val.i64 (by omega) (by omega) ?_
        | with_reducible refine Val.u8 (by omega) (by omega) ?_
        | with_reducible refine Val.u32 (by omega) (by omega) ?_
        | with_reducible refine Val.u64 (by omega) (by omega) ?_
        | with_reducible refine Val.u8m ?_
        | with_reducible refine Val.u32m ?_
        | with_reducible refine Val.u64m ?_
        | with_reducible refine Val.shr8 ?_
        | with_reducible refine Val.shr16 (by decide) ?_
        | with_reducible refine Val.shr24 (by decide) ?_
        | with_reducible refine Val.raw ?_
        | refine Branch.not ?_
        | refine Branch.and ?_
        | refine Branch.or ?_
        | refine Branch.dt (by assumption) ?_
        | refine Branch.df (by assumption) ?_
        | refine Branch.dt rfl ?_
        | refine Branch.dt (by omega) ?_
        | refine Branch.df (by omega) ?_
        | refine Branch.t rfl ?_
        | refine Branch.f rfl ?_
        | refine Branch.t (by assumption) ?_
        | refine Branch.f (by assumption) ?_
        | refine Branch.d (fun _ => ?_) (fun _ => ?_)
        | refine Branch.mk (fun _ => ?_) (fun _ => ?_)
        | refine Need.mk (by first | omega | decide | rfl) ?_
        | refine Idx.nat (by omega) ?_
        | refine Idx.auto (by first | omega | decide) (by first | omega | decide) ?_
        | refine Cell.ro rfl ?_
        | refine SDraw.all (by kernel_rfl) ?_
        | refine Kept.k0 ?_
        | refine Kept.k1 ?_
        | refine Kept.k2 ?_
        | refine Kept.k3 ?_
        | refine Kept.k4 ?_))
    all_goals (conv => whnf)
    refine hR (k + 1) _ _ (by omega) (Keep.all ⟨by omega, .mk, ?_⟩)
    rw [htake, ent0_app, hlen]; rfl
  · have e : k = cons.length := by omega
    subst e
    rw [List.take_length]
    repeat' ((conv => whnf); (first
        | refine New.mk (fun _ => ?_)
        | refine Look.at0 ?_
        | refine Cell.row ?_
        | refine Cell.buf ?_
        | refine Cells.row rfl ?_
        | refine Put.row rfl ?_
        | refine Put.buf rfl ?_
        | refine Look.at1 ?_
        | refine Look.at2 ?_
        | refine Look.at3 ?_
        | refine Look.at4 ?_
        | refine Look.at5 ?_
        | refine Look.at6 ?_
        | refine Look.at7 ?_
        | refine Look.at8 ?_
        | with_reducible refine Val.i64 (by omega) (by omega) ?_
        | with_reducible refine Val.u8 (by omega) (by omega) ?_
        | with_reducible refine Val.u32 (by omega) (by omega) ?_
        | with_reducible refine Val.u64 (by omega) (by omega) ?_
        | with_reducible refine Val.u8m ?_
        | with_reducible refine Val.u32m ?_
        | with_reducible refine Val.u64m ?_
        | with_reducible refine Val.shr8 ?_
        | with_reducible refine Val.shr16 (by decide) ?_
        | with_reducible refine Val.shr24 (by decide) ?_
        | with_reducible refine Val.raw ?_
        | refine Branch.not ?_
        | refine Branch.and ?_
        | refine Branch.or ?_
        | refine Branch.dt (by assumption) ?_
        | refine Branch.df (by assumption) ?_
        | refine Branch.dt rfl ?_
        | refine Branch.dt (by omega) ?_
        | refine Branch.df (by omega) ?_
        | refine Branch.t rfl ?_
        | refine Branch.f rfl ?_
        | refine Branch.t (by assumption) ?_
        | refine Branch.f (by assumption) ?_
        | refine Branch.d (fun _ => ?_) (fun _ => ?_)
        | refine Branch.mk (fun _ => ?_) (fun _ => ?_)
        | refine Need.mk (by first | omega | decide | rfl) ?_
        | refine Idx.nat (by omega) ?_
        | refine Idx.auto (by first | omega | decide) (by first | omega | decide) ?_
        | refine Cell.ro rfl ?_
        | refine SDraw.all (by kernel_rfl) ?_
        | refine Kept.k0 ?_
        | refine Kept.k1 ?_
        | refine Kept.k2 ?_
        | refine Kept.k3 ?_
        | refine Kept.k4 ?_))
    all_goals (conv => whnf)
    exact hQ _ _ .mk
def I7 (gm : Nat) (sv : Value) (n : Nat) (L : List VarI) (H : Heap) (x : Nat × List (Nat × Nat)) (S : List Value) (H' : Heap) : Prop :=
  x.1 ≤ L.length ∧ S7 (ptr gm) sv (.int .i64 (L.length : Int)) (.int .i64 (x.1 : Int)) S ∧ Mach gm x.2 (newM n ((L.take x.1).map VarI.lg)) H' ∧ ∀ p ∈ H, p ∈ H'
theorem c7 {sv : Value} {L : List VarI} (hin : InV sv H L) (hbig : ∀ x ∈ L, x.cons.length * 8 ≤ 140737488355000) (hkH : ∀ p ∈ H, kd p.2 ≠ 67 ∧ kd p.2 ≠ 1068) (nodes : Int) (hbad : chkV nodes (L.map VarI.lg) ≠ 0 → K (.tuple ⟨[.pointer none, .int .i64 (chkV nodes (L.map VarI.lg))]⟩) H)
    (hok : chkV nodes (L.map VarI.lg) = 0 → ∀ gm ids H', Mach gm ids (newM nodes.toNat (L.map VarI.lg)) H' → K (.tuple ⟨[ptr gm, .int .i64 0]⟩) H') : SCalls Try.prog 7 [.int .i64 nodes, sv] H K := by
  obtain ⟨sa, sc, rfl, hml⟩ := hin.sl.sv
  refine enter7 ?_
  have hc23 := fun (K : Value → Heap → Prop) hk => c23 (K := K) hin hbig nodes hk
  have hz := chk_zero (nodes := nodes) (l := L.map VarI.lg)
  generalize chkV nodes (L.map VarI.lg) = e at hc23 hz hbad hok
  by_cases he : e = 0
  · subst he
    obtain ⟨hn1, hn2, hl64, hgo⟩ := hz rfl
    rw [List.length_map] at hl64
    have hgz := goV_zero hgo
    obtain ⟨n, rfl⟩ : ∃ n : Nat, nodes = (n : Int) := ⟨nodes.toNat, by omega⟩
    rw [Int.toNat_natCast] at hok
    repeat' ((conv => whnf); (first
        | refine hc23 _ ?_
        | refine c24 (.head _) n (by omega) (fun q => ?_)
        | refine New.mk (fun _ => ?_)
        | refine Look.at0 ?_
        | refine Cell.row ?_
        | refine Cell.buf ?_
        | refine Cells.row rfl ?_
        | refine Put.row rfl ?_
        | refine Put.buf rfl ?_
        | refine Look.at1 ?_
        | refine Look.at2 ?_
        | refine Look.at3 ?_
        | refine Look.at4 ?_
        | refine Look.at5 ?_
        | refine Look.at6 ?_
        | refine Look.at7 ?_
        | refine Look.at8 ?_
        | with_reducible refine Val.i64 (by omega) (by omega) ?_
        | with_reducible refine Val.u8 (by omega) (by omega) ?_
        | with_reducible refine Val.u32 (by omega) (by omega) ?_
        | with_reducible refine Val.u64 (by omega) (by omega) ?_
        | with_reducible refine Val.u8m ?_
        | with_reducible refine Val.u32m ?_
        | with_reducible refine Val.u64m ?_
        | with_reducible refine Val.shr8 ?_
        | with_reducible refine Val.shr16 (by decide) ?_
        | with_reducible refine Val.shr24 (by decide) ?_
        | with_reducible refine Val.raw ?_
        | refine Branch.not ?_
        | refine Branch.and ?_
        | refine Branch.or ?_
        | refine Branch.dt (by assumption) ?_
        | refine Branch.df (by assumption) ?_
        | refine Branch.dt rfl ?_
        | refine Branch.dt (by omega) ?_
        | refine Branch.df (by omega) ?_
        | refine Branch.t rfl ?_
        | refine Branch.f rfl ?_
        | refine Branch.t (by assumption) ?_
        | refine Branch.f (by assumption) ?_
        | refine Branch.d (fun _ => ?_) (fun _ => ?_)
        | refine Branch.mk (fun _ => ?_) (fun _ => ?_)
        | refine Need.mk (by first | omega | decide | rfl) ?_
        | refine Idx.nat (by omega) ?_
        | refine Idx.auto (by first | omega | decide) (by first | omega | decide) ?_
        | refine Cell.ro rfl ?_
        | refine SDraw.all (by kernel_rfl) ?_
        | refine Kept.k0 ?_
        | refine Kept.k1 ?_
        | refine Kept.k2 ?_
        | refine Kept.k3 ?_
        | refine Kept.k4 ?_))
    rename_i p4 gm
    have hM0 : Mach gm [] (newM n []) ((gm, rowM q n n none 0 0 0) :: (q, .buf 4 (List.replicate n (.bool true)) n) :: (p4, .row 4 [.bool true] (0, 0)) :: H) := by
      refine ⟨⟨q, n, n, none, 0, ?_, ?_, .inl ⟨rfl, rfl, rfl⟩⟩, by simp, by simp, rfl, fun j p v hp _ => by simp at hp, fun v hv => by simp [newM] at hv, ?_⟩
      · show (gm, rowM q (List.replicate n true).length n none 0 0 0) ∈ _
        rw [List.length_replicate]; exact .head _
      · show (q, Blk.buf 4 ((List.replicate n true).map Value.bool) n) ∈ _
        rw [List.map_replicate]; exact .tail _ (.head _)
      · show (List.replicate n true).length ≤ 127 ∧ 0 ≤ 64
        rw [List.length_replicate]; omega
    refine SLoop.invA (I7 gm (.slice sa L.length sc) n L H) (fun x => L.length - x.1) (0, []) (Keep.all ⟨by omega, .mk, hM0, fun p hp => .tail _ (.tail _ (.tail _ hp))⟩) ?_
    rintro ⟨j, ids⟩ S H' ⟨hj, hS, hM, hsub⟩ R hR
    dsimp only at hj hS hM hsub hR ⊢
    cases hS
    by_cases hlt : j < L.length
    · obtain ⟨x, hx, _, htake⟩ := list_at hlt
      obtain ⟨r, o, c, b, e1, hm, hc⟩ := inS_at hin.sl (fun _ => rfl) hx
      injection e1 with e1 _ e3
      subst e1
      have hxm := List.mem_of_getElem? hx
      have hex := (hin.el x hxm).mono hsub
      have hmk := mk_ok (hgz x.lg (List.mem_map_of_mem hxm)).1 (hgz x.lg (List.mem_map_of_mem hxm)).2
      have hnd := (dup_nodup _ _ (hgz x.lg (List.mem_map_of_mem hxm)).2).1
      obtain ⟨xpr, xco, xad, xcp⟩ := x
      dsimp only at hex hnd hmk
      obtain ⟨_, _, _, hxl⟩ := hex.sv
      have hml2 : L.length ≤ 9223372036854775807 := by simp only [maxLen] at hml; omega
      obtain ⟨gt, nt, ct, la, lc, g1, g2, g3⟩ := hM.ex
      repeat' ((conv => whnf); (first
          | refine Look.cells (hsub _ hm) rfl hc ?_
          | refine RawV.mkMap kI rfl (fun pm => ?_)
          | refine New.mk (fun _ => ?_)
          | refine Look.at0 ?_
          | refine Cell.row ?_
          | refine Cell.buf ?_
          | refine Cells.row rfl ?_
          | refine Put.row rfl ?_
          | refine Put.buf rfl ?_
          | refine Look.at1 ?_
          | refine Look.at2 ?_
          | refine Look.at3 ?_
          | refine Look.at4 ?_
          | refine Look.at5 ?_
          | refine Look.at6 ?_
          | refine Look.at7 ?_
          | refine Look.at8 ?_
          | with_reducible refine Val.i64 (by omega) (by omega) ?_
          | with_reducible refine Val.u8 (by omega) (by omega) ?_
          | with_reducible refine Val.u32 (by omega) (by omega) ?_
          | with_reducible refine Val.u64 (by omega) (by omega) ?_
          | with_reducible refine Val.u8m ?_
          | with_reducible refine Val.u32m ?_
          | with_reducible refine Val.u64m ?_
          | with_reducible refine Val.shr8 ?_
          | with_reducible refine Val.shr16 (by decide) ?_
          | with_reducible refine Val.shr24 (by decide) ?_
          | with_reducible refine Val.raw ?_
          | refine Branch.not ?_
          | refine Branch.and ?_
          | refine Branch.or ?_
          | refine Branch.dt (by assumption) ?_
          | refine Branch.df (by assumption) ?_
          | refine Branch.dt rfl ?_
          | refine Branch.dt (by omega) ?_
          | refine Branch.df (by omega) ?_
          | refine Branch.t rfl ?_
          | refine Branch.f rfl ?_
          | refine Branch.t (by assumption) ?_
          | refine Branch.f (by assumption) ?_
          | refine Branch.d (fun _ => ?_) (fun _ => ?_)
          | refine Branch.mk (fun _ => ?_) (fun _ => ?_)
          | refine Need.mk (by first | omega | decide | rfl) ?_
          | refine Idx.nat (by omega) ?_
          | refine Idx.auto (by first | omega | decide) (by first | omega | decide) ?_
          | refine Cell.ro rfl ?_
          | refine SDraw.all (by kernel_rfl) ?_
          | refine Kept.k0 ?_
          | refine Kept.k1 ?_
          | refine Kept.k2 ?_
          | refine Kept.k3 ?_
          | refine Kept.k4 ?_))
      rename_i p9 gv
      refine SLoop.sep fun hsep => ?_
      refine l7i hex hnd _ .mk (fun S i hS => ?_)
      cases hS
      have hfv : ∀ p ∈ H', p.1 ≠ gv := fun p hp => hsep.fresh rfl p (.tail _ (.tail _ hp))
      have hfm : ∀ p ∈ H', p.1 ≠ pm := fun p hp => Sep.fresh (List.pairwise_cons.1 hsep).2 rfl p (.tail _ hp)
      have hl := hM.len
      have hvl : (newM n ((L.take j).map VarI.lg)).vs.length = j := by simp [newM]; omega
      have hfin : ∀ (S : List Value) (r' c' : Nat) (H2 : Heap), ids.length + 1 ≤ c' → c' ≤ maxLen → (gm, rowM gt (newM n ((L.take j).map VarI.lg)).there.length ct (some ⟨r', 0, none⟩) (ids.length + 1) c' 0) ∈ H2 → (r', Blk.buf 68 (ptrs (ids.map Prod.fst) ++ [ptr gv]) (c' * 1)) ∈ H2 →
          (∀ z ∈ (gv, rowV xpr 0 pm) :: (pm, mapB kI (ent0 xco) xco.length) :: H', kd z.2 ≠ 67 → kd z.2 ≠ 1068 → z ∈ H2) → S7 (ptr gm) (.slice (some ⟨r, o, none⟩) L.length sc) (.int .i64 (L.length : Int)) (.int .i64 ((j + 1 : Nat) : Int)) S → R S H2 := by
        intro S r' c' H2 h1 h2 h3 h4 h5 h7
        have hva : VarAt H2 (gv, pm) (mkLv (xpr, xco)) := ⟨h5 _ (.head _) (by show 71 ≠ 67; decide) (by show 71 ≠ 1068; decide), ent0 xco, xco.length, h5 _ (.tail _ (.head _)) (by show 2000 ≠ 67; decide) (by show 2000 ≠ 1068; decide), ent0_ents H2 xco⟩
        have hadd := hM.add g2 h3 h4 h1 h2 (fun z hz a1 a2 => h5 z (.tail _ (.tail _ hz)) a1 a2) hva (by show (mkLv (xpr, xco)).Ok (List.replicate n true).length; rw [List.length_replicate]; exact hmk) hfv hfm (by rw [hvl]; omega)
        refine hR (j + 1, ids ++ [(gv, pm)]) _ _ (by show L.length - (j + 1) < L.length - j; omega) (Keep.all ⟨by show j + 1 ≤ L.length; omega, h7, ?_, fun p hp => h5 p (.tail _ (.tail _ (hsub p hp))) (hkH p hp).1 (hkH p hp).2⟩)
        have e : newM n ((L.take (j + 1)).map VarI.lg) = { newM n ((L.take j).map VarI.lg) with vs := (newM n ((L.take j).map VarI.lg)).vs ++ [mkLv (xpr, xco)] } := by
          rw [htake]; simp [newM]
        show Mach gm (ids ++ [(gv, pm)]) (newM n ((L.take (j + 1)).map VarI.lg)) H2
        rw [e]; exact hadd
      rcases g3 with ⟨rfl, hid, rfl⟩ | ⟨rl, rfl, gl1, gl2, gl3⟩
      · have hid0 : ids = [] := by simpa using hid
        subst hid0
        repeat' ((conv => whnf); (first
            | refine Look.mem (.tail _ (.tail _ (.tail _ g1))) (fun _ _ _ => ?_)
            | refine RawV.app0T (e := 68) (size := 1) (bytes := 8) (m := 1) (news := [ptr gv]) rfl (by kernel_rfl) (by decide) (.head _) rfl (fun j v hj => by rw [Nat.zero_add]; exact hj) (by decide) (by unfold maxLen; omega) (by omega) (fun r' c' h1 h2 => ?_)
            | refine Look.put (rowM gt (newM n ((L.take j).map VarI.lg)).there.length ct (some ⟨r', 0, none⟩) 1 c' 0) (.tail _ (.tail _ (.tail _ (.tail _ (.tail _ g1))))) (PutOk.rowb (by rfl) (by rfl)) (fun H2 hp2 => ?_)
            | refine New.mk (fun _ => ?_)
            | refine Look.at0 ?_
            | refine Cell.row ?_
            | refine Cell.buf ?_
            | refine Cells.row rfl ?_
            | refine Put.row rfl ?_
            | refine Put.buf rfl ?_
            | refine Look.at1 ?_
            | refine Look.at2 ?_
            | refine Look.at3 ?_
            | refine Look.at4 ?_
            | refine Look.at5 ?_
            | refine Look.at6 ?_
            | refine Look.at7 ?_
            | refine Look.at8 ?_
            | with_reducible refine Val.i64 (by omega) (by omega) ?_
            | with_reducible refine Val.u8 (by omega) (by omega) ?_
            | with_reducible refine Val.u32 (by omega) (by omega) ?_
            | with_reducible refine Val.u64 (by omega) (by omega) ?_
            | with_reducible refine Val.u8m ?_
            | with_reducible refine Val.u32m ?_
            | with_reducible refine Val.u64m ?_
            | with_reducible refine Val.shr8 ?_
            | with_reducible refine Val.shr16 (by decide) ?_
            | with_reducible refine Val.shr24 (by decide) ?_
            | with_reducible refine Val.raw ?_
            | refine Branch.not ?_
            | refine Branch.and ?_
            | refine Branch.or ?_
            | refine Branch.dt (by assumption) ?_
            | refine Branch.df (by assumption) ?_
            | refine Branch.dt rfl ?_
            | refine Branch.dt (by omega) ?_
            | refine Branch.df (by omega) ?_
            | refine Branch.t rfl ?_
            | refine Branch.f rfl ?_
            | refine Branch.t (by assumption) ?_
            | refine Branch.f (by assumption) ?_
            | refine Branch.d (fun _ => ?_) (fun _ => ?_)
            | refine Branch.mk (fun _ => ?_) (fun _ => ?_)
            | refine Need.mk (by first | omega | decide | rfl) ?_
            | refine Idx.nat (by omega) ?_
            | refine Idx.auto (by first | omega | decide) (by first | omega | decide) ?_
            | refine Cell.ro rfl ?_
            | refine SDraw.all (by kernel_rfl) ?_
            | refine Kept.k0 ?_
            | refine Kept.k1 ?_
            | refine Kept.k2 ?_
            | refine Kept.k3 ?_
            | refine Kept.k4 ?_))
        all_goals (conv => whnf)
        exact hfin _ r' c' H2 h1 h2 hp2.new (hp2.blk (.head _) (ne_kd (by show 1068 ≠ 67; decide))) (fun z hz a1 a2 => hp2.blk (by
          rcases List.mem_cons.1 hz with rfl | hz
          · exact .tail _ (.tail _ (.head _))
          · rcases List.mem_cons.1 hz with rfl | hz
            · exact .tail _ (.tail _ (.tail _ (.head _)))
            · exact .tail _ (.tail _ (.tail _ (.tail _ (.tail _ hz))))) (ne_kd a1)) .mk
      · repeat' ((conv => whnf); (first
            | refine Look.mem (.tail _ (.tail _ (.tail _ g1))) (fun _ _ _ => ?_)
            | refine RawV.appM (e := 68) (size := 1) (bytes := 8) (m := 1) (news := [ptr gv]) rfl (by kernel_rfl) (by decide) (.tail _ (.tail _ (.tail _ (.tail _ gl3)))) (by simp) rfl (by simpa using gl1) gl2 (.head _) rfl (fun j v hj => by rw [Nat.zero_add]; exact hj) (by intro u hu; obtain rfl := List.mem_singleton.1 hu; rfl) (by unfold maxLen; omega) (by omega) (fun r' c' H3 h1 h2 h3 => ?_)
            | refine Look.put (rowM gt (newM n ((L.take j).map VarI.lg)).there.length ct (some ⟨r', 0, none⟩) (ids.length + 1) c' 0) (.tail _ (h3 _ (.tail _ (.tail _ (.tail _ (.tail _ g1)))) (fun e => by injection e with _ e; cases e))) (PutOk.rowb (by rfl) (by rfl)) (fun H2 hp2 => ?_)
            | refine New.mk (fun _ => ?_)
            | refine Look.at0 ?_
            | refine Cell.row ?_
            | refine Cell.buf ?_
            | refine Cells.row rfl ?_
            | refine Put.row rfl ?_
            | refine Put.buf rfl ?_
            | refine Look.at1 ?_
            | refine Look.at2 ?_
            | refine Look.at3 ?_
            | refine Look.at4 ?_
            | refine Look.at5 ?_
            | refine Look.at6 ?_
            | refine Look.at7 ?_
            | refine Look.at8 ?_
            | with_reducible refine Val.i64 (by omega) (by omega) ?_
            | with_reducible refine Val.u8 (by omega) (by omega) ?_
            | with_reducible refine Val.u32 (by omega) (by omega) ?_
            | with_reducible refine Val.u64 (by omega) (by omega) ?_
            | with_reducible refine Val.u8m ?_
            | with_reducible refine Val.u32m ?_
            | with_reducible refine Val.u64m ?_
            | with_reducible refine Val.shr8 ?_
            | with_reducible refine Val.shr16 (by decide) ?_
            | with_reducible refine Val.shr24 (by decide) ?_
            | with_reducible refine Val.raw ?_
            | refine Branch.not ?_
            | refine Branch.and ?_
            | refine Branch.or ?_
            | refine Branch.dt (by assumption) ?_
            | refine Branch.df (by assumption) ?_
            | refine Branch.dt rfl ?_
            | refine Branch.dt (by omega) ?_
            | refine Branch.df (by omega) ?_
            | refine Branch.t rfl ?_
            | refine Branch.f rfl ?_
            | refine Branch.t (by assumption) ?_
            | refine Branch.f (by assumption) ?_
            | refine Branch.d (fun _ => ?_) (fun _ => ?_)
            | refine Branch.mk (fun _ => ?_) (fun _ => ?_)
            | refine Need.mk (by first | omega | decide | rfl) ?_
            | refine Idx.nat (by omega) ?_
            | refine Idx.auto (by first | omega | decide) (by first | omega | decide) ?_
            | refine Cell.ro rfl ?_
            | refine SDraw.all (by kernel_rfl) ?_
            | refine Kept.k0 ?_
            | refine Kept.k1 ?_
            | refine Kept.k2 ?_
            | refine Kept.k3 ?_
            | refine Kept.k4 ?_))
        all_goals (conv => whnf)
        exact hfin _ r' c' H2 h1 h2 hp2.new (hp2.blk (.head _) (ne_kd (by show 1068 ≠ 67; decide))) (fun z hz a1 a2 => hp2.blk (.tail _ (h3 z (by
          rcases List.mem_cons.1 hz with rfl | hz
          · exact .tail _ (.head _)
          · rcases List.mem_cons.1 hz with rfl | hz
            · exact .tail _ (.tail _ (.head _))
            · exact .tail _ (.tail _ (.tail _ (.tail _ hz)))) (fun e => a2 (by rw [e]; rfl)))) (ne_kd a1)) .mk
    · have e : j = L.length := by omega
      subst e
      rw [List.take_length] at hM
      repeat' ((conv => whnf); (first
          | refine New.mk (fun _ => ?_)
          | refine Look.at0 ?_
          | refine Cell.row ?_
          | refine Cell.buf ?_
          | refine Cells.row rfl ?_
          | refine Put.row rfl ?_
          | refine Put.buf rfl ?_
          | refine Look.at1 ?_
          | refine Look.at2 ?_
          | refine Look.at3 ?_
          | refine Look.at4 ?_
          | refine Look.at5 ?_
          | refine Look.at6 ?_
          | refine Look.at7 ?_
          | refine Look.at8 ?_
          | with_reducible refine Val.i64 (by omega) (by omega) ?_
          | with_reducible refine Val.u8 (by omega) (by omega) ?_
          | with_reducible refine Val.u32 (by omega) (by omega) ?_
          | with_reducible refine Val.u64 (by omega) (by omega) ?_
          | with_reducible refine Val.u8m ?_
          | with_reducible refine Val.u32m ?_
          | with_reducible refine Val.u64m ?_
          | with_reducible refine Val.shr8 ?_
          | with_reducible refine Val.shr16 (by decide) ?_
          | with_reducible refine Val.shr24 (by decide) ?_
          | with_reducible refine Val.raw ?_
          | refine Branch.not ?_
          | refine Branch.and ?_
          | refine Branch.or ?_
          | refine Branch.dt (by assumption) ?_
          | refine Branch.df (by assumption) ?_
          | refine Branch.dt rfl ?_
          | refine Branch.dt (by omega) ?_
          | refine Branch.df (by omega) ?_
          | refine Branch.t rfl ?_
          | refine Branch.f rfl ?_
          | refine Branch.t (by assumption) ?_
          | refine Branch.f (by assumption) ?_
          | refine Branch.d (fun _ => ?_) (fun _ => ?_)
          | refine Branch.mk (fun _ => ?_) (fun _ => ?_)
          | refine Need.mk (by first | omega | decide | rfl) ?_
          | refine Idx.nat (by omega) ?_
          | refine Idx.auto (by first | omega | decide) (by first | omega | decide) ?_
          | refine Cell.ro rfl ?_
          | refine SDraw.all (by kernel_rfl) ?_
          | refine Kept.k0 ?_
          | refine Kept.k1 ?_
          | refine Kept.k2 ?_
          | refine Kept.k3 ?_
          | refine Kept.k4 ?_))
      all_goals (conv => whnf)
      exact Keep.all (hok rfl _ _ _ hM)
  · repeat' ((conv => whnf); (first
        | refine hc23 _ ?_
        | refine New.mk (fun _ => ?_)
        | refine Look.at0 ?_
        | refine Cell.row ?_
        | refine Cell.buf ?_
        | refine Cells.row rfl ?_
        | refine Put.row rfl ?_
        | refine Put.buf rfl ?_
        | refine Look.at1 ?_
        | refine Look.at2 ?_
        | refine Look.at3 ?_
        | refine Look.at4 ?_
        | refine Look.at5 ?_
        | refine Look.at6 ?_
        | refine Look.at7 ?_
        | refine Look.at8 ?_
        | with_reducible refine Val.i64 (by omega) (by omega) ?_
        | with_reducible refine Val.u8 (by omega) (by omega) ?_
        | with_reducible refine Val.u32 (by omega) (by omega) ?_
        | with_reducible refine Val.u64 (by omega) (by omega) ?_
        | with_reducible refine Val.u8m ?_
        | with_reducible refine Val.u32m ?_
        | with_reducible refine Val.u64m ?_
        | with_reducible refine Val.shr8 ?_
        | with_reducible refine Val.shr16 (by decide) ?_
        | with_reducible refine Val.shr24 (by decide) ?_
        | with_reducible refine Val.raw ?_
        | refine Branch.not ?_
        | refine Branch.and ?_
        | refine Branch.or ?_
        | refine Branch.dt (by assumption) ?_
        | refine Branch.df (by assumption) ?_
        | refine Branch.dt rfl ?_
        | refine Branch.dt (by omega) ?_
        | refine Branch.df (by omega) ?_
        | refine Branch.t rfl ?_
        | refine Branch.f rfl ?_
        | refine Branch.t (by assumption) ?_
        | refine Branch.f (by assumption) ?_
        | refine Branch.d (fun _ => ?_) (fun _ => ?_)
        | refine Branch.mk (fun _ => ?_) (fun _ => ?_)
        | refine Need.mk (by first | omega | decide | rfl) ?_
        | refine Idx.nat (by omega) ?_
        | refine Idx.auto (by first | omega | decide) (by first | omega | decide) ?_
        | refine Cell.ro rfl ?_
        | refine SDraw.all (by kernel_rfl) ?_
        | refine Kept.k0 ?_
        | refine Kept.k1 ?_
        | refine Kept.k2 ?_
        | refine Kept.k3 ?_
        | refine Kept.k4 ?_))
    all_goals (conv => whnf)
    exact Keep.all (hbad he)
end
end Go.Proofs.Ytjnlpaojaikjaaa

/- Layer 26: the document's check: by walks. -/
set_option linter.unusedVariables false
set_option linter.unusedSimpArgs false
set_option maxRecDepth 100000
set_option maxHeartbeats 4000000
namespace Go.Proofs.Ytjnlpaojaikjaaa
open Sx
theorem badV_pos {nodes p : Int} {c : List Int} (h : p < 0 ∨ nodes ≤ p ∨ ∃ n ∈ c, n < 0 ∨ nodes ≤ n ∨ n = p) : badV nodes p c = true := by
  unfold badV
  rw [Bool.or_eq_true, List.any_eq_true]
  rcases h with h | h | ⟨n, hn, h⟩
  · exact .inl ⟨p, .head _, by simp [h]⟩
  · exact .inl ⟨p, .head _, by simp [h]⟩
  · rcases h with h | h | rfl
    · exact .inl ⟨n, .tail _ hn, by simp [h]⟩
    · exact .inl ⟨n, .tail _ hn, by simp [h]⟩
    · exact .inr (by simp [hn])
theorem badV_neg {nodes p : Int} {c : List Int} (h1 : ¬ p < 0) (h2 : ¬ nodes ≤ p) (h3 : ∀ n ∈ c, ¬ (n < 0 ∨ nodes ≤ n ∨ n = p)) : badV nodes p c = false := by
  cases hb : badV nodes p c with
  | false => rfl
  | true =>
    unfold badV at hb
    rw [Bool.or_eq_true, List.any_eq_true] at hb
    rcases hb with ⟨n, hn, hb⟩ | hb
    · rcases List.mem_cons.1 hn with rfl | hn
      · simp at hb; omega
      · have := h3 n hn; simp at hb; omega
    · have := h3 p (by simpa using hb); exact absurd (.inr (.inr rfl)) this
inductive S20 (A0 A1 A5 : Value) : List Value → Prop
  | mk {r2 r3 r4 r6 r7 r8 r9 r10 r11 r12 r13 r14 r15 r16 r17 r18 r19 r20 r21 r22 r23 r24 r25 r26 r27 r28 r29 r30 r31 r32 r33 r34 r35 r36 r37 r38 r39 r40 r41 r42 r43 r44 r45 r46 r47 r48 r49 r50 r51 r52 r53 r54 r55 r56 r57 r58 r59 r60 r61 r62 r63 r64 r65 r66 r67 r68 r69 r70 r71 r72 r73 r74 r75 r76 r77 r78 r79 r80 r81 r82 r83 r84 r85 r86 r87 r88 r89 r90 r91 r92 r93 r94 r95 : Value} : S20 A0 A1 A5 [A0, A1, r2, r3, r4, A5, r6, r7, r8, r9, r10, r11, r12, r13, r14, r15, r16, r17, r18, r19, r20, r21, r22, r23, r24, r25, r26, r27, r28, r29, r30, r31, r32, r33, r34, r35, r36, r37, r38, r39, r40, r41, r42, r43, r44, r45, r46, r47, r48, r49, r50, r51, r52, r53, r54, r55, r56, r57, r58, r59, r60, r61, r62, r63, r64, r65, r66, r67, r68, r69, r70, r71, r72, r73, r74, r75, r76, r77, r78, r79, r80, r81, r82, r83, r84, r85, r86, r87, r88, r89, r90, r91, r92, r93, r94, r95]
inductive S20a (A0 A1 A5 A6 A7 : Value) : List Value → Prop
  | mk {r2 r3 r4 r8 r9 r10 r11 r12 r13 r14 r15 r16 r17 r18 r19 r20 r21 r22 r23 r24 r25 r26 r27 r28 r29 r30 r31 r32 r33 r34 r35 r36 r37 r38 r39 r40 r41 r42 r43 r44 r45 r46 r47 r48 r49 r50 r51 r52 r53 r54 r55 r56 r57 r58 r59 r60 r61 r62 r63 r64 r65 r66 r67 r68 r69 r70 r71 r72 r73 r74 r75 r76 r77 r78 r79 r80 r81 r82 r83 r84 r85 r86 r87 r88 r89 r90 r91 r92 r93 r94 r95 : Value} : S20a A0 A1 A5 A6 A7 [A0, A1, r2, r3, r4, A5, A6, A7, r8, r9, r10, r11, r12, r13, r14, r15, r16, r17, r18, r19, r20, r21, r22, r23, r24, r25, r26, r27, r28, r29, r30, r31, r32, r33, r34, r35, r36, r37, r38, r39, r40, r41, r42, r43, r44, r45, r46, r47, r48, r49, r50, r51, r52, r53, r54, r55, r56, r57, r58, r59, r60, r61, r62, r63, r64, r65, r66, r67, r68, r69, r70, r71, r72, r73, r74, r75, r76, r77, r78, r79, r80, r81, r82, r83, r84, r85, r86, r87, r88, r89, r90, r91, r92, r93, r94, r95]
inductive S20b (A0 A1 A5 A6 A8 : Value) : List Value → Prop
  | mk {r2 r3 r4 r7 r9 r10 r11 r12 r13 r14 r15 r16 r17 r18 r19 r20 r21 r22 r23 r24 r25 r26 r27 r28 r29 r30 r31 r32 r33 r34 r35 r36 r37 r38 r39 r40 r41 r42 r43 r44 r45 r46 r47 r48 r49 r50 r51 r52 r53 r54 r55 r56 r57 r58 r59 r60 r61 r62 r63 r64 r65 r66 r67 r68 r69 r70 r71 r72 r73 r74 r75 r76 r77 r78 r79 r80 r81 r82 r83 r84 r85 r86 r87 r88 r89 r90 r91 r92 r93 r94 r95 : Value} : S20b A0 A1 A5 A6 A8 [A0, A1, r2, r3, r4, A5, A6, r7, A8, r9, r10, r11, r12, r13, r14, r15, r16, r17, r18, r19, r20, r21, r22, r23, r24, r25, r26, r27, r28, r29, r30, r31, r32, r33, r34, r35, r36, r37, r38, r39, r40, r41, r42, r43, r44, r45, r46, r47, r48, r49, r50, r51, r52, r53, r54, r55, r56, r57, r58, r59, r60, r61, r62, r63, r64, r65, r66, r67, r68, r69, r70, r71, r72, r73, r74, r75, r76, r77, r78, r79, r80, r81, r82, r83, r84, r85, r86, r87, r88, r89, r90, r91, r92, r93, r94, r95]
inductive S20c (A0 A1 A5 A6 A8 A9 : Value) : List Value → Prop
  | mk {r2 r3 r4 r7 r10 r11 r12 r13 r14 r15 r16 r17 r18 r19 r20 r21 r22 r23 r24 r25 r26 r27 r28 r29 r30 r31 r32 r33 r34 r35 r36 r37 r38 r39 r40 r41 r42 r43 r44 r45 r46 r47 r48 r49 r50 r51 r52 r53 r54 r55 r56 r57 r58 r59 r60 r61 r62 r63 r64 r65 r66 r67 r68 r69 r70 r71 r72 r73 r74 r75 r76 r77 r78 r79 r80 r81 r82 r83 r84 r85 r86 r87 r88 r89 r90 r91 r92 r93 r94 r95 : Value} : S20c A0 A1 A5 A6 A8 A9 [A0, A1, r2, r3, r4, A5, A6, r7, A8, A9, r10, r11, r12, r13, r14, r15, r16, r17, r18, r19, r20, r21, r22, r23, r24, r25, r26, r27, r28, r29, r30, r31, r32, r33, r34, r35, r36, r37, r38, r39, r40, r41, r42, r43, r44, r45, r46, r47, r48, r49, r50, r51, r52, r53, r54, r55, r56, r57, r58, r59, r60, r61, r62, r63, r64, r65, r66, r67, r68, r69, r70, r71, r72, r73, r74, r75, r76, r77, r78, r79, r80, r81, r82, r83, r84, r85, r86, r87, r88, r89, r90, r91, r92, r93, r94, r95]
def I20 (sv : Value) (nodes : Int) (L : List VarI) (H : Heap) (T : Int) (j : Nat) (S : List Value) (H' : Heap) : Prop :=
  j ≤ L.length ∧ goV nodes ((L.drop j).map VarI.lg) = T ∧ S20 (.int .i64 nodes) sv (.int .i64 (j : Int)) S ∧ H' = H
def I20a (n0 sv j0 cv : Value) (bad : Int → Prop) (xs : List Int) (H : Heap) (k : Nat) (S : List Value) (H' : Heap) : Prop :=
  k ≤ xs.length ∧ (∀ x ∈ xs.take k, ¬ bad x) ∧ S20a n0 sv j0 cv (.int .i64 (k : Int)) S ∧ H' = H
def I20b (n0 sv j0 cv : Value) (xs : List Int) (T : Bool) (H : Heap) (k : Nat) (S : List Value) (H' : Heap) : Prop :=
  k ≤ xs.length ∧ dupI (xs.take k) (xs.drop k) = T ∧ S20b n0 sv j0 cv (.int .i64 (k : Int)) S ∧ H' = H
def I20c (n0 sv j0 cv : Value) (xs : List Int) (k : Nat) (y : Int) (H : Heap) (i : Nat) (S : List Value) (H' : Heap) : Prop :=
  i ≤ k ∧ y ∉ xs.take i ∧ S20c n0 sv j0 cv (.int .i64 (k : Int)) (.int .i64 (i : Int)) S ∧ H' = H
section
variable {K : Value → Heap → Prop} {H : Heap}
theorem c20 {sv : Value} {L : List VarI} (hin : InV sv H L) (nodes : Int) (h : K (.int .i64 (chkV nodes (L.map VarI.lg))) H) : SCalls Try.prog 20 [.int .i64 nodes, sv] H K := by
  obtain ⟨sa, sc, rfl, hml⟩ := hin.sl.sv
  have hml' : L.length ≤ 9223372036854775807 := by simp only [maxLen] at hml; omega
  refine enter20 ?_
  unfold chkV at h
  rw [List.length_map] at h
  by_cases hn : nodes < 1 ∨ 127 < nodes
  · rw [if_pos hn] at h
    rcases hn with hn | hn
    · repeat' ((conv => whnf); (first
          | refine New.mk (fun _ => ?_)
          | refine Look.at0 ?_
          | refine Cell.row ?_
          | refine Cell.buf ?_
          | refine Cells.row rfl ?_
          | refine Put.row rfl ?_
          | refine Put.buf rfl ?_
          | refine Look.at1 ?_
          | refine Look.at2 ?_
          | refine Look.at3 ?_
          | refine Look.at4 ?_
          | refine Look.at5 ?_
          | refine Look.at6 ?_
          | refine Look.at7 ?_
          | refine Look.at8 ?_
          | with_reducible refine Val.i64 (by omega) (by omega) ?_
          | with_reducible refine Val.u8 (by omega) (by omega) ?_
          | with_reducible refine Val.u32 (by omega) (by omega) ?_
          | with_reducible refine Val.u64 (by omega) (by omega) ?_
          | with_reducible refine Val.u8m ?_
          | with_reducible refine Val.u32m ?_
          | with_reducible refine Val.u64m ?_
          | with_reducible refine Val.shr8 ?_
          | with_reducible refine Val.shr16 (by decide) ?_
          | with_reducible refine Val.shr24 (by decide) ?_
          | with_reducible refine Val.raw ?_
          | refine Branch.not ?_
          | refine Branch.and ?_
          | refine Branch.or ?_
          | refine Branch.dt (by assumption) ?_
          | refine Branch.df (by assumption) ?_
          | refine Branch.dt rfl ?_
          | refine Branch.dt (by omega) ?_
          | refine Branch.df (by omega) ?_
          | refine Branch.t rfl ?_
          | refine Branch.f rfl ?_
          | refine Branch.t (by assumption) ?_
          | refine Branch.f (by assumption) ?_
          | refine Branch.d (fun _ => ?_) (fun _ => ?_)
          | refine Branch.mk (fun _ => ?_) (fun _ => ?_)
          | refine Need.mk (by first | omega | decide | rfl) ?_
          | refine Idx.nat (by omega) ?_
          | refine Idx.auto (by first | omega | decide) (by first | omega | decide) ?_
          | refine Cell.ro rfl ?_
          | refine SDraw.all (by kernel_rfl) ?_
          | refine Kept.k0 ?_
          | refine Kept.k1 ?_
          | refine Kept.k2 ?_
          | refine Kept.k3 ?_
          | refine Kept.k4 ?_))
      all_goals (conv => whnf)
      exact Keep.all h
    · by_cases hn1 : nodes < 1
      · omega
      · repeat' ((conv => whnf); (first
            | refine New.mk (fun _ => ?_)
            | refine Look.at0 ?_
            | refine Cell.row ?_
            | refine Cell.buf ?_
            | refine Cells.row rfl ?_
            | refine Put.row rfl ?_
            | refine Put.buf rfl ?_
            | refine Look.at1 ?_
            | refine Look.at2 ?_
            | refine Look.at3 ?_
            | refine Look.at4 ?_
            | refine Look.at5 ?_
            | refine Look.at6 ?_
            | refine Look.at7 ?_
            | refine Look.at8 ?_
            | with_reducible refine Val.i64 (by omega) (by omega) ?_
            | with_reducible refine Val.u8 (by omega) (by omega) ?_
            | with_reducible refine Val.u32 (by omega) (by omega) ?_
            | with_reducible refine Val.u64 (by omega) (by omega) ?_
            | with_reducible refine Val.u8m ?_
            | with_reducible refine Val.u32m ?_
            | with_reducible refine Val.u64m ?_
            | with_reducible refine Val.shr8 ?_
            | with_reducible refine Val.shr16 (by decide) ?_
            | with_reducible refine Val.shr24 (by decide) ?_
            | with_reducible refine Val.raw ?_
            | refine Branch.not ?_
            | refine Branch.and ?_
            | refine Branch.or ?_
            | refine Branch.dt (by assumption) ?_
            | refine Branch.df (by assumption) ?_
            | refine Branch.dt rfl ?_
            | refine Branch.dt (by omega) ?_
            | refine Branch.df (by omega) ?_
            | refine Branch.t rfl ?_
            | refine Branch.f rfl ?_
            | refine Branch.t (by assumption) ?_
            | refine Branch.f (by assumption) ?_
            | refine Branch.d (fun _ => ?_) (fun _ => ?_)
            | refine Branch.mk (fun _ => ?_) (fun _ => ?_)
            | refine Need.mk (by first | omega | decide | rfl) ?_
            | refine Idx.nat (by omega) ?_
            | refine Idx.auto (by first | omega | decide) (by first | omega | decide) ?_
            | refine Cell.ro rfl ?_
            | refine SDraw.all (by kernel_rfl) ?_
            | refine Kept.k0 ?_
            | refine Kept.k1 ?_
            | refine Kept.k2 ?_
            | refine Kept.k3 ?_
            | refine Kept.k4 ?_))
        all_goals (conv => whnf)
        exact Keep.all h
  · rw [if_neg hn] at h
    have hn1 : ¬ nodes < 1 := by omega
    have hn2 : ¬ 127 < nodes := by omega
    by_cases hl : 64 < L.length
    · rw [if_pos hl] at h
      repeat' ((conv => whnf); (first
          | refine New.mk (fun _ => ?_)
          | refine Look.at0 ?_
          | refine Cell.row ?_
          | refine Cell.buf ?_
          | refine Cells.row rfl ?_
          | refine Put.row rfl ?_
          | refine Put.buf rfl ?_
          | refine Look.at1 ?_
          | refine Look.at2 ?_
          | refine Look.at3 ?_
          | refine Look.at4 ?_
          | refine Look.at5 ?_
          | refine Look.at6 ?_
          | refine Look.at7 ?_
          | refine Look.at8 ?_
          | with_reducible refine Val.i64 (by omega) (by omega) ?_
          | with_reducible refine Val.u8 (by omega) (by omega) ?_
          | with_reducible refine Val.u32 (by omega) (by omega) ?_
          | with_reducible refine Val.u64 (by omega) (by omega) ?_
          | with_reducible refine Val.u8m ?_
          | with_reducible refine Val.u32m ?_
          | with_reducible refine Val.u64m ?_
          | with_reducible refine Val.shr8 ?_
          | with_reducible refine Val.shr16 (by decide) ?_
          | with_reducible refine Val.shr24 (by decide) ?_
          | with_reducible refine Val.raw ?_
          | refine Branch.not ?_
          | refine Branch.and ?_
          | refine Branch.or ?_
          | refine Branch.dt (by assumption) ?_
          | refine Branch.df (by assumption) ?_
          | refine Branch.dt rfl ?_
          | refine Branch.dt (by omega) ?_
          | refine Branch.df (by omega) ?_
          | refine Branch.t rfl ?_
          | refine Branch.f rfl ?_
          | refine Branch.t (by assumption) ?_
          | refine Branch.f (by assumption) ?_
          | refine Branch.d (fun _ => ?_) (fun _ => ?_)
          | refine Branch.mk (fun _ => ?_) (fun _ => ?_)
          | refine Need.mk (by first | omega | decide | rfl) ?_
          | refine Idx.nat (by omega) ?_
          | refine Idx.auto (by first | omega | decide) (by first | omega | decide) ?_
          | refine Cell.ro rfl ?_
          | refine SDraw.all (by kernel_rfl) ?_
          | refine Kept.k0 ?_
          | refine Kept.k1 ?_
          | refine Kept.k2 ?_
          | refine Kept.k3 ?_
          | refine Kept.k4 ?_))
      all_goals (conv => whnf)
      exact Keep.all h
    · rw [if_neg hl] at h
      repeat' ((conv => whnf); (first
          | refine New.mk (fun _ => ?_)
          | refine Look.at0 ?_
          | refine Cell.row ?_
          | refine Cell.buf ?_
          | refine Cells.row rfl ?_
          | refine Put.row rfl ?_
          | refine Put.buf rfl ?_
          | refine Look.at1 ?_
          | refine Look.at2 ?_
          | refine Look.at3 ?_
          | refine Look.at4 ?_
          | refine Look.at5 ?_
          | refine Look.at6 ?_
          | refine Look.at7 ?_
          | refine Look.at8 ?_
          | with_reducible refine Val.i64 (by omega) (by omega) ?_
          | with_reducible refine Val.u8 (by omega) (by omega) ?_
          | with_reducible refine Val.u32 (by omega) (by omega) ?_
          | with_reducible refine Val.u64 (by omega) (by omega) ?_
          | with_reducible refine Val.u8m ?_
          | with_reducible refine Val.u32m ?_
          | with_reducible refine Val.u64m ?_
          | with_reducible refine Val.shr8 ?_
          | with_reducible refine Val.shr16 (by decide) ?_
          | with_reducible refine Val.shr24 (by decide) ?_
          | with_reducible refine Val.raw ?_
          | refine Branch.not ?_
          | refine Branch.and ?_
          | refine Branch.or ?_
          | refine Branch.dt (by assumption) ?_
          | refine Branch.df (by assumption) ?_
          | refine Branch.dt rfl ?_
          | refine Branch.dt (by omega) ?_
          | refine Branch.df (by omega) ?_
          | refine Branch.t rfl ?_
          | refine Branch.f rfl ?_
          | refine Branch.t (by assumption) ?_
          | refine Branch.f (by assumption) ?_
          | refine Branch.d (fun _ => ?_) (fun _ => ?_)
          | refine Branch.mk (fun _ => ?_) (fun _ => ?_)
          | refine Need.mk (by first | omega | decide | rfl) ?_
          | refine Idx.nat (by omega) ?_
          | refine Idx.auto (by first | omega | decide) (by first | omega | decide) ?_
          | refine Cell.ro rfl ?_
          | refine SDraw.all (by kernel_rfl) ?_
          | refine Kept.k0 ?_
          | refine Kept.k1 ?_
          | refine Kept.k2 ?_
          | refine Kept.k3 ?_
          | refine Kept.k4 ?_))
      generalize hT : goV nodes (L.map VarI.lg) = T at h
      refine SLoop.invA (I20 (.slice sa L.length sc) nodes L H T) (fun j => L.length - j) 0 (Keep.all ⟨by omega, hT, .mk, rfl⟩) ?_
      rintro j S H' ⟨hj, hgo, hS, rfl⟩ R hR
      cases hS
      by_cases hlt : j < L.length
      · obtain ⟨x, hx, hdrop, _⟩ := list_at hlt
        obtain ⟨r, o, c, b, e1, hm, hc⟩ := inS_at hin.sl (fun _ => rfl) hx
        injection e1 with e1 _ e3
        subst e1
        have hxm := List.mem_of_getElem? hx
        have hel := hin.el x hxm
        rw [hdrop, List.map_cons, goV] at hgo
        obtain ⟨xpr, xco, xad, xcp⟩ := x
        dsimp only at hgo hel hx
        have hc0 : b.cell (o + j * 2 + 0) = some (.int .i64 xpr) := hc 0 _ rfl
        have hc1 : b.cell (o + j * 2 + 1) = some (.slice xad xco.length xcp) := hc 1 _ rfl
        obtain ⟨_, _, _, hxl⟩ := hel.sv
        have hxl2 : xco.length ≤ 9223372036854775807 := by simp only [maxLen] at hxl; omega
        clear hT
        have hnext : ∀ S, badV nodes xpr xco = false → dupI [] xco = false → S20 (.int .i64 nodes) (.slice (some ⟨r, o, none⟩) L.length sc) (.int .i64 ((j + 1 : Nat) : Int)) S → R S H' := fun S h1 h2 h3 => by
          rw [if_neg (by rw [h1]; decide), if_neg (by rw [h2]; decide)] at hgo
          exact hR (j + 1) _ _ (by omega) (Keep.all ⟨by omega, hgo, h3, rfl⟩)
        clear hR
        have hbadK : badV nodes xpr xco = true → K (.int .i64 1) H' := fun hb => by
          rw [if_pos hb] at hgo; rw [← hgo] at h; exact h
        have hdupK : badV nodes xpr xco = false → dupI [] xco = true → K (.int .i64 5) H' := fun hb hd => by
          rw [if_neg (by rw [hb]; decide), if_pos hd] at hgo; rw [← hgo] at h; exact h
        clear hgo h
        repeat' ((conv => whnf); (first
            | refine Look.cell hm hc1 ?_
            | refine Look.cell hm hc0 ?_
            | refine New.mk (fun _ => ?_)
            | refine Look.at0 ?_
            | refine Cell.row ?_
            | refine Cell.buf ?_
            | refine Cells.row rfl ?_
            | refine Put.row rfl ?_
            | refine Put.buf rfl ?_
            | refine Look.at1 ?_
            | refine Look.at2 ?_
            | refine Look.at3 ?_
            | refine Look.at4 ?_
            | refine Look.at5 ?_
            | refine Look.at6 ?_
            | refine Look.at7 ?_
            | refine Look.at8 ?_
            | with_reducible refine Val.i64 (by omega) (by omega) ?_
            | with_reducible refine Val.u8 (by omega) (by omega) ?_
            | with_reducible refine Val.u32 (by omega) (by omega) ?_
            | with_reducible refine Val.u64 (by omega) (by omega) ?_
            | with_reducible refine Val.u8m ?_
            | with_reducible refine Val.u32m ?_
            | with_reducible refine Val.u64m ?_
            | with_reducible refine Val.shr8 ?_
            | with_reducible refine Val.shr16 (by decide) ?_
            | with_reducible refine Val.shr24 (by decide) ?_
            | with_reducible refine Val.raw ?_
            | refine Branch.not ?_
            | refine Branch.and ?_
            | refine Branch.or ?_
            | refine Branch.dt (by assumption) ?_
            | refine Branch.df (by assumption) ?_
            | refine Branch.dt rfl ?_
            | refine Branch.dt (by omega) ?_
            | refine Branch.df (by omega) ?_
            | refine Branch.t rfl ?_
            | refine Branch.f rfl ?_
            | refine Branch.t (by assumption) ?_
            | refine Branch.f (by assumption) ?_
            | refine Branch.d (fun _ => ?_) (fun _ => ?_)
            | refine Branch.mk (fun _ => ?_) (fun _ => ?_)
            | refine Need.mk (by first | omega | decide | rfl) ?_
            | refine Idx.nat (by omega) ?_
            | refine Idx.auto (by first | omega | decide) (by first | omega | decide) ?_
            | refine Cell.ro rfl ?_
            | refine SDraw.all (by kernel_rfl) ?_
            | refine Kept.k0 ?_
            | refine Kept.k1 ?_
            | refine Kept.k2 ?_
            | refine Kept.k3 ?_
            | refine Kept.k4 ?_))
        all_goals first
          | (conv => whnf)
            exact Keep.all (hbadK (badV_pos (by omega)))
          | skip
        have hp0 : ¬ xpr < 0 := by assumption
        have hp1 : ¬ nodes ≤ xpr := by assumption
        refine SLoop.invA (I20a _ _ _ _ (fun n => n < 0 ∨ nodes ≤ n ∨ n = xpr) xco H') (fun y => xco.length - y) 0 (Keep.all ⟨by omega, fun x hx => by simp at hx, .mk, rfl⟩) ?_
        rintro k S H2 ⟨hk, hok, hS, rfl⟩ R2 hR2
        cases hS
        by_cases hlt2 : k < xco.length
        · obtain ⟨n, hn0, _, htake2⟩ := list_at hlt2
          obtain ⟨r2, o2, c3, b2, e12, hm2, hc2⟩ := hel.at1 hn0 rfl
          injection e12 with e12 _ e32
          subst e12
          have hn1 := List.mem_of_getElem? hn0
          clear hnext
          repeat' ((conv => whnf); (first
              | refine SDraw.held (by kernel_rfl) [(r, b), (r2, b2)] (.same hm (.same hm2 .nil)) ?_
              | refine Look.cell (.head _) hc0 ?_
              | refine Look.cell (.tail _ (.head _)) hc2 ?_
              | refine New.mk (fun _ => ?_)
              | refine Look.at0 ?_
              | refine Cell.row ?_
              | refine Cell.buf ?_
              | refine Cells.row rfl ?_
              | refine Put.row rfl ?_
              | refine Put.buf rfl ?_
              | refine Look.at1 ?_
              | refine Look.at2 ?_
              | refine Look.at3 ?_
              | refine Look.at4 ?_
              | refine Look.at5 ?_
              | refine Look.at6 ?_
              | refine Look.at7 ?_
              | refine Look.at8 ?_
              | with_reducible refine Val.i64 (by omega) (by omega) ?_
              | with_reducible refine Val.u8 (by omega) (by omega) ?_
              | with_reducible refine Val.u32 (by omega) (by omega) ?_
              | with_reducible refine Val.u64 (by omega) (by omega) ?_
              | with_reducible refine Val.u8m ?_
              | with_reducible refine Val.u32m ?_
              | with_reducible refine Val.u64m ?_
              | with_reducible refine Val.shr8 ?_
              | with_reducible refine Val.shr16 (by decide) ?_
              | with_reducible refine Val.shr24 (by decide) ?_
              | with_reducible refine Val.raw ?_
              | refine Branch.not ?_
              | refine Branch.and ?_
              | refine Branch.or ?_
              | refine Branch.dt (by assumption) ?_
              | refine Branch.df (by assumption) ?_
              | refine Branch.dt rfl ?_
              | refine Branch.dt (by omega) ?_
              | refine Branch.df (by omega) ?_
              | refine Branch.t rfl ?_
              | refine Branch.f rfl ?_
              | refine Branch.t (by assumption) ?_
              | refine Branch.f (by assumption) ?_
              | refine Branch.d (fun _ => ?_) (fun _ => ?_)
              | refine Branch.mk (fun _ => ?_) (fun _ => ?_)
              | refine Need.mk (by first | omega | decide | rfl) ?_
              | refine Idx.nat (by omega) ?_
              | refine Idx.auto (by first | omega | decide) (by first | omega | decide) ?_
              | refine Cell.ro rfl ?_
              | refine SDraw.all (by kernel_rfl) ?_
              | refine Kept.k0 ?_
              | refine Kept.k1 ?_
              | refine Kept.k2 ?_
              | refine Kept.k3 ?_
              | refine Kept.k4 ?_))
          all_goals (conv => whnf)
          all_goals first
            | exact Keep.all (hbadK (badV_pos (.inr (.inr ⟨n, hn1, by omega⟩))))
            | skip
          all_goals
            refine hR2 (k + 1) _ _ (by omega) (Keep.all ⟨by omega, fun x hx => ?_, .mk, rfl⟩)
            rw [htake2] at hx
            rcases List.mem_append.1 hx with hx | hx
            · exact hok x hx
            · obtain rfl := List.mem_singleton.1 hx; omega
        · have e : k = xco.length := by omega
          subst e
          rw [List.take_length] at hok
          have hbf : badV nodes xpr xco = false := badV_neg hp0 hp1 hok
          repeat' ((conv => whnf); (first
              | refine New.mk (fun _ => ?_)
              | refine Look.at0 ?_
              | refine Cell.row ?_
              | refine Cell.buf ?_
              | refine Cells.row rfl ?_
              | refine Put.row rfl ?_
              | refine Put.buf rfl ?_
              | refine Look.at1 ?_
              | refine Look.at2 ?_
              | refine Look.at3 ?_
              | refine Look.at4 ?_
              | refine Look.at5 ?_
              | refine Look.at6 ?_
              | refine Look.at7 ?_
              | refine Look.at8 ?_
              | with_reducible refine Val.i64 (by omega) (by omega) ?_
              | with_reducible refine Val.u8 (by omega) (by omega) ?_
              | with_reducible refine Val.u32 (by omega) (by omega) ?_
              | with_reducible refine Val.u64 (by omega) (by omega) ?_
              | with_reducible refine Val.u8m ?_
              | with_reducible refine Val.u32m ?_
              | with_reducible refine Val.u64m ?_
              | with_reducible refine Val.shr8 ?_
              | with_reducible refine Val.shr16 (by decide) ?_
              | with_reducible refine Val.shr24 (by decide) ?_
              | with_reducible refine Val.raw ?_
              | refine Branch.not ?_
              | refine Branch.and ?_
              | refine Branch.or ?_
              | refine Branch.dt (by assumption) ?_
              | refine Branch.df (by assumption) ?_
              | refine Branch.dt rfl ?_
              | refine Branch.dt (by omega) ?_
              | refine Branch.df (by omega) ?_
              | refine Branch.t rfl ?_
              | refine Branch.f rfl ?_
              | refine Branch.t (by assumption) ?_
              | refine Branch.f (by assumption) ?_
              | refine Branch.d (fun _ => ?_) (fun _ => ?_)
              | refine Branch.mk (fun _ => ?_) (fun _ => ?_)
              | refine Need.mk (by first | omega | decide | rfl) ?_
              | refine Idx.nat (by omega) ?_
              | refine Idx.auto (by first | omega | decide) (by first | omega | decide) ?_
              | refine Cell.ro rfl ?_
              | refine SDraw.all (by kernel_rfl) ?_
              | refine Kept.k0 ?_
              | refine Kept.k1 ?_
              | refine Kept.k2 ?_
              | refine Kept.k3 ?_
              | refine Kept.k4 ?_))
          refine SLoop.invA (I20b _ _ _ _ xco (dupI [] xco) H2) (fun y => xco.length - y) 0 (Keep.all ⟨by omega, by simp, .mk, rfl⟩) ?_
          rintro k S H3 ⟨hk, hdup, hS, rfl⟩ R2 hR2
          cases hS
          by_cases hlt2 : k < xco.length
          · obtain ⟨n, hn0, hdrop2, htake2⟩ := list_at hlt2
            rw [hdrop2, dupI] at hdup
            obtain ⟨r2, o2, c3, b2, e12, hm2, hc2⟩ := hel.at1 hn0 rfl
            injection e12 with e12 _ e32
            subst e12
            clear hnext
            repeat' ((conv => whnf); (first
                | refine New.mk (fun _ => ?_)
                | refine Look.at0 ?_
                | refine Cell.row ?_
                | refine Cell.buf ?_
                | refine Cells.row rfl ?_
                | refine Put.row rfl ?_
                | refine Put.buf rfl ?_
                | refine Look.at1 ?_
                | refine Look.at2 ?_
                | refine Look.at3 ?_
                | refine Look.at4 ?_
                | refine Look.at5 ?_
                | refine Look.at6 ?_
                | refine Look.at7 ?_
                | refine Look.at8 ?_
                | with_reducible refine Val.i64 (by omega) (by omega) ?_
                | with_reducible refine Val.u8 (by omega) (by omega) ?_
                | with_reducible refine Val.u32 (by omega) (by omega) ?_
                | with_reducible refine Val.u64 (by omega) (by omega) ?_
                | with_reducible refine Val.u8m ?_
                | with_reducible refine Val.u32m ?_
                | with_reducible refine Val.u64m ?_
                | with_reducible refine Val.shr8 ?_
                | with_reducible refine Val.shr16 (by decide) ?_
                | with_reducible refine Val.shr24 (by decide) ?_
                | with_reducible refine Val.raw ?_
                | refine Branch.not ?_
                | refine Branch.and ?_
                | refine Branch.or ?_
                | refine Branch.dt (by assumption) ?_
                | refine Branch.df (by assumption) ?_
                | refine Branch.dt rfl ?_
                | refine Branch.dt (by omega) ?_
                | refine Branch.df (by omega) ?_
                | refine Branch.t rfl ?_
                | refine Branch.f rfl ?_
                | refine Branch.t (by assumption) ?_
                | refine Branch.f (by assumption) ?_
                | refine Branch.d (fun _ => ?_) (fun _ => ?_)
                | refine Branch.mk (fun _ => ?_) (fun _ => ?_)
                | refine Need.mk (by first | omega | decide | rfl) ?_
                | refine Idx.nat (by omega) ?_
                | refine Idx.auto (by first | omega | decide) (by first | omega | decide) ?_
                | refine Cell.ro rfl ?_
                | refine SDraw.all (by kernel_rfl) ?_
                | refine Kept.k0 ?_
                | refine Kept.k1 ?_
                | refine Kept.k2 ?_
                | refine Kept.k3 ?_
                | refine Kept.k4 ?_))
            refine SLoop.invA (I20c _ _ _ _ xco k n H3) (fun y => k - y) 0 (Keep.all ⟨by omega, by simp, .mk, rfl⟩) ?_
            rintro i S H4 ⟨hi, hnin, hS, rfl⟩ R3 hR3
            cases hS
            by_cases hlt3 : i < k
            · obtain ⟨y, hy, _, htake3⟩ := list_at (L := xco) (j := i) (by omega)
              obtain ⟨r4, o4, c4, b4, e14, hm4, hc4⟩ := hel.at1 hy rfl
              injection e14 with e14 _ _
              injection e14 with e14
              injection e14 with e5 e6
              subst e5; subst e6
              repeat' ((conv => whnf); (first
                  | refine SDraw.held (by kernel_rfl) [(r2, b2), (r2, b4)] (.same hm2 (.same hm4 .nil)) ?_
                  | refine Look.cell (.tail _ (.head _)) hc4 ?_
                  | refine Look.cell (.head _) hc2 ?_
                  | refine New.mk (fun _ => ?_)
                  | refine Look.at0 ?_
                  | refine Cell.row ?_
                  | refine Cell.buf ?_
                  | refine Cells.row rfl ?_
                  | refine Put.row rfl ?_
                  | refine Put.buf rfl ?_
                  | refine Look.at1 ?_
                  | refine Look.at2 ?_
                  | refine Look.at3 ?_
                  | refine Look.at4 ?_
                  | refine Look.at5 ?_
                  | refine Look.at6 ?_
                  | refine Look.at7 ?_
                  | refine Look.at8 ?_
                  | with_reducible refine Val.i64 (by omega) (by omega) ?_
                  | with_reducible refine Val.u8 (by omega) (by omega) ?_
                  | with_reducible refine Val.u32 (by omega) (by omega) ?_
                  | with_reducible refine Val.u64 (by omega) (by omega) ?_
                  | with_reducible refine Val.u8m ?_
                  | with_reducible refine Val.u32m ?_
                  | with_reducible refine Val.u64m ?_
                  | with_reducible refine Val.shr8 ?_
                  | with_reducible refine Val.shr16 (by decide) ?_
                  | with_reducible refine Val.shr24 (by decide) ?_
                  | with_reducible refine Val.raw ?_
                  | refine Branch.not ?_
                  | refine Branch.and ?_
                  | refine Branch.or ?_
                  | refine Branch.dt (by assumption) ?_
                  | refine Branch.df (by assumption) ?_
                  | refine Branch.dt rfl ?_
                  | refine Branch.dt (by omega) ?_
                  | refine Branch.df (by omega) ?_
                  | refine Branch.t rfl ?_
                  | refine Branch.f rfl ?_
                  | refine Branch.t (by assumption) ?_
                  | refine Branch.f (by assumption) ?_
                  | refine Branch.d (fun _ => ?_) (fun _ => ?_)
                  | refine Branch.mk (fun _ => ?_) (fun _ => ?_)
                  | refine Need.mk (by first | omega | decide | rfl) ?_
                  | refine Idx.nat (by omega) ?_
                  | refine Idx.auto (by first | omega | decide) (by first | omega | decide) ?_
                  | refine Cell.ro rfl ?_
                  | refine SDraw.all (by kernel_rfl) ?_
                  | refine Kept.k0 ?_
                  | refine Kept.k1 ?_
                  | refine Kept.k2 ?_
                  | refine Kept.k3 ?_
                  | refine Kept.k4 ?_))
              all_goals (conv => whnf)
              · rename_i he
                have hmem : n ∈ xco.take k := he ▸ List.mem_of_getElem? (by rw [List.getElem?_take, if_pos hlt3]; exact hy)
                rw [if_pos hmem] at hdup
                exact Keep.all (hdupK hbf hdup.symm)
              · refine hR3 (i + 1) _ _ (by omega) (Keep.all ⟨by omega, fun hx => ?_, .mk, rfl⟩)
                rw [htake3] at hx
                rcases List.mem_append.1 hx with hx | hx
                · exact hnin hx
                · exact absurd (List.mem_singleton.1 hx).symm (by assumption)
            · have e : i = k := by omega
              subst e
              repeat' ((conv => whnf); (first
                  | refine New.mk (fun _ => ?_)
                  | refine Look.at0 ?_
                  | refine Cell.row ?_
                  | refine Cell.buf ?_
                  | refine Cells.row rfl ?_
                  | refine Put.row rfl ?_
                  | refine Put.buf rfl ?_
                  | refine Look.at1 ?_
                  | refine Look.at2 ?_
                  | refine Look.at3 ?_
                  | refine Look.at4 ?_
                  | refine Look.at5 ?_
                  | refine Look.at6 ?_
                  | refine Look.at7 ?_
                  | refine Look.at8 ?_
                  | with_reducible refine Val.i64 (by omega) (by omega) ?_
                  | with_reducible refine Val.u8 (by omega) (by omega) ?_
                  | with_reducible refine Val.u32 (by omega) (by omega) ?_
                  | with_reducible refine Val.u64 (by omega) (by omega) ?_
                  | with_reducible refine Val.u8m ?_
                  | with_reducible refine Val.u32m ?_
                  | with_reducible refine Val.u64m ?_
                  | with_reducible refine Val.shr8 ?_
                  | with_reducible refine Val.shr16 (by decide) ?_
                  | with_reducible refine Val.shr24 (by decide) ?_
                  | with_reducible refine Val.raw ?_
                  | refine Branch.not ?_
                  | refine Branch.and ?_
                  | refine Branch.or ?_
                  | refine Branch.dt (by assumption) ?_
                  | refine Branch.df (by assumption) ?_
                  | refine Branch.dt rfl ?_
                  | refine Branch.dt (by omega) ?_
                  | refine Branch.df (by omega) ?_
                  | refine Branch.t rfl ?_
                  | refine Branch.f rfl ?_
                  | refine Branch.t (by assumption) ?_
                  | refine Branch.f (by assumption) ?_
                  | refine Branch.d (fun _ => ?_) (fun _ => ?_)
                  | refine Branch.mk (fun _ => ?_) (fun _ => ?_)
                  | refine Need.mk (by first | omega | decide | rfl) ?_
                  | refine Idx.nat (by omega) ?_
                  | refine Idx.auto (by first | omega | decide) (by first | omega | decide) ?_
                  | refine Cell.ro rfl ?_
                  | refine SDraw.all (by kernel_rfl) ?_
                  | refine Kept.k0 ?_
                  | refine Kept.k1 ?_
                  | refine Kept.k2 ?_
                  | refine Kept.k3 ?_
                  | refine Kept.k4 ?_))
              all_goals (conv => whnf)
              rw [if_neg hnin, ← htake2] at hdup
              exact hR2 (i + 1) _ _ (by omega) (Keep.all ⟨by omega, hdup, .mk, rfl⟩)
          · have e : k = xco.length := by omega
            subst e
            rw [List.drop_length, dupI] at hdup
            repeat' ((conv => whnf); (first
                | refine New.mk (fun _ => ?_)
                | refine Look.at0 ?_
                | refine Cell.row ?_
                | refine Cell.buf ?_
                | refine Cells.row rfl ?_
                | refine Put.row rfl ?_
                | refine Put.buf rfl ?_
                | refine Look.at1 ?_
                | refine Look.at2 ?_
                | refine Look.at3 ?_
                | refine Look.at4 ?_
                | refine Look.at5 ?_
                | refine Look.at6 ?_
                | refine Look.at7 ?_
                | refine Look.at8 ?_
                | with_reducible refine Val.i64 (by omega) (by omega) ?_
                | with_reducible refine Val.u8 (by omega) (by omega) ?_
                | with_reducible refine Val.u32 (by omega) (by omega) ?_
                | with_reducible refine Val.u64 (by omega) (by omega) ?_
                | with_reducible refine Val.u8m ?_
                | with_reducible refine Val.u32m ?_
                | with_reducible refine Val.u64m ?_
                | with_reducible refine Val.shr8 ?_
                | with_reducible refine Val.shr16 (by decide) ?_
                | with_reducible refine Val.shr24 (by decide) ?_
                | with_reducible refine Val.raw ?_
                | refine Branch.not ?_
                | refine Branch.and ?_
                | refine Branch.or ?_
                | refine Branch.dt (by assumption) ?_
                | refine Branch.df (by assumption) ?_
                | refine Branch.dt rfl ?_
                | refine Branch.dt (by omega) ?_
                | refine Branch.df (by omega) ?_
                | refine Branch.t rfl ?_
                | refine Branch.f rfl ?_
                | refine Branch.t (by assumption) ?_
                | refine Branch.f (by assumption) ?_
                | refine Branch.d (fun _ => ?_) (fun _ => ?_)
                | refine Branch.mk (fun _ => ?_) (fun _ => ?_)
                | refine Need.mk (by first | omega | decide | rfl) ?_
                | refine Idx.nat (by omega) ?_
                | refine Idx.auto (by first | omega | decide) (by first | omega | decide) ?_
                | refine Cell.ro rfl ?_
                | refine SDraw.all (by kernel_rfl) ?_
                | refine Kept.k0 ?_
                | refine Kept.k1 ?_
                | refine Kept.k2 ?_
                | refine Kept.k3 ?_
                | refine Kept.k4 ?_))
            all_goals (conv => whnf)
            exact hnext _ hbf hdup.symm .mk
      · have e : j = L.length := by omega
        subst e
        rw [List.drop_length, List.map_nil, goV] at hgo
        rw [← hgo] at h
        repeat' ((conv => whnf); (first
            | refine New.mk (fun _ => ?_)
            | refine Look.at0 ?_
            | refine Cell.row ?_
            | refine Cell.buf ?_
            | refine Cells.row rfl ?_
            | refine Put.row rfl ?_
            | refine Put.buf rfl ?_
            | refine Look.at1 ?_
            | refine Look.at2 ?_
            | refine Look.at3 ?_
            | refine Look.at4 ?_
            | refine Look.at5 ?_
            | refine Look.at6 ?_
            | refine Look.at7 ?_
            | refine Look.at8 ?_
            | with_reducible refine Val.i64 (by omega) (by omega) ?_
            | with_reducible refine Val.u8 (by omega) (by omega) ?_
            | with_reducible refine Val.u32 (by omega) (by omega) ?_
            | with_reducible refine Val.u64 (by omega) (by omega) ?_
            | with_reducible refine Val.u8m ?_
            | with_reducible refine Val.u32m ?_
            | with_reducible refine Val.u64m ?_
            | with_reducible refine Val.shr8 ?_
            | with_reducible refine Val.shr16 (by decide) ?_
            | with_reducible refine Val.shr24 (by decide) ?_
            | with_reducible refine Val.raw ?_
            | refine Branch.not ?_
            | refine Branch.and ?_
            | refine Branch.or ?_
            | refine Branch.dt (by assumption) ?_
            | refine Branch.df (by assumption) ?_
            | refine Branch.dt rfl ?_
            | refine Branch.dt (by omega) ?_
            | refine Branch.df (by omega) ?_
            | refine Branch.t rfl ?_
            | refine Branch.f rfl ?_
            | refine Branch.t (by assumption) ?_
            | refine Branch.f (by assumption) ?_
            | refine Branch.d (fun _ => ?_) (fun _ => ?_)
            | refine Branch.mk (fun _ => ?_) (fun _ => ?_)
            | refine Need.mk (by first | omega | decide | rfl) ?_
            | refine Idx.nat (by omega) ?_
            | refine Idx.auto (by first | omega | decide) (by first | omega | decide) ?_
            | refine Cell.ro rfl ?_
            | refine SDraw.all (by kernel_rfl) ?_
            | refine Kept.k0 ?_
            | refine Kept.k1 ?_
            | refine Kept.k2 ?_
            | refine Kept.k3 ?_
            | refine Kept.k4 ?_))
        all_goals (conv => whnf)
        exact Keep.all h
end
end Go.Proofs.Ytjnlpaojaikjaaa

/- Layer 26: the document's machine: what it is in memory; has, Write, Read, Fresh: by walks. -/
set_option linter.unusedVariables false
set_option linter.unusedSimpArgs false
set_option maxRecDepth 100000
set_option maxHeartbeats 4000000
namespace Go.Proofs.Ytjnlpaojaikjaaa
open Sx
structure Sg where
  (nd v x c : Int) (is : Bool)
abbrev Sg.cells (s : Sg) : List Value := [.int .i64 s.nd, .int .i64 s.v, .int .u64 s.x, .int .u64 s.c, .bool s.is]
structure Dc where
  there : List Bool
  own : List Int
  S : List Sg
  cyc : Int
abbrev cU (n : Int) : Value := .int .u64 n
abbrev rowD (gt nt ct : Nat) (sv : Value) (go : Nat) (no : Nat) (la : Option Addr) (ls lc : Nat) (cyc : Int) : Blk := .row 56 [.slice (some ⟨gt, 0, none⟩) nt ct, sv, .slice (some ⟨go, 0, none⟩) no no, .slice la ls lc, .int .u64 cyc] (0, 0)
/-- The document's machine D of the variables L, which lie in I. -/
structure Doc (gd : Nat) (sv : Value) (L : List VarI) (I : Heap) (D : Dc) (H : Heap) : Prop where
  ex : ∃ gt nt ct go la lc, (gd, rowD gt D.there.length ct sv go D.own.length la D.S.length lc D.cyc) ∈ H ∧ (gt, Blk.buf 4 (D.there.map Value.bool) nt) ∈ H ∧ (go, Blk.buf 35 (D.own.map cU) D.own.length) ∈ H ∧ (D.S = [] ∨ ∃ r N, la = some ⟨r, 0, none⟩ ∧ (r, Blk.buf 58 (D.S.flatMap Sg.cells) N) ∈ H)
  inp : InV sv I L
  sub : ∀ p ∈ I, kd p.2 = 5000 ∧ p ∈ H
  len : D.own.length = L.length
  big : D.S.length ≤ maxLen ∧ D.there.length ≤ maxLen
  pr : ∀ x ∈ L, 0 ≤ x.prod ∧ x.prod < (D.there.length : Int)
  sg : ∀ s ∈ D.S, 0 ≤ s.nd ∧ s.nd < (D.there.length : Int) ∧ 0 ≤ s.v ∧ s.v < (L.length : Int)
theorem Doc.in {gd : Nat} {sv : Value} {L : List VarI} {I : Heap} {D : Dc} {H : Heap} (h : Doc gd sv L I D H) : InV sv H L := h.inp.mono fun p hp => (h.sub p hp).2
theorem Doc.mono {gd : Nat} {sv : Value} {L : List VarI} {I : Heap} {D : Dc} {H H' : Heap} (h : Doc gd sv L I D H) (hs : ∀ p ∈ H, p ∈ H') : Doc gd sv L I D H' := by
  obtain ⟨⟨gt, nt, ct, go, la, lc, g1, g2, g3, g4⟩, h1, h2, h3, h4, h5, h6⟩ := h
  exact ⟨⟨gt, nt, ct, go, la, lc, hs _ g1, hs _ g2, hs _ g3, g4.imp id fun ⟨r, N, e, hm⟩ => ⟨r, N, e, hs _ hm⟩⟩, h1, fun p hp => ⟨(h2 p hp).1, hs _ (h2 p hp).2⟩, h3, h4, h5, h6⟩
abbrev prods (L : List VarI) : List Int := L.map VarI.prod
def Dc.write (D : Dc) (P : List Int) (nd v x : Int) : Int × Dc :=
  if 0 ≤ nd ∧ nd < (D.there.length : Int) ∧ 0 ≤ v ∧ v < (P.length : Int) then
    (if P[v.toNat]? = some nd then (if D.there[nd.toNat]? = some true then (0, { D with own := D.own.set v.toNat x }) else (6, D)) else (1, D))
  else (1, D)
def Dc.read (D : Dc) (n v : Int) : Sg := (D.S.find? fun s => decide (s.nd = n ∧ s.v = v)).getD ⟨0, 0, 0, 0, false⟩
def staleS (n cyc : Int) (s : Sg) : Bool := decide (s.nd = n) && (!s.is || !decide (s.c = cyc))
def Dc.fresh (D : Dc) (n : Int) : Bool := decide (0 ≤ n ∧ n < (D.there.length : Int)) && isTh D.there n && !D.S.any (staleS n D.cyc)
inductive S34 (A0 A1 A5 : Value) : List Value → Prop
  | mk {r2 r3 r4 r6 r7 r8 r9 r10 r11 r12 r13 r14 r15 r16 r17 : Value} : S34 A0 A1 A5 [A0, A1, r2, r3, r4, A5, r6, r7, r8, r9, r10, r11, r12, r13, r14, r15, r16, r17]
def I34 (sv : Value) (v : Int) (H : Heap) (xs : List Int) (j : Nat) (S : List Value) (H' : Heap) : Prop := j ≤ xs.length ∧ v ∉ xs.take j ∧ H' = H ∧ S34 sv (.int .i64 v) (.int .i64 (j : Int)) S
theorem flat_cell5 {L : List Sg} {j : Nat} {s : Sg} {N i : Nat} {u : Value} (hj : L[j]? = some s) (hi : s.cells[i]? = some u) : (Blk.buf 58 (L.flatMap Sg.cells) N).cell (0 + j * 5 + i) = some u := by
  show (L.flatMap Sg.cells)[0 + j * 5 + i]? = some u
  rw [Nat.zero_add]
  rw [flat_nth (f := Sg.cells) (k := 5) (fun _ => rfl) hj (List.getElem?_eq_some_iff.1 hi).1]; exact hi
section
variable {K : Value → Heap → Prop} {H I : Heap} {gd : Nat} {sv : Value} {L : List VarI} {D : Dc}
theorem c34 {xs : List Int} (hin : InS cI 1 sv H xs) (v : Int) (h : K (.bool (decide (v ∈ xs))) H) : SCalls Try.prog 34 [sv, .int .i64 v] H K := by
  obtain ⟨sa, sc, rfl, hml⟩ := hin.sv
  have hml' : xs.length ≤ 9223372036854775807 := by simp only [maxLen] at hml; omega
  refine enter34 ?_
  repeat' ((conv => whnf); (first
      | refine New.mk (fun _ => ?_)
      | refine Look.at0 ?_
      | refine Cell.row ?_
      | refine Cell.buf ?_
      | refine Cells.row rfl ?_
      | refine Put.row rfl ?_
      | refine Put.buf rfl ?_
      | refine Look.at1 ?_
      | refine Look.at2 ?_
      | refine Look.at3 ?_
      | refine Look.at4 ?_
      | refine Look.at5 ?_
      | refine Look.at6 ?_
      | refine Look.at7 ?_
      | refine Look.at8 ?_
      | with_reducible refine Val.i64 (by omega) (by omega) ?_
      | with_reducible refine Val.u8 (by omega) (by omega) ?_
      | with_reducible refine Val.u32 (by omega) (by omega) ?_
      | with_reducible refine Val.u64 (by omega) (by omega) ?_
      | with_reducible refine Val.u8m ?_
      | with_reducible refine Val.u32m ?_
      | with_reducible refine Val.u64m ?_
      | with_reducible refine Val.shr8 ?_
      | with_reducible refine Val.shr16 (by decide) ?_
      | with_reducible refine Val.shr24 (by decide) ?_
      | with_reducible refine Val.raw ?_
      | refine Branch.not ?_
      | refine Branch.and ?_
      | refine Branch.or ?_
      | refine Branch.dt (by assumption) ?_
      | refine Branch.df (by assumption) ?_
      | refine Branch.dt rfl ?_
      | refine Branch.dt (by omega) ?_
      | refine Branch.df (by omega) ?_
      | refine Branch.t rfl ?_
      | refine Branch.f rfl ?_
      | refine Branch.t (by assumption) ?_
      | refine Branch.f (by assumption) ?_
      | refine Branch.d (fun _ => ?_) (fun _ => ?_)
      | refine Branch.mk (fun _ => ?_) (fun _ => ?_)
      | refine Need.mk (by first | omega | decide | rfl) ?_
      | refine Idx.nat (by omega) ?_
      | refine Idx.auto (by first | omega | decide) (by first | omega | decide) ?_
      | refine Cell.ro rfl ?_
      | refine SDraw.all (by kernel_rfl) ?_
      | refine Kept.k0 ?_
      | refine Kept.k1 ?_
      | refine Kept.k2 ?_
      | refine Kept.k3 ?_
      | refine Kept.k4 ?_))
  refine SLoop.invA (I34 (.slice sa xs.length sc) v H xs) (fun j => xs.length - j) 0 (Keep.all ⟨by omega, by simp, rfl, .mk⟩) ?_
  rintro j S H' ⟨hj, hn, rfl, hS⟩ R hR
  cases hS
  by_cases hlt : j < xs.length
  · obtain ⟨x, hx, _, htake⟩ := list_at hlt
    obtain ⟨r, o, c, b, e1, hm, hc⟩ := hin.at1 hx rfl
    injection e1 with e1 _ e3
    subst e1
    repeat' ((conv => whnf); (first
        | refine Look.cell hm hc ?_
        | refine New.mk (fun _ => ?_)
        | refine Look.at0 ?_
        | refine Cell.row ?_
        | refine Cell.buf ?_
        | refine Cells.row rfl ?_
        | refine Put.row rfl ?_
        | refine Put.buf rfl ?_
        | refine Look.at1 ?_
        | refine Look.at2 ?_
        | refine Look.at3 ?_
        | refine Look.at4 ?_
        | refine Look.at5 ?_
        | refine Look.at6 ?_
        | refine Look.at7 ?_
        | refine Look.at8 ?_
        | with_reducible refine Val.i64 (by omega) (by omega) ?_
        | with_reducible refine Val.u8 (by omega) (by omega) ?_
        | with_reducible refine Val.u32 (by omega) (by omega) ?_
        | with_reducible refine Val.u64 (by omega) (by omega) ?_
        | with_reducible refine Val.u8m ?_
        | with_reducible refine Val.u32m ?_
        | with_reducible refine Val.u64m ?_
        | with_reducible refine Val.shr8 ?_
        | with_reducible refine Val.shr16 (by decide) ?_
        | with_reducible refine Val.shr24 (by decide) ?_
        | with_reducible refine Val.raw ?_
        | refine Branch.not ?_
        | refine Branch.and ?_
        | refine Branch.or ?_
        | refine Branch.dt (by assumption) ?_
        | refine Branch.df (by assumption) ?_
        | refine Branch.dt rfl ?_
        | refine Branch.dt (by omega) ?_
        | refine Branch.df (by omega) ?_
        | refine Branch.t rfl ?_
        | refine Branch.f rfl ?_
        | refine Branch.t (by assumption) ?_
        | refine Branch.f (by assumption) ?_
        | refine Branch.d (fun _ => ?_) (fun _ => ?_)
        | refine Branch.mk (fun _ => ?_) (fun _ => ?_)
        | refine Need.mk (by first | omega | decide | rfl) ?_
        | refine Idx.nat (by omega) ?_
        | refine Idx.auto (by first | omega | decide) (by first | omega | decide) ?_
        | refine Cell.ro rfl ?_
        | refine SDraw.all (by kernel_rfl) ?_
        | refine Kept.k0 ?_
        | refine Kept.k1 ?_
        | refine Kept.k2 ?_
        | refine Kept.k3 ?_
        | refine Kept.k4 ?_))
    all_goals (conv => whnf)
    · rename_i he
      rw [decide_eq_true (he ▸ List.mem_of_getElem? hx)] at h
      exact Keep.all h
    · refine hR (j + 1) _ _ (by omega) (Keep.all ⟨by omega, ?_, rfl, .mk⟩)
      rw [htake]
      intro hm3
      rcases List.mem_append.1 hm3 with hm3 | hm3
      · exact hn hm3
      · exact absurd (List.mem_singleton.1 hm3).symm (by assumption)
  · have e : j = xs.length := by omega
    subst e
    rw [List.take_length] at hn
    rw [decide_eq_false hn] at h
    repeat' ((conv => whnf); (first
        | refine New.mk (fun _ => ?_)
        | refine Look.at0 ?_
        | refine Cell.row ?_
        | refine Cell.buf ?_
        | refine Cells.row rfl ?_
        | refine Put.row rfl ?_
        | refine Put.buf rfl ?_
        | refine Look.at1 ?_
        | refine Look.at2 ?_
        | refine Look.at3 ?_
        | refine Look.at4 ?_
        | refine Look.at5 ?_
        | refine Look.at6 ?_
        | refine Look.at7 ?_
        | refine Look.at8 ?_
        | with_reducible refine Val.i64 (by omega) (by omega) ?_
        | with_reducible refine Val.u8 (by omega) (by omega) ?_
        | with_reducible refine Val.u32 (by omega) (by omega) ?_
        | with_reducible refine Val.u64 (by omega) (by omega) ?_
        | with_reducible refine Val.u8m ?_
        | with_reducible refine Val.u32m ?_
        | with_reducible refine Val.u64m ?_
        | with_reducible refine Val.shr8 ?_
        | with_reducible refine Val.shr16 (by decide) ?_
        | with_reducible refine Val.shr24 (by decide) ?_
        | with_reducible refine Val.raw ?_
        | refine Branch.not ?_
        | refine Branch.and ?_
        | refine Branch.or ?_
        | refine Branch.dt (by assumption) ?_
        | refine Branch.df (by assumption) ?_
        | refine Branch.dt rfl ?_
        | refine Branch.dt (by omega) ?_
        | refine Branch.df (by omega) ?_
        | refine Branch.t rfl ?_
        | refine Branch.f rfl ?_
        | refine Branch.t (by assumption) ?_
        | refine Branch.f (by assumption) ?_
        | refine Branch.d (fun _ => ?_) (fun _ => ?_)
        | refine Branch.mk (fun _ => ?_) (fun _ => ?_)
        | refine Need.mk (by first | omega | decide | rfl) ?_
        | refine Idx.nat (by omega) ?_
        | refine Idx.auto (by first | omega | decide) (by first | omega | decide) ?_
        | refine Cell.ro rfl ?_
        | refine SDraw.all (by kernel_rfl) ?_
        | refine Kept.k0 ?_
        | refine Kept.k1 ?_
        | refine Kept.k2 ?_
        | refine Kept.k3 ?_
        | refine Kept.k4 ?_))
    all_goals (conv => whnf)
    exact Keep.all h
theorem c26 (hD : Doc gd sv L I D H) (nd v x : Int) (h : ∀ H', Doc gd sv L I (D.write (prods L) nd v x).2 H' → K (.int .i64 (D.write (prods L) nd v x).1) H') : SCalls Try.prog 26 [ptr gd, .int .i64 nd, .int .i64 v, .int .u64 x] H K := by
  obtain ⟨sa, sc, rfl, hml⟩ := hD.inp.sl.sv
  have hml' : L.length ≤ 9223372036854775807 := by simp only [maxLen] at hml; omega
  have hin := hD.in
  obtain ⟨hbS, hbT⟩ := hD.big
  have hbT' : D.there.length ≤ 9223372036854775807 := by simp only [maxLen] at hbT; omega
  obtain ⟨gt, nt, ct, go, la, lc, g1, g2, g3, g4⟩ := hD.ex
  refine enter26 ?_
  have hbad : ¬ (0 ≤ nd ∧ nd < (D.there.length : Int) ∧ 0 ≤ v ∧ v < (L.length : Int)) → K (.int .i64 1) H := fun hn => by
    have e : D.write (prods L) nd v x = (1, D) := by unfold Dc.write; rw [List.length_map, if_neg hn]
    rw [e] at h; exact h H hD
  by_cases hr : 0 ≤ nd ∧ nd < (D.there.length : Int) ∧ 0 ≤ v ∧ v < (L.length : Int)
  · obtain ⟨hr1, hr2, hr3, hr4⟩ := hr
    have n1 : ¬ nd < 0 := by omega
    have n2 : ¬ (D.there.length : Int) ≤ nd := by omega
    have n3 : ¬ v < 0 := by omega
    have n4 : ¬ (L.length : Int) ≤ v := by omega
    obtain ⟨w, hw, _, _⟩ := list_at (L := L) (j := v.toNat) (by omega)
    obtain ⟨r, o, c, b, e1, hm, hc⟩ := inS_at hin.sl (fun _ => rfl) hw
    injection e1 with e1 _ e3
    subst e1
    have hc0 : b.cell (o + v.toNat * 2 + 0) = some (.int .i64 w.prod) := hc 0 _ rfl
    obtain ⟨t, ht, _, _⟩ := list_at (L := D.there) (j := nd.toNat) (by omega)
    have hct := bool_at (N := nt) ht
    have hP : (prods L)[v.toNat]? = some w.prod := by rw [List.getElem?_map, hw]; rfl
    have hwr : D.write (prods L) nd v x = if w.prod = nd then (if t = true then (0, { D with own := D.own.set v.toNat x }) else (6, D)) else (1, D) := by
      unfold Dc.write
      rw [List.length_map, if_pos ⟨hr1, hr2, hr3, hr4⟩, hP, ht]
      simp only [Option.some.injEq]
    rw [hwr] at h
    by_cases hpr : w.prod = nd
    · rw [if_pos hpr] at h
      cases t with
      | true =>
        rw [if_pos rfl] at h
        have hlen := hD.len
        repeat' ((conv => whnf); (first
            | refine Look.mem g1 (fun _ _ _ => ?_)
            | refine Idx.of v.toNat (by omega) (by omega) ?_
            | refine Idx.of nd.toNat (by omega) (by omega) ?_
            | refine Look.cell hm hc0 ?_
            | refine Look.cell g2 hct ?_
            | refine Look.put (.buf 35 ((D.own.set v.toNat x).map cU) D.own.length) g3 (PutOk.buf (by simp only [List.length_map, List.length_cons, List.length_nil]; omega) (by rw [put_set (by simp only [List.length_map]; omega), List.map_set])) (fun H' hp' => ?_)
            | refine New.mk (fun _ => ?_)
            | refine Look.at0 ?_
            | refine Cell.row ?_
            | refine Cell.buf ?_
            | refine Cells.row rfl ?_
            | refine Put.row rfl ?_
            | refine Put.buf rfl ?_
            | refine Look.at1 ?_
            | refine Look.at2 ?_
            | refine Look.at3 ?_
            | refine Look.at4 ?_
            | refine Look.at5 ?_
            | refine Look.at6 ?_
            | refine Look.at7 ?_
            | refine Look.at8 ?_
            | with_reducible refine Val.i64 (by omega) (by omega) ?_
            | with_reducible refine Val.u8 (by omega) (by omega) ?_
            | with_reducible refine Val.u32 (by omega) (by omega) ?_
            | with_reducible refine Val.u64 (by omega) (by omega) ?_
            | with_reducible refine Val.u8m ?_
            | with_reducible refine Val.u32m ?_
            | with_reducible refine Val.u64m ?_
            | with_reducible refine Val.shr8 ?_
            | with_reducible refine Val.shr16 (by decide) ?_
            | with_reducible refine Val.shr24 (by decide) ?_
            | with_reducible refine Val.raw ?_
            | refine Branch.not ?_
            | refine Branch.and ?_
            | refine Branch.or ?_
            | refine Branch.dt (by assumption) ?_
            | refine Branch.df (by assumption) ?_
            | refine Branch.dt rfl ?_
            | refine Branch.dt (by omega) ?_
            | refine Branch.df (by omega) ?_
            | refine Branch.t rfl ?_
            | refine Branch.f rfl ?_
            | refine Branch.t (by assumption) ?_
            | refine Branch.f (by assumption) ?_
            | refine Branch.d (fun _ => ?_) (fun _ => ?_)
            | refine Branch.mk (fun _ => ?_) (fun _ => ?_)
            | refine Need.mk (by first | omega | decide | rfl) ?_
            | refine Idx.nat (by omega) ?_
            | refine Idx.auto (by first | omega | decide) (by first | omega | decide) ?_
            | refine Cell.ro rfl ?_
            | refine SDraw.all (by kernel_rfl) ?_
            | refine Kept.k0 ?_
            | refine Kept.k1 ?_
            | refine Kept.k2 ?_
            | refine Kept.k3 ?_
            | refine Kept.k4 ?_))
        all_goals (conv => whnf)
        refine Keep.all (h _ ⟨⟨gt, nt, ct, go, la, lc, ?_, ?_, ?_, ?_⟩, hD.inp, fun p hp => ⟨(hD.sub p hp).1, hp'.blk (hD.sub p hp).2 (ne_kd (by rw [(hD.sub p hp).1]; show 5000 ≠ 1035; decide))⟩, by show (D.own.set _ _).length = _; rw [List.length_set]; exact hD.len, hD.big, hD.pr, hD.sg⟩)
        · show (gd, rowD gt D.there.length ct _ go (D.own.set _ _).length la D.S.length lc D.cyc) ∈ _
          rw [List.length_set]; exact hp'.blk g1 (ne_kd (by show 56 ≠ 1035; decide))
        · exact hp'.blk g2 (ne_kd (by show 1004 ≠ 1035; decide))
        · show (go, Blk.buf 35 ((D.own.set _ _).map cU) (D.own.set _ _).length) ∈ _
          rw [List.length_set]; exact hp'.new
        · exact g4.imp id fun ⟨r, N, e, hm⟩ => ⟨r, N, e, hp'.blk hm (ne_kd (by show 1058 ≠ 1035; decide))⟩
      | false =>
        rw [if_neg (by decide)] at h
        repeat' ((conv => whnf); (first
            | refine Look.mem g1 (fun _ _ _ => ?_)
            | refine Idx.of v.toNat (by omega) (by omega) ?_
            | refine Idx.of nd.toNat (by omega) (by omega) ?_
            | refine Look.cell hm hc0 ?_
            | refine Look.cell g2 hct ?_
            | refine New.mk (fun _ => ?_)
            | refine Look.at0 ?_
            | refine Cell.row ?_
            | refine Cell.buf ?_
            | refine Cells.row rfl ?_
            | refine Put.row rfl ?_
            | refine Put.buf rfl ?_
            | refine Look.at1 ?_
            | refine Look.at2 ?_
            | refine Look.at3 ?_
            | refine Look.at4 ?_
            | refine Look.at5 ?_
            | refine Look.at6 ?_
            | refine Look.at7 ?_
            | refine Look.at8 ?_
            | with_reducible refine Val.i64 (by omega) (by omega) ?_
            | with_reducible refine Val.u8 (by omega) (by omega) ?_
            | with_reducible refine Val.u32 (by omega) (by omega) ?_
            | with_reducible refine Val.u64 (by omega) (by omega) ?_
            | with_reducible refine Val.u8m ?_
            | with_reducible refine Val.u32m ?_
            | with_reducible refine Val.u64m ?_
            | with_reducible refine Val.shr8 ?_
            | with_reducible refine Val.shr16 (by decide) ?_
            | with_reducible refine Val.shr24 (by decide) ?_
            | with_reducible refine Val.raw ?_
            | refine Branch.not ?_
            | refine Branch.and ?_
            | refine Branch.or ?_
            | refine Branch.dt (by assumption) ?_
            | refine Branch.df (by assumption) ?_
            | refine Branch.dt rfl ?_
            | refine Branch.dt (by omega) ?_
            | refine Branch.df (by omega) ?_
            | refine Branch.t rfl ?_
            | refine Branch.f rfl ?_
            | refine Branch.t (by assumption) ?_
            | refine Branch.f (by assumption) ?_
            | refine Branch.d (fun _ => ?_) (fun _ => ?_)
            | refine Branch.mk (fun _ => ?_) (fun _ => ?_)
            | refine Need.mk (by first | omega | decide | rfl) ?_
            | refine Idx.nat (by omega) ?_
            | refine Idx.auto (by first | omega | decide) (by first | omega | decide) ?_
            | refine Cell.ro rfl ?_
            | refine SDraw.all (by kernel_rfl) ?_
            | refine Kept.k0 ?_
            | refine Kept.k1 ?_
            | refine Kept.k2 ?_
            | refine Kept.k3 ?_
            | refine Kept.k4 ?_))
        all_goals (conv => whnf)
        exact Keep.all (h _ hD)
    · rw [if_neg hpr] at h
      repeat' ((conv => whnf); (first
          | refine Look.mem g1 (fun _ _ _ => ?_)
          | refine Idx.of v.toNat (by omega) (by omega) ?_
          | refine Look.cell hm hc0 ?_
          | refine New.mk (fun _ => ?_)
          | refine Look.at0 ?_
          | refine Cell.row ?_
          | refine Cell.buf ?_
          | refine Cells.row rfl ?_
          | refine Put.row rfl ?_
          | refine Put.buf rfl ?_
          | refine Look.at1 ?_
          | refine Look.at2 ?_
          | refine Look.at3 ?_
          | refine Look.at4 ?_
          | refine Look.at5 ?_
          | refine Look.at6 ?_
          | refine Look.at7 ?_
          | refine Look.at8 ?_
          | with_reducible refine Val.i64 (by omega) (by omega) ?_
          | with_reducible refine Val.u8 (by omega) (by omega) ?_
          | with_reducible refine Val.u32 (by omega) (by omega) ?_
          | with_reducible refine Val.u64 (by omega) (by omega) ?_
          | with_reducible refine Val.u8m ?_
          | with_reducible refine Val.u32m ?_
          | with_reducible refine Val.u64m ?_
          | with_reducible refine Val.shr8 ?_
          | with_reducible refine Val.shr16 (by decide) ?_
          | with_reducible refine Val.shr24 (by decide) ?_
          | with_reducible refine Val.raw ?_
          | refine Branch.not ?_
          | refine Branch.and ?_
          | refine Branch.or ?_
          | refine Branch.dt (by assumption) ?_
          | refine Branch.df (by assumption) ?_
          | refine Branch.dt rfl ?_
          | refine Branch.dt (by omega) ?_
          | refine Branch.df (by omega) ?_
          | refine Branch.t rfl ?_
          | refine Branch.f rfl ?_
          | refine Branch.t (by assumption) ?_
          | refine Branch.f (by assumption) ?_
          | refine Branch.d (fun _ => ?_) (fun _ => ?_)
          | refine Branch.mk (fun _ => ?_) (fun _ => ?_)
          | refine Need.mk (by first | omega | decide | rfl) ?_
          | refine Idx.nat (by omega) ?_
          | refine Idx.auto (by first | omega | decide) (by first | omega | decide) ?_
          | refine Cell.ro rfl ?_
          | refine SDraw.all (by kernel_rfl) ?_
          | refine Kept.k0 ?_
          | refine Kept.k1 ?_
          | refine Kept.k2 ?_
          | refine Kept.k3 ?_
          | refine Kept.k4 ?_))
      all_goals (conv => whnf)
      exact Keep.all (h _ hD)
  · have hK := hbad hr
    clear hbad h
    repeat' ((conv => whnf); (first
        | refine Look.mem g1 (fun _ _ _ => ?_)
        | refine New.mk (fun _ => ?_)
        | refine Look.at0 ?_
        | refine Cell.row ?_
        | refine Cell.buf ?_
        | refine Cells.row rfl ?_
        | refine Put.row rfl ?_
        | refine Put.buf rfl ?_
        | refine Look.at1 ?_
        | refine Look.at2 ?_
        | refine Look.at3 ?_
        | refine Look.at4 ?_
        | refine Look.at5 ?_
        | refine Look.at6 ?_
        | refine Look.at7 ?_
        | refine Look.at8 ?_
        | with_reducible refine Val.i64 (by omega) (by omega) ?_
        | with_reducible refine Val.u8 (by omega) (by omega) ?_
        | with_reducible refine Val.u32 (by omega) (by omega) ?_
        | with_reducible refine Val.u64 (by omega) (by omega) ?_
        | with_reducible refine Val.u8m ?_
        | with_reducible refine Val.u32m ?_
        | with_reducible refine Val.u64m ?_
        | with_reducible refine Val.shr8 ?_
        | with_reducible refine Val.shr16 (by decide) ?_
        | with_reducible refine Val.shr24 (by decide) ?_
        | with_reducible refine Val.raw ?_
        | refine Branch.not ?_
        | refine Branch.and ?_
        | refine Branch.or ?_
        | refine Branch.dt (by assumption) ?_
        | refine Branch.df (by assumption) ?_
        | refine Branch.dt rfl ?_
        | refine Branch.dt (by omega) ?_
        | refine Branch.df (by omega) ?_
        | refine Branch.t rfl ?_
        | refine Branch.f rfl ?_
        | refine Branch.t (by assumption) ?_
        | refine Branch.f (by assumption) ?_
        | refine Branch.d (fun _ => ?_) (fun _ => ?_)
        | refine Branch.mk (fun _ => ?_) (fun _ => ?_)
        | refine Need.mk (by first | omega | decide | rfl) ?_
        | refine Idx.nat (by omega) ?_
        | refine Idx.auto (by first | omega | decide) (by first | omega | decide) ?_
        | refine Cell.ro rfl ?_
        | refine SDraw.all (by kernel_rfl) ?_
        | refine Kept.k0 ?_
        | refine Kept.k1 ?_
        | refine Kept.k2 ?_
        | refine Kept.k3 ?_
        | refine Kept.k4 ?_))
    all_goals (conv => whnf)
    all_goals first
      | exact Keep.all hK
      | omega
      | skip
    all_goals trace_state
end
end Go.Proofs.Ytjnlpaojaikjaaa

/- Layer 26: the document's Read and Fresh: by walks. -/
set_option linter.unusedVariables false
set_option linter.unusedSimpArgs false
set_option maxRecDepth 100000
set_option maxHeartbeats 4000000
namespace Go.Proofs.Ytjnlpaojaikjaaa
open Sx
theorem find_take {α : Type} {p : α → Bool} : ∀ {L : List α} {j : Nat} {x : α}, L[j]? = some x → p x = true → (∀ y ∈ L.take j, p y = false) → L.find? p = some x
  | [], j, x, h, _, _ => by simp at h
  | y :: L, 0, x, h, hx, _ => by
    rw [List.getElem?_cons_zero] at h; injection h with h; subst h
    rw [List.find?_cons_of_pos hx]
  | y :: L, j + 1, x, h, hx, hn => by
    rw [List.getElem?_cons_succ] at h
    rw [List.find?_cons_of_neg (by rw [hn y (by simp)]; decide)]
    exact find_take h hx fun z hz => hn z (by rw [List.take_succ_cons]; exact .tail _ hz)
theorem any_take {α : Type} {p : α → Bool} {L : List α} (h : ∀ y ∈ L, p y = false) : L.any p = false := by
  rw [List.any_eq_false]; exact fun x hx => by rw [h x hx]; decide
inductive S35 (A0 A1 A2 A6 A7 : Value) : List Value → Prop
  | mk {r3 r4 r5 r8 r9 r10 r11 r12 r13 r14 r15 r16 r17 r18 r19 r20 r21 r22 r23 r24 r25 r26 r27 r28 r29 r30 r31 r32 r33 r34 r35 r36 r37 r38 r39 r40 r41 r42 r43 r44 r45 r46 : Value} : S35 A0 A1 A2 A6 A7 [A0, A1, A2, r3, r4, r5, A6, A7, r8, r9, r10, r11, r12, r13, r14, r15, r16, r17, r18, r19, r20, r21, r22, r23, r24, r25, r26, r27, r28, r29, r30, r31, r32, r33, r34, r35, r36, r37, r38, r39, r40, r41, r42, r43, r44, r45, r46]
def I35 (gd : Nat) (n v : Int) (p : Nat) (L : List Sg) (H : Heap) (j : Nat) (S : List Value) (H' : Heap) : Prop :=
  j ≤ L.length ∧ (∀ s ∈ L.take j, decide (s.nd = n ∧ s.v = v) = false) ∧ S35 (ptr gd) (.int .i64 n) (.int .i64 v) (ptr p) (.int .i64 (j : Int)) S ∧ H' = (p, .row 58 [.int .i64 0, .int .i64 0, .int .u64 0, .int .u64 0, .bool false] (0, 0)) :: H
inductive S36 (A0 A1 A5 : Value) : List Value → Prop
  | mk {r2 r3 r4 r6 r7 r8 r9 r10 r11 r12 r13 r14 r15 r16 r17 r18 r19 r20 r21 r22 r23 r24 r25 r26 r27 r28 r29 r30 r31 r32 r33 r34 r35 r36 r37 r38 r39 r40 r41 r42 r43 r44 r45 r46 r47 r48 r49 r50 r51 r52 r53 r54 r55 r56 r57 r58 r59 r60 r61 r62 r63 r64 r65 r66 r67 r68 r69 r70 r71 : Value} : S36 A0 A1 A5 [A0, A1, r2, r3, r4, A5, r6, r7, r8, r9, r10, r11, r12, r13, r14, r15, r16, r17, r18, r19, r20, r21, r22, r23, r24, r25, r26, r27, r28, r29, r30, r31, r32, r33, r34, r35, r36, r37, r38, r39, r40, r41, r42, r43, r44, r45, r46, r47, r48, r49, r50, r51, r52, r53, r54, r55, r56, r57, r58, r59, r60, r61, r62, r63, r64, r65, r66, r67, r68, r69, r70, r71]
def I36 (gd : Nat) (n cyc : Int) (L : List Sg) (H : Heap) (j : Nat) (S : List Value) (H' : Heap) : Prop :=
  j ≤ L.length ∧ (∀ s ∈ L.take j, staleS n cyc s = false) ∧ S36 (ptr gd) (.int .i64 n) (.int .i64 (j : Int)) S ∧ H' = H
section
variable {K : Value → Heap → Prop} {H I : Heap} {gd : Nat} {sv : Value} {L : List VarI} {D : Dc}
theorem c35 (hD : Doc gd sv L I D H) (n v : Int) (h : K (.agg ⟨(D.read n v).cells⟩) H) : SCalls Try.prog 35 [ptr gd, .int .i64 n, .int .i64 v] H K := by
  obtain ⟨sa, sc, rfl, hml⟩ := hD.inp.sl.sv
  obtain ⟨hbS, hbT⟩ := hD.big
  have hbS' : D.S.length ≤ 9223372036854775807 := by simp only [maxLen] at hbS; omega
  obtain ⟨gt, nt, ct, go, la, lc, g1, g2, g3, g4⟩ := hD.ex
  refine enter35 ?_
  repeat' ((conv => whnf); (first
      | refine New.mk (fun _ => ?_)
      | refine Look.at0 ?_
      | refine Cell.row ?_
      | refine Cell.buf ?_
      | refine Cells.row rfl ?_
      | refine Put.row rfl ?_
      | refine Put.buf rfl ?_
      | refine Look.at1 ?_
      | refine Look.at2 ?_
      | refine Look.at3 ?_
      | refine Look.at4 ?_
      | refine Look.at5 ?_
      | refine Look.at6 ?_
      | refine Look.at7 ?_
      | refine Look.at8 ?_
      | with_reducible refine Val.i64 (by omega) (by omega) ?_
      | with_reducible refine Val.u8 (by omega) (by omega) ?_
      | with_reducible refine Val.u32 (by omega) (by omega) ?_
      | with_reducible refine Val.u64 (by omega) (by omega) ?_
      | with_reducible refine Val.u8m ?_
      | with_reducible refine Val.u32m ?_
      | with_reducible refine Val.u64m ?_
      | with_reducible refine Val.shr8 ?_
      | with_reducible refine Val.shr16 (by decide) ?_
      | with_reducible refine Val.shr24 (by decide) ?_
      | with_reducible refine Val.raw ?_
      | refine Branch.not ?_
      | refine Branch.and ?_
      | refine Branch.or ?_
      | refine Branch.dt (by assumption) ?_
      | refine Branch.df (by assumption) ?_
      | refine Branch.dt rfl ?_
      | refine Branch.dt (by omega) ?_
      | refine Branch.df (by omega) ?_
      | refine Branch.t rfl ?_
      | refine Branch.f rfl ?_
      | refine Branch.t (by assumption) ?_
      | refine Branch.f (by assumption) ?_
      | refine Branch.d (fun _ => ?_) (fun _ => ?_)
      | refine Branch.mk (fun _ => ?_) (fun _ => ?_)
      | refine Need.mk (by first | omega | decide | rfl) ?_
      | refine Idx.nat (by omega) ?_
      | refine Idx.auto (by first | omega | decide) (by first | omega | decide) ?_
      | refine Cell.ro rfl ?_
      | refine SDraw.all (by kernel_rfl) ?_
      | refine Kept.k0 ?_
      | refine Kept.k1 ?_
      | refine Kept.k2 ?_
      | refine Kept.k3 ?_
      | refine Kept.k4 ?_))
  rename_i p
  refine SLoop.invA (I35 gd n v p D.S H) (fun j => D.S.length - j) 0 (Keep.all ⟨by omega, by simp, .mk, rfl⟩) ?_
  rintro j S H' ⟨hj, hn, hS, rfl⟩ R hR
  cases hS
  by_cases hlt : j < D.S.length
  · obtain ⟨s, hs, _, htake⟩ := list_at hlt
    obtain ⟨r, N, rfl, hm⟩ := g4.resolve_left (fun e => by rw [e] at hlt; simp at hlt)
    have hc0 : (Blk.buf 58 (D.S.flatMap Sg.cells) N).cell (0 + j * 5 + 0) = some (.int .i64 s.nd) := flat_cell5 hs rfl
    have hc1 : (Blk.buf 58 (D.S.flatMap Sg.cells) N).cell (0 + j * 5 + 1) = some (.int .i64 s.v) := flat_cell5 hs rfl
    have hcs : ∀ i v, s.cells[i]? = some v → (Blk.buf 58 (D.S.flatMap Sg.cells) N).cell (0 + j * 5 + i) = some v := fun i v hi => flat_cell5 hs hi
    by_cases hf : s.nd = n ∧ s.v = v
    · have e : D.read n v = s := by unfold Dc.read; rw [find_take hs (by rw [decide_eq_true hf]) hn]; rfl
      rw [e] at h
      obtain ⟨rfl, rfl⟩ := hf
      repeat' ((conv => whnf); (first
          | refine Look.mem (.tail _ g1) (fun _ _ _ => ?_)
          | refine Look.cell (.tail _ hm) hc0 ?_
          | refine Look.cell (.tail _ hm) hc1 ?_
          | refine Look.cells (.tail _ hm) rfl hcs ?_
          | refine New.mk (fun _ => ?_)
          | refine Look.at0 ?_
          | refine Cell.row ?_
          | refine Cell.buf ?_
          | refine Cells.row rfl ?_
          | refine Put.row rfl ?_
          | refine Put.buf rfl ?_
          | refine Look.at1 ?_
          | refine Look.at2 ?_
          | refine Look.at3 ?_
          | refine Look.at4 ?_
          | refine Look.at5 ?_
          | refine Look.at6 ?_
          | refine Look.at7 ?_
          | refine Look.at8 ?_
          | with_reducible refine Val.i64 (by omega) (by omega) ?_
          | with_reducible refine Val.u8 (by omega) (by omega) ?_
          | with_reducible refine Val.u32 (by omega) (by omega) ?_
          | with_reducible refine Val.u64 (by omega) (by omega) ?_
          | with_reducible refine Val.u8m ?_
          | with_reducible refine Val.u32m ?_
          | with_reducible refine Val.u64m ?_
          | with_reducible refine Val.shr8 ?_
          | with_reducible refine Val.shr16 (by decide) ?_
          | with_reducible refine Val.shr24 (by decide) ?_
          | with_reducible refine Val.raw ?_
          | refine Branch.not ?_
          | refine Branch.and ?_
          | refine Branch.or ?_
          | refine Branch.dt (by assumption) ?_
          | refine Branch.df (by assumption) ?_
          | refine Branch.dt rfl ?_
          | refine Branch.dt (by omega) ?_
          | refine Branch.df (by omega) ?_
          | refine Branch.t rfl ?_
          | refine Branch.f rfl ?_
          | refine Branch.t (by assumption) ?_
          | refine Branch.f (by assumption) ?_
          | refine Branch.d (fun _ => ?_) (fun _ => ?_)
          | refine Branch.mk (fun _ => ?_) (fun _ => ?_)
          | refine Need.mk (by first | omega | decide | rfl) ?_
          | refine Idx.nat (by omega) ?_
          | refine Idx.auto (by first | omega | decide) (by first | omega | decide) ?_
          | refine Cell.ro rfl ?_
          | refine SDraw.all (by kernel_rfl) ?_
          | refine Kept.k0 ?_
          | refine Kept.k1 ?_
          | refine Kept.k2 ?_
          | refine Kept.k3 ?_
          | refine Kept.k4 ?_))
      all_goals (conv => whnf)
      exact Keep.d1 h
    · have next : ∀ S, S35 (ptr gd) (.int .i64 n) (.int .i64 v) (ptr p) (.int .i64 ((j + 1 : Nat) : Int)) S → R S ((p, .row 58 [.int .i64 0, .int .i64 0, .int .u64 0, .int .u64 0, .bool false] (0, 0)) :: H) := fun S hS => by
        refine hR (j + 1) _ _ (by omega) (Keep.all ⟨by omega, fun x hx => ?_, hS, rfl⟩)
        rw [htake] at hx
        rcases List.mem_append.1 hx with hx | hx
        · exact hn x hx
        · obtain rfl := List.mem_singleton.1 hx; exact decide_eq_false hf
      clear hR
      repeat' ((conv => whnf); (first
          | refine Look.mem (.tail _ g1) (fun _ _ _ => ?_)
          | refine Look.cell (.tail _ hm) hc0 ?_
          | refine Look.cell (.tail _ hm) hc1 ?_
          | refine Look.cells (.tail _ hm) rfl hcs ?_
          | refine New.mk (fun _ => ?_)
          | refine Look.at0 ?_
          | refine Cell.row ?_
          | refine Cell.buf ?_
          | refine Cells.row rfl ?_
          | refine Put.row rfl ?_
          | refine Put.buf rfl ?_
          | refine Look.at1 ?_
          | refine Look.at2 ?_
          | refine Look.at3 ?_
          | refine Look.at4 ?_
          | refine Look.at5 ?_
          | refine Look.at6 ?_
          | refine Look.at7 ?_
          | refine Look.at8 ?_
          | with_reducible refine Val.i64 (by omega) (by omega) ?_
          | with_reducible refine Val.u8 (by omega) (by omega) ?_
          | with_reducible refine Val.u32 (by omega) (by omega) ?_
          | with_reducible refine Val.u64 (by omega) (by omega) ?_
          | with_reducible refine Val.u8m ?_
          | with_reducible refine Val.u32m ?_
          | with_reducible refine Val.u64m ?_
          | with_reducible refine Val.shr8 ?_
          | with_reducible refine Val.shr16 (by decide) ?_
          | with_reducible refine Val.shr24 (by decide) ?_
          | with_reducible refine Val.raw ?_
          | refine Branch.not ?_
          | refine Branch.and ?_
          | refine Branch.or ?_
          | refine Branch.dt (by assumption) ?_
          | refine Branch.df (by assumption) ?_
          | refine Branch.dt rfl ?_
          | refine Branch.dt (by omega) ?_
          | refine Branch.df (by omega) ?_
          | refine Branch.t rfl ?_
          | refine Branch.f rfl ?_
          | refine Branch.t (by assumption) ?_
          | refine Branch.f (by assumption) ?_
          | refine Branch.d (fun _ => ?_) (fun _ => ?_)
          | refine Branch.mk (fun _ => ?_) (fun _ => ?_)
          | refine Need.mk (by first | omega | decide | rfl) ?_
          | refine Idx.nat (by omega) ?_
          | refine Idx.auto (by first | omega | decide) (by first | omega | decide) ?_
          | refine Cell.ro rfl ?_
          | refine SDraw.all (by kernel_rfl) ?_
          | refine Kept.k0 ?_
          | refine Kept.k1 ?_
          | refine Kept.k2 ?_
          | refine Kept.k3 ?_
          | refine Kept.k4 ?_))
      all_goals (conv => whnf)
      all_goals first
        | exact next _ .mk
        | exact absurd ⟨by assumption, by assumption⟩ hf
  · have e : j = D.S.length := by omega
    subst e
    rw [List.take_length] at hn
    have e : D.read n v = ⟨0, 0, 0, 0, false⟩ := by unfold Dc.read; rw [List.find?_eq_none.2 (fun x hx => by rw [hn x hx]; decide)]; rfl
    rw [e] at h
    repeat' ((conv => whnf); (first
        | refine Look.mem (.tail _ g1) (fun _ _ _ => ?_)
        | refine New.mk (fun _ => ?_)
        | refine Look.at0 ?_
        | refine Cell.row ?_
        | refine Cell.buf ?_
        | refine Cells.row rfl ?_
        | refine Put.row rfl ?_
        | refine Put.buf rfl ?_
        | refine Look.at1 ?_
        | refine Look.at2 ?_
        | refine Look.at3 ?_
        | refine Look.at4 ?_
        | refine Look.at5 ?_
        | refine Look.at6 ?_
        | refine Look.at7 ?_
        | refine Look.at8 ?_
        | with_reducible refine Val.i64 (by omega) (by omega) ?_
        | with_reducible refine Val.u8 (by omega) (by omega) ?_
        | with_reducible refine Val.u32 (by omega) (by omega) ?_
        | with_reducible refine Val.u64 (by omega) (by omega) ?_
        | with_reducible refine Val.u8m ?_
        | with_reducible refine Val.u32m ?_
        | with_reducible refine Val.u64m ?_
        | with_reducible refine Val.shr8 ?_
        | with_reducible refine Val.shr16 (by decide) ?_
        | with_reducible refine Val.shr24 (by decide) ?_
        | with_reducible refine Val.raw ?_
        | refine Branch.not ?_
        | refine Branch.and ?_
        | refine Branch.or ?_
        | refine Branch.dt (by assumption) ?_
        | refine Branch.df (by assumption) ?_
        | refine Branch.dt rfl ?_
        | refine Branch.dt (by omega) ?_
        | refine Branch.df (by omega) ?_
        | refine Branch.t rfl ?_
        | refine Branch.f rfl ?_
        | refine Branch.t (by assumption) ?_
        | refine Branch.f (by assumption) ?_
        | refine Branch.d (fun _ => ?_) (fun _ => ?_)
        | refine Branch.mk (fun _ => ?_) (fun _ => ?_)
        | refine Need.mk (by first | omega | decide | rfl) ?_
        | refine Idx.nat (by omega) ?_
        | refine Idx.auto (by first | omega | decide) (by first | omega | decide) ?_
        | refine Cell.ro rfl ?_
        | refine SDraw.all (by kernel_rfl) ?_
        | refine Kept.k0 ?_
        | refine Kept.k1 ?_
        | refine Kept.k2 ?_
        | refine Kept.k3 ?_
        | refine Kept.k4 ?_))
    all_goals (conv => whnf)
    exact Keep.d1 h
theorem c36 (hD : Doc gd sv L I D H) (n : Int) (h : K (.bool (D.fresh n)) H) : SCalls Try.prog 36 [ptr gd, .int .i64 n] H K := by
  obtain ⟨sa, sc, rfl, hml⟩ := hD.inp.sl.sv
  obtain ⟨hbS, hbT⟩ := hD.big
  have hbS' : D.S.length ≤ 9223372036854775807 := by simp only [maxLen] at hbS; omega
  have hbT' : D.there.length ≤ 9223372036854775807 := by simp only [maxLen] at hbT; omega
  obtain ⟨gt, nt, ct, go, la, lc, g1, g2, g3, g4⟩ := hD.ex
  refine enter36 ?_
  by_cases hr : 0 ≤ n ∧ n < (D.there.length : Int)
  · obtain ⟨t, ht, _, _⟩ := list_at (L := D.there) (j := n.toNat) (by omega)
    have hct := bool_at (N := nt) ht
    have n1 : ¬ n < 0 := by omega
    have n2 : ¬ (D.there.length : Int) ≤ n := by omega
    have hth : isTh D.there n = t := by unfold isTh; rw [ht]; rfl
    cases t with
    | true =>
      have e : D.fresh n = !D.S.any (staleS n D.cyc) := by unfold Dc.fresh; rw [decide_eq_true hr, hth]; rfl
      rw [e] at h
      repeat' ((conv => whnf); (first
          | refine Look.mem g1 (fun _ _ _ => ?_)
          | refine Idx.of n.toNat (by omega) (by omega) ?_
          | refine Look.cell g2 hct ?_
          | refine New.mk (fun _ => ?_)
          | refine Look.at0 ?_
          | refine Cell.row ?_
          | refine Cell.buf ?_
          | refine Cells.row rfl ?_
          | refine Put.row rfl ?_
          | refine Put.buf rfl ?_
          | refine Look.at1 ?_
          | refine Look.at2 ?_
          | refine Look.at3 ?_
          | refine Look.at4 ?_
          | refine Look.at5 ?_
          | refine Look.at6 ?_
          | refine Look.at7 ?_
          | refine Look.at8 ?_
          | with_reducible refine Val.i64 (by omega) (by omega) ?_
          | with_reducible refine Val.u8 (by omega) (by omega) ?_
          | with_reducible refine Val.u32 (by omega) (by omega) ?_
          | with_reducible refine Val.u64 (by omega) (by omega) ?_
          | with_reducible refine Val.u8m ?_
          | with_reducible refine Val.u32m ?_
          | with_reducible refine Val.u64m ?_
          | with_reducible refine Val.shr8 ?_
          | with_reducible refine Val.shr16 (by decide) ?_
          | with_reducible refine Val.shr24 (by decide) ?_
          | with_reducible refine Val.raw ?_
          | refine Branch.not ?_
          | refine Branch.and ?_
          | refine Branch.or ?_
          | refine Branch.dt (by assumption) ?_
          | refine Branch.df (by assumption) ?_
          | refine Branch.dt rfl ?_
          | refine Branch.dt (by omega) ?_
          | refine Branch.df (by omega) ?_
          | refine Branch.t rfl ?_
          | refine Branch.f rfl ?_
          | refine Branch.t (by assumption) ?_
          | refine Branch.f (by assumption) ?_
          | refine Branch.d (fun _ => ?_) (fun _ => ?_)
          | refine Branch.mk (fun _ => ?_) (fun _ => ?_)
          | refine Need.mk (by first | omega | decide | rfl) ?_
          | refine Idx.nat (by omega) ?_
          | refine Idx.auto (by first | omega | decide) (by first | omega | decide) ?_
          | refine Cell.ro rfl ?_
          | refine SDraw.all (by kernel_rfl) ?_
          | refine Kept.k0 ?_
          | refine Kept.k1 ?_
          | refine Kept.k2 ?_
          | refine Kept.k3 ?_
          | refine Kept.k4 ?_))
      refine SLoop.invA (I36 gd n D.cyc D.S H) (fun j => D.S.length - j) 0 (Keep.all ⟨by omega, by simp, .mk, rfl⟩) ?_
      rintro j S H' ⟨hj, hn, hS, rfl⟩ R hR
      cases hS
      by_cases hlt : j < D.S.length
      · obtain ⟨s, hs, _, htake⟩ := list_at hlt
        obtain ⟨r, N, rfl, hm⟩ := g4.resolve_left (fun e => by rw [e] at hlt; simp at hlt)
        have hc0 : (Blk.buf 58 (D.S.flatMap Sg.cells) N).cell (0 + j * 5 + 0) = some (.int .i64 s.nd) := flat_cell5 hs rfl
        have hc3 : (Blk.buf 58 (D.S.flatMap Sg.cells) N).cell (0 + j * 5 + 3) = some (.int .u64 s.c) := flat_cell5 hs rfl
        have hc4 : (Blk.buf 58 (D.S.flatMap Sg.cells) N).cell (0 + j * 5 + 4) = some (.bool s.is) := flat_cell5 hs rfl
        have next : ∀ S, staleS n D.cyc s = false → S36 (ptr gd) (.int .i64 n) (.int .i64 ((j + 1 : Nat) : Int)) S → R S H' := fun S h1 hS => by
          refine hR (j + 1) _ _ (by omega) (Keep.all ⟨by omega, fun x hx => ?_, hS, rfl⟩)
          rw [htake] at hx
          rcases List.mem_append.1 hx with hx | hx
          · exact hn x hx
          · obtain rfl := List.mem_singleton.1 hx; exact h1
        have stop : staleS n D.cyc s = true → K (.bool false) H' := fun h1 => by
          rw [List.any_eq_true.2 ⟨s, List.mem_of_getElem? hs, h1⟩] at h; exact h
        clear hR h e hn
        have hsub := (r, Blk.buf 58 (D.S.flatMap Sg.cells) N)
        obtain ⟨snd, sv', sx, scc, sis⟩ := s
        dsimp only at hc0 hc3 hc4
        unfold staleS at next stop
        dsimp only at next stop
        by_cases e1 : snd = n
        · rw [decide_eq_true e1, Bool.true_and] at next stop
          cases sis with
          | true =>
            rw [Bool.not_true, Bool.false_or] at next stop
            by_cases e2 : scc = D.cyc
            · rw [decide_eq_true e2] at next stop
              repeat' ((conv => whnf); (first
                  | refine Look.mem g1 (fun _ _ _ => ?_)
                  | refine SDraw.held (by kernel_rfl) [(gd, _), (r, Blk.buf 58 (D.S.flatMap Sg.cells) N)] (.same g1 (.same hm .nil)) ?_
                  | refine Look.mem (.head _) (fun _ _ _ => ?_)
                  | refine Look.cell (.tail _ (.head _)) hc0 ?_
                  | refine Look.cell (.tail _ (.head _)) hc3 ?_
                  | refine Look.cell (.tail _ (.head _)) hc4 ?_
                  | refine New.mk (fun _ => ?_)
                  | refine Look.at0 ?_
                  | refine Cell.row ?_
                  | refine Cell.buf ?_
                  | refine Cells.row rfl ?_
                  | refine Put.row rfl ?_
                  | refine Put.buf rfl ?_
                  | refine Look.at1 ?_
                  | refine Look.at2 ?_
                  | refine Look.at3 ?_
                  | refine Look.at4 ?_
                  | refine Look.at5 ?_
                  | refine Look.at6 ?_
                  | refine Look.at7 ?_
                  | refine Look.at8 ?_
                  | with_reducible refine Val.i64 (by omega) (by omega) ?_
                  | with_reducible refine Val.u8 (by omega) (by omega) ?_
                  | with_reducible refine Val.u32 (by omega) (by omega) ?_
                  | with_reducible refine Val.u64 (by omega) (by omega) ?_
                  | with_reducible refine Val.u8m ?_
                  | with_reducible refine Val.u32m ?_
                  | with_reducible refine Val.u64m ?_
                  | with_reducible refine Val.shr8 ?_
                  | with_reducible refine Val.shr16 (by decide) ?_
                  | with_reducible refine Val.shr24 (by decide) ?_
                  | with_reducible refine Val.raw ?_
                  | refine Branch.not ?_
                  | refine Branch.and ?_
                  | refine Branch.or ?_
                  | refine Branch.dt (by assumption) ?_
                  | refine Branch.df (by assumption) ?_
                  | refine Branch.dt rfl ?_
                  | refine Branch.dt (by omega) ?_
                  | refine Branch.df (by omega) ?_
                  | refine Branch.t rfl ?_
                  | refine Branch.f rfl ?_
                  | refine Branch.t (by assumption) ?_
                  | refine Branch.f (by assumption) ?_
                  | refine Branch.d (fun _ => ?_) (fun _ => ?_)
                  | refine Branch.mk (fun _ => ?_) (fun _ => ?_)
                  | refine Need.mk (by first | omega | decide | rfl) ?_
                  | refine Idx.nat (by omega) ?_
                  | refine Idx.auto (by first | omega | decide) (by first | omega | decide) ?_
                  | refine Cell.ro rfl ?_
                  | refine SDraw.all (by kernel_rfl) ?_
                  | refine Kept.k0 ?_
                  | refine Kept.k1 ?_
                  | refine Kept.k2 ?_
                  | refine Kept.k3 ?_
                  | refine Kept.k4 ?_))
              all_goals (conv => whnf)
              exact next _ rfl .mk
            · rw [decide_eq_false e2] at next stop
              repeat' ((conv => whnf); (first
                  | refine Look.mem g1 (fun _ _ _ => ?_)
                  | refine SDraw.held (by kernel_rfl) [(gd, _), (r, Blk.buf 58 (D.S.flatMap Sg.cells) N)] (.same g1 (.same hm .nil)) ?_
                  | refine Look.mem (.head _) (fun _ _ _ => ?_)
                  | refine Look.cell (.tail _ (.head _)) hc0 ?_
                  | refine Look.cell (.tail _ (.head _)) hc3 ?_
                  | refine Look.cell (.tail _ (.head _)) hc4 ?_
                  | refine New.mk (fun _ => ?_)
                  | refine Look.at0 ?_
                  | refine Cell.row ?_
                  | refine Cell.buf ?_
                  | refine Cells.row rfl ?_
                  | refine Put.row rfl ?_
                  | refine Put.buf rfl ?_
                  | refine Look.at1 ?_
                  | refine Look.at2 ?_
                  | refine Look.at3 ?_
                  | refine Look.at4 ?_
                  | refine Look.at5 ?_
                  | refine Look.at6 ?_
                  | refine Look.at7 ?_
                  | refine Look.at8 ?_
                  | with_reducible refine Val.i64 (by omega) (by omega) ?_
                  | with_reducible refine Val.u8 (by omega) (by omega) ?_
                  | with_reducible refine Val.u32 (by omega) (by omega) ?_
                  | with_reducible refine Val.u64 (by omega) (by omega) ?_
                  | with_reducible refine Val.u8m ?_
                  | with_reducible refine Val.u32m ?_
                  | with_reducible refine Val.u64m ?_
                  | with_reducible refine Val.shr8 ?_
                  | with_reducible refine Val.shr16 (by decide) ?_
                  | with_reducible refine Val.shr24 (by decide) ?_
                  | with_reducible refine Val.raw ?_
                  | refine Branch.not ?_
                  | refine Branch.and ?_
                  | refine Branch.or ?_
                  | refine Branch.dt (by assumption) ?_
                  | refine Branch.df (by assumption) ?_
                  | refine Branch.dt rfl ?_
                  | refine Branch.dt (by omega) ?_
                  | refine Branch.df (by omega) ?_
                  | refine Branch.t rfl ?_
                  | refine Branch.f rfl ?_
                  | refine Branch.t (by assumption) ?_
                  | refine Branch.f (by assumption) ?_
                  | refine Branch.d (fun _ => ?_) (fun _ => ?_)
                  | refine Branch.mk (fun _ => ?_) (fun _ => ?_)
                  | refine Need.mk (by first | omega | decide | rfl) ?_
                  | refine Idx.nat (by omega) ?_
                  | refine Idx.auto (by first | omega | decide) (by first | omega | decide) ?_
                  | refine Cell.ro rfl ?_
                  | refine SDraw.all (by kernel_rfl) ?_
                  | refine Kept.k0 ?_
                  | refine Kept.k1 ?_
                  | refine Kept.k2 ?_
                  | refine Kept.k3 ?_
                  | refine Kept.k4 ?_))
              all_goals (conv => whnf)
              exact Keep.all (stop rfl)
          | false =>
            repeat' ((conv => whnf); (first
                | refine Look.mem g1 (fun _ _ _ => ?_)
                | refine SDraw.held (by kernel_rfl) [(gd, _), (r, Blk.buf 58 (D.S.flatMap Sg.cells) N)] (.same g1 (.same hm .nil)) ?_
                | refine Look.mem (.head _) (fun _ _ _ => ?_)
                | refine Look.cell (.tail _ (.head _)) hc0 ?_
                | refine Look.cell (.tail _ (.head _)) hc3 ?_
                | refine Look.cell (.tail _ (.head _)) hc4 ?_
                | refine New.mk (fun _ => ?_)
                | refine Look.at0 ?_
                | refine Cell.row ?_
                | refine Cell.buf ?_
                | refine Cells.row rfl ?_
                | refine Put.row rfl ?_
                | refine Put.buf rfl ?_
                | refine Look.at1 ?_
                | refine Look.at2 ?_
                | refine Look.at3 ?_
                | refine Look.at4 ?_
                | refine Look.at5 ?_
                | refine Look.at6 ?_
                | refine Look.at7 ?_
                | refine Look.at8 ?_
                | with_reducible refine Val.i64 (by omega) (by omega) ?_
                | with_reducible refine Val.u8 (by omega) (by omega) ?_
                | with_reducible refine Val.u32 (by omega) (by omega) ?_
                | with_reducible refine Val.u64 (by omega) (by omega) ?_
                | with_reducible refine Val.u8m ?_
                | with_reducible refine Val.u32m ?_
                | with_reducible refine Val.u64m ?_
                | with_reducible refine Val.shr8 ?_
                | with_reducible refine Val.shr16 (by decide) ?_
                | with_reducible refine Val.shr24 (by decide) ?_
                | with_reducible refine Val.raw ?_
                | refine Branch.not ?_
                | refine Branch.and ?_
                | refine Branch.or ?_
                | refine Branch.dt (by assumption) ?_
                | refine Branch.df (by assumption) ?_
                | refine Branch.dt rfl ?_
                | refine Branch.dt (by omega) ?_
                | refine Branch.df (by omega) ?_
                | refine Branch.t rfl ?_
                | refine Branch.f rfl ?_
                | refine Branch.t (by assumption) ?_
                | refine Branch.f (by assumption) ?_
                | refine Branch.d (fun _ => ?_) (fun _ => ?_)
                | refine Branch.mk (fun _ => ?_) (fun _ => ?_)
                | refine Need.mk (by first | omega | decide | rfl) ?_
                | refine Idx.nat (by omega) ?_
                | refine Idx.auto (by first | omega | decide) (by first | omega | decide) ?_
                | refine Cell.ro rfl ?_
                | refine SDraw.all (by kernel_rfl) ?_
                | refine Kept.k0 ?_
                | refine Kept.k1 ?_
                | refine Kept.k2 ?_
                | refine Kept.k3 ?_
                | refine Kept.k4 ?_))
            all_goals (conv => whnf)
            exact Keep.all (stop rfl)
        · rw [decide_eq_false e1, Bool.false_and] at next stop
          repeat' ((conv => whnf); (first
              | refine Look.mem g1 (fun _ _ _ => ?_)
              | refine SDraw.held (by kernel_rfl) [(gd, _), (r, Blk.buf 58 (D.S.flatMap Sg.cells) N)] (.same g1 (.same hm .nil)) ?_
              | refine Look.mem (.head _) (fun _ _ _ => ?_)
              | refine Look.cell (.tail _ (.head _)) hc0 ?_
              | refine Look.cell (.tail _ (.head _)) hc3 ?_
              | refine Look.cell (.tail _ (.head _)) hc4 ?_
              | refine New.mk (fun _ => ?_)
              | refine Look.at0 ?_
              | refine Cell.row ?_
              | refine Cell.buf ?_
              | refine Cells.row rfl ?_
              | refine Put.row rfl ?_
              | refine Put.buf rfl ?_
              | refine Look.at1 ?_
              | refine Look.at2 ?_
              | refine Look.at3 ?_
              | refine Look.at4 ?_
              | refine Look.at5 ?_
              | refine Look.at6 ?_
              | refine Look.at7 ?_
              | refine Look.at8 ?_
              | with_reducible refine Val.i64 (by omega) (by omega) ?_
              | with_reducible refine Val.u8 (by omega) (by omega) ?_
              | with_reducible refine Val.u32 (by omega) (by omega) ?_
              | with_reducible refine Val.u64 (by omega) (by omega) ?_
              | with_reducible refine Val.u8m ?_
              | with_reducible refine Val.u32m ?_
              | with_reducible refine Val.u64m ?_
              | with_reducible refine Val.shr8 ?_
              | with_reducible refine Val.shr16 (by decide) ?_
              | with_reducible refine Val.shr24 (by decide) ?_
              | with_reducible refine Val.raw ?_
              | refine Branch.not ?_
              | refine Branch.and ?_
              | refine Branch.or ?_
              | refine Branch.dt (by assumption) ?_
              | refine Branch.df (by assumption) ?_
              | refine Branch.dt rfl ?_
              | refine Branch.dt (by omega) ?_
              | refine Branch.df (by omega) ?_
              | refine Branch.t rfl ?_
              | refine Branch.f rfl ?_
              | refine Branch.t (by assumption) ?_
              | refine Branch.f (by assumption) ?_
              | refine Branch.d (fun _ => ?_) (fun _ => ?_)
              | refine Branch.mk (fun _ => ?_) (fun _ => ?_)
              | refine Need.mk (by first | omega | decide | rfl) ?_
              | refine Idx.nat (by omega) ?_
              | refine Idx.auto (by first | omega | decide) (by first | omega | decide) ?_
              | refine Cell.ro rfl ?_
              | refine SDraw.all (by kernel_rfl) ?_
              | refine Kept.k0 ?_
              | refine Kept.k1 ?_
              | refine Kept.k2 ?_
              | refine Kept.k3 ?_
              | refine Kept.k4 ?_))
          all_goals (conv => whnf)
          exact next _ rfl .mk
      · have e : j = D.S.length := by omega
        subst e
        rw [List.take_length] at hn
        rw [any_take hn] at h
        repeat' ((conv => whnf); (first
            | refine Look.mem g1 (fun _ _ _ => ?_)
            | refine New.mk (fun _ => ?_)
            | refine Look.at0 ?_
            | refine Cell.row ?_
            | refine Cell.buf ?_
            | refine Cells.row rfl ?_
            | refine Put.row rfl ?_
            | refine Put.buf rfl ?_
            | refine Look.at1 ?_
            | refine Look.at2 ?_
            | refine Look.at3 ?_
            | refine Look.at4 ?_
            | refine Look.at5 ?_
            | refine Look.at6 ?_
            | refine Look.at7 ?_
            | refine Look.at8 ?_
            | with_reducible refine Val.i64 (by omega) (by omega) ?_
            | with_reducible refine Val.u8 (by omega) (by omega) ?_
            | with_reducible refine Val.u32 (by omega) (by omega) ?_
            | with_reducible refine Val.u64 (by omega) (by omega) ?_
            | with_reducible refine Val.u8m ?_
            | with_reducible refine Val.u32m ?_
            | with_reducible refine Val.u64m ?_
            | with_reducible refine Val.shr8 ?_
            | with_reducible refine Val.shr16 (by decide) ?_
            | with_reducible refine Val.shr24 (by decide) ?_
            | with_reducible refine Val.raw ?_
            | refine Branch.not ?_
            | refine Branch.and ?_
            | refine Branch.or ?_
            | refine Branch.dt (by assumption) ?_
            | refine Branch.df (by assumption) ?_
            | refine Branch.dt rfl ?_
            | refine Branch.dt (by omega) ?_
            | refine Branch.df (by omega) ?_
            | refine Branch.t rfl ?_
            | refine Branch.f rfl ?_
            | refine Branch.t (by assumption) ?_
            | refine Branch.f (by assumption) ?_
            | refine Branch.d (fun _ => ?_) (fun _ => ?_)
            | refine Branch.mk (fun _ => ?_) (fun _ => ?_)
            | refine Need.mk (by first | omega | decide | rfl) ?_
            | refine Idx.nat (by omega) ?_
            | refine Idx.auto (by first | omega | decide) (by first | omega | decide) ?_
            | refine Cell.ro rfl ?_
            | refine SDraw.all (by kernel_rfl) ?_
            | refine Kept.k0 ?_
            | refine Kept.k1 ?_
            | refine Kept.k2 ?_
            | refine Kept.k3 ?_
            | refine Kept.k4 ?_))
        all_goals (conv => whnf)
        exact Keep.all h
    | false =>
      have e : D.fresh n = false := by unfold Dc.fresh; rw [hth]; simp
      rw [e] at h
      repeat' ((conv => whnf); (first
          | refine Look.mem g1 (fun _ _ _ => ?_)
          | refine Idx.of n.toNat (by omega) (by omega) ?_
          | refine Look.cell g2 hct ?_
          | refine New.mk (fun _ => ?_)
          | refine Look.at0 ?_
          | refine Cell.row ?_
          | refine Cell.buf ?_
          | refine Cells.row rfl ?_
          | refine Put.row rfl ?_
          | refine Put.buf rfl ?_
          | refine Look.at1 ?_
          | refine Look.at2 ?_
          | refine Look.at3 ?_
          | refine Look.at4 ?_
          | refine Look.at5 ?_
          | refine Look.at6 ?_
          | refine Look.at7 ?_
          | refine Look.at8 ?_
          | with_reducible refine Val.i64 (by omega) (by omega) ?_
          | with_reducible refine Val.u8 (by omega) (by omega) ?_
          | with_reducible refine Val.u32 (by omega) (by omega) ?_
          | with_reducible refine Val.u64 (by omega) (by omega) ?_
          | with_reducible refine Val.u8m ?_
          | with_reducible refine Val.u32m ?_
          | with_reducible refine Val.u64m ?_
          | with_reducible refine Val.shr8 ?_
          | with_reducible refine Val.shr16 (by decide) ?_
          | with_reducible refine Val.shr24 (by decide) ?_
          | with_reducible refine Val.raw ?_
          | refine Branch.not ?_
          | refine Branch.and ?_
          | refine Branch.or ?_
          | refine Branch.dt (by assumption) ?_
          | refine Branch.df (by assumption) ?_
          | refine Branch.dt rfl ?_
          | refine Branch.dt (by omega) ?_
          | refine Branch.df (by omega) ?_
          | refine Branch.t rfl ?_
          | refine Branch.f rfl ?_
          | refine Branch.t (by assumption) ?_
          | refine Branch.f (by assumption) ?_
          | refine Branch.d (fun _ => ?_) (fun _ => ?_)
          | refine Branch.mk (fun _ => ?_) (fun _ => ?_)
          | refine Need.mk (by first | omega | decide | rfl) ?_
          | refine Idx.nat (by omega) ?_
          | refine Idx.auto (by first | omega | decide) (by first | omega | decide) ?_
          | refine Cell.ro rfl ?_
          | refine SDraw.all (by kernel_rfl) ?_
          | refine Kept.k0 ?_
          | refine Kept.k1 ?_
          | refine Kept.k2 ?_
          | refine Kept.k3 ?_
          | refine Kept.k4 ?_))
      all_goals (conv => whnf)
      exact Keep.all h
  · have e : D.fresh n = false := by unfold Dc.fresh; rw [decide_eq_false hr]; simp
    rw [e] at h
    repeat' ((conv => whnf); (first
        | refine Look.mem g1 (fun _ _ _ => ?_)
        | refine New.mk (fun _ => ?_)
        | refine Look.at0 ?_
        | refine Cell.row ?_
        | refine Cell.buf ?_
        | refine Cells.row rfl ?_
        | refine Put.row rfl ?_
        | refine Put.buf rfl ?_
        | refine Look.at1 ?_
        | refine Look.at2 ?_
        | refine Look.at3 ?_
        | refine Look.at4 ?_
        | refine Look.at5 ?_
        | refine Look.at6 ?_
        | refine Look.at7 ?_
        | refine Look.at8 ?_
        | with_reducible refine Val.i64 (by omega) (by omega) ?_
        | with_reducible refine Val.u8 (by omega) (by omega) ?_
        | with_reducible refine Val.u32 (by omega) (by omega) ?_
        | with_reducible refine Val.u64 (by omega) (by omega) ?_
        | with_reducible refine Val.u8m ?_
        | with_reducible refine Val.u32m ?_
        | with_reducible refine Val.u64m ?_
        | with_reducible refine Val.shr8 ?_
        | with_reducible refine Val.shr16 (by decide) ?_
        | with_reducible refine Val.shr24 (by decide) ?_
        | with_reducible refine Val.raw ?_
        | refine Branch.not ?_
        | refine Branch.and ?_
        | refine Branch.or ?_
        | refine Branch.dt (by assumption) ?_
        | refine Branch.df (by assumption) ?_
        | refine Branch.dt rfl ?_
        | refine Branch.dt (by omega) ?_
        | refine Branch.df (by omega) ?_
        | refine Branch.t rfl ?_
        | refine Branch.f rfl ?_
        | refine Branch.t (by assumption) ?_
        | refine Branch.f (by assumption) ?_
        | refine Branch.d (fun _ => ?_) (fun _ => ?_)
        | refine Branch.mk (fun _ => ?_) (fun _ => ?_)
        | refine Need.mk (by first | omega | decide | rfl) ?_
        | refine Idx.nat (by omega) ?_
        | refine Idx.auto (by first | omega | decide) (by first | omega | decide) ?_
        | refine Cell.ro rfl ?_
        | refine SDraw.all (by kernel_rfl) ?_
        | refine Kept.k0 ?_
        | refine Kept.k1 ?_
        | refine Kept.k2 ?_
        | refine Kept.k3 ?_
        | refine Kept.k4 ?_))
    all_goals (conv => whnf)
    all_goals first
      | exact Keep.all h
      | omega
end
end Go.Proofs.Ytjnlpaojaikjaaa

