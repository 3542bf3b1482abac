/- Layer 19: what a slave does with commands, as functions; by walks. -/
import Derived.Test.YtkegkhhfbfegoaaLsA
set_option linter.unusedVariables false
set_option linter.unusedSimpArgs false
set_option maxRecDepth 100000
set_option maxHeartbeats 4000000
namespace Go.Proofs.Ytkegkhhfbfegoaa.Ls
open Go.Proofs.Ytkegkhhfbfegoaa Go.Proofs.Ytkegkhhfbfegoaa.Sx
/-- An answer: a frame, and whether there is one. -/
structure A where
  (x0 x1 x2 x3 x4 x5 x6 x7 : Int)
  is : Bool
def A.val (a : A) : Value := .tuple ⟨[fr8 a.x0 a.x1 a.x2 a.x3 a.x4 a.x5 a.x6 a.x7, .bool a.is]⟩
def A.no : A := ⟨0, 0, 0, 0, 0, 0, 0, 0, false⟩
def A.one (c n : Int) : A := ⟨c, n, 0, 0, 0, 0, 0, 0, true⟩
def A.num (c n : Int) : A := ⟨c, n % 256, n / 256 % 256, n / 65536 % 256, n / 16777216, 0, 0, 0, true⟩
structure Q where
  (q0 q1 q2 q3 q4 q5 q6 q7 : Int)
def Q.val (q : Q) : Value := fr8 q.q0 q.q1 q.q2 q.q3 q.q4 q.q5 q.q6 q.q7
structure Q.Ok (q : Q) : Prop where
  r0 : 0 ≤ q.q0 ∧ q.q0 ≤ 255
  r1 : 0 ≤ q.q1 ∧ q.q1 ≤ 255
  r2 : 0 ≤ q.q2 ∧ q.q2 ≤ 255
  r3 : 0 ≤ q.q3 ∧ q.q3 ≤ 255
  r4 : 0 ≤ q.q4 ∧ q.q4 ≤ 255
  r5 : 0 ≤ q.q5 ∧ q.q5 ≤ 255
  r6 : 0 ≤ q.q6 ∧ q.q6 ≤ 255
  r7 : 0 ≤ q.q7 ∧ q.q7 ≤ 255
/-- A part of the address. -/
def adrOf (a0 a1 a2 a3 k : Int) : Int := if k = 0 then a0 else if k = 1 then a1 else if k = 2 then a2 else a3
def L.adr (l : L) (k : Int) : Int := adrOf l.a0 l.a1 l.a2 l.a3 k
structure L.Ok (l : L) : Prop where
  looks : 0 ≤ l.looks ∧ l.looks ≤ 3
  taken : 0 ≤ l.taken ∧ l.taken ≤ 3
  mode : l.mode = 0 ∨ l.mode = 1
  r0 : 0 ≤ l.a0 ∧ l.a0 ≤ 4294967295
  r1 : 0 ≤ l.a1 ∧ l.a1 ≤ 4294967295
  r2 : 0 ≤ l.a2 ∧ l.a2 ≤ 4294967295
  r3 : 0 ≤ l.a3 ∧ l.a3 ≤ 4294967295
  uid : 0 ≤ l.uid ∧ l.uid ≤ 127
  pid : 0 ≤ l.pid ∧ l.pid ≤ 127
def L.selects (l : L) (part n : Int) : A × L :=
  if part = 0 then (if l.adr part = n then (.no, { l with taken := 1 }) else (.no, { l with taken := 0 }))
  else if part = l.taken then (if l.adr part = n then (if l.taken + 1 < 4 then (.no, { l with taken := l.taken + 1 }) else (.one 68 0, { l with taken := 0, mode := 1 })) else (.no, { l with taken := 0 }))
  else (.no, { l with taken := 0 })
def L.scans (l : L) (q : Q) : A × L :=
  if q.q5 = 128 then (.one 79 0, { l with looks := 0 })
  else if 31 < q.q5 then (.no, l)
  else if q.q6 ≠ l.looks then (.no, l)
  else if 4 ≤ q.q7 then (.no, l)
  else if shrI .u32 (l.adr q.q6) q.q5 ≠ shrI .u32 (numQ q.q1 q.q2 q.q3 q.q4) q.q5 then (.no, l)
  else if q.q5 = 0 then (if q.q7 < q.q6 then (.one 79 0, { l with looks := 0, mode := 1 }) else (.one 79 0, { l with looks := q.q7 }))
  else (.one 79 0, l)
def L.configures (l : L) (q : Q) : A × L :=
  if q.q0 = 17 then (if q.q1 = 255 then (.one 17 0, { l with pid := 0 }) else if q.q1 < 1 then (.one 17 1, l) else if 127 < q.q1 then (.one 17 1, l) else (.one 17 0, { l with pid := q.q1 }))
  else if q.q0 = 19 then (if q.q1 = 0 then (if 8 < q.q2 then (.one 19 1, l) else if q.q2 = 5 then (.one 19 1, l) else (.one 19 0, { l with pr := q.q2 })) else (.one 19 1, l))
  else if q.q0 = 21 then (.no, { l with ur := l.pr })
  else if q.q0 = 23 then (if l.fails = true then (.one 23 2, l) else (.one 23 0, { l with st := some (l.pid, l.pr) }))
  else if 90 ≤ q.q0 ∧ q.q0 ≤ 93 then (.num q.q0 (l.adr (q.q0 - 90)), l)
  else if q.q0 = 94 then (if l.uid = 0 then (.one 94 255, l) else (.one 94 l.uid, l))
  else (.no, l)
def L.take (l : L) (q : Q) : A × L :=
  if q.q0 = 4 then (.no, l.switches q.q1)
  else if q.q0 = 76 ∧ l.uid = 0 ∧ l.pid = 0 then (.one 80 0, l)
  else if 64 ≤ q.q0 ∧ q.q0 ≤ 67 ∧ l.mode = 0 then l.selects (q.q0 - 64) (numQ q.q1 q.q2 q.q3 q.q4)
  else if q.q0 = 81 ∧ l.mode = 0 ∧ l.uid = 0 ∧ l.pid = 0 then l.scans q
  else if l.mode = 1 then l.configures q
  else (.no, l)
theorem L.selects_st (l : L) (part n : Int) : (l.selects part n).2.st = l.st := by unfold L.selects; (repeat' split) <;> rfl
theorem L.scans_st (l : L) (q : Q) : (l.scans q).2.st = l.st := by unfold L.scans; (repeat' split) <;> rfl
theorem adr_cell {t : TypeId} {a0 a1 a2 a3 k : Int} {r : List Value} {fz : Nat × Nat} {K : Value → Prop} (hk : 0 ≤ k ∧ k ≤ 3) (h : K (.int .u32 (adrOf a0 a1 a2 a3 k))) :
    Cell (.row t (.int .u32 a0 :: .int .u32 a1 :: .int .u32 a2 :: .int .u32 a3 :: r) fz) (0 + 0 + k.toNat * 1) K := by
  rcases (show k = 0 ∨ k = 1 ∨ k = 2 ∨ k = 3 by omega) with rfl | rfl | rfl | rfl
  · exact Cell.get rfl h
  · exact Cell.get rfl h
  · exact Cell.get rfl h
  · exact Cell.get rfl h
section
variable {K : Value → Heap → Prop} {g p : Nat} (l : L)
theorem c20g (hl : l.Ok) (part n : Int) (hp : 0 ≤ part ∧ part ≤ 3) (sp : Option Addr) (h : K (l.selects part n).1.val [(g, (l.selects part n).2.row sp)]) : SCalls Try.prog 36 [.pointer (some ⟨g, 0, none⟩), .int .i64 part, .int .u32 n] [(g, l.row sp)] K := by
  obtain ⟨a0, a1, a2, a3, pid, pr, uid, ur, mode, taken, looks, st, fails⟩ := l
  have htk := hl.taken
  dsimp only at htk
  clear hl
  dsimp only [L.row]
  refine enter36 ?_
  repeat' ((conv => whnf); (first
      | refine c19z _ ?_
      | refine adr_cell (by omega) ?_
      | refine New.mk (fun _ => ?_)
      | refine Look.at0 ?_
      | refine Cell.row ?_
      | refine Cell.buf ?_
      | refine Cells.row rfl ?_
      | refine Put.row rfl ?_
      | refine Put.buf rfl ?_
      | refine Look.at1 ?_
      | refine Look.at2 ?_
      | refine Look.at3 ?_
      | refine Look.at4 ?_
      | refine Look.at5 ?_
      | refine Look.at6 ?_
      | refine Look.at7 ?_
      | refine Look.at8 ?_
      | with_reducible refine Val.i64 (by omega) (by omega) ?_
      | with_reducible refine Val.u8 (by omega) (by omega) ?_
      | with_reducible refine Val.u32 (by omega) (by omega) ?_
      | with_reducible refine Val.u64 (by omega) (by omega) ?_
      | with_reducible refine Val.u8m ?_
      | with_reducible refine Val.u32m ?_
      | with_reducible refine Val.u64m ?_
      | with_reducible refine Val.shr8 ?_
      | with_reducible refine Val.shr16 (by decide) ?_
      | with_reducible refine Val.shr24 (by decide) ?_
      | with_reducible refine Val.raw ?_
      | refine Branch.not ?_
      | refine Branch.and ?_
      | refine Branch.or ?_
      | refine Branch.dt (by assumption) ?_
      | refine Branch.df (by assumption) ?_
      | refine Branch.dt rfl ?_
      | refine Branch.dt (by omega) ?_
      | refine Branch.df (by omega) ?_
      | refine Branch.t rfl ?_
      | refine Branch.f rfl ?_
      | refine Branch.t (by assumption) ?_
      | refine Branch.f (by assumption) ?_
      | refine Branch.d (fun _ => ?_) (fun _ => ?_)
      | refine Branch.mk (fun _ => ?_) (fun _ => ?_)
      | refine Need.mk (by first | omega | decide | rfl) ?_
      | refine Idx.nat (by omega) ?_
      | refine Idx.auto (by first | omega | decide) (by first | omega | decide) ?_
      | refine Cell.ro rfl ?_
      | refine SDraw.all (by kernel_rfl) ?_
      | refine Kept.k0 ?_
      | refine Kept.k1 ?_
      | refine Kept.k2 ?_
      | refine Kept.k3 ?_
      | refine Kept.k4 ?_))
  all_goals (conv => whnf)
  all_goals
    revert h
    dsimp only [L.selects, L.adr]
    intro h
    subst_vars
    simp only [*, ↓reduceIte, not_false_eq_true, not_true_eq_false, ne_eq] at h
    exact Keep.d1 h
theorem c22g (hl : l.Ok) (q : Q) (hq : q.Ok) (sp : Option Addr) (h : K (l.scans q).1.val [(g, (l.scans q).2.row sp)]) : SCalls Try.prog 38 [.pointer (some ⟨g, 0, none⟩), q.val] [(g, l.row sp)] K := by
  obtain ⟨a0, a1, a2, a3, pid, pr, uid, ur, mode, taken, looks, st, fails⟩ := l
  have hlk := hl.looks
  dsimp only at hlk
  clear hl
  obtain ⟨q0, q1, q2, q3, q4, q5, q6, q7⟩ := q
  obtain ⟨r0, r1, r2, r3, r4, r5, r6, r7⟩ := hq
  dsimp only at r0 r1 r2 r3 r4 r5 r6 r7
  dsimp only [L.row, Q.val]
  refine enter38 ?_
  repeat' ((conv => whnf); (first
      | refine c19z _ ?_
      | refine c21 _ _ _ _ _ _ _ _ (by omega) (by omega) (by omega) (by omega) ?_
      | refine adr_cell (by omega) ?_
      | refine New.mk (fun _ => ?_)
      | refine Look.at0 ?_
      | refine Cell.row ?_
      | refine Cell.buf ?_
      | refine Cells.row rfl ?_
      | refine Put.row rfl ?_
      | refine Put.buf rfl ?_
      | refine Look.at1 ?_
      | refine Look.at2 ?_
      | refine Look.at3 ?_
      | refine Look.at4 ?_
      | refine Look.at5 ?_
      | refine Look.at6 ?_
      | refine Look.at7 ?_
      | refine Look.at8 ?_
      | with_reducible refine Val.i64 (by omega) (by omega) ?_
      | with_reducible refine Val.u8 (by omega) (by omega) ?_
      | with_reducible refine Val.u32 (by omega) (by omega) ?_
      | with_reducible refine Val.u64 (by omega) (by omega) ?_
      | with_reducible refine Val.u8m ?_
      | with_reducible refine Val.u32m ?_
      | with_reducible refine Val.u64m ?_
      | with_reducible refine Val.shr8 ?_
      | with_reducible refine Val.shr16 (by decide) ?_
      | with_reducible refine Val.shr24 (by decide) ?_
      | with_reducible refine Val.raw ?_
      | refine Branch.not ?_
      | refine Branch.and ?_
      | refine Branch.or ?_
      | refine Branch.dt (by assumption) ?_
      | refine Branch.df (by assumption) ?_
      | refine Branch.dt rfl ?_
      | refine Branch.dt (by omega) ?_
      | refine Branch.df (by omega) ?_
      | refine Branch.t rfl ?_
      | refine Branch.f rfl ?_
      | refine Branch.t (by assumption) ?_
      | refine Branch.f (by assumption) ?_
      | refine Branch.d (fun _ => ?_) (fun _ => ?_)
      | refine Branch.mk (fun _ => ?_) (fun _ => ?_)
      | refine Need.mk (by first | omega | decide | rfl) ?_
      | refine Idx.nat (by omega) ?_
      | refine Idx.auto (by first | omega | decide) (by first | omega | decide) ?_
      | refine Cell.ro rfl ?_
      | refine SDraw.all (by kernel_rfl) ?_
      | refine Kept.k0 ?_
      | refine Kept.k1 ?_
      | refine Kept.k2 ?_
      | refine Kept.k3 ?_
      | refine Kept.k4 ?_))
  all_goals (conv => whnf)
  all_goals
    revert h
    dsimp only [L.scans, L.adr]
    intro h
    subst_vars
    simp only [*, ↓reduceIte, not_false_eq_true, not_true_eq_false, ne_eq] at h
    exact Keep.d2 h
end
end Go.Proofs.Ytkegkhhfbfegoaa.Ls
