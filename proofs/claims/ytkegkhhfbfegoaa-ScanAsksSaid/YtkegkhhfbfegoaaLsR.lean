/- Layer 19: the document's slave: what it does with commands, as functions; by walks. -/
import Derived.Test.YtkegkhhfbfegoaaLsB
import Derived.Test.YtkegkhhfbfegoaaXb
set_option linter.unusedVariables false
set_option linter.unusedSimpArgs false
set_option maxRecDepth 100000
set_option maxHeartbeats 4000000
namespace Go.Proofs.Ytkegkhhfbfegoaa.Ls
open Go.Proofs.Ytkegkhhfbfegoaa Go.Proofs.Ytkegkhhfbfegoaa.Sx
structure R where
  (a0 a1 a2 a3 id rate uid urate sid srate : Int)
  (has fails : Bool)
  (mode taken looks : Int)
def R.row (r : R) : Blk := .row 41 [.int .u32 r.a0, .int .u32 r.a1, .int .u32 r.a2, .int .u32 r.a3, .int .i64 r.id, .int .i64 r.rate, .int .i64 r.uid, .int .i64 r.urate, .int .i64 r.sid, .int .i64 r.srate, .bool r.has, .bool r.fails, .int .i64 r.mode, .int .i64 r.taken, .int .i64 r.looks] (0, 0)
def R.adr (r : R) (k : Int) : Int := adrOf r.a0 r.a1 r.a2 r.a3 k
structure R.Ok (r : R) : Prop where
  looks : 0 ≤ r.looks ∧ r.looks ≤ 3
  taken : 0 ≤ r.taken ∧ r.taken ≤ 3
  r0 : 0 ≤ r.a0 ∧ r.a0 ≤ 4294967295
  r1 : 0 ≤ r.a1 ∧ r.a1 ≤ 4294967295
  r2 : 0 ≤ r.a2 ∧ r.a2 ≤ 4294967295
  r3 : 0 ≤ r.a3 ∧ r.a3 ≤ 4294967295
  uid : 0 ≤ r.uid ∧ r.uid ≤ 127
  id : 0 ≤ r.id ∧ r.id ≤ 127
  sid : 0 ≤ r.sid ∧ r.sid ≤ 127
def R.pick (r : R) (part n : Int) : A × R :=
  if part = 0 then (if r.adr part = n then (.no, { r with taken := 1 }) else (.no, { r with taken := 0 }))
  else if part = r.taken then (if r.adr part = n then (if r.taken + 1 = 4 then (.one 68 0, { r with taken := 0, mode := 1 }) else (.no, { r with taken := r.taken + 1 })) else (.no, { r with taken := 0 }))
  else (.no, { r with taken := 0 })
/-- Whether from a bit on all bits are those of the part that it looks for. -/
def R.Sees (r : R) (q5 n : Int) : Prop := ∀ i : Nat, i < 32 → q5 ≤ (i : Int) → r.adr r.looks / 2 ^ i % 2 = n / 2 ^ i % 2
instance (r : R) (q5 n : Int) : Decidable (r.Sees q5 n) := Nat.decidableBallLT 32 _
def R.scan (r : R) (q : Q) (n : Int) : A × R :=
  if q.q5 = 128 then (.one 79 0, { r with looks := 0 })
  else if 31 < q.q5 then (.no, r)
  else if 3 < q.q6 then (.no, r)
  else if 3 < q.q7 then (.no, r)
  else if q.q6 ≠ r.looks then (.no, r)
  else if ¬ r.Sees q.q5 n then (.no, r)
  else if q.q5 = 0 then (if q.q7 < q.q6 then (.one 79 0, { r with looks := 0, mode := 1 }) else (.one 79 0, { r with looks := q.q7 }))
  else (.one 79 0, r)
def R.set (r : R) (q : Q) : A × R :=
  if q.q0 = 17 then (if q.q1 = 0 then (.one 17 1, r) else if 127 < q.q1 ∧ q.q1 < 255 then (.one 17 1, r) else (.one 17 0, { r with id := q.q1 % 255 }))
  else if q.q0 = 19 then (if q.q1 ≠ 0 then (.one 19 1, r) else if q.q2 = 5 then (.one 19 1, r) else if 8 < q.q2 then (.one 19 1, r) else (.one 19 0, { r with rate := q.q2 }))
  else if q.q0 = 21 then (.no, { r with urate := r.rate })
  else if q.q0 = 23 then (if r.fails = true then (.one 23 2, r) else (.one 23 0, { r with sid := r.id, srate := r.rate, has := true }))
  else if 90 ≤ q.q0 ∧ q.q0 ≤ 93 then (.num q.q0 (r.adr (q.q0 - 90)), r)
  else if q.q0 = 94 then (if r.uid = 0 then (.one 94 255, r) else (.one 94 r.uid, r))
  else (.no, r)
def numR (q1 q2 q3 q4 : Int) : Int := q1 + 256 * q2 + 65536 * q3 + 16777216 * q4
def R.take (r : R) (q : Q) : A × R :=
  if q.q0 = 4 then (.no, if q.q1 = 0 then (if r.uid = 0 then { r with mode := 0, uid := r.id } else { r with mode := 0 }) else if q.q1 = 1 then { r with mode := 1 } else r)
  else if q.q0 = 76 ∧ r.id = 0 ∧ r.uid = 0 then (.one 80 0, r)
  else if r.mode = 1 then r.set q
  else if 64 ≤ q.q0 ∧ q.q0 ≤ 67 then r.pick (q.q0 - 64) (numR q.q1 q.q2 q.q3 q.q4)
  else if q.q0 = 81 ∧ r.id = 0 ∧ r.uid = 0 then r.scan q (numR q.q1 q.q2 q.q3 q.q4)
  else (.no, r)
def R.restart (r : R) : R := if r.has = true then { r with mode := 0, taken := 0, looks := 0, id := r.sid, rate := r.srate, urate := r.srate, uid := r.sid } else { r with mode := 0, taken := 0, looks := 0, uid := r.id }
theorem c27 {H : Heap} {K : Value → Heap → Prop} (c n : Int) (hn : 0 ≤ n ∧ n ≤ 4294967295) (h : K (fr8 c (n % 256) (n / 256 % 256) (n / 65536 % 256) (n / 16777216) 0 0 0) H) : SCalls Try.prog 33 [.int .u8 c, .int .u32 n] H K := by
  refine SCalls.any (K := fun v N => v = fr8 c (n % 256) (n / 256 % 256) (n / 65536 % 256) (n / 16777216) 0 0 0 ∧ N = []) (enter33 ?_) (by rintro v N ⟨rfl, rfl⟩; exact h)
  repeat' ((conv => whnf); (first
      | with_reducible refine Val.wtdiv (by omega) ?_
      | with_reducible refine Val.tmod (by omega) ?_
      | refine New.mk (fun _ => ?_)
      | refine Look.at0 ?_
      | refine Cell.row ?_
      | refine Cell.buf ?_
      | refine Cells.row rfl ?_
      | refine Put.row rfl ?_
      | refine Put.buf rfl ?_
      | refine Look.at1 ?_
      | refine Look.at2 ?_
      | refine Look.at3 ?_
      | refine Look.at4 ?_
      | refine Look.at5 ?_
      | refine Look.at6 ?_
      | refine Look.at7 ?_
      | refine Look.at8 ?_
      | with_reducible refine Val.i64 (by omega) (by omega) ?_
      | with_reducible refine Val.u8 (by omega) (by omega) ?_
      | with_reducible refine Val.u32 (by omega) (by omega) ?_
      | with_reducible refine Val.u64 (by omega) (by omega) ?_
      | with_reducible refine Val.u8m ?_
      | with_reducible refine Val.u32m ?_
      | with_reducible refine Val.u64m ?_
      | with_reducible refine Val.shr8 ?_
      | with_reducible refine Val.shr16 (by decide) ?_
      | with_reducible refine Val.shr24 (by decide) ?_
      | with_reducible refine Val.raw ?_
      | refine Branch.not ?_
      | refine Branch.and ?_
      | refine Branch.or ?_
      | refine Branch.dt (by assumption) ?_
      | refine Branch.df (by assumption) ?_
      | refine Branch.dt rfl ?_
      | refine Branch.dt (by omega) ?_
      | refine Branch.df (by omega) ?_
      | refine Branch.t rfl ?_
      | refine Branch.f rfl ?_
      | refine Branch.t (by assumption) ?_
      | refine Branch.f (by assumption) ?_
      | refine Branch.d (fun _ => ?_) (fun _ => ?_)
      | refine Branch.mk (fun _ => ?_) (fun _ => ?_)
      | refine Need.mk (by first | omega | decide | rfl) ?_
      | refine Idx.nat (by omega) ?_
      | refine Idx.auto (by first | omega | decide) (by first | omega | decide) ?_
      | refine Cell.ro rfl ?_
      | refine SDraw.all (by kernel_rfl) ?_
      | refine Kept.k0 ?_
      | refine Kept.k1 ?_
      | refine Kept.k2 ?_
      | refine Kept.k3 ?_
      | refine Kept.k4 ?_))
  all_goals (conv => whnf)
  all_goals exact Keep.sub [] (List.nil_sublist _) ⟨rfl, rfl⟩
theorem c27z {H : Heap} {K : Value → Heap → Prop} (c : Int) (h : K (fr8 c 0 0 0 0 0 0 0) H) : SCalls Try.prog 33 [.int .u8 c, .int .u32 0] H K := c27 c 0 (by decide) (by simpa using h)
theorem c27s {H : Heap} {K : Value → Heap → Prop} (c n : Int) (hn : 0 ≤ n ∧ n ≤ 255) (h : K (fr8 c n 0 0 0 0 0 0) H) : SCalls Try.prog 33 [.int .u8 c, .int .u32 n] H K :=
  c27 c n (by omega) (by rw [Int.emod_eq_of_lt (by omega) (by omega), show n / 256 = 0 by omega, show n / 65536 = 0 by omega, show n / 16777216 = 0 by omega]; exact h)
section
variable {K : Value → Heap → Prop} {g p : Nat} (r : R)
theorem c29 (hr : r.Ok) (part n : Int) (hp : 0 ≤ part ∧ part ≤ 3) (h : K (r.pick part n).1.val [(g, (r.pick part n).2.row)]) : SCalls Try.prog 45 [.pointer (some ⟨g, 0, none⟩), .int .i64 part, .int .u32 n] [(g, r.row)] K := by
  obtain ⟨a0, a1, a2, a3, id, rate, uid, urate, sid, srate, has, fails, mode, taken, looks⟩ := r
  have htk := hr.taken
  dsimp only at htk
  clear hr
  dsimp only [R.row]
  refine enter45 ?_
  repeat' ((conv => whnf); (first
      | refine c27z _ ?_
      | refine adr_cell (by omega) ?_
      | refine New.mk (fun _ => ?_)
      | refine Look.at0 ?_
      | refine Cell.row ?_
      | refine Cell.buf ?_
      | refine Cells.row rfl ?_
      | refine Put.row rfl ?_
      | refine Put.buf rfl ?_
      | refine Look.at1 ?_
      | refine Look.at2 ?_
      | refine Look.at3 ?_
      | refine Look.at4 ?_
      | refine Look.at5 ?_
      | refine Look.at6 ?_
      | refine Look.at7 ?_
      | refine Look.at8 ?_
      | with_reducible refine Val.i64 (by omega) (by omega) ?_
      | with_reducible refine Val.u8 (by omega) (by omega) ?_
      | with_reducible refine Val.u32 (by omega) (by omega) ?_
      | with_reducible refine Val.u64 (by omega) (by omega) ?_
      | with_reducible refine Val.u8m ?_
      | with_reducible refine Val.u32m ?_
      | with_reducible refine Val.u64m ?_
      | with_reducible refine Val.shr8 ?_
      | with_reducible refine Val.shr16 (by decide) ?_
      | with_reducible refine Val.shr24 (by decide) ?_
      | with_reducible refine Val.raw ?_
      | refine Branch.not ?_
      | refine Branch.and ?_
      | refine Branch.or ?_
      | refine Branch.dt (by assumption) ?_
      | refine Branch.df (by assumption) ?_
      | refine Branch.dt rfl ?_
      | refine Branch.dt (by omega) ?_
      | refine Branch.df (by omega) ?_
      | refine Branch.t rfl ?_
      | refine Branch.f rfl ?_
      | refine Branch.t (by assumption) ?_
      | refine Branch.f (by assumption) ?_
      | refine Branch.d (fun _ => ?_) (fun _ => ?_)
      | refine Branch.mk (fun _ => ?_) (fun _ => ?_)
      | refine Need.mk (by first | omega | decide | rfl) ?_
      | refine Idx.nat (by omega) ?_
      | refine Idx.auto (by first | omega | decide) (by first | omega | decide) ?_
      | refine Cell.ro rfl ?_
      | refine SDraw.all (by kernel_rfl) ?_
      | refine Kept.k0 ?_
      | refine Kept.k1 ?_
      | refine Kept.k2 ?_
      | refine Kept.k3 ?_
      | refine Kept.k4 ?_))
  all_goals (conv => whnf)
  all_goals
    revert h
    dsimp only [R.pick, R.adr]
    intro h
    subst_vars
    first
      | (exfalso; omega)
      | (simp only [*, ↓reduceIte, not_false_eq_true, not_true_eq_false, ne_eq] at h
         first | exact Keep.d1 h | (simp (config := { decide := true }) only [*, ↓reduceIte, Int.zero_add] at h; exact Keep.d1 h))
end
end Go.Proofs.Ytkegkhhfbfegoaa.Ls
