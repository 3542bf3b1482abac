/- Layer 19: the slave's methods, by walks. -/
import Derived.Test.YtkegkhhfbfegoaaBX

set_option linter.unusedVariables false
set_option maxRecDepth 100000
set_option maxHeartbeats 4000000
namespace Go.Proofs.Ytkegkhhfbfegoaa.Ls
open Go.Proofs.Ytkegkhhfbfegoaa Go.Proofs.Ytkegkhhfbfegoaa.Sx
abbrev fr8 (q0 q1 q2 q3 q4 q5 q6 q7 : Int) : Value := .agg ⟨[.int .u8 q0, .int .u8 q1, .int .u8 q2, .int .u8 q3, .int .u8 q4, .int .u8 q5, .int .u8 q6, .int .u8 q7]⟩
/-- A slave; what is stored lies at a block of its own. -/
structure L where
  (a0 a1 a2 a3 pid pr uid ur mode taken looks : Int)
  st : Option (Int × Int)
  fails : Bool
def L.row (l : L) (sp : Option Addr) : Blk := .row 77 [.int .u32 l.a0, .int .u32 l.a1, .int .u32 l.a2, .int .u32 l.a3, .int .i64 l.pid, .int .i64 l.pr, .int .i64 l.uid, .int .i64 l.ur, .int .i64 l.mode, .int .i64 l.taken, .int .i64 l.looks, .pointer sp, .bool l.fails] (0, 0)
def stP (p : Nat) : Option (Int × Int) → Option Addr | none => none | some _ => some ⟨p, 0, none⟩
def stH (p : Nat) : Option (Int × Int) → Heap | none => [] | some (i, r) => [(p, .row 74 [.int .i64 i, .int .i64 r] (0, 0))]
def L.H (g p : Nat) (l : L) : Heap := (g, l.row (stP p l.st)) :: stH p l.st
/-- A method that leaves what is stored. -/
theorem SCalls.st {f : FuncId} {args : List Value} {g p : Nat} {l l' : L} {K : Value → Heap → Prop} {v : Value} (hs : l'.st = l.st) (h : ∀ sp (K : Value → Heap → Prop), K v [(g, l'.row sp)] → SCalls Try.prog f args [(g, l.row sp)] K) (hk : K v (l'.H g p)) : SCalls Try.prog f args (l.H g p) K :=
  SCalls.atList [] (h _ _ (by unfold L.H at hk; rw [hs] at hk; exact hk))
theorem c19 {H : Heap} {K : Value → Heap → Prop} (c n : Int) (hn : 0 ≤ n ∧ n ≤ 4294967295) (h : K (fr8 c (n % 256) (n / 256 % 256) (n / 65536 % 256) (n / 16777216) 0 0 0) H) : SCalls Try.prog 35 [.int .u8 c, .int .u32 n] H K := by
  refine SCalls.any (K := fun v N => v = fr8 c (n % 256) (n / 256 % 256) (n / 65536 % 256) (n / 16777216) 0 0 0 ∧ N = []) (enter35 ?_) (by rintro v N ⟨rfl, rfl⟩; exact h)
  repeat' ((conv => whnf); (first
      | refine New.mk (fun _ => ?_)
      | refine Look.at0 ?_
      | refine Cell.row ?_
      | refine Cell.buf ?_
      | refine Cells.row rfl ?_
      | refine Put.row rfl ?_
      | refine Put.buf rfl ?_
      | refine Look.at1 ?_
      | refine Look.at2 ?_
      | refine Look.at3 ?_
      | refine Look.at4 ?_
      | refine Look.at5 ?_
      | refine Look.at6 ?_
      | refine Look.at7 ?_
      | refine Look.at8 ?_
      | with_reducible refine Val.i64 (by omega) (by omega) ?_
      | with_reducible refine Val.u8 (by omega) (by omega) ?_
      | with_reducible refine Val.u32 (by omega) (by omega) ?_
      | with_reducible refine Val.u64 (by omega) (by omega) ?_
      | with_reducible refine Val.u8m ?_
      | with_reducible refine Val.u32m ?_
      | with_reducible refine Val.u64m ?_
      | with_reducible refine Val.shr8 ?_
      | with_reducible refine Val.shr16 (by decide) ?_
      | with_reducible refine Val.shr24 (by decide) ?_
      | with_reducible refine Val.raw ?_
      | refine Branch.not ?_
      | refine Branch.and ?_
      | refine Branch.or ?_
      | refine Branch.dt (by assumption) ?_
      | refine Branch.df (by assumption) ?_
      | refine Branch.dt rfl ?_
      | refine Branch.dt (by omega) ?_
      | refine Branch.df (by omega) ?_
      | refine Branch.t rfl ?_
      | refine Branch.f rfl ?_
      | refine Branch.t (by assumption) ?_
      | refine Branch.f (by assumption) ?_
      | refine Branch.d (fun _ => ?_) (fun _ => ?_)
      | refine Branch.mk (fun _ => ?_) (fun _ => ?_)
      | refine Need.mk (by first | omega | decide | rfl) ?_
      | refine Idx.nat (by omega) ?_
      | refine Idx.auto (by first | omega | decide) (by first | omega | decide) ?_
      | refine Cell.ro rfl ?_
      | refine SDraw.all (by kernel_rfl) ?_
      | refine Kept.k0 ?_
      | refine Kept.k1 ?_
      | refine Kept.k2 ?_
      | refine Kept.k3 ?_
      | refine Kept.k4 ?_))
  all_goals (conv => whnf)
  all_goals exact Keep.sub [] (List.nil_sublist _) ⟨rfl, rfl⟩
theorem c19z {H : Heap} {K : Value → Heap → Prop} (c : Int) (h : K (fr8 c 0 0 0 0 0 0 0) H) : SCalls Try.prog 35 [.int .u8 c, .int .u32 0] H K := c19 c 0 (by decide) (by simpa using h)
theorem c9 {H : Heap} {K : Value → Heap → Prop} (c n : Int) (hn : 0 ≤ n ∧ n ≤ 4294967295) (h : K (fr8 c (n % 256) (n / 256 % 256) (n / 65536 % 256) (n / 16777216) 0 0 0) H) : SCalls Try.prog 31 [.int .u8 c, .int .u32 n] H K := by
  refine SCalls.any (K := fun v N => v = fr8 c (n % 256) (n / 256 % 256) (n / 65536 % 256) (n / 16777216) 0 0 0 ∧ N = []) (enter31 ?_) (by rintro v N ⟨rfl, rfl⟩; exact h)
  repeat' ((conv => whnf); (first
      | refine c19 _ _ hn ?_
      | refine New.mk (fun _ => ?_)
      | refine Look.at0 ?_
      | refine Cell.row ?_
      | refine Cell.buf ?_
      | refine Cells.row rfl ?_
      | refine Put.row rfl ?_
      | refine Put.buf rfl ?_
      | refine Look.at1 ?_
      | refine Look.at2 ?_
      | refine Look.at3 ?_
      | refine Look.at4 ?_
      | refine Look.at5 ?_
      | refine Look.at6 ?_
      | refine Look.at7 ?_
      | refine Look.at8 ?_
      | with_reducible refine Val.i64 (by omega) (by omega) ?_
      | with_reducible refine Val.u8 (by omega) (by omega) ?_
      | with_reducible refine Val.u32 (by omega) (by omega) ?_
      | with_reducible refine Val.u64 (by omega) (by omega) ?_
      | with_reducible refine Val.u8m ?_
      | with_reducible refine Val.u32m ?_
      | with_reducible refine Val.u64m ?_
      | with_reducible refine Val.shr8 ?_
      | with_reducible refine Val.shr16 (by decide) ?_
      | with_reducible refine Val.shr24 (by decide) ?_
      | with_reducible refine Val.raw ?_
      | refine Branch.not ?_
      | refine Branch.and ?_
      | refine Branch.or ?_
      | refine Branch.dt (by assumption) ?_
      | refine Branch.df (by assumption) ?_
      | refine Branch.dt rfl ?_
      | refine Branch.dt (by omega) ?_
      | refine Branch.df (by omega) ?_
      | refine Branch.t rfl ?_
      | refine Branch.f rfl ?_
      | refine Branch.t (by assumption) ?_
      | refine Branch.f (by assumption) ?_
      | refine Branch.d (fun _ => ?_) (fun _ => ?_)
      | refine Branch.mk (fun _ => ?_) (fun _ => ?_)
      | refine Need.mk (by first | omega | decide | rfl) ?_
      | refine Idx.nat (by omega) ?_
      | refine Idx.auto (by first | omega | decide) (by first | omega | decide) ?_
      | refine Cell.ro rfl ?_
      | refine SDraw.all (by kernel_rfl) ?_
      | refine Kept.k0 ?_
      | refine Kept.k1 ?_
      | refine Kept.k2 ?_
      | refine Kept.k3 ?_
      | refine Kept.k4 ?_))
  all_goals (conv => whnf)
  all_goals exact Keep.sub [] (List.nil_sublist _) ⟨rfl, rfl⟩
theorem c26 {H : Heap} {K : Value → Heap → Prop} (c n : Int) (hn : 0 ≤ n ∧ n ≤ 255) (h : K (.tuple ⟨[fr8 c n 0 0 0 0 0 0, .bool true]⟩) H) : SCalls Try.prog 42 [.int .u8 c, .int .i64 n] H K := by
  refine SCalls.any (K := fun v N => v = .tuple ⟨[fr8 c n 0 0 0 0 0 0, .bool true]⟩ ∧ N = []) (enter42 ?_) (by rintro v N ⟨rfl, rfl⟩; exact h)
  repeat' ((conv => whnf); (first
      | refine c19 _ _ (by omega) ?_
      | refine New.mk (fun _ => ?_)
      | refine Look.at0 ?_
      | refine Cell.row ?_
      | refine Cell.buf ?_
      | refine Cells.row rfl ?_
      | refine Put.row rfl ?_
      | refine Put.buf rfl ?_
      | refine Look.at1 ?_
      | refine Look.at2 ?_
      | refine Look.at3 ?_
      | refine Look.at4 ?_
      | refine Look.at5 ?_
      | refine Look.at6 ?_
      | refine Look.at7 ?_
      | refine Look.at8 ?_
      | with_reducible refine Val.i64 (by omega) (by omega) ?_
      | with_reducible refine Val.u8 (by omega) (by omega) ?_
      | with_reducible refine Val.u32 (by omega) (by omega) ?_
      | with_reducible refine Val.u64 (by omega) (by omega) ?_
      | with_reducible refine Val.u8m ?_
      | with_reducible refine Val.u32m ?_
      | with_reducible refine Val.u64m ?_
      | with_reducible refine Val.shr8 ?_
      | with_reducible refine Val.shr16 (by decide) ?_
      | with_reducible refine Val.shr24 (by decide) ?_
      | with_reducible refine Val.raw ?_
      | refine Branch.not ?_
      | refine Branch.and ?_
      | refine Branch.or ?_
      | refine Branch.dt (by assumption) ?_
      | refine Branch.df (by assumption) ?_
      | refine Branch.dt rfl ?_
      | refine Branch.dt (by omega) ?_
      | refine Branch.df (by omega) ?_
      | refine Branch.t rfl ?_
      | refine Branch.f rfl ?_
      | refine Branch.t (by assumption) ?_
      | refine Branch.f (by assumption) ?_
      | refine Branch.d (fun _ => ?_) (fun _ => ?_)
      | refine Branch.mk (fun _ => ?_) (fun _ => ?_)
      | refine Need.mk (by first | omega | decide | rfl) ?_
      | refine Idx.nat (by omega) ?_
      | refine Idx.auto (by first | omega | decide) (by first | omega | decide) ?_
      | refine Cell.ro rfl ?_
      | refine SDraw.all (by kernel_rfl) ?_
      | refine Kept.k0 ?_
      | refine Kept.k1 ?_
      | refine Kept.k2 ?_
      | refine Kept.k3 ?_
      | refine Kept.k4 ?_))
  all_goals (conv => whnf)
  all_goals exact Keep.sub [] (List.nil_sublist _) ⟨by rw [Int.emod_eq_of_lt (by omega) (by omega), show n / 256 = 0 by omega, show n / 65536 = 0 by omega, show n / 16777216 = 0 by omega]; rfl, rfl⟩
def numQ (q1 q2 q3 q4 : Int) : Int := bitOr .u32 (bitOr .u32 (bitOr .u32 q1 (q2 * 2 ^ 8)) (q3 * 2 ^ 16)) (q4 * 2 ^ 24)
theorem c21 {H : Heap} {K : Value → Heap → Prop} (q0 q1 q2 q3 q4 q5 q6 q7 : Int) (h1 : 0 ≤ q1 ∧ q1 ≤ 255) (h2 : 0 ≤ q2 ∧ q2 ≤ 255) (h3 : 0 ≤ q3 ∧ q3 ≤ 255) (h4 : 0 ≤ q4 ∧ q4 ≤ 255) (h : K (.int .u32 (numQ q1 q2 q3 q4)) H) : SCalls Try.prog 37 [fr8 q0 q1 q2 q3 q4 q5 q6 q7] H K := by
  refine SCalls.any (K := fun v N => v = .int .u32 (numQ q1 q2 q3 q4) ∧ N = []) (enter37 ?_) (by rintro v N ⟨rfl, rfl⟩; exact h)
  repeat' ((conv => whnf); (first
      | with_reducible refine Val.shl 8 rfl (by decide) ?_
      | with_reducible refine Val.shl 16 rfl (by decide) ?_
      | with_reducible refine Val.shl 24 rfl (by decide) ?_
      | refine New.mk (fun _ => ?_)
      | refine Look.at0 ?_
      | refine Cell.row ?_
      | refine Cell.buf ?_
      | refine Cells.row rfl ?_
      | refine Put.row rfl ?_
      | refine Put.buf rfl ?_
      | refine Look.at1 ?_
      | refine Look.at2 ?_
      | refine Look.at3 ?_
      | refine Look.at4 ?_
      | refine Look.at5 ?_
      | refine Look.at6 ?_
      | refine Look.at7 ?_
      | refine Look.at8 ?_
      | with_reducible refine Val.i64 (by omega) (by omega) ?_
      | with_reducible refine Val.u8 (by omega) (by omega) ?_
      | with_reducible refine Val.u32 (by omega) (by omega) ?_
      | with_reducible refine Val.u64 (by omega) (by omega) ?_
      | with_reducible refine Val.u8m ?_
      | with_reducible refine Val.u32m ?_
      | with_reducible refine Val.u64m ?_
      | with_reducible refine Val.shr8 ?_
      | with_reducible refine Val.shr16 (by decide) ?_
      | with_reducible refine Val.shr24 (by decide) ?_
      | with_reducible refine Val.raw ?_
      | refine Branch.not ?_
      | refine Branch.and ?_
      | refine Branch.or ?_
      | refine Branch.dt (by assumption) ?_
      | refine Branch.df (by assumption) ?_
      | refine Branch.dt rfl ?_
      | refine Branch.dt (by omega) ?_
      | refine Branch.df (by omega) ?_
      | refine Branch.t rfl ?_
      | refine Branch.f rfl ?_
      | refine Branch.t (by assumption) ?_
      | refine Branch.f (by assumption) ?_
      | refine Branch.d (fun _ => ?_) (fun _ => ?_)
      | refine Branch.mk (fun _ => ?_) (fun _ => ?_)
      | refine Need.mk (by first | omega | decide | rfl) ?_
      | refine Idx.nat (by omega) ?_
      | refine Idx.auto (by first | omega | decide) (by first | omega | decide) ?_
      | refine Cell.ro rfl ?_
      | refine SDraw.all (by kernel_rfl) ?_
      | refine Kept.k0 ?_
      | refine Kept.k1 ?_
      | refine Kept.k2 ?_
      | refine Kept.k3 ?_
      | refine Kept.k4 ?_))
  all_goals (conv => whnf)
  all_goals exact Keep.sub [] (List.nil_sublist _) ⟨rfl, rfl⟩
theorem c7 {H : Heap} {K : Value → Heap → Prop} (a0 a1 a2 a3 id : Int) (hid : 0 ≤ id ∧ id ≤ 127) (h : ∀ g p, K (.tuple ⟨[.pointer (some ⟨g, 0, none⟩), .int .i64 0]⟩) (L.H g p ⟨a0, a1, a2, a3, id, 0, id, 0, 0, 0, 0, none, false⟩ ++ H)) :
    SCalls Try.prog 15 [.agg ⟨[.int .u32 a0, .int .u32 a1, .int .u32 a2, .int .u32 a3]⟩, .int .i64 id] H K := by
  refine SCalls.any (K := fun v N => ∃ g, v = .tuple ⟨[.pointer (some ⟨g, 0, none⟩), .int .i64 0]⟩ ∧ N = L.H g 0 ⟨a0, a1, a2, a3, id, 0, id, 0, 0, 0, 0, none, false⟩) (enter15 ?_) (by rintro v N ⟨g, rfl, rfl⟩; exact h g 0)
  repeat' ((conv => whnf); (first
      | refine New.mk (fun _ => ?_)
      | refine Look.at0 ?_
      | refine Cell.row ?_
      | refine Cell.buf ?_
      | refine Cells.row rfl ?_
      | refine Put.row rfl ?_
      | refine Put.buf rfl ?_
      | refine Look.at1 ?_
      | refine Look.at2 ?_
      | refine Look.at3 ?_
      | refine Look.at4 ?_
      | refine Look.at5 ?_
      | refine Look.at6 ?_
      | refine Look.at7 ?_
      | refine Look.at8 ?_
      | with_reducible refine Val.i64 (by omega) (by omega) ?_
      | with_reducible refine Val.u8 (by omega) (by omega) ?_
      | with_reducible refine Val.u32 (by omega) (by omega) ?_
      | with_reducible refine Val.u64 (by omega) (by omega) ?_
      | with_reducible refine Val.u8m ?_
      | with_reducible refine Val.u32m ?_
      | with_reducible refine Val.u64m ?_
      | with_reducible refine Val.shr8 ?_
      | with_reducible refine Val.shr16 (by decide) ?_
      | with_reducible refine Val.shr24 (by decide) ?_
      | with_reducible refine Val.raw ?_
      | refine Branch.not ?_
      | refine Branch.and ?_
      | refine Branch.or ?_
      | refine Branch.dt (by assumption) ?_
      | refine Branch.df (by assumption) ?_
      | refine Branch.dt rfl ?_
      | refine Branch.dt (by omega) ?_
      | refine Branch.df (by omega) ?_
      | refine Branch.t rfl ?_
      | refine Branch.f rfl ?_
      | refine Branch.t (by assumption) ?_
      | refine Branch.f (by assumption) ?_
      | refine Branch.d (fun _ => ?_) (fun _ => ?_)
      | refine Branch.mk (fun _ => ?_) (fun _ => ?_)
      | refine Need.mk (by first | omega | decide | rfl) ?_
      | refine Idx.nat (by omega) ?_
      | refine Idx.auto (by first | omega | decide) (by first | omega | decide) ?_
      | refine Cell.ro rfl ?_
      | refine SDraw.all (by kernel_rfl) ?_
      | refine Kept.k0 ?_
      | refine Kept.k1 ?_
      | refine Kept.k2 ?_
      | refine Kept.k3 ?_
      | refine Kept.k4 ?_))
  all_goals (conv => whnf)
  all_goals exact Keep.sub [_] (List.Sublist.cons_cons _ (List.nil_sublist _)) ⟨_, rfl, rfl⟩
theorem c7_bad {H : Heap} {K : Value → Heap → Prop} (a0 a1 a2 a3 id : Int) (hid : id < 0 ∨ 127 < id) (h : K (.tuple ⟨[.pointer none, .int .i64 1]⟩) H) :
    SCalls Try.prog 15 [.agg ⟨[.int .u32 a0, .int .u32 a1, .int .u32 a2, .int .u32 a3]⟩, .int .i64 id] H K := by
  refine SCalls.any (K := fun v N => v = .tuple ⟨[.pointer none, .int .i64 1]⟩ ∧ N = []) (enter15 ?_) (by rintro v N ⟨rfl, rfl⟩; exact h)
  repeat' ((conv => whnf); (first
      | refine New.mk (fun _ => ?_)
      | refine Look.at0 ?_
      | refine Cell.row ?_
      | refine Cell.buf ?_
      | refine Cells.row rfl ?_
      | refine Put.row rfl ?_
      | refine Put.buf rfl ?_
      | refine Look.at1 ?_
      | refine Look.at2 ?_
      | refine Look.at3 ?_
      | refine Look.at4 ?_
      | refine Look.at5 ?_
      | refine Look.at6 ?_
      | refine Look.at7 ?_
      | refine Look.at8 ?_
      | with_reducible refine Val.i64 (by omega) (by omega) ?_
      | with_reducible refine Val.u8 (by omega) (by omega) ?_
      | with_reducible refine Val.u32 (by omega) (by omega) ?_
      | with_reducible refine Val.u64 (by omega) (by omega) ?_
      | with_reducible refine Val.u8m ?_
      | with_reducible refine Val.u32m ?_
      | with_reducible refine Val.u64m ?_
      | with_reducible refine Val.shr8 ?_
      | with_reducible refine Val.shr16 (by decide) ?_
      | with_reducible refine Val.shr24 (by decide) ?_
      | with_reducible refine Val.raw ?_
      | refine Branch.not ?_
      | refine Branch.and ?_
      | refine Branch.or ?_
      | refine Branch.dt (by assumption) ?_
      | refine Branch.df (by assumption) ?_
      | refine Branch.dt rfl ?_
      | refine Branch.dt (by omega) ?_
      | refine Branch.df (by omega) ?_
      | refine Branch.t rfl ?_
      | refine Branch.f rfl ?_
      | refine Branch.t (by assumption) ?_
      | refine Branch.f (by assumption) ?_
      | refine Branch.d (fun _ => ?_) (fun _ => ?_)
      | refine Branch.mk (fun _ => ?_) (fun _ => ?_)
      | refine Need.mk (by first | omega | decide | rfl) ?_
      | refine Idx.nat (by omega) ?_
      | refine Idx.auto (by first | omega | decide) (by first | omega | decide) ?_
      | refine Cell.ro rfl ?_
      | refine SDraw.all (by kernel_rfl) ?_
      | refine Kept.k0 ?_
      | refine Kept.k1 ?_
      | refine Kept.k2 ?_
      | refine Kept.k3 ?_
      | refine Kept.k4 ?_))
  all_goals (conv => whnf)
  all_goals exact Keep.sub [] (List.nil_sublist _) ⟨rfl, rfl⟩
section
variable {K : Value → Heap → Prop} {g p : Nat} (l : L)
theorem c10 (h : K (.int .i64 l.mode) (l.H g p)) : SCalls Try.prog 26 [.pointer (some ⟨g, 0, none⟩)] (l.H g p) K := by
  obtain ⟨a0, a1, a2, a3, pid, pr, uid, ur, mode, taken, looks, st, fails⟩ := l
  rcases st with _ | ⟨i, r⟩ <;> dsimp only [L.H, L.row, stP, stH] <;> refine enter26 ?_
  all_goals
    repeat' ((conv => whnf); (first
        | refine New.mk (fun _ => ?_)
        | refine Look.at0 ?_
        | refine Cell.row ?_
        | refine Cell.buf ?_
        | refine Cells.row rfl ?_
        | refine Put.row rfl ?_
        | refine Put.buf rfl ?_
        | refine Look.at1 ?_
        | refine Look.at2 ?_
        | refine Look.at3 ?_
        | refine Look.at4 ?_
        | refine Look.at5 ?_
        | refine Look.at6 ?_
        | refine Look.at7 ?_
        | refine Look.at8 ?_
        | with_reducible refine Val.i64 (by omega) (by omega) ?_
        | with_reducible refine Val.u8 (by omega) (by omega) ?_
        | with_reducible refine Val.u32 (by omega) (by omega) ?_
        | with_reducible refine Val.u64 (by omega) (by omega) ?_
        | with_reducible refine Val.u8m ?_
        | with_reducible refine Val.u32m ?_
        | with_reducible refine Val.u64m ?_
        | with_reducible refine Val.shr8 ?_
        | with_reducible refine Val.shr16 (by decide) ?_
        | with_reducible refine Val.shr24 (by decide) ?_
        | with_reducible refine Val.raw ?_
        | refine Branch.not ?_
        | refine Branch.and ?_
        | refine Branch.or ?_
        | refine Branch.dt (by assumption) ?_
        | refine Branch.df (by assumption) ?_
        | refine Branch.dt rfl ?_
        | refine Branch.dt (by omega) ?_
        | refine Branch.df (by omega) ?_
        | refine Branch.t rfl ?_
        | refine Branch.f rfl ?_
        | refine Branch.t (by assumption) ?_
        | refine Branch.f (by assumption) ?_
        | refine Branch.d (fun _ => ?_) (fun _ => ?_)
        | refine Branch.mk (fun _ => ?_) (fun _ => ?_)
        | refine Need.mk (by first | omega | decide | rfl) ?_
        | refine Idx.nat (by omega) ?_
        | refine Idx.auto (by first | omega | decide) (by first | omega | decide) ?_
        | refine Cell.ro rfl ?_
        | refine SDraw.all (by kernel_rfl) ?_
        | refine Kept.k0 ?_
        | refine Kept.k1 ?_
        | refine Kept.k2 ?_
        | refine Kept.k3 ?_
        | refine Kept.k4 ?_))
  all_goals (conv => whnf)
  all_goals exact Keep.all h
theorem c12 (h : K (.tuple ⟨[.int .i64 l.pid, .int .i64 l.uid]⟩) (l.H g p)) : SCalls Try.prog 13 [.pointer (some ⟨g, 0, none⟩)] (l.H g p) K := by
  obtain ⟨a0, a1, a2, a3, pid, pr, uid, ur, mode, taken, looks, st, fails⟩ := l
  rcases st with _ | ⟨i, r⟩ <;> dsimp only [L.H, L.row, stP, stH] <;> refine enter13 ?_
  all_goals
    repeat' ((conv => whnf); (first
        | refine New.mk (fun _ => ?_)
        | refine Look.at0 ?_
        | refine Cell.row ?_
        | refine Cell.buf ?_
        | refine Cells.row rfl ?_
        | refine Put.row rfl ?_
        | refine Put.buf rfl ?_
        | refine Look.at1 ?_
        | refine Look.at2 ?_
        | refine Look.at3 ?_
        | refine Look.at4 ?_
        | refine Look.at5 ?_
        | refine Look.at6 ?_
        | refine Look.at7 ?_
        | refine Look.at8 ?_
        | with_reducible refine Val.i64 (by omega) (by omega) ?_
        | with_reducible refine Val.u8 (by omega) (by omega) ?_
        | with_reducible refine Val.u32 (by omega) (by omega) ?_
        | with_reducible refine Val.u64 (by omega) (by omega) ?_
        | with_reducible refine Val.u8m ?_
        | with_reducible refine Val.u32m ?_
        | with_reducible refine Val.u64m ?_
        | with_reducible refine Val.shr8 ?_
        | with_reducible refine Val.shr16 (by decide) ?_
        | with_reducible refine Val.shr24 (by decide) ?_
        | with_reducible refine Val.raw ?_
        | refine Branch.not ?_
        | refine Branch.and ?_
        | refine Branch.or ?_
        | refine Branch.dt (by assumption) ?_
        | refine Branch.df (by assumption) ?_
        | refine Branch.dt rfl ?_
        | refine Branch.dt (by omega) ?_
        | refine Branch.df (by omega) ?_
        | refine Branch.t rfl ?_
        | refine Branch.f rfl ?_
        | refine Branch.t (by assumption) ?_
        | refine Branch.f (by assumption) ?_
        | refine Branch.d (fun _ => ?_) (fun _ => ?_)
        | refine Branch.mk (fun _ => ?_) (fun _ => ?_)
        | refine Need.mk (by first | omega | decide | rfl) ?_
        | refine Idx.nat (by omega) ?_
        | refine Idx.auto (by first | omega | decide) (by first | omega | decide) ?_
        | refine Cell.ro rfl ?_
        | refine SDraw.all (by kernel_rfl) ?_
        | refine Kept.k0 ?_
        | refine Kept.k1 ?_
        | refine Kept.k2 ?_
        | refine Kept.k3 ?_
        | refine Kept.k4 ?_))
  all_goals (conv => whnf)
  all_goals exact Keep.all h
/-- What Stored tells. -/
def L.told (l : L) : Value := match l.st with | none => .tuple ⟨[.int .i64 0, .int .i64 0, .bool false]⟩ | some (i, r) => .tuple ⟨[.int .i64 i, .int .i64 r, .bool true]⟩
/-- It begins anew. -/
def L.restart (l : L) : L := match l.st with
  | none => { l with mode := 0, taken := 0, looks := 0, uid := l.pid }
  | some (i, r) => { l with mode := 0, taken := 0, looks := 0, pid := i, pr := r, uid := i, ur := r }
/-- Waiting, or let be configured. -/
def L.switches (l : L) (x : Int) : L :=
  if x = 0 then (if l.uid = 0 then { l with mode := 0, uid := l.pid } else { l with mode := 0 }) else if x = 1 then { l with mode := 1 } else l
theorem c18g (x : Int) (sp : Option Addr) (h : K (.tuple ⟨[]⟩) [(g, (l.switches x).row sp)]) : SCalls Try.prog 34 [.pointer (some ⟨g, 0, none⟩), .int .u8 x] [(g, l.row sp)] K := by
  obtain ⟨a0, a1, a2, a3, pid, pr, uid, ur, mode, taken, looks, st, fails⟩ := l
  dsimp only [L.switches] at h
  dsimp only [L.row]
  refine enter34 ?_
  repeat' ((conv => whnf); (first
      | refine New.mk (fun _ => ?_)
      | refine Look.at0 ?_
      | refine Cell.row ?_
      | refine Cell.buf ?_
      | refine Cells.row rfl ?_
      | refine Put.row rfl ?_
      | refine Put.buf rfl ?_
      | refine Look.at1 ?_
      | refine Look.at2 ?_
      | refine Look.at3 ?_
      | refine Look.at4 ?_
      | refine Look.at5 ?_
      | refine Look.at6 ?_
      | refine Look.at7 ?_
      | refine Look.at8 ?_
      | with_reducible refine Val.i64 (by omega) (by omega) ?_
      | with_reducible refine Val.u8 (by omega) (by omega) ?_
      | with_reducible refine Val.u32 (by omega) (by omega) ?_
      | with_reducible refine Val.u64 (by omega) (by omega) ?_
      | with_reducible refine Val.u8m ?_
      | with_reducible refine Val.u32m ?_
      | with_reducible refine Val.u64m ?_
      | with_reducible refine Val.shr8 ?_
      | with_reducible refine Val.shr16 (by decide) ?_
      | with_reducible refine Val.shr24 (by decide) ?_
      | with_reducible refine Val.raw ?_
      | refine Branch.not ?_
      | refine Branch.and ?_
      | refine Branch.or ?_
      | refine Branch.dt (by assumption) ?_
      | refine Branch.df (by assumption) ?_
      | refine Branch.dt rfl ?_
      | refine Branch.dt (by omega) ?_
      | refine Branch.df (by omega) ?_
      | refine Branch.t rfl ?_
      | refine Branch.f rfl ?_
      | refine Branch.t (by assumption) ?_
      | refine Branch.f (by assumption) ?_
      | refine Branch.d (fun _ => ?_) (fun _ => ?_)
      | refine Branch.mk (fun _ => ?_) (fun _ => ?_)
      | refine Need.mk (by first | omega | decide | rfl) ?_
      | refine Idx.nat (by omega) ?_
      | refine Idx.auto (by first | omega | decide) (by first | omega | decide) ?_
      | refine Cell.ro rfl ?_
      | refine SDraw.all (by kernel_rfl) ?_
      | refine Kept.k0 ?_
      | refine Kept.k1 ?_
      | refine Kept.k2 ?_
      | refine Kept.k3 ?_
      | refine Kept.k4 ?_))
  all_goals (conv => whnf)
  all_goals subst_vars
  all_goals simp only [*, ↓reduceIte] at h
  all_goals exact Keep.all h
end
end Go.Proofs.Ytkegkhhfbfegoaa.Ls

/- Layer 19: what a slave does with commands, as functions; by walks. -/
set_option linter.unusedVariables false
set_option linter.unusedSimpArgs false
set_option maxRecDepth 100000
set_option maxHeartbeats 4000000
namespace Go.Proofs.Ytkegkhhfbfegoaa.Ls
open Go.Proofs.Ytkegkhhfbfegoaa Go.Proofs.Ytkegkhhfbfegoaa.Sx
/-- An answer: a frame, and whether there is one. -/
structure A where
  (x0 x1 x2 x3 x4 x5 x6 x7 : Int)
  is : Bool
def A.val (a : A) : Value := .tuple ⟨[fr8 a.x0 a.x1 a.x2 a.x3 a.x4 a.x5 a.x6 a.x7, .bool a.is]⟩
def A.no : A := ⟨0, 0, 0, 0, 0, 0, 0, 0, false⟩
def A.one (c n : Int) : A := ⟨c, n, 0, 0, 0, 0, 0, 0, true⟩
def A.num (c n : Int) : A := ⟨c, n % 256, n / 256 % 256, n / 65536 % 256, n / 16777216, 0, 0, 0, true⟩
structure Q where
  (q0 q1 q2 q3 q4 q5 q6 q7 : Int)
def Q.val (q : Q) : Value := fr8 q.q0 q.q1 q.q2 q.q3 q.q4 q.q5 q.q6 q.q7
structure Q.Ok (q : Q) : Prop where
  r0 : 0 ≤ q.q0 ∧ q.q0 ≤ 255
  r1 : 0 ≤ q.q1 ∧ q.q1 ≤ 255
  r2 : 0 ≤ q.q2 ∧ q.q2 ≤ 255
  r3 : 0 ≤ q.q3 ∧ q.q3 ≤ 255
  r4 : 0 ≤ q.q4 ∧ q.q4 ≤ 255
  r5 : 0 ≤ q.q5 ∧ q.q5 ≤ 255
  r6 : 0 ≤ q.q6 ∧ q.q6 ≤ 255
  r7 : 0 ≤ q.q7 ∧ q.q7 ≤ 255
/-- A part of the address. -/
def adrOf (a0 a1 a2 a3 k : Int) : Int := if k = 0 then a0 else if k = 1 then a1 else if k = 2 then a2 else a3
def L.adr (l : L) (k : Int) : Int := adrOf l.a0 l.a1 l.a2 l.a3 k
structure L.Ok (l : L) : Prop where
  looks : 0 ≤ l.looks ∧ l.looks ≤ 3
  taken : 0 ≤ l.taken ∧ l.taken ≤ 3
  mode : l.mode = 0 ∨ l.mode = 1
  r0 : 0 ≤ l.a0 ∧ l.a0 ≤ 4294967295
  r1 : 0 ≤ l.a1 ∧ l.a1 ≤ 4294967295
  r2 : 0 ≤ l.a2 ∧ l.a2 ≤ 4294967295
  r3 : 0 ≤ l.a3 ∧ l.a3 ≤ 4294967295
  uid : 0 ≤ l.uid ∧ l.uid ≤ 127
  pid : 0 ≤ l.pid ∧ l.pid ≤ 127
def L.selects (l : L) (part n : Int) : A × L :=
  if part = 0 then (if l.adr part = n then (.no, { l with taken := 1 }) else (.no, { l with taken := 0 }))
  else if part = l.taken then (if l.adr part = n then (if l.taken + 1 < 4 then (.no, { l with taken := l.taken + 1 }) else (.one 68 0, { l with taken := 0, mode := 1 })) else (.no, { l with taken := 0 }))
  else (.no, { l with taken := 0 })
def L.scans (l : L) (q : Q) : A × L :=
  if q.q5 = 128 then (.one 79 0, { l with looks := 0 })
  else if 31 < q.q5 then (.no, l)
  else if q.q6 ≠ l.looks then (.no, l)
  else if 4 ≤ q.q7 then (.no, l)
  else if shrI .u32 (l.adr q.q6) q.q5 ≠ shrI .u32 (numQ q.q1 q.q2 q.q3 q.q4) q.q5 then (.no, l)
  else if q.q5 = 0 then (if q.q7 < q.q6 then (.one 79 0, { l with looks := 0, mode := 1 }) else (.one 79 0, { l with looks := q.q7 }))
  else (.one 79 0, l)
def L.configures (l : L) (q : Q) : A × L :=
  if q.q0 = 17 then (if q.q1 = 255 then (.one 17 0, { l with pid := 0 }) else if q.q1 < 1 then (.one 17 1, l) else if 127 < q.q1 then (.one 17 1, l) else (.one 17 0, { l with pid := q.q1 }))
  else if q.q0 = 19 then (if q.q1 = 0 then (if 8 < q.q2 then (.one 19 1, l) else if q.q2 = 5 then (.one 19 1, l) else (.one 19 0, { l with pr := q.q2 })) else (.one 19 1, l))
  else if q.q0 = 21 then (.no, { l with ur := l.pr })
  else if q.q0 = 23 then (if l.fails = true then (.one 23 2, l) else (.one 23 0, { l with st := some (l.pid, l.pr) }))
  else if 90 ≤ q.q0 ∧ q.q0 ≤ 93 then (.num q.q0 (l.adr (q.q0 - 90)), l)
  else if q.q0 = 94 then (if l.uid = 0 then (.one 94 255, l) else (.one 94 l.uid, l))
  else (.no, l)
def L.take (l : L) (q : Q) : A × L :=
  if q.q0 = 4 then (.no, l.switches q.q1)
  else if q.q0 = 76 ∧ l.uid = 0 ∧ l.pid = 0 then (.one 80 0, l)
  else if 64 ≤ q.q0 ∧ q.q0 ≤ 67 ∧ l.mode = 0 then l.selects (q.q0 - 64) (numQ q.q1 q.q2 q.q3 q.q4)
  else if q.q0 = 81 ∧ l.mode = 0 ∧ l.uid = 0 ∧ l.pid = 0 then l.scans q
  else if l.mode = 1 then l.configures q
  else (.no, l)
theorem L.selects_st (l : L) (part n : Int) : (l.selects part n).2.st = l.st := by unfold L.selects; (repeat' split) <;> rfl
theorem L.scans_st (l : L) (q : Q) : (l.scans q).2.st = l.st := by unfold L.scans; (repeat' split) <;> rfl
theorem adr_cell {t : TypeId} {a0 a1 a2 a3 k : Int} {r : List Value} {fz : Nat × Nat} {K : Value → Prop} (hk : 0 ≤ k ∧ k ≤ 3) (h : K (.int .u32 (adrOf a0 a1 a2 a3 k))) :
    Cell (.row t (.int .u32 a0 :: .int .u32 a1 :: .int .u32 a2 :: .int .u32 a3 :: r) fz) (0 + 0 + k.toNat * 1) K := by
  rcases (show k = 0 ∨ k = 1 ∨ k = 2 ∨ k = 3 by omega) with rfl | rfl | rfl | rfl
  · exact Cell.get rfl h
  · exact Cell.get rfl h
  · exact Cell.get rfl h
  · exact Cell.get rfl h
section
variable {K : Value → Heap → Prop} {g p : Nat} (l : L)
theorem c20g (hl : l.Ok) (part n : Int) (hp : 0 ≤ part ∧ part ≤ 3) (sp : Option Addr) (h : K (l.selects part n).1.val [(g, (l.selects part n).2.row sp)]) : SCalls Try.prog 36 [.pointer (some ⟨g, 0, none⟩), .int .i64 part, .int .u32 n] [(g, l.row sp)] K := by
  obtain ⟨a0, a1, a2, a3, pid, pr, uid, ur, mode, taken, looks, st, fails⟩ := l
  have htk := hl.taken
  dsimp only at htk
  clear hl
  dsimp only [L.row]
  refine enter36 ?_
  repeat' ((conv => whnf); (first
      | refine c19z _ ?_
      | refine adr_cell (by omega) ?_
      | refine New.mk (fun _ => ?_)
      | refine Look.at0 ?_
      | refine Cell.row ?_
      | refine Cell.buf ?_
      | refine Cells.row rfl ?_
      | refine Put.row rfl ?_
      | refine Put.buf rfl ?_
      | refine Look.at1 ?_
      | refine Look.at2 ?_
      | refine Look.at3 ?_
      | refine Look.at4 ?_
      | refine Look.at5 ?_
      | refine Look.at6 ?_
      | refine Look.at7 ?_
      | refine Look.at8 ?_
      | with_reducible refine Val.i64 (by omega) (by omega) ?_
      | with_reducible refine Val.u8 (by omega) (by omega) ?_
      | with_reducible refine Val.u32 (by omega) (by omega) ?_
      | with_reducible refine Val.u64 (by omega) (by omega) ?_
      | with_reducible refine Val.u8m ?_
      | with_reducible refine Val.u32m ?_
      | with_reducible refine Val.u64m ?_
      | with_reducible refine Val.shr8 ?_
      | with_reducible refine Val.shr16 (by decide) ?_
      | with_reducible refine Val.shr24 (by decide) ?_
      | with_reducible refine Val.raw ?_
      | refine Branch.not ?_
      | refine Branch.and ?_
      | refine Branch.or ?_
      | refine Branch.dt (by assumption) ?_
      | refine Branch.df (by assumption) ?_
      | refine Branch.dt rfl ?_
      | refine Branch.dt (by omega) ?_
      | refine Branch.df (by omega) ?_
      | refine Branch.t rfl ?_
      | refine Branch.f rfl ?_
      | refine Branch.t (by assumption) ?_
      | refine Branch.f (by assumption) ?_
      | refine Branch.d (fun _ => ?_) (fun _ => ?_)
      | refine Branch.mk (fun _ => ?_) (fun _ => ?_)
      | refine Need.mk (by first | omega | decide | rfl) ?_
      | refine Idx.nat (by omega) ?_
      | refine Idx.auto (by first | omega | decide) (by first | omega | decide) ?_
      | refine Cell.ro rfl ?_
      | refine SDraw.all (by kernel_rfl) ?_
      | refine Kept.k0 ?_
      | refine Kept.k1 ?_
      | refine Kept.k2 ?_
      | refine Kept.k3 ?_
      | refine Kept.k4 ?_))
  all_goals (conv => whnf)
  all_goals
    revert h
    dsimp only [L.selects, L.adr]
    intro h
    subst_vars
    simp only [*, ↓reduceIte, not_false_eq_true, not_true_eq_false, ne_eq] at h
    exact Keep.d1 h
theorem c22g (hl : l.Ok) (q : Q) (hq : q.Ok) (sp : Option Addr) (h : K (l.scans q).1.val [(g, (l.scans q).2.row sp)]) : SCalls Try.prog 38 [.pointer (some ⟨g, 0, none⟩), q.val] [(g, l.row sp)] K := by
  obtain ⟨a0, a1, a2, a3, pid, pr, uid, ur, mode, taken, looks, st, fails⟩ := l
  have hlk := hl.looks
  dsimp only at hlk
  clear hl
  obtain ⟨q0, q1, q2, q3, q4, q5, q6, q7⟩ := q
  obtain ⟨r0, r1, r2, r3, r4, r5, r6, r7⟩ := hq
  dsimp only at r0 r1 r2 r3 r4 r5 r6 r7
  dsimp only [L.row, Q.val]
  refine enter38 ?_
  repeat' ((conv => whnf); (first
      | refine c19z _ ?_
      | refine c21 _ _ _ _ _ _ _ _ (by omega) (by omega) (by omega) (by omega) ?_
      | refine adr_cell (by omega) ?_
      | refine New.mk (fun _ => ?_)
      | refine Look.at0 ?_
      | refine Cell.row ?_
      | refine Cell.buf ?_
      | refine Cells.row rfl ?_
      | refine Put.row rfl ?_
      | refine Put.buf rfl ?_
      | refine Look.at1 ?_
      | refine Look.at2 ?_
      | refine Look.at3 ?_
      | refine Look.at4 ?_
      | refine Look.at5 ?_
      | refine Look.at6 ?_
      | refine Look.at7 ?_
      | refine Look.at8 ?_
      | with_reducible refine Val.i64 (by omega) (by omega) ?_
      | with_reducible refine Val.u8 (by omega) (by omega) ?_
      | with_reducible refine Val.u32 (by omega) (by omega) ?_
      | with_reducible refine Val.u64 (by omega) (by omega) ?_
      | with_reducible refine Val.u8m ?_
      | with_reducible refine Val.u32m ?_
      | with_reducible refine Val.u64m ?_
      | with_reducible refine Val.shr8 ?_
      | with_reducible refine Val.shr16 (by decide) ?_
      | with_reducible refine Val.shr24 (by decide) ?_
      | with_reducible refine Val.raw ?_
      | refine Branch.not ?_
      | refine Branch.and ?_
      | refine Branch.or ?_
      | refine Branch.dt (by assumption) ?_
      | refine Branch.df (by assumption) ?_
      | refine Branch.dt rfl ?_
      | refine Branch.dt (by omega) ?_
      | refine Branch.df (by omega) ?_
      | refine Branch.t rfl ?_
      | refine Branch.f rfl ?_
      | refine Branch.t (by assumption) ?_
      | refine Branch.f (by assumption) ?_
      | refine Branch.d (fun _ => ?_) (fun _ => ?_)
      | refine Branch.mk (fun _ => ?_) (fun _ => ?_)
      | refine Need.mk (by first | omega | decide | rfl) ?_
      | refine Idx.nat (by omega) ?_
      | refine Idx.auto (by first | omega | decide) (by first | omega | decide) ?_
      | refine Cell.ro rfl ?_
      | refine SDraw.all (by kernel_rfl) ?_
      | refine Kept.k0 ?_
      | refine Kept.k1 ?_
      | refine Kept.k2 ?_
      | refine Kept.k3 ?_
      | refine Kept.k4 ?_))
  all_goals (conv => whnf)
  all_goals
    revert h
    dsimp only [L.scans, L.adr]
    intro h
    subst_vars
    simp only [*, ↓reduceIte, not_false_eq_true, not_true_eq_false, ne_eq] at h
    exact Keep.d2 h
end
end Go.Proofs.Ytkegkhhfbfegoaa.Ls

/- Layer 19: the document's slave: what it does with commands, as functions; by walks. -/
set_option linter.unusedVariables false
set_option linter.unusedSimpArgs false
set_option maxRecDepth 100000
set_option maxHeartbeats 4000000
namespace Go.Proofs.Ytkegkhhfbfegoaa.Ls
open Go.Proofs.Ytkegkhhfbfegoaa Go.Proofs.Ytkegkhhfbfegoaa.Sx
structure R where
  (a0 a1 a2 a3 id rate uid urate sid srate : Int)
  (has fails : Bool)
  (mode taken looks : Int)
def R.row (r : R) : Blk := .row 41 [.int .u32 r.a0, .int .u32 r.a1, .int .u32 r.a2, .int .u32 r.a3, .int .i64 r.id, .int .i64 r.rate, .int .i64 r.uid, .int .i64 r.urate, .int .i64 r.sid, .int .i64 r.srate, .bool r.has, .bool r.fails, .int .i64 r.mode, .int .i64 r.taken, .int .i64 r.looks] (0, 0)
def R.adr (r : R) (k : Int) : Int := adrOf r.a0 r.a1 r.a2 r.a3 k
structure R.Ok (r : R) : Prop where
  looks : 0 ≤ r.looks ∧ r.looks ≤ 3
  taken : 0 ≤ r.taken ∧ r.taken ≤ 3
  r0 : 0 ≤ r.a0 ∧ r.a0 ≤ 4294967295
  r1 : 0 ≤ r.a1 ∧ r.a1 ≤ 4294967295
  r2 : 0 ≤ r.a2 ∧ r.a2 ≤ 4294967295
  r3 : 0 ≤ r.a3 ∧ r.a3 ≤ 4294967295
  uid : 0 ≤ r.uid ∧ r.uid ≤ 127
  id : 0 ≤ r.id ∧ r.id ≤ 127
  sid : 0 ≤ r.sid ∧ r.sid ≤ 127
def R.pick (r : R) (part n : Int) : A × R :=
  if part = 0 then (if r.adr part = n then (.no, { r with taken := 1 }) else (.no, { r with taken := 0 }))
  else if part = r.taken then (if r.adr part = n then (if r.taken + 1 = 4 then (.one 68 0, { r with taken := 0, mode := 1 }) else (.no, { r with taken := r.taken + 1 })) else (.no, { r with taken := 0 }))
  else (.no, { r with taken := 0 })
/-- Whether from a bit on all bits are those of the part that it looks for. -/
def R.Sees (r : R) (q5 n : Int) : Prop := ∀ i : Nat, i < 32 → q5 ≤ (i : Int) → r.adr r.looks / 2 ^ i % 2 = n / 2 ^ i % 2
instance (r : R) (q5 n : Int) : Decidable (r.Sees q5 n) := Nat.decidableBallLT 32 _
def R.scan (r : R) (q : Q) (n : Int) : A × R :=
  if q.q5 = 128 then (.one 79 0, { r with looks := 0 })
  else if 31 < q.q5 then (.no, r)
  else if 3 < q.q6 then (.no, r)
  else if 3 < q.q7 then (.no, r)
  else if q.q6 ≠ r.looks then (.no, r)
  else if ¬ r.Sees q.q5 n then (.no, r)
  else if q.q5 = 0 then (if q.q7 < q.q6 then (.one 79 0, { r with looks := 0, mode := 1 }) else (.one 79 0, { r with looks := q.q7 }))
  else (.one 79 0, r)
def R.set (r : R) (q : Q) : A × R :=
  if q.q0 = 17 then (if q.q1 = 0 then (.one 17 1, r) else if 127 < q.q1 ∧ q.q1 < 255 then (.one 17 1, r) else (.one 17 0, { r with id := q.q1 % 255 }))
  else if q.q0 = 19 then (if q.q1 ≠ 0 then (.one 19 1, r) else if q.q2 = 5 then (.one 19 1, r) else if 8 < q.q2 then (.one 19 1, r) else (.one 19 0, { r with rate := q.q2 }))
  else if q.q0 = 21 then (.no, { r with urate := r.rate })
  else if q.q0 = 23 then (if r.fails = true then (.one 23 2, r) else (.one 23 0, { r with sid := r.id, srate := r.rate, has := true }))
  else if 90 ≤ q.q0 ∧ q.q0 ≤ 93 then (.num q.q0 (r.adr (q.q0 - 90)), r)
  else if q.q0 = 94 then (if r.uid = 0 then (.one 94 255, r) else (.one 94 r.uid, r))
  else (.no, r)
def numR (q1 q2 q3 q4 : Int) : Int := q1 + 256 * q2 + 65536 * q3 + 16777216 * q4
def R.take (r : R) (q : Q) : A × R :=
  if q.q0 = 4 then (.no, if q.q1 = 0 then (if r.uid = 0 then { r with mode := 0, uid := r.id } else { r with mode := 0 }) else if q.q1 = 1 then { r with mode := 1 } else r)
  else if q.q0 = 76 ∧ r.id = 0 ∧ r.uid = 0 then (.one 80 0, r)
  else if r.mode = 1 then r.set q
  else if 64 ≤ q.q0 ∧ q.q0 ≤ 67 then r.pick (q.q0 - 64) (numR q.q1 q.q2 q.q3 q.q4)
  else if q.q0 = 81 ∧ r.id = 0 ∧ r.uid = 0 then r.scan q (numR q.q1 q.q2 q.q3 q.q4)
  else (.no, r)
def R.restart (r : R) : R := if r.has = true then { r with mode := 0, taken := 0, looks := 0, id := r.sid, rate := r.srate, urate := r.srate, uid := r.sid } else { r with mode := 0, taken := 0, looks := 0, uid := r.id }
theorem c27 {H : Heap} {K : Value → Heap → Prop} (c n : Int) (hn : 0 ≤ n ∧ n ≤ 4294967295) (h : K (fr8 c (n % 256) (n / 256 % 256) (n / 65536 % 256) (n / 16777216) 0 0 0) H) : SCalls Try.prog 33 [.int .u8 c, .int .u32 n] H K := by
  refine SCalls.any (K := fun v N => v = fr8 c (n % 256) (n / 256 % 256) (n / 65536 % 256) (n / 16777216) 0 0 0 ∧ N = []) (enter33 ?_) (by rintro v N ⟨rfl, rfl⟩; exact h)
  repeat' ((conv => whnf); (first
      | with_reducible refine Val.wtdiv (by omega) ?_
      | with_reducible refine Val.tmod (by omega) ?_
      | refine New.mk (fun _ => ?_)
      | refine Look.at0 ?_
      | refine Cell.row ?_
      | refine Cell.buf ?_
      | refine Cells.row rfl ?_
      | refine Put.row rfl ?_
      | refine Put.buf rfl ?_
      | refine Look.at1 ?_
      | refine Look.at2 ?_
      | refine Look.at3 ?_
      | refine Look.at4 ?_
      | refine Look.at5 ?_
      | refine Look.at6 ?_
      | refine Look.at7 ?_
      | refine Look.at8 ?_
      | with_reducible refine Val.i64 (by omega) (by omega) ?_
      | with_reducible refine Val.u8 (by omega) (by omega) ?_
      | with_reducible refine Val.u32 (by omega) (by omega) ?_
      | with_reducible refine Val.u64 (by omega) (by omega) ?_
      | with_reducible refine Val.u8m ?_
      | with_reducible refine Val.u32m ?_
      | with_reducible refine Val.u64m ?_
      | with_reducible refine Val.shr8 ?_
      | with_reducible refine Val.shr16 (by decide) ?_
      | with_reducible refine Val.shr24 (by decide) ?_
      | with_reducible refine Val.raw ?_
      | refine Branch.not ?_
      | refine Branch.and ?_
      | refine Branch.or ?_
      | refine Branch.dt (by assumption) ?_
      | refine Branch.df (by assumption) ?_
      | refine Branch.dt rfl ?_
      | refine Branch.dt (by omega) ?_
      | refine Branch.df (by omega) ?_
      | refine Branch.t rfl ?_
      | refine Branch.f rfl ?_
      | refine Branch.t (by assumption) ?_
      | refine Branch.f (by assumption) ?_
      | refine Branch.d (fun _ => ?_) (fun _ => ?_)
      | refine Branch.mk (fun _ => ?_) (fun _ => ?_)
      | refine Need.mk (by first | omega | decide | rfl) ?_
      | refine Idx.nat (by omega) ?_
      | refine Idx.auto (by first | omega | decide) (by first | omega | decide) ?_
      | refine Cell.ro rfl ?_
      | refine SDraw.all (by kernel_rfl) ?_
      | refine Kept.k0 ?_
      | refine Kept.k1 ?_
      | refine Kept.k2 ?_
      | refine Kept.k3 ?_
      | refine Kept.k4 ?_))
  all_goals (conv => whnf)
  all_goals exact Keep.sub [] (List.nil_sublist _) ⟨rfl, rfl⟩
theorem c27z {H : Heap} {K : Value → Heap → Prop} (c : Int) (h : K (fr8 c 0 0 0 0 0 0 0) H) : SCalls Try.prog 33 [.int .u8 c, .int .u32 0] H K := c27 c 0 (by decide) (by simpa using h)
theorem c27s {H : Heap} {K : Value → Heap → Prop} (c n : Int) (hn : 0 ≤ n ∧ n ≤ 255) (h : K (fr8 c n 0 0 0 0 0 0) H) : SCalls Try.prog 33 [.int .u8 c, .int .u32 n] H K :=
  c27 c n (by omega) (by rw [Int.emod_eq_of_lt (by omega) (by omega), show n / 256 = 0 by omega, show n / 65536 = 0 by omega, show n / 16777216 = 0 by omega]; exact h)
section
variable {K : Value → Heap → Prop} {g p : Nat} (r : R)
theorem c29 (hr : r.Ok) (part n : Int) (hp : 0 ≤ part ∧ part ≤ 3) (h : K (r.pick part n).1.val [(g, (r.pick part n).2.row)]) : SCalls Try.prog 45 [.pointer (some ⟨g, 0, none⟩), .int .i64 part, .int .u32 n] [(g, r.row)] K := by
  obtain ⟨a0, a1, a2, a3, id, rate, uid, urate, sid, srate, has, fails, mode, taken, looks⟩ := r
  have htk := hr.taken
  dsimp only at htk
  clear hr
  dsimp only [R.row]
  refine enter45 ?_
  repeat' ((conv => whnf); (first
      | refine c27z _ ?_
      | refine adr_cell (by omega) ?_
      | refine New.mk (fun _ => ?_)
      | refine Look.at0 ?_
      | refine Cell.row ?_
      | refine Cell.buf ?_
      | refine Cells.row rfl ?_
      | refine Put.row rfl ?_
      | refine Put.buf rfl ?_
      | refine Look.at1 ?_
      | refine Look.at2 ?_
      | refine Look.at3 ?_
      | refine Look.at4 ?_
      | refine Look.at5 ?_
      | refine Look.at6 ?_
      | refine Look.at7 ?_
      | refine Look.at8 ?_
      | with_reducible refine Val.i64 (by omega) (by omega) ?_
      | with_reducible refine Val.u8 (by omega) (by omega) ?_
      | with_reducible refine Val.u32 (by omega) (by omega) ?_
      | with_reducible refine Val.u64 (by omega) (by omega) ?_
      | with_reducible refine Val.u8m ?_
      | with_reducible refine Val.u32m ?_
      | with_reducible refine Val.u64m ?_
      | with_reducible refine Val.shr8 ?_
      | with_reducible refine Val.shr16 (by decide) ?_
      | with_reducible refine Val.shr24 (by decide) ?_
      | with_reducible refine Val.raw ?_
      | refine Branch.not ?_
      | refine Branch.and ?_
      | refine Branch.or ?_
      | refine Branch.dt (by assumption) ?_
      | refine Branch.df (by assumption) ?_
      | refine Branch.dt rfl ?_
      | refine Branch.dt (by omega) ?_
      | refine Branch.df (by omega) ?_
      | refine Branch.t rfl ?_
      | refine Branch.f rfl ?_
      | refine Branch.t (by assumption) ?_
      | refine Branch.f (by assumption) ?_
      | refine Branch.d (fun _ => ?_) (fun _ => ?_)
      | refine Branch.mk (fun _ => ?_) (fun _ => ?_)
      | refine Need.mk (by first | omega | decide | rfl) ?_
      | refine Idx.nat (by omega) ?_
      | refine Idx.auto (by first | omega | decide) (by first | omega | decide) ?_
      | refine Cell.ro rfl ?_
      | refine SDraw.all (by kernel_rfl) ?_
      | refine Kept.k0 ?_
      | refine Kept.k1 ?_
      | refine Kept.k2 ?_
      | refine Kept.k3 ?_
      | refine Kept.k4 ?_))
  all_goals (conv => whnf)
  all_goals
    revert h
    dsimp only [R.pick, R.adr]
    intro h
    subst_vars
    first
      | (exfalso; omega)
      | (simp only [*, ↓reduceIte, not_false_eq_true, not_true_eq_false, ne_eq] at h
         first | exact Keep.d1 h | (simp (config := { decide := true }) only [*, ↓reduceIte, Int.zero_add] at h; exact Keep.d1 h))
end
end Go.Proofs.Ytkegkhhfbfegoaa.Ls

/- Layer 19: the document's slave: scan, set and Take, by walks. -/
set_option linter.unusedVariables false
set_option linter.unusedSimpArgs false
set_option maxRecDepth 100000
set_option maxHeartbeats 4000000
namespace Go.Proofs.Ytkegkhhfbfegoaa.Ls
open Go.Proofs.Ytkegkhhfbfegoaa Go.Proofs.Ytkegkhhfbfegoaa.Sx
inductive Sl30 (A0 A2 A4 A6 A8 : Value) : List Value → Prop
  | mk {r1 r3 r5 r7 r9 r10 r11 r12 r13 r14 r15 r16 r17 r18 r19 r20 r21 r22 r23 r24 r25 r26 r27 r28 r29 r30 r31 r32 r33 r34 r35 r36 r37 r38 r39 r40 r41 r42 r43 r44 r45 r46 r47 r48 r49 r50 r51 r52 r53 r54 r55 r56 r57 r58 r59 r60 r61 r62 r63 r64 r65 r66 r67 r68 r69 r70 r71 r72 r73 r74 r75 r76 r77 r78 r79 r80 r81 r82 r83 r84 r85 r86 r87 : Value} : Sl30 A0 A2 A4 A6 A8 [A0, r1, A2, r3, A4, r5, A6, r7, A8, r9, r10, r11, r12, r13, r14, r15, r16, r17, r18, r19, r20, r21, r22, r23, r24, r25, r26, r27, r28, r29, r30, r31, r32, r33, r34, r35, r36, r37, r38, r39, r40, r41, r42, r43, r44, r45, r46, r47, r48, r49, r50, r51, r52, r53, r54, r55, r56, r57, r58, r59, r60, r61, r62, r63, r64, r65, r66, r67, r68, r69, r70, r71, r72, r73, r74, r75, r76, r77, r78, r79, r80, r81, r82, r83, r84, r85, r86, r87]
def I30 (g : Nat) (q0 q1 q2 q3 q4 q5 q6 q7 : Int) (r : R) (n : Int) (l : List Value) (H : Heap) : Prop :=
  ∃ (i p4 p6 : Nat), q5 ≤ (i : Int) ∧ i ≤ 32 ∧ (∀ j : Nat, q5 ≤ (j : Int) → j < i → r.adr r.looks / 2 ^ j % 2 = n / 2 ^ j % 2) ∧
    Sl30 (.pointer (some ⟨g, 0, none⟩)) (.int .u32 n) (.pointer (some ⟨p4, 0, none⟩)) (.pointer (some ⟨p6, 0, none⟩)) (.int .i64 (i : Int)) l ∧
    H = [(p6, .row 55 [.int .u8 0, .int .u8 0, .int .u8 0, .int .u8 0, .int .u8 0, .int .u8 0, .int .u8 0, .int .u8 0] (0, 0)), (p4, .row 55 [.int .u8 q0, .int .u8 q1, .int .u8 q2, .int .u8 q3, .int .u8 q4, .int .u8 q5, .int .u8 q6, .int .u8 q7] (0, 0)), (g, r.row)]
noncomputable def M30 (l : List Value) (_ : Heap) : Nat := 32 - (match getL l 8 with | .int _ i => i.toNat | _ => 0)
section
variable {K : Value → Heap → Prop} {g p : Nat} (r : R)
theorem c30 (hr : r.Ok) (q : Q) (hq : q.Ok) (n : Int) (hn : 0 ≤ n ∧ n ≤ 4294967295) (h : K (r.scan q n).1.val [(g, (r.scan q n).2.row)]) : SCalls Try.prog 46 [.pointer (some ⟨g, 0, none⟩), q.val, .int .u32 n] [(g, r.row)] K := by
  have hadr : 0 ≤ r.adr r.looks := by
    obtain ⟨_, _, e0, e1, e2, e3, _, _, _⟩ := hr
    unfold R.adr adrOf; (repeat' split) <;> omega
  have hlk := hr.looks
  have hq' := hq
  generalize he : r.scan q n = al at h
  obtain ⟨q0, q1, q2, q3, q4, q5, q6, q7⟩ := q
  obtain ⟨r0, r1, r2, r3, r4, r5, r6, r7⟩ := hq
  dsimp only at r0 r1 r2 r3 r4 r5 r6 r7
  dsimp only [Q.val]
  obtain ⟨a, r'⟩ := al
  dsimp only at h
  unfold R.scan at he
  dsimp only at he
  refine enter46 ?_
  repeat' ((conv => whnf); (first
      | refine c27z _ ?_
      | unfold R.row
      | refine New.mk (fun _ => ?_)
      | refine Look.at0 ?_
      | refine Cell.row ?_
      | refine Cell.buf ?_
      | refine Cells.row rfl ?_
      | refine Put.row rfl ?_
      | refine Put.buf rfl ?_
      | refine Look.at1 ?_
      | refine Look.at2 ?_
      | refine Look.at3 ?_
      | refine Look.at4 ?_
      | refine Look.at5 ?_
      | refine Look.at6 ?_
      | refine Look.at7 ?_
      | refine Look.at8 ?_
      | with_reducible refine Val.i64 (by omega) (by omega) ?_
      | with_reducible refine Val.u8 (by omega) (by omega) ?_
      | with_reducible refine Val.u32 (by omega) (by omega) ?_
      | with_reducible refine Val.u64 (by omega) (by omega) ?_
      | with_reducible refine Val.u8m ?_
      | with_reducible refine Val.u32m ?_
      | with_reducible refine Val.u64m ?_
      | with_reducible refine Val.shr8 ?_
      | with_reducible refine Val.shr16 (by decide) ?_
      | with_reducible refine Val.shr24 (by decide) ?_
      | with_reducible refine Val.raw ?_
      | refine Branch.not ?_
      | refine Branch.and ?_
      | refine Branch.or ?_
      | refine Branch.dt (by assumption) ?_
      | refine Branch.df (by assumption) ?_
      | refine Branch.dt rfl ?_
      | refine Branch.dt (by omega) ?_
      | refine Branch.df (by omega) ?_
      | refine Branch.t rfl ?_
      | refine Branch.f rfl ?_
      | refine Branch.t (by assumption) ?_
      | refine Branch.f (by assumption) ?_
      | refine Branch.d (fun _ => ?_) (fun _ => ?_)
      | refine Branch.mk (fun _ => ?_) (fun _ => ?_)
      | refine Need.mk (by first | omega | decide | rfl) ?_
      | refine Idx.nat (by omega) ?_
      | refine Idx.auto (by first | omega | decide) (by first | omega | decide) ?_
      | refine Cell.ro rfl ?_
      | refine SDraw.all (by kernel_rfl) ?_
      | refine Kept.k0 ?_
      | refine Kept.k1 ?_
      | refine Kept.k2 ?_
      | refine Kept.k3 ?_
      | refine Kept.k4 ?_))
  all_goals (conv => whnf)
  all_goals try
    ((repeat' (split at he)) <;> first | (exfalso; omega) | (have e1 := congrArg Prod.fst he; have e2 := congrArg Prod.snd he; dsimp only at e1 e2; subst e1; subst e2; clear he; subst_vars; exact Keep.d2 h))
  rw [if_neg (by omega), if_neg (by omega), if_neg (by omega), if_neg (by omega), if_neg (by omega)] at he
  refine SLoop.inv (I30 g q0 q1 q2 q3 q4 q5 q6 q7 r n) M30 (Keep.all ⟨q5.toNat, _, _, by omega, by omega, fun j h1 h2 => by omega, by rw [Int.toNat_of_nonneg (by omega)]; exact .mk, rfl⟩) ?_
  rintro S H ⟨i, p4, p6, hi, hi2, hall, hS, rfl⟩ R hR
  cases hS
  have hb : i ≤ IntKind.u32.bits := hi2
  have hd1 : 0 ≤ adrOf r.a0 r.a1 r.a2 r.a3 r.looks / 2 ^ i := Int.ediv_nonneg hadr (Int.le_of_lt (Int.pow_pos (by decide)))
  have hd2 : 0 ≤ n / 2 ^ i := Int.ediv_nonneg hn.1 (Int.le_of_lt (Int.pow_pos (by decide)))
  repeat' ((conv => whnf); (first
      | refine c27z _ ?_
      | unfold R.row
      | refine adr_cell (by omega) ?_
      | with_reducible refine Val.shr i rfl hb ?_
      | with_reducible refine Val.tmod (by assumption) ?_
      | refine New.mk (fun _ => ?_)
      | refine Look.at0 ?_
      | refine Cell.row ?_
      | refine Cell.buf ?_
      | refine Cells.row rfl ?_
      | refine Put.row rfl ?_
      | refine Put.buf rfl ?_
      | refine Look.at1 ?_
      | refine Look.at2 ?_
      | refine Look.at3 ?_
      | refine Look.at4 ?_
      | refine Look.at5 ?_
      | refine Look.at6 ?_
      | refine Look.at7 ?_
      | refine Look.at8 ?_
      | with_reducible refine Val.i64 (by omega) (by omega) ?_
      | with_reducible refine Val.u8 (by omega) (by omega) ?_
      | with_reducible refine Val.u32 (by omega) (by omega) ?_
      | with_reducible refine Val.u64 (by omega) (by omega) ?_
      | with_reducible refine Val.u8m ?_
      | with_reducible refine Val.u32m ?_
      | with_reducible refine Val.u64m ?_
      | with_reducible refine Val.shr8 ?_
      | with_reducible refine Val.shr16 (by decide) ?_
      | with_reducible refine Val.shr24 (by decide) ?_
      | with_reducible refine Val.raw ?_
      | refine Branch.not ?_
      | refine Branch.and ?_
      | refine Branch.or ?_
      | refine Branch.dt (by assumption) ?_
      | refine Branch.df (by assumption) ?_
      | refine Branch.dt rfl ?_
      | refine Branch.dt (by omega) ?_
      | refine Branch.df (by omega) ?_
      | refine Branch.t rfl ?_
      | refine Branch.f rfl ?_
      | refine Branch.t (by assumption) ?_
      | refine Branch.f (by assumption) ?_
      | refine Branch.d (fun _ => ?_) (fun _ => ?_)
      | refine Branch.mk (fun _ => ?_) (fun _ => ?_)
      | refine Need.mk (by first | omega | decide | rfl) ?_
      | refine Idx.nat (by omega) ?_
      | refine Idx.auto (by first | omega | decide) (by first | omega | decide) ?_
      | refine Cell.ro rfl ?_
      | refine SDraw.all (by kernel_rfl) ?_
      | refine Kept.k0 ?_
      | refine Kept.k1 ?_
      | refine Kept.k2 ?_
      | refine Kept.k3 ?_
      | refine Kept.k4 ?_))
  all_goals (conv => whnf)
  all_goals first
    | (refine hR _ _ (Keep.all ⟨⟨i + 1, p4, p6, by omega, by omega, fun j h1 h2 => ?_, .mk, rfl⟩, ?_⟩)
       · by_cases hj : j = i
         · subst hj; assumption
         · exact hall j h1 (by omega)
       · show 32 - Int.toNat ((i : Int) + 1) < 32 - Int.toNat (i : Int); omega)
    | (have hs : r.Sees q5 n := fun j h1 h2 => hall j h2 (by omega)
       rw [if_neg (fun e => e hs)] at he
       (repeat' (split at he)) <;> first | (exfalso; omega) | (have e1 := congrArg Prod.fst he; have e2 := congrArg Prod.snd he; dsimp only at e1 e2; subst e1; subst e2; clear he; subst_vars; exact Keep.d2 h))
    | (have hs : ¬ r.Sees q5 n := fun hs => absurd (hs i (by omega) hi) (by assumption)
       rw [if_pos hs] at he
       (repeat' (split at he)) <;> first | (exfalso; omega) | (have e1 := congrArg Prod.fst he; have e2 := congrArg Prod.snd he; dsimp only at e1 e2; subst e1; subst e2; clear he; subst_vars; exact Keep.d2 h))
    | trace_state
theorem c28 (hr : r.Ok) (q : Q) (hq : q.Ok) (h : K (r.set q).1.val [(g, (r.set q).2.row)]) : SCalls Try.prog 44 [.pointer (some ⟨g, 0, none⟩), q.val] [(g, r.row)] K := by
  have hadr : ∀ k, 0 ≤ adrOf r.a0 r.a1 r.a2 r.a3 k ∧ adrOf r.a0 r.a1 r.a2 r.a3 k ≤ 4294967295 := by
    intro k
    obtain ⟨_, _, e0, e1, e2, e3, _, _, _⟩ := hr
    unfold adrOf; (repeat' split) <;> omega
  have huid := hr.uid
  generalize he : r.set q = al at h
  obtain ⟨q0, q1, q2, q3, q4, q5, q6, q7⟩ := q
  obtain ⟨r0, r1, r2, r3, r4, r5, r6, r7⟩ := hq
  dsimp only at r0 r1 r2 r3 r4 r5 r6 r7
  dsimp only [Q.val]
  obtain ⟨a, r'⟩ := al
  dsimp only at h
  unfold R.set at he
  dsimp only at he
  refine enter44 ?_
  repeat' ((conv => whnf); (first
      | refine SDraw.held (by kernel_rfl) [(g, .ro (partF [(4, .int .i64 r.id), (5, .int .i64 r.rate)])), (_, .row 55 [.int .u8 q0, .int .u8 q1, .int .u8 q2, .int .u8 q3, .int .u8 q4, .int .u8 q5, .int .u8 q6, .int .u8 q7] (0, 0))] (Seen.cells (.tail _ (.tail _ (.head _))) ⟨rfl, rfl, trivial⟩ (.same (.tail _ (.head _)) .nil)) ?_
      | refine Kept.mk (Seen.cells (.tail _ (.tail _ (.head _))) ⟨rfl, rfl, trivial⟩ (.same (.tail _ (.head _)) .nil)) ?_
      | refine c27z _ ?_
      | refine c27s _ _ (by omega) ?_
      | refine c27 _ _ (hadr _) ?_
      | unfold R.row
      | refine adr_cell (by omega) ?_
      | with_reducible refine Val.tmod (by omega) ?_
      | refine New.mk (fun _ => ?_)
      | refine Look.at0 ?_
      | refine Cell.row ?_
      | refine Cell.buf ?_
      | refine Cells.row rfl ?_
      | refine Put.row rfl ?_
      | refine Put.buf rfl ?_
      | refine Look.at1 ?_
      | refine Look.at2 ?_
      | refine Look.at3 ?_
      | refine Look.at4 ?_
      | refine Look.at5 ?_
      | refine Look.at6 ?_
      | refine Look.at7 ?_
      | refine Look.at8 ?_
      | with_reducible refine Val.i64 (by omega) (by omega) ?_
      | with_reducible refine Val.u8 (by omega) (by omega) ?_
      | with_reducible refine Val.u32 (by omega) (by omega) ?_
      | with_reducible refine Val.u64 (by omega) (by omega) ?_
      | with_reducible refine Val.u8m ?_
      | with_reducible refine Val.u32m ?_
      | with_reducible refine Val.u64m ?_
      | with_reducible refine Val.shr8 ?_
      | with_reducible refine Val.shr16 (by decide) ?_
      | with_reducible refine Val.shr24 (by decide) ?_
      | with_reducible refine Val.raw ?_
      | refine Branch.not ?_
      | refine Branch.and ?_
      | refine Branch.or ?_
      | refine Branch.dt (by assumption) ?_
      | refine Branch.df (by assumption) ?_
      | refine Branch.dt rfl ?_
      | refine Branch.dt (by omega) ?_
      | refine Branch.df (by omega) ?_
      | refine Branch.t rfl ?_
      | refine Branch.f rfl ?_
      | refine Branch.t (by assumption) ?_
      | refine Branch.f (by assumption) ?_
      | refine Branch.d (fun _ => ?_) (fun _ => ?_)
      | refine Branch.mk (fun _ => ?_) (fun _ => ?_)
      | refine Need.mk (by first | omega | decide | rfl) ?_
      | refine Idx.nat (by omega) ?_
      | refine Idx.auto (by first | omega | decide) (by first | omega | decide) ?_
      | refine Cell.ro rfl ?_
      | refine SDraw.all (by kernel_rfl) ?_
      | refine Kept.k0 ?_
      | refine Kept.k1 ?_
      | refine Kept.k2 ?_
      | refine Kept.k3 ?_
      | refine Kept.k4 ?_))
  all_goals (conv => whnf)
  all_goals try (have n94 : ¬ q0 = 94 := by omega)
  all_goals first
    | ((repeat' (split at he)) <;> first | (exfalso; omega) | (exfalso; exact absurd ‹r.fails = true› (by rw [‹r.fails = false›]; exact Bool.false_ne_true)) | (have e1 := congrArg Prod.fst he; have e2 := congrArg Prod.snd he; dsimp only at e1 e2; subst e1; subst e2; clear he; subst_vars; exact Keep.d2 h))
    | trace_state
/-- The document's Take. -/
theorem c24 (hr : r.Ok) (q : Q) (hq : q.Ok) (h : K (r.take q).1.val [(g, (r.take q).2.row)]) : SCalls Try.prog 41 [.pointer (some ⟨g, 0, none⟩), q.val] [(g, r.row)] K := by
  have hq' := hq
  have hn : 0 ≤ numR q.q1 q.q2 q.q3 q.q4 ∧ numR q.q1 q.q2 q.q3 q.q4 ≤ 4294967295 := by
    obtain ⟨r0, r1, r2, r3, r4, r5, r6, r7⟩ := hq
    unfold numR; omega
  generalize he : r.take q = al at h
  obtain ⟨q0, q1, q2, q3, q4, q5, q6, q7⟩ := q
  obtain ⟨r0, r1, r2, r3, r4, r5, r6, r7⟩ := hq
  dsimp only at r0 r1 r2 r3 r4 r5 r6 r7 hn
  dsimp only [Q.val]
  obtain ⟨a, r'⟩ := al
  dsimp only at h
  unfold R.take at he
  dsimp only at he
  refine enter41 ?_
  repeat' ((conv => whnf); (first
      | refine c27z _ ?_
      | refine SCalls.at2 (c28 r hr ⟨q0, q1, q2, q3, q4, q5, q6, q7⟩ hq' ?_)
      | refine SCalls.at2 (c29 r hr _ _ (by omega) ?_)
      | refine SCalls.at2 (c30 r hr ⟨q0, q1, q2, q3, q4, q5, q6, q7⟩ hq' _ hn ?_)
      | unfold R.row
      | refine New.mk (fun _ => ?_)
      | refine Look.at0 ?_
      | refine Cell.row ?_
      | refine Cell.buf ?_
      | refine Cells.row rfl ?_
      | refine Put.row rfl ?_
      | refine Put.buf rfl ?_
      | refine Look.at1 ?_
      | refine Look.at2 ?_
      | refine Look.at3 ?_
      | refine Look.at4 ?_
      | refine Look.at5 ?_
      | refine Look.at6 ?_
      | refine Look.at7 ?_
      | refine Look.at8 ?_
      | with_reducible refine Val.i64 (by omega) (by omega) ?_
      | with_reducible refine Val.u8 (by omega) (by omega) ?_
      | with_reducible refine Val.u32 (by omega) (by omega) ?_
      | with_reducible refine Val.u64 (by omega) (by omega) ?_
      | with_reducible refine Val.u8m ?_
      | with_reducible refine Val.u32m ?_
      | with_reducible refine Val.u64m ?_
      | with_reducible refine Val.shr8 ?_
      | with_reducible refine Val.shr16 (by decide) ?_
      | with_reducible refine Val.shr24 (by decide) ?_
      | with_reducible refine Val.raw ?_
      | refine Branch.not ?_
      | refine Branch.and ?_
      | refine Branch.or ?_
      | refine Branch.dt (by assumption) ?_
      | refine Branch.df (by assumption) ?_
      | refine Branch.dt rfl ?_
      | refine Branch.dt (by omega) ?_
      | refine Branch.df (by omega) ?_
      | refine Branch.t rfl ?_
      | refine Branch.f rfl ?_
      | refine Branch.t (by assumption) ?_
      | refine Branch.f (by assumption) ?_
      | refine Branch.d (fun _ => ?_) (fun _ => ?_)
      | refine Branch.mk (fun _ => ?_) (fun _ => ?_)
      | refine Need.mk (by first | omega | decide | rfl) ?_
      | refine Idx.nat (by omega) ?_
      | refine Idx.auto (by first | omega | decide) (by first | omega | decide) ?_
      | refine Cell.ro rfl ?_
      | refine SDraw.all (by kernel_rfl) ?_
      | refine Kept.k0 ?_
      | refine Kept.k1 ?_
      | refine Kept.k2 ?_
      | refine Kept.k3 ?_
      | refine Kept.k4 ?_))
  all_goals (conv => whnf)
  all_goals first
    | ((repeat' (split at he)) <;> first | (exfalso; omega) | (have e1 := congrArg Prod.fst he; have e2 := congrArg Prod.snd he; dsimp only at e1 e2; subst e1; subst e2; clear he; subst_vars; exact Keep.d2 h))
    | trace_state
end
end Go.Proofs.Ytkegkhhfbfegoaa.Ls

/- Layer 19: what a slave does with commands, by walks (going on). -/
set_option linter.unusedVariables false
set_option linter.unusedSimpArgs false
set_option maxRecDepth 100000
set_option maxHeartbeats 4000000
namespace Go.Proofs.Ytkegkhhfbfegoaa.Ls
open Go.Proofs.Ytkegkhhfbfegoaa Go.Proofs.Ytkegkhhfbfegoaa.Sx
theorem Keep.s2 {a x y b : Nat × Blk} {K : Heap → Prop} (h : K [b, a]) : Keep [a, x, y, b] K :=
  ⟨[b, a, x, y], [b, a], (List.perm_append_comm : ([a, x, y] ++ [b]).Perm ([b] ++ [a, x, y])), List.Sublist.cons_cons _ (List.Sublist.cons_cons _ (List.nil_sublist _)), h⟩
theorem adrOf_bd {l : L} (hl : l.Ok) (k : Int) : 0 ≤ adrOf l.a0 l.a1 l.a2 l.a3 k ∧ adrOf l.a0 l.a1 l.a2 l.a3 k ≤ 4294967295 := by
  obtain ⟨_, _, _, e0, e1, e2, e3, _, _⟩ := hl
  unfold adrOf
  (repeat' split) <;> assumption
section
variable {K : Value → Heap → Prop} {g p : Nat} (l : L)
theorem c23g (hl : l.Ok) (q : Q) (hq : q.Ok) (sp : Option Addr) (hs : q.q0 = 23 → l.fails = false → ∀ p, K (A.one 23 0).val [(g, l.row (some ⟨p, 0, none⟩)), (p, .row 74 [.int .i64 l.pid, .int .i64 l.pr] (0, 0))])
    (h : ¬ (q.q0 = 23 ∧ l.fails = false) → K (l.configures q).1.val [(g, (l.configures q).2.row sp)]) : SCalls Try.prog 39 [.pointer (some ⟨g, 0, none⟩), q.val] [(g, l.row sp)] K := by
  have hadr := adrOf_bd hl
  obtain ⟨a0, a1, a2, a3, pid, pr, uid, ur, mode, taken, looks, st, fails⟩ := l
  have huid := hl.uid
  dsimp only at huid hadr
  clear hl
  obtain ⟨q0, q1, q2, q3, q4, q5, q6, q7⟩ := q
  obtain ⟨r0, r1, r2, r3, r4, r5, r6, r7⟩ := hq
  dsimp only at r0 r1 r2 r3 r4 r5 r6 r7 hs h
  dsimp only [L.row, Q.val]
  refine enter39 ?_
  repeat' ((conv => whnf); (first
      | refine c19 _ _ (by first | omega | exact hadr _) ?_
      | refine c26 _ _ (by omega) ?_
      | refine adr_cell (by omega) ?_
      | refine New.mk (fun _ => ?_)
      | refine Look.at0 ?_
      | refine Cell.row ?_
      | refine Cell.buf ?_
      | refine Cells.row rfl ?_
      | refine Put.row rfl ?_
      | refine Put.buf rfl ?_
      | refine Look.at1 ?_
      | refine Look.at2 ?_
      | refine Look.at3 ?_
      | refine Look.at4 ?_
      | refine Look.at5 ?_
      | refine Look.at6 ?_
      | refine Look.at7 ?_
      | refine Look.at8 ?_
      | with_reducible refine Val.i64 (by omega) (by omega) ?_
      | with_reducible refine Val.u8 (by omega) (by omega) ?_
      | with_reducible refine Val.u32 (by omega) (by omega) ?_
      | with_reducible refine Val.u64 (by omega) (by omega) ?_
      | with_reducible refine Val.u8m ?_
      | with_reducible refine Val.u32m ?_
      | with_reducible refine Val.u64m ?_
      | with_reducible refine Val.shr8 ?_
      | with_reducible refine Val.shr16 (by decide) ?_
      | with_reducible refine Val.shr24 (by decide) ?_
      | with_reducible refine Val.raw ?_
      | refine Branch.not ?_
      | refine Branch.and ?_
      | refine Branch.or ?_
      | refine Branch.dt (by assumption) ?_
      | refine Branch.df (by assumption) ?_
      | refine Branch.dt rfl ?_
      | refine Branch.dt (by omega) ?_
      | refine Branch.df (by omega) ?_
      | refine Branch.t rfl ?_
      | refine Branch.f rfl ?_
      | refine Branch.t (by assumption) ?_
      | refine Branch.f (by assumption) ?_
      | refine Branch.d (fun _ => ?_) (fun _ => ?_)
      | refine Branch.mk (fun _ => ?_) (fun _ => ?_)
      | refine Need.mk (by first | omega | decide | rfl) ?_
      | refine Idx.nat (by omega) ?_
      | refine Idx.auto (by first | omega | decide) (by first | omega | decide) ?_
      | refine Cell.ro rfl ?_
      | refine SDraw.all (by kernel_rfl) ?_
      | refine Kept.k0 ?_
      | refine Kept.k1 ?_
      | refine Kept.k2 ?_
      | refine Kept.k3 ?_
      | refine Kept.k4 ?_))
  all_goals (conv => whnf)
  all_goals subst_vars
  all_goals try (have n94 : ¬ q0 = 94 := by omega)
  all_goals first
    | exact Keep.s2 (hs rfl (by first | rfl | assumption) _)
    | (have h := h (by simp [*])
       dsimp only [L.configures, L.adr] at h
       simp only [*, ↓reduceIte, not_false_eq_true, not_true_eq_false, ne_eq, and_true, true_and, and_false, false_and, and_self] at h
       exact Keep.d2 h)
/-- What Take asks: of an answer that stores, and of all others. -/
theorem c8g (hl : l.Ok) (q : Q) (hq : q.Ok) (sp : Option Addr) (hs : q.q0 = 23 → l.mode = 1 → l.fails = false → ∀ p, K (A.one 23 0).val [(g, l.row (some ⟨p, 0, none⟩)), (p, .row 74 [.int .i64 l.pid, .int .i64 l.pr] (0, 0))])
    (h : ¬ (q.q0 = 23 ∧ l.mode = 1 ∧ l.fails = false) → K (l.take q).1.val [(g, (l.take q).2.row sp)]) : SCalls Try.prog 25 [.pointer (some ⟨g, 0, none⟩), q.val] [(g, l.row sp)] K := by
  have hm := hl.mode
  have hq' := hq
  generalize he : l.take q = al at h
  obtain ⟨a, l'⟩ := al
  obtain ⟨q0, q1, q2, q3, q4, q5, q6, q7⟩ := q
  obtain ⟨r0, r1, r2, r3, r4, r5, r6, r7⟩ := hq
  dsimp only at r0 r1 r2 r3 r4 r5 r6 r7 hs h
  dsimp only [Q.val]
  refine enter25 ?_
  repeat' ((conv => whnf); (first
      | refine c19z _ ?_
      | refine c21 _ _ _ _ _ _ _ _ (by omega) (by omega) (by omega) (by omega) ?_
      | refine SCalls.at2 (c18g l _ sp ?_)
      | refine SCalls.at2 (c20g l hl _ _ (by omega) sp ?_)
      | refine SCalls.at2 (c22g l hl _ hq' sp ?_)
      | refine SCalls.at2 (c23g l hl _ hq' sp (fun _ _ _ => ?_) (fun _ => ?_))
      | unfold L.row
      | refine New.mk (fun _ => ?_)
      | refine Look.at0 ?_
      | refine Cell.row ?_
      | refine Cell.buf ?_
      | refine Cells.row rfl ?_
      | refine Put.row rfl ?_
      | refine Put.buf rfl ?_
      | refine Look.at1 ?_
      | refine Look.at2 ?_
      | refine Look.at3 ?_
      | refine Look.at4 ?_
      | refine Look.at5 ?_
      | refine Look.at6 ?_
      | refine Look.at7 ?_
      | refine Look.at8 ?_
      | with_reducible refine Val.i64 (by omega) (by omega) ?_
      | with_reducible refine Val.u8 (by omega) (by omega) ?_
      | with_reducible refine Val.u32 (by omega) (by omega) ?_
      | with_reducible refine Val.u64 (by omega) (by omega) ?_
      | with_reducible refine Val.u8m ?_
      | with_reducible refine Val.u32m ?_
      | with_reducible refine Val.u64m ?_
      | with_reducible refine Val.shr8 ?_
      | with_reducible refine Val.shr16 (by decide) ?_
      | with_reducible refine Val.shr24 (by decide) ?_
      | with_reducible refine Val.raw ?_
      | refine Branch.not ?_
      | refine Branch.and ?_
      | refine Branch.or ?_
      | refine Branch.dt (by assumption) ?_
      | refine Branch.df (by assumption) ?_
      | refine Branch.dt rfl ?_
      | refine Branch.dt (by omega) ?_
      | refine Branch.df (by omega) ?_
      | refine Branch.t rfl ?_
      | refine Branch.f rfl ?_
      | refine Branch.t (by assumption) ?_
      | refine Branch.f (by assumption) ?_
      | refine Branch.d (fun _ => ?_) (fun _ => ?_)
      | refine Branch.mk (fun _ => ?_) (fun _ => ?_)
      | refine Need.mk (by first | omega | decide | rfl) ?_
      | refine Idx.nat (by omega) ?_
      | refine Idx.auto (by first | omega | decide) (by first | omega | decide) ?_
      | refine Cell.ro rfl ?_
      | refine SDraw.all (by kernel_rfl) ?_
      | refine Kept.k0 ?_
      | refine Kept.k1 ?_
      | refine Kept.k2 ?_
      | refine Kept.k3 ?_
      | refine Kept.k4 ?_))
  all_goals (conv => whnf)
  all_goals try dsimp only at *
  all_goals try (have m1 : l.mode = 1 := by omega)
  all_goals try (have m0 : l.mode = 0 := by omega)
  all_goals first
    | (exfalso; omega)
    | exact Keep.d2 (hs (by assumption) (by assumption) (by assumption) _)
    | (have hk := h (by rintro ⟨e1, e2, e3⟩; first | omega | exact absurd (And.intro e1 e3) (by assumption))
       clear h
       unfold L.take at he
       dsimp only at he
       (repeat' (split at he)) <;> first | (exfalso; omega) | (have e1 := congrArg Prod.fst he; have e2 := congrArg Prod.snd he; dsimp only at e1 e2; subst e1; subst e2; clear he; subst_vars; exact Keep.d2 hk))
end
end Go.Proofs.Ytkegkhhfbfegoaa.Ls

/- Layer 19: whether a slave is given a number; a slave that waits. -/
set_option linter.unusedVariables false
set_option linter.unusedSimpArgs false
set_option maxRecDepth 100000
set_option maxHeartbeats 4000000
namespace Go.Proofs.Ytkegkhhfbfegoaa.Ls
open Go.Proofs.Ytkegkhhfbfegoaa Go.Proofs.Ytkegkhhfbfegoaa.Sx
section
variable {K : Value → Heap → Prop} {g p : Nat} (l : L)
theorem c8e {a : A} {l' : L} (hl : l.Ok) (q : Q) (hq : q.Ok) (sp : Option Addr) (he : l.take q = (a, l')) (hn : ¬ (q.q0 = 23 ∧ l.mode = 1 ∧ l.fails = false)) (h : K a.val [(g, l'.row sp)]) :
    SCalls Try.prog 25 [.pointer (some ⟨g, 0, none⟩), q.val] [(g, l.row sp)] K := by
  refine c8g l hl q hq sp (fun h1 h2 h3 => absurd ⟨h1, h2, h3⟩ hn) (fun _ => ?_)
  rw [he]; exact h
theorem take_waits (hm : l.mode = 0) (q : Q) (hq : q.q0 = 17 ∨ q.q0 = 19 ∨ q.q0 = 21 ∨ q.q0 = 23 ∨ (90 ≤ q.q0 ∧ q.q0 ≤ 94)) : l.take q = (.no, l) := by
  unfold L.take
  rw [if_neg (by omega), if_neg (by omega), if_neg (by omega), if_neg (by omega), if_neg (by omega)]
def live0 : L := ⟨1, 2, 3, 4, 0, 0, 0, 0, 0, 0, 0, none, false⟩
def live1 : L := { live0 with mode := 1 }
def live2 : L := { live1 with pid := 5 }
def live3 : L := { live2 with mode := 0, uid := 5 }
theorem live0_ok : live0.Ok := by constructor <;> first | decide | exact .inl rfl
theorem live1_ok : live1.Ok := by constructor <;> first | decide | exact .inr rfl
theorem live2_ok : live2.Ok := by constructor <;> first | decide | exact .inr rfl
end
end Go.Proofs.Ytkegkhhfbfegoaa.Ls

/- Layer 19: what stays of a slave behind a step: plain laws; Take, with what is stored. -/
set_option linter.unusedVariables false
set_option linter.unusedSimpArgs false
set_option maxRecDepth 100000
set_option maxHeartbeats 4000000
namespace Go.Proofs.Ytkegkhhfbfegoaa.Ls
open Go.Proofs.Ytkegkhhfbfegoaa Go.Proofs.Ytkegkhhfbfegoaa.Sx
/-- What is stored is a number in its bounds. -/
structure L.Fit (l : L) : Prop where
  ok : l.Ok
  st : ∀ i r, l.st = some (i, r) → 0 ≤ i ∧ i ≤ 127
theorem take_st (l : L) (q : Q) (h : ¬ (q.q0 = 23 ∧ l.mode = 1 ∧ l.fails = false)) (hm : l.mode = 0 ∨ l.mode = 1) : (l.take q).2.st = l.st := by
  unfold L.take
  (repeat' split) <;> first
    | rfl
    | exact L.selects_st _ _ _
    | exact L.scans_st _ _
    | (unfold L.switches; (repeat' split) <;> rfl)
    | (unfold L.configures
       (repeat' split) <;> first | rfl | (exfalso; rename_i hf; revert hf h; cases l.fails <;> simp_all))
theorem take_stores (l : L) (q : Q) (h : q.q0 = 23 ∧ l.mode = 1 ∧ l.fails = false) : l.take q = (.one 23 0, { l with st := some (l.pid, l.pr) }) := by
  obtain ⟨h1, h2, h3⟩ := h
  unfold L.take L.configures
  rw [if_neg (by omega), if_neg (by omega), if_neg (by omega), if_neg (by omega), if_pos h2, if_neg (by omega), if_neg (by omega), if_neg (by omega), if_pos h1, if_neg (by rw [h3]; decide)]
theorem take_uid (l : L) (q : Q) : (l.take q).2.uid = l.uid ∨ (q.q0 = 4 ∧ q.q1 = 0 ∧ l.uid = 0 ∧ (l.take q).2.uid = l.pid) := by
  unfold L.take
  split
  · rename_i h4
    unfold L.switches
    split
    · split
      · exact .inr ⟨h4, by assumption, by assumption, rfl⟩
      · exact .inl rfl
    · split <;> exact .inl rfl
  · left
    (repeat' split) <;> first
      | rfl
      | (unfold L.selects; (repeat' split) <;> rfl)
      | (unfold L.scans; (repeat' split) <;> rfl)
      | (unfold L.configures; (repeat' split) <;> rfl)
theorem switches_ok (l : L) (hl : l.Ok) (x : Int) : (l.switches x).Ok := by
  obtain ⟨h1, h2, h3, h4, h5, h6, h7, h8, h9⟩ := hl
  unfold L.switches
  (repeat' split) <;> constructor <;> first | assumption | exact .inl rfl | exact .inr rfl
theorem selects_ok (l : L) (hl : l.Ok) (k n : Int) : (l.selects k n).2.Ok := by
  obtain ⟨h1, h2, h3, h4, h5, h6, h7, h8, h9⟩ := hl
  unfold L.selects
  (repeat' split) <;> constructor <;> first | assumption | exact .inl rfl | exact .inr rfl | decide | (dsimp only; omega)
theorem scans_ok (l : L) (hl : l.Ok) (q : Q) (hq : q.Ok) : (l.scans q).2.Ok := by
  obtain ⟨h1, h2, h3, h4, h5, h6, h7, h8, h9⟩ := hl
  obtain ⟨r0, r1, r2, r3, r4, r5, r6, r7⟩ := hq
  unfold L.scans
  (repeat' split) <;> constructor <;> first | assumption | exact .inl rfl | exact .inr rfl | decide | (dsimp only; omega)
theorem configures_ok (l : L) (hl : l.Ok) (q : Q) (hq : q.Ok) : (l.configures q).2.Ok := by
  obtain ⟨h1, h2, h3, h4, h5, h6, h7, h8, h9⟩ := hl
  obtain ⟨r0, r1, r2, r3, r4, r5, r6, r7⟩ := hq
  unfold L.configures
  (repeat' split) <;> constructor <;> first | assumption | exact .inl rfl | exact .inr rfl | decide | (dsimp only; omega)
theorem take_ok (l : L) (hl : l.Ok) (q : Q) (hq : q.Ok) : (l.take q).2.Ok := by
  unfold L.take
  (repeat' split) <;> first
    | exact hl
    | exact switches_ok l hl _
    | exact selects_ok l hl _ _
    | exact scans_ok l hl q hq
    | exact configures_ok l hl q hq
theorem take_fit (l : L) (hl : l.Fit) (q : Q) (hq : q.Ok) : (l.take q).2.Fit := by
  refine ⟨take_ok l hl.ok q hq, ?_⟩
  by_cases h : q.q0 = 23 ∧ l.mode = 1 ∧ l.fails = false
  · rw [take_stores l q h]
    rintro i r e
    injection e with e
    injection e with e1 e2
    rw [← e1]; exact hl.ok.pid
  · rw [take_st l q h hl.ok.mode]
    exact hl.st
theorem restart_fit (l : L) (hl : l.Fit) : l.restart.Fit := by
  obtain ⟨⟨h1, h2, h3, h4, h5, h6, h7, h8, h9⟩, hs⟩ := hl
  unfold L.restart
  split
  · rename_i e
    exact ⟨⟨⟨Int.le_refl 0, by show (0 : Int) ≤ 3; decide⟩, ⟨Int.le_refl 0, by show (0 : Int) ≤ 3; decide⟩, .inl rfl, h4, h5, h6, h7, h9, h9⟩, hs⟩
  · rename_i i r e
    have hi := hs i r e
    exact ⟨⟨⟨Int.le_refl 0, by show (0 : Int) ≤ 3; decide⟩, ⟨Int.le_refl 0, by show (0 : Int) ≤ 3; decide⟩, .inl rfl, h4, h5, h6, h7, hi, hi⟩, hs⟩
theorem restart_uid (l : L) : l.restart.uid = (match l.st with | none => l.pid | some (i, _) => i) := by
  unfold L.restart
  split <;> rename_i e <;> rw [e]
theorem c8H {K : Value → Heap → Prop} {g p : Nat} (l : L) (hl : l.Ok) (q : Q) (hq : q.Ok) (h : ∀ p', K (l.take q).1.val (L.H g p' (l.take q).2)) : SCalls Try.prog 25 [.pointer (some ⟨g, 0, none⟩), q.val] (L.H g p l) K := by
  refine SCalls.keep ?_
  refine SCalls.atList [] (c8g l hl q hq _ (fun e1 e2 e3 p' => ?_) fun hn => ?_)
  · have h := h p'
    rw [take_stores l q ⟨e1, e2, e3⟩] at h
    exact Keep.sub (L.H g p' { l with st := some (l.pid, l.pr) }) (List.sublist_append_left _ (stH p l.st)) h
  · have h := h p
    unfold L.H at h
    rw [take_st l q hn hl.mode] at h
    exact Keep.all h
end Go.Proofs.Ytkegkhhfbfegoaa.Ls

/- Layer 19: how a selection ends: plain laws. -/
set_option linter.unusedVariables false
set_option linter.unusedSimpArgs false
set_option maxRecDepth 100000
set_option maxHeartbeats 4000000
namespace Go.Proofs.Ytkegkhhfbfegoaa.Ls
open Go.Proofs.Ytkegkhhfbfegoaa Go.Proofs.Ytkegkhhfbfegoaa.Sx
theorem bitOr_add (i a b : Nat) (ha : a < 2 ^ i) (h : a + b * 2 ^ i < 4294967296) : bitOr .u32 (a : Int) ((b : Int) * 2 ^ i) = (a : Int) + (b : Int) * 2 ^ i := by
  have ec : ((b : Int) * 2 ^ i) = ((b * 2 ^ i : Nat) : Int) := by rw [Int.natCast_mul, Int.natCast_pow]; rfl
  rw [ec]
  have e1 : (BitVec.ofInt IntKind.u32.bits (a : Int)).toNat = a := by
    show (BitVec.ofInt 32 (a : Int)).toNat = a
    rw [BitVec.ofInt_natCast, BitVec.toNat_ofNat, Nat.mod_eq_of_lt (by generalize b * 2 ^ i = z at h; omega)]
  have e2 : (BitVec.ofInt IntKind.u32.bits ((b * 2 ^ i : Nat) : Int)).toNat = b * 2 ^ i := by
    show (BitVec.ofInt 32 ((b * 2 ^ i : Nat) : Int)).toNat = b * 2 ^ i
    rw [BitVec.ofInt_natCast, BitVec.toNat_ofNat, Nat.mod_eq_of_lt (by generalize b * 2 ^ i = z at h ⊢; omega)]
  unfold bitOr
  rw [wrap_u32, BitVec.toNat_or, e1, e2, Nat.or_comm, ← Nat.shiftLeft_eq, ← Nat.shiftLeft_add_eq_or_of_lt ha, Nat.shiftLeft_eq]
  generalize b * 2 ^ i = z at h ⊢
  omega
theorem bitOr_int (i : Nat) (a b : Int) (ha0 : 0 ≤ a) (hb0 : 0 ≤ b) (ha : a < 2 ^ i) (h : a + b * 2 ^ i < 4294967296) : bitOr .u32 a (b * 2 ^ i) = a + b * 2 ^ i := by
  obtain ⟨a, rfl⟩ := Int.eq_ofNat_of_zero_le ha0
  obtain ⟨b, rfl⟩ := Int.eq_ofNat_of_zero_le hb0
  exact bitOr_add i a b (Int.ofNat_lt.1 (by rw [Int.natCast_pow]; exact ha)) (Int.ofNat_lt.1 (by rw [Int.natCast_add, Int.natCast_mul, Int.natCast_pow]; exact h))
theorem numQ_of (n : Int) (h : 0 ≤ n ∧ n ≤ 4294967295) : numQ (n % 256) (n / 256 % 256) (n / 65536 % 256) (n / 16777216) = n := by
  obtain ⟨h0, h1⟩ := h
  unfold numQ
  rw [bitOr_int 8 (n % 256) (n / 256 % 256) (by omega) (by omega) (by omega) (by omega), bitOr_int 16 _ (n / 65536 % 256) (by omega) (by omega) (by omega) (by omega), bitOr_int 24 _ (n / 16777216) (by omega) (by omega) (by omega) (by omega)]
  omega
section
variable {K : Value → Heap → Prop} {g p : Nat} (l : L)
theorem c10g (sp : Option Addr) (h : K (.int .i64 l.mode) [(g, l.row sp)]) : SCalls Try.prog 26 [.pointer (some ⟨g, 0, none⟩)] [(g, l.row sp)] K := by
  obtain ⟨a0, a1, a2, a3, pid, pr, uid, ur, mode, taken, looks, st, fails⟩ := l
  dsimp only [L.row] at h ⊢
  refine enter26 ?_
  repeat' ((conv => whnf); (first
      | refine New.mk (fun _ => ?_)
      | refine Look.at0 ?_
      | refine Cell.row ?_
      | refine Cell.buf ?_
      | refine Cells.row rfl ?_
      | refine Put.row rfl ?_
      | refine Put.buf rfl ?_
      | refine Look.at1 ?_
      | refine Look.at2 ?_
      | refine Look.at3 ?_
      | refine Look.at4 ?_
      | refine Look.at5 ?_
      | refine Look.at6 ?_
      | refine Look.at7 ?_
      | refine Look.at8 ?_
      | with_reducible refine Val.i64 (by omega) (by omega) ?_
      | with_reducible refine Val.u8 (by omega) (by omega) ?_
      | with_reducible refine Val.u32 (by omega) (by omega) ?_
      | with_reducible refine Val.u64 (by omega) (by omega) ?_
      | with_reducible refine Val.u8m ?_
      | with_reducible refine Val.u32m ?_
      | with_reducible refine Val.u64m ?_
      | with_reducible refine Val.shr8 ?_
      | with_reducible refine Val.shr16 (by decide) ?_
      | with_reducible refine Val.shr24 (by decide) ?_
      | with_reducible refine Val.raw ?_
      | refine Branch.not ?_
      | refine Branch.and ?_
      | refine Branch.or ?_
      | refine Branch.dt (by assumption) ?_
      | refine Branch.df (by assumption) ?_
      | refine Branch.dt rfl ?_
      | refine Branch.dt (by omega) ?_
      | refine Branch.df (by omega) ?_
      | refine Branch.t rfl ?_
      | refine Branch.f rfl ?_
      | refine Branch.t (by assumption) ?_
      | refine Branch.f (by assumption) ?_
      | refine Branch.d (fun _ => ?_) (fun _ => ?_)
      | refine Branch.mk (fun _ => ?_) (fun _ => ?_)
      | refine Need.mk (by first | omega | decide | rfl) ?_
      | refine Idx.nat (by omega) ?_
      | refine Idx.auto (by first | omega | decide) (by first | omega | decide) ?_
      | refine Cell.ro rfl ?_
      | refine SDraw.all (by kernel_rfl) ?_
      | refine Kept.k0 ?_
      | refine Kept.k1 ?_
      | refine Kept.k2 ?_
      | refine Kept.k3 ?_
      | refine Kept.k4 ?_))
  all_goals (conv => whnf)
  all_goals exact Keep.all h
end
theorem c7n {H : Heap} {K : Value → Heap → Prop} (a0 a1 a2 a3 id : Int) (hid : 0 ≤ id ∧ id ≤ 127) (h : ∀ g, K (.tuple ⟨[.pointer (some ⟨g, 0, none⟩), .int .i64 0]⟩) ((g, (⟨a0, a1, a2, a3, id, 0, id, 0, 0, 0, 0, none, false⟩ : L).row none) :: H)) :
    SCalls Try.prog 15 [.agg ⟨[.int .u32 a0, .int .u32 a1, .int .u32 a2, .int .u32 a3]⟩, .int .i64 id] H K := c7 a0 a1 a2 a3 id hid fun g _ => h g
theorem take_sel {l : L} (hm : l.mode = 0) (c k n : Int) (hc : c = 64 + k) (hk : 0 ≤ k ∧ k ≤ 3) (hn : 0 ≤ n ∧ n ≤ 4294967295) :
    l.take ⟨c, n % 256, n / 256 % 256, n / 65536 % 256, n / 16777216, 0, 0, 0⟩ = l.selects k n := by
  unfold L.take
  dsimp only
  rw [numQ_of n hn, if_neg (by omega), if_neg (by omega), if_pos (by omega), show c - 64 = k by omega]
theorem q_ok (c n : Int) (hc : 0 ≤ c ∧ c ≤ 255) (hn : 0 ≤ n ∧ n ≤ 4294967295) : (⟨c, n % 256, n / 256 % 256, n / 65536 % 256, n / 16777216, 0, 0, 0⟩ : Q).Ok := by
  constructor <;> (dsimp only; omega)
def lM (x0 x1 x2 x3 t m : Int) : L := ⟨x0, x1, x2, x3, 0, 0, 0, 0, m, t, 0, none, false⟩
theorem lM_ok {x0 x1 x2 x3 t m : Int} (r0 : 0 ≤ x0 ∧ x0 ≤ 4294967295) (r1 : 0 ≤ x1 ∧ x1 ≤ 4294967295) (r2 : 0 ≤ x2 ∧ x2 ≤ 4294967295) (r3 : 0 ≤ x3 ∧ x3 ≤ 4294967295) (ht : 0 ≤ t ∧ t ≤ 3) (hm : m = 0 ∨ m = 1) : (lM x0 x1 x2 x3 t m).Ok :=
  ⟨⟨Int.le_refl 0, by show (0 : Int) ≤ 3; decide⟩, ht, hm, r0, r1, r2, r3, ⟨Int.le_refl 0, by show (0 : Int) ≤ 127; decide⟩, ⟨Int.le_refl 0, by show (0 : Int) ≤ 127; decide⟩⟩
theorem sel_all {x0 x1 x2 x3 : Int} (a0 a1 a2 a3 : Int) (r0 : 0 ≤ x0 ∧ x0 ≤ 4294967295) (r1 : 0 ≤ x1 ∧ x1 ≤ 4294967295) (r2 : 0 ≤ x2 ∧ x2 ≤ 4294967295) (r3 : 0 ≤ x3 ∧ x3 ≤ 4294967295) :
    ∃ l1 l2 l3 l4 : L, ∃ a4 : A, (lM x0 x1 x2 x3 0 0).selects 0 a0 = (.no, l1) ∧ l1.selects 1 a1 = (.no, l2) ∧ l2.selects 2 a2 = (.no, l3) ∧ l3.selects 3 a3 = (a4, l4) ∧ l1.Ok ∧ l2.Ok ∧ l3.Ok ∧ l1.mode = 0 ∧ l2.mode = 0 ∧ l3.mode = 0 ∧
      ((x0 = a0 ∧ x1 = a1 ∧ x2 = a2 ∧ x3 = a3 ∧ a4 = .one 68 0 ∧ l4.mode = 1) ∨ (¬ (x0 = a0 ∧ x1 = a1 ∧ x2 = a2 ∧ x3 = a3) ∧ a4 = .no ∧ l4.mode = 0)) := by
  refine ⟨lM x0 x1 x2 x3 (if x0 = a0 then 1 else 0) 0, lM x0 x1 x2 x3 (if x0 = a0 ∧ x1 = a1 then 2 else 0) 0, lM x0 x1 x2 x3 (if x0 = a0 ∧ x1 = a1 ∧ x2 = a2 then 3 else 0) 0, lM x0 x1 x2 x3 0 (if x0 = a0 ∧ x1 = a1 ∧ x2 = a2 ∧ x3 = a3 then 1 else 0), if x0 = a0 ∧ x1 = a1 ∧ x2 = a2 ∧ x3 = a3 then .one 68 0 else .no,
    ?_, ?_, ?_, ?_, lM_ok r0 r1 r2 r3 (by split <;> decide) (.inl rfl), lM_ok r0 r1 r2 r3 (by split <;> decide) (.inl rfl), lM_ok r0 r1 r2 r3 (by split <;> decide) (.inl rfl), rfl, rfl, rfl, ?_⟩
  · by_cases h0 : x0 = a0 <;> simp [lM, L.selects, L.adr, adrOf, h0]
  · by_cases h0 : x0 = a0 <;> by_cases h1 : x1 = a1 <;> simp [lM, L.selects, L.adr, adrOf, h0, h1]
  · by_cases h0 : x0 = a0 <;> by_cases h1 : x1 = a1 <;> by_cases h2 : x2 = a2 <;> simp [lM, L.selects, L.adr, adrOf, h0, h1, h2]
  · by_cases h0 : x0 = a0 <;> by_cases h1 : x1 = a1 <;> by_cases h2 : x2 = a2 <;> by_cases h3 : x3 = a3 <;> simp [lM, L.selects, L.adr, adrOf, h0, h1, h2, h3]
  · by_cases h : x0 = a0 ∧ x1 = a1 ∧ x2 = a2 ∧ x3 = a3
    · refine .inl ⟨h.1, h.2.1, h.2.2.1, h.2.2.2, if_pos h, ?_⟩
      show (if x0 = a0 ∧ x1 = a1 ∧ x2 = a2 ∧ x3 = a3 then (1 : Int) else 0) = 1
      exact if_pos h
    · refine .inr ⟨h, if_neg h, ?_⟩
      show (if x0 = a0 ∧ x1 = a1 ∧ x2 = a2 ∧ x3 = a3 then (1 : Int) else 0) = 0
      exact if_neg h

end Go.Proofs.Ytkegkhhfbfegoaa.Ls

