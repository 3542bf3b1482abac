/- Layer 24: masters in a list; who comes first, who leads: by walks. -/
import Derived.Test.YtmakaofdpoiaaaaX
set_option linter.unusedVariables false
set_option linter.unusedSimpArgs false
set_option maxRecDepth 100000
set_option maxHeartbeats 4000000
namespace Go.Proofs.Ytmakaofdpoiaaaa
open Sx
/-- One that may be master. -/
structure M where
  (node prio : Int)
  (on : Bool)
  (is left of_ mute : Int)
def M.cells (m : M) : List Value := [.int .i64 m.node, .int .i64 m.prio, .bool m.on, .int .i64 m.is, .int .u64 m.left, .int .i64 m.of_, .int .u64 m.mute]
def M.row (m : M) : Blk := .row 64 m.cells (0, 0)
def pr (x : Nat × M) : Value := .pointer (some ⟨x.1, 0, none⟩)
def rw_ (x : Nat × M) : Nat × Blk := (x.1, x.2.row)
/-- What comes first. -/
def ord (p1 n1 p2 n2 : Int) : Int := if p1 < p2 then -1 else if p2 < p1 then 1 else if n1 < n2 then -1 else if n2 < n1 then 1 else 0
def cmpI (a b : Int) : Int := if a < b then -1 else if b < a then 1 else 0
theorem c47 {H : Heap} {K : Value → Heap → Prop} (a : Int) (h : K (.bool false) H) : SCalls Try.prog 47 [.int .i64 a] H K := by
  refine SCalls.any (K := fun v N => v = .bool false ∧ N = []) (enter47 ?_) (by rintro v N ⟨rfl, rfl⟩; exact h)
  repeat' ((conv => whnf); (first
      | refine New.mk (fun _ => ?_)
      | refine Look.at0 ?_
      | refine Cell.row ?_
      | refine Cell.buf ?_
      | refine Cells.row rfl ?_
      | refine Put.row rfl ?_
      | refine Put.buf rfl ?_
      | refine Look.at1 ?_
      | refine Look.at2 ?_
      | refine Look.at3 ?_
      | refine Look.at4 ?_
      | refine Look.at5 ?_
      | refine Look.at6 ?_
      | refine Look.at7 ?_
      | refine Look.at8 ?_
      | with_reducible refine Val.i64 (by omega) (by omega) ?_
      | with_reducible refine Val.u8 (by omega) (by omega) ?_
      | with_reducible refine Val.u32 (by omega) (by omega) ?_
      | with_reducible refine Val.u64 (by omega) (by omega) ?_
      | with_reducible refine Val.u8m ?_
      | with_reducible refine Val.u32m ?_
      | with_reducible refine Val.u64m ?_
      | with_reducible refine Val.shr8 ?_
      | with_reducible refine Val.shr16 (by decide) ?_
      | with_reducible refine Val.shr24 (by decide) ?_
      | with_reducible refine Val.raw ?_
      | refine Branch.not ?_
      | refine Branch.and ?_
      | refine Branch.or ?_
      | refine Branch.dt (by assumption) ?_
      | refine Branch.df (by assumption) ?_
      | refine Branch.dt rfl ?_
      | refine Branch.dt (by omega) ?_
      | refine Branch.df (by omega) ?_
      | refine Branch.t rfl ?_
      | refine Branch.f rfl ?_
      | refine Branch.t (by assumption) ?_
      | refine Branch.f (by assumption) ?_
      | refine Branch.d (fun _ => ?_) (fun _ => ?_)
      | refine Branch.mk (fun _ => ?_) (fun _ => ?_)
      | refine Need.mk (by first | omega | decide | rfl) ?_
      | refine Idx.nat (by omega) ?_
      | refine Idx.auto (by first | omega | decide) (by first | omega | decide) ?_
      | refine Cell.ro rfl ?_
      | refine SDraw.all (by kernel_rfl) ?_
      | refine Kept.k0 ?_
      | refine Kept.k1 ?_
      | refine Kept.k2 ?_
      | refine Kept.k3 ?_
      | refine Kept.k4 ?_))
  all_goals (conv => whnf)
  all_goals exact Keep.sub [] (List.nil_sublist _) ⟨by simp, rfl⟩
theorem c46 {H : Heap} {K : Value → Heap → Prop} (a b : Int) (h : K (.int .i64 (cmpI a b)) H) : SCalls Try.prog 46 [.int .i64 a, .int .i64 b] H K := by
  refine SCalls.any (K := fun v N => v = .int .i64 (cmpI a b) ∧ N = []) (enter46 ?_) (by rintro v N ⟨rfl, rfl⟩; exact h)
  repeat' ((conv => whnf); (first
      | refine c47 _ ?_
      | refine New.mk (fun _ => ?_)
      | refine Look.at0 ?_
      | refine Cell.row ?_
      | refine Cell.buf ?_
      | refine Cells.row rfl ?_
      | refine Put.row rfl ?_
      | refine Put.buf rfl ?_
      | refine Look.at1 ?_
      | refine Look.at2 ?_
      | refine Look.at3 ?_
      | refine Look.at4 ?_
      | refine Look.at5 ?_
      | refine Look.at6 ?_
      | refine Look.at7 ?_
      | refine Look.at8 ?_
      | with_reducible refine Val.i64 (by omega) (by omega) ?_
      | with_reducible refine Val.u8 (by omega) (by omega) ?_
      | with_reducible refine Val.u32 (by omega) (by omega) ?_
      | with_reducible refine Val.u64 (by omega) (by omega) ?_
      | with_reducible refine Val.u8m ?_
      | with_reducible refine Val.u32m ?_
      | with_reducible refine Val.u64m ?_
      | with_reducible refine Val.shr8 ?_
      | with_reducible refine Val.shr16 (by decide) ?_
      | with_reducible refine Val.shr24 (by decide) ?_
      | with_reducible refine Val.raw ?_
      | refine Branch.not ?_
      | refine Branch.and ?_
      | refine Branch.or ?_
      | refine Branch.dt (by assumption) ?_
      | refine Branch.df (by assumption) ?_
      | refine Branch.dt rfl ?_
      | refine Branch.dt (by omega) ?_
      | refine Branch.df (by omega) ?_
      | refine Branch.t rfl ?_
      | refine Branch.f rfl ?_
      | refine Branch.t (by assumption) ?_
      | refine Branch.f (by assumption) ?_
      | refine Branch.d (fun _ => ?_) (fun _ => ?_)
      | refine Branch.mk (fun _ => ?_) (fun _ => ?_)
      | refine Need.mk (by first | omega | decide | rfl) ?_
      | refine Idx.nat (by omega) ?_
      | refine Idx.auto (by first | omega | decide) (by first | omega | decide) ?_
      | refine Cell.ro rfl ?_
      | refine SDraw.all (by kernel_rfl) ?_
      | refine Kept.k0 ?_
      | refine Kept.k1 ?_
      | refine Kept.k2 ?_
      | refine Kept.k3 ?_
      | refine Kept.k4 ?_))
  all_goals (conv => whnf)
  all_goals (unfold cmpI; (repeat' split) <;> first | (exfalso; omega) | exact Keep.sub [] (List.nil_sublist _) ⟨rfl, rfl⟩)
inductive Sl45 (A6 A7 A8 : Value) : List Value → Prop
  | mk {r0 r1 r2 r3 r4 r5 r9 r10 r11 r12 r13 r14 r15 r16 r17 : Value} : Sl45 A6 A7 A8 [r0, r1, r2, r3, r4, r5, A6, A7, A8, r9, r10, r11, r12, r13, r14, r15, r16, r17]
/-- The first of two that is not 0. -/
theorem c45 {K : Value → Heap → Prop} (a b : Int) (r : Nat) (h : K (.int .i64 (if a = 0 then b else a)) []) : SCalls Try.prog 45 [.slice (some ⟨r, 0, none⟩) 2 2] [(r, .row 3 [.int .i64 a, .int .i64 b] (0, 0))] K := by
  generalize he : (if a = 0 then b else a) = c at h
  refine enter45 ?_
  repeat' ((conv => whnf); (first
      | refine SLoop.round ?_
      | refine New.mk (fun _ => ?_)
      | refine Look.at0 ?_
      | refine Cell.row ?_
      | refine Cell.buf ?_
      | refine Cells.row rfl ?_
      | refine Put.row rfl ?_
      | refine Put.buf rfl ?_
      | refine Look.at1 ?_
      | refine Look.at2 ?_
      | refine Look.at3 ?_
      | refine Look.at4 ?_
      | refine Look.at5 ?_
      | refine Look.at6 ?_
      | refine Look.at7 ?_
      | refine Look.at8 ?_
      | with_reducible refine Val.i64 (by omega) (by omega) ?_
      | with_reducible refine Val.u8 (by omega) (by omega) ?_
      | with_reducible refine Val.u32 (by omega) (by omega) ?_
      | with_reducible refine Val.u64 (by omega) (by omega) ?_
      | with_reducible refine Val.u8m ?_
      | with_reducible refine Val.u32m ?_
      | with_reducible refine Val.u64m ?_
      | with_reducible refine Val.shr8 ?_
      | with_reducible refine Val.shr16 (by decide) ?_
      | with_reducible refine Val.shr24 (by decide) ?_
      | with_reducible refine Val.raw ?_
      | refine Branch.not ?_
      | refine Branch.and ?_
      | refine Branch.or ?_
      | refine Branch.dt (by assumption) ?_
      | refine Branch.df (by assumption) ?_
      | refine Branch.dt rfl ?_
      | refine Branch.dt (by omega) ?_
      | refine Branch.df (by omega) ?_
      | refine Branch.t rfl ?_
      | refine Branch.f rfl ?_
      | refine Branch.t (by assumption) ?_
      | refine Branch.f (by assumption) ?_
      | refine Branch.d (fun _ => ?_) (fun _ => ?_)
      | refine Branch.mk (fun _ => ?_) (fun _ => ?_)
      | refine Need.mk (by first | omega | decide | rfl) ?_
      | refine Idx.nat (by omega) ?_
      | refine Idx.auto (by first | omega | decide) (by first | omega | decide) ?_
      | refine Cell.ro rfl ?_
      | refine SDraw.all (by kernel_rfl) ?_
      | refine Kept.k0 ?_
      | refine Kept.k1 ?_
      | refine Kept.k2 ?_
      | refine Kept.k3 ?_
      | refine Kept.k4 ?_))
  all_goals (conv => whnf)
  all_goals first
   | ((split at he) <;> first | (exfalso; omega) | (subst he; first | exact Keep.sub [] (List.nil_sublist _) h | (subst_vars; exact Keep.sub [] (List.nil_sublist _) h)))
   | trace_state
theorem c35 {H : Heap} {K : Value → Heap → Prop} (n1 p1 n2 p2 : Int) (o1 o2 : Bool) (h : K (.int .i64 (ord p1 n1 p2 n2)) H) : SCalls Try.prog 35 [.agg ⟨[.int .i64 n1, .int .i64 p1, .bool o1]⟩, .agg ⟨[.int .i64 n2, .int .i64 p2, .bool o2]⟩] H K := by
  refine SCalls.any (K := fun v N => v = .int .i64 (ord p1 n1 p2 n2) ∧ N = []) (enter35 ?_) (by rintro v N ⟨rfl, rfl⟩; exact h)
  repeat' ((conv => whnf); (first
      | refine c46 _ _ ?_
      | refine SCalls.at0 (c45 _ _ _ ?_)
      | refine New.mk (fun _ => ?_)
      | refine Look.at0 ?_
      | refine Cell.row ?_
      | refine Cell.buf ?_
      | refine Cells.row rfl ?_
      | refine Put.row rfl ?_
      | refine Put.buf rfl ?_
      | refine Look.at1 ?_
      | refine Look.at2 ?_
      | refine Look.at3 ?_
      | refine Look.at4 ?_
      | refine Look.at5 ?_
      | refine Look.at6 ?_
      | refine Look.at7 ?_
      | refine Look.at8 ?_
      | with_reducible refine Val.i64 (by omega) (by omega) ?_
      | with_reducible refine Val.u8 (by omega) (by omega) ?_
      | with_reducible refine Val.u32 (by omega) (by omega) ?_
      | with_reducible refine Val.u64 (by omega) (by omega) ?_
      | with_reducible refine Val.u8m ?_
      | with_reducible refine Val.u32m ?_
      | with_reducible refine Val.u64m ?_
      | with_reducible refine Val.shr8 ?_
      | with_reducible refine Val.shr16 (by decide) ?_
      | with_reducible refine Val.shr24 (by decide) ?_
      | with_reducible refine Val.raw ?_
      | refine Branch.not ?_
      | refine Branch.and ?_
      | refine Branch.or ?_
      | refine Branch.dt (by assumption) ?_
      | refine Branch.df (by assumption) ?_
      | refine Branch.dt rfl ?_
      | refine Branch.dt (by omega) ?_
      | refine Branch.df (by omega) ?_
      | refine Branch.t rfl ?_
      | refine Branch.f rfl ?_
      | refine Branch.t (by assumption) ?_
      | refine Branch.f (by assumption) ?_
      | refine Branch.d (fun _ => ?_) (fun _ => ?_)
      | refine Branch.mk (fun _ => ?_) (fun _ => ?_)
      | refine Need.mk (by first | omega | decide | rfl) ?_
      | refine Idx.nat (by omega) ?_
      | refine Idx.auto (by first | omega | decide) (by first | omega | decide) ?_
      | refine Cell.ro rfl ?_
      | refine SDraw.all (by kernel_rfl) ?_
      | refine Kept.k0 ?_
      | refine Kept.k1 ?_
      | refine Kept.k2 ?_
      | refine Kept.k3 ?_
      | refine Kept.k4 ?_))
  all_goals (conv => whnf)
  all_goals (refine Keep.sub [] (List.nil_sublist _) ⟨?_, rfl⟩; unfold ord cmpI; congr 1; (repeat' split) <;> first | rfl | (exfalso; omega))
/-- Whether one has a node; whether it leads. -/
theorem c42 {K : Value → Heap → Prop} (a : Nat) (m : M) (p : Nat) (n : Int) (h : K (.bool (decide (m.node = n))) [(p, .row 3 [.int .i64 n] (0, 0)), (a, m.row)]) :
    SCalls Try.prog 42 [.pointer (some ⟨a, 0, none⟩), .pointer (some ⟨p, 0, none⟩)] [(p, .row 3 [.int .i64 n] (0, 0)), (a, m.row)] K := by
  refine enter42 ?_
  repeat' ((conv => whnf); (first
      | unfold M.row M.cells
      | refine New.mk (fun _ => ?_)
      | refine Look.at0 ?_
      | refine Cell.row ?_
      | refine Cell.buf ?_
      | refine Cells.row rfl ?_
      | refine Put.row rfl ?_
      | refine Put.buf rfl ?_
      | refine Look.at1 ?_
      | refine Look.at2 ?_
      | refine Look.at3 ?_
      | refine Look.at4 ?_
      | refine Look.at5 ?_
      | refine Look.at6 ?_
      | refine Look.at7 ?_
      | refine Look.at8 ?_
      | with_reducible refine Val.i64 (by omega) (by omega) ?_
      | with_reducible refine Val.u8 (by omega) (by omega) ?_
      | with_reducible refine Val.u32 (by omega) (by omega) ?_
      | with_reducible refine Val.u64 (by omega) (by omega) ?_
      | with_reducible refine Val.u8m ?_
      | with_reducible refine Val.u32m ?_
      | with_reducible refine Val.u64m ?_
      | with_reducible refine Val.shr8 ?_
      | with_reducible refine Val.shr16 (by decide) ?_
      | with_reducible refine Val.shr24 (by decide) ?_
      | with_reducible refine Val.raw ?_
      | refine Branch.not ?_
      | refine Branch.and ?_
      | refine Branch.or ?_
      | refine Branch.dt (by assumption) ?_
      | refine Branch.df (by assumption) ?_
      | refine Branch.dt rfl ?_
      | refine Branch.dt (by omega) ?_
      | refine Branch.df (by omega) ?_
      | refine Branch.t rfl ?_
      | refine Branch.f rfl ?_
      | refine Branch.t (by assumption) ?_
      | refine Branch.f (by assumption) ?_
      | refine Branch.d (fun _ => ?_) (fun _ => ?_)
      | refine Branch.mk (fun _ => ?_) (fun _ => ?_)
      | refine Need.mk (by first | omega | decide | rfl) ?_
      | refine Idx.nat (by omega) ?_
      | refine Idx.auto (by first | omega | decide) (by first | omega | decide) ?_
      | refine Cell.ro rfl ?_
      | refine SDraw.all (by kernel_rfl) ?_
      | refine Kept.k0 ?_
      | refine Kept.k1 ?_
      | refine Kept.k2 ?_
      | refine Kept.k3 ?_
      | refine Kept.k4 ?_))
  all_goals (conv => whnf)
  all_goals exact Keep.all h
theorem c43 {K : Value → Heap → Prop} (a : Nat) (m : M) (h : K (.bool (decide (m.is = 2))) [(a, m.row)]) : SCalls Try.prog 43 [.pointer (some ⟨a, 0, none⟩)] [(a, m.row)] K := by
  refine enter43 ?_
  repeat' ((conv => whnf); (first
      | unfold M.row M.cells
      | refine New.mk (fun _ => ?_)
      | refine Look.at0 ?_
      | refine Cell.row ?_
      | refine Cell.buf ?_
      | refine Cells.row rfl ?_
      | refine Put.row rfl ?_
      | refine Put.buf rfl ?_
      | refine Look.at1 ?_
      | refine Look.at2 ?_
      | refine Look.at3 ?_
      | refine Look.at4 ?_
      | refine Look.at5 ?_
      | refine Look.at6 ?_
      | refine Look.at7 ?_
      | refine Look.at8 ?_
      | with_reducible refine Val.i64 (by omega) (by omega) ?_
      | with_reducible refine Val.u8 (by omega) (by omega) ?_
      | with_reducible refine Val.u32 (by omega) (by omega) ?_
      | with_reducible refine Val.u64 (by omega) (by omega) ?_
      | with_reducible refine Val.u8m ?_
      | with_reducible refine Val.u32m ?_
      | with_reducible refine Val.u64m ?_
      | with_reducible refine Val.shr8 ?_
      | with_reducible refine Val.shr16 (by decide) ?_
      | with_reducible refine Val.shr24 (by decide) ?_
      | with_reducible refine Val.raw ?_
      | refine Branch.not ?_
      | refine Branch.and ?_
      | refine Branch.or ?_
      | refine Branch.dt (by assumption) ?_
      | refine Branch.df (by assumption) ?_
      | refine Branch.dt rfl ?_
      | refine Branch.dt (by omega) ?_
      | refine Branch.df (by omega) ?_
      | refine Branch.t rfl ?_
      | refine Branch.f rfl ?_
      | refine Branch.t (by assumption) ?_
      | refine Branch.f (by assumption) ?_
      | refine Branch.d (fun _ => ?_) (fun _ => ?_)
      | refine Branch.mk (fun _ => ?_) (fun _ => ?_)
      | refine Need.mk (by first | omega | decide | rfl) ?_
      | refine Idx.nat (by omega) ?_
      | refine Idx.auto (by first | omega | decide) (by first | omega | decide) ?_
      | refine Cell.ro rfl ?_
      | refine SDraw.all (by kernel_rfl) ?_
      | refine Kept.k0 ?_
      | refine Kept.k1 ?_
      | refine Kept.k2 ?_
      | refine Kept.k3 ?_
      | refine Kept.k4 ?_))
  all_goals (conv => whnf)
  all_goals exact Keep.all h
inductive Sl41 (A0 A1 A7 A8 : Value) : List Value → Prop
  | mk {r2 r3 r4 r5 r6 r9 r10 r11 r12 r13 r14 r15 r16 r17 r18 : Value} : Sl41 A0 A1 A7 A8 [A0, A1, r2, r3, r4, r5, r6, A7, A8, r9, r10, r11, r12, r13, r14, r15, r16, r17, r18]
def I41 (fv : Value) (a : Option Addr) (ms : List (Nat × M)) (cap : Nat) (H0 : Heap) (p : M → Bool) (l : List Value) (H : Heap) : Prop :=
  ∃ j : Nat, j ≤ ms.length ∧ (∀ i x, i < j → ms[i]? = some x → p x.2 = false) ∧ Sl41 (.slice a ms.length cap) fv (.int .i64 (ms.length : Int)) (.int .i64 (j : Int)) l ∧ H = H0
noncomputable def M41 (n : Nat) (l : List Value) (_ : Heap) : Nat := n - (match getL l 8 with | .int _ i => i.toNat | _ => 0)
theorem c41 {K : Value → Heap → Prop} (fid : Nat) (cs : List Value) (a : Option Addr) (ms : List (Nat × M)) (cap : Nat) (H0 : Heap) (p : M → Bool) (hlen : ms.length ≤ 8)
    (hs : 0 < ms.length → ∃ r A B N, a = some ⟨r, 0, none⟩ ∧ H0 = A ++ (r, .buf 61 (ms.map pr) N) :: B)
    (hp : ∀ (j : Nat) (x : Nat × M), ms[j]? = some x → ∀ K : Value → Heap → Prop, K (.bool (p x.2)) H0 → SCalls Try.prog fid (pr x :: cs) H0 K)
    (h0 : (∀ x ∈ ms, p x.2 = false) → K (.int .i64 (-1)) H0)
    (h1 : ∀ (j : Nat) x, ms[j]? = some x → p x.2 = true → (∀ i y, i < j → ms[i]? = some y → p y.2 = false) → K (.int .i64 (j : Int)) H0) :
    SCalls Try.prog 41 [.slice a ms.length cap, .func (.func fid) ⟨[]⟩ ⟨cs⟩] H0 K := by
  refine enter41 ?_
  repeat' ((conv => whnf); (first
      | refine New.mk (fun _ => ?_)
      | refine Look.at0 ?_
      | refine Cell.row ?_
      | refine Cell.buf ?_
      | refine Cells.row rfl ?_
      | refine Put.row rfl ?_
      | refine Put.buf rfl ?_
      | refine Look.at1 ?_
      | refine Look.at2 ?_
      | refine Look.at3 ?_
      | refine Look.at4 ?_
      | refine Look.at5 ?_
      | refine Look.at6 ?_
      | refine Look.at7 ?_
      | refine Look.at8 ?_
      | with_reducible refine Val.i64 (by omega) (by omega) ?_
      | with_reducible refine Val.u8 (by omega) (by omega) ?_
      | with_reducible refine Val.u32 (by omega) (by omega) ?_
      | with_reducible refine Val.u64 (by omega) (by omega) ?_
      | with_reducible refine Val.u8m ?_
      | with_reducible refine Val.u32m ?_
      | with_reducible refine Val.u64m ?_
      | with_reducible refine Val.shr8 ?_
      | with_reducible refine Val.shr16 (by decide) ?_
      | with_reducible refine Val.shr24 (by decide) ?_
      | with_reducible refine Val.raw ?_
      | refine Branch.not ?_
      | refine Branch.and ?_
      | refine Branch.or ?_
      | refine Branch.dt (by assumption) ?_
      | refine Branch.df (by assumption) ?_
      | refine Branch.dt rfl ?_
      | refine Branch.dt (by omega) ?_
      | refine Branch.df (by omega) ?_
      | refine Branch.t rfl ?_
      | refine Branch.f rfl ?_
      | refine Branch.t (by assumption) ?_
      | refine Branch.f (by assumption) ?_
      | refine Branch.d (fun _ => ?_) (fun _ => ?_)
      | refine Branch.mk (fun _ => ?_) (fun _ => ?_)
      | refine Need.mk (by first | omega | decide | rfl) ?_
      | refine Idx.nat (by omega) ?_
      | refine Idx.auto (by first | omega | decide) (by first | omega | decide) ?_
      | refine Cell.ro rfl ?_
      | refine SDraw.all (by kernel_rfl) ?_
      | refine Kept.k0 ?_
      | refine Kept.k1 ?_
      | refine Kept.k2 ?_
      | refine Kept.k3 ?_
      | refine Kept.k4 ?_))
  refine SLoop.inv (I41 (.func (.func fid) ⟨[]⟩ ⟨cs⟩) a ms cap H0 p) (M41 ms.length) (Keep.all ⟨0, by omega, fun i x hi => by omega, .mk, rfl⟩) ?_
  rintro S H ⟨j, hj, hno, hS, rfl⟩ R hR
  cases hS
  by_cases hlt : j < ms.length
  · obtain ⟨x, hx⟩ : ∃ x, ms[j]? = some x := ⟨_, List.getElem?_eq_getElem hlt⟩
    obtain ⟨r, A, B, N, rfl, hH⟩ := hs (by omega)
    repeat' ((conv => whnf); (first
        | refine Look.mk A _ B hH ?_
        | refine Cell.nth hx ?_
        | refine hp j x hx _ ?_
        | refine appK_to ?_
        | refine New.mk (fun _ => ?_)
        | refine Look.at0 ?_
        | refine Cell.row ?_
        | refine Cell.buf ?_
        | refine Cells.row rfl ?_
        | refine Put.row rfl ?_
        | refine Put.buf rfl ?_
        | refine Look.at1 ?_
        | refine Look.at2 ?_
        | refine Look.at3 ?_
        | refine Look.at4 ?_
        | refine Look.at5 ?_
        | refine Look.at6 ?_
        | refine Look.at7 ?_
        | refine Look.at8 ?_
        | with_reducible refine Val.i64 (by omega) (by omega) ?_
        | with_reducible refine Val.u8 (by omega) (by omega) ?_
        | with_reducible refine Val.u32 (by omega) (by omega) ?_
        | with_reducible refine Val.u64 (by omega) (by omega) ?_
        | with_reducible refine Val.u8m ?_
        | with_reducible refine Val.u32m ?_
        | with_reducible refine Val.u64m ?_
        | with_reducible refine Val.shr8 ?_
        | with_reducible refine Val.shr16 (by decide) ?_
        | with_reducible refine Val.shr24 (by decide) ?_
        | with_reducible refine Val.raw ?_
        | refine Branch.not ?_
        | refine Branch.and ?_
        | refine Branch.or ?_
        | refine Branch.dt (by assumption) ?_
        | refine Branch.df (by assumption) ?_
        | refine Branch.dt rfl ?_
        | refine Branch.dt (by omega) ?_
        | refine Branch.df (by omega) ?_
        | refine Branch.t rfl ?_
        | refine Branch.f rfl ?_
        | refine Branch.t (by assumption) ?_
        | refine Branch.f (by assumption) ?_
        | refine Branch.d (fun _ => ?_) (fun _ => ?_)
        | refine Branch.mk (fun _ => ?_) (fun _ => ?_)
        | refine Need.mk (by first | omega | decide | rfl) ?_
        | refine Idx.nat (by omega) ?_
        | refine Idx.auto (by first | omega | decide) (by first | omega | decide) ?_
        | refine Cell.ro rfl ?_
        | refine SDraw.all (by kernel_rfl) ?_
        | refine Kept.k0 ?_
        | refine Kept.k1 ?_
        | refine Kept.k2 ?_
        | refine Kept.k3 ?_
        | refine Kept.k4 ?_))
    all_goals (conv => whnf)
    · exact Keep.all (h1 j x hx (by assumption) hno)
    · refine hR _ _ (Keep.all ⟨⟨j + 1, by omega, fun i y hi hy => ?_, .mk, rfl⟩, ?_⟩)
      · by_cases e : i = j
        · subst e; rw [hx] at hy; injection hy with hy; subst hy; assumption
        · exact hno i y (by omega) hy
      · show ms.length - Int.toNat ((j : Int) + 1) < ms.length - Int.toNat (j : Int); omega
  · repeat' ((conv => whnf); (first
        | refine New.mk (fun _ => ?_)
        | refine Look.at0 ?_
        | refine Cell.row ?_
        | refine Cell.buf ?_
        | refine Cells.row rfl ?_
        | refine Put.row rfl ?_
        | refine Put.buf rfl ?_
        | refine Look.at1 ?_
        | refine Look.at2 ?_
        | refine Look.at3 ?_
        | refine Look.at4 ?_
        | refine Look.at5 ?_
        | refine Look.at6 ?_
        | refine Look.at7 ?_
        | refine Look.at8 ?_
        | with_reducible refine Val.i64 (by omega) (by omega) ?_
        | with_reducible refine Val.u8 (by omega) (by omega) ?_
        | with_reducible refine Val.u32 (by omega) (by omega) ?_
        | with_reducible refine Val.u64 (by omega) (by omega) ?_
        | with_reducible refine Val.u8m ?_
        | with_reducible refine Val.u32m ?_
        | with_reducible refine Val.u64m ?_
        | with_reducible refine Val.shr8 ?_
        | with_reducible refine Val.shr16 (by decide) ?_
        | with_reducible refine Val.shr24 (by decide) ?_
        | with_reducible refine Val.raw ?_
        | refine Branch.not ?_
        | refine Branch.and ?_
        | refine Branch.or ?_
        | refine Branch.dt (by assumption) ?_
        | refine Branch.df (by assumption) ?_
        | refine Branch.dt rfl ?_
        | refine Branch.dt (by omega) ?_
        | refine Branch.df (by omega) ?_
        | refine Branch.t rfl ?_
        | refine Branch.f rfl ?_
        | refine Branch.t (by assumption) ?_
        | refine Branch.f (by assumption) ?_
        | refine Branch.d (fun _ => ?_) (fun _ => ?_)
        | refine Branch.mk (fun _ => ?_) (fun _ => ?_)
        | refine Need.mk (by first | omega | decide | rfl) ?_
        | refine Idx.nat (by omega) ?_
        | refine Idx.auto (by first | omega | decide) (by first | omega | decide) ?_
        | refine Cell.ro rfl ?_
        | refine SDraw.all (by kernel_rfl) ?_
        | refine Kept.k0 ?_
        | refine Kept.k1 ?_
        | refine Kept.k2 ?_
        | refine Kept.k3 ?_
        | refine Kept.k4 ?_))
    all_goals (conv => whnf)
    refine Keep.all (h0 fun x hx => ?_)
    obtain ⟨i, hi, rfl⟩ := List.getElem_of_mem hx
    exact hno i _ (by omega) (List.getElem?_eq_getElem hi)
/-- A net in memory: its row, the block of its slice (if there is one), its masters. -/
def netH (g : Nat) (a : Option Addr) (cap : Nat) (Bh : Heap) (slot lost : Int) (ms : List (Nat × M)) : Heap :=
  (g, .row 60 [.slice a ms.length cap, .int .u64 slot, .int .u64 lost] (0, 0)) :: (Bh ++ ms.map rw_)
def SlOk (a : Option Addr) (cap : Nat) (Bh : Heap) (ms : List (Nat × M)) : Prop :=
  ms.length ≤ cap ∧ cap ≤ maxLen ∧ ((ms = [] ∧ a = none ∧ cap = 0 ∧ Bh = []) ∨ ∃ r, a = some ⟨r, 0, none⟩ ∧ Bh = [(r, .buf 61 (ms.map pr) (cap * 1))])
section
variable {K : Value → Heap → Prop} {g : Nat} {a : Option Addr} {cap : Nat} {Bh : Heap} {slot lost : Int} {ms : List (Nat × M)}
theorem SlOk.has (h : SlOk a cap Bh ms) (hm : 0 < ms.length) : ∃ r, a = some ⟨r, 0, none⟩ ∧ Bh = [(r, .buf 61 (ms.map pr) (cap * 1))] := by
  rcases h.2.2 with ⟨rfl, _⟩ | h
  · simp at hm
  · exact h
theorem SlOk.upd {ms' : List (Nat × M)} (h : SlOk a cap Bh ms) (he : ms'.map Prod.fst = ms.map Prod.fst) : SlOk a cap Bh ms' := by
  have hl : ms'.length = ms.length := by simpa using congrArg List.length he
  have hp : ms'.map pr = ms.map pr := by
    have : ∀ l : List (Nat × M), l.map pr = (l.map Prod.fst).map fun r => .pointer (some ⟨r, 0, none⟩) := fun l => by simp [pr, Function.comp_def]
    rw [this, this, he]
  obtain ⟨h1, h2, h3⟩ := h
  refine ⟨by omega, h2, ?_⟩
  rcases h3 with ⟨rfl, h⟩ | h
  · exact .inl ⟨by simpa using hl, h⟩
  · rw [hp]; exact .inr h
theorem SlOk.at_ (h : SlOk a cap Bh ms) (x0 : Nat × Blk) : 0 < ms.length → ∃ r A B N, a = some ⟨r, 0, none⟩ ∧ x0 :: (Bh ++ ms.map rw_) = A ++ (r, .buf 61 (ms.map pr) N) :: B := by
  intro hm
  obtain ⟨r, rfl, rfl⟩ := h.has hm
  exact ⟨r, [x0], _, _, rfl, rfl⟩
theorem SlOk.at2 (h : SlOk a cap Bh ms) (x0 x1 : Nat × Blk) : 0 < ms.length → ∃ r A B N, a = some ⟨r, 0, none⟩ ∧ x0 :: x1 :: (Bh ++ ms.map rw_) = A ++ (r, .buf 61 (ms.map pr) N) :: B := by
  intro hm
  obtain ⟨r, rfl, rfl⟩ := h.has hm
  exact ⟨r, [x0, x1], _, _, rfl, rfl⟩
theorem in_net {j : Nat} {x : Nat × M} {x0 : Nat × Blk} (hj : ms[j]? = some x) : (x.1, x.2.row) ∈ x0 :: (Bh ++ ms.map rw_) :=
  List.mem_cons_of_mem _ (List.mem_append_right _ (List.mem_map_of_mem (f := rw_) (List.mem_of_getElem? hj)))
theorem in_net2 {j : Nat} {x : Nat × M} {x0 x1 : Nat × Blk} (hj : ms[j]? = some x) : (x.1, x.2.row) ∈ x0 :: x1 :: (Bh ++ ms.map rw_) := List.mem_cons_of_mem _ (in_net hj)
/-- The master of a node. -/
theorem c27 (hok : SlOk a cap Bh ms) (hlen : ms.length ≤ 8) (n : Int) (h0 : (∀ x ∈ ms, x.2.node ≠ n) → K (.pointer none) (netH g a cap Bh slot lost ms))
    (h1 : ∀ (j : Nat) x, ms[j]? = some x → x.2.node = n → (∀ i y, i < j → ms[i]? = some y → y.2.node ≠ n) → K (pr x) (netH g a cap Bh slot lost ms)) :
    SCalls Try.prog 27 [.pointer (some ⟨g, 0, none⟩), .int .i64 n] (netH g a cap Bh slot lost ms) K := by
  unfold netH at *
  refine enter27 ?_
  repeat' ((conv => whnf); (first
      | refine c41 42 _ a ms cap _ (fun m => decide (m.node = n)) hlen (hok.at2 _ _) (fun j x hx K hk => SCalls.seen2 (in_net hx) (fun K hk => c42 _ _ _ _ hk) hk) (fun hno => ?_) (fun j x hx hpx hno => ?_)
      | refine New.mk (fun _ => ?_)
      | refine Look.at0 ?_
      | refine Cell.row ?_
      | refine Cell.buf ?_
      | refine Cells.row rfl ?_
      | refine Put.row rfl ?_
      | refine Put.buf rfl ?_
      | refine Look.at1 ?_
      | refine Look.at2 ?_
      | refine Look.at3 ?_
      | refine Look.at4 ?_
      | refine Look.at5 ?_
      | refine Look.at6 ?_
      | refine Look.at7 ?_
      | refine Look.at8 ?_
      | with_reducible refine Val.i64 (by omega) (by omega) ?_
      | with_reducible refine Val.u8 (by omega) (by omega) ?_
      | with_reducible refine Val.u32 (by omega) (by omega) ?_
      | with_reducible refine Val.u64 (by omega) (by omega) ?_
      | with_reducible refine Val.u8m ?_
      | with_reducible refine Val.u32m ?_
      | with_reducible refine Val.u64m ?_
      | with_reducible refine Val.shr8 ?_
      | with_reducible refine Val.shr16 (by decide) ?_
      | with_reducible refine Val.shr24 (by decide) ?_
      | with_reducible refine Val.raw ?_
      | refine Branch.not ?_
      | refine Branch.and ?_
      | refine Branch.or ?_
      | refine Branch.dt (by assumption) ?_
      | refine Branch.df (by assumption) ?_
      | refine Branch.dt rfl ?_
      | refine Branch.dt (by omega) ?_
      | refine Branch.df (by omega) ?_
      | refine Branch.t rfl ?_
      | refine Branch.f rfl ?_
      | refine Branch.t (by assumption) ?_
      | refine Branch.f (by assumption) ?_
      | refine Branch.d (fun _ => ?_) (fun _ => ?_)
      | refine Branch.mk (fun _ => ?_) (fun _ => ?_)
      | refine Need.mk (by first | omega | decide | rfl) ?_
      | refine Idx.nat (by omega) ?_
      | refine Idx.auto (by first | omega | decide) (by first | omega | decide) ?_
      | refine Cell.ro rfl ?_
      | refine SDraw.all (by kernel_rfl) ?_
      | refine Kept.k0 ?_
      | refine Kept.k1 ?_
      | refine Kept.k2 ?_
      | refine Kept.k3 ?_
      | refine Kept.k4 ?_))
  · exact Keep.d1 (h0 fun x hx => by simpa using hno x hx)
  · obtain ⟨r, rfl, rfl⟩ := hok.has (by have := (List.getElem?_eq_some_iff.1 hx).1; omega)
    have hjl := (List.getElem?_eq_some_iff.1 hx).1
    repeat' ((conv => whnf); (first
        | refine Cell.nth hx ?_
        | refine Look.skip (Look.skip (Look.at0 ?_))
        | refine New.mk (fun _ => ?_)
        | refine Look.at0 ?_
        | refine Cell.row ?_
        | refine Cell.buf ?_
        | refine Cells.row rfl ?_
        | refine Put.row rfl ?_
        | refine Put.buf rfl ?_
        | refine Look.at1 ?_
        | refine Look.at2 ?_
        | refine Look.at3 ?_
        | refine Look.at4 ?_
        | refine Look.at5 ?_
        | refine Look.at6 ?_
        | refine Look.at7 ?_
        | refine Look.at8 ?_
        | with_reducible refine Val.i64 (by omega) (by omega) ?_
        | with_reducible refine Val.u8 (by omega) (by omega) ?_
        | with_reducible refine Val.u32 (by omega) (by omega) ?_
        | with_reducible refine Val.u64 (by omega) (by omega) ?_
        | with_reducible refine Val.u8m ?_
        | with_reducible refine Val.u32m ?_
        | with_reducible refine Val.u64m ?_
        | with_reducible refine Val.shr8 ?_
        | with_reducible refine Val.shr16 (by decide) ?_
        | with_reducible refine Val.shr24 (by decide) ?_
        | with_reducible refine Val.raw ?_
        | refine Branch.not ?_
        | refine Branch.and ?_
        | refine Branch.or ?_
        | refine Branch.dt (by assumption) ?_
        | refine Branch.df (by assumption) ?_
        | refine Branch.dt rfl ?_
        | refine Branch.dt (by omega) ?_
        | refine Branch.df (by omega) ?_
        | refine Branch.t rfl ?_
        | refine Branch.f rfl ?_
        | refine Branch.t (by assumption) ?_
        | refine Branch.f (by assumption) ?_
        | refine Branch.d (fun _ => ?_) (fun _ => ?_)
        | refine Branch.mk (fun _ => ?_) (fun _ => ?_)
        | refine Need.mk (by first | omega | decide | rfl) ?_
        | refine Idx.nat (by omega) ?_
        | refine Idx.auto (by first | omega | decide) (by first | omega | decide) ?_
        | refine Cell.ro rfl ?_
        | refine SDraw.all (by kernel_rfl) ?_
        | refine Kept.k0 ?_
        | refine Kept.k1 ?_
        | refine Kept.k2 ?_
        | refine Kept.k3 ?_
        | refine Kept.k4 ?_))
    all_goals (conv => whnf)
    all_goals exact Keep.d1 (h1 j x hx (by simpa using hpx) fun i y hi hy => by simpa using hno i y hi hy)
/-- The master that leads. -/
theorem c29 (hok : SlOk a cap Bh ms) (hlen : ms.length ≤ 8) (h0 : (∀ x ∈ ms, x.2.is ≠ 2) → K (.pointer none) (netH g a cap Bh slot lost ms))
    (h1 : ∀ (j : Nat) x, ms[j]? = some x → x.2.is = 2 → (∀ i y, i < j → ms[i]? = some y → y.2.is ≠ 2) → K (pr x) (netH g a cap Bh slot lost ms)) :
    SCalls Try.prog 29 [.pointer (some ⟨g, 0, none⟩)] (netH g a cap Bh slot lost ms) K := by
  unfold netH at *
  refine enter29 ?_
  repeat' ((conv => whnf); (first
      | refine c41 43 [] a ms cap _ (fun m => decide (m.is = 2)) hlen (hok.at_ _) (fun j x hx K hk => SCalls.seen1 (in_net hx) (fun K hk => c43 _ _ hk) hk) (fun hno => ?_) (fun j x hx hpx hno => ?_)
      | refine New.mk (fun _ => ?_)
      | refine Look.at0 ?_
      | refine Cell.row ?_
      | refine Cell.buf ?_
      | refine Cells.row rfl ?_
      | refine Put.row rfl ?_
      | refine Put.buf rfl ?_
      | refine Look.at1 ?_
      | refine Look.at2 ?_
      | refine Look.at3 ?_
      | refine Look.at4 ?_
      | refine Look.at5 ?_
      | refine Look.at6 ?_
      | refine Look.at7 ?_
      | refine Look.at8 ?_
      | with_reducible refine Val.i64 (by omega) (by omega) ?_
      | with_reducible refine Val.u8 (by omega) (by omega) ?_
      | with_reducible refine Val.u32 (by omega) (by omega) ?_
      | with_reducible refine Val.u64 (by omega) (by omega) ?_
      | with_reducible refine Val.u8m ?_
      | with_reducible refine Val.u32m ?_
      | with_reducible refine Val.u64m ?_
      | with_reducible refine Val.shr8 ?_
      | with_reducible refine Val.shr16 (by decide) ?_
      | with_reducible refine Val.shr24 (by decide) ?_
      | with_reducible refine Val.raw ?_
      | refine Branch.not ?_
      | refine Branch.and ?_
      | refine Branch.or ?_
      | refine Branch.dt (by assumption) ?_
      | refine Branch.df (by assumption) ?_
      | refine Branch.dt rfl ?_
      | refine Branch.dt (by omega) ?_
      | refine Branch.df (by omega) ?_
      | refine Branch.t rfl ?_
      | refine Branch.f rfl ?_
      | refine Branch.t (by assumption) ?_
      | refine Branch.f (by assumption) ?_
      | refine Branch.d (fun _ => ?_) (fun _ => ?_)
      | refine Branch.mk (fun _ => ?_) (fun _ => ?_)
      | refine Need.mk (by first | omega | decide | rfl) ?_
      | refine Idx.nat (by omega) ?_
      | refine Idx.auto (by first | omega | decide) (by first | omega | decide) ?_
      | refine Cell.ro rfl ?_
      | refine SDraw.all (by kernel_rfl) ?_
      | refine Kept.k0 ?_
      | refine Kept.k1 ?_
      | refine Kept.k2 ?_
      | refine Kept.k3 ?_
      | refine Kept.k4 ?_))
  · exact Keep.d0 (h0 fun x hx => by simpa using hno x hx)
  · obtain ⟨r, rfl, rfl⟩ := hok.has (by have := (List.getElem?_eq_some_iff.1 hx).1; omega)
    have hjl := (List.getElem?_eq_some_iff.1 hx).1
    repeat' ((conv => whnf); (first
        | refine Cell.nth hx ?_
        | refine Look.skip (Look.at0 ?_)
        | refine New.mk (fun _ => ?_)
        | refine Look.at0 ?_
        | refine Cell.row ?_
        | refine Cell.buf ?_
        | refine Cells.row rfl ?_
        | refine Put.row rfl ?_
        | refine Put.buf rfl ?_
        | refine Look.at1 ?_
        | refine Look.at2 ?_
        | refine Look.at3 ?_
        | refine Look.at4 ?_
        | refine Look.at5 ?_
        | refine Look.at6 ?_
        | refine Look.at7 ?_
        | refine Look.at8 ?_
        | with_reducible refine Val.i64 (by omega) (by omega) ?_
        | with_reducible refine Val.u8 (by omega) (by omega) ?_
        | with_reducible refine Val.u32 (by omega) (by omega) ?_
        | with_reducible refine Val.u64 (by omega) (by omega) ?_
        | with_reducible refine Val.u8m ?_
        | with_reducible refine Val.u32m ?_
        | with_reducible refine Val.u64m ?_
        | with_reducible refine Val.shr8 ?_
        | with_reducible refine Val.shr16 (by decide) ?_
        | with_reducible refine Val.shr24 (by decide) ?_
        | with_reducible refine Val.raw ?_
        | refine Branch.not ?_
        | refine Branch.and ?_
        | refine Branch.or ?_
        | refine Branch.dt (by assumption) ?_
        | refine Branch.df (by assumption) ?_
        | refine Branch.dt rfl ?_
        | refine Branch.dt (by omega) ?_
        | refine Branch.df (by omega) ?_
        | refine Branch.t rfl ?_
        | refine Branch.f rfl ?_
        | refine Branch.t (by assumption) ?_
        | refine Branch.f (by assumption) ?_
        | refine Branch.d (fun _ => ?_) (fun _ => ?_)
        | refine Branch.mk (fun _ => ?_) (fun _ => ?_)
        | refine Need.mk (by first | omega | decide | rfl) ?_
        | refine Idx.nat (by omega) ?_
        | refine Idx.auto (by first | omega | decide) (by first | omega | decide) ?_
        | refine Cell.ro rfl ?_
        | refine SDraw.all (by kernel_rfl) ?_
        | refine Kept.k0 ?_
        | refine Kept.k1 ?_
        | refine Kept.k2 ?_
        | refine Kept.k3 ?_
        | refine Kept.k4 ?_))
    all_goals (conv => whnf)
    all_goals exact Keep.d0 (h1 j x hx (by simpa using hpx) fun i y hi hy => by simpa using hno i y hi hy)
end
end Go.Proofs.Ytmakaofdpoiaaaa
