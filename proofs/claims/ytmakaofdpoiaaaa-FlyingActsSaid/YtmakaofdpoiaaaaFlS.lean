/- Layer 24: the document's net: small functions: by walks. -/
import Derived.Test.YtmakaofdpoiaaaaFlR
import Derived.Test.YtmakaofdpoiaaaaSxQ
set_option linter.unusedVariables false
set_option linter.unusedSimpArgs false
set_option maxRecDepth 100000
set_option maxHeartbeats 4000000
namespace Go.Proofs.Ytmakaofdpoiaaaa
open Sx
/-- The document's net in memory. -/
def rh (d r1 r2 r3 r4 n c N : Nat) (slot lost : Int) (L : List Mas) (is ts os : List Int) : Heap :=
  [(d, .row 76 [.slice (some ⟨r1, 0, none⟩) n c, .slice (some ⟨r2, 0, none⟩) n n, .slice (some ⟨r3, 0, none⟩) n n, .slice (some ⟨r4, 0, none⟩) n n, .int .u64 slot, .int .u64 lost] (0, 0)),
   (r1, .buf 30 (L.flatMap Mas.cells) N), (r2, .buf 3 (is.map (Value.int .i64)) n), (r3, .buf 23 (ts.map (Value.int .u64)) n), (r4, .buf 3 (os.map (Value.int .i64)) n)]
section
variable {K : Value → Heap → Prop} {d r1 r2 r3 r4 n c N : Nat} {slot lost : Int} {L : List Mas} {is ts os : List Int}
theorem c17w {H : Heap} (x : Mas) (s : Int) (hb : ¬ Bad x) (h : K (.int .u64 (key x * s % 18446744073709551616)) H) : SCalls Try.prog 17 [.agg ⟨x.cells⟩, .int .u64 s] H K := by
  unfold Bad at hb
  unfold key at h
  refine SCalls.any (K := fun v N => v = .int .u64 ((128 * x.prio + x.node) * s % 18446744073709551616) ∧ N = []) (enter17 ?_) (by rintro v N ⟨rfl, rfl⟩; exact h)
  unfold Mas.cells
  repeat' ((conv => whnf); (first
      | refine New.mk (fun _ => ?_)
      | refine Look.at0 ?_
      | refine Cell.row ?_
      | refine Cell.buf ?_
      | refine Cells.row rfl ?_
      | refine Put.row rfl ?_
      | refine Put.buf rfl ?_
      | refine Look.at1 ?_
      | refine Look.at2 ?_
      | refine Look.at3 ?_
      | refine Look.at4 ?_
      | refine Look.at5 ?_
      | refine Look.at6 ?_
      | refine Look.at7 ?_
      | refine Look.at8 ?_
      | with_reducible refine Val.i64 (by omega) (by omega) ?_
      | with_reducible refine Val.u8 (by omega) (by omega) ?_
      | with_reducible refine Val.u32 (by omega) (by omega) ?_
      | with_reducible refine Val.u64 (by omega) (by omega) ?_
      | with_reducible refine Val.u8m ?_
      | with_reducible refine Val.u32m ?_
      | with_reducible refine Val.u64m ?_
      | with_reducible refine Val.shr8 ?_
      | with_reducible refine Val.shr16 (by decide) ?_
      | with_reducible refine Val.shr24 (by decide) ?_
      | with_reducible refine Val.raw ?_
      | refine Branch.not ?_
      | refine Branch.and ?_
      | refine Branch.or ?_
      | refine Branch.dt (by assumption) ?_
      | refine Branch.df (by assumption) ?_
      | refine Branch.dt rfl ?_
      | refine Branch.dt (by omega) ?_
      | refine Branch.df (by omega) ?_
      | refine Branch.t rfl ?_
      | refine Branch.f rfl ?_
      | refine Branch.t (by assumption) ?_
      | refine Branch.f (by assumption) ?_
      | refine Branch.d (fun _ => ?_) (fun _ => ?_)
      | refine Branch.mk (fun _ => ?_) (fun _ => ?_)
      | refine Need.mk (by first | omega | decide | rfl) ?_
      | refine Idx.nat (by omega) ?_
      | refine Idx.auto (by first | omega | decide) (by first | omega | decide) ?_
      | refine Cell.ro rfl ?_
      | refine SDraw.all (by kernel_rfl) ?_
      | refine Kept.k0 ?_
      | refine Kept.k1 ?_
      | refine Kept.k2 ?_
      | refine Kept.k3 ?_
      | refine Kept.k4 ?_))
  all_goals (conv => whnf)
  all_goals exact Keep.sub [] (List.nil_sublist _) ⟨rfl, rfl⟩
def aheadB (x y : Mas) : Bool := decide (x.prio < y.prio) || (decide (x.prio = y.prio) && decide (x.node < y.node))
theorem c39 {H : Heap} (x y : Mas) (h : K (.bool (aheadB x y)) H) : SCalls Try.prog 39 [.agg ⟨x.cells⟩, .agg ⟨y.cells⟩] H K := by
  refine SCalls.any (K := fun v N => v = .bool (aheadB x y) ∧ N = []) (enter39 ?_) (by rintro v N ⟨rfl, rfl⟩; exact h)
  unfold Mas.cells
  repeat' ((conv => whnf); (first
      | refine New.mk (fun _ => ?_)
      | refine Look.at0 ?_
      | refine Cell.row ?_
      | refine Cell.buf ?_
      | refine Cells.row rfl ?_
      | refine Put.row rfl ?_
      | refine Put.buf rfl ?_
      | refine Look.at1 ?_
      | refine Look.at2 ?_
      | refine Look.at3 ?_
      | refine Look.at4 ?_
      | refine Look.at5 ?_
      | refine Look.at6 ?_
      | refine Look.at7 ?_
      | refine Look.at8 ?_
      | with_reducible refine Val.i64 (by omega) (by omega) ?_
      | with_reducible refine Val.u8 (by omega) (by omega) ?_
      | with_reducible refine Val.u32 (by omega) (by omega) ?_
      | with_reducible refine Val.u64 (by omega) (by omega) ?_
      | with_reducible refine Val.u8m ?_
      | with_reducible refine Val.u32m ?_
      | with_reducible refine Val.u64m ?_
      | with_reducible refine Val.shr8 ?_
      | with_reducible refine Val.shr16 (by decide) ?_
      | with_reducible refine Val.shr24 (by decide) ?_
      | with_reducible refine Val.raw ?_
      | refine Branch.not ?_
      | refine Branch.and ?_
      | refine Branch.or ?_
      | refine Branch.dt (by assumption) ?_
      | refine Branch.df (by assumption) ?_
      | refine Branch.dt rfl ?_
      | refine Branch.dt (by omega) ?_
      | refine Branch.df (by omega) ?_
      | refine Branch.t rfl ?_
      | refine Branch.f rfl ?_
      | refine Branch.t (by assumption) ?_
      | refine Branch.f (by assumption) ?_
      | refine Branch.d (fun _ => ?_) (fun _ => ?_)
      | refine Branch.mk (fun _ => ?_) (fun _ => ?_)
      | refine Need.mk (by first | omega | decide | rfl) ?_
      | refine Idx.nat (by omega) ?_
      | refine Idx.auto (by first | omega | decide) (by first | omega | decide) ?_
      | refine Cell.ro rfl ?_
      | refine SDraw.all (by kernel_rfl) ?_
      | refine Kept.k0 ?_
      | refine Kept.k1 ?_
      | refine Kept.k2 ?_
      | refine Kept.k3 ?_
      | refine Kept.k4 ?_))
  all_goals (conv => whnf)
  all_goals (refine Keep.sub [] (List.nil_sublist _) ⟨?_, rfl⟩; unfold aheadB; simp [*])
inductive S40 (A0 A1 A5 : Value) : List Value → Prop
  | mk {r2 r3 r4 r6 r7 r8 r9 r10 r11 r12 r13 r14 r15 r16 r17 r18 r19 r20 r21 r22 r23 r24 r25 : Value} : S40 A0 A1 A5 [A0, A1, r2, r3, r4, A5, r6, r7, r8, r9, r10, r11, r12, r13, r14, r15, r16, r17, r18, r19, r20, r21, r22, r23, r24, r25]
def I40 (d : Nat) (nd : Int) (L : List Mas) (H0 : Heap) (l : List Value) (H : Heap) : Prop :=
  ∃ j : Nat, j ≤ L.length ∧ (∀ (i : Nat) x, i < j → L[i]? = some x → x.node ≠ nd) ∧ S40 (.pointer (some ⟨d, 0, none⟩)) (.int .i64 nd) (.int .i64 (j : Int)) l ∧ H = H0
noncomputable def M40 (n : Nat) (l : List Value) (_ : Heap) : Nat := n - (match getL l 5 with | .int _ i => i.toNat | _ => 0)
/-- A master's place. -/
theorem c40 (hn : n = L.length) (hlen : L.length ≤ 8) (nd : Int) (h0 : (∀ x ∈ L, x.node ≠ nd) → K (.int .i64 (-1)) (rh d r1 r2 r3 r4 n c N slot lost L is ts os))
    (h1 : ∀ (j : Nat) x, L[j]? = some x → x.node = nd → (∀ (i : Nat) y, i < j → L[i]? = some y → y.node ≠ nd) → K (.int .i64 (j : Int)) (rh d r1 r2 r3 r4 n c N slot lost L is ts os)) :
    SCalls Try.prog 40 [.pointer (some ⟨d, 0, none⟩), .int .i64 nd] (rh d r1 r2 r3 r4 n c N slot lost L is ts os) K := by
  subst hn
  refine enter40 ?_
  repeat' ((conv => whnf); (first
      | refine New.mk (fun _ => ?_)
      | refine Look.at0 ?_
      | refine Cell.row ?_
      | refine Cell.buf ?_
      | refine Cells.row rfl ?_
      | refine Put.row rfl ?_
      | refine Put.buf rfl ?_
      | refine Look.at1 ?_
      | refine Look.at2 ?_
      | refine Look.at3 ?_
      | refine Look.at4 ?_
      | refine Look.at5 ?_
      | refine Look.at6 ?_
      | refine Look.at7 ?_
      | refine Look.at8 ?_
      | with_reducible refine Val.i64 (by omega) (by omega) ?_
      | with_reducible refine Val.u8 (by omega) (by omega) ?_
      | with_reducible refine Val.u32 (by omega) (by omega) ?_
      | with_reducible refine Val.u64 (by omega) (by omega) ?_
      | with_reducible refine Val.u8m ?_
      | with_reducible refine Val.u32m ?_
      | with_reducible refine Val.u64m ?_
      | with_reducible refine Val.shr8 ?_
      | with_reducible refine Val.shr16 (by decide) ?_
      | with_reducible refine Val.shr24 (by decide) ?_
      | with_reducible refine Val.raw ?_
      | refine Branch.not ?_
      | refine Branch.and ?_
      | refine Branch.or ?_
      | refine Branch.dt (by assumption) ?_
      | refine Branch.df (by assumption) ?_
      | refine Branch.dt rfl ?_
      | refine Branch.dt (by omega) ?_
      | refine Branch.df (by omega) ?_
      | refine Branch.t rfl ?_
      | refine Branch.f rfl ?_
      | refine Branch.t (by assumption) ?_
      | refine Branch.f (by assumption) ?_
      | refine Branch.d (fun _ => ?_) (fun _ => ?_)
      | refine Branch.mk (fun _ => ?_) (fun _ => ?_)
      | refine Need.mk (by first | omega | decide | rfl) ?_
      | refine Idx.nat (by omega) ?_
      | refine Idx.auto (by first | omega | decide) (by first | omega | decide) ?_
      | refine Cell.ro rfl ?_
      | refine SDraw.all (by kernel_rfl) ?_
      | refine Kept.k0 ?_
      | refine Kept.k1 ?_
      | refine Kept.k2 ?_
      | refine Kept.k3 ?_
      | refine Kept.k4 ?_))
  refine SLoop.inv (I40 d nd L (rh d r1 r2 r3 r4 L.length c N slot lost L is ts os)) (M40 L.length) (Keep.all ⟨0, by omega, fun i x hi => by omega, .mk, rfl⟩) ?_
  rintro S H ⟨j, hj, hno, hS, rfl⟩ R hR
  cases hS
  unfold rh at *
  by_cases hlt : j < L.length
  · obtain ⟨x, hx⟩ : ∃ x, L[j]? = some x := ⟨_, List.getElem?_eq_getElem hlt⟩
    repeat' ((conv => whnf); (first
        | refine Cell.flat Mas.len (i := 0) hx (by decide) rfl ?_
        | refine New.mk (fun _ => ?_)
        | refine Look.at0 ?_
        | refine Cell.row ?_
        | refine Cell.buf ?_
        | refine Cells.row rfl ?_
        | refine Put.row rfl ?_
        | refine Put.buf rfl ?_
        | refine Look.at1 ?_
        | refine Look.at2 ?_
        | refine Look.at3 ?_
        | refine Look.at4 ?_
        | refine Look.at5 ?_
        | refine Look.at6 ?_
        | refine Look.at7 ?_
        | refine Look.at8 ?_
        | with_reducible refine Val.i64 (by omega) (by omega) ?_
        | with_reducible refine Val.u8 (by omega) (by omega) ?_
        | with_reducible refine Val.u32 (by omega) (by omega) ?_
        | with_reducible refine Val.u64 (by omega) (by omega) ?_
        | with_reducible refine Val.u8m ?_
        | with_reducible refine Val.u32m ?_
        | with_reducible refine Val.u64m ?_
        | with_reducible refine Val.shr8 ?_
        | with_reducible refine Val.shr16 (by decide) ?_
        | with_reducible refine Val.shr24 (by decide) ?_
        | with_reducible refine Val.raw ?_
        | refine Branch.not ?_
        | refine Branch.and ?_
        | refine Branch.or ?_
        | refine Branch.dt (by assumption) ?_
        | refine Branch.df (by assumption) ?_
        | refine Branch.dt rfl ?_
        | refine Branch.dt (by omega) ?_
        | refine Branch.df (by omega) ?_
        | refine Branch.t rfl ?_
        | refine Branch.f rfl ?_
        | refine Branch.t (by assumption) ?_
        | refine Branch.f (by assumption) ?_
        | refine Branch.d (fun _ => ?_) (fun _ => ?_)
        | refine Branch.mk (fun _ => ?_) (fun _ => ?_)
        | refine Need.mk (by first | omega | decide | rfl) ?_
        | refine Idx.nat (by omega) ?_
        | refine Idx.auto (by first | omega | decide) (by first | omega | decide) ?_
        | refine Cell.ro rfl ?_
        | refine SDraw.all (by kernel_rfl) ?_
        | refine Kept.k0 ?_
        | refine Kept.k1 ?_
        | refine Kept.k2 ?_
        | refine Kept.k3 ?_
        | refine Kept.k4 ?_))
    all_goals (conv => whnf)
    · exact Keep.all (h1 j x hx (by assumption) hno)
    · refine hR _ _ (Keep.all ⟨⟨j + 1, by omega, fun i y hi hy => ?_, .mk, rfl⟩, ?_⟩)
      · by_cases e : i = j
        · subst e; rw [hx] at hy; injection hy with hy; subst hy; assumption
        · exact hno i y (by omega) hy
      · show L.length - Int.toNat ((j : Int) + 1) < L.length - Int.toNat (j : Int); omega
  · repeat' ((conv => whnf); (first
        | refine New.mk (fun _ => ?_)
        | refine Look.at0 ?_
        | refine Cell.row ?_
        | refine Cell.buf ?_
        | refine Cells.row rfl ?_
        | refine Put.row rfl ?_
        | refine Put.buf rfl ?_
        | refine Look.at1 ?_
        | refine Look.at2 ?_
        | refine Look.at3 ?_
        | refine Look.at4 ?_
        | refine Look.at5 ?_
        | refine Look.at6 ?_
        | refine Look.at7 ?_
        | refine Look.at8 ?_
        | with_reducible refine Val.i64 (by omega) (by omega) ?_
        | with_reducible refine Val.u8 (by omega) (by omega) ?_
        | with_reducible refine Val.u32 (by omega) (by omega) ?_
        | with_reducible refine Val.u64 (by omega) (by omega) ?_
        | with_reducible refine Val.u8m ?_
        | with_reducible refine Val.u32m ?_
        | with_reducible refine Val.u64m ?_
        | with_reducible refine Val.shr8 ?_
        | with_reducible refine Val.shr16 (by decide) ?_
        | with_reducible refine Val.shr24 (by decide) ?_
        | with_reducible refine Val.raw ?_
        | refine Branch.not ?_
        | refine Branch.and ?_
        | refine Branch.or ?_
        | refine Branch.dt (by assumption) ?_
        | refine Branch.df (by assumption) ?_
        | refine Branch.dt rfl ?_
        | refine Branch.dt (by omega) ?_
        | refine Branch.df (by omega) ?_
        | refine Branch.t rfl ?_
        | refine Branch.f rfl ?_
        | refine Branch.t (by assumption) ?_
        | refine Branch.f (by assumption) ?_
        | refine Branch.d (fun _ => ?_) (fun _ => ?_)
        | refine Branch.mk (fun _ => ?_) (fun _ => ?_)
        | refine Need.mk (by first | omega | decide | rfl) ?_
        | refine Idx.nat (by omega) ?_
        | refine Idx.auto (by first | omega | decide) (by first | omega | decide) ?_
        | refine Cell.ro rfl ?_
        | refine SDraw.all (by kernel_rfl) ?_
        | refine Kept.k0 ?_
        | refine Kept.k1 ?_
        | refine Kept.k2 ?_
        | refine Kept.k3 ?_
        | refine Kept.k4 ?_))
    all_goals (conv => whnf)
    refine Keep.all (h0 fun x hx => ?_)
    obtain ⟨i, hi, rfl⟩ := List.getElem_of_mem hx
    exact hno i _ (by omega) (List.getElem?_eq_getElem hi)
/-- One begins. -/
theorem c38 {j : Nat} {x : Mas} (hn : n = L.length) (hi : is.length = n) (ht : ts.length = n) (ho : os.length = n) (hx : L[j]? = some x) (hb : ¬ Bad x) (hlen : L.length ≤ 8)
    (h : K (.tuple ⟨[]⟩) (rh d r1 r2 r3 r4 n c N slot lost L (is.set j 1) (ts.set j (key x * slot % 18446744073709551616)) (os.set j 0))) :
    SCalls Try.prog 38 [.pointer (some ⟨d, 0, none⟩), .int .i64 (j : Int)] (rh d r1 r2 r3 r4 n c N slot lost L is ts os) K := by
  have hj := (List.getElem?_eq_some_iff.1 hx).1
  unfold rh at *
  refine enter38 ?_
  repeat' ((conv => whnf); (first
      | refine SDraw.held (by kernel_rfl) [(d, .row 76 [.slice (some ⟨r1, 0, none⟩) n c, .slice (some ⟨r2, 0, none⟩) n n, .slice (some ⟨r3, 0, none⟩) n n, .slice (some ⟨r4, 0, none⟩) n n, .int .u64 slot, .int .u64 lost] (0, 0)), (r1, .buf 30 (L.flatMap Mas.cells) N)] (.same (.head _) (.same (.tail _ (.head _)) .nil)) ?_
      | refine Kept.sub (List.Sublist.cons_cons _ (List.Sublist.cons_cons _ (List.nil_sublist _))) ?_
      | refine Cells.flat Mas.len hx ?_
      | refine c17w x slot hb ?_
      | refine Put.nthI (by omega) ?_
      | refine New.mk (fun _ => ?_)
      | refine Look.at0 ?_
      | refine Cell.row ?_
      | refine Cell.buf ?_
      | refine Cells.row rfl ?_
      | refine Put.row rfl ?_
      | refine Put.buf rfl ?_
      | refine Look.at1 ?_
      | refine Look.at2 ?_
      | refine Look.at3 ?_
      | refine Look.at4 ?_
      | refine Look.at5 ?_
      | refine Look.at6 ?_
      | refine Look.at7 ?_
      | refine Look.at8 ?_
      | with_reducible refine Val.i64 (by omega) (by omega) ?_
      | with_reducible refine Val.u8 (by omega) (by omega) ?_
      | with_reducible refine Val.u32 (by omega) (by omega) ?_
      | with_reducible refine Val.u64 (by omega) (by omega) ?_
      | with_reducible refine Val.u8m ?_
      | with_reducible refine Val.u32m ?_
      | with_reducible refine Val.u64m ?_
      | with_reducible refine Val.shr8 ?_
      | with_reducible refine Val.shr16 (by decide) ?_
      | with_reducible refine Val.shr24 (by decide) ?_
      | with_reducible refine Val.raw ?_
      | refine Branch.not ?_
      | refine Branch.and ?_
      | refine Branch.or ?_
      | refine Branch.dt (by assumption) ?_
      | refine Branch.df (by assumption) ?_
      | refine Branch.dt rfl ?_
      | refine Branch.dt (by omega) ?_
      | refine Branch.df (by omega) ?_
      | refine Branch.t rfl ?_
      | refine Branch.f rfl ?_
      | refine Branch.t (by assumption) ?_
      | refine Branch.f (by assumption) ?_
      | refine Branch.d (fun _ => ?_) (fun _ => ?_)
      | refine Branch.mk (fun _ => ?_) (fun _ => ?_)
      | refine Need.mk (by first | omega | decide | rfl) ?_
      | refine Idx.nat (by omega) ?_
      | refine Idx.auto (by first | omega | decide) (by first | omega | decide) ?_
      | refine Cell.ro rfl ?_
      | refine SDraw.all (by kernel_rfl) ?_
      | refine Kept.k0 ?_
      | refine Kept.k1 ?_
      | refine Kept.k2 ?_
      | refine Kept.k3 ?_
      | refine Kept.k4 ?_))
  all_goals (conv => whnf)
  all_goals exact Keep.all h
/-- Power is given, or taken. -/
theorem c24 (hn : n = L.length) (hi : is.length = n) (ht : ts.length = n) (ho : os.length = n) (hb : ∀ x ∈ L, ¬ Bad x) (hlen : L.length ≤ 8) (nd : Int) (on : Bool)
    (h0 : (∀ x ∈ L, x.node ≠ nd) → K (.int .i64 4) (rh d r1 r2 r3 r4 n c N slot lost L is ts os))
    (h1 : ∀ (j : Nat) x, L[j]? = some x → x.node = nd → x.on = on → K (.int .i64 0) (rh d r1 r2 r3 r4 n c N slot lost L is ts os))
    (h2 : ∀ (j : Nat) x, L[j]? = some x → x.node = nd → x.on ≠ on → (∀ (i : Nat) y, i < j → L[i]? = some y → y.node ≠ nd) →
      K (.int .i64 0) (rh d r1 r2 r3 r4 n c N slot lost (L.set j ⟨x.node, x.prio, on⟩) (is.set j (if on then 1 else 0)) (ts.set j (if on then key x * slot % 18446744073709551616 else 0)) (os.set j 0))) :
    SCalls Try.prog 24 [.pointer (some ⟨d, 0, none⟩), .int .i64 nd, .bool on] (rh d r1 r2 r3 r4 n c N slot lost L is ts os) K := by
  refine enter24 ?_
  repeat' ((conv => whnf); (first
      | refine c40 hn hlen nd (fun hno => ?_) (fun j x hx hxn hno => ?_)
      | refine New.mk (fun _ => ?_)
      | refine Look.at0 ?_
      | refine Cell.row ?_
      | refine Cell.buf ?_
      | refine Cells.row rfl ?_
      | refine Put.row rfl ?_
      | refine Put.buf rfl ?_
      | refine Look.at1 ?_
      | refine Look.at2 ?_
      | refine Look.at3 ?_
      | refine Look.at4 ?_
      | refine Look.at5 ?_
      | refine Look.at6 ?_
      | refine Look.at7 ?_
      | refine Look.at8 ?_
      | with_reducible refine Val.i64 (by omega) (by omega) ?_
      | with_reducible refine Val.u8 (by omega) (by omega) ?_
      | with_reducible refine Val.u32 (by omega) (by omega) ?_
      | with_reducible refine Val.u64 (by omega) (by omega) ?_
      | with_reducible refine Val.u8m ?_
      | with_reducible refine Val.u32m ?_
      | with_reducible refine Val.u64m ?_
      | with_reducible refine Val.shr8 ?_
      | with_reducible refine Val.shr16 (by decide) ?_
      | with_reducible refine Val.shr24 (by decide) ?_
      | with_reducible refine Val.raw ?_
      | refine Branch.not ?_
      | refine Branch.and ?_
      | refine Branch.or ?_
      | refine Branch.dt (by assumption) ?_
      | refine Branch.df (by assumption) ?_
      | refine Branch.dt rfl ?_
      | refine Branch.dt (by omega) ?_
      | refine Branch.df (by omega) ?_
      | refine Branch.t rfl ?_
      | refine Branch.f rfl ?_
      | refine Branch.t (by assumption) ?_
      | refine Branch.f (by assumption) ?_
      | refine Branch.d (fun _ => ?_) (fun _ => ?_)
      | refine Branch.mk (fun _ => ?_) (fun _ => ?_)
      | refine Need.mk (by first | omega | decide | rfl) ?_
      | refine Idx.nat (by omega) ?_
      | refine Idx.auto (by first | omega | decide) (by first | omega | decide) ?_
      | refine Cell.ro rfl ?_
      | refine SDraw.all (by kernel_rfl) ?_
      | refine Kept.k0 ?_
      | refine Kept.k1 ?_
      | refine Kept.k2 ?_
      | refine Kept.k3 ?_
      | refine Kept.k4 ?_))
  · exact Keep.all (h0 hno)
  · have hj := (List.getElem?_eq_some_iff.1 hx).1
    have e1 : ∀ v, (is.set j v).length = n := fun v => by simpa using hi
    have e2 : ∀ v, (ts.set j v).length = n := fun v => by simpa using ht
    have e3 : ∀ v, (os.set j v).length = n := fun v => by simpa using ho
    have h1 := h1 j x hx hxn
    have h2 := h2 j x hx hxn
    unfold rh at h1 h2 ⊢
    obtain ⟨xn, xp, xo⟩ := x
    have hbx2 : ¬ Bad (⟨xn, xp, on⟩ : Mas) := (hb _ (List.mem_of_getElem? hx) : ¬ Bad (⟨xn, xp, xo⟩ : Mas))
    have hx2 : (L.set j (⟨xn, xp, on⟩ : Mas))[j]? = some ⟨xn, xp, on⟩ := List.getElem?_set_self hj
    have hl2 : (L.set j (⟨xn, xp, on⟩ : Mas)).length = L.length := List.length_set
    have hl3 : (L.set j (⟨xn, xp, on⟩ : Mas)).length ≤ 8 := by omega
    simp only [] at h1 h2 hxn
    cases on <;> cases xo
    all_goals
      repeat' ((conv => whnf); (first
          | refine SDraw.held (by kernel_rfl) [(d, .row 76 [.slice (some ⟨r1, 0, none⟩) n c, .slice (some ⟨r2, 0, none⟩) n n, .slice (some ⟨r3, 0, none⟩) n n, .slice (some ⟨r4, 0, none⟩) n n, .int .u64 slot, .int .u64 lost] (0, 0))] (.same (.head _) .nil) ?_
          | refine Kept.sub (List.Sublist.cons_cons _ (List.nil_sublist _)) ?_
          | refine Cell.flat Mas.len (i := 2) hx (by decide) rfl ?_
          | refine Put.flat Mas.len (⟨xn, xp, false⟩ : Mas) hx (by decide) rfl ?_
          | refine Put.flat Mas.len (⟨xn, xp, true⟩ : Mas) hx (by decide) rfl ?_
          | refine Put.nthI (by omega) ?_
          | refine c38 (hn.trans hl2.symm) (e1 _) (e2 _) (e3 _) hx2 hbx2 hl3 ?_
          | refine New.mk (fun _ => ?_)
          | refine Look.at0 ?_
          | refine Cell.row ?_
          | refine Cell.buf ?_
          | refine Cells.row rfl ?_
          | refine Put.row rfl ?_
          | refine Put.buf rfl ?_
          | refine Look.at1 ?_
          | refine Look.at2 ?_
          | refine Look.at3 ?_
          | refine Look.at4 ?_
          | refine Look.at5 ?_
          | refine Look.at6 ?_
          | refine Look.at7 ?_
          | refine Look.at8 ?_
          | with_reducible refine Val.i64 (by omega) (by omega) ?_
          | with_reducible refine Val.u8 (by omega) (by omega) ?_
          | with_reducible refine Val.u32 (by omega) (by omega) ?_
          | with_reducible refine Val.u64 (by omega) (by omega) ?_
          | with_reducible refine Val.u8m ?_
          | with_reducible refine Val.u32m ?_
          | with_reducible refine Val.u64m ?_
          | with_reducible refine Val.shr8 ?_
          | with_reducible refine Val.shr16 (by decide) ?_
          | with_reducible refine Val.shr24 (by decide) ?_
          | with_reducible refine Val.raw ?_
          | refine Branch.not ?_
          | refine Branch.and ?_
          | refine Branch.or ?_
          | refine Branch.dt (by assumption) ?_
          | refine Branch.df (by assumption) ?_
          | refine Branch.dt rfl ?_
          | refine Branch.dt (by omega) ?_
          | refine Branch.df (by omega) ?_
          | refine Branch.t rfl ?_
          | refine Branch.f rfl ?_
          | refine Branch.t (by assumption) ?_
          | refine Branch.f (by assumption) ?_
          | refine Branch.d (fun _ => ?_) (fun _ => ?_)
          | refine Branch.mk (fun _ => ?_) (fun _ => ?_)
          | refine Need.mk (by first | omega | decide | rfl) ?_
          | refine Idx.nat (by omega) ?_
          | refine Idx.auto (by first | omega | decide) (by first | omega | decide) ?_
          | refine Cell.ro rfl ?_
          | refine SDraw.all (by kernel_rfl) ?_
          | refine Kept.k0 ?_
          | refine Kept.k1 ?_
          | refine Kept.k2 ?_
          | refine Kept.k3 ?_
          | refine Kept.k4 ?_))
    all_goals (conv => whnf)
    · exact Keep.all (h1 rfl)
    · exact Keep.all (h2 (by simp) hno)
    · have h2 := h2 (by simp) hno
      rw [List.set_set, List.set_set, List.set_set]
      exact Keep.all h2
    · exact Keep.all (h1 rfl)
end
end Go.Proofs.Ytmakaofdpoiaaaa
