/- Layer 25: what waits: heap.Push and heap.Pop, by walks. -/
import Derived.Test.YtjleekdidedhaaaDoorBMain1
import Derived.Test.YtjleekdidedhaaaDoorRd
import Derived.Test.YtjleekdidedhaaaDoorBSx1
import Derived.Test.YtjleekdidedhaaaDoorTy
import Derived.Lib.LaidTab
import Derived.Stop.LaidErr

set_option linter.unusedVariables false
set_option linter.unusedSimpArgs false
set_option maxRecDepth 100000
set_option maxHeartbeats 4000000
namespace Go.Proofs.YtjleekdidedhaaaDoor
open Sx
/-- The player's block and its queue (q), ahead of what else is known (H). -/
inductive PQ (p : Nat) (lv un : Value) : List Wn → Heap → Heap → Prop
  | nil {H : Heap} : PQ p lv un [] H (pRow p lv (.slice none 0 0) un :: H)
  | buf {H : Heap} {b c : Nat} {q st : List Wn} : q.length ≤ c → c ≤ maxLen → PQ p lv un q H (pq p b (c * 3) c lv un q st H)
theorem oneW (y : Wn) : ∀ u ∈ wC y, u.oneCell' = true := by
  intro u hu
  simp only [wC, List.mem_cons, List.not_mem_nil, or_false] at hu
  rcases hu with rfl | rfl | rfl <;> rfl
theorem rot3 {a b c : Nat × Blk} {H : Heap} {K : Heap → Prop} (h : K (c :: a :: H)) : Keep (a :: b :: c :: H) K :=
  Keep.mk (b :: c :: a :: H) (c :: a :: H) ((List.Perm.swap b a _).trans (.cons b (.swap c a H))) (List.sublist_cons_self _ _) h
section
variable {K : Value → Heap → Prop} {H F : Heap} {p : Nat} {lv un : Value} {q : List Wn} {x : Wn} {o : Oper} {xr : Operand} {ts : Array TypeId} {ar : Array Operand}
theorem PQ.que (h : PQ p lv un q H F) : ∃ a c M, q.length ≤ maxLen ∧ Que wC 3 72 (.slice a q.length c) q M ∧ F = pRow p lv (.slice a q.length c) un :: (M ++ H) := by
  cases h with
  | nil => exact ⟨none, 0, [], Nat.zero_le _, .nil, rfl⟩
  | buf h1 h2 => exact ⟨_, _, _, Nat.le_trans h1 h2, .buf h1 h2, rfl⟩
theorem c104 (h : PQ p lv un q H F) (hl : q.length ≤ 1000000000) (hK : ∀ b c, q.length + 1 ≤ c → c ≤ maxLen → K (.tuple ⟨[]⟩) (pRow p lv (.slice (some ⟨b, 0, none⟩) (q.length + 1) c) un :: (b, .buf 72 ((q ++ [x]).flatMap wC) (c * 3)) :: H)) : SCalls Tryd.prog 104 [.pointer (some ⟨p, 1, none⟩), .iface 72 (.agg ⟨wC x⟩)] F K := by
  obtain ⟨a, c, M, hml, hq, rfl⟩ := h.que
  refine enter104 ?_
  repeat' ((conv => whnf); (first | refine SDraw.held (by kernel_rfl) [_] (.same (.head _) .nil) ?_ | refine Kept.sub (List.Sublist.cons _ (List.Sublist.cons_cons _ (List.nil_sublist _))) ?_ | refine Kept.sub (List.Sublist.cons _ (List.Sublist.cons _ (List.Sublist.cons_cons _ (List.nil_sublist _)))) ?_ | refine RawV.que1 (A := [_, _]) (x := x) (bytes := 32) hq rfl (.head _) rfl (by kernel_rfl) (by decide) (fun _ => rfl) (oneW x) (by simp only [maxLen]; omega) (by omega) (fun b c h1 h2 => ?_) | exact rot3 (hK _ _ h1 h2) | refine New.mk (fun _ => ?_) | refine Look.at0 ?_ | refine Cell.row ?_ | refine Cell.buf ?_ | refine Cells.row rfl ?_ | refine Put.row rfl ?_ | refine Put.buf rfl ?_ | refine Look.at1 ?_ | refine Look.at2 ?_ | refine Look.at3 ?_ | refine Look.at4 ?_ | refine Look.at5 ?_ | refine Look.at6 ?_ | refine Look.at7 ?_ | refine Look.at8 ?_ | with_reducible refine Val.i64 (by omega) (by omega) ?_ | with_reducible refine Val.u8 (by omega) (by omega) ?_ | with_reducible refine Val.u32 (by omega) (by omega) ?_ | with_reducible refine Val.u64 (by omega) (by omega) ?_ | with_reducible refine Val.u8m ?_ | with_reducible refine Val.u32m ?_ | with_reducible refine Val.u64m ?_ | with_reducible refine Val.shr8 ?_ | with_reducible refine Val.shr16 (by decide) ?_ | with_reducible refine Val.shr24 (by decide) ?_ | with_reducible refine Val.raw ?_ | refine Branch.not ?_ | refine Branch.and ?_ | refine Branch.or ?_ | refine Branch.dt (by assumption) ?_ | refine Branch.df (by assumption) ?_ | refine Branch.dt rfl ?_ | refine Branch.dt (by omega) ?_ | refine Branch.df (by omega) ?_ | refine Branch.t rfl ?_ | refine Branch.f rfl ?_ | refine Branch.t (by assumption) ?_ | refine Branch.f (by assumption) ?_ | refine Branch.d (fun _ => ?_) (fun _ => ?_) | refine Branch.mk (fun _ => ?_) (fun _ => ?_) | refine Need.mk (by first | omega | decide | rfl) ?_ | refine Idx.nat (by omega) ?_ | refine Idx.auto (by first | omega | decide) (by first | omega | decide) ?_ | refine Cell.ro rfl ?_ | refine SDraw.all (by kernel_rfl) ?_ | refine Kept.k0 ?_ | refine Kept.k1 ?_ | refine Kept.k2 ?_ | refine Kept.k3 ?_ | refine Kept.k4 ?_))
theorem c103 {b N c : Nat} {q st : List Wn} (hl : q.length ≤ 1000000000) (hc : q.length + 1 ≤ c) (hK : K (.iface 72 (.agg ⟨wC x⟩)) (pq p b N c lv un q (x :: st) H)) : SCalls Tryd.prog 103 [.pointer (some ⟨p, 1, none⟩)] (pq p b N c lv un (q ++ [x]) st H) K := by
  have hx : (q ++ [x] ++ st)[q.length]? = some x := by simp
  have e : q ++ [x] ++ st = q ++ (x :: st) := by simp
  unfold pq at hK ⊢
  rw [← e] at hK
  rw [List.length_append, List.length_singleton]
  refine enter103 ?_
  repeat' ((conv => whnf); (first | with_reducible refine Val.to (q.length : Int) (by rw [wrap_i64 (by omega) (by omega)]; omega) ?_ | refine Idx.of q.length (by omega) (by omega) ?_ | refine Cells.flat (f := wC) (fun _ => rfl) hx ?_ | exact Keep.d1 hK | refine New.mk (fun _ => ?_) | refine Look.at0 ?_ | refine Cell.row ?_ | refine Cell.buf ?_ | refine Cells.row rfl ?_ | refine Put.row rfl ?_ | refine Put.buf rfl ?_ | refine Look.at1 ?_ | refine Look.at2 ?_ | refine Look.at3 ?_ | refine Look.at4 ?_ | refine Look.at5 ?_ | refine Look.at6 ?_ | refine Look.at7 ?_ | refine Look.at8 ?_ | with_reducible refine Val.i64 (by omega) (by omega) ?_ | with_reducible refine Val.u8 (by omega) (by omega) ?_ | with_reducible refine Val.u32 (by omega) (by omega) ?_ | with_reducible refine Val.u64 (by omega) (by omega) ?_ | with_reducible refine Val.u8m ?_ | with_reducible refine Val.u32m ?_ | with_reducible refine Val.u64m ?_ | with_reducible refine Val.shr8 ?_ | with_reducible refine Val.shr16 (by decide) ?_ | with_reducible refine Val.shr24 (by decide) ?_ | with_reducible refine Val.raw ?_ | refine Branch.not ?_ | refine Branch.and ?_ | refine Branch.or ?_ | refine Branch.dt (by assumption) ?_ | refine Branch.df (by assumption) ?_ | refine Branch.dt rfl ?_ | refine Branch.dt (by omega) ?_ | refine Branch.df (by omega) ?_ | refine Branch.t rfl ?_ | refine Branch.f rfl ?_ | refine Branch.t (by assumption) ?_ | refine Branch.f (by assumption) ?_ | refine Branch.d (fun _ => ?_) (fun _ => ?_) | refine Branch.mk (fun _ => ?_) (fun _ => ?_) | refine Need.mk (by first | omega | decide | rfl) ?_ | refine Idx.nat (by omega) ?_ | refine Idx.auto (by first | omega | decide) (by first | omega | decide) ?_ | refine Cell.ro rfl ?_ | refine SDraw.all (by kernel_rfl) ?_ | refine Kept.k0 ?_ | refine Kept.k1 ?_ | refine Kept.k2 ?_ | refine Kept.k3 ?_ | refine Kept.k4 ?_))
theorem r_push (ho : o.op = .call { callee := .invoke xr "Push", args := ar, argTypes := ts }) (h : PQ p lv un q H F) (hl : q.length ≤ 1000000000) (hK : ∀ b c, q.length + 1 ≤ c → c ≤ maxLen → K (.tuple ⟨[]⟩) (pRow p lv (.slice (some ⟨b, 0, none⟩) (q.length + 1) c) un :: (b, .buf 72 ((q ++ [x]).flatMap wC) (c * 3)) :: H)) : RawV Tryd.prog o [qP p, .iface 72 (.agg ⟨wC x⟩)] F K :=
  RawV.invoke (f := 104) (vs := [_]) ho (fun w hw => inv_push p _ w) (c104 h hl hK)
theorem r_pop {b N c : Nat} {q st : List Wn} (ho : o.op = .call { callee := .invoke xr "Pop", args := ar, argTypes := ts }) (hl : q.length ≤ 1000000000) (hc : q.length + 1 ≤ c) (hK : K (.iface 72 (.agg ⟨wC x⟩)) (pq p b N c lv un q (x :: st) H)) : RawV Tryd.prog o [qP p] (pq p b N c lv un (q ++ [x]) st H) K :=
  RawV.invoke (f := 103) (vs := []) ho (fun w hw => inv_pop p w) (c103 hl hc hK)
theorem c40 (h : PQ p lv un q H F) (hh : Hp.HeapN wlt q q.length) (hl : q.length ≤ 1000000000) (hK : ∀ q' F', PQ p lv un q' H F' → q'.Perm (q ++ [x]) → Hp.HeapN wlt q' q'.length → K (.tuple ⟨[]⟩) F') : SCalls Tryd.prog 40 [qP p, .iface 72 (.agg ⟨wC x⟩)] F K := by
  refine enter40 ?_
  have hpush := fun (K2 : Value → Heap → Prop) (o : Oper) (xr : Operand) (ar : Array Operand) (ts : Array TypeId) ho hk => r_push (K := K2) (o := o) (xr := xr) (ar := ar) (ts := ts) (x := x) ho h hl hk
  have hup : ∀ b c (K : Value → Heap → Prop), q.length + 1 ≤ c → c ≤ maxLen → (∀ q' F', PQ p lv un q' H F' → q'.Perm (q ++ [x]) → Hp.HeapN wlt q' q'.length → K (.tuple ⟨[]⟩) F') → SCalls Tryd.prog 47 [qP p, .int .i64 (q.length : Int)] (pRow p lv (.slice (some ⟨b, 0, none⟩) (q.length + 1) c) un :: (b, .buf 72 ((q ++ [x]).flatMap wC) (c * 3)) :: H) K := by
    intro b c K h1 h2 hK
    have hu := hh.push x
    have he : pRow p lv (.slice (some ⟨b, 0, none⟩) (q.length + 1) c) un :: (b, .buf 72 ((q ++ [x]).flatMap wC) (c * 3)) :: H = pq p b (c * 3) c lv un (q ++ [x]) [] H := by
      unfold pq
      rw [List.append_nil, List.length_append]; rfl
    rw [he]
    refine c47 (by simp; omega) (by rw [List.length_append]; exact hu) (by simp) (fun q' hp hn => hK q' _ (.buf (by rw [hp.length_eq]; simpa using h1) h2) hp hn)
  have hlen : ∀ b c (K2 : Value → Heap → Prop) (o : Oper) (xr : Operand) (ar : Array Operand) (ts : Array TypeId), o.op = .call { callee := .invoke xr "Len", args := ar, argTypes := ts } → K2 (.int .i64 ((q.length : Int) + 1)) (pRow p lv (.slice (some ⟨b, 0, none⟩) (q.length + 1) c) un :: (b, .buf 72 ((q ++ [x]).flatMap wC) (c * 3)) :: H) → RawV Tryd.prog o [qP p] (pRow p lv (.slice (some ⟨b, 0, none⟩) (q.length + 1) c) un :: (b, .buf 72 ((q ++ [x]).flatMap wC) (c * 3)) :: H) K2 := by
    intro b c K2 o xr ar ts ho hk
    have he : pRow p lv (.slice (some ⟨b, 0, none⟩) (q.length + 1) c) un :: (b, .buf 72 ((q ++ [x]).flatMap wC) (c * 3)) :: H = pq p b (c * 3) c lv un (q ++ [x]) [] H := by
      unfold pq
      rw [List.append_nil, List.length_append]; rfl
    rw [he] at hk ⊢
    refine r_len ho ?_
    rw [List.length_append]
    exact hk
  clear h
  repeat' ((conv => whnf); (first | refine hpush _ _ _ _ _ rfl (fun b c h1 h2 => ?_) | refine hlen _ _ _ _ _ _ _ rfl ?_ | with_reducible refine Val.to (q.length : Int) (by rw [wrap_i64 (by omega) (by omega)]; omega) ?_ | refine hup _ _ _ h1 h2 (fun q' F' g1 g2 g3 => ?_) | exact Keep.all (hK _ _ g1 g2 g3) | refine New.mk (fun _ => ?_) | refine Look.at0 ?_ | refine Cell.row ?_ | refine Cell.buf ?_ | refine Cells.row rfl ?_ | refine Put.row rfl ?_ | refine Put.buf rfl ?_ | refine Look.at1 ?_ | refine Look.at2 ?_ | refine Look.at3 ?_ | refine Look.at4 ?_ | refine Look.at5 ?_ | refine Look.at6 ?_ | refine Look.at7 ?_ | refine Look.at8 ?_ | with_reducible refine Val.i64 (by omega) (by omega) ?_ | with_reducible refine Val.u8 (by omega) (by omega) ?_ | with_reducible refine Val.u32 (by omega) (by omega) ?_ | with_reducible refine Val.u64 (by omega) (by omega) ?_ | with_reducible refine Val.u8m ?_ | with_reducible refine Val.u32m ?_ | with_reducible refine Val.u64m ?_ | with_reducible refine Val.shr8 ?_ | with_reducible refine Val.shr16 (by decide) ?_ | with_reducible refine Val.shr24 (by decide) ?_ | with_reducible refine Val.raw ?_ | refine Branch.not ?_ | refine Branch.and ?_ | refine Branch.or ?_ | refine Branch.dt (by assumption) ?_ | refine Branch.df (by assumption) ?_ | refine Branch.dt rfl ?_ | refine Branch.dt (by omega) ?_ | refine Branch.df (by omega) ?_ | refine Branch.t rfl ?_ | refine Branch.f rfl ?_ | refine Branch.t (by assumption) ?_ | refine Branch.f (by assumption) ?_ | refine Branch.d (fun _ => ?_) (fun _ => ?_) | refine Branch.mk (fun _ => ?_) (fun _ => ?_) | refine Need.mk (by first | omega | decide | rfl) ?_ | refine Idx.nat (by omega) ?_ | refine Idx.auto (by first | omega | decide) (by first | omega | decide) ?_ | refine Cell.ro rfl ?_ | refine SDraw.all (by kernel_rfl) ?_ | refine Kept.k0 ?_ | refine Kept.k1 ?_ | refine Kept.k2 ?_ | refine Kept.k3 ?_ | refine Kept.k4 ?_))
theorem c31 {n : Nat} {y : Wn} (h : PQ p lv un q H F) (hh : Hp.HeapN wlt q q.length) (hl : q.length ≤ 1000000000) (hn : q.length = n + 1) (hK : ∀ y q' F', PQ p lv un q' H F' → q.Perm (y :: q') → (∀ x ∈ q, wlt x y = false) → Hp.HeapN wlt q' q'.length → K (.iface 72 (.agg ⟨wC y⟩)) F') : SCalls Tryd.prog 31 [qP p] F K := by
  cases h with
  | nil => cases hn
  | @buf _ b c q st hc1 hc2 =>
    have h0 := List.getElem?_eq_getElem (show 0 < q.length by omega)
    generalize q[0] = y at h0
    have hx := List.getElem?_eq_getElem (show n < q.length by omega)
    generalize q[n] = x at hx
    have hmin := hh.min wlt_ord (Nat.le_refl _) h0 (wlt_irr y)
    rw [hn] at hh
    have hb := hh.pop h0 hx
    have hsl := Hp.sw_len (l := q) (i := 0) (j := n) (x := x) (y := y)
    have hsn : (Hp.sw q 0 n x y)[n]? = some y := by rw [Hp.sw_at (Hp.at_lt h0) (Hp.at_lt hx), if_pos rfl]
    have hdown : ∀ (K2 : Value → Heap → Prop), (∀ mv q', q'.length = n → q.Perm (y :: q') → Hp.HeapN wlt q' q'.length → K2 (.bool mv) (pq p b (c * 3) c lv un (q' ++ [y]) st H)) → SCalls Tryd.prog 41 [qP p, .int .i64 0, .int .i64 (n : Int)] (pq p b (c * 3) c lv un (Hp.sw q 0 n x y) st H) K2 := by
      intro K2 hk
      refine c41 (i0 := 0) (n := n) (by rw [hsl]; omega) (by rw [hsl]; omega) hb (Nat.zero_le _) (fun mv q2 hp htl hmv hmf => ?_)
      have hq2 : Hp.HeapN wlt q2 n := by
        cases mv with
        | true => exact hmv rfl
        | false =>
          obtain ⟨rfl, hu⟩ := hmf rfl
          exact hu.done (.inl rfl)
      have hl2 : q2.length = n + 1 := by rw [hp.length_eq, hsl, hn]
      have hy2 : q2[n]? = some y := by rw [htl n (Nat.le_refl _), hsn]
      have hsplit : q2 = q2.take n ++ [y] := by
        obtain ⟨hlt, e⟩ := List.getElem?_eq_some_iff.1 hy2
        rw [← e, ← List.take_succ_eq_append_getElem hlt, List.take_of_length_le (by omega)]
      have hlt : (q2.take n).length = n := by simp; omega
      have hperm : q.Perm (y :: q2.take n) := ((hp.trans (Hp.sw_perm h0 hx)).symm).trans (by
        conv => lhs; rw [hsplit]
        exact List.perm_append_comm)
      have := hk mv (q2.take n) hlt hperm (by rw [hlt]; exact hq2.cut)
      rw [← hsplit] at this
      exact this
    have hswap := fun (K2 : Value → Heap → Prop) (o : Oper) (xr : Operand) (ar : Array Operand) (ts : Array TypeId) ho hk => r_swap (K := K2) (o := o) (xr := xr) (ar := ar) (ts := ts) (p := p) (lv := lv) (un := un) (H := H) (b := b) (N := c * 3) (c := c) (st := st) (i := 0) (j := n) ho h0 hx hk
    have hpop := fun q' (hq : q'.length = n) (K2 : Value → Heap → Prop) (o : Oper) (xr : Operand) (ar : Array Operand) (ts : Array TypeId) ho hk => r_pop (K := K2) (o := o) (xr := xr) (ar := ar) (ts := ts) (p := p) (lv := lv) (un := un) (H := H) (b := b) (N := c * 3) (c := c) (q := q') (st := st) (x := y) ho (by omega) (by omega) hk
    refine enter31 ?_
    repeat' ((conv => whnf); (first | refine r_len rfl ?_ | with_reducible refine Val.to (n : Int) (by rw [wrap_i64 (by omega) (by omega)]; omega) ?_ | refine hswap _ _ _ _ _ rfl ?_ | refine hdown _ (fun mv q' g1 g2 g3 => ?_) | refine hpop _ g1 _ _ _ _ _ rfl ?_ | exact Keep.all (hK _ _ _ (.buf (by omega) hc2) g2 (fun x hx => by
            obtain ⟨k, hk, rfl⟩ := List.getElem_of_mem hx
            exact hmin k _ hk (List.getElem?_eq_getElem hk)) g3) | refine New.mk (fun _ => ?_) | refine Look.at0 ?_ | refine Cell.row ?_ | refine Cell.buf ?_ | refine Cells.row rfl ?_ | refine Put.row rfl ?_ | refine Put.buf rfl ?_ | refine Look.at1 ?_ | refine Look.at2 ?_ | refine Look.at3 ?_ | refine Look.at4 ?_ | refine Look.at5 ?_ | refine Look.at6 ?_ | refine Look.at7 ?_ | refine Look.at8 ?_ | with_reducible refine Val.i64 (by omega) (by omega) ?_ | with_reducible refine Val.u8 (by omega) (by omega) ?_ | with_reducible refine Val.u32 (by omega) (by omega) ?_ | with_reducible refine Val.u64 (by omega) (by omega) ?_ | with_reducible refine Val.u8m ?_ | with_reducible refine Val.u32m ?_ | with_reducible refine Val.u64m ?_ | with_reducible refine Val.shr8 ?_ | with_reducible refine Val.shr16 (by decide) ?_ | with_reducible refine Val.shr24 (by decide) ?_ | with_reducible refine Val.raw ?_ | refine Branch.not ?_ | refine Branch.and ?_ | refine Branch.or ?_ | refine Branch.dt (by assumption) ?_ | refine Branch.df (by assumption) ?_ | refine Branch.dt rfl ?_ | refine Branch.dt (by omega) ?_ | refine Branch.df (by omega) ?_ | refine Branch.t rfl ?_ | refine Branch.f rfl ?_ | refine Branch.t (by assumption) ?_ | refine Branch.f (by assumption) ?_ | refine Branch.d (fun _ => ?_) (fun _ => ?_) | refine Branch.mk (fun _ => ?_) (fun _ => ?_) | refine Need.mk (by first | omega | decide | rfl) ?_ | refine Idx.nat (by omega) ?_ | refine Idx.auto (by first | omega | decide) (by first | omega | decide) ?_ | refine Cell.ro rfl ?_ | refine SDraw.all (by kernel_rfl) ?_ | refine Kept.k0 ?_ | refine Kept.k1 ?_ | refine Kept.k2 ?_ | refine Kept.k3 ?_ | refine Kept.k4 ?_))
end
end Go.Proofs.YtjleekdidedhaaaDoor

/- Layer 25: how messages go: what is played, in plain Lean. -/
set_option linter.unusedVariables false
set_option linter.unusedSimpArgs false
set_option maxRecDepth 100000
namespace Go.Proofs.YtjleekdidedhaaaDoor
open Sx
/-- A message that is played: when it was asked for, and is queued, next. -/
structure Sr where
  (m : Msg) (a q : Nat)
/-- What is queued of one by a time (now): when it was asked for; what is next. -/
def drF (P un now : Nat) : Nat → Nat → Nat → List Nat × Nat × Nat
  | 0, a, q => ([], a, q)
  | f + 1, a, q => if q ≤ now ∧ q < un then (a :: (drF P un now f (a + P) (a + P)).1, (drF P un now f (a + P) (a + P)).2) else ([], a, q)
abbrev dr (un now : Nat) (s : Sr) : List Nat × Nat × Nat := drF s.m.p un now (un + 1) s.a s.q
abbrev drS (un now : Nat) (s : Sr) : Sr := ⟨s.m, (dr un now s).2.1, (dr un now s).2.2⟩
def wants (un now : Nat) : Nat → List Sr → List Wn
  | _, [] => []
  | k, s :: r => (dr un now s).1.map (fun a => ⟨k, fld s.m, a⟩) ++ wants un now (k + 1) r
theorem wants_snoc {un now : Nat} {s : Sr} : ∀ (l : List Sr) (k : Nat), wants un now k (l ++ [s]) = wants un now k l ++ (dr un now s).1.map (fun a => ⟨k + l.length, fld s.m, a⟩)
  | [], k => by simp [wants]
  | x :: l, k => by
    rw [List.cons_append, wants, wants_snoc l (k + 1), wants, List.length_cons, List.append_assoc]
    rw [show k + 1 + l.length = k + (l.length + 1) by omega]
def nxtK (un : Nat) (r : Nat × Bool) (s : Sr) : Nat × Bool := if s.q < un ∧ (r.2 = false ∨ s.q < r.1) then (s.q, true) else r
def nxt (un : Nat) (ss : List Sr) : Nat × Bool := ss.foldl (nxtK un) (0, false)
/-- The first of those that come first. -/
def bestK (Q : List Wn) : Nat → Nat
  | 0 => 0
  | k + 1 => match Q[k + 1]?, Q[bestK Q k]? with
    | some x, some y => if tlt x.fl y.fl then k + 1 else bestK Q k
    | _, _ => bestK Q k
def best (Q : List Wn) : Nat := bestK Q (Q.length - 1)
def upd (out : List Nat) (i v : Nat) : List Nat := out.set i (max (out.getD i 0) v)
/-- What is told at last (r), of what is played. -/
inductive Runs (un : Nat) : List Sr → List Wn → Nat → List Nat → List Nat → Prop
  | halt {ss : List Sr} {Q : List Wn} {now : Nat} {out : List Nat} : Q ++ wants un now 0 ss = [] → (nxt un (ss.map (drS un now))).2 = false → Runs un ss Q now out out
  | wait {ss : List Sr} {Q : List Wn} {now t : Nat} {out r : List Nat} : Q ++ wants un now 0 ss = [] → nxt un (ss.map (drS un now)) = (t, true) → Runs un (ss.map (drS un now)) [] t out r → Runs un ss Q now out r
  | go {ss : List Sr} {Q : List Wn} {now : Nat} {out r : List Nat} {w : Wn} {s : Sr} : (Q ++ wants un now 0 ss)[best (Q ++ wants un now 0 ss)]? = some w → ss[w.who]? = some s →
      Runs un (ss.map (drS un now)) ((Q ++ wants un now 0 ss).eraseIdx (best (Q ++ wants un now 0 ss))) (now + tm s.m) (upd out w.who (now + tm s.m - w.ask)) r → Runs un ss Q now out r
/-- What holds of one. -/
structure SrOk (un : Nat) (s : Sr) : Prop where
  good : Good s.m
  aq : s.a ≤ s.q
  qa : s.q < s.a + s.m.p
  qb : s.q ≤ un + 4294967296
structure DrOk (P un now a q : Nat) (r : List Nat × Nat × Nat) : Prop where
  up : r.1.Pairwise (· < ·)
  lo : ∀ b ∈ r.1, a ≤ b ∧ b < r.2.1 ∧ b ≤ now
  a1 : a ≤ r.2.1
  aq : r.2.1 ≤ r.2.2
  qa : r.2.2 < r.2.1 + P
  qb : r.2.2 ≤ un + 4294967296
  pot : r.1.length + (un - r.2.2) ≤ un - q
  end_ : ¬ (r.2.2 ≤ now ∧ r.2.2 < un)
theorem drF_ok {P un now : Nat} (hP : 1 ≤ P) (hP2 : P ≤ 4294967296) : ∀ (f a q : Nat), a ≤ q → q < a + P → q ≤ un + 4294967296 → un ≤ f + q → DrOk P un now a q (drF P un now f a q)
  | 0, a, q, h1, h2, h3, h4 => ⟨List.Pairwise.nil, (fun _ h => by cases h), Nat.le_refl _, h1, h2, h3, (by show 0 + (un - q) ≤ un - q; omega), (fun h => by
      have h5 : q < un := h.2
      omega)⟩
  | f + 1, a, q, h1, h2, h3, h4 => by
    rw [drF]
    by_cases hc : q ≤ now ∧ q < un
    · rw [if_pos hc]
      have ih := drF_ok (un := un) (now := now) hP hP2 f (a + P) (a + P) (Nat.le_refl _) (by omega) (by omega) (by omega)
      refine ⟨List.pairwise_cons.2 ⟨fun b hb => by have := (ih.lo b hb).1; omega, ih.up⟩, fun b hb => ?_, (by have := ih.a1; show a ≤ (drF P un now f (a + P) (a + P)).2.1; omega), ih.aq, ih.qa, ih.qb, ?_, ih.end_⟩
      · rcases List.mem_cons.1 hb with rfl | hb
        · exact ⟨Nat.le_refl _, (by have := ih.a1; show b < (drF P un now f (b + P) (b + P)).2.1; omega), by omega⟩
        · have := ih.lo b hb
          exact ⟨by omega, this.2.1, this.2.2⟩
      · have := ih.pot
        show (drF P un now f (a + P) (a + P)).1.length + 1 + (un - (drF P un now f (a + P) (a + P)).2.2) ≤ un - q
        omega
    · rw [if_neg hc]
      exact ⟨List.Pairwise.nil, (fun _ h => by cases h), Nat.le_refl _, h1, h2, h3, (by show 0 + (un - q) ≤ un - q; omega), hc⟩
theorem SrOk.dr {un now : Nat} {s : Sr} (h : SrOk un s) : DrOk s.m.p un now s.a s.q (dr un now s) := drF_ok h.good.p1 h.good.p2 _ _ _ h.aq h.qa h.qb (by omega)
theorem SrOk.next {un now : Nat} {s : Sr} (h : SrOk un s) : SrOk un (drS un now s) := ⟨h.good, (h.dr (now := now)).aq, (h.dr (now := now)).qa, (h.dr (now := now)).qb⟩
theorem mem_wants {un now : Nat} {x : Wn} : ∀ (ss : List Sr) (k : Nat), x ∈ wants un now k ss → ∃ i s, ss[i]? = some s ∧ x.who = k + i ∧ x.fl = fld s.m ∧ x.ask ∈ (dr un now s).1
  | s :: r, k, h => by
    rcases List.mem_append.1 h with h | h
    · obtain ⟨a, ha, rfl⟩ := List.mem_map.1 h
      exact ⟨0, s, rfl, rfl, rfl, ha⟩
    · obtain ⟨i, s', h1, h2, h3, h4⟩ := mem_wants r (k + 1) h
      exact ⟨i + 1, s', by simpa using h1, by omega, h3, h4⟩
/-- What may come yet. -/
def pot (un : Nat) (ss : List Sr) (Q : List Wn) : Nat := Q.length + (ss.map fun s => un - s.q).sum
theorem wants_pot {un now : Nat} : ∀ (ss : List Sr) (k : Nat), (∀ s ∈ ss, SrOk un s) → (wants un now k ss).length + ((ss.map (drS un now)).map fun s => un - s.q).sum ≤ (ss.map fun s => un - s.q).sum
  | [], _, _ => Nat.le_refl _
  | s :: r, k, h => by
    have h1 := ((h s (.head _)).dr (now := now)).pot
    have h2 := wants_pot (now := now) r (k + 1) (fun x hx => h x (.tail _ hx))
    rw [wants, List.length_append, List.length_map, List.map_cons, List.map_cons, List.map_cons, List.sum_cons, List.sum_cons]
    show _ + _ + (un - (dr un now s).2.2 + _) ≤ _
    omega
abbrev ordQ (x y : Wn) : Prop := x.fl = y.fl → x.ask < y.ask
theorem wants_ord {un now : Nat} : ∀ (ss : List Sr) (k : Nat), (∀ s ∈ ss, SrOk un s) → (ss.map fun s => fld s.m).Nodup → (wants un now k ss).Pairwise ordQ
  | [], _, _, _ => List.Pairwise.nil
  | s :: r, k, h, hn => by
    rw [List.map_cons, List.nodup_cons] at hn
    rw [wants, List.pairwise_append]
    refine ⟨?_, wants_ord r (k + 1) (fun x hx => h x (.tail _ hx)) hn.2, fun x hx y hy he => ?_⟩
    · rw [List.pairwise_map]
      exact ((h s (.head _)).dr (now := now)).up.imp (fun {a b} hab => (fun _ => hab : ordQ ⟨k, fld s.m, a⟩ ⟨k, fld s.m, b⟩))
    · obtain ⟨a, _, rfl⟩ := List.mem_map.1 hx
      obtain ⟨i, s', h1, _, h3, _⟩ := mem_wants r (k + 1) hy
      exact absurd (List.mem_map.2 ⟨s', List.mem_of_getElem? h1, by rw [← h3]; exact he.symm⟩) hn.1
/-- What holds at each round's head. -/
structure PInv (un : Nat) (L : List Msg) (ss : List Sr) (Q : List Wn) (now : Nat) (out : List Nat) : Prop where
  goods : Goods L
  unb : un ≤ 1048576
  ms : ss.map Sr.m = L
  ok : ∀ s ∈ ss, SrOk un s
  outl : out.length = L.length
  outb : ∀ v ∈ out, v ≤ 20000000000
  wk : ∀ x ∈ Q, ∃ s, ss[x.who]? = some s ∧ x.fl = fld s.m ∧ x.ask < s.a
  by_ : ∀ x ∈ Q, x.ask ≤ now
  ord : Q.Pairwise ordQ
  potb : YtjleekdidedhaaaDoor.pot un ss Q ≤ 67108864
  nowb : now + 160 * YtjleekdidedhaaaDoor.pot un ss Q ≤ 10738466816
theorem PInv.flds {un : Nat} {L : List Msg} {ss : List Sr} {Q : List Wn} {now : Nat} {out : List Nat} (h : PInv un L ss Q now out) : (ss.map fun s => fld s.m).Nodup := by
  have := h.goods.one
  rw [← h.ms, List.map_map] at this
  exact this
/-- All that are queued by now are queued. -/
theorem PInv.takes {un : Nat} {L : List Msg} {ss : List Sr} {Q : List Wn} {now : Nat} {out : List Nat} (h : PInv un L ss Q now out) : PInv un L (ss.map (drS un now)) (Q ++ wants un now 0 ss) now out := by
  have hp := wants_pot (now := now) ss 0 h.ok
  have hpot : YtjleekdidedhaaaDoor.pot un (ss.map (drS un now)) (Q ++ wants un now 0 ss) ≤ YtjleekdidedhaaaDoor.pot un ss Q := by
    unfold YtjleekdidedhaaaDoor.pot
    rw [List.length_append]
    omega
  refine ⟨h.goods, h.unb, by rw [List.map_map, ← h.ms]; rfl, fun s hs => ?_, h.outl, h.outb, fun x hx => ?_, fun x hx => ?_, ?_, Nat.le_trans hpot h.potb, Nat.le_trans (Nat.add_le_add_left (Nat.mul_le_mul_left _ hpot) _) h.nowb⟩
  · obtain ⟨s', hs', rfl⟩ := List.mem_map.1 hs
    exact (h.ok s' hs').next
  · rcases List.mem_append.1 hx with hx | hx
    · obtain ⟨s, h1, h2, h3⟩ := h.wk x hx
      exact ⟨drS un now s, by rw [List.getElem?_map, h1]; rfl, h2, Nat.lt_of_lt_of_le h3 ((h.ok s (List.mem_of_getElem? h1)).dr (now := now)).a1⟩
    · obtain ⟨i, s, h1, h2, h3, h4⟩ := mem_wants ss 0 hx
      rw [Nat.zero_add] at h2
      exact ⟨drS un now s, by rw [List.getElem?_map, h2, h1]; rfl, h3, (((h.ok s (List.mem_of_getElem? h1)).dr (now := now)).lo _ h4).2.1⟩
  · rcases List.mem_append.1 hx with hx | hx
    · exact h.by_ x hx
    · obtain ⟨i, s, h1, h2, h3, h4⟩ := mem_wants ss 0 hx
      exact (((h.ok s (List.mem_of_getElem? h1)).dr (now := now)).lo _ h4).2.2
  · rw [List.pairwise_append]
    refine ⟨h.ord, wants_ord ss 0 h.ok h.flds, fun x hx y hy he => ?_⟩
    obtain ⟨s, h1, h2, h3⟩ := h.wk x hx
    obtain ⟨i, s', g1, g2, g3, g4⟩ := mem_wants ss 0 hy
    have : x.who = i := by
      have e1 : (ss.map fun s => fld s.m)[x.who]? = some (fld s.m) := by rw [List.getElem?_map, h1]; rfl
      have e2 : (ss.map fun s => fld s.m)[i]? = some (fld s.m) := by rw [List.getElem?_map, g1, ← h2, he, g3]; rfl
      have hlt := (List.getElem?_eq_some_iff.1 e1).1
      exact (List.getElem?_inj hlt h.flds).1 (by rw [e1, e2])
    rw [this, g1] at h1
    injection h1 with h1
    subst h1
    exact Nat.lt_of_lt_of_le h3 (((h.ok s' (List.mem_of_getElem? g1)).dr (now := now)).lo _ g4).1
theorem best_ok (Q : List Wn) : ∀ k, k < Q.length → bestK Q k ≤ k ∧ ∃ w, Q[bestK Q k]? = some w ∧ (∀ i x, i ≤ k → Q[i]? = some x → tlt x.fl w.fl = false) ∧ ∀ i x, i < bestK Q k → Q[i]? = some x → tlt w.fl x.fl = true
  | 0, h => ⟨Nat.le_refl _, Q[0], List.getElem?_eq_getElem h, fun i x hi hx => by
      obtain rfl : i = 0 := by omega
      rw [List.getElem?_eq_getElem h] at hx
      injection hx with hx
      subst hx
      exact Hp.bl_irr _, fun i x hi => absurd hi (Nat.not_lt_zero _)⟩
  | k + 1, h => by
    obtain ⟨h1, w, h2, h3, h4⟩ := best_ok Q k (by omega)
    have hx := List.getElem?_eq_getElem h
    generalize Q[k + 1] = x at hx
    rw [bestK, hx, h2]
    dsimp only
    cases hlt : tlt x.fl w.fl with
    | true =>
      rw [if_pos rfl]
      have key : ∀ i y, i ≤ k → Q[i]? = some y → tlt x.fl y.fl = true := fun i y hi hy => by
        cases hxy : tlt x.fl y.fl with
        | true => rfl
        | false =>
          cases hwy : tlt w.fl y.fl with
          | true =>
            have := Hp.bl_trans _ _ _ hlt hwy
            rw [show Op.bytesLess x.fl y.fl = false from hxy] at this; cases this
          | false =>
            have := Hp.bl_tri _ _ (h3 i y hi hy) hwy
            rw [this] at hxy
            rw [hlt] at hxy; cases hxy
      refine ⟨Nat.le_refl _, x, hx, fun i y hi hy => ?_, fun i y hi hy => key i y (by omega) hy⟩
      rcases Nat.lt_or_ge i (k + 1) with h' | h'
      · exact Hp.bl_asym (key i y (by omega) hy)
      · obtain rfl : i = k + 1 := by omega
        rw [hx] at hy
        injection hy with hy
        subst hy
        exact Hp.bl_irr _
    | false =>
      rw [if_neg (by decide)]
      refine ⟨by omega, w, h2, fun i y hi hy => ?_, h4⟩
      rcases Nat.lt_or_ge i (k + 1) with h' | h'
      · exact h3 i y (by omega) hy
      · obtain rfl : i = k + 1 := by omega
        rw [hx] at hy
        injection hy with hy
        subst hy
        exact hlt
theorem best_at {Q : List Wn} (h : Q ≠ []) : ∃ w, Q[best Q]? = some w := by
  have hl : 0 < Q.length := List.length_pos_iff.2 h
  obtain ⟨_, w, h2, _⟩ := best_ok Q (Q.length - 1) (by omega)
  exact ⟨w, h2⟩
theorem perm_erase {α : Type} : ∀ {l : List α} {i : Nat} (h : i < l.length), l.Perm (l[i] :: l.eraseIdx i)
  | x :: l, 0, _ => .refl _
  | x :: l, i + 1, h => (List.Perm.cons x (perm_erase (Nat.lt_of_succ_lt_succ h))).trans (.swap _ _ _)
/-- What a heap gives is that. -/
theorem best_pop {Q hq q' : List Wn} {y : Wn} (ho : Q.Pairwise ordQ) (hp : hq.Perm Q) (hy : hq.Perm (y :: q')) (hm : ∀ x ∈ hq, wlt x y = false) : Q[best Q]? = some y ∧ q'.Perm (Q.eraseIdx (best Q)) := by
  have hyq : y ∈ Q := hp.subset (hy.symm.subset (.head _))
  have hl : 0 < Q.length := List.length_pos_of_mem hyq
  obtain ⟨_, w, h2, h3, h4⟩ := best_ok Q (Q.length - 1) (by omega)
  obtain ⟨i, hi, hiy⟩ := List.getElem_of_mem hyq
  have hi2 := List.getElem?_eq_getElem hi
  rw [hiy] at hi2
  have hwy := hm w (hp.symm.subset (List.mem_of_getElem? h2))
  unfold wlt Hp.klt key at hwy
  simp only [Bool.or_eq_false_iff, Bool.and_eq_false_iff, decide_eq_false_iff_not] at hwy
  have he := Hp.bl_tri _ _ (h3 i y (by omega) hi2) hwy.1
  have hib : i = bestK Q (Q.length - 1) := by
    rcases Nat.lt_trichotomy i (bestK Q (Q.length - 1)) with h | h | h
    · have := h4 i y h hi2
      rw [he] at this
      rw [show tlt w.fl w.fl = false from Hp.bl_irr _] at this; cases this
    · exact h
    · have hb := (List.getElem?_eq_some_iff.1 h2).1
      have := List.pairwise_iff_getElem.1 ho _ i hb hi h
      rw [hiy, (List.getElem?_eq_some_iff.1 h2).2] at this
      have h5 := this he.symm
      rcases hwy.2 with h6 | h6
      · exact absurd he.symm h6
      · omega
  have hw : Q[best Q]? = some y := by unfold best; rw [← hib]; exact hi2
  refine ⟨hw, ?_⟩
  obtain ⟨hlt, e⟩ := List.getElem?_eq_some_iff.1 hw
  have h7 : Q.Perm (y :: Q.eraseIdx (best Q)) := by
    rw [← e]
    exact perm_erase hlt
  exact List.Perm.cons_inv ((hy.symm.trans hp).trans h7)
theorem PInv.go {un : Nat} {L : List Msg} {ss : List Sr} {Q : List Wn} {now : Nat} {out : List Nat} (h : PInv un L ss Q now out) {w : Wn} {s : Sr} (hw : Q[best Q]? = some w) (hs : ss[w.who]? = some s) :
    w.ask ≤ now ∧ PInv un L ss (Q.eraseIdx (best Q)) (now + tm s.m) (upd out w.who (now + tm s.m - w.ask)) ∧ YtjleekdidedhaaaDoor.pot un ss (Q.eraseIdx (best Q)) + 1 = YtjleekdidedhaaaDoor.pot un ss Q := by
  obtain ⟨hlt, e⟩ := List.getElem?_eq_some_iff.1 hw
  have hsub := List.eraseIdx_sublist Q (best Q)
  have hp : YtjleekdidedhaaaDoor.pot un ss (Q.eraseIdx (best Q)) + 1 = YtjleekdidedhaaaDoor.pot un ss Q := by
    unfold YtjleekdidedhaaaDoor.pot
    rw [List.length_eraseIdx_of_lt hlt]
    omega
  have ht := (h.ok s (List.mem_of_getElem? hs)).good.tm
  have hn := h.nowb
  have hpp := h.potb
  refine ⟨h.by_ w (List.mem_of_getElem? hw), ⟨h.goods, h.unb, h.ms, h.ok, by unfold upd; rw [List.length_set]; exact h.outl, fun v hv => ?_, fun x hx => h.wk x (hsub.subset hx), fun x hx => Nat.le_trans (h.by_ x (hsub.subset hx)) (Nat.le_add_right _ _), h.ord.sublist hsub, by omega, by omega⟩, hp⟩
  unfold upd at hv
  rcases List.mem_or_eq_of_mem_set hv with hv | rfl
  · exact h.outb v hv
  · have : out.getD w.who 0 ≤ 20000000000 := by
      rw [List.getD_eq_getElem?_getD]
      cases hg : out[w.who]? with
      | none => simp
      | some v => exact h.outb v (List.mem_of_getElem? hg)
    omega
theorem nxt_ok {un : Nat} : ∀ (ss : List Sr) (r : Nat × Bool), (r.2 = true → r.1 < un) → (ss.foldl (nxtK un) r).2 = true → (ss.foldl (nxtK un) r).1 < un ∧ ((ss.foldl (nxtK un) r) = r ∨ ∃ s ∈ ss, (ss.foldl (nxtK un) r).1 = s.q)
  | [], r, h, h2 => ⟨h h2, .inl rfl⟩
  | s :: ss, r, h, h2 => by
    rw [List.foldl_cons] at h2 ⊢
    unfold nxtK at h2 ⊢
    by_cases hc : s.q < un ∧ (r.2 = false ∨ s.q < r.1)
    · rw [if_pos hc] at h2 ⊢
      obtain ⟨g1, g2⟩ := nxt_ok ss (s.q, true) (fun _ => hc.1) h2
      refine ⟨g1, .inr ?_⟩
      rcases g2 with g2 | ⟨s', g2, g3⟩
      · exact ⟨s, .head _, by show (ss.foldl (nxtK un) (s.q, true)).1 = _; rw [g2]⟩
      · exact ⟨s', .tail _ g2, g3⟩
    · rw [if_neg hc] at h2 ⊢
      obtain ⟨g1, g2⟩ := nxt_ok ss r h h2
      refine ⟨g1, ?_⟩
      rcases g2 with g2 | ⟨s', g2, g3⟩
      · exact .inl g2
      · exact .inr ⟨s', .tail _ g2, g3⟩
theorem PInv.wait {un : Nat} {L : List Msg} {ss : List Sr} {now t : Nat} {out : List Nat} (h : PInv un L ss [] now out) (ht : nxt un ss = (t, true)) : PInv un L ss [] t out ∧ t < un ∧ ∃ s ∈ ss, t = s.q := by
  have h2 := nxt_ok ss (0, false) (fun h => by cases h) (by show (nxt un ss).2 = true; rw [ht])
  rw [show ss.foldl (nxtK un) (0, false) = (t, true) from ht] at h2
  have hun := h.unb
  have hp := h.potb
  refine ⟨⟨h.goods, h.unb, h.ms, h.ok, h.outl, h.outb, (fun x hx => by cases hx), (fun x hx => by cases hx), List.Pairwise.nil, h.potb, by have := h2.1; omega⟩, h2.1, ?_⟩
  rcases h2.2 with h3 | ⟨s, h3, h4⟩
  · cases h3
  · exact ⟨s, h3, h4⟩
/-- It comes to an end. -/
theorem PInv.runs {un : Nat} {L : List Msg} : ∀ (n : Nat) {ss : List Sr} {Q : List Wn} {now : Nat} {out : List Nat}, PInv un L ss Q now out → YtjleekdidedhaaaDoor.pot un ss Q * (un + 1) + (un - now) ≤ n → ∃ r, Runs un ss Q now out r := by
  intro n
  induction n using Nat.strongRecOn with
  | _ n ih =>
    intro ss Q now out h hn
    have h1 := h.takes
    have hpot : YtjleekdidedhaaaDoor.pot un (ss.map (drS un now)) (Q ++ wants un now 0 ss) ≤ YtjleekdidedhaaaDoor.pot un ss Q := by
      have hp := wants_pot (now := now) ss 0 h.ok
      unfold YtjleekdidedhaaaDoor.pot
      rw [List.length_append]
      omega
    have hm := Nat.mul_le_mul_right (un + 1) hpot
    by_cases hq : Q ++ wants un now 0 ss = []
    · rw [hq] at h1 hpot hm
      cases hb : (nxt un (ss.map (drS un now))).2 with
      | false => exact ⟨_, .halt hq hb⟩
      | true =>
        obtain ⟨t, ht⟩ : ∃ t, nxt un (ss.map (drS un now)) = (t, true) := ⟨_, Prod.ext rfl hb⟩
        obtain ⟨g1, g2, s, g3, g4⟩ := h1.wait ht
        obtain ⟨s', hs', rfl⟩ := List.mem_map.1 g3
        have he := ((h.ok s' hs').dr (now := now)).end_
        have : now < t := by
          have h5 : (dr un now s').2.2 = t := g4.symm
          rw [h5] at he
          omega
        obtain ⟨r, hr⟩ := ih (YtjleekdidedhaaaDoor.pot un (ss.map (drS un now)) [] * (un + 1) + (un - t)) (by omega) g1 (Nat.le_refl _)
        exact ⟨r, .wait hq ht hr⟩
    · obtain ⟨w, hw⟩ := best_at hq
      obtain ⟨s1, hs1, _, _⟩ := h1.wk w (List.mem_of_getElem? hw)
      rw [List.getElem?_map] at hs1
      cases hs : ss[w.who]? with
      | none => rw [hs] at hs1; cases hs1
      | some s =>
        obtain ⟨_, g1, g2⟩ := h1.go (s := drS un now s) hw (by rw [List.getElem?_map, hs]; rfl)
        have hm2 : (YtjleekdidedhaaaDoor.pot un (ss.map (drS un now)) ((Q ++ wants un now 0 ss).eraseIdx (best (Q ++ wants un now 0 ss))) + 1) * (un + 1) ≤ YtjleekdidedhaaaDoor.pot un ss Q * (un + 1) := by rw [g2]; exact hm
        rw [Nat.add_mul] at hm2
        obtain ⟨r, hr⟩ := ih _ (by omega) g1 (Nat.le_refl _)
        exact ⟨r, .go hw hs hr⟩
end Go.Proofs.YtjleekdidedhaaaDoor

/- Layer 25: takes and next: by walks. -/
set_option linter.unusedVariables false
set_option linter.unusedSimpArgs false
set_option maxRecDepth 100000
set_option maxHeartbeats 4000000
namespace Go.Proofs.YtjleekdidedhaaaDoor
open Sx
/-- A message that is played, where it lies. -/
structure Ob where
  (r k : Nat) (s : Sr)
abbrev oCl (m : Msg) (k a q : Nat) : List Value := [.int .u32 (m.id : Int), .bool m.x, .int .i64 m.n, .int .u64 (m.p : Int), .int .u64 (m.j : Int), .int .i64 (k : Int), .string (strOf (fV m.id m.x m.n).1), .int .u64 (a : Int), .int .u64 (q : Int)]
abbrev oC (x : Ob) : List Value := oCl x.s.m x.k x.s.a x.s.q
abbrev oRow (x : Ob) : Nat × Blk := (x.r, .row 68 (oC x) (0, 0))
abbrev gO (un now : Nat) (x : Ob) : Ob := ⟨x.r, x.k, drS un now x.s⟩
abbrev fR (r : Nat) : List Value := [.pointer (some ⟨r, 0, none⟩)]
inductive S29 (A0 A1 A9 A10 A11 : Value) : List Value → Prop
  | mk {r2 r3 r4 r5 r6 r7 r8 r12 r13 r14 r15 r16 r17 r18 r19 r20 r21 r22 r23 r24 r25 r26 r27 r28 r29 r30 r31 r32 r33 r34 r35 r36 r37 r38 r39 r40 r41 r42 r43 r44 r45 r46 r47 r48 r49 r50 r51 r52 r53 r54 r55 r56 r57 r58 r59 r60 r61 r62 r63 r64 r65 r66 r67 r68 r69 r70 : Value} : S29 A0 A1 A9 A10 A11 [A0, A1, r2, r3, r4, r5, r6, r7, r8, A9, A10, A11, r12, r13, r14, r15, r16, r17, r18, r19, r20, r21, r22, r23, r24, r25, r26, r27, r28, r29, r30, r31, r32, r33, r34, r35, r36, r37, r38, r39, r40, r41, r42, r43, r44, r45, r46, r47, r48, r49, r50, r51, r52, r53, r54, r55, r56, r57, r58, r59, r60, r61, r62, r63, r64, r65, r66, r67, r68, r69, r70]
inductive S29a (A0 A1 A5 A9 A10 A11 : Value) : List Value → Prop
  | mk {r2 r3 r4 r6 r7 r8 r12 r13 r14 r15 r16 r17 r18 r19 r20 r21 r22 r23 r24 r25 r26 r27 r28 r29 r30 r31 r32 r33 r34 r35 r36 r37 r38 r39 r40 r41 r42 r43 r44 r45 r46 r47 r48 r49 r50 r51 r52 r53 r54 r55 r56 r57 r58 r59 r60 r61 r62 r63 r64 r65 r66 r67 r68 r69 r70 : Value} : S29a A0 A1 A5 A9 A10 A11 [A0, A1, r2, r3, r4, A5, r6, r7, r8, A9, A10, A11, r12, r13, r14, r15, r16, r17, r18, r19, r20, r21, r22, r23, r24, r25, r26, r27, r28, r29, r30, r31, r32, r33, r34, r35, r36, r37, r38, r39, r40, r41, r42, r43, r44, r45, r46, r47, r48, r49, r50, r51, r52, r53, r54, r55, r56, r57, r58, r59, r60, r61, r62, r63, r64, r65, r66, r67, r68, r69, r70]
inductive S30 (A0 A4 A5 A11 A12 A13 : Value) : List Value → Prop
  | mk {r1 r2 r3 r6 r7 r8 r9 r10 r14 r15 r16 r17 r18 r19 r20 r21 r22 r23 r24 r25 r26 r27 r28 r29 r30 r31 r32 r33 r34 r35 r36 r37 r38 r39 r40 r41 r42 r43 r44 : Value} : S30 A0 A4 A5 A11 A12 A13 [A0, r1, r2, r3, A4, A5, r6, r7, r8, r9, r10, A11, A12, A13, r14, r15, r16, r17, r18, r19, r20, r21, r22, r23, r24, r25, r26, r27, r28, r29, r30, r31, r32, r33, r34, r35, r36, r37, r38, r39, r40, r41, r42, r43, r44]
section
variable {K : Value → Heap → Prop} {H F : Heap} {p : Nat} {lv unv : Value} {q Q hq : List Wn} {un now : Nat} {obs : List Ob}
theorem PQ.pull {X Y Z : Heap} (h : PQ p lv unv q X F) (hp : X.Perm (Z ++ Y)) : ∃ F0, PQ p lv unv q Y F0 ∧ F.Perm (Z ++ F0) := by
  cases h with
  | nil => exact ⟨_, .nil, ((List.Perm.cons _ hp).trans List.perm_middle.symm)⟩
  | buf h1 h2 => exact ⟨_, .buf h1 h2, ((hp.append_left [_, _]).trans (List.perm_append_comm_assoc [_, _] Z Y))⟩
theorem PQ.back {X Y Z : Heap} (h : PQ p lv unv q Y F) (hp : (Z ++ Y).Perm X) : ∃ F0, PQ p lv unv q X F0 ∧ (Z ++ F).Perm F0 := by
  cases h with
  | nil => exact ⟨_, .nil, (List.perm_middle.trans (List.Perm.cons _ hp))⟩
  | buf h1 h2 => exact ⟨_, .buf h1 h2, ((List.perm_append_comm_assoc Z [_, _] Y).trans (hp.append_left [_, _]))⟩
theorem PQ.sub {X : Heap} (h : PQ p lv unv q X F) : ∀ z ∈ X, z ∈ F := by
  cases h with
  | nil => exact fun z hz => .tail _ hz
  | buf h1 h2 => exact fun z hz => .tail _ (.tail _ hz)
theorem wants_app {un now : Nat} : ∀ (l1 l2 : List Sr) (k : Nat), wants un now k (l1 ++ l2) = wants un now k l1 ++ wants un now (k + l1.length) l2
  | [], l2, k => by simp [wants]
  | x :: l1, l2, k => by
    rw [List.cons_append, wants, wants_app l1 l2 (k + 1), wants, List.length_cons, List.append_assoc]
    rw [show k + 1 + l1.length = k + (l1.length + 1) by omega]
structure T29 where
  (k : Nat) (hq : List Wn) (F : Heap)
def I29 (p un now : Nat) (lv : Value) (obs : List Ob) (Q : List Wn) (H : Heap) (y : T29) (S : List Value) (H' : Heap) : Prop :=
  y.k ≤ obs.length ∧ PQ p lv (.int .u64 (un : Int)) y.hq ((updTo (gO un now) y.k obs).map oRow ++ H) y.F ∧ y.hq.Perm (Q ++ wants un now 0 ((obs.take y.k).map Ob.s)) ∧ Hp.HeapN wlt y.hq y.hq.length ∧ S29 (ptr p) (.int .u64 (now : Int)) lv (.int .i64 (obs.length : Int)) (.int .i64 (y.k : Int)) S ∧ y.F = H'
structure T29a where
  (ak : List Nat) (a q f : Nat) (hq : List Wn) (F : Heap)
def I29a (p un now : Nat) (lv : Value) (n r k : Nat) (m : Msg) (Q : List Wn) (X : Heap) (tot : List Nat × Nat × Nat) (y : T29a) (S : List Value) (H' : Heap) : Prop :=
  (y.ak ++ (drF m.p un now y.f y.a y.q).1 = tot.1 ∧ (drF m.p un now y.f y.a y.q).2 = tot.2) ∧ (y.a ≤ y.q ∧ y.q < y.a + m.p ∧ y.q ≤ un + 4294967296 ∧ un ≤ y.f + y.q) ∧ PQ p lv (.int .u64 (un : Int)) y.hq X y.F ∧ y.hq.Perm (Q ++ y.ak.map fun a => ⟨k, fld m, a⟩) ∧ Hp.HeapN wlt y.hq y.hq.length ∧
    S29a (ptr p) (.int .u64 (now : Int)) (ptr r) lv (.int .i64 (n : Int)) (.int .i64 (k : Int)) S ∧ H' = (r, .row 68 (oCl m k y.a y.q) (0, 0)) :: y.F
theorem c29 (hok : ∀ x ∈ obs, SrOk un x.s) (hks : ∀ (k : Nat) (x : Ob), obs[k]? = some x → x.k = k) (hlv : InS fR 1 lv H (obs.map Ob.r)) (hPQ : PQ p lv (.int .u64 (un : Int)) hq (obs.map oRow ++ H) F) (hp : hq.Perm Q) (hh : Hp.HeapN wlt hq hq.length)
    (hcap : (Q ++ wants un now 0 (obs.map Ob.s)).length ≤ 1000000000) (hun : un ≤ 1048576) (hnow : now < 9223372036854775808) (hn64 : obs.length ≤ 64)
    (hK : ∀ hq' F', PQ p lv (.int .u64 (un : Int)) hq' ((obs.map (gO un now)).map oRow ++ H) F' → hq'.Perm (Q ++ wants un now 0 (obs.map Ob.s)) → Hp.HeapN wlt hq' hq'.length → K (.tuple ⟨[]⟩) F') : SCalls Tryd.prog 29 [ptr p, .int .u64 (now : Int)] F K := by
  have hlsv := hlv.sv
  rw [List.length_map] at hlsv
  obtain ⟨la, lc, rfl, hml⟩ := hlsv
  refine enter29 ?_
  have hst : ∃ qa qc M, F = pRow p (.slice la obs.length lc) (.slice qa hq.length qc) (.int .u64 (un : Int)) :: M := by
    obtain ⟨a, c, M, _, _, rfl⟩ := hPQ.que
    exact ⟨a, c, _, rfl⟩
  obtain ⟨qa, qc, M, rfl⟩ := hst
  repeat' ((conv => whnf); (first | refine New.mk (fun _ => ?_) | refine Look.at0 ?_ | refine Cell.row ?_ | refine Cell.buf ?_ | refine Cells.row rfl ?_ | refine Put.row rfl ?_ | refine Put.buf rfl ?_ | refine Look.at1 ?_ | refine Look.at2 ?_ | refine Look.at3 ?_ | refine Look.at4 ?_ | refine Look.at5 ?_ | refine Look.at6 ?_ | refine Look.at7 ?_ | refine Look.at8 ?_ | with_reducible refine Val.i64 (by omega) (by omega) ?_ | with_reducible refine Val.u8 (by omega) (by omega) ?_ | with_reducible refine Val.u32 (by omega) (by omega) ?_ | with_reducible refine Val.u64 (by omega) (by omega) ?_ | with_reducible refine Val.u8m ?_ | with_reducible refine Val.u32m ?_ | with_reducible refine Val.u64m ?_ | with_reducible refine Val.shr8 ?_ | with_reducible refine Val.shr16 (by decide) ?_ | with_reducible refine Val.shr24 (by decide) ?_ | with_reducible refine Val.raw ?_ | refine Branch.not ?_ | refine Branch.and ?_ | refine Branch.or ?_ | refine Branch.dt (by assumption) ?_ | refine Branch.df (by assumption) ?_ | refine Branch.dt rfl ?_ | refine Branch.dt (by omega) ?_ | refine Branch.df (by omega) ?_ | refine Branch.t rfl ?_ | refine Branch.f rfl ?_ | refine Branch.t (by assumption) ?_ | refine Branch.f (by assumption) ?_ | refine Branch.d (fun _ => ?_) (fun _ => ?_) | refine Branch.mk (fun _ => ?_) (fun _ => ?_) | refine Need.mk (by first | omega | decide | rfl) ?_ | refine Idx.nat (by omega) ?_ | refine Idx.auto (by first | omega | decide) (by first | omega | decide) ?_ | refine Cell.ro rfl ?_ | refine SDraw.all (by kernel_rfl) ?_ | refine Kept.k0 ?_ | refine Kept.k1 ?_ | refine Kept.k2 ?_ | refine Kept.k3 ?_ | refine Kept.k4 ?_))
  refine SLoop.invA (I29 p un now (.slice la obs.length lc) obs Q H) (fun y => obs.length - y.k) ⟨0, hq, _⟩ (Keep.all ⟨Nat.zero_le _, by rw [updTo_zero]; exact hPQ, by simpa [wants] using hp, hh, .mk, rfl⟩) ?_
  clear hPQ hp hh hq
  rintro ⟨k, hq, F⟩ S H' ⟨hk, hPQ, hp, hh, hS, rfl⟩ R hR
  dsimp only at hk hPQ hp hh hS hR ⊢
  cases hS
  by_cases hlt : k < obs.length
  · obtain ⟨x, hx, hdrop, htake⟩ := list_at hlt
    have hxo := hok x (List.mem_of_getElem? hx)
    have hxk := hks k x hx
    obtain ⟨lr, lo, lc1, lb, e1, hlb, hcell⟩ := hlv.at1 (j := k) (x := x.r) (by rw [List.getElem?_map, hx]; rfl) rfl
    rw [List.length_map] at e1
    injection e1 with e1 _ e3
    subst e1
    have hlF : (lr, lb) ∈ F := hPQ.sub _ (List.mem_append_right _ hlb)
    have hux := updTo_nth (f := gO un now) (j := k) hx
    have hset := updTo_set (f := gO un now) (j := k) hx
    have hpn := perm_nth (f := oRow) hux
    have hps := perm_set (f := oRow) (x' := gO un now x) hux
    rw [hset] at hps
    obtain ⟨F0, hPQ0, hF0⟩ := hPQ.pull (Z := [oRow x]) (Y := (((updTo (gO un now) k obs).take k ++ (updTo (gO un now) k obs).drop (k + 1)).map oRow) ++ H) (hpn.append_right H)
    generalize hY : ((updTo (gO un now) k obs).take k ++ (updTo (gO un now) k obs).drop (k + 1)).map oRow = Y at *
    have hw1 : wants un now 0 ((obs.take (k + 1)).map Ob.s) = wants un now 0 ((obs.take k).map Ob.s) ++ (dr un now x.s).1.map fun a => ⟨k, fld x.s.m, a⟩ := by
      rw [htake, List.map_append, List.map_cons, List.map_nil, wants_snoc]
      congr 2
      funext a
      congr 1
      simp; omega
    have hcap2 : (Q ++ wants un now 0 ((obs.take (k + 1)).map Ob.s)).length ≤ 1000000000 := by
      refine Nat.le_trans ?_ hcap
      rw [List.length_append, List.length_append]
      have : wants un now 0 (obs.map Ob.s) = wants un now 0 ((obs.take (k + 1)).map Ob.s) ++ wants un now (0 + ((obs.take (k + 1)).map Ob.s).length) ((obs.drop (k + 1)).map Ob.s) := by
        rw [← wants_app, ← List.map_append, List.take_append_drop]
      rw [this, List.length_append]; omega
    rw [hw1, ← List.append_assoc] at hcap2
    generalize htot : dr un now x.s = tot at *
    have hnext : ∀ S hq' F' , PQ p (.slice (some ⟨lr, lo, none⟩) obs.length lc) (.int .u64 (un : Int)) hq' (Y ++ H) F' → hq'.Perm (Q ++ wants un now 0 ((obs.take k).map Ob.s) ++ tot.1.map fun a => ⟨k, fld x.s.m, a⟩) → Hp.HeapN wlt hq' hq'.length → S29 (ptr p) (.int .u64 (now : Int)) (.slice (some ⟨lr, lo, none⟩) obs.length lc) (.int .i64 (obs.length : Int)) (.int .i64 ((k + 1 : Nat) : Int)) S → R S ((x.r, .row 68 (oCl x.s.m k tot.2.1 tot.2.2) (0, 0)) :: F') := by
      intro S hq' F' g1 g2 g3 g4
      have hg : gO un now x = ⟨x.r, k, ⟨x.s.m, tot.2.1, tot.2.2⟩⟩ := by
        unfold gO drS
        rw [htot, hxk]
      rw [hg] at hps
      obtain ⟨F1, g5, g6⟩ := g1.back (Z := [oRow ⟨x.r, k, ⟨x.s.m, tot.2.1, tot.2.2⟩⟩]) (hps.append_right H)
      exact hR ⟨k + 1, hq', F1⟩ S _ (by show obs.length - (k + 1) < obs.length - k; omega) (Keep.perm F1 g6 ⟨by show k + 1 ≤ _; omega, g5, by show hq'.Perm (Q ++ wants un now 0 ((obs.take (k + 1)).map Ob.s)); rw [hw1, ← List.append_assoc]; exact g2, g3, g4, rfl⟩)
    clear hR hps hpn hset
    have hst : ∃ qa qc M, F = pRow p (.slice (some ⟨lr, lo, none⟩) obs.length lc) (.slice qa hq.length qc) (.int .u64 (un : Int)) :: M := by
      obtain ⟨a, c, M, _, _, rfl⟩ := hPQ.que
      exact ⟨a, c, _, rfl⟩
    repeat' ((conv => whnf); (first | refine Look.cell hlF hcell ?_ | refine New.mk (fun _ => ?_) | refine Look.at0 ?_ | refine Cell.row ?_ | refine Cell.buf ?_ | refine Cells.row rfl ?_ | refine Put.row rfl ?_ | refine Put.buf rfl ?_ | refine Look.at1 ?_ | refine Look.at2 ?_ | refine Look.at3 ?_ | refine Look.at4 ?_ | refine Look.at5 ?_ | refine Look.at6 ?_ | refine Look.at7 ?_ | refine Look.at8 ?_ | with_reducible refine Val.i64 (by omega) (by omega) ?_ | with_reducible refine Val.u8 (by omega) (by omega) ?_ | with_reducible refine Val.u32 (by omega) (by omega) ?_ | with_reducible refine Val.u64 (by omega) (by omega) ?_ | with_reducible refine Val.u8m ?_ | with_reducible refine Val.u32m ?_ | with_reducible refine Val.u64m ?_ | with_reducible refine Val.shr8 ?_ | with_reducible refine Val.shr16 (by decide) ?_ | with_reducible refine Val.shr24 (by decide) ?_ | with_reducible refine Val.raw ?_ | refine Branch.not ?_ | refine Branch.and ?_ | refine Branch.or ?_ | refine Branch.dt (by assumption) ?_ | refine Branch.df (by assumption) ?_ | refine Branch.dt rfl ?_ | refine Branch.dt (by omega) ?_ | refine Branch.df (by omega) ?_ | refine Branch.t rfl ?_ | refine Branch.f rfl ?_ | refine Branch.t (by assumption) ?_ | refine Branch.f (by assumption) ?_ | refine Branch.d (fun _ => ?_) (fun _ => ?_) | refine Branch.mk (fun _ => ?_) (fun _ => ?_) | refine Need.mk (by first | omega | decide | rfl) ?_ | refine Idx.nat (by omega) ?_ | refine Idx.auto (by first | omega | decide) (by first | omega | decide) ?_ | refine Cell.ro rfl ?_ | refine SDraw.all (by kernel_rfl) ?_ | refine Kept.k0 ?_ | refine Kept.k1 ?_ | refine Kept.k2 ?_ | refine Kept.k3 ?_ | refine Kept.k4 ?_))
    refine SLoop.invA (I29a p un now (.slice (some ⟨lr, lo, none⟩) obs.length lc) obs.length x.r k x.s.m (Q ++ wants un now 0 ((obs.take k).map Ob.s)) (Y ++ H) tot) (fun y => y.f) ⟨[], x.s.a, x.s.q, un + 1, hq, F0⟩ (Keep.perm _ hF0 ⟨⟨by rw [← htot]; rfl, by rw [← htot]⟩, ⟨hxo.aq, hxo.qa, hxo.qb, by show un ≤ un + 1 + x.s.q; omega⟩, hPQ0, by simpa using hp, hh, .mk, by
      show [oRow x] ++ F0 = _
      obtain ⟨xr, xk, xs⟩ := x
      dsimp only at hxk
      subst hxk
      rfl⟩) ?_
    clear hPQ0 hF0 hp hh hst hlF hPQ
    rintro ⟨ak, a, q, f, hq1, F1⟩ S H' ⟨⟨h1, h2⟩, ⟨h3, h4, h5, h6⟩, hPQ, hp, hh, hS, rfl⟩ R2 hR2
    dsimp only at h1 h2 h3 h4 h5 h6 hPQ hp hh hS hR2 ⊢
    cases hS
    have hg := hxo.good
    have hgp := hg.p2
    have hgp1 := hg.p1
    have hl1 : hq1.length ≤ 1000000000 := by
      have hl := hp.length_eq
      have h1l := congrArg List.length h1
      simp only [List.length_append, List.length_map] at hl hcap2 h1l
      omega
    by_cases hc : q ≤ now ∧ q < un
    · obtain ⟨f, rfl⟩ : ∃ f', f = f' + 1 := ⟨f - 1, by omega⟩
      rw [drF, if_pos hc] at h1 h2
      have hst : ∃ qa qc M, F1 = pRow p (.slice (some ⟨lr, lo, none⟩) obs.length lc) (.slice qa hq1.length qc) (.int .u64 (un : Int)) :: M := by
        obtain ⟨a, c, M, _, _, rfl⟩ := hPQ.que
        exact ⟨a, c, _, rfl⟩
      have hnext2 : ∀ S hq' F', PQ p (.slice (some ⟨lr, lo, none⟩) obs.length lc) (.int .u64 (un : Int)) hq' (Y ++ H) F' → hq'.Perm (hq1 ++ [⟨k, fld x.s.m, a⟩]) → Hp.HeapN wlt hq' hq'.length → S29a (ptr p) (.int .u64 (now : Int)) (ptr x.r) (.slice (some ⟨lr, lo, none⟩) obs.length lc) (.int .i64 (obs.length : Int)) (.int .i64 (k : Int)) S → R2 S ((x.r, .row 68 (oCl x.s.m k (a + x.s.m.p) (a + x.s.m.p)) (0, 0)) :: F') := by
        intro S hq' F' g1 g2 g3 g4
        refine hR2 ⟨ak ++ [a], a + x.s.m.p, a + x.s.m.p, f, hq', F'⟩ S _ (Nat.lt_succ_self f) (Keep.all ⟨⟨by rw [← h1]; simp, h2⟩, ⟨Nat.le_refl _, by show a + x.s.m.p < a + x.s.m.p + x.s.m.p; omega, by show a + x.s.m.p ≤ un + 4294967296; omega, by show un ≤ f + (a + x.s.m.p); omega⟩, g1, ?_, g3, g4, rfl⟩)
        refine g2.trans ((hp.append_right _).trans ?_)
        rw [List.append_assoc, List.map_append]; exact .refl _
      have h40 := fun (K2 : Value → Heap → Prop) hk => c40 (K := K2) (x := ⟨k, fld x.s.m, a⟩) hPQ hh hl1 hk
      obtain ⟨qa1, qc1, M1, rfl⟩ := hst
      have hv : IntKind.u64.wrap ((a : Int) + (x.s.m.p : Int)) = ((a + x.s.m.p : Nat) : Int) := by
        rw [← Int.natCast_add]; exact wrap_nat rfl (by show _ < 18446744073709551616; omega)
      clear hR2 hnext
      repeat' ((conv => whnf); (first | with_reducible refine Val.to _ hv ?_ | refine Branch.dt (by omega) ?_ | refine SCalls.under [_] (h40 _ (fun hq' F' g1 g2 g3 => ?_)) | exact hnext2 _ _ _ g1 g2 g3 .mk | refine New.mk (fun _ => ?_) | refine Look.at0 ?_ | refine Cell.row ?_ | refine Cell.buf ?_ | refine Cells.row rfl ?_ | refine Put.row rfl ?_ | refine Put.buf rfl ?_ | refine Look.at1 ?_ | refine Look.at2 ?_ | refine Look.at3 ?_ | refine Look.at4 ?_ | refine Look.at5 ?_ | refine Look.at6 ?_ | refine Look.at7 ?_ | refine Look.at8 ?_ | with_reducible refine Val.i64 (by omega) (by omega) ?_ | with_reducible refine Val.u8 (by omega) (by omega) ?_ | with_reducible refine Val.u32 (by omega) (by omega) ?_ | with_reducible refine Val.u64 (by omega) (by omega) ?_ | with_reducible refine Val.u8m ?_ | with_reducible refine Val.u32m ?_ | with_reducible refine Val.u64m ?_ | with_reducible refine Val.shr8 ?_ | with_reducible refine Val.shr16 (by decide) ?_ | with_reducible refine Val.shr24 (by decide) ?_ | with_reducible refine Val.raw ?_ | refine Branch.not ?_ | refine Branch.and ?_ | refine Branch.or ?_ | refine Branch.dt (by assumption) ?_ | refine Branch.df (by assumption) ?_ | refine Branch.dt rfl ?_ | refine Branch.dt (by omega) ?_ | refine Branch.df (by omega) ?_ | refine Branch.t rfl ?_ | refine Branch.f rfl ?_ | refine Branch.t (by assumption) ?_ | refine Branch.f (by assumption) ?_ | refine Branch.d (fun _ => ?_) (fun _ => ?_) | refine Branch.mk (fun _ => ?_) (fun _ => ?_) | refine Need.mk (by first | omega | decide | rfl) ?_ | refine Idx.nat (by omega) ?_ | refine Idx.auto (by first | omega | decide) (by first | omega | decide) ?_ | refine Cell.ro rfl ?_ | refine SDraw.all (by kernel_rfl) ?_ | refine Kept.k0 ?_ | refine Kept.k1 ?_ | refine Kept.k2 ?_ | refine Kept.k3 ?_ | refine Kept.k4 ?_))
    · have hd : drF x.s.m.p un now f a q = ([], a, q) := by
        cases f with
        | zero => rfl
        | succ f => rw [drF, if_neg hc]
      rw [hd] at h1 h2
      rw [List.append_nil] at h1
      subst h1
      have hst : ∃ qa qc M, F1 = pRow p (.slice (some ⟨lr, lo, none⟩) obs.length lc) (.slice qa hq1.length qc) (.int .u64 (un : Int)) :: M := by
        obtain ⟨a, c, M, _, _, rfl⟩ := hPQ.que
        exact ⟨a, c, _, rfl⟩
      have hn := fun S hS => hnext S hq1 F1 hPQ hp hh hS
      rw [← h2] at hn
      clear hR2 hnext
      obtain ⟨qa1, qc1, M1, rfl⟩ := hst
      by_cases hc1 : q ≤ now
      · have hc2 : ¬ q < un := fun h => hc ⟨hc1, h⟩
        repeat' ((conv => whnf); (first | refine Branch.dt (by omega) ?_ | refine Branch.df (by omega) ?_ | exact hn _ .mk | refine New.mk (fun _ => ?_) | refine Look.at0 ?_ | refine Cell.row ?_ | refine Cell.buf ?_ | refine Cells.row rfl ?_ | refine Put.row rfl ?_ | refine Put.buf rfl ?_ | refine Look.at1 ?_ | refine Look.at2 ?_ | refine Look.at3 ?_ | refine Look.at4 ?_ | refine Look.at5 ?_ | refine Look.at6 ?_ | refine Look.at7 ?_ | refine Look.at8 ?_ | with_reducible refine Val.i64 (by omega) (by omega) ?_ | with_reducible refine Val.u8 (by omega) (by omega) ?_ | with_reducible refine Val.u32 (by omega) (by omega) ?_ | with_reducible refine Val.u64 (by omega) (by omega) ?_ | with_reducible refine Val.u8m ?_ | with_reducible refine Val.u32m ?_ | with_reducible refine Val.u64m ?_ | with_reducible refine Val.shr8 ?_ | with_reducible refine Val.shr16 (by decide) ?_ | with_reducible refine Val.shr24 (by decide) ?_ | with_reducible refine Val.raw ?_ | refine Branch.not ?_ | refine Branch.and ?_ | refine Branch.or ?_ | refine Branch.dt (by assumption) ?_ | refine Branch.df (by assumption) ?_ | refine Branch.dt rfl ?_ | refine Branch.dt (by omega) ?_ | refine Branch.df (by omega) ?_ | refine Branch.t rfl ?_ | refine Branch.f rfl ?_ | refine Branch.t (by assumption) ?_ | refine Branch.f (by assumption) ?_ | refine Branch.d (fun _ => ?_) (fun _ => ?_) | refine Branch.mk (fun _ => ?_) (fun _ => ?_) | refine Need.mk (by first | omega | decide | rfl) ?_ | refine Idx.nat (by omega) ?_ | refine Idx.auto (by first | omega | decide) (by first | omega | decide) ?_ | refine Cell.ro rfl ?_ | refine SDraw.all (by kernel_rfl) ?_ | refine Kept.k0 ?_ | refine Kept.k1 ?_ | refine Kept.k2 ?_ | refine Kept.k3 ?_ | refine Kept.k4 ?_))
      · repeat' ((conv => whnf); (first | refine Branch.dt (by omega) ?_ | refine Branch.df (by omega) ?_ | exact hn _ .mk | refine New.mk (fun _ => ?_) | refine Look.at0 ?_ | refine Cell.row ?_ | refine Cell.buf ?_ | refine Cells.row rfl ?_ | refine Put.row rfl ?_ | refine Put.buf rfl ?_ | refine Look.at1 ?_ | refine Look.at2 ?_ | refine Look.at3 ?_ | refine Look.at4 ?_ | refine Look.at5 ?_ | refine Look.at6 ?_ | refine Look.at7 ?_ | refine Look.at8 ?_ | with_reducible refine Val.i64 (by omega) (by omega) ?_ | with_reducible refine Val.u8 (by omega) (by omega) ?_ | with_reducible refine Val.u32 (by omega) (by omega) ?_ | with_reducible refine Val.u64 (by omega) (by omega) ?_ | with_reducible refine Val.u8m ?_ | with_reducible refine Val.u32m ?_ | with_reducible refine Val.u64m ?_ | with_reducible refine Val.shr8 ?_ | with_reducible refine Val.shr16 (by decide) ?_ | with_reducible refine Val.shr24 (by decide) ?_ | with_reducible refine Val.raw ?_ | refine Branch.not ?_ | refine Branch.and ?_ | refine Branch.or ?_ | refine Branch.dt (by assumption) ?_ | refine Branch.df (by assumption) ?_ | refine Branch.dt rfl ?_ | refine Branch.dt (by omega) ?_ | refine Branch.df (by omega) ?_ | refine Branch.t rfl ?_ | refine Branch.f rfl ?_ | refine Branch.t (by assumption) ?_ | refine Branch.f (by assumption) ?_ | refine Branch.d (fun _ => ?_) (fun _ => ?_) | refine Branch.mk (fun _ => ?_) (fun _ => ?_) | refine Need.mk (by first | omega | decide | rfl) ?_ | refine Idx.nat (by omega) ?_ | refine Idx.auto (by first | omega | decide) (by first | omega | decide) ?_ | refine Cell.ro rfl ?_ | refine SDraw.all (by kernel_rfl) ?_ | refine Kept.k0 ?_ | refine Kept.k1 ?_ | refine Kept.k2 ?_ | refine Kept.k3 ?_ | refine Kept.k4 ?_))
  · obtain rfl : k = obs.length := by omega
    rw [updTo_all (Nat.le_refl _)] at hPQ
    rw [List.take_length] at hp
    have hk := hK hq F hPQ hp hh
    clear hR
    repeat' ((conv => whnf); (first | exact Keep.all hk | refine New.mk (fun _ => ?_) | refine Look.at0 ?_ | refine Cell.row ?_ | refine Cell.buf ?_ | refine Cells.row rfl ?_ | refine Put.row rfl ?_ | refine Put.buf rfl ?_ | refine Look.at1 ?_ | refine Look.at2 ?_ | refine Look.at3 ?_ | refine Look.at4 ?_ | refine Look.at5 ?_ | refine Look.at6 ?_ | refine Look.at7 ?_ | refine Look.at8 ?_ | with_reducible refine Val.i64 (by omega) (by omega) ?_ | with_reducible refine Val.u8 (by omega) (by omega) ?_ | with_reducible refine Val.u32 (by omega) (by omega) ?_ | with_reducible refine Val.u64 (by omega) (by omega) ?_ | with_reducible refine Val.u8m ?_ | with_reducible refine Val.u32m ?_ | with_reducible refine Val.u64m ?_ | with_reducible refine Val.shr8 ?_ | with_reducible refine Val.shr16 (by decide) ?_ | with_reducible refine Val.shr24 (by decide) ?_ | with_reducible refine Val.raw ?_ | refine Branch.not ?_ | refine Branch.and ?_ | refine Branch.or ?_ | refine Branch.dt (by assumption) ?_ | refine Branch.df (by assumption) ?_ | refine Branch.dt rfl ?_ | refine Branch.dt (by omega) ?_ | refine Branch.df (by omega) ?_ | refine Branch.t rfl ?_ | refine Branch.f rfl ?_ | refine Branch.t (by assumption) ?_ | refine Branch.f (by assumption) ?_ | refine Branch.d (fun _ => ?_) (fun _ => ?_) | refine Branch.mk (fun _ => ?_) (fun _ => ?_) | refine Need.mk (by first | omega | decide | rfl) ?_ | refine Idx.nat (by omega) ?_ | refine Idx.auto (by first | omega | decide) (by first | omega | decide) ?_ | refine Cell.ro rfl ?_ | refine SDraw.all (by kernel_rfl) ?_ | refine Kept.k0 ?_ | refine Kept.k1 ?_ | refine Kept.k2 ?_ | refine Kept.k3 ?_ | refine Kept.k4 ?_))
end
end Go.Proofs.YtjleekdidedhaaaDoor

/- Layer 25: next and Play: by walks. -/
set_option linter.unusedVariables false
set_option linter.unusedSimpArgs false
set_option maxRecDepth 100000
set_option maxHeartbeats 4000000
namespace Go.Proofs.YtjleekdidedhaaaDoor
open Sx
def u64 (n : Nat) : Value := .int .u64 (n : Int)
section
variable {K : Value → Heap → Prop} {H F : Heap} {p : Nat} {lv qv : Value} {un now : Nat} {obs : List Ob}
def I30 (p un : Nat) (lv : Value) (obs : List Ob) (F : Heap) (k : Nat) (S : List Value) (H' : Heap) : Prop :=
  k ≤ obs.length ∧ S30 (ptr p) (.int .u64 ((nxt un ((obs.take k).map Ob.s)).1 : Int)) (.bool (nxt un ((obs.take k).map Ob.s)).2) lv (.int .i64 (obs.length : Int)) (.int .i64 (k : Int)) S ∧ H' = F
theorem c30 (hm : pRow p lv qv (.int .u64 (un : Int)) ∈ F) (hlv : InS fR 1 lv F (obs.map Ob.r)) (hob : ∀ x ∈ obs, oRow x ∈ F) (hn64 : obs.length ≤ 64) (hK : K (.tuple ⟨[.int .u64 ((nxt un (obs.map Ob.s)).1 : Int), .bool (nxt un (obs.map Ob.s)).2]⟩) F) : SCalls Tryd.prog 30 [ptr p] F K := by
  have hlsv := hlv.sv
  rw [List.length_map] at hlsv
  obtain ⟨la, lc, rfl, hml⟩ := hlsv
  have e0 : (Blk.row 65 [.slice la obs.length lc, qv, .int .u64 (un : Int)] (0, 0)).cell (0 + 0) = some (.slice la obs.length lc) := rfl
  have e2 : (Blk.row 65 [.slice la obs.length lc, qv, .int .u64 (un : Int)] (0, 0)).cell (0 + 2) = some (.int .u64 (un : Int)) := rfl
  refine enter30 ?_
  repeat' ((conv => whnf); (first | refine Look.cell hm e0 ?_ | refine New.mk (fun _ => ?_) | refine Look.at0 ?_ | refine Cell.row ?_ | refine Cell.buf ?_ | refine Cells.row rfl ?_ | refine Put.row rfl ?_ | refine Put.buf rfl ?_ | refine Look.at1 ?_ | refine Look.at2 ?_ | refine Look.at3 ?_ | refine Look.at4 ?_ | refine Look.at5 ?_ | refine Look.at6 ?_ | refine Look.at7 ?_ | refine Look.at8 ?_ | with_reducible refine Val.i64 (by omega) (by omega) ?_ | with_reducible refine Val.u8 (by omega) (by omega) ?_ | with_reducible refine Val.u32 (by omega) (by omega) ?_ | with_reducible refine Val.u64 (by omega) (by omega) ?_ | with_reducible refine Val.u8m ?_ | with_reducible refine Val.u32m ?_ | with_reducible refine Val.u64m ?_ | with_reducible refine Val.shr8 ?_ | with_reducible refine Val.shr16 (by decide) ?_ | with_reducible refine Val.shr24 (by decide) ?_ | with_reducible refine Val.raw ?_ | refine Branch.not ?_ | refine Branch.and ?_ | refine Branch.or ?_ | refine Branch.dt (by assumption) ?_ | refine Branch.df (by assumption) ?_ | refine Branch.dt rfl ?_ | refine Branch.dt (by omega) ?_ | refine Branch.df (by omega) ?_ | refine Branch.t rfl ?_ | refine Branch.f rfl ?_ | refine Branch.t (by assumption) ?_ | refine Branch.f (by assumption) ?_ | refine Branch.d (fun _ => ?_) (fun _ => ?_) | refine Branch.mk (fun _ => ?_) (fun _ => ?_) | refine Need.mk (by first | omega | decide | rfl) ?_ | refine Idx.nat (by omega) ?_ | refine Idx.auto (by first | omega | decide) (by first | omega | decide) ?_ | refine Cell.ro rfl ?_ | refine SDraw.all (by kernel_rfl) ?_ | refine Kept.k0 ?_ | refine Kept.k1 ?_ | refine Kept.k2 ?_ | refine Kept.k3 ?_ | refine Kept.k4 ?_))
  refine SLoop.invA (I30 p un (.slice la obs.length lc) obs F) (fun k => obs.length - k) 0 (Keep.all ⟨Nat.zero_le _, .mk, rfl⟩) ?_
  rintro k S H' ⟨hk, hS, rfl⟩ R hR
  cases hS
  by_cases hlt : k < obs.length
  · obtain ⟨x, hx, hdrop, htake⟩ := list_at hlt
    obtain ⟨lr, lo, lc1, lb, e1, hlb, hcell⟩ := hlv.at1 (j := k) (x := x.r) (by rw [List.getElem?_map, hx]; rfl) rfl
    rw [List.length_map] at e1
    injection e1 with e1 _ e3
    subst e1
    have hxm := hob x (List.mem_of_getElem? hx)
    have hn1 : nxt un ((obs.take (k + 1)).map Ob.s) = nxtK un (nxt un ((obs.take k).map Ob.s)) x.s := by
      unfold nxt
      rw [htake, List.map_append, List.foldl_append]; rfl
    have e8 : (Blk.row 68 (oC x) (0, 0)).cell (0 + 8) = some (.int .u64 (x.s.q : Int)) := rfl
    have hnext : ∀ S (rr : Nat × Bool), nxtK un (nxt un ((obs.take k).map Ob.s)) x.s = rr → S30 (ptr p) (.int .u64 (rr.1 : Int)) (.bool rr.2) (.slice (some ⟨lr, lo, none⟩) obs.length lc) (.int .i64 (obs.length : Int)) (.int .i64 ((k + 1 : Nat) : Int)) S → R S H' := by
      intro S rr h1 h2
      rw [← h1, ← hn1] at h2
      exact hR (k + 1) S _ (by omega) (Keep.all ⟨by omega, h2, rfl⟩)
    clear hR hn1
    generalize nxt un ((obs.take k).map Ob.s) = rr at *
    obtain ⟨l, any⟩ := rr
    unfold nxtK at hnext
    dsimp only at hnext ⊢
    by_cases h1 : x.s.q < un
    · cases any with
      | false =>
        rw [if_pos ⟨h1, .inl rfl⟩] at hnext
        repeat' ((conv => whnf); (first | refine Look.cell hlb hcell ?_ | refine Look.cell hxm e8 ?_ | refine Look.cell hm e2 ?_ | refine Branch.dt (by omega) ?_ | exact hnext _ _ rfl .mk | refine New.mk (fun _ => ?_) | refine Look.at0 ?_ | refine Cell.row ?_ | refine Cell.buf ?_ | refine Cells.row rfl ?_ | refine Put.row rfl ?_ | refine Put.buf rfl ?_ | refine Look.at1 ?_ | refine Look.at2 ?_ | refine Look.at3 ?_ | refine Look.at4 ?_ | refine Look.at5 ?_ | refine Look.at6 ?_ | refine Look.at7 ?_ | refine Look.at8 ?_ | with_reducible refine Val.i64 (by omega) (by omega) ?_ | with_reducible refine Val.u8 (by omega) (by omega) ?_ | with_reducible refine Val.u32 (by omega) (by omega) ?_ | with_reducible refine Val.u64 (by omega) (by omega) ?_ | with_reducible refine Val.u8m ?_ | with_reducible refine Val.u32m ?_ | with_reducible refine Val.u64m ?_ | with_reducible refine Val.shr8 ?_ | with_reducible refine Val.shr16 (by decide) ?_ | with_reducible refine Val.shr24 (by decide) ?_ | with_reducible refine Val.raw ?_ | refine Branch.not ?_ | refine Branch.and ?_ | refine Branch.or ?_ | refine Branch.dt (by assumption) ?_ | refine Branch.df (by assumption) ?_ | refine Branch.dt rfl ?_ | refine Branch.dt (by omega) ?_ | refine Branch.df (by omega) ?_ | refine Branch.t rfl ?_ | refine Branch.f rfl ?_ | refine Branch.t (by assumption) ?_ | refine Branch.f (by assumption) ?_ | refine Branch.d (fun _ => ?_) (fun _ => ?_) | refine Branch.mk (fun _ => ?_) (fun _ => ?_) | refine Need.mk (by first | omega | decide | rfl) ?_ | refine Idx.nat (by omega) ?_ | refine Idx.auto (by first | omega | decide) (by first | omega | decide) ?_ | refine Cell.ro rfl ?_ | refine SDraw.all (by kernel_rfl) ?_ | refine Kept.k0 ?_ | refine Kept.k1 ?_ | refine Kept.k2 ?_ | refine Kept.k3 ?_ | refine Kept.k4 ?_))
      | true =>
        by_cases h2 : x.s.q < l
        · rw [if_pos ⟨h1, .inr h2⟩] at hnext
          repeat' ((conv => whnf); (first | refine Look.cell hlb hcell ?_ | refine Look.cell hxm e8 ?_ | refine Look.cell hm e2 ?_ | refine Branch.dt (by omega) ?_ | exact hnext _ _ rfl .mk | refine New.mk (fun _ => ?_) | refine Look.at0 ?_ | refine Cell.row ?_ | refine Cell.buf ?_ | refine Cells.row rfl ?_ | refine Put.row rfl ?_ | refine Put.buf rfl ?_ | refine Look.at1 ?_ | refine Look.at2 ?_ | refine Look.at3 ?_ | refine Look.at4 ?_ | refine Look.at5 ?_ | refine Look.at6 ?_ | refine Look.at7 ?_ | refine Look.at8 ?_ | with_reducible refine Val.i64 (by omega) (by omega) ?_ | with_reducible refine Val.u8 (by omega) (by omega) ?_ | with_reducible refine Val.u32 (by omega) (by omega) ?_ | with_reducible refine Val.u64 (by omega) (by omega) ?_ | with_reducible refine Val.u8m ?_ | with_reducible refine Val.u32m ?_ | with_reducible refine Val.u64m ?_ | with_reducible refine Val.shr8 ?_ | with_reducible refine Val.shr16 (by decide) ?_ | with_reducible refine Val.shr24 (by decide) ?_ | with_reducible refine Val.raw ?_ | refine Branch.not ?_ | refine Branch.and ?_ | refine Branch.or ?_ | refine Branch.dt (by assumption) ?_ | refine Branch.df (by assumption) ?_ | refine Branch.dt rfl ?_ | refine Branch.dt (by omega) ?_ | refine Branch.df (by omega) ?_ | refine Branch.t rfl ?_ | refine Branch.f rfl ?_ | refine Branch.t (by assumption) ?_ | refine Branch.f (by assumption) ?_ | refine Branch.d (fun _ => ?_) (fun _ => ?_) | refine Branch.mk (fun _ => ?_) (fun _ => ?_) | refine Need.mk (by first | omega | decide | rfl) ?_ | refine Idx.nat (by omega) ?_ | refine Idx.auto (by first | omega | decide) (by first | omega | decide) ?_ | refine Cell.ro rfl ?_ | refine SDraw.all (by kernel_rfl) ?_ | refine Kept.k0 ?_ | refine Kept.k1 ?_ | refine Kept.k2 ?_ | refine Kept.k3 ?_ | refine Kept.k4 ?_))
        · rw [if_neg (fun h => by rcases h.2 with h | h; cases h; exact h2 h)] at hnext
          repeat' ((conv => whnf); (first | refine Look.cell hlb hcell ?_ | refine Look.cell hxm e8 ?_ | refine Look.cell hm e2 ?_ | refine Branch.df (by omega) ?_ | refine Branch.dt (by omega) ?_ | exact hnext _ _ rfl .mk | refine New.mk (fun _ => ?_) | refine Look.at0 ?_ | refine Cell.row ?_ | refine Cell.buf ?_ | refine Cells.row rfl ?_ | refine Put.row rfl ?_ | refine Put.buf rfl ?_ | refine Look.at1 ?_ | refine Look.at2 ?_ | refine Look.at3 ?_ | refine Look.at4 ?_ | refine Look.at5 ?_ | refine Look.at6 ?_ | refine Look.at7 ?_ | refine Look.at8 ?_ | with_reducible refine Val.i64 (by omega) (by omega) ?_ | with_reducible refine Val.u8 (by omega) (by omega) ?_ | with_reducible refine Val.u32 (by omega) (by omega) ?_ | with_reducible refine Val.u64 (by omega) (by omega) ?_ | with_reducible refine Val.u8m ?_ | with_reducible refine Val.u32m ?_ | with_reducible refine Val.u64m ?_ | with_reducible refine Val.shr8 ?_ | with_reducible refine Val.shr16 (by decide) ?_ | with_reducible refine Val.shr24 (by decide) ?_ | with_reducible refine Val.raw ?_ | refine Branch.not ?_ | refine Branch.and ?_ | refine Branch.or ?_ | refine Branch.dt (by assumption) ?_ | refine Branch.df (by assumption) ?_ | refine Branch.dt rfl ?_ | refine Branch.dt (by omega) ?_ | refine Branch.df (by omega) ?_ | refine Branch.t rfl ?_ | refine Branch.f rfl ?_ | refine Branch.t (by assumption) ?_ | refine Branch.f (by assumption) ?_ | refine Branch.d (fun _ => ?_) (fun _ => ?_) | refine Branch.mk (fun _ => ?_) (fun _ => ?_) | refine Need.mk (by first | omega | decide | rfl) ?_ | refine Idx.nat (by omega) ?_ | refine Idx.auto (by first | omega | decide) (by first | omega | decide) ?_ | refine Cell.ro rfl ?_ | refine SDraw.all (by kernel_rfl) ?_ | refine Kept.k0 ?_ | refine Kept.k1 ?_ | refine Kept.k2 ?_ | refine Kept.k3 ?_ | refine Kept.k4 ?_))
    · rw [if_neg (fun h => h1 h.1)] at hnext
      repeat' ((conv => whnf); (first | refine Look.cell hlb hcell ?_ | refine Look.cell hxm e8 ?_ | refine Look.cell hm e2 ?_ | refine Branch.df (by omega) ?_ | exact hnext _ _ rfl .mk | refine New.mk (fun _ => ?_) | refine Look.at0 ?_ | refine Cell.row ?_ | refine Cell.buf ?_ | refine Cells.row rfl ?_ | refine Put.row rfl ?_ | refine Put.buf rfl ?_ | refine Look.at1 ?_ | refine Look.at2 ?_ | refine Look.at3 ?_ | refine Look.at4 ?_ | refine Look.at5 ?_ | refine Look.at6 ?_ | refine Look.at7 ?_ | refine Look.at8 ?_ | with_reducible refine Val.i64 (by omega) (by omega) ?_ | with_reducible refine Val.u8 (by omega) (by omega) ?_ | with_reducible refine Val.u32 (by omega) (by omega) ?_ | with_reducible refine Val.u64 (by omega) (by omega) ?_ | with_reducible refine Val.u8m ?_ | with_reducible refine Val.u32m ?_ | with_reducible refine Val.u64m ?_ | with_reducible refine Val.shr8 ?_ | with_reducible refine Val.shr16 (by decide) ?_ | with_reducible refine Val.shr24 (by decide) ?_ | with_reducible refine Val.raw ?_ | refine Branch.not ?_ | refine Branch.and ?_ | refine Branch.or ?_ | refine Branch.dt (by assumption) ?_ | refine Branch.df (by assumption) ?_ | refine Branch.dt rfl ?_ | refine Branch.dt (by omega) ?_ | refine Branch.df (by omega) ?_ | refine Branch.t rfl ?_ | refine Branch.f rfl ?_ | refine Branch.t (by assumption) ?_ | refine Branch.f (by assumption) ?_ | refine Branch.d (fun _ => ?_) (fun _ => ?_) | refine Branch.mk (fun _ => ?_) (fun _ => ?_) | refine Need.mk (by first | omega | decide | rfl) ?_ | refine Idx.nat (by omega) ?_ | refine Idx.auto (by first | omega | decide) (by first | omega | decide) ?_ | refine Cell.ro rfl ?_ | refine SDraw.all (by kernel_rfl) ?_ | refine Kept.k0 ?_ | refine Kept.k1 ?_ | refine Kept.k2 ?_ | refine Kept.k3 ?_ | refine Kept.k4 ?_))
  · obtain rfl : k = obs.length := by omega
    rw [List.take_length]
    clear hR
    repeat' ((conv => whnf); (first | exact Keep.all hK | refine New.mk (fun _ => ?_) | refine Look.at0 ?_ | refine Cell.row ?_ | refine Cell.buf ?_ | refine Cells.row rfl ?_ | refine Put.row rfl ?_ | refine Put.buf rfl ?_ | refine Look.at1 ?_ | refine Look.at2 ?_ | refine Look.at3 ?_ | refine Look.at4 ?_ | refine Look.at5 ?_ | refine Look.at6 ?_ | refine Look.at7 ?_ | refine Look.at8 ?_ | with_reducible refine Val.i64 (by omega) (by omega) ?_ | with_reducible refine Val.u8 (by omega) (by omega) ?_ | with_reducible refine Val.u32 (by omega) (by omega) ?_ | with_reducible refine Val.u64 (by omega) (by omega) ?_ | with_reducible refine Val.u8m ?_ | with_reducible refine Val.u32m ?_ | with_reducible refine Val.u64m ?_ | with_reducible refine Val.shr8 ?_ | with_reducible refine Val.shr16 (by decide) ?_ | with_reducible refine Val.shr24 (by decide) ?_ | with_reducible refine Val.raw ?_ | refine Branch.not ?_ | refine Branch.and ?_ | refine Branch.or ?_ | refine Branch.dt (by assumption) ?_ | refine Branch.df (by assumption) ?_ | refine Branch.dt rfl ?_ | refine Branch.dt (by omega) ?_ | refine Branch.df (by omega) ?_ | refine Branch.t rfl ?_ | refine Branch.f rfl ?_ | refine Branch.t (by assumption) ?_ | refine Branch.f (by assumption) ?_ | refine Branch.d (fun _ => ?_) (fun _ => ?_) | refine Branch.mk (fun _ => ?_) (fun _ => ?_) | refine Need.mk (by first | omega | decide | rfl) ?_ | refine Idx.nat (by omega) ?_ | refine Idx.auto (by first | omega | decide) (by first | omega | decide) ?_ | refine Cell.ro rfl ?_ | refine SDraw.all (by kernel_rfl) ?_ | refine Kept.k0 ?_ | refine Kept.k1 ?_ | refine Kept.k2 ?_ | refine Kept.k3 ?_ | refine Kept.k4 ?_))
end
/-- What each round comes to. -/
def mu (un : Nat) (ss : List Sr) (Q : List Wn) (now : Nat) : Nat := pot un ss Q * (un + 1) + (un - now)
theorem runs_cases {un : Nat} {L : List Msg} {ss : List Sr} {Q : List Wn} {now : Nat} {out r : List Nat} (h : PInv un L ss Q now out) (hr : Runs un ss Q now out r) :
    (Q ++ wants un now 0 ss = [] ∧ (nxt un (ss.map (drS un now))).2 = false ∧ out = r) ∨
    (∃ t, Q ++ wants un now 0 ss = [] ∧ nxt un (ss.map (drS un now)) = (t, true) ∧ Runs un (ss.map (drS un now)) [] t out r ∧ PInv un L (ss.map (drS un now)) [] t out ∧ mu un (ss.map (drS un now)) [] t < mu un ss Q now) ∨
    (∃ w s, (Q ++ wants un now 0 ss)[best (Q ++ wants un now 0 ss)]? = some w ∧ ss[w.who]? = some s ∧ w.ask ≤ now ∧ Runs un (ss.map (drS un now)) ((Q ++ wants un now 0 ss).eraseIdx (best (Q ++ wants un now 0 ss))) (now + tm s.m) (upd out w.who (now + tm s.m - w.ask)) r ∧
      PInv un L (ss.map (drS un now)) ((Q ++ wants un now 0 ss).eraseIdx (best (Q ++ wants un now 0 ss))) (now + tm s.m) (upd out w.who (now + tm s.m - w.ask)) ∧
      mu un (ss.map (drS un now)) ((Q ++ wants un now 0 ss).eraseIdx (best (Q ++ wants un now 0 ss))) (now + tm s.m) < mu un ss Q now) := by
  have h1 := h.takes
  have hpot : pot un (ss.map (drS un now)) (Q ++ wants un now 0 ss) ≤ pot un ss Q := by
    have hp := wants_pot (now := now) ss 0 h.ok
    unfold pot
    rw [List.length_append]
    omega
  have hm := Nat.mul_le_mul_right (un + 1) hpot
  cases hr with
  | halt h2 h3 => exact .inl ⟨h2, h3, rfl⟩
  | @wait _ _ _ t _ _ hq ht hr =>
    rw [hq] at h1 hpot hm
    obtain ⟨g1, g2, s, g3, g4⟩ := h1.wait ht
    obtain ⟨s', hs', rfl⟩ := List.mem_map.1 g3
    have he := ((h.ok s' hs').dr (now := now)).end_
    have h5 : (dr un now s').2.2 = t := g4.symm
    rw [h5] at he
    exact .inr (.inl ⟨t, hq, ht, hr, g1, by unfold mu; omega⟩)
  | @go _ _ _ _ _ w s hw hs hr =>
    obtain ⟨g0, g1, g2⟩ := h1.go (s := drS un now s) hw (by rw [List.getElem?_map, hs]; rfl)
    have hm2 : (pot un (ss.map (drS un now)) ((Q ++ wants un now 0 ss).eraseIdx (best (Q ++ wants un now 0 ss))) + 1) * (un + 1) ≤ pot un ss Q * (un + 1) := by rw [g2]; exact hm
    rw [Nat.add_mul] at hm2
    exact .inr (.inr ⟨w, s, hw, hs, g0, hr, g1, by unfold mu; omega⟩)
end Go.Proofs.YtjleekdidedhaaaDoor

/- Layer 25: Play: by walks. -/
set_option linter.unusedVariables false
set_option linter.unusedSimpArgs false
set_option maxRecDepth 100000
set_option maxHeartbeats 4000000
namespace Go.Proofs.YtjleekdidedhaaaDoor
open Sx
def start (L : List Msg) (offs : List Nat) : List Sr := List.zipWith (fun m o => Sr.mk m 0 o) L offs
theorem sum_le {l : List Nat} {b : Nat} (h : ∀ x ∈ l, x ≤ b) : l.sum ≤ l.length * b := by
  induction l with
  | nil => simp
  | cons x l ih =>
    have h1 := h x (.head _)
    have h2 := ih fun y hy => h y (.tail _ hy)
    rw [List.sum_cons, List.length_cons, Nat.succ_mul]
    omega
theorem start_inv {L : List Msg} {offs : List Nat} {un : Nat} (hG : Goods L) (hlen : offs.length = L.length) (hun : un ≤ 1048576) (hoff : ∀ (j : Nat) (m : Msg) (o : Nat), L[j]? = some m → offs[j]? = some o → o ≤ m.j) :
    PInv un L (start L offs) [] 0 (List.replicate L.length 0) := by
  have hsl : (start L offs).length = L.length := by unfold start; rw [List.length_zipWith]; omega
  have hok : ∀ s ∈ start L offs, SrOk un s := by
    intro s hs
    obtain ⟨j, hj, rfl⟩ := List.getElem_of_mem hs
    have hj2 : j < L.length := by omega
    have hj3 : j < offs.length := by omega
    have e : (start L offs)[j] = ⟨L[j], 0, offs[j]⟩ := by simp [start]
    rw [e]
    have hg := hG.good L[j] (List.getElem_mem hj2)
    have ho := hoff j L[j] offs[j] (List.getElem?_eq_getElem hj2) (List.getElem?_eq_getElem hj3)
    have h1 := hg.j
    have h2 := hg.p2
    exact ⟨hg, Nat.zero_le _, by show offs[j] < 0 + L[j].p; omega, by show offs[j] ≤ un + 4294967296; omega⟩
  have hpot : pot un (start L offs) [] ≤ 67108864 := by
    unfold pot
    have h1 := sum_le (l := (start L offs).map fun s => un - s.q) (b := 1048576) (fun x hx => by
      obtain ⟨s, _, rfl⟩ := List.mem_map.1 hx
      omega)
    rw [List.length_map, hsl] at h1
    have h2 := Nat.mul_le_mul_right 1048576 hG.len
    simp only [List.length_nil]
    omega
  refine ⟨hG, hun, ?_, hok, by simp, fun v hv => by rw [List.eq_of_mem_replicate hv]; decide, (fun x hx => by cases hx), (fun x hx => by cases hx), List.Pairwise.nil, hpot, by omega⟩
  unfold start
  rw [List.map_zipWith]
  refine List.ext_getElem? fun j => ?_
  rw [List.getElem?_zipWith]
  by_cases hj : j < L.length
  · rw [List.getElem?_eq_getElem hj, List.getElem?_eq_getElem (show j < offs.length by omega)]
  · rw [List.getElem?_eq_none (by omega)]
inductive S15a (A0 A1 A2 A9 A34 A35 A36 : Value) : List Value → Prop
  | mk {r3 r4 r5 r6 r7 r8 r10 r11 r12 r13 r14 r15 r16 r17 r18 r19 r20 r21 r22 r23 r24 r25 r26 r27 r28 r29 r30 r31 r32 r33 r37 r38 r39 r40 r41 r42 r43 r44 r45 r46 r47 r48 r49 r50 r51 r52 r53 r54 r55 r56 r57 r58 r59 r60 r61 r62 r63 r64 r65 r66 r67 r68 r69 r70 r71 r72 r73 r74 r75 r76 r77 r78 r79 r80 r81 r82 r83 r84 r85 r86 r87 r88 r89 r90 r91 r92 r93 r94 r95 r96 r97 r98 r99 r100 r101 r102 r103 r104 r105 r106 r107 r108 r109 r110 r111 r112 r113 r114 r115 r116 : Value} : S15a A0 A1 A2 A9 A34 A35 A36 [A0, A1, A2, r3, r4, r5, r6, r7, r8, A9, r10, r11, r12, r13, r14, r15, r16, r17, r18, r19, r20, r21, r22, r23, r24, r25, r26, r27, r28, r29, r30, r31, r32, r33, A34, A35, A36, r37, r38, r39, r40, r41, r42, r43, r44, r45, r46, r47, r48, r49, r50, r51, r52, r53, r54, r55, r56, r57, r58, r59, r60, r61, r62, r63, r64, r65, r66, r67, r68, r69, r70, r71, r72, r73, r74, r75, r76, r77, r78, r79, r80, r81, r82, r83, r84, r85, r86, r87, r88, r89, r90, r91, r92, r93, r94, r95, r96, r97, r98, r99, r100, r101, r102, r103, r104, r105, r106, r107, r108, r109, r110, r111, r112, r113, r114, r115, r116]
inductive S15b (A0 A9 A12 A13 : Value) : List Value → Prop
  | mk {r1 r2 r3 r4 r5 r6 r7 r8 r10 r11 r14 r15 r16 r17 r18 r19 r20 r21 r22 r23 r24 r25 r26 r27 r28 r29 r30 r31 r32 r33 r34 r35 r36 r37 r38 r39 r40 r41 r42 r43 r44 r45 r46 r47 r48 r49 r50 r51 r52 r53 r54 r55 r56 r57 r58 r59 r60 r61 r62 r63 r64 r65 r66 r67 r68 r69 r70 r71 r72 r73 r74 r75 r76 r77 r78 r79 r80 r81 r82 r83 r84 r85 r86 r87 r88 r89 r90 r91 r92 r93 r94 r95 r96 r97 r98 r99 r100 r101 r102 r103 r104 r105 r106 r107 r108 r109 r110 r111 r112 r113 r114 r115 r116 : Value} : S15b A0 A9 A12 A13 [A0, r1, r2, r3, r4, r5, r6, r7, r8, A9, r10, r11, A12, A13, r14, r15, r16, r17, r18, r19, r20, r21, r22, r23, r24, r25, r26, r27, r28, r29, r30, r31, r32, r33, r34, r35, r36, r37, r38, r39, r40, r41, r42, r43, r44, r45, r46, r47, r48, r49, r50, r51, r52, r53, r54, r55, r56, r57, r58, r59, r60, r61, r62, r63, r64, r65, r66, r67, r68, r69, r70, r71, r72, r73, r74, r75, r76, r77, r78, r79, r80, r81, r82, r83, r84, r85, r86, r87, r88, r89, r90, r91, r92, r93, r94, r95, r96, r97, r98, r99, r100, r101, r102, r103, r104, r105, r106, r107, r108, r109, r110, r111, r112, r113, r114, r115, r116]
structure T15 where
  (ss : List Sr) (Q : List Wn) (now : Nat) (out : List Nat) (hq : List Wn) (obs : List Ob) (F : Heap)
section
variable {K : Value → Heap → Prop} {H F : Heap} {p : Nat} {lv qv sv ov : Value} {un now : Nat} {L : List Msg}
theorem PQ.tail {X : Heap} {hq : List Wn} (h : PQ p lv qv hq (X ++ H) F) : H.Sublist F := by
  cases h with
  | nil => exact (List.sublist_append_right X H).trans (List.sublist_cons_self _ _)
  | buf h1 h2 => exact (List.sublist_append_right X H).trans ((List.sublist_cons_self _ _).trans (List.sublist_cons_self _ _))
theorem c29d {obs : List Ob} {Q hq : List Wn} {N : Nat} (hok : ∀ x ∈ obs, SrOk un x.s) (hks : ∀ (k : Nat) (x : Ob), obs[k]? = some x → x.k = k) (hlv : InS fR 1 lv H (obs.map Ob.r)) (hPQ : PQ p lv (.int .u64 (un : Int)) hq (obs.map oRow ++ H) F) (hp : hq.Perm Q) (hh : Hp.HeapN wlt hq hq.length)
    (hcap : (Q ++ wants un now 0 (obs.map Ob.s)).length = N) (hN : N ≤ 1000000000) (hun : un ≤ 1048576) (hnow : now < 9223372036854775808) (hn64 : obs.length ≤ 64)
    (hK : ∀ hq' a c M, PQ p lv (.int .u64 (un : Int)) hq' ((obs.map (gO un now)).map oRow ++ H) (pRow p lv (.slice a N c) (.int .u64 (un : Int)) :: M) → hq'.Perm (Q ++ wants un now 0 (obs.map Ob.s)) → Hp.HeapN wlt hq' hq'.length → hq'.length = N → K (.tuple ⟨[]⟩) (pRow p lv (.slice a N c) (.int .u64 (un : Int)) :: M)) : SCalls Tryd.prog 29 [ptr p, .int .u64 (now : Int)] F K := by
  refine c29 hok hks hlv hPQ hp hh (by omega) hun hnow hn64 (fun hq' F' g1 g2 g3 => ?_)
  have hl := g2.length_eq
  rw [hcap] at hl
  obtain ⟨a, c, M, _, _, rfl⟩ := g1.que
  rw [hl] at g1 ⊢
  exact hK hq' a c _ g1 g2 g3 hl
def I15b (p un : Nat) (sv lv : Value) (L : List Msg) (rs r : List Nat) (ob : Nat) (H : Heap) (y : T15) (S : List Value) (H' : Heap) : Prop :=
  PInv un L y.ss y.Q y.now y.out ∧ Runs un y.ss y.Q y.now y.out r ∧ y.obs.map Ob.s = y.ss ∧ y.obs.map Ob.r = rs ∧ (∀ (k : Nat) (x : Ob), y.obs[k]? = some x → x.k = k) ∧ PQ p lv (.int .u64 (un : Int)) y.hq (y.obs.map oRow ++ H) y.F ∧ y.hq.Perm y.Q ∧ Hp.HeapN wlt y.hq y.hq.length ∧
    S15b sv (ptr p) (.slice (some ⟨ob, 0, none⟩) L.length L.length) (.int .u64 (y.now : Int)) S ∧ (ob, .buf 28 (y.out.map u64) L.length) :: y.F = H'
theorem loop15 {ss : List Sr} {Q hq : List Wn} {out rs r : List Nat} {obs : List Ob} {ob : Nat} {S : List Value} (hin : InS mC 5 sv H L) (hlv : InS fR 1 lv H rs)
    (h1 : PInv un L ss Q now out) (h2 : Runs un ss Q now out r) (h3 : obs.map Ob.s = ss) (h4 : obs.map Ob.r = rs) (h5 : ∀ (k : Nat) (x : Ob), obs[k]? = some x → x.k = k) (h6 : PQ p lv (.int .u64 (un : Int)) hq (obs.map oRow ++ H) F) (h7 : hq.Perm Q) (h8 : Hp.HeapN wlt hq hq.length)
    (h9 : S15b sv (ptr p) (.slice (some ⟨ob, 0, none⟩) L.length L.length) (.int .u64 (now : Int)) S) (hK : K (.tuple ⟨[.slice (some ⟨ob, 0, none⟩) L.length L.length, .int .i64 0]⟩) ((ob, .buf 28 (r.map u64) L.length) :: H)) :
    SLoop Tryd.prog X15_l0 (blockQ 2 (retQ [RV.tmp 6, RV.tmp 7] K)) S ((ob, .buf 28 (out.map u64) L.length) :: F) := by
  obtain ⟨sa, sc, rfl, hml⟩ := hin.sv
  refine SLoop.invA (I15b p un (.slice sa L.length sc) lv L rs r ob H) (fun y => mu un y.ss y.Q y.now) ⟨ss, Q, now, out, hq, obs, F⟩ (Keep.all ⟨h1, h2, h3, h4, h5, h6, h7, h8, h9, rfl⟩) ?_
  clear h1 h2 h3 h4 h5 h6 h7 h8 h9
  rintro ⟨ss, Q, now, out, hq, obs, F⟩ S H' ⟨h1, h2, h3, h4, h5, h6, h7, h8, hS, rfl⟩ R hR
  dsimp only at h1 h2 h3 h4 h5 h6 h7 h8 hS hR ⊢
  cases hS
  have hsl : ss.length = L.length := by rw [← h1.ms, List.length_map]
  have hol : obs.length = L.length := by rw [← hsl, ← h3, List.length_map]
  have h64 := h1.goods.len
  have hun := h1.unb
  have hpot := h1.takes.potb
  have hnb := h1.nowb
  have hQl : (Q ++ wants un now 0 ss).length ≤ 67108864 := by
    unfold pot at hpot
    omega
  have hok : ∀ x ∈ obs, SrOk un x.s := fun x hx => h1.ok _ (by rw [← h3]; exact List.mem_map_of_mem hx)
  have hlv1 : InS fR 1 lv H (obs.map Ob.r) := by rw [h4]; exact hlv
  have hlv2 : InS fR 1 lv H ((obs.map (gO un now)).map Ob.r) := by rw [List.map_map]; exact hlv1
  have hs2 : (obs.map (gO un now)).map Ob.s = ss.map (drS un now) := by rw [← h3, List.map_map, List.map_map]; rfl
  have h29 : ∀ N (K2 : Value → Heap → Prop), (Q ++ wants un now 0 ss).length = N → (∀ hq' a c M, PQ p lv (.int .u64 (un : Int)) hq' ((obs.map (gO un now)).map oRow ++ H) (pRow p lv (.slice a N c) (.int .u64 (un : Int)) :: M) → hq'.Perm (Q ++ wants un now 0 ss) → Hp.HeapN wlt hq' hq'.length → hq'.length = N → K2 (.tuple ⟨[]⟩) (pRow p lv (.slice a N c) (.int .u64 (un : Int)) :: M)) → SCalls Tryd.prog 29 [ptr p, .int .u64 (now : Int)] F K2 :=
    fun N K2 hN hk => c29d (N := N) hok h5 hlv1 h6 h7 h8 (by rw [h3]; exact hN) (by omega) hun (by omega) (by omega) (by rw [h3]; exact hk)
  have h30 : ∀ nx M hq' a c (y : Nat × Blk) (K2 : Value → Heap → Prop), nxt un (ss.map (drS un now)) = nx → PQ p lv (.int .u64 (un : Int)) hq' ((obs.map (gO un now)).map oRow ++ H) (pRow p lv (.slice a 0 c) (.int .u64 (un : Int)) :: M) → K2 (.tuple ⟨[.int .u64 (nx.1 : Int), .bool nx.2]⟩) (y :: pRow p lv (.slice a 0 c) (.int .u64 (un : Int)) :: M) → SCalls Tryd.prog 30 [ptr p] (y :: pRow p lv (.slice a 0 c) (.int .u64 (un : Int)) :: M) K2 := by
    intro nx M hq' a c y K2 hnx g1 hk
    refine c30 (.tail _ (.head _)) (hlv2.mono fun z hz => .tail _ (g1.sub _ (List.mem_append_right _ hz))) (fun x hx => .tail _ (g1.sub _ (List.mem_append_left _ (List.mem_map_of_mem hx)))) (by rw [List.length_map]; omega) ?_
    rw [hs2, hnx]
    exact hk
  have hks2 : ∀ (k : Nat) (x : Ob), (obs.map (gO un now))[k]? = some x → x.k = k := by
    intro k x hx
    rw [List.getElem?_map] at hx
    cases ho : obs[k]? with
    | none => rw [ho] at hx; cases hx
    | some z =>
      rw [ho] at hx
      injection hx with hx
      subst hx
      exact h5 k z ho
  have hrs2 : (obs.map (gO un now)).map Ob.r = rs := by rw [List.map_map, ← h4]; rfl
  rcases runs_cases h1 h2 with ⟨c1, c2, c3⟩ | ⟨t, c1, c2, c3, c4, c5⟩ | ⟨w, s, c1, c2, c3, c4, c5, c6⟩
  · have hN : (Q ++ wants un now 0 ss).length = 0 := by rw [c1]; rfl
    obtain ⟨nx, hnx⟩ : ∃ nx, nxt un (ss.map (drS un now)) = nx := ⟨_, rfl⟩
    obtain ⟨l, any⟩ := nx
    have hany : any = false := by rw [hnx] at c2; exact c2
    subst hany
    subst c3
    have hk : ∀ a c M hq', PQ p lv (.int .u64 (un : Int)) hq' ((obs.map (gO un now)).map oRow ++ H) (pRow p lv (.slice a 0 c) (.int .u64 (un : Int)) :: M) → Keep ((ob, .buf 28 (out.map u64) L.length) :: pRow p lv (.slice a 0 c) (.int .u64 (un : Int)) :: M) fun H' => K (.tuple ⟨[.slice (some ⟨ob, 0, none⟩) L.length L.length, .int .i64 0]⟩) H' := fun a c M hq' g => Keep.sub _ (List.Sublist.cons_cons _ g.tail) hK
    clear hR
    repeat' ((conv => whnf); (first | refine SCalls.under [_] (h29 _ _ hN (fun hq' a c M g1 g2 g3 g4 => ?_)) | refine Branch.t rfl ?_ | refine h30 _ _ _ _ _ _ _ hnx g1 ?_ | exact hk _ _ _ _ g1 | refine New.mk (fun _ => ?_) | refine Look.at0 ?_ | refine Cell.row ?_ | refine Cell.buf ?_ | refine Cells.row rfl ?_ | refine Put.row rfl ?_ | refine Put.buf rfl ?_ | refine Look.at1 ?_ | refine Look.at2 ?_ | refine Look.at3 ?_ | refine Look.at4 ?_ | refine Look.at5 ?_ | refine Look.at6 ?_ | refine Look.at7 ?_ | refine Look.at8 ?_ | with_reducible refine Val.i64 (by omega) (by omega) ?_ | with_reducible refine Val.u8 (by omega) (by omega) ?_ | with_reducible refine Val.u32 (by omega) (by omega) ?_ | with_reducible refine Val.u64 (by omega) (by omega) ?_ | with_reducible refine Val.u8m ?_ | with_reducible refine Val.u32m ?_ | with_reducible refine Val.u64m ?_ | with_reducible refine Val.shr8 ?_ | with_reducible refine Val.shr16 (by decide) ?_ | with_reducible refine Val.shr24 (by decide) ?_ | with_reducible refine Val.raw ?_ | refine Branch.not ?_ | refine Branch.and ?_ | refine Branch.or ?_ | refine Branch.dt (by assumption) ?_ | refine Branch.df (by assumption) ?_ | refine Branch.dt rfl ?_ | refine Branch.dt (by omega) ?_ | refine Branch.df (by omega) ?_ | refine Branch.t rfl ?_ | refine Branch.f rfl ?_ | refine Branch.t (by assumption) ?_ | refine Branch.f (by assumption) ?_ | refine Branch.d (fun _ => ?_) (fun _ => ?_) | refine Branch.mk (fun _ => ?_) (fun _ => ?_) | refine Need.mk (by first | omega | decide | rfl) ?_ | refine Idx.nat (by omega) ?_ | refine Idx.auto (by first | omega | decide) (by first | omega | decide) ?_ | refine Cell.ro rfl ?_ | refine SDraw.all (by kernel_rfl) ?_ | refine Kept.k0 ?_ | refine Kept.k1 ?_ | refine Kept.k2 ?_ | refine Kept.k3 ?_ | refine Kept.k4 ?_))
  · have hN : (Q ++ wants un now 0 ss).length = 0 := by rw [c1]; rfl
    have hnext : ∀ S a c M hq', PQ p lv (.int .u64 (un : Int)) hq' ((obs.map (gO un now)).map oRow ++ H) (pRow p lv (.slice a 0 c) (.int .u64 (un : Int)) :: M) → hq'.Perm (Q ++ wants un now 0 ss) → Hp.HeapN wlt hq' hq'.length → S15b (.slice sa L.length sc) (ptr p) (.slice (some ⟨ob, 0, none⟩) L.length L.length) (.int .u64 (t : Int)) S → R S ((ob, .buf 28 (out.map u64) L.length) :: pRow p lv (.slice a 0 c) (.int .u64 (un : Int)) :: M) := fun S a c M hq' g1 g2 g3 g4 =>
      hR ⟨ss.map (drS un now), [], t, out, hq', obs.map (gO un now), _⟩ S _ c5 (Keep.all ⟨c4, c3, hs2, hrs2, hks2, g1, by rw [← c1]; exact g2, g3, g4, rfl⟩)
    clear hR
    repeat' ((conv => whnf); (first | refine SCalls.under [_] (h29 _ _ hN (fun hq' a c M g1 g2 g3 g4 => ?_)) | refine Branch.t rfl ?_ | refine Branch.f rfl ?_ | refine h30 _ _ _ _ _ _ _ c2 g1 ?_ | exact hnext _ _ _ _ _ g1 g2 g3 .mk | refine New.mk (fun _ => ?_) | refine Look.at0 ?_ | refine Cell.row ?_ | refine Cell.buf ?_ | refine Cells.row rfl ?_ | refine Put.row rfl ?_ | refine Put.buf rfl ?_ | refine Look.at1 ?_ | refine Look.at2 ?_ | refine Look.at3 ?_ | refine Look.at4 ?_ | refine Look.at5 ?_ | refine Look.at6 ?_ | refine Look.at7 ?_ | refine Look.at8 ?_ | with_reducible refine Val.i64 (by omega) (by omega) ?_ | with_reducible refine Val.u8 (by omega) (by omega) ?_ | with_reducible refine Val.u32 (by omega) (by omega) ?_ | with_reducible refine Val.u64 (by omega) (by omega) ?_ | with_reducible refine Val.u8m ?_ | with_reducible refine Val.u32m ?_ | with_reducible refine Val.u64m ?_ | with_reducible refine Val.shr8 ?_ | with_reducible refine Val.shr16 (by decide) ?_ | with_reducible refine Val.shr24 (by decide) ?_ | with_reducible refine Val.raw ?_ | refine Branch.not ?_ | refine Branch.and ?_ | refine Branch.or ?_ | refine Branch.dt (by assumption) ?_ | refine Branch.df (by assumption) ?_ | refine Branch.dt rfl ?_ | refine Branch.dt (by omega) ?_ | refine Branch.df (by omega) ?_ | refine Branch.t rfl ?_ | refine Branch.f rfl ?_ | refine Branch.t (by assumption) ?_ | refine Branch.f (by assumption) ?_ | refine Branch.d (fun _ => ?_) (fun _ => ?_) | refine Branch.mk (fun _ => ?_) (fun _ => ?_) | refine Need.mk (by first | omega | decide | rfl) ?_ | refine Idx.nat (by omega) ?_ | refine Idx.auto (by first | omega | decide) (by first | omega | decide) ?_ | refine Cell.ro rfl ?_ | refine SDraw.all (by kernel_rfl) ?_ | refine Kept.k0 ?_ | refine Kept.k1 ?_ | refine Kept.k2 ?_ | refine Kept.k3 ?_ | refine Kept.k4 ?_))
  · obtain ⟨n, hN⟩ : ∃ n, (Q ++ wants un now 0 ss).length = n + 1 := ⟨(Q ++ wants un now 0 ss).length - 1, by
      have := (List.getElem?_eq_some_iff.1 c1).1
      omega⟩
    have hsm : L[w.who]? = some s.m := by rw [← h1.ms, List.getElem?_map, c2]; rfl
    have hwl := (List.getElem?_eq_some_iff.1 hsm).1
    have hgm := h1.goods.good s.m (List.mem_of_getElem? hsm)
    have htm := hgm.tm
    obtain ⟨mr, mo, mc, mb, e1, hmb, hmc⟩ := inS_at hin (fun _ => rfl) hsm
    injection e1 with e1 _ e3
    subst e1
    obtain ⟨v, hv⟩ : ∃ v, out[w.who]? = some v := ⟨_, List.getElem?_eq_getElem (by rw [h1.outl]; exact hwl)⟩
    have hvl : w.who < out.length := (List.getElem?_eq_some_iff.1 hv).1
    have hup : upd out w.who (now + tm s.m - w.ask) = out.set w.who (max v (now + tm s.m - w.ask)) := by
      unfold upd
      rw [List.getD_eq_getElem?_getD, hv]; rfl
    rw [hup] at c4 c5
    have hmax : (if (v : Int) < ((now + tm s.m - w.ask : Nat) : Int) then ((now + tm s.m - w.ask : Nat) : Int) else (v : Int)) = ((max v (now + tm s.m - w.ask) : Nat) : Int) := by
      split <;> omega
    have h31 : ∀ hq' a c M (K2 : Value → Heap → Prop), PQ p lv (.int .u64 (un : Int)) hq' ((obs.map (gO un now)).map oRow ++ H) (pRow p lv (.slice a (n + 1) c) (.int .u64 (un : Int)) :: M) → hq'.Perm (Q ++ wants un now 0 ss) → Hp.HeapN wlt hq' hq'.length → hq'.length = n + 1 →
        (∀ q' F', PQ p lv (.int .u64 (un : Int)) q' ((obs.map (gO un now)).map oRow ++ H) F' → q'.Perm ((Q ++ wants un now 0 ss).eraseIdx (best (Q ++ wants un now 0 ss))) → Hp.HeapN wlt q' q'.length → K2 (.iface 72 (.agg ⟨wC w⟩)) F') → SCalls Tryd.prog 31 [qP p] (pRow p lv (.slice a (n + 1) c) (.int .u64 (un : Int)) :: M) K2 := by
      intro hq' a c M K2 g1 g2 g3 g4 hk
      refine c31 (y := w) g1 g3 (by omega) g4 (fun y q' F' k1 k2 k3 k4 => ?_)
      obtain ⟨e1, e2⟩ := best_pop h1.takes.ord g2 k2 k3
      rw [c1] at e1
      injection e1 with e1
      subst e1
      exact hk q' F' k1 e2 k4
    have hnext : ∀ S q' F' (z : Nat × Blk), PQ p (lv) (.int .u64 (un : Int)) q' ((obs.map (gO un now)).map oRow ++ H) F' → q'.Perm ((Q ++ wants un now 0 ss).eraseIdx (best (Q ++ wants un now 0 ss))) → Hp.HeapN wlt q' q'.length → S15b (.slice (some ⟨mr, mo, none⟩) L.length sc) (ptr p) (.slice (some ⟨ob, 0, none⟩) L.length L.length) (.int .u64 ((now + tm s.m : Nat) : Int)) S → R S (z :: (ob, .buf 28 ((out.set w.who (max v (now + tm s.m - w.ask))).map u64) L.length) :: F') := fun S q' F' z g1 g2 g3 g4 =>
      hR ⟨ss.map (drS un now), _, now + tm s.m, _, q', obs.map (gO un now), F'⟩ S _ c6 (Keep.d1 ⟨c5, c4, hs2, hrs2, hks2, g1, g2, g3, g4, rfl⟩)
    clear hR
    have hvn : IntKind.u64.wrap ((now : Int) + (tm s.m : Int)) = ((now + tm s.m : Nat) : Int) := by
      rw [← Int.natCast_add]; exact wrap_nat rfl (by show _ < 18446744073709551616; omega)
    have hvs : IntKind.u64.wrap (((now + tm s.m : Nat) : Int) - (w.ask : Int)) = ((now + tm s.m - w.ask : Nat) : Int) := by
      rw [show ((now + tm s.m : Nat) : Int) - (w.ask : Int) = ((now + tm s.m - w.ask : Nat) : Int) by omega]
      exact wrap_nat rfl (by show _ < 18446744073709551616; omega)
    repeat' ((conv => whnf); (first | refine SCalls.under [_] (h29 _ _ hN (fun hq' a c M g1 g2 g3 g4 => ?_)) | refine Branch.df (by omega) ?_ | refine SCalls.under [_] (h31 _ _ _ _ _ g1 g2 g3 g4 (fun q' F' k1 k2 k3 => ?_)) | refine Look.cells (.tail _ (.tail _ (k1.sub _ (List.mem_append_right _ hmb)))) rfl hmc ?_ | refine t27 hgm ?_ | with_reducible refine Val.to _ hvn ?_ | with_reducible refine Val.to _ hvs ?_ | refine Cell.nth hv ?_ | refine RawV.max2 rfl hmax ?_ | refine Put.nthG (g := u64) _ hvl ?_ | exact hnext _ _ _ _ k1 k2 k3 .mk | refine New.mk (fun _ => ?_) | refine Look.at0 ?_ | refine Cell.row ?_ | refine Cell.buf ?_ | refine Cells.row rfl ?_ | refine Put.row rfl ?_ | refine Put.buf rfl ?_ | refine Look.at1 ?_ | refine Look.at2 ?_ | refine Look.at3 ?_ | refine Look.at4 ?_ | refine Look.at5 ?_ | refine Look.at6 ?_ | refine Look.at7 ?_ | refine Look.at8 ?_ | with_reducible refine Val.i64 (by omega) (by omega) ?_ | with_reducible refine Val.u8 (by omega) (by omega) ?_ | with_reducible refine Val.u32 (by omega) (by omega) ?_ | with_reducible refine Val.u64 (by omega) (by omega) ?_ | with_reducible refine Val.u8m ?_ | with_reducible refine Val.u32m ?_ | with_reducible refine Val.u64m ?_ | with_reducible refine Val.shr8 ?_ | with_reducible refine Val.shr16 (by decide) ?_ | with_reducible refine Val.shr24 (by decide) ?_ | with_reducible refine Val.raw ?_ | refine Branch.not ?_ | refine Branch.and ?_ | refine Branch.or ?_ | refine Branch.dt (by assumption) ?_ | refine Branch.df (by assumption) ?_ | refine Branch.dt rfl ?_ | refine Branch.dt (by omega) ?_ | refine Branch.df (by omega) ?_ | refine Branch.t rfl ?_ | refine Branch.f rfl ?_ | refine Branch.t (by assumption) ?_ | refine Branch.f (by assumption) ?_ | refine Branch.d (fun _ => ?_) (fun _ => ?_) | refine Branch.mk (fun _ => ?_) (fun _ => ?_) | refine Need.mk (by first | omega | decide | rfl) ?_ | refine Idx.nat (by omega) ?_ | refine Idx.auto (by first | omega | decide) (by first | omega | decide) ?_ | refine Cell.ro rfl ?_ | refine SDraw.all (by kernel_rfl) ?_ | refine Kept.k0 ?_ | refine Kept.k1 ?_ | refine Kept.k2 ?_ | refine Kept.k3 ?_ | refine Kept.k4 ?_))
end
end Go.Proofs.YtjleekdidedhaaaDoor

/- Layer 25: Play, whole: by walks. -/
set_option linter.unusedVariables false
set_option linter.unusedSimpArgs false
set_option maxRecDepth 100000
set_option maxHeartbeats 4000000
namespace Go.Proofs.YtjleekdidedhaaaDoor
open Sx
abbrev fU (n : Nat) : List Value := [.int .u64 (n : Int)]
section
variable {K : Value → Heap → Prop} {H F : Heap} {p : Nat} {lv qv sv ov : Value} {un now : Nat} {L : List Msg} {offs : List Nat}
theorem c15e (hD : Db H) (hin : InS mC 5 sv H L) (hwf : ∀ m ∈ L, m.wf) (hc : chk L ≠ 0) (h : K (.tuple ⟨[.slice none 0 0, .int .i64 (chk L)]⟩) H) : SCalls Tryd.prog 15 [sv, ov, .int .u64 (un : Int)] H K := by
  obtain ⟨sa, sc, rfl, hml⟩ := hin.sv
  refine enter15 ?_
  repeat' ((conv => whnf); (first | refine c22 hD hin hwf ?_ | refine Branch.t (by first | (simp [hc]; done) | omega) ?_ | exact Keep.all h | refine New.mk (fun _ => ?_) | refine Look.at0 ?_ | refine Cell.row ?_ | refine Cell.buf ?_ | refine Cells.row rfl ?_ | refine Put.row rfl ?_ | refine Put.buf rfl ?_ | refine Look.at1 ?_ | refine Look.at2 ?_ | refine Look.at3 ?_ | refine Look.at4 ?_ | refine Look.at5 ?_ | refine Look.at6 ?_ | refine Look.at7 ?_ | refine Look.at8 ?_ | with_reducible refine Val.i64 (by omega) (by omega) ?_ | with_reducible refine Val.u8 (by omega) (by omega) ?_ | with_reducible refine Val.u32 (by omega) (by omega) ?_ | with_reducible refine Val.u64 (by omega) (by omega) ?_ | with_reducible refine Val.u8m ?_ | with_reducible refine Val.u32m ?_ | with_reducible refine Val.u64m ?_ | with_reducible refine Val.shr8 ?_ | with_reducible refine Val.shr16 (by decide) ?_ | with_reducible refine Val.shr24 (by decide) ?_ | with_reducible refine Val.raw ?_ | refine Branch.not ?_ | refine Branch.and ?_ | refine Branch.or ?_ | refine Branch.dt (by assumption) ?_ | refine Branch.df (by assumption) ?_ | refine Branch.dt rfl ?_ | refine Branch.dt (by omega) ?_ | refine Branch.df (by omega) ?_ | refine Branch.t rfl ?_ | refine Branch.f rfl ?_ | refine Branch.t (by assumption) ?_ | refine Branch.f (by assumption) ?_ | refine Branch.d (fun _ => ?_) (fun _ => ?_) | refine Branch.mk (fun _ => ?_) (fun _ => ?_) | refine Need.mk (by first | omega | decide | rfl) ?_ | refine Idx.nat (by omega) ?_ | refine Idx.auto (by first | omega | decide) (by first | omega | decide) ?_ | refine Cell.ro rfl ?_ | refine SDraw.all (by kernel_rfl) ?_ | refine Kept.k0 ?_ | refine Kept.k1 ?_ | refine Kept.k2 ?_ | refine Kept.k3 ?_ | refine Kept.k4 ?_))
theorem c15l (hD : Db H) (hin : InS mC 5 sv H L) (hwf : ∀ m ∈ L, m.wf) (hc : chk L = 0) (hof : InS fU 1 ov H offs) (hbad : offs.length ≠ L.length ∨ 1048576 < un) (h : K (.tuple ⟨[.slice none 0 0, .int .i64 1]⟩) H) : SCalls Tryd.prog 15 [sv, ov, .int .u64 (un : Int)] H K := by
  obtain ⟨sa, sc, rfl, hml⟩ := hin.sv
  obtain ⟨oa, oc, rfl, hol⟩ := hof.sv
  have h22 := fun (K : Value → Heap → Prop) hk => c22 (K := K) hD hin hwf hk
  rw [hc] at h22
  refine enter15 ?_
  by_cases hl : offs.length = L.length
  · have hu : 1048576 < un := by omega
    repeat' ((conv => whnf); (first | refine h22 _ ?_ | refine Branch.dt (by omega) ?_ | refine Branch.f rfl ?_ | exact Keep.all h | refine New.mk (fun _ => ?_) | refine Look.at0 ?_ | refine Cell.row ?_ | refine Cell.buf ?_ | refine Cells.row rfl ?_ | refine Put.row rfl ?_ | refine Put.buf rfl ?_ | refine Look.at1 ?_ | refine Look.at2 ?_ | refine Look.at3 ?_ | refine Look.at4 ?_ | refine Look.at5 ?_ | refine Look.at6 ?_ | refine Look.at7 ?_ | refine Look.at8 ?_ | with_reducible refine Val.i64 (by omega) (by omega) ?_ | with_reducible refine Val.u8 (by omega) (by omega) ?_ | with_reducible refine Val.u32 (by omega) (by omega) ?_ | with_reducible refine Val.u64 (by omega) (by omega) ?_ | with_reducible refine Val.u8m ?_ | with_reducible refine Val.u32m ?_ | with_reducible refine Val.u64m ?_ | with_reducible refine Val.shr8 ?_ | with_reducible refine Val.shr16 (by decide) ?_ | with_reducible refine Val.shr24 (by decide) ?_ | with_reducible refine Val.raw ?_ | refine Branch.not ?_ | refine Branch.and ?_ | refine Branch.or ?_ | refine Branch.dt (by assumption) ?_ | refine Branch.df (by assumption) ?_ | refine Branch.dt rfl ?_ | refine Branch.dt (by omega) ?_ | refine Branch.df (by omega) ?_ | refine Branch.t rfl ?_ | refine Branch.f rfl ?_ | refine Branch.t (by assumption) ?_ | refine Branch.f (by assumption) ?_ | refine Branch.d (fun _ => ?_) (fun _ => ?_) | refine Branch.mk (fun _ => ?_) (fun _ => ?_) | refine Need.mk (by first | omega | decide | rfl) ?_ | refine Idx.nat (by omega) ?_ | refine Idx.auto (by first | omega | decide) (by first | omega | decide) ?_ | refine Cell.ro rfl ?_ | refine SDraw.all (by kernel_rfl) ?_ | refine Kept.k0 ?_ | refine Kept.k1 ?_ | refine Kept.k2 ?_ | refine Kept.k3 ?_ | refine Kept.k4 ?_))
  · have hl' : ¬ (offs.length : Int) = (L.length : Int) := by omega
    repeat' ((conv => whnf); (first | refine h22 _ ?_ | refine Branch.df (by omega) ?_ | refine Branch.f rfl ?_ | exact Keep.all h | refine New.mk (fun _ => ?_) | refine Look.at0 ?_ | refine Cell.row ?_ | refine Cell.buf ?_ | refine Cells.row rfl ?_ | refine Put.row rfl ?_ | refine Put.buf rfl ?_ | refine Look.at1 ?_ | refine Look.at2 ?_ | refine Look.at3 ?_ | refine Look.at4 ?_ | refine Look.at5 ?_ | refine Look.at6 ?_ | refine Look.at7 ?_ | refine Look.at8 ?_ | with_reducible refine Val.i64 (by omega) (by omega) ?_ | with_reducible refine Val.u8 (by omega) (by omega) ?_ | with_reducible refine Val.u32 (by omega) (by omega) ?_ | with_reducible refine Val.u64 (by omega) (by omega) ?_ | with_reducible refine Val.u8m ?_ | with_reducible refine Val.u32m ?_ | with_reducible refine Val.u64m ?_ | with_reducible refine Val.shr8 ?_ | with_reducible refine Val.shr16 (by decide) ?_ | with_reducible refine Val.shr24 (by decide) ?_ | with_reducible refine Val.raw ?_ | refine Branch.not ?_ | refine Branch.and ?_ | refine Branch.or ?_ | refine Branch.dt (by assumption) ?_ | refine Branch.df (by assumption) ?_ | refine Branch.dt rfl ?_ | refine Branch.dt (by omega) ?_ | refine Branch.df (by omega) ?_ | refine Branch.t rfl ?_ | refine Branch.f rfl ?_ | refine Branch.t (by assumption) ?_ | refine Branch.f (by assumption) ?_ | refine Branch.d (fun _ => ?_) (fun _ => ?_) | refine Branch.mk (fun _ => ?_) (fun _ => ?_) | refine Need.mk (by first | omega | decide | rfl) ?_ | refine Idx.nat (by omega) ?_ | refine Idx.auto (by first | omega | decide) (by first | omega | decide) ?_ | refine Cell.ro rfl ?_ | refine SDraw.all (by kernel_rfl) ?_ | refine Kept.k0 ?_ | refine Kept.k1 ?_ | refine Kept.k2 ?_ | refine Kept.k3 ?_ | refine Kept.k4 ?_))
def I15a (p un : Nat) (sv ov : Value) (L : List Msg) (offs : List Nat) (H : Heap) (k : Nat) (S : List Value) (H' : Heap) : Prop :=
  k ≤ L.length ∧ ∃ (obs : List Ob) (la : Option Addr) (lc : Nat) (M : Heap), obs.length = k ∧ obs.map Ob.s = (start L offs).take k ∧ (∀ (j : Nat) (x : Ob), obs[j]? = some x → x.k = j) ∧ Grow fR 1 66 (.slice la k lc) (obs.map Ob.r) M ∧ (∀ (j : Nat) (m : Msg) (o : Nat), j < k → L[j]? = some m → offs[j]? = some o → o ≤ m.j) ∧
    S15a sv ov (.int .u64 (un : Int)) (ptr p) sv (.int .i64 (L.length : Int)) (.int .i64 (k : Int)) S ∧ pRow p (.slice la k lc) (.slice none 0 0) (.int .u64 (un : Int)) :: (M ++ (obs.map oRow ++ H)) = H'
theorem c15 (hD : Db H) (hin : InS mC 5 sv H L) (hG : Goods L) (hwf : ∀ m ∈ L, m.wf) (hc : chk L = 0) (hof : InS fU 1 ov H offs) (hlen : offs.length = L.length) (hun : un ≤ 1048576)
    (hK1 : (∀ (j : Nat) (m : Msg) (o : Nat), L[j]? = some m → offs[j]? = some o → o ≤ m.j) → ∀ r ob, Runs un (start L offs) [] 0 (List.replicate L.length 0) r → K (.tuple ⟨[.slice (some ⟨ob, 0, none⟩) L.length L.length, .int .i64 0]⟩) ((ob, .buf 28 (r.map u64) L.length) :: H))
    (hK2 : (∃ (j : Nat) (m : Msg) (o : Nat), L[j]? = some m ∧ offs[j]? = some o ∧ m.j < o) → K (.tuple ⟨[.slice none 0 0, .int .i64 1]⟩) H) : SCalls Tryd.prog 15 [sv, ov, .int .u64 (un : Int)] H K := by
  refine SCalls.keep ?_
  obtain ⟨sa, sc, rfl, hml⟩ := hin.sv
  obtain ⟨oa, oc, rfl, hol⟩ := hof.sv
  have hlen64 := hG.len
  have h22 := fun (K : Value → Heap → Prop) hk => c22 (K := K) hD hin hwf hk
  rw [hc] at h22
  have hsl : (start L offs).length = L.length := by unfold start; rw [List.length_zipWith]; omega
  refine enter15 ?_
  repeat' ((conv => whnf); (first | refine h22 _ ?_ | refine Branch.dt (by omega) ?_ | refine Branch.df (by omega) ?_ | refine Branch.f rfl ?_ | refine New.mk (fun _ => ?_) | refine Look.at0 ?_ | refine Cell.row ?_ | refine Cell.buf ?_ | refine Cells.row rfl ?_ | refine Put.row rfl ?_ | refine Put.buf rfl ?_ | refine Look.at1 ?_ | refine Look.at2 ?_ | refine Look.at3 ?_ | refine Look.at4 ?_ | refine Look.at5 ?_ | refine Look.at6 ?_ | refine Look.at7 ?_ | refine Look.at8 ?_ | with_reducible refine Val.i64 (by omega) (by omega) ?_ | with_reducible refine Val.u8 (by omega) (by omega) ?_ | with_reducible refine Val.u32 (by omega) (by omega) ?_ | with_reducible refine Val.u64 (by omega) (by omega) ?_ | with_reducible refine Val.u8m ?_ | with_reducible refine Val.u32m ?_ | with_reducible refine Val.u64m ?_ | with_reducible refine Val.shr8 ?_ | with_reducible refine Val.shr16 (by decide) ?_ | with_reducible refine Val.shr24 (by decide) ?_ | with_reducible refine Val.raw ?_ | refine Branch.not ?_ | refine Branch.and ?_ | refine Branch.or ?_ | refine Branch.dt (by assumption) ?_ | refine Branch.df (by assumption) ?_ | refine Branch.dt rfl ?_ | refine Branch.dt (by omega) ?_ | refine Branch.df (by omega) ?_ | refine Branch.t rfl ?_ | refine Branch.f rfl ?_ | refine Branch.t (by assumption) ?_ | refine Branch.f (by assumption) ?_ | refine Branch.d (fun _ => ?_) (fun _ => ?_) | refine Branch.mk (fun _ => ?_) (fun _ => ?_) | refine Need.mk (by first | omega | decide | rfl) ?_ | refine Idx.nat (by omega) ?_ | refine Idx.auto (by first | omega | decide) (by first | omega | decide) ?_ | refine Cell.ro rfl ?_ | refine SDraw.all (by kernel_rfl) ?_ | refine Kept.k0 ?_ | refine Kept.k1 ?_ | refine Kept.k2 ?_ | refine Kept.k3 ?_ | refine Kept.k4 ?_))
  rename_i p
  refine SLoop.invA (I15a p un (.slice sa L.length sc) (.slice oa offs.length oc) L offs H) (fun k => L.length - k) 0 (Keep.all ⟨Nat.zero_le _, [], none, 0, [], rfl, by simp, by simp, .nil, fun j _ _ h => absurd h (Nat.not_lt_zero _), .mk, rfl⟩) ?_
  rintro k S H' ⟨hk, obs, la, lc, M, g1, g2, g3, g4, g5, hS, rfl⟩ R hR
  cases hS
  by_cases hlt : k < L.length
  · obtain ⟨m, hx, hdrop, htake⟩ := list_at hlt
    obtain ⟨r, o, c, b, e1, hrb, hcc⟩ := inS_at hin (fun _ => rfl) hx
    injection e1 with e1 _ e3
    subst e1
    obtain ⟨of, hof1⟩ : ∃ of, offs[k]? = some of := ⟨_, List.getElem?_eq_getElem (by omega)⟩
    obtain ⟨o2, oo, c2, b2, e2, hob, hoc⟩ := hof.at1 hof1 rfl
    injection e2 with e2 _ e4
    subst e2
    have hgm := hG.good m (List.mem_of_getElem? hx)
    have hm1 : (r, b) ∈ pRow p (.slice la k lc) (.slice none 0 0) (.int .u64 (un : Int)) :: (M ++ (obs.map oRow ++ H)) := .tail _ (List.mem_append_right _ (List.mem_append_right _ hrb))
    have hm2 : ∀ z : Nat × Blk, (o2, b2) ∈ z :: pRow p (.slice la k lc) (.slice none 0 0) (.int .u64 (un : Int)) :: (M ++ (obs.map oRow ++ H)) := fun z => .tail _ (.tail _ (List.mem_append_right _ (List.mem_append_right _ hob)))
    have hDz : ∀ z : Nat × Blk, Db (z :: pRow p (.slice la k lc) (.slice none 0 0) (.int .u64 (un : Int)) :: (M ++ (obs.map oRow ++ H))) := fun z => hD.mono fun y hy => .tail _ (.tail _ (List.mem_append_right _ (List.mem_append_right _ hy)))
    by_cases hbig : m.j < of
    · have hk2 := hK2 ⟨k, m, of, hx, hof1, hbig⟩
      have hkk : ∀ z : Nat × Blk, Keep (z :: pRow p (.slice la k lc) (.slice none 0 0) (.int .u64 (un : Int)) :: (M ++ (obs.map oRow ++ H))) fun H' => Keep H' fun H'' => K (.tuple ⟨[.slice none 0 0, .int .i64 1]⟩) H'' := fun z => Keep.sub _ (((List.sublist_append_right (obs.map oRow) H).trans (List.sublist_append_right M _)).trans ((List.sublist_cons_self _ _).trans (List.sublist_cons_self _ _))) (Keep.all hk2)
      clear hR
      repeat' ((conv => whnf); (first | refine Look.cells hm1 rfl hcc ?_ | refine Look.cell (hm2 _) hoc ?_ | refine Branch.dt (by omega) ?_ | exact hkk _ | refine New.mk (fun _ => ?_) | refine Look.at0 ?_ | refine Cell.row ?_ | refine Cell.buf ?_ | refine Cells.row rfl ?_ | refine Put.row rfl ?_ | refine Put.buf rfl ?_ | refine Look.at1 ?_ | refine Look.at2 ?_ | refine Look.at3 ?_ | refine Look.at4 ?_ | refine Look.at5 ?_ | refine Look.at6 ?_ | refine Look.at7 ?_ | refine Look.at8 ?_ | with_reducible refine Val.i64 (by omega) (by omega) ?_ | with_reducible refine Val.u8 (by omega) (by omega) ?_ | with_reducible refine Val.u32 (by omega) (by omega) ?_ | with_reducible refine Val.u64 (by omega) (by omega) ?_ | with_reducible refine Val.u8m ?_ | with_reducible refine Val.u32m ?_ | with_reducible refine Val.u64m ?_ | with_reducible refine Val.shr8 ?_ | with_reducible refine Val.shr16 (by decide) ?_ | with_reducible refine Val.shr24 (by decide) ?_ | with_reducible refine Val.raw ?_ | refine Branch.not ?_ | refine Branch.and ?_ | refine Branch.or ?_ | refine Branch.dt (by assumption) ?_ | refine Branch.df (by assumption) ?_ | refine Branch.dt rfl ?_ | refine Branch.dt (by omega) ?_ | refine Branch.df (by omega) ?_ | refine Branch.t rfl ?_ | refine Branch.f rfl ?_ | refine Branch.t (by assumption) ?_ | refine Branch.f (by assumption) ?_ | refine Branch.d (fun _ => ?_) (fun _ => ?_) | refine Branch.mk (fun _ => ?_) (fun _ => ?_) | refine Need.mk (by first | omega | decide | rfl) ?_ | refine Idx.nat (by omega) ?_ | refine Idx.auto (by first | omega | decide) (by first | omega | decide) ?_ | refine Cell.ro rfl ?_ | refine SDraw.all (by kernel_rfl) ?_ | refine Kept.k0 ?_ | refine Kept.k1 ?_ | refine Kept.k2 ?_ | refine Kept.k3 ?_ | refine Kept.k4 ?_))
    · have hnext : ∀ S q c' (sl t11 : Nat × Blk) (oj : Nat), (obs.map Ob.r).length + 1 ≤ c' → c' ≤ maxLen → S15a (.slice (some ⟨r, o, none⟩) L.length sc) (.slice (some ⟨o2, oo, none⟩) offs.length oc) (.int .u64 (un : Int)) (ptr p) (.slice (some ⟨r, o, none⟩) L.length sc) (.int .i64 (L.length : Int)) (.int .i64 ((k + 1 : Nat) : Int)) S →
          R S ((q, .buf 66 ((obs.map Ob.r ++ [oj]).flatMap fR) (c' * 1)) :: sl :: (oj, .row 68 (oCl m k 0 of) (0, 0)) :: t11 :: pRow p (.slice (some ⟨q, 0, none⟩) ((obs.map Ob.r).length + 1) c') (.slice none 0 0) (.int .u64 (un : Int)) :: (obs.map oRow ++ H)) := by
        intro S q c' sl t11 oj h1 h2 h3
        refine hR (k + 1) S _ (by omega) (Keep.glue [[(q, .buf 66 ((obs.map Ob.r ++ [oj]).flatMap fR) (c' * 1))], [sl], [(oj, .row 68 (oCl m k 0 of) (0, 0))], [t11], [pRow p (.slice (some ⟨q, 0, none⟩) ((obs.map Ob.r).length + 1) c') (.slice none 0 0) (.int .u64 (un : Int))], obs.map oRow, H] [0, 1, 2, 3, 4, 5, 6] [4, 0, 5, 2, 6] [1, 3] (by decide) rfl
          ⟨by omega, obs ++ [⟨oj, k, ⟨m, 0, of⟩⟩], some ⟨q, 0, none⟩, c', [(q, .buf 66 ((obs.map Ob.r ++ [oj]).flatMap fR) (c' * 1))], by simp [g1], ?_, ?_, ?_, ?_, h3, ?_⟩)
        · have : (start L offs)[k]? = some ⟨m, 0, of⟩ := by
            unfold start
            rw [List.getElem?_zipWith, hx, hof1]
          rw [List.map_append, g2, List.take_add_one, this]; rfl
        · intro j x hj
          by_cases hjk : j < obs.length
          · rw [List.getElem?_append_left hjk] at hj
            exact g3 j x hj
          · rw [List.getElem?_append_right (by omega)] at hj
            obtain ⟨h5, h6⟩ := List.getElem?_eq_some_iff.1 hj
            simp only [List.length_singleton] at h5
            have : j - obs.length = 0 := by omega
            simp only [this, List.getElem_cons_zero] at h6
            subst h6
            show k = j
            omega
        · rw [List.map_append]
          have hgb := Grow.buf (f := fR) (k := 1) (e := 66) (q := q) (c := c') (L := obs.map Ob.r ++ [oj]) (by simpa using h1) h2
          rw [List.length_append, List.length_map, g1] at hgb
          exact hgb
        · intro j m' o' hj hm' ho'
          rcases Nat.lt_or_ge j k with h | h
          · exact g5 j m' o' h hm' ho'
          · obtain rfl : j = k := by omega
            rw [hx] at hm'
            rw [hof1] at ho'
            injection hm' with hm'
            injection ho' with ho'
            subst hm' ho'
            omega
        · rw [List.length_map, g1, List.map_append, List.append_assoc]
          rfl
      have hob2 : (o2, b2) ∈ obs.map oRow ++ H := List.mem_append_right _ hob
      have hgl : (obs.map Ob.r).length ≤ 64 := by rw [List.length_map]; omega
      clear hR hK1 hK2
      repeat' ((conv => whnf); (first | refine Look.cells hm1 rfl hcc ?_ | refine SDraw.held (by kernel_rfl) [_, _, (o2, b2)] (.same (.head _) (.same (.tail _ (.head _)) (.same (hm2 _) .nil))) ?_ | refine Look.cell (.tail _ (.tail _ (.head _))) hoc ?_ | refine Branch.df (by omega) ?_ | refine c28 hgm.id (hDz _) ?_ | refine RawV.grow1b (A := [_, _, _, _]) (M := M) (bytes := 8) g4 rfl (.head _) rfl (by kernel_rfl) (by decide) (fun _ => rfl) (fun u hu => by obtain rfl := List.mem_singleton.1 hu; rfl) (by simp only [maxLen]; omega) (by omega) (fun q c' k1 k2 => ?_) | refine Kept.mk (.same (.head _) (.same (.tail _ (.head _)) (.same (hm2 _) .nil))) ?_ | refine Kept.mk (.same (.tail _ (.head _)) (.same (.tail _ (.tail _ (.head _))) (.same (.tail _ (hm2 _)) .nil))) ?_ | refine Kept.mk (.same (.tail _ (.tail _ (.head _))) (.same (.tail _ (.tail _ (.tail _ (.head _)))) (.same (.tail _ (.tail _ (hm2 _))) .nil))) ?_ | refine Kept.mk (.same (.tail _ (.tail _ (.tail _ (.head _)))) (.same (.tail _ (.tail _ (.tail _ (.tail _ (.head _))))) (.same (.tail _ (.tail _ (.tail _ (.tail _ (.tail _ hob2))))) .nil))) ?_ | exact hnext _ _ _ _ _ _ k1 k2 .mk | refine New.mk (fun _ => ?_) | refine Look.at0 ?_ | refine Cell.row ?_ | refine Cell.buf ?_ | refine Cells.row rfl ?_ | refine Put.row rfl ?_ | refine Put.buf rfl ?_ | refine Look.at1 ?_ | refine Look.at2 ?_ | refine Look.at3 ?_ | refine Look.at4 ?_ | refine Look.at5 ?_ | refine Look.at6 ?_ | refine Look.at7 ?_ | refine Look.at8 ?_ | with_reducible refine Val.i64 (by omega) (by omega) ?_ | with_reducible refine Val.u8 (by omega) (by omega) ?_ | with_reducible refine Val.u32 (by omega) (by omega) ?_ | with_reducible refine Val.u64 (by omega) (by omega) ?_ | with_reducible refine Val.u8m ?_ | with_reducible refine Val.u32m ?_ | with_reducible refine Val.u64m ?_ | with_reducible refine Val.shr8 ?_ | with_reducible refine Val.shr16 (by decide) ?_ | with_reducible refine Val.shr24 (by decide) ?_ | with_reducible refine Val.raw ?_ | refine Branch.not ?_ | refine Branch.and ?_ | refine Branch.or ?_ | refine Branch.dt (by assumption) ?_ | refine Branch.df (by assumption) ?_ | refine Branch.dt rfl ?_ | refine Branch.dt (by omega) ?_ | refine Branch.df (by omega) ?_ | refine Branch.t rfl ?_ | refine Branch.f rfl ?_ | refine Branch.t (by assumption) ?_ | refine Branch.f (by assumption) ?_ | refine Branch.d (fun _ => ?_) (fun _ => ?_) | refine Branch.mk (fun _ => ?_) (fun _ => ?_) | refine Need.mk (by first | omega | decide | rfl) ?_ | refine Idx.nat (by omega) ?_ | refine Idx.auto (by first | omega | decide) (by first | omega | decide) ?_ | refine Cell.ro rfl ?_ | refine SDraw.all (by kernel_rfl) ?_ | refine Kept.k0 ?_ | refine Kept.k1 ?_ | refine Kept.k2 ?_ | refine Kept.k3 ?_ | refine Kept.k4 ?_))
  · obtain rfl : k = L.length := by omega
    clear hR
    have hall : ∀ (j : Nat) (m : Msg) (o : Nat), L[j]? = some m → offs[j]? = some o → o ≤ m.j := fun j m o h1 h2 => g5 j m o (List.getElem?_eq_some_iff.1 h1).1 h1 h2
    have hinv := start_inv hG hlen hun hall
    obtain ⟨r, hr⟩ := hinv.runs _ (Nat.le_refl _)
    have hk1 := fun ob => hK1 hall r ob hr
    clear hK1 hK2
    rw [← hsl, List.take_length] at g2
    have hlv := fun (H' : Heap) hs => g4.ins (fun _ => rfl) (H := H') hs
    have erep : List.replicate L.length (Value.int .u64 0) = (List.replicate L.length 0).map u64 := by simp [u64]
    repeat' ((conv => whnf); (first | refine RawV.make1 (e := 28) (bytes := 8) (zv := .int .u64 0) rfl (by kernel_rfl) (by kernel_rfl) rfl (by omega) (by simp only [maxLen]; omega) (fun ob => ?_) | refine New.mk (fun _ => ?_) | refine Look.at0 ?_ | refine Cell.row ?_ | refine Cell.buf ?_ | refine Cells.row rfl ?_ | refine Put.row rfl ?_ | refine Put.buf rfl ?_ | refine Look.at1 ?_ | refine Look.at2 ?_ | refine Look.at3 ?_ | refine Look.at4 ?_ | refine Look.at5 ?_ | refine Look.at6 ?_ | refine Look.at7 ?_ | refine Look.at8 ?_ | with_reducible refine Val.i64 (by omega) (by omega) ?_ | with_reducible refine Val.u8 (by omega) (by omega) ?_ | with_reducible refine Val.u32 (by omega) (by omega) ?_ | with_reducible refine Val.u64 (by omega) (by omega) ?_ | with_reducible refine Val.u8m ?_ | with_reducible refine Val.u32m ?_ | with_reducible refine Val.u64m ?_ | with_reducible refine Val.shr8 ?_ | with_reducible refine Val.shr16 (by decide) ?_ | with_reducible refine Val.shr24 (by decide) ?_ | with_reducible refine Val.raw ?_ | refine Branch.not ?_ | refine Branch.and ?_ | refine Branch.or ?_ | refine Branch.dt (by assumption) ?_ | refine Branch.df (by assumption) ?_ | refine Branch.dt rfl ?_ | refine Branch.dt (by omega) ?_ | refine Branch.df (by omega) ?_ | refine Branch.t rfl ?_ | refine Branch.f rfl ?_ | refine Branch.t (by assumption) ?_ | refine Branch.f (by assumption) ?_ | refine Branch.d (fun _ => ?_) (fun _ => ?_) | refine Branch.mk (fun _ => ?_) (fun _ => ?_) | refine Need.mk (by first | omega | decide | rfl) ?_ | refine Idx.nat (by omega) ?_ | refine Idx.auto (by first | omega | decide) (by first | omega | decide) ?_ | refine Cell.ro rfl ?_ | refine SDraw.all (by kernel_rfl) ?_ | refine Kept.k0 ?_ | refine Kept.k1 ?_ | refine Kept.k2 ?_ | refine Kept.k3 ?_ | refine Kept.k4 ?_))
    rename_i ob
    rw [erep]
    refine SLoop.keep (Keep.glue [[(ob, .buf 28 ((List.replicate L.length 0).map u64) L.length), pRow p (.slice la L.length lc) (.slice none 0 0) (.int .u64 (un : Int))], M, obs.map oRow, H] [0, 1, 2, 3] [0, 2, 1, 3] [] (by decide) rfl ?_)
    refine loop15 (H := M ++ H) (hin.mono fun z hz => List.mem_append_right _ hz) (hlv _ fun z hz => List.mem_append_left _ hz) hinv hr g2 rfl g3 .nil (.refl _) (fun k x y h1 h2 => absurd h2 (Nat.not_lt_zero _)) .mk (Keep.sub _ (List.Sublist.cons_cons _ (List.sublist_append_right M H)) (hk1 ob))
end
end Go.Proofs.YtjleekdidedhaaaDoor

/- Layer 25: whether anything is reckoned: by walks. -/
set_option linter.unusedVariables false
set_option linter.unusedSimpArgs false
set_option maxRecDepth 100000
set_option maxHeartbeats 4000000
namespace Go.Proofs.YtjleekdidedhaaaDoor
open Sx
def m0 : Msg := ⟨1, false, 8, 1000, 0⟩
theorem m0_good : Good m0 := ⟨by decide, by decide, by decide, by decide, by decide, by decide, by decide⟩
theorem m0_tm : tm m0 = 135 := by decide
theorem m0_chk : chk [m0] = 0 := m0_good.chk1
theorem m0_goods : Goods [m0] := goods_of (fun m hm => by obtain rfl := List.mem_singleton.1 hm; exact m0_good.wf) m0_chk
theorem m0_worst : worstS [m0] m0 = (270, true) := by
  have hb : wB [m0] m0 = 135 := by
    show (if tlt (fld m0) (fld m0) then max (tm m0) (tm m0) else tm m0) = 135
    rw [show tlt (fld m0) (fld m0) = false from Hp.bl_irr _, m0_tm]; rfl
  have hf : wF [m0] m0 = [] := by
    unfold wF
    rw [List.filter_cons, show tlt (fld m0) (fld m0) = false from Hp.bl_irr _]; rfl
  unfold worstS
  rw [wIter, hb, m0_tm, if_neg (by decide)]
  have hs : wStep [m0] m0 135 = 135 := by unfold wStep; rw [hf, hb]; rfl
  rw [hs, if_pos rfl]; rfl
theorem drA {now a : Nat} (h : a ≤ now) (h2 : a < 3000) (h3 : now < a + 1000) : dr 3000 now ⟨m0, a, a⟩ = ([a], a + 1000, a + 1000) := by
  show drF 1000 3000 now (2999 + 1 + 1) a a = _
  rw [drF, if_pos ⟨h, h2⟩, drF, if_neg (by omega)]
theorem drB {now a : Nat} (h : now < a) : dr 3000 now ⟨m0, a, a⟩ = ([], a, a) := by
  show drF 1000 3000 now (2999 + 1 + 1) a a = _
  rw [drF, if_neg (by omega)]
theorem stA {now a v : Nat} {r : List Nat} (h : a ≤ now) (h2 : a < 3000) (h3 : now < a + 1000) (hI : PInv 3000 [m0] [⟨m0, a, a⟩] [] now [v]) (hr : Runs 3000 [⟨m0, a, a⟩] [] now [v] r) :
    PInv 3000 [m0] [⟨m0, a + 1000, a + 1000⟩] [] (now + 135) [max v (now + 135 - a)] ∧ Runs 3000 [⟨m0, a + 1000, a + 1000⟩] [] (now + 135) [max v (now + 135 - a)] r := by
  have hd := drA h h2 h3
  have hw : [] ++ wants 3000 now 0 [⟨m0, a, a⟩] = [⟨0, fld m0, a⟩] := by
    show (dr 3000 now ⟨m0, a, a⟩).1.map (fun a => (⟨0, fld m0, a⟩ : Wn)) ++ [] = _
    rw [hd]; rfl
  have hs : [(⟨m0, a, a⟩ : Sr)].map (drS 3000 now) = [⟨m0, a + 1000, a + 1000⟩] := by
    show [(⟨m0, (dr 3000 now ⟨m0, a, a⟩).2.1, (dr 3000 now ⟨m0, a, a⟩).2.2⟩ : Sr)] = _
    rw [hd]
  rcases runs_cases hI hr with ⟨c1, _⟩ | ⟨t, c1, _⟩ | ⟨w, s, c1, c2, c3, c4, c5, c6⟩
  · rw [hw] at c1; cases c1
  · rw [hw] at c1; cases c1
  · rw [hw] at c1 c4 c5
    rw [hs] at c4 c5
    have e1 : w = ⟨0, fld m0, a⟩ := by
      have : some (⟨0, fld m0, a⟩ : Wn) = some w := c1
      injection this with this
      exact this.symm
    subst e1
    have e2 : s = ⟨m0, a, a⟩ := by
      have : some (⟨m0, a, a⟩ : Sr) = some s := c2
      injection this with this
      exact this.symm
    subst e2
    rw [show tm (Sr.mk m0 a a).m = 135 from m0_tm] at c4 c5
    exact ⟨c5, c4⟩
theorem stB {now a v : Nat} {r : List Nat} (h : now < a) (hI : PInv 3000 [m0] [⟨m0, a, a⟩] [] now [v]) (hr : Runs 3000 [⟨m0, a, a⟩] [] now [v] r) :
    (a < 3000 → PInv 3000 [m0] [⟨m0, a, a⟩] [] a [v] ∧ Runs 3000 [⟨m0, a, a⟩] [] a [v] r) ∧ (¬ a < 3000 → r = [v]) := by
  have hd := drB h
  have hw : [] ++ wants 3000 now 0 [⟨m0, a, a⟩] = [] := by
    show (dr 3000 now ⟨m0, a, a⟩).1.map (fun a => (⟨0, fld m0, a⟩ : Wn)) ++ [] = _
    rw [hd]; rfl
  have hs : [(⟨m0, a, a⟩ : Sr)].map (drS 3000 now) = [⟨m0, a, a⟩] := by
    show [(⟨m0, (dr 3000 now ⟨m0, a, a⟩).2.1, (dr 3000 now ⟨m0, a, a⟩).2.2⟩ : Sr)] = _
    rw [hd]
  have hn : nxt 3000 [(⟨m0, a, a⟩ : Sr)] = if a < 3000 then (a, true) else (0, false) := by
    show nxtK 3000 (0, false) ⟨m0, a, a⟩ = _
    unfold nxtK
    by_cases ha : a < 3000
    · rw [if_pos ⟨ha, .inl rfl⟩, if_pos ha]
    · rw [if_neg (fun h => ha h.1), if_neg ha]
  rcases runs_cases hI hr with ⟨c1, c2, c3⟩ | ⟨t, c1, c2, c3, c4, _⟩ | ⟨w, s, c1, c2, c3, c4, c5, c6⟩
  · rw [hs, hn] at c2
    refine ⟨fun ha => ?_, fun _ => c3.symm⟩
    rw [if_pos ha] at c2; cases c2
  · rw [hs, hn] at c2
    rw [hs] at c3 c4
    by_cases ha : a < 3000
    · rw [if_pos ha] at c2
      injection c2 with c2
      subst c2
      exact ⟨fun _ => ⟨c4, c3⟩, fun h => absurd ha h⟩
    · rw [if_neg ha] at c2; cases c2
  · rw [hw] at c1; cases c1
theorem m0_play {r : List Nat} (hr : Runs 3000 (start [m0] [0]) [] 0 (List.replicate [m0].length 0) r) : r = [135] := by
  have hI := start_inv (un := 3000) m0_goods (offs := [0]) rfl (by decide) (fun j m o h1 h2 => by
    match j, h1, h2 with
    | 0, h1, h2 =>
      injection h2 with h2
      subst h2
      exact Nat.zero_le _)
  obtain ⟨i1, r1⟩ := stA (a := 0) (now := 0) (v := 0) (by decide) (by decide) (by decide) hI hr
  obtain ⟨i2, r2⟩ := (stB (by decide) i1 r1).1 (by decide)
  obtain ⟨i3, r3⟩ := stA (by decide) (by decide) (by decide) i2 r2
  obtain ⟨i4, r4⟩ := (stB (by decide) i3 r3).1 (by decide)
  obtain ⟨i5, r5⟩ := stA (by decide) (by decide) (by decide) i4 r4
  exact (stB (by decide) i5 r5).2 (by decide)
section
variable {K : Value → Heap → Prop} {H : Heap}
theorem c10 (hD : Db H) (hK : K (.bool true) H) : SCalls Tryd.prog 10 [] H K := by
  refine enter10 (_u := undef) ?_
  have hin : ∀ q (X : Heap), InS mC 5 (.slice (some ⟨q, 0, none⟩) 1 1) ((q, .row 30 [.int .u32 1, .bool false, .int .i64 8, .int .u64 1000, .int .u64 0] (0, 0)) :: X) [m0] := fun q X => InS.row (L := [m0]) (.head _) rfl (fun _ => rfl) (by show 1 ≤ maxLen; decide)
  have hwf : ∀ m ∈ [m0], m.wf := fun m hm => by obtain rfl := List.mem_singleton.1 hm; exact m0_good.wf
  have h11 : ∀ q (K2 : Value → Heap → Prop), K2 (.tuple ⟨[.int .u64 270, .bool true, .int .i64 0]⟩) ((q, .row 30 [.int .u32 1, .bool false, .int .i64 8, .int .u64 1000, .int .u64 0] (0, 0)) :: H) → SCalls Tryd.prog 11 [.slice (some ⟨q, 0, none⟩) 1 1, .int .i64 0] ((q, .row 30 [.int .u32 1, .bool false, .int .i64 8, .int .u64 1000, .int .u64 0] (0, 0)) :: H) K2 :=
    fun q K2 hk => c11 (i := 0) (L := [m0]) (m := m0) (hD.mono fun p hp => .tail _ hp) (hin q H) m0_goods hwf m0_chk rfl (by rw [m0_worst]; exact hk)
  have h15 : ∀ q q2 (K2 : Value → Heap → Prop), (∀ ob, K2 (.tuple ⟨[.slice (some ⟨ob, 0, none⟩) 1 1, .int .i64 0]⟩) ((ob, .buf 28 [.int .u64 135] 1) :: (q2, .row 28 [.int .u64 0] (0, 0)) :: (q, .row 30 [.int .u32 1, .bool false, .int .i64 8, .int .u64 1000, .int .u64 0] (0, 0)) :: H)) → SCalls Tryd.prog 15 [.slice (some ⟨q, 0, none⟩) 1 1, .slice (some ⟨q2, 0, none⟩) 1 1, .int .u64 3000] ((q2, .row 28 [.int .u64 0] (0, 0)) :: (q, .row 30 [.int .u32 1, .bool false, .int .i64 8, .int .u64 1000, .int .u64 0] (0, 0)) :: H) K2 := by
    intro q q2 K2 hk
    refine c15 (un := 3000) (L := [m0]) (offs := [0]) (hD.mono fun p hp => .tail _ (.tail _ hp)) ((hin q H).mono fun p hp => .tail _ hp) m0_goods hwf m0_chk (InS.row (f := fU) (L := [0]) (.head _) rfl (fun _ => rfl) (by show 1 ≤ maxLen; decide)) rfl (by decide) (fun _ r ob hr => ?_) (fun ⟨j, m, o, h1, h2, h3⟩ => ?_)
    · obtain rfl := m0_play hr
      exact hk ob
    · match j, h1, h2 with
      | 0, h1, h2 =>
        injection h2 with h2
        subst h2
        exact absurd h3 (Nat.not_lt_zero _)
  repeat' ((conv => whnf); (first | refine h11 _ _ ?_ | refine h15 _ _ _ (fun ob => ?_) | exact Keep.d3 hK | refine New.mk (fun _ => ?_) | refine Look.at0 ?_ | refine Cell.row ?_ | refine Cell.buf ?_ | refine Cells.row rfl ?_ | refine Put.row rfl ?_ | refine Put.buf rfl ?_ | refine Look.at1 ?_ | refine Look.at2 ?_ | refine Look.at3 ?_ | refine Look.at4 ?_ | refine Look.at5 ?_ | refine Look.at6 ?_ | refine Look.at7 ?_ | refine Look.at8 ?_ | with_reducible refine Val.i64 (by omega) (by omega) ?_ | with_reducible refine Val.u8 (by omega) (by omega) ?_ | with_reducible refine Val.u32 (by omega) (by omega) ?_ | with_reducible refine Val.u64 (by omega) (by omega) ?_ | with_reducible refine Val.u8m ?_ | with_reducible refine Val.u32m ?_ | with_reducible refine Val.u64m ?_ | with_reducible refine Val.shr8 ?_ | with_reducible refine Val.shr16 (by decide) ?_ | with_reducible refine Val.shr24 (by decide) ?_ | with_reducible refine Val.raw ?_ | refine Branch.not ?_ | refine Branch.and ?_ | refine Branch.or ?_ | refine Branch.dt (by assumption) ?_ | refine Branch.df (by assumption) ?_ | refine Branch.dt rfl ?_ | refine Branch.dt (by omega) ?_ | refine Branch.df (by omega) ?_ | refine Branch.t rfl ?_ | refine Branch.f rfl ?_ | refine Branch.t (by assumption) ?_ | refine Branch.f (by assumption) ?_ | refine Branch.d (fun _ => ?_) (fun _ => ?_) | refine Branch.mk (fun _ => ?_) (fun _ => ?_) | refine Need.mk (by first | omega | decide | rfl) ?_ | refine Idx.nat (by omega) ?_ | refine Idx.auto (by first | omega | decide) (by first | omega | decide) ?_ | refine Cell.ro rfl ?_ | refine SDraw.all (by kernel_rfl) ?_ | refine Kept.k0 ?_ | refine Kept.k1 ?_ | refine Kept.k2 ?_ | refine Kept.k3 ?_ | refine Kept.k4 ?_))
end
end Go.Proofs.YtjleekdidedhaaaDoor

/- Layer 25: LoadReckons: by walks. -/
set_option linter.unusedVariables false
set_option linter.unusedSimpArgs false
set_option maxRecDepth 100000
set_option maxHeartbeats 4000000
namespace Go.Proofs.YtjleekdidedhaaaDoor
open Sx
inductive S7 (A0 A1 A5 A6 A7 A8 A9 A10 A11 A12 A13 A14 A15 : Value) : List Value → Prop
  | mk {r2 r3 r4 r16 r17 r18 r19 r20 r21 r22 r23 r24 r25 r26 r27 r28 r29 r30 r31 r32 r33 r34 r35 r36 r37 r38 r39 r40 r41 r42 r43 r44 r45 r46 r47 r48 r49 r50 r51 r52 r53 r54 r55 r56 r57 r58 r59 r60 r61 r62 r63 r64 r65 r66 r67 r68 r69 r70 r71 r72 r73 r74 r75 r76 r77 r78 r79 r80 r81 r82 r83 r84 r85 r86 r87 r88 r89 r90 r91 r92 r93 r94 r95 r96 r97 r98 r99 r100 r101 r102 r103 r104 r105 r106 r107 r108 r109 r110 r111 r112 r113 r114 r115 r116 r117 r118 r119 r120 r121 r122 r123 r124 r125 r126 r127 r128 r129 r130 r131 r132 r133 r134 r135 r136 r137 r138 r139 r140 r141 r142 r143 r144 r145 r146 r147 r148 r149 r150 r151 r152 r153 r154 r155 r156 r157 r158 r159 r160 r161 r162 r163 r164 r165 r166 r167 r168 r169 r170 r171 r172 r173 r174 r175 r176 r177 r178 r179 r180 r181 r182 r183 r184 r185 : Value} : S7 A0 A1 A5 A6 A7 A8 A9 A10 A11 A12 A13 A14 A15 [A0, A1, r2, r3, r4, A5, A6, A7, A8, A9, A10, A11, A12, A13, A14, A15, r16, r17, r18, r19, r20, r21, r22, r23, r24, r25, r26, r27, r28, r29, r30, r31, r32, r33, r34, r35, r36, r37, r38, r39, r40, r41, r42, r43, r44, r45, r46, r47, r48, r49, r50, r51, r52, r53, r54, r55, r56, r57, r58, r59, r60, r61, r62, r63, r64, r65, r66, r67, r68, r69, r70, r71, r72, r73, r74, r75, r76, r77, r78, r79, r80, r81, r82, r83, r84, r85, r86, r87, r88, r89, r90, r91, r92, r93, r94, r95, r96, r97, r98, r99, r100, r101, r102, r103, r104, r105, r106, r107, r108, r109, r110, r111, r112, r113, r114, r115, r116, r117, r118, r119, r120, r121, r122, r123, r124, r125, r126, r127, r128, r129, r130, r131, r132, r133, r134, r135, r136, r137, r138, r139, r140, r141, r142, r143, r144, r145, r146, r147, r148, r149, r150, r151, r152, r153, r154, r155, r156, r157, r158, r159, r160, r161, r162, r163, r164, r165, r166, r167, r168, r169, r170, r171, r172, r173, r174, r175, r176, r177, r178, r179, r180, r181, r182, r183, r184, r185]
section
variable {K : Value → Heap → Prop} {H : Heap} {sv : Value} {L : List Msg}
abbrev bufR (q c : Nat) (L : List Msg) : Nat × Blk := (q, .buf 30 (L.flatMap mC) (c * 5))
theorem buf_in {q c : Nat} {X : Heap} (hml : L.length ≤ maxLen) : InS mC 5 (.slice (some ⟨q, 0, none⟩) L.length c) (bufR q c L :: X) L := InS.buf (.head _) rfl (fun _ => rfl) hml
def I7 (sv : Value) (i wn : Int) (wb : Bool) (wf : Int) (L : List Msg) (H : Heap) (k : Nat) (S : List Value) (H' : Heap) : Prop :=
  k ≤ L.length ∧ S7 sv (.int .i64 i) (.int .i64 0) (.int .u64 wn) (.bool wb) (.int .i64 wf) (.bool (fitsS L)) (.int .i64 0) (.int .u64 (busyS L : Int)) (.int .i64 0) (.bool ((L.take k).all fun m => (worstS L m).2)) (.int .u64 (((L.take k).foldl bAdd 0 : Nat) : Int)) (.int .i64 (k : Int)) S ∧ H' = H
theorem reckons_c {i : Int} (hD : Db H) (hin : InS mC 5 sv H L) (hb : L.length * 32 ≤ 140737488355328) (hwf : ∀ m ∈ L, m.wf) : SCalls Tryd.prog 7 [sv, .int .i64 i] H fun v _ => v = .bool true := by
  obtain ⟨sa, sc, rfl, hml⟩ := hin.sv
  have hml2 : L.length ≤ 4398046511104 := by omega
  by_cases hc : chk L = 0
  · have hG := goods_of hwf hc
    have h64 := hG.len
    have h16 : ∀ (X : Heap) (K2 : Value → Heap → Prop), InS mC 5 (.slice sa L.length sc) X L → K2 (.int .i64 0) X → SCalls Tryd.prog 16 [.slice sa L.length sc] X K2 := fun X K2 h1 h2 => c16 h1 hwf (by rw [hc]; exact h2)
    have h8 : ∀ (q c : Nat) (X : Heap) (K2 : Value → Heap → Prop), Db X → K2 (.int .i64 0) (bufR q c L :: X) → SCalls Tryd.prog 8 [.slice (some ⟨q, 0, none⟩) L.length c] (bufR q c L :: X) K2 := fun q c X K2 h1 h2 => c8 (h1.mono fun _ hz => .tail _ hz) (buf_in hml) hwf (by rw [hc]; exact h2)
    obtain ⟨wn, wb, wf, h11, hres⟩ : ∃ (wn : Int) (wb : Bool) (wf : Int), (∀ (q c : Nat) (X : Heap) (K2 : Value → Heap → Prop), Db X → K2 (.tuple ⟨[.int .u64 wn, .bool wb, .int .i64 wf]⟩) (bufR q c L :: X) → SCalls Tryd.prog 11 [.slice (some ⟨q, 0, none⟩) L.length c, .int .i64 i] (bufR q c L :: X) K2) ∧
        (((i < 0 ∨ (L.length : Int) ≤ i) ∧ wn = 0 ∧ wb = false ∧ wf = 1) ∨ ∃ (n : Nat) (m : Msg), i = (n : Int) ∧ L[n]? = some m ∧ wn = ((worstS L m).1 : Int) ∧ wb = (worstS L m).2 ∧ wf = 0) := by
      by_cases hi : i < 0 ∨ (L.length : Int) ≤ i
      · exact ⟨0, false, 1, fun q c X K2 h1 h2 => c11r (h1.mono fun _ hz => .tail _ hz) (buf_in hml) hwf hc hi h2, .inl ⟨hi, rfl, rfl, rfl⟩⟩
      · obtain ⟨n, rfl⟩ : ∃ n : Nat, i = (n : Int) := ⟨i.toNat, by omega⟩
        have hx := List.getElem?_eq_getElem (show n < L.length by omega)
        exact ⟨_, _, 0, fun q c X K2 h1 h2 => c11 (h1.mono fun _ hz => .tail _ hz) (buf_in hml) hG hwf hc hx h2, .inr ⟨n, _, rfl, hx, rfl, rfl, rfl⟩⟩
    have h19 : ∀ (q c : Nat) (X : Heap) (K2 : Value → Heap → Prop), Db X → K2 (.tuple ⟨[.bool (fitsS L), .int .i64 0]⟩) (bufR q c L :: X) → SCalls Tryd.prog 19 [.slice (some ⟨q, 0, none⟩) L.length c] (bufR q c L :: X) K2 := fun q c X K2 h1 h2 => c19 (h1.mono fun _ hz => .tail _ hz) (buf_in hml) hG hwf hc h2
    have h20 : ∀ (q c : Nat) (X : Heap) (K2 : Value → Heap → Prop), Db X → K2 (.tuple ⟨[.int .u64 (busyS L : Int), .int .i64 0]⟩) (bufR q c L :: X) → SCalls Tryd.prog 20 [.slice (some ⟨q, 0, none⟩) L.length c] (bufR q c L :: X) K2 := fun q c X K2 h1 h2 => c20 (h1.mono fun _ hz => .tail _ hz) (buf_in hml) hG hwf hc h2
    refine enter7 ?_
    repeat' ((conv => whnf); (first | refine h16 _ _ hin ?_ | refine c9 (hin.mono fun z hz => by simp only [List.mem_cons, hz, or_true]) hb (fun q c k1 k2 => ?_) | refine h8 _ _ _ _ (hD.mono fun z hz => by simp only [List.mem_cons, hz, or_true]) ?_ | refine h11 _ _ _ _ (hD.mono fun z hz => by simp only [List.mem_cons, hz, or_true]) ?_ | refine h19 _ _ _ _ (hD.mono fun z hz => by simp only [List.mem_cons, hz, or_true]) ?_ | refine h20 _ _ _ _ (hD.mono fun z hz => by simp only [List.mem_cons, hz, or_true]) ?_ | refine Branch.f rfl ?_ | refine New.mk (fun _ => ?_) | refine Look.at0 ?_ | refine Cell.row ?_ | refine Cell.buf ?_ | refine Cells.row rfl ?_ | refine Put.row rfl ?_ | refine Put.buf rfl ?_ | refine Look.at1 ?_ | refine Look.at2 ?_ | refine Look.at3 ?_ | refine Look.at4 ?_ | refine Look.at5 ?_ | refine Look.at6 ?_ | refine Look.at7 ?_ | refine Look.at8 ?_ | with_reducible refine Val.i64 (by omega) (by omega) ?_ | with_reducible refine Val.u8 (by omega) (by omega) ?_ | with_reducible refine Val.u32 (by omega) (by omega) ?_ | with_reducible refine Val.u64 (by omega) (by omega) ?_ | with_reducible refine Val.u8m ?_ | with_reducible refine Val.u32m ?_ | with_reducible refine Val.u64m ?_ | with_reducible refine Val.shr8 ?_ | with_reducible refine Val.shr16 (by decide) ?_ | with_reducible refine Val.shr24 (by decide) ?_ | with_reducible refine Val.raw ?_ | refine Branch.not ?_ | refine Branch.and ?_ | refine Branch.or ?_ | refine Branch.dt (by assumption) ?_ | refine Branch.df (by assumption) ?_ | refine Branch.dt rfl ?_ | refine Branch.dt (by omega) ?_ | refine Branch.df (by omega) ?_ | refine Branch.t rfl ?_ | refine Branch.f rfl ?_ | refine Branch.t (by assumption) ?_ | refine Branch.f (by assumption) ?_ | refine Branch.d (fun _ => ?_) (fun _ => ?_) | refine Branch.mk (fun _ => ?_) (fun _ => ?_) | refine Need.mk (by first | omega | decide | rfl) ?_ | refine Idx.nat (by omega) ?_ | refine Idx.auto (by first | omega | decide) (by first | omega | decide) ?_ | refine Cell.ro rfl ?_ | refine SDraw.all (by kernel_rfl) ?_ | refine Kept.k0 ?_ | refine Kept.k1 ?_ | refine Kept.k2 ?_ | refine Kept.k3 ?_ | refine Kept.k4 ?_))
    refine SLoop.invA (I7 (.slice sa L.length sc) i wn wb wf L H) (fun k => L.length - k) 0 (Keep.d4 ⟨Nat.zero_le _, .mk, rfl⟩) ?_
    rintro k S H' ⟨hk, hS, rfl⟩ R hR
    cases hS
    by_cases hlt : k < L.length
    · obtain ⟨y, hx, hdrop, htake⟩ := list_at hlt
      obtain ⟨r2, o2, c2, b2, e1, hrb2, hc2⟩ := inS_at hin (fun _ => rfl) hx
      injection e1 with e1 _ e3
      subst e1
      have hgy := hG.good y (List.mem_of_getElem? hx)
      have hyt := hgy.tm
      have hyp := hgy.p1
      have hd3 := hc2 3 _ rfl
      have hsum := bAdd_b (L.take k) 0 (fun z hz => hG.good z (List.mem_of_mem_take hz))
      have hlk : (L.take k).length ≤ 64 := Nat.le_trans (List.length_take_le _ _) (by omega)
      have h21 := fun (K : Value → Heap → Prop) hk => c21 (K := K) hin hG hx hk
      have hnext := fun S (q : Bool) (hq : q = ((L.take (k + 1)).all fun m => (worstS L m).2)) (hS : S7 (.slice (some ⟨r2, o2, none⟩) L.length sc) (.int .i64 i) (.int .i64 0) (.int .u64 wn) (.bool wb) (.int .i64 wf) (.bool (fitsS L)) (.int .i64 0) (.int .u64 (busyS L : Int)) (.int .i64 0) (.bool q) (.int .u64 ((bAdd ((L.take k).foldl bAdd 0) y : Nat) : Int)) (.int .i64 ((k + 1 : Nat) : Int)) S) => hR (k + 1) S H' (by omega) (Keep.all ⟨by omega, by rw [← hq, htake, List.foldl_append]; exact hS, rfl⟩)
      clear hR
      have hall : ((L.take (k + 1)).all fun m => (worstS L m).2) = (((L.take k).all fun m => (worstS L m).2) && (worstS L y).2) := by
        rw [htake, List.all_append]; simp
      rw [hall] at hnext
      generalize (L.take k).foldl bAdd 0 = acc at *
      generalize ((L.take k).all fun m => (worstS L m).2) = al at *
      have hd : tm y * 1000 / y.p ≤ 160000 := Nat.le_trans (Nat.div_le_self _ _) (by omega)
      have hv1 : IntKind.u64.wrap ((tm y : Int) * 1000) = ((tm y * 1000 : Nat) : Int) := by
        rw [show (tm y : Int) * 1000 = ((tm y * 1000 : Nat) : Int) by omega]
        exact wrap_nat rfl (by show _ < 18446744073709551616; omega)
      have hv2 : IntKind.u64.wrap (((tm y * 1000 : Nat) : Int).tdiv (y.p : Int)) = ((tm y * 1000 / y.p : Nat) : Int) := by
        rw [Int.tdiv_eq_ediv_of_nonneg (by omega), ← Int.natCast_ediv]
        exact wrap_nat rfl (by show _ < 18446744073709551616; omega)
      have hv3 : IntKind.u64.wrap ((acc : Int) + ((tm y * 1000 / y.p : Nat) : Int)) = ((bAdd acc y : Nat) : Int) := by
        rw [← Int.natCast_add]
        exact wrap_nat rfl (by show _ < 18446744073709551616; omega)
      cases al with
      | true =>
        repeat' ((conv => whnf); (first | refine Look.cells hrb2 rfl hc2 ?_ | refine Look.cell hrb2 hd3 ?_ | refine c14 hD hgy ?_ | refine t12 hgy ?_ | refine h21 _ ?_ | refine Branch.df (fun h => h rfl) ?_ | with_reducible refine Val.to _ hv1 ?_ | with_reducible refine Val.to _ hv2 ?_ | with_reducible refine Val.to _ hv3 ?_ | exact hnext _ _ rfl .mk | refine New.mk (fun _ => ?_) | refine Look.at0 ?_ | refine Cell.row ?_ | refine Cell.buf ?_ | refine Cells.row rfl ?_ | refine Put.row rfl ?_ | refine Put.buf rfl ?_ | refine Look.at1 ?_ | refine Look.at2 ?_ | refine Look.at3 ?_ | refine Look.at4 ?_ | refine Look.at5 ?_ | refine Look.at6 ?_ | refine Look.at7 ?_ | refine Look.at8 ?_ | with_reducible refine Val.i64 (by omega) (by omega) ?_ | with_reducible refine Val.u8 (by omega) (by omega) ?_ | with_reducible refine Val.u32 (by omega) (by omega) ?_ | with_reducible refine Val.u64 (by omega) (by omega) ?_ | with_reducible refine Val.u8m ?_ | with_reducible refine Val.u32m ?_ | with_reducible refine Val.u64m ?_ | with_reducible refine Val.shr8 ?_ | with_reducible refine Val.shr16 (by decide) ?_ | with_reducible refine Val.shr24 (by decide) ?_ | with_reducible refine Val.raw ?_ | refine Branch.not ?_ | refine Branch.and ?_ | refine Branch.or ?_ | refine Branch.dt (by assumption) ?_ | refine Branch.df (by assumption) ?_ | refine Branch.dt rfl ?_ | refine Branch.dt (by omega) ?_ | refine Branch.df (by omega) ?_ | refine Branch.t rfl ?_ | refine Branch.f rfl ?_ | refine Branch.t (by assumption) ?_ | refine Branch.f (by assumption) ?_ | refine Branch.d (fun _ => ?_) (fun _ => ?_) | refine Branch.mk (fun _ => ?_) (fun _ => ?_) | refine Need.mk (by first | omega | decide | rfl) ?_ | refine Idx.nat (by omega) ?_ | refine Idx.auto (by first | omega | decide) (by first | omega | decide) ?_ | refine Cell.ro rfl ?_ | refine SDraw.all (by kernel_rfl) ?_ | refine Kept.k0 ?_ | refine Kept.k1 ?_ | refine Kept.k2 ?_ | refine Kept.k3 ?_ | refine Kept.k4 ?_))
      | false =>
        repeat' ((conv => whnf); (first | refine Look.cells hrb2 rfl hc2 ?_ | refine Look.cell hrb2 hd3 ?_ | refine c14 hD hgy ?_ | refine t12 hgy ?_ | refine h21 _ ?_ | refine Branch.df (fun h => h rfl) ?_ | with_reducible refine Val.to _ hv1 ?_ | with_reducible refine Val.to _ hv2 ?_ | with_reducible refine Val.to _ hv3 ?_ | exact hnext _ _ rfl .mk | refine New.mk (fun _ => ?_) | refine Look.at0 ?_ | refine Cell.row ?_ | refine Cell.buf ?_ | refine Cells.row rfl ?_ | refine Put.row rfl ?_ | refine Put.buf rfl ?_ | refine Look.at1 ?_ | refine Look.at2 ?_ | refine Look.at3 ?_ | refine Look.at4 ?_ | refine Look.at5 ?_ | refine Look.at6 ?_ | refine Look.at7 ?_ | refine Look.at8 ?_ | with_reducible refine Val.i64 (by omega) (by omega) ?_ | with_reducible refine Val.u8 (by omega) (by omega) ?_ | with_reducible refine Val.u32 (by omega) (by omega) ?_ | with_reducible refine Val.u64 (by omega) (by omega) ?_ | with_reducible refine Val.u8m ?_ | with_reducible refine Val.u32m ?_ | with_reducible refine Val.u64m ?_ | with_reducible refine Val.shr8 ?_ | with_reducible refine Val.shr16 (by decide) ?_ | with_reducible refine Val.shr24 (by decide) ?_ | with_reducible refine Val.raw ?_ | refine Branch.not ?_ | refine Branch.and ?_ | refine Branch.or ?_ | refine Branch.dt (by assumption) ?_ | refine Branch.df (by assumption) ?_ | refine Branch.dt rfl ?_ | refine Branch.dt (by omega) ?_ | refine Branch.df (by omega) ?_ | refine Branch.t rfl ?_ | refine Branch.f rfl ?_ | refine Branch.t (by assumption) ?_ | refine Branch.f (by assumption) ?_ | refine Branch.d (fun _ => ?_) (fun _ => ?_) | refine Branch.mk (fun _ => ?_) (fun _ => ?_) | refine Need.mk (by first | omega | decide | rfl) ?_ | refine Idx.nat (by omega) ?_ | refine Idx.auto (by first | omega | decide) (by first | omega | decide) ?_ | refine Cell.ro rfl ?_ | refine SDraw.all (by kernel_rfl) ?_ | refine Kept.k0 ?_ | refine Kept.k1 ?_ | refine Kept.k2 ?_ | refine Kept.k3 ?_ | refine Kept.k4 ?_))
    · obtain rfl : k = L.length := by omega
      rw [List.take_length]
      clear hR
      have hfit : (L.all fun m => (worstS L m).2) = fitsS L := rfl
      have hbus : L.foldl bAdd 0 = busyS L := rfl
      rw [hfit, hbus]
      have hbb : (!decide ((busyS L : Int) = (busyS L : Int))) = false := by simp
      rcases hres with ⟨hi, rfl, rfl, rfl⟩ | ⟨n, m, rfl, hx, rfl, rfl, rfl⟩
      · have hvv : decide ((0 : Int) = 0) = true := rfl
        cases hf : fitsS L with
        | true =>
          repeat' ((conv => whnf); (first | refine Branch.f hbb ?_ | refine Branch.t hvv ?_ | refine c10 hD ?_ | exact Keep.all rfl | refine New.mk (fun _ => ?_) | refine Look.at0 ?_ | refine Cell.row ?_ | refine Cell.buf ?_ | refine Cells.row rfl ?_ | refine Put.row rfl ?_ | refine Put.buf rfl ?_ | refine Look.at1 ?_ | refine Look.at2 ?_ | refine Look.at3 ?_ | refine Look.at4 ?_ | refine Look.at5 ?_ | refine Look.at6 ?_ | refine Look.at7 ?_ | refine Look.at8 ?_ | with_reducible refine Val.i64 (by omega) (by omega) ?_ | with_reducible refine Val.u8 (by omega) (by omega) ?_ | with_reducible refine Val.u32 (by omega) (by omega) ?_ | with_reducible refine Val.u64 (by omega) (by omega) ?_ | with_reducible refine Val.u8m ?_ | with_reducible refine Val.u32m ?_ | with_reducible refine Val.u64m ?_ | with_reducible refine Val.shr8 ?_ | with_reducible refine Val.shr16 (by decide) ?_ | with_reducible refine Val.shr24 (by decide) ?_ | with_reducible refine Val.raw ?_ | refine Branch.not ?_ | refine Branch.and ?_ | refine Branch.or ?_ | refine Branch.dt (by assumption) ?_ | refine Branch.df (by assumption) ?_ | refine Branch.dt rfl ?_ | refine Branch.dt (by omega) ?_ | refine Branch.df (by omega) ?_ | refine Branch.t rfl ?_ | refine Branch.f rfl ?_ | refine Branch.t (by assumption) ?_ | refine Branch.f (by assumption) ?_ | refine Branch.d (fun _ => ?_) (fun _ => ?_) | refine Branch.mk (fun _ => ?_) (fun _ => ?_) | refine Need.mk (by first | omega | decide | rfl) ?_ | refine Idx.nat (by omega) ?_ | refine Idx.auto (by first | omega | decide) (by first | omega | decide) ?_ | refine Cell.ro rfl ?_ | refine SDraw.all (by kernel_rfl) ?_ | refine Kept.k0 ?_ | refine Kept.k1 ?_ | refine Kept.k2 ?_ | refine Kept.k3 ?_ | refine Kept.k4 ?_))
        | false =>
          repeat' ((conv => whnf); (first | refine Branch.f hbb ?_ | refine Branch.t hvv ?_ | refine c10 hD ?_ | exact Keep.all rfl | refine New.mk (fun _ => ?_) | refine Look.at0 ?_ | refine Cell.row ?_ | refine Cell.buf ?_ | refine Cells.row rfl ?_ | refine Put.row rfl ?_ | refine Put.buf rfl ?_ | refine Look.at1 ?_ | refine Look.at2 ?_ | refine Look.at3 ?_ | refine Look.at4 ?_ | refine Look.at5 ?_ | refine Look.at6 ?_ | refine Look.at7 ?_ | refine Look.at8 ?_ | with_reducible refine Val.i64 (by omega) (by omega) ?_ | with_reducible refine Val.u8 (by omega) (by omega) ?_ | with_reducible refine Val.u32 (by omega) (by omega) ?_ | with_reducible refine Val.u64 (by omega) (by omega) ?_ | with_reducible refine Val.u8m ?_ | with_reducible refine Val.u32m ?_ | with_reducible refine Val.u64m ?_ | with_reducible refine Val.shr8 ?_ | with_reducible refine Val.shr16 (by decide) ?_ | with_reducible refine Val.shr24 (by decide) ?_ | with_reducible refine Val.raw ?_ | refine Branch.not ?_ | refine Branch.and ?_ | refine Branch.or ?_ | refine Branch.dt (by assumption) ?_ | refine Branch.df (by assumption) ?_ | refine Branch.dt rfl ?_ | refine Branch.dt (by omega) ?_ | refine Branch.df (by omega) ?_ | refine Branch.t rfl ?_ | refine Branch.f rfl ?_ | refine Branch.t (by assumption) ?_ | refine Branch.f (by assumption) ?_ | refine Branch.d (fun _ => ?_) (fun _ => ?_) | refine Branch.mk (fun _ => ?_) (fun _ => ?_) | refine Need.mk (by first | omega | decide | rfl) ?_ | refine Idx.nat (by omega) ?_ | refine Idx.auto (by first | omega | decide) (by first | omega | decide) ?_ | refine Cell.ro rfl ?_ | refine SDraw.all (by kernel_rfl) ?_ | refine Kept.k0 ?_ | refine Kept.k1 ?_ | refine Kept.k2 ?_ | refine Kept.k3 ?_ | refine Kept.k4 ?_))
      · have hnl : n < L.length := (List.getElem?_eq_some_iff.1 hx).1
        have h21 := fun (K : Value → Heap → Prop) hk => c21 (K := K) hin hG hx hk
        generalize worstS L m = W at *
        obtain ⟨v1, v2⟩ := W
        dsimp only at h21 ⊢
        have hvv : decide ((v1 : Int) = (v1 : Int)) = true := by simp
        cases hf : fitsS L with
        | true =>
          cases v2 with
          | true =>
            repeat' ((conv => whnf); (first | refine h21 _ ?_ | refine Branch.f hbb ?_ | refine Branch.t hvv ?_ | refine c10 hD ?_ | exact Keep.all rfl | refine New.mk (fun _ => ?_) | refine Look.at0 ?_ | refine Cell.row ?_ | refine Cell.buf ?_ | refine Cells.row rfl ?_ | refine Put.row rfl ?_ | refine Put.buf rfl ?_ | refine Look.at1 ?_ | refine Look.at2 ?_ | refine Look.at3 ?_ | refine Look.at4 ?_ | refine Look.at5 ?_ | refine Look.at6 ?_ | refine Look.at7 ?_ | refine Look.at8 ?_ | with_reducible refine Val.i64 (by omega) (by omega) ?_ | with_reducible refine Val.u8 (by omega) (by omega) ?_ | with_reducible refine Val.u32 (by omega) (by omega) ?_ | with_reducible refine Val.u64 (by omega) (by omega) ?_ | with_reducible refine Val.u8m ?_ | with_reducible refine Val.u32m ?_ | with_reducible refine Val.u64m ?_ | with_reducible refine Val.shr8 ?_ | with_reducible refine Val.shr16 (by decide) ?_ | with_reducible refine Val.shr24 (by decide) ?_ | with_reducible refine Val.raw ?_ | refine Branch.not ?_ | refine Branch.and ?_ | refine Branch.or ?_ | refine Branch.dt (by assumption) ?_ | refine Branch.df (by assumption) ?_ | refine Branch.dt rfl ?_ | refine Branch.dt (by omega) ?_ | refine Branch.df (by omega) ?_ | refine Branch.t rfl ?_ | refine Branch.f rfl ?_ | refine Branch.t (by assumption) ?_ | refine Branch.f (by assumption) ?_ | refine Branch.d (fun _ => ?_) (fun _ => ?_) | refine Branch.mk (fun _ => ?_) (fun _ => ?_) | refine Need.mk (by first | omega | decide | rfl) ?_ | refine Idx.nat (by omega) ?_ | refine Idx.auto (by first | omega | decide) (by first | omega | decide) ?_ | refine Cell.ro rfl ?_ | refine SDraw.all (by kernel_rfl) ?_ | refine Kept.k0 ?_ | refine Kept.k1 ?_ | refine Kept.k2 ?_ | refine Kept.k3 ?_ | refine Kept.k4 ?_))
          | false =>
            repeat' ((conv => whnf); (first | refine h21 _ ?_ | refine Branch.f hbb ?_ | refine Branch.t hvv ?_ | refine c10 hD ?_ | exact Keep.all rfl | refine New.mk (fun _ => ?_) | refine Look.at0 ?_ | refine Cell.row ?_ | refine Cell.buf ?_ | refine Cells.row rfl ?_ | refine Put.row rfl ?_ | refine Put.buf rfl ?_ | refine Look.at1 ?_ | refine Look.at2 ?_ | refine Look.at3 ?_ | refine Look.at4 ?_ | refine Look.at5 ?_ | refine Look.at6 ?_ | refine Look.at7 ?_ | refine Look.at8 ?_ | with_reducible refine Val.i64 (by omega) (by omega) ?_ | with_reducible refine Val.u8 (by omega) (by omega) ?_ | with_reducible refine Val.u32 (by omega) (by omega) ?_ | with_reducible refine Val.u64 (by omega) (by omega) ?_ | with_reducible refine Val.u8m ?_ | with_reducible refine Val.u32m ?_ | with_reducible refine Val.u64m ?_ | with_reducible refine Val.shr8 ?_ | with_reducible refine Val.shr16 (by decide) ?_ | with_reducible refine Val.shr24 (by decide) ?_ | with_reducible refine Val.raw ?_ | refine Branch.not ?_ | refine Branch.and ?_ | refine Branch.or ?_ | refine Branch.dt (by assumption) ?_ | refine Branch.df (by assumption) ?_ | refine Branch.dt rfl ?_ | refine Branch.dt (by omega) ?_ | refine Branch.df (by omega) ?_ | refine Branch.t rfl ?_ | refine Branch.f rfl ?_ | refine Branch.t (by assumption) ?_ | refine Branch.f (by assumption) ?_ | refine Branch.d (fun _ => ?_) (fun _ => ?_) | refine Branch.mk (fun _ => ?_) (fun _ => ?_) | refine Need.mk (by first | omega | decide | rfl) ?_ | refine Idx.nat (by omega) ?_ | refine Idx.auto (by first | omega | decide) (by first | omega | decide) ?_ | refine Cell.ro rfl ?_ | refine SDraw.all (by kernel_rfl) ?_ | refine Kept.k0 ?_ | refine Kept.k1 ?_ | refine Kept.k2 ?_ | refine Kept.k3 ?_ | refine Kept.k4 ?_))
        | false =>
          cases v2 with
          | true =>
            repeat' ((conv => whnf); (first | refine h21 _ ?_ | refine Branch.f hbb ?_ | refine Branch.t hvv ?_ | refine c10 hD ?_ | exact Keep.all rfl | refine New.mk (fun _ => ?_) | refine Look.at0 ?_ | refine Cell.row ?_ | refine Cell.buf ?_ | refine Cells.row rfl ?_ | refine Put.row rfl ?_ | refine Put.buf rfl ?_ | refine Look.at1 ?_ | refine Look.at2 ?_ | refine Look.at3 ?_ | refine Look.at4 ?_ | refine Look.at5 ?_ | refine Look.at6 ?_ | refine Look.at7 ?_ | refine Look.at8 ?_ | with_reducible refine Val.i64 (by omega) (by omega) ?_ | with_reducible refine Val.u8 (by omega) (by omega) ?_ | with_reducible refine Val.u32 (by omega) (by omega) ?_ | with_reducible refine Val.u64 (by omega) (by omega) ?_ | with_reducible refine Val.u8m ?_ | with_reducible refine Val.u32m ?_ | with_reducible refine Val.u64m ?_ | with_reducible refine Val.shr8 ?_ | with_reducible refine Val.shr16 (by decide) ?_ | with_reducible refine Val.shr24 (by decide) ?_ | with_reducible refine Val.raw ?_ | refine Branch.not ?_ | refine Branch.and ?_ | refine Branch.or ?_ | refine Branch.dt (by assumption) ?_ | refine Branch.df (by assumption) ?_ | refine Branch.dt rfl ?_ | refine Branch.dt (by omega) ?_ | refine Branch.df (by omega) ?_ | refine Branch.t rfl ?_ | refine Branch.f rfl ?_ | refine Branch.t (by assumption) ?_ | refine Branch.f (by assumption) ?_ | refine Branch.d (fun _ => ?_) (fun _ => ?_) | refine Branch.mk (fun _ => ?_) (fun _ => ?_) | refine Need.mk (by first | omega | decide | rfl) ?_ | refine Idx.nat (by omega) ?_ | refine Idx.auto (by first | omega | decide) (by first | omega | decide) ?_ | refine Cell.ro rfl ?_ | refine SDraw.all (by kernel_rfl) ?_ | refine Kept.k0 ?_ | refine Kept.k1 ?_ | refine Kept.k2 ?_ | refine Kept.k3 ?_ | refine Kept.k4 ?_))
          | false =>
            repeat' ((conv => whnf); (first | refine h21 _ ?_ | refine Branch.f hbb ?_ | refine Branch.t hvv ?_ | refine c10 hD ?_ | exact Keep.all rfl | refine New.mk (fun _ => ?_) | refine Look.at0 ?_ | refine Cell.row ?_ | refine Cell.buf ?_ | refine Cells.row rfl ?_ | refine Put.row rfl ?_ | refine Put.buf rfl ?_ | refine Look.at1 ?_ | refine Look.at2 ?_ | refine Look.at3 ?_ | refine Look.at4 ?_ | refine Look.at5 ?_ | refine Look.at6 ?_ | refine Look.at7 ?_ | refine Look.at8 ?_ | with_reducible refine Val.i64 (by omega) (by omega) ?_ | with_reducible refine Val.u8 (by omega) (by omega) ?_ | with_reducible refine Val.u32 (by omega) (by omega) ?_ | with_reducible refine Val.u64 (by omega) (by omega) ?_ | with_reducible refine Val.u8m ?_ | with_reducible refine Val.u32m ?_ | with_reducible refine Val.u64m ?_ | with_reducible refine Val.shr8 ?_ | with_reducible refine Val.shr16 (by decide) ?_ | with_reducible refine Val.shr24 (by decide) ?_ | with_reducible refine Val.raw ?_ | refine Branch.not ?_ | refine Branch.and ?_ | refine Branch.or ?_ | refine Branch.dt (by assumption) ?_ | refine Branch.df (by assumption) ?_ | refine Branch.dt rfl ?_ | refine Branch.dt (by omega) ?_ | refine Branch.df (by omega) ?_ | refine Branch.t rfl ?_ | refine Branch.f rfl ?_ | refine Branch.t (by assumption) ?_ | refine Branch.f (by assumption) ?_ | refine Branch.d (fun _ => ?_) (fun _ => ?_) | refine Branch.mk (fun _ => ?_) (fun _ => ?_) | refine Need.mk (by first | omega | decide | rfl) ?_ | refine Idx.nat (by omega) ?_ | refine Idx.auto (by first | omega | decide) (by first | omega | decide) ?_ | refine Cell.ro rfl ?_ | refine SDraw.all (by kernel_rfl) ?_ | refine Kept.k0 ?_ | refine Kept.k1 ?_ | refine Kept.k2 ?_ | refine Kept.k3 ?_ | refine Kept.k4 ?_))
  · refine enter7 ?_
    have hc' : ¬ chk L = 0 := hc
    generalize hE : chk L = E at *
    have hEc := fun (X : Heap) (K : Value → Heap → Prop) h1 (h2 : K (.int .i64 E) X) => c16 (L := L) (H := X) (K := K) (sv := .slice sa L.length sc) h1 hwf (by rw [hE]; exact h2)
    have h8 : ∀ (q c : Nat) (X : Heap) (K2 : Value → Heap → Prop), Db X → K2 (.int .i64 E) (bufR q c L :: X) → SCalls Tryd.prog 8 [.slice (some ⟨q, 0, none⟩) L.length c] (bufR q c L :: X) K2 := fun q c X K2 h1 h2 => c8 (h1.mono fun _ hz => .tail _ hz) (buf_in hml) hwf (by rw [hE]; exact h2)
    have h11 : ∀ (q c : Nat) (X : Heap) (K2 : Value → Heap → Prop), Db X → K2 (.tuple ⟨[.int .u64 0, .bool false, .int .i64 E]⟩) (bufR q c L :: X) → SCalls Tryd.prog 11 [.slice (some ⟨q, 0, none⟩) L.length c, .int .i64 i] (bufR q c L :: X) K2 := fun q c X K2 h1 h2 => c11e (h1.mono fun _ hz => .tail _ hz) (buf_in hml) hwf (by rw [hE]; exact hc') (by rw [hE]; exact h2)
    have h19 : ∀ (q c : Nat) (X : Heap) (K2 : Value → Heap → Prop), Db X → K2 (.tuple ⟨[.bool false, .int .i64 E]⟩) (bufR q c L :: X) → SCalls Tryd.prog 19 [.slice (some ⟨q, 0, none⟩) L.length c] (bufR q c L :: X) K2 := fun q c X K2 h1 h2 => c19e (h1.mono fun _ hz => .tail _ hz) (buf_in hml) hwf (by rw [hE]; exact hc') (by rw [hE]; exact h2)
    have h20 : ∀ (q c : Nat) (X : Heap) (K2 : Value → Heap → Prop), Db X → K2 (.tuple ⟨[.int .u64 0, .int .i64 E]⟩) (bufR q c L :: X) → SCalls Tryd.prog 20 [.slice (some ⟨q, 0, none⟩) L.length c] (bufR q c L :: X) K2 := fun q c X K2 h1 h2 => c20e (h1.mono fun _ hz => .tail _ hz) (buf_in hml) hwf (by rw [hE]; exact hc') (by rw [hE]; exact h2)
    have hEE : (!decide (E = E)) = false := by simp
    have hEE2 : decide (E = E) = true := by simp
    have hE0 : (!decide (E = 0)) = true := by simp [hc']
    repeat' ((conv => whnf); (first | refine hEc _ _ hin ?_ | refine c9 (hin.mono fun z hz => by simp only [List.mem_cons, hz, or_true]) hb (fun q c k1 k2 => ?_) | refine h8 _ _ _ _ (hD.mono fun z hz => by simp only [List.mem_cons, hz, or_true]) ?_ | refine h11 _ _ _ _ (hD.mono fun z hz => by simp only [List.mem_cons, hz, or_true]) ?_ | refine h19 _ _ _ _ (hD.mono fun z hz => by simp only [List.mem_cons, hz, or_true]) ?_ | refine h20 _ _ _ _ (hD.mono fun z hz => by simp only [List.mem_cons, hz, or_true]) ?_ | refine Branch.f hEE ?_ | refine Branch.t hE0 ?_ | refine Branch.t hEE2 ?_ | refine c10 (hD.mono fun z hz => by simp only [List.mem_cons, hz, or_true]) ?_ | exact Keep.all rfl | refine New.mk (fun _ => ?_) | refine Look.at0 ?_ | refine Cell.row ?_ | refine Cell.buf ?_ | refine Cells.row rfl ?_ | refine Put.row rfl ?_ | refine Put.buf rfl ?_ | refine Look.at1 ?_ | refine Look.at2 ?_ | refine Look.at3 ?_ | refine Look.at4 ?_ | refine Look.at5 ?_ | refine Look.at6 ?_ | refine Look.at7 ?_ | refine Look.at8 ?_ | with_reducible refine Val.i64 (by omega) (by omega) ?_ | with_reducible refine Val.u8 (by omega) (by omega) ?_ | with_reducible refine Val.u32 (by omega) (by omega) ?_ | with_reducible refine Val.u64 (by omega) (by omega) ?_ | with_reducible refine Val.u8m ?_ | with_reducible refine Val.u32m ?_ | with_reducible refine Val.u64m ?_ | with_reducible refine Val.shr8 ?_ | with_reducible refine Val.shr16 (by decide) ?_ | with_reducible refine Val.shr24 (by decide) ?_ | with_reducible refine Val.raw ?_ | refine Branch.not ?_ | refine Branch.and ?_ | refine Branch.or ?_ | refine Branch.dt (by assumption) ?_ | refine Branch.df (by assumption) ?_ | refine Branch.dt rfl ?_ | refine Branch.dt (by omega) ?_ | refine Branch.df (by omega) ?_ | refine Branch.t rfl ?_ | refine Branch.f rfl ?_ | refine Branch.t (by assumption) ?_ | refine Branch.f (by assumption) ?_ | refine Branch.d (fun _ => ?_) (fun _ => ?_) | refine Branch.mk (fun _ => ?_) (fun _ => ?_) | refine Need.mk (by first | omega | decide | rfl) ?_ | refine Idx.nat (by omega) ?_ | refine Idx.auto (by first | omega | decide) (by first | omega | decide) ?_ | refine Cell.ro rfl ?_ | refine SDraw.all (by kernel_rfl) ?_ | refine Kept.k0 ?_ | refine Kept.k1 ?_ | refine Kept.k2 ?_ | refine Kept.k3 ?_ | refine Kept.k4 ?_))
end
end Go.Proofs.YtjleekdidedhaaaDoor

/- Input slices: from what the row tells of one to what a walk knows of it. -/
set_option linter.unusedVariables false
set_option linter.unusedSimpArgs false
namespace Go.Proofs.YtjleekdidedhaaaDoor
open Sx
theorem inS_of {α : Type} {f : α → List Value} {k B : Nat} {R : World → List Value → Prop} {Good : α → Prop} {w : World} {a : Option Addr} {n c : Nat} (h : SliceAt k B R w a n c) (hk0 : 0 < k) (hk : ∀ x, (f x).length = k) (hR : ∀ cs, R w cs → ∃ x, cs = f x ∧ Good x) :
    ∃ H L, L.length = n ∧ InS f k (.slice a L.length c) H L ∧ (∀ x ∈ L, Good x) ∧ Holds w H ∧ ∀ p ∈ H, p.2.excl = false := by
  have hml : n ≤ maxLen := Nat.le_trans h.1 h.2.1
  by_cases hl : 0 < n
  · obtain ⟨b, o, rfl, hb, hc⟩ := h.plain hk0 hl
    obtain ⟨L, h1, h2⟩ := list_of (P := fun j (m : α) => Good m ∧ ∀ i v, (f m)[i]? = some v → w.cell? ⟨b, o + j * k + i, none⟩ = some v) n fun j hj => by
      obtain ⟨cs, hlc, hcell, hr⟩ := hc j hj
      obtain ⟨x, rfl, hg⟩ := hR cs hr
      refine ⟨x, hg, fun i v hi => ?_⟩
      have hik : i < k := by rw [← hk x]; exact (List.getElem?_eq_some_iff.1 hi).1
      exact (hcell i hik).trans hi
    refine ⟨[(b, .ro fun j => w.cell? ⟨b, j, none⟩)], L, h1, ⟨_, c, rfl, by omega, .inr ⟨b, o, _, rfl, .head _, fun j x i v hj hv hi => (h2 j x hj).2 i v hv⟩⟩, fun x hx => ?_, ⟨fun p hp => ?_, List.pairwise_singleton _ _⟩, fun p hp => ?_⟩
    · obtain ⟨j, hlt, rfl⟩ := List.getElem_of_mem hx
      exact (h2 j _ (List.getElem?_eq_getElem hlt)).1
    · obtain rfl := List.mem_singleton.1 hp
      exact ⟨hb, fun _ _ h => h⟩
    · obtain rfl := List.mem_singleton.1 hp
      rfl
  · obtain rfl : n = 0 := by omega
    exact ⟨[], [], rfl, ⟨a, c, rfl, by simp, .inl rfl⟩, fun x hx => (by cases hx), Holds.empty w, fun p hp => by cases hp⟩
/-- Two inputs, side by side. -/
theorem Holds.join {w : World} {H G : Heap} (h1 : Holds w H) (h2 : Holds w G) (x1 : ∀ p ∈ H, p.2.excl = false) (x2 : ∀ p ∈ G, p.2.excl = false) : Holds w (H ++ G) := by
  refine ⟨fun p hp => ?_, List.pairwise_append.2 ⟨h1.sep, h2.sep, fun p hp q hq hx => ?_⟩⟩
  · rcases List.mem_append.1 hp with hp | hp
    · exact h1.at_ p hp
    · exact h2.at_ p hp
  · rw [x1 p hp, x2 q hq] at hx
    rcases hx with hx | hx <;> cases hx
theorem excl_join {H G : Heap} (x1 : ∀ p ∈ H, p.2.excl = false) (x2 : ∀ p ∈ G, p.2.excl = false) : ∀ p ∈ H ++ G, p.2.excl = false := fun p hp => by
  rcases List.mem_append.1 hp with hp | hp
  · exact x1 p hp
  · exact x2 p hp
end Go.Proofs.YtjleekdidedhaaaDoor

/- Layer 25: the laws: what the row tells of the input. -/
set_option linter.unusedVariables false
set_option linter.unusedSimpArgs false
set_option maxRecDepth 100000
set_option maxHeartbeats 4000000
namespace Go.Proofs.YtjleekdidedhaaaDoor
open Sx
theorem g3 : Tryd.prog.globalNamed "math/bits.deBruijn64tab" = some 3 := by kernel_rfl
theorem g3t : ∃ t, (Tryd.prog.globals[3]?).map (·.type) = some t ∧ Tryd.prog.underlying t = some (.array 64 5) ∧ Tryd.prog.cellsOf t = 64 := ⟨142, by kernel_rfl, by kernel_rfl, by kernel_rfl⟩
/-- What the row's list gives a walk. -/
theorem db_of {W : World} {d : DataW Unit} {rest : List (String × DataW Unit)} (h : laidMet Tryd.prog (("math/bits.deBruijn32tab", d) :: ("math/bits.deBruijn64tab", Rows.laid_math_bits_deBruijn64tab) :: rest) W) :
    Db [(3, .ro fun j => if j = 1 then some (.int .u8 1) else none)] ∧ Holds W [(3, .ro fun j => if j = 1 then some (.int .u8 1) else none)] ∧ ∀ p ∈ [((3 : Nat), Blk.ro fun j => if j = 1 then some (.int .u8 1) else none)], p.2.excl = false := by
  obtain ⟨t, h1, h2, h3⟩ := g3t
  have hT := Lib.tabIs_of_head (k := .u8) (zs := [0, 1, 56, 2, 57, 49, 28, 3, 61, 58, 42, 50, 38, 29, 17, 4, 62, 47, 59, 36, 45, 43, 51, 22, 53, 39, 33, 30, 24, 18, 12, 5, 63, 55, 48, 27, 60, 41, 37, 16, 46, 35, 44, 21, 52, 32, 23, 11, 54, 26, 40, 15, 34, 20, 31, 10, 25, 14, 19, 9, 13, 8, 7, 6]) g3 h1 h2 (show Tryd.prog.underlying 5 = some (.int .u8) by kernel_rfl) (by kernel_rfl) h3 h.tail
  have hc : W.cell? ⟨3, 1, none⟩ = some (.int .u8 1) := hT.cell g3 1 (by decide)
  refine ⟨⟨_, .head _, rfl⟩, ⟨fun p hp => ?_, List.pairwise_singleton _ _⟩, fun p hp => ?_⟩
  · obtain rfl := List.mem_singleton.1 hp
    refine ⟨World.block_lt_of_cell? W _ hc, fun j v hj => ?_⟩
    by_cases h : j = 1
    · subst h
      injection hj with hj
      subst hj
      exact hc
    · simp only [h, if_false] at hj
      cases hj
  · obtain rfl := List.mem_singleton.1 hp
    rfl

theorem msg_of {w : World} {cs : List Value} (h : R30 w cs) : ∃ m, cs = mC m ∧ m.wf := by
  obtain ⟨x0, x1, x2, x3, x4, rfl, h0, h2, h3, h4⟩ := h
  have e0 := wf_u32 h0
  have e2 := wf_i64 h2
  have e3 := wf_u64 h3
  have e4 := wf_u64 h4
  obtain ⟨n0, rfl⟩ : ∃ n : Nat, x0 = (n : Int) := ⟨x0.toNat, by omega⟩
  obtain ⟨n3, rfl⟩ : ∃ n : Nat, x3 = (n : Int) := ⟨x3.toNat, by omega⟩
  obtain ⟨n4, rfl⟩ : ∃ n : Nat, x4 = (n : Int) := ⟨x4.toNat, by omega⟩
  exact ⟨⟨n0, x1, x2, n3, n4⟩, rfl, by show n0 < 4294967296; omega, e2.1, e2.2, by show n3 < 18446744073709551616; omega, by show n4 < 18446744073709551616; omega⟩
/-- Messages that come in. -/
theorem msgs_of {w : World} {a : Option Addr} {n c : Nat} (h : SliceAt 5 B30 R30 w a n c) : ∃ H L, L.length = n ∧ InS mC 5 (.slice a L.length c) H L ∧ (∀ x ∈ L, x.wf) ∧ Holds w H ∧ (∀ p ∈ H, p.2.excl = false) ∧ L.length * 32 ≤ 140737488355328 := by
  obtain ⟨H, L, e, hin, hwf, hw, hx⟩ := inS_of (f := mC) (Good := Msg.wf) h (by decide) (fun _ => rfl) (fun cs hc => msg_of hc)
  have hb := h.2.2.1
  simp only [reachBytes, B30] at hb
  exact ⟨H, L, e, hin, hwf, hw, hx, by omega⟩
theorem LoadReckonsW (a0a : Option Addr) (a0l : Nat) (a0c : Nat) (a1 : Int) (w : World) (h0_0 : SliceAt 5 B30 R30 w a0a a0l a0c) (h1_0 : (Lit.int .i64 a1).wf = true) (hL : laidMet Tryd.prog Rows.loadReckonsRow.laid w) :
    Calls Tryd.prog 7 #[.slice a0a a0l a0c, .int .i64 a1] w fun e w' => e = .returned (.bool true) ∧ Go.RowKit.Below w.heap.size w w' := by
  obtain ⟨hD, hw, hx⟩ := db_of hL
  obtain ⟨H, L, rfl, hin, hwf, hw2, x2, hb⟩ := msgs_of h0_0
  exact (reckons_c (i := a1) (hD.mono fun p hp => List.mem_append_left _ hp) (hin.mono fun p hp => List.mem_append_right _ hp) hb hwf).fin w (Holds.join hw hw2 hx x2) (excl_join hx x2)
end Go.Proofs.YtjleekdidedhaaaDoor

/- Layer 25: what is reckoned: plain lemmas for LoadPlays. -/
set_option linter.unusedVariables false
set_option linter.unusedSimpArgs false
set_option maxRecDepth 100000
set_option maxHeartbeats 4000000
namespace Go.Proofs.YtjleekdidedhaaaDoor
open Sx
theorem fold_max (m : Msg) (c : Nat) : ∀ (L : List Msg) (b : Nat), L.foldl (fun b y => if tlt (fld m) (fld y) then max b (tm y) else b) (max b c) = max (L.foldl (fun b y => if tlt (fld m) (fld y) then max b (tm y) else b) b) c
  | [], b => rfl
  | y :: L, b => by
    rw [List.foldl_cons, List.foldl_cons]
    by_cases h : tlt (fld m) (fld y) = true
    · rw [if_pos h, if_pos h, ← fold_max m c L]
      congr 1
      omega
    · rw [if_neg h, if_neg h]
      exact fold_max m c L b
theorem wB_cons (x m : Msg) (L : List Msg) : wB (x :: L) m = if tlt (fld m) (fld x) then max (wB L m) (tm x) else wB L m := by
  unfold wB
  rw [List.foldl_cons]
  by_cases h : tlt (fld m) (fld x) = true
  · rw [if_pos h, if_pos h, fold_max]
  · rw [if_neg h, if_neg h]
theorem fold_ge (m : Msg) : ∀ (L : List Msg) (b : Nat), b ≤ L.foldl (fun b y => if tlt (fld m) (fld y) then max b (tm y) else b) b
  | [], b => Nat.le_refl _
  | y :: L, b => by
    rw [List.foldl_cons]
    refine Nat.le_trans ?_ (fold_ge m L _)
    split <;> omega
theorem wB_mem {m y : Msg} (h : tlt (fld m) (fld y) = true) : ∀ {L : List Msg}, y ∈ L → tm y ≤ wB L m
  | x :: L, hy => by
    rw [wB_cons]
    rcases List.mem_cons.1 hy with rfl | hy
    · rw [if_pos h]; omega
    · have := wB_mem h hy
      split <;> omega
theorem iter_true {L : List Msg} {m : Msg} : ∀ (f w : Nat), w ≤ wStep L m w → (wIter L m f w).2 = true → ∃ ws, w ≤ ws ∧ wStep L m ws = ws ∧ (wIter L m f w).1 = m.j + ws + tm m ∧ ¬ m.p < m.j + ws + tm m
  | 0, w, _, h => by cases h
  | f + 1, w, hw, h => by
    rw [wIter] at h ⊢
    by_cases hp : m.p < m.j + w + tm m
    · rw [if_pos hp] at h; cases h
    · rw [if_neg hp] at h ⊢
      by_cases he : wStep L m w = w
      · rw [if_pos he]
        exact ⟨w, Nat.le_refl _, he, rfl, hp⟩
      · rw [if_neg he] at h ⊢
        obtain ⟨ws, h1, h2⟩ := iter_true f _ (wStep_mono L m hw) h
        exact ⟨ws, Nat.le_trans hw h1, h2⟩
theorem num_of {w : World} {cs : List Value} (h : R28 w cs) : ∃ n : Nat, cs = fU n ∧ True := by
  obtain ⟨x, rfl, h0⟩ := h
  have e0 := wf_u64 h0
  exact ⟨x.toNat, by show [Value.int .u64 x] = [.int .u64 (x.toNat : Int)]; rw [Int.toNat_of_nonneg e0.1], trivial⟩
end Go.Proofs.YtjleekdidedhaaaDoor

/- Layer 25: where all are in time, none takes longer than was reckoned. In plain Lean. -/
set_option linter.unusedVariables false
set_option linter.unusedSimpArgs false
set_option maxRecDepth 100000
namespace Go.Proofs.YtjleekdidedhaaaDoor
open Sx
abbrev gapQ (per : List UInt8 → Nat) (x y : Wn) : Prop := x.fl = y.fl → x.ask + per x.fl ≤ y.ask
/-- What is queued of one message lies a period apart. -/
structure Gap (per : List UInt8 → Nat) (ss : List Sr) (Q : List Wn) : Prop where
  gap : Q.Pairwise (gapQ per)
  last : ∀ x ∈ Q, ∀ s ∈ ss, fld s.m = x.fl → x.ask + per x.fl ≤ s.a
  qj : ∀ s ∈ ss, s.q ≤ s.a + s.m.j
theorem src_eq : ∀ {ss : List Sr}, (ss.map fun s => fld s.m).Nodup → ∀ {s t : Sr}, s ∈ ss → t ∈ ss → fld s.m = fld t.m → s = t
  | [], _, s, t, hs, _, _ => by cases hs
  | x :: r, h, s, t, hs, ht, e => by
    rw [List.map_cons, List.nodup_cons] at h
    rcases List.mem_cons.1 hs with rfl | hs2
    · rcases List.mem_cons.1 ht with rfl | ht2
      · rfl
      · exact absurd (List.mem_map.2 ⟨t, ht2, e.symm⟩) h.1
    · rcases List.mem_cons.1 ht with rfl | ht2
      · exact absurd (List.mem_map.2 ⟨s, hs2, e⟩) h.1
      · exact src_eq h.2 hs2 ht2 e
theorem drF_gap {P un now j : Nat} : ∀ (f a q : Nat), q ≤ a + j → (drF P un now f a q).1.Pairwise (fun b c => b + P ≤ c) ∧ (∀ b ∈ (drF P un now f a q).1, a ≤ b ∧ b + P ≤ (drF P un now f a q).2.1) ∧ a ≤ (drF P un now f a q).2.1 ∧ (drF P un now f a q).2.2 ≤ (drF P un now f a q).2.1 + j
  | 0, a, q, h => ⟨List.Pairwise.nil, (fun _ h => by cases h), Nat.le_refl _, h⟩
  | f + 1, a, q, h => by
    rw [drF]
    by_cases hc : q ≤ now ∧ q < un
    · rw [if_pos hc]
      obtain ⟨h1, h2, h3, h4⟩ := drF_gap (P := P) (un := un) (now := now) (j := j) f (a + P) (a + P) (by omega)
      refine ⟨List.pairwise_cons.2 ⟨fun b hb => (h2 b hb).1, h1⟩, fun b hb => ?_, (by show a ≤ (drF P un now f (a + P) (a + P)).2.1; omega), h4⟩
      rcases List.mem_cons.1 hb with rfl | hb
      · exact ⟨Nat.le_refl _, h3⟩
      · have := h2 b hb
        exact ⟨by omega, this.2⟩
    · rw [if_neg hc]
      exact ⟨List.Pairwise.nil, (fun _ h => by cases h), Nat.le_refl _, h⟩
theorem drF_off {P un now : Nat} {f a q : Nat} (h : un ≤ q) : drF P un now f a q = ([], a, q) := by
  cases f with
  | zero => rfl
  | succ f => rw [drF, if_neg (fun h2 => by have := h2.2; omega)]
theorem wants_gap {per : List UInt8 → Nat} {un now : Nat} : ∀ (ss : List Sr) (k : Nat), (∀ s ∈ ss, per (fld s.m) = s.m.p ∧ s.q ≤ s.a + s.m.j) → (ss.map fun s => fld s.m).Nodup → (wants un now k ss).Pairwise (gapQ per)
  | [], _, _, _ => List.Pairwise.nil
  | s :: r, k, h, hn => by
    rw [List.map_cons, List.nodup_cons] at hn
    rw [wants, List.pairwise_append]
    refine ⟨?_, wants_gap r (k + 1) (fun x hx => h x (.tail _ hx)) hn.2, fun x hx y hy he => ?_⟩
    · rw [List.pairwise_map]
      obtain ⟨h1, h2⟩ := h s (.head _)
      exact (drF_gap (P := s.m.p) (un := un) (now := now) (un + 1) s.a s.q h2).1.imp (fun {a b} hab => (fun _ => by show a + per (fld s.m) ≤ b; rw [h1]; exact hab : gapQ per ⟨k, fld s.m, a⟩ ⟨k, fld s.m, b⟩))
    · obtain ⟨a, _, rfl⟩ := List.mem_map.1 hx
      obtain ⟨i, s', h1, _, h3, _⟩ := mem_wants r (k + 1) hy
      exact absurd (List.mem_map.2 ⟨s', List.mem_of_getElem? h1, by rw [← h3]; exact he.symm⟩) hn.1
theorem Gap.takes {per : List UInt8 → Nat} {un now : Nat} {ss : List Sr} {Q : List Wn} (hp : ∀ s ∈ ss, per (fld s.m) = s.m.p) (hn : (ss.map fun s => fld s.m).Nodup) (h : Gap per ss Q) : Gap per (ss.map (drS un now)) (Q ++ wants un now 0 ss) := by
  have hd := fun (s : Sr) (hs : s ∈ ss) => drF_gap (P := s.m.p) (un := un) (now := now) (un + 1) s.a s.q (h.qj s hs)
  refine ⟨?_, fun x hx s hs he => ?_, fun s hs => ?_⟩
  · rw [List.pairwise_append]
    refine ⟨h.gap, wants_gap ss 0 (fun s hs => ⟨hp s hs, h.qj s hs⟩) hn, fun x hx y hy he => ?_⟩
    obtain ⟨i, s', g1, g2, g3, g4⟩ := mem_wants ss 0 hy
    have hs' := List.mem_of_getElem? g1
    have h1 := h.last x hx s' hs' (by rw [he, g3])
    have h2 := ((hd s' hs').2.1 _ g4).1
    omega
  · obtain ⟨s0, hs0, rfl⟩ := List.mem_map.1 hs
    have he : fld s0.m = x.fl := he
    rcases List.mem_append.1 hx with hx | hx
    · have h1 := h.last x hx s0 hs0 he
      have h2 := (hd s0 hs0).2.2.1
      show _ ≤ (dr un now s0).2.1
      exact Nat.le_trans h1 h2
    · obtain ⟨i, s', g1, g2, g3, g4⟩ := mem_wants ss 0 hx
      have hs' := List.mem_of_getElem? g1
      obtain rfl := src_eq hn hs' hs0 (by rw [← g3, he])
      rw [g3, hp s' hs']
      exact ((hd s' hs').2.1 _ g4).2
  · obtain ⟨s0, hs0, rfl⟩ := List.mem_map.1 hs
    exact (hd s0 hs0).2.2.2
theorem mem_eraseIdx_ne {α : Type} {l : List α} {i : Nat} {x : α} (h : x ∈ l.eraseIdx i) : ∃ j : Nat, j ≠ i ∧ l[j]? = some x := by
  obtain ⟨n, hn, rfl⟩ := List.getElem_of_mem h
  have := List.getElem?_eq_getElem hn
  rw [List.getElem?_eraseIdx] at this
  split at this
  · exact ⟨n, by omega, this⟩
  · exact ⟨n + 1, by omega, this⟩
theorem best_rest {per : List UInt8 → Nat} {Q : List Wn} {w : Wn} (hg : Q.Pairwise (gapQ per)) (hw : Q[best Q]? = some w) : (∀ x ∈ Q, tlt x.fl w.fl = false) ∧ ∀ x ∈ Q.eraseIdx (best Q), x.fl = w.fl → w.ask + per w.fl ≤ x.ask := by
  have hl : 0 < Q.length := by
    have := (List.getElem?_eq_some_iff.1 hw).1
    omega
  obtain ⟨_, w', h2, h3, h4⟩ := best_ok Q (Q.length - 1) (by omega)
  have hw2 : Q[bestK Q (Q.length - 1)]? = some w := hw
  rw [h2] at hw2
  injection hw2 with hw2
  subst hw2
  refine ⟨fun x hx => ?_, fun x hx he => ?_⟩
  · obtain ⟨n, hn, rfl⟩ := List.getElem_of_mem hx
    exact h3 n _ (by omega) (List.getElem?_eq_getElem hn)
  · obtain ⟨j, hj, hjx⟩ := mem_eraseIdx_ne hx
    have hj : j ≠ bestK Q (Q.length - 1) := hj
    rcases Nat.lt_or_ge j (bestK Q (Q.length - 1)) with h | h
    · have := h4 j x h hjx
      rw [he, show tlt w'.fl w'.fl = false from Hp.bl_irr _] at this
      cases this
    · obtain ⟨hb, hbe⟩ := List.getElem?_eq_some_iff.1 h2
      obtain ⟨hjl, hje⟩ := List.getElem?_eq_some_iff.1 hjx
      have := List.pairwise_iff_getElem.1 hg _ j hb hjl (by omega)
      rw [hbe, hje] at this
      exact this he.symm
/-- When the next of a field is asked for. -/
def af (ss : List Sr) (f : List UInt8) : Nat := match ss.find? fun s => decide (fld s.m = f) with
  | some s => s.a
  | none => 0
theorem af_eq : ∀ {ss : List Sr}, (ss.map fun s => fld s.m).Nodup → ∀ {s : Sr}, s ∈ ss → af ss (fld s.m) = s.a := by
  intro ss hn s hs
  unfold af
  cases hf : ss.find? fun t => decide (fld t.m = fld s.m) with
  | none =>
    have := List.find?_eq_none.1 hf s hs
    simp at this
  | some t =>
    have h1 := List.find?_some hf
    have h2 := List.mem_of_find?_eq_some hf
    rw [src_eq hn h2 hs (by simpa using h1)]
/-- A window: from u on what is ahead of m, and m, is asked for not ahead of f0; of each N were sent. -/
structure Win (un : Nat) (L : List Msg) (m : Msg) (ws u : Nat) (ss : List Sr) (Q : List Wn) (now : Nat) (f0 N : List UInt8 → Nat) : Prop where
  low : ∀ s ∈ ss, f0 (fld s.m) + N (fld s.m) * s.m.p ≤ s.a ∧ ∀ x ∈ Q, x.fl = fld s.m → f0 (fld s.m) + N (fld s.m) * s.m.p ≤ x.ask
  anc : ∀ s ∈ ss, tlt (fld m) (fld s.m) = false → u ≤ f0 (fld s.m) + s.m.j ∨ (un ≤ s.q ∧ ∀ x ∈ Q, x.fl ≠ fld s.m)
  nb : ∀ y ∈ L, N (fld y) ≤ (ws + y.j) / y.p + 1
  n0 : N (fld m) = 0
  tim : now ≤ u + wB L m + ((wF L m).map fun y => tm y * N (fld y)).sum
theorem Win.takes {un : Nat} {L : List Msg} {m : Msg} {ws u : Nat} {ss : List Sr} {Q : List Wn} {now : Nat} {f0 N : List UInt8 → Nat} (hn : (ss.map fun s => fld s.m).Nodup) (hq : ∀ s ∈ ss, s.q ≤ s.a + s.m.j) (h : Win un L m ws u ss Q now f0 N) : Win un L m ws u (ss.map (drS un now)) (Q ++ wants un now 0 ss) now f0 N := by
  have hd := fun (s : Sr) (hs : s ∈ ss) => drF_gap (P := s.m.p) (un := un) (now := now) (un + 1) s.a s.q (hq s hs)
  refine ⟨fun s hs => ?_, fun s hs hf => ?_, h.nb, h.n0, h.tim⟩
  · obtain ⟨s0, hs0, rfl⟩ := List.mem_map.1 hs
    obtain ⟨h1, h2⟩ := h.low s0 hs0
    refine ⟨Nat.le_trans h1 (hd s0 hs0).2.2.1, fun x hx he => ?_⟩
    rcases List.mem_append.1 hx with hx | hx
    · exact h2 x hx he
    · obtain ⟨i, s', g1, g2, g3, g4⟩ := mem_wants ss 0 hx
      have hs' := List.mem_of_getElem? g1
      obtain rfl := src_eq hn hs' hs0 (by rw [← g3, he])
      exact Nat.le_trans h1 ((hd s' hs').2.1 _ g4).1
  · obtain ⟨s0, hs0, rfl⟩ := List.mem_map.1 hs
    rcases h.anc s0 hs0 hf with h1 | ⟨h1, h2⟩
    · exact .inl h1
    · have ho : dr un now s0 = ([], s0.a, s0.q) := drF_off h1
      refine .inr ⟨by show un ≤ (dr un now s0).2.2; rw [ho]; exact h1, fun x hx he => ?_⟩
      rcases List.mem_append.1 hx with hx | hx
      · exact h2 x hx he
      · obtain ⟨i, s', g1, g2, g3, g4⟩ := mem_wants ss 0 hx
        have hs' := List.mem_of_getElem? g1
        obtain rfl := src_eq hn hs' hs0 (by rw [← g3, he])
        rw [ho] at g4
        cases g4
theorem sum_fold (w : Nat) (N : List UInt8 → Nat) : ∀ (F : List Msg) (a : Nat), (∀ y ∈ F, N (fld y) ≤ (w + y.j) / y.p + 1) → a + (F.map fun y => tm y * N (fld y)).sum ≤ F.foldl (wAdd w) a
  | [], a, _ => by simp
  | y :: F, a, h => by
    rw [List.map_cons, List.sum_cons, List.foldl_cons]
    refine Nat.le_trans ?_ (sum_fold w N F _ (fun z hz => h z (.tail _ hz)))
    have := Nat.mul_le_mul_left (tm y) (h y (.head _))
    unfold wAdd
    omega
theorem Win.now_le {un : Nat} {L : List Msg} {m : Msg} {ws u : Nat} {ss : List Sr} {Q : List Wn} {now : Nat} {f0 N : List UInt8 → Nat} (h : Win un L m ws u ss Q now f0 N) (hs : wStep L m ws = ws) : now ≤ u + ws := by
  have h1 := sum_fold ws N (wF L m) (wB L m) (fun y hy => h.nb y (List.mem_filter.1 hy).1)
  have h2 : (wF L m).foldl (wAdd ws) (wB L m) = ws := hs
  have h3 := h.tim
  omega
theorem sum_up {N : List UInt8 → Nat} {m : Msg} : ∀ {F : List Msg}, m ∈ F → ((F.map fun y => tm y * N (fld y)).sum) + tm m ≤ (F.map fun y => tm y * (if fld y = fld m then N (fld y) + 1 else N (fld y))).sum
  | y :: F, h => by
    have hmono : ∀ (F : List Msg), (F.map fun y => tm y * N (fld y)).sum ≤ (F.map fun y => tm y * (if fld y = fld m then N (fld y) + 1 else N (fld y))).sum := by
      intro F
      induction F with
      | nil => exact Nat.le_refl _
      | cons z F ih =>
        rw [List.map_cons, List.sum_cons, List.map_cons, List.sum_cons]
        refine Nat.add_le_add (Nat.mul_le_mul_left _ ?_) ih
        split <;> omega
    rw [List.map_cons, List.sum_cons, List.map_cons, List.sum_cons]
    rcases List.mem_cons.1 h with rfl | h
    · have := hmono F
      rw [if_pos rfl, Nat.mul_add, Nat.mul_one]
      omega
    · have h1 := sum_up (N := N) h
      have h2 : tm y * N (fld y) ≤ tm y * (if fld y = fld m then N (fld y) + 1 else N (fld y)) := Nat.mul_le_mul_left _ (by split <;> omega)
      omega
/-- One is sent. -/
theorem Win.go {per : List UInt8 → Nat} {un : Nat} {L : List Msg} {m : Msg} {ws u : Nat} {ss : List Sr} {Q : List Wn} {now : Nat} {f0 N : List UInt8 → Nat} (hG : Goods L) (hm : m ∈ L) (hstep : wStep L m ws = ws) (hfit : m.j + ws + tm m ≤ m.p) (hms : ss.map Sr.m = L)
    (hper : ∀ s ∈ ss, per (fld s.m) = s.m.p) (hend : ∀ s ∈ ss, ¬ (s.q ≤ now ∧ s.q < un)) (hg : Gap per ss Q) (h : Win un L m ws u ss Q now f0 N) {w : Wn} {s : Sr} (hw : Q[best Q]? = some w) (hs : s ∈ ss) (hfl : w.fl = fld s.m) (hask : w.ask ≤ now) :
    (∃ u' f0' N', Win un L m ws u' ss (Q.eraseIdx (best Q)) (now + tm s.m) f0' N') ∧ (s.m = m → now + tm m - w.ask ≤ m.j + ws + tm m) := by
  have hn : (ss.map fun s => fld s.m).Nodup := by
    have := hG.one
    rw [← hms, List.map_map] at this
    exact this
  have hnow := h.now_le hstep
  obtain ⟨hleast, hrest⟩ := best_rest hg.gap hw
  have hwQ := List.mem_of_getElem? hw
  have hsub : ∀ x ∈ Q.eraseIdx (best Q), x ∈ Q := fun x hx => (List.eraseIdx_sublist Q (best Q)).subset hx
  have hsL : ∀ t ∈ ss, t.m ∈ L := fun t ht => by rw [← hms]; exact List.mem_map.2 ⟨t, ht, rfl⟩
  have hlast := hg.last w hwQ s hs hfl.symm
  rw [hfl, hper s hs] at hlast hrest
  have hgs := hG.good s.m (hsL s hs)
  by_cases hhp : tlt (fld s.m) (fld m) = true
  · have hnot : tlt (fld m) (fld s.m) = false := Hp.bl_asym hhp
    have hne : fld s.m ≠ fld m := fun e => by
      rw [e, show tlt (fld m) (fld m) = false from Hp.bl_irr _] at hhp; cases hhp
    obtain ⟨hl1, hl2⟩ := h.low s hs
    have hlw := hl2 w hwQ hfl
    have hu : u ≤ f0 (fld s.m) + s.m.j := by
      rcases h.anc s hs hnot with h1 | ⟨_, h1⟩
      · exact h1
      · exact absurd hfl (h1 w hwQ)
    refine ⟨⟨u, f0, fun f => if f = fld s.m then N f + 1 else N f, ⟨fun t ht => ?_, fun t ht hf => ?_, fun y hy => ?_, ?_, ?_⟩⟩, fun e => absurd (by rw [e]) hne⟩
    · by_cases he : fld t.m = fld s.m
      · obtain rfl := src_eq hn ht hs he
        rw [if_pos rfl, Nat.add_mul, Nat.one_mul]
        refine ⟨by omega, fun x hx hxe => ?_⟩
        have := hrest x hx hxe
        omega
      · rw [if_neg he]
        obtain ⟨k1, k2⟩ := h.low t ht
        exact ⟨k1, fun x hx => k2 x (hsub x hx)⟩
    · rcases h.anc t ht hf with h1 | ⟨h1, h2⟩
      · exact .inl h1
      · exact .inr ⟨h1, fun x hx => h2 x (hsub x hx)⟩
    · by_cases he : fld y = fld s.m
      · rw [if_pos he]
        have hys : y = s.m := by
          rw [← hms] at hy
          obtain ⟨t, ht, rfl⟩ := List.mem_map.1 hy
          rw [src_eq hn ht hs he]
        subst hys
        have : N (fld s.m) ≤ (ws + s.m.j) / s.m.p := (Nat.le_div_iff_mul_le hgs.p1).2 (by omega)
        omega
      · rw [if_neg he]
        exact h.nb y hy
    · rw [if_neg (Ne.symm hne)]
      exact h.n0
    · have h1 := h.tim
      have h2 := sum_up (N := N) (m := s.m) (F := wF L m) (List.mem_filter.2 ⟨hsL s hs, hhp⟩)
      show _ ≤ u + wB L m + ((wF L m).map fun y => tm y * (if fld y = fld s.m then N (fld y) + 1 else N (fld y))).sum
      omega
  · have hhp : tlt (fld s.m) (fld m) = false := by simpa using hhp
    have hB : tm s.m ≤ wB L m := by
      cases hl : tlt (fld m) (fld s.m) with
      | true => exact wB_mem hl (hsL s hs)
      | false =>
        have he := Hp.bl_tri _ _ hhp hl
        have : s.m = m := by
          rw [← hms] at hm
          obtain ⟨t, ht, rfl⟩ := List.mem_map.1 hm
          rw [src_eq hn hs ht he]
        rw [this]
        exact fold_ge m L (tm m)
    have hself : s.m = m → u ≤ w.ask + m.j := fun e => by
      have hnot : tlt (fld m) (fld s.m) = false := by rw [e]; exact Hp.bl_irr _
      obtain ⟨hl1, hl2⟩ := h.low s hs
      have hlw := hl2 w hwQ hfl
      rw [e, h.n0, Nat.zero_mul] at hlw
      rcases h.anc s hs hnot with h1 | ⟨_, h1⟩
      · rw [e] at h1
        omega
      · exact absurd hfl (h1 w hwQ)
    refine ⟨⟨now, fun f => if tlt (fld m) f then 0 else if f = fld s.m then w.ask + s.m.p else af ss f, fun _ => 0, ⟨fun t ht => ?_, fun t ht hf => ?_, fun y hy => Nat.zero_le _, rfl, ?_⟩⟩, fun e => ?_⟩
    · rw [Nat.zero_mul, Nat.add_zero]
      cases hl : tlt (fld m) (fld t.m) with
      | true =>
        rw [if_pos rfl]
        exact ⟨Nat.zero_le _, fun _ _ _ => Nat.zero_le _⟩
      | false =>
        rw [if_neg (by decide)]
        by_cases he : fld t.m = fld s.m
        · obtain rfl := src_eq hn ht hs he
          rw [if_pos rfl]
          exact ⟨hlast, fun x hx hxe => hrest x hx hxe⟩
        · rw [if_neg he, af_eq hn ht]
          refine ⟨Nat.le_refl _, fun x hx hxe => ?_⟩
          exfalso
          have h1 := hleast x (hsub x hx)
          rw [hxe, hfl] at h1
          cases h2 : tlt (fld s.m) (fld t.m) with
          | false => exact he (Hp.bl_tri _ _ h1 h2)
          | true =>
            -- t is not behind m, s not ahead of it: so s is m, and t behind it
            cases h3 : tlt (fld m) (fld s.m) with
            | true =>
              have := Hp.bl_trans _ _ _ h3 h2
              rw [show Op.bytesLess (fld m) (fld t.m) = false from hl] at this; cases this
            | false =>
              have h4 := Hp.bl_tri _ _ hhp h3
              rw [h4] at h2
              rw [h2] at hl; cases hl
    · rw [if_neg (by rw [hf]; decide)]
      by_cases he : fld t.m = fld s.m
      · obtain rfl := src_eq hn ht hs he
        rw [if_pos rfl]
        have hem : t.m = m := by
          have h4 := Hp.bl_tri _ _ hhp hf
          rw [← hms] at hm
          obtain ⟨t', ht', rfl⟩ := List.mem_map.1 hm
          rw [src_eq hn ht ht' h4]
        have := hself hem
        rw [hem]
        exact .inl (by omega)
      · rw [if_neg he, af_eq hn ht]
        have h1 := hend t ht
        have h2 := hg.qj t ht
        by_cases h3 : t.q < un
        · exact .inl (by omega)
        · refine .inr ⟨by omega, fun x hx hxe => ?_⟩
          have h1 := hleast x (hsub x hx)
          rw [hxe, hfl] at h1
          cases h2 : tlt (fld s.m) (fld t.m) with
          | false => exact he (Hp.bl_tri _ _ h1 h2)
          | true =>
            cases h3 : tlt (fld m) (fld s.m) with
            | true =>
              have := Hp.bl_trans _ _ _ h3 h2
              rw [show Op.bytesLess (fld m) (fld t.m) = false from hf] at this; cases this
            | false =>
              have h4 := Hp.bl_tri _ _ hhp h3
              rw [h4] at h2
              rw [h2] at hf; cases hf
    · omega
    · have := hself e
      omega
theorem nxt_min {un : Nat} : ∀ (ss : List Sr) (r : Nat × Bool), (ss.foldl (nxtK un) r).2 = true → (r.2 = true → (ss.foldl (nxtK un) r).1 ≤ r.1) ∧ ∀ s ∈ ss, s.q < un → (ss.foldl (nxtK un) r).1 ≤ s.q
  | [], r, h => ⟨fun _ => Nat.le_refl _, fun s hs => by cases hs⟩
  | s :: ss, r, h => by
    rw [List.foldl_cons] at h ⊢
    obtain ⟨h1, h2⟩ := nxt_min ss _ h
    unfold nxtK at h1 h h2 ⊢
    by_cases hc : s.q < un ∧ (r.2 = false ∨ s.q < r.1)
    · rw [if_pos hc] at h1 h h2 ⊢
      have h3 := h1 rfl
      refine ⟨fun hr => ?_, fun t ht htq => ?_⟩
      · rcases hc.2 with h4 | h4
        · rw [hr] at h4; cases h4
        · exact Nat.le_trans h3 (Nat.le_of_lt h4)
      · rcases List.mem_cons.1 ht with rfl | ht
        · exact h3
        · exact h2 t ht htq
    · rw [if_neg hc] at h1 h h2 ⊢
      refine ⟨h1, fun t ht htq => ?_⟩
      rcases List.mem_cons.1 ht with rfl | ht
      · cases hr : r.2 with
        | false => exact absurd ⟨htq, .inl hr⟩ hc
        | true => exact Nat.le_trans (h1 hr) (Nat.le_of_not_lt fun h5 => hc ⟨htq, .inr h5⟩)
      · exact h2 t ht htq
/-- What is played of one that is in time. -/
theorem runs_win {per : List UInt8 → Nat} {un : Nat} {L : List Msg} {m : Msg} {ws i : Nat} (hper : ∀ y ∈ L, per (fld y) = y.p) (hi : L[i]? = some m) (hstep : wStep L m ws = ws) (hfit : m.j + ws + tm m ≤ m.p)
    {ss : List Sr} {Q : List Wn} {now : Nat} {out r : List Nat} (hr : Runs un ss Q now out r) : PInv un L ss Q now out → Gap per ss Q → (∃ u f0 N, Win un L m ws u ss Q now f0 N) → (∀ v, out[i]? = some v → v ≤ m.j + ws + tm m) → ∀ v, r[i]? = some v → v ≤ m.j + ws + tm m := by
  have hm := List.mem_of_getElem? hi
  have hps : ∀ {ss : List Sr}, ss.map Sr.m = L → ∀ s ∈ ss, per (fld s.m) = s.m.p := fun hms s hs => hper _ (by rw [← hms]; exact List.mem_map.2 ⟨s, hs, rfl⟩)
  induction hr with
  | @halt ss Q now out h1 h2 => exact fun _ _ _ ho => ho
  | @wait ss Q now t out r h1 h2 h3 ih =>
    intro hI hg hw ho
    have hI1 := hI.takes
    have hg1 := hg.takes (un := un) (now := now) (hps hI.ms) hI.flds
    rw [h1] at hI1 hg1
    refine ih (hI1.wait h2).1 hg1 ⟨t, af (ss.map (drS un now)), fun _ => 0, ⟨fun s hs => ?_, fun s hs _ => ?_, fun _ _ => Nat.zero_le _, rfl, by omega⟩⟩ ho
    · rw [af_eq hI1.flds hs, Nat.zero_mul]
      exact ⟨Nat.le_refl _, fun x hx => by cases hx⟩
    · rw [af_eq hI1.flds hs]
      by_cases hq : s.q < un
      · have h4 := (nxt_min (un := un) (ss.map (drS un now)) (0, false) (by show (nxt un _).2 = true; rw [h2])).2 s hs hq
        rw [show (ss.map (drS un now)).foldl (nxtK un) (0, false) = (t, true) from h2] at h4
        have := hg1.qj s hs
        exact .inl (Nat.le_trans h4 this)
      · exact .inr ⟨by omega, fun x hx => by cases hx⟩
  | @go ss Q now out r w s h1 h2 h3 ih =>
    intro hI hg ⟨u, f0, N, hW⟩ ho
    have hI1 := hI.takes
    have hg1 := hg.takes (un := un) (now := now) (hps hI.ms) hI.flds
    have hW1 := hW.takes hI.flds hg.qj
    have h2' : (ss.map (drS un now))[w.who]? = some (drS un now s) := by rw [List.getElem?_map, h2]; rfl
    obtain ⟨k1, k2, _⟩ := hI1.go (s := drS un now s) h1 h2'
    obtain ⟨s3, e1, e2, _⟩ := hI1.wk w (List.mem_of_getElem? h1)
    rw [h2'] at e1
    injection e1 with e1
    subst e1
    have hend : ∀ s ∈ ss.map (drS un now), ¬ (s.q ≤ now ∧ s.q < un) := fun t ht => by
      obtain ⟨t0, ht0, rfl⟩ := List.mem_map.1 ht
      exact ((hI.ok t0 ht0).dr (now := now)).end_
    obtain ⟨g1, g2⟩ := hW1.go hI.goods hm hstep hfit hI1.ms (hps hI1.ms) hend hg1 h1 (List.mem_of_getElem? h2') e2 k1
    have hsub := List.eraseIdx_sublist (Q ++ wants un now 0 ss) (best (Q ++ wants un now 0 ss))
    refine ih k2 ⟨hg1.gap.sublist hsub, fun x hx => hg1.last x (hsub.subset hx), hg1.qj⟩ g1 (fun v hv => ?_)
    by_cases hwi : w.who = i
    · subst hwi
      have hsm : (drS un now s).m = m := by
        have : (ss.map (drS un now))[w.who]?.map Sr.m = some m := by rw [← List.getElem?_map, hI1.ms, hi]
        rw [h2'] at this
        injection this
      have hl2 : w.who < out.length := by
        have := (List.getElem?_eq_some_iff.1 hv).1
        unfold upd at this
        rwa [List.length_set] at this
      have hv0 := List.getElem?_eq_getElem hl2
      generalize out[w.who] = v0 at hv0
      have h5 := ho v0 hv0
      have h6 := g2 hsm
      have hsm' : s.m = m := hsm
      unfold upd at hv
      rw [List.getElem?_set_self hl2, List.getD_eq_getElem?_getD, hv0, hsm'] at hv
      injection hv with hv
      rw [← hv]
      show max v0 (now + tm m - w.ask) ≤ _
      omega
    · unfold upd at hv
      rw [List.getElem?_set_ne hwi] at hv
      exact ho v hv
def perOf (L : List Msg) (f : List UInt8) : Nat := match L.find? fun y => decide (fld y = f) with
  | some y => y.p
  | none => 0
theorem per_of {L : List Msg} (hG : Goods L) : ∀ y ∈ L, perOf L (fld y) = y.p := by
  intro y hy
  unfold perOf
  cases hf : L.find? fun t => decide (fld t = fld y) with
  | none =>
    have := List.find?_eq_none.1 hf y hy
    simp at this
  | some t =>
    have h1 := List.find?_some hf
    have h2 := List.mem_of_find?_eq_some hf
    obtain ⟨a, ha, ea⟩ := List.getElem_of_mem hy
    obtain ⟨b, hb, eb⟩ := List.getElem_of_mem h2
    have : a = b := Classical.byContradiction fun hne => hG.ne (List.getElem?_eq_getElem ha) (List.getElem?_eq_getElem hb) hne (by rw [ea, eb]; simpa using (of_decide_eq_true h1).symm)
    subst this
    rw [← eb, ea]
/-- None takes longer than was reckoned. -/
theorem worst_play {un : Nat} {L : List Msg} {offs r : List Nat} (hG : Goods L) (hun : un ≤ 1048576) (hlen : offs.length = L.length) (hoff : ∀ (j : Nat) (m : Msg) (o : Nat), L[j]? = some m → offs[j]? = some o → o ≤ m.j) (hr : Runs un (start L offs) [] 0 (List.replicate L.length 0) r)
    {i : Nat} {m : Msg} (hi : L[i]? = some m) (hf : (worstS L m).2 = true) : ∀ v, r[i]? = some v → v ≤ (worstS L m).1 := by
  obtain ⟨ws, h1, h2, h3, h4⟩ := iter_true _ _ (wB_le _ _ _) hf
  intro v hv
  show v ≤ (wIter L m (m.p + 1) (wB L m)).1
  rw [h3]
  refine runs_win (per_of hG) hi h2 (by omega) hr (start_inv hG hlen hun hoff) ⟨List.Pairwise.nil, (fun x hx => by cases hx), fun s hs => ?_⟩ ⟨0, fun _ => 0, fun _ => 0, ⟨fun s hs => ⟨by omega, fun x hx => by cases hx⟩, fun s hs _ => .inl (Nat.zero_le _), fun _ _ => Nat.zero_le _, rfl, Nat.zero_le _⟩⟩ (fun v hv => ?_) v hv
  · obtain ⟨n, hn, rfl⟩ := List.getElem_of_mem hs
    have hx := List.getElem?_eq_getElem hn
    unfold start at hx
    rw [List.getElem?_zipWith] at hx
    cases hm : L[n]? with
    | none => rw [hm] at hx; simp at hx
    | some m' =>
      cases ho : offs[n]? with
      | none => rw [hm, ho] at hx; simp at hx
      | some o =>
        rw [hm, ho] at hx
        have he : (⟨m', 0, o⟩ : Sr) = (start L offs)[n] := by
          unfold start
          simpa using hx
        rw [← he]
        show o ≤ 0 + m'.j
        have := hoff n m' o hm ho
        omega
  · have := List.eq_of_mem_replicate (List.mem_of_getElem? hv)
    omega
end Go.Proofs.YtjleekdidedhaaaDoor

/- Layer 25: the document's Play: its loops: by walks. -/
set_option linter.unusedVariables false
set_option linter.unusedSimpArgs false
set_option maxRecDepth 100000
set_option maxHeartbeats 4000000
namespace Go.Proofs.YtjleekdidedhaaaDoor
open Sx
/-- A slice that is only read, with room behind it or none. -/
def Sl {α : Type} (f : α → List Value) (k : Nat) (sv : Value) (H : Heap) (L : List α) : Prop := ∃ a c, sv = .slice a L.length c ∧ L.length ≤ c ∧ (a = none ∨ ∃ r o, a = some ⟨r, o, none⟩) ∧ InS f k sv H L
section
variable {α : Type} {f : α → List Value} {k e : Nat} {H H' : Heap} {sv : Value} {L L1 : List α}
theorem Sl.mono (h : Sl f k sv H L) (hs : ∀ z ∈ H, z ∈ H') : Sl f k sv H' L := by
  obtain ⟨a, c, h1, h2, h4, h3⟩ := h
  exact ⟨a, c, h1, h2, h4, h3.mono hs⟩
theorem Sl.nil : Sl f k (.slice none 0 0) H ([] : List α) := ⟨none, 0, rfl, Nat.le_refl _, .inl rfl, InS.nil⟩
theorem Sl.buf {q c N : Nat} (hk : ∀ x, (f x).length = k) (h1 : L.length ≤ c) (h2 : c ≤ maxLen) (hm : (q, .buf e (L.flatMap f) N) ∈ H) : Sl f k (.slice (some ⟨q, 0, none⟩) L.length c) H L :=
  ⟨_, c, rfl, h1, .inr ⟨_, _, rfl⟩, InS.buf hm rfl hk (Nat.le_trans h1 h2)⟩
theorem Sl.take {a : Option Addr} {c n : Nat} (h : Sl f k (.slice a L.length c) H L) (hn : n ≤ L.length) : InS f k (.slice a n c) H (L.take n) ∧ (L.take n).length = n := by
  obtain ⟨a', c', e1, h2, _, h3⟩ := h
  have hl : (L.take n).length = n := by simp; omega
  refine ⟨?_, hl⟩
  obtain ⟨a2, c2, e2, hml, h4⟩ := h3
  injection e2 with e2 _ e3
  subst e2 e3
  refine ⟨a, c, by rw [hl], by omega, ?_⟩
  rcases h4 with rfl | ⟨r, o, b, h5, h6, h7⟩
  · exact .inl (by simp)
  · refine .inr ⟨r, o, b, h5, h6, fun j x i v hj hv hi => h7 j x i v ?_ hv hi⟩
    rw [List.getElem?_take] at hj
    split at hj
    · exact hj
    · cases hj
/-- From n on. -/
theorem Sl.drop {a : Option Addr} {c n : Nat} (h : Sl f k (.slice a L.length c) H L) (hn : n ≤ L.length) :
    (c = n → Sl f k (.slice a (L.length - n) (c - n)) H (L.drop n)) ∧ ∀ r o, a = some ⟨r, o, none⟩ → Sl f k (.slice (some ⟨r, o + n * k, none⟩) (L.length - n) (c - n)) H (L.drop n) := by
  obtain ⟨a', c', e1, h2, h8, h3⟩ := h
  injection e1 with e1 _ e3
  subst e1 e3
  have hl : (L.drop n).length = L.length - n := by simp
  obtain ⟨a2, c2, e2, hml, h4⟩ := h3
  injection e2 with e2 _ e3
  subst e2 e3
  refine ⟨fun hc => ⟨a, c - n, by rw [hl], by omega, h8, ⟨a, c - n, by rw [hl], by omega, .inl (List.drop_eq_nil_of_le (by omega))⟩⟩, fun r o ha => ⟨_, c - n, by rw [hl], by omega, .inr ⟨_, _, rfl⟩, ⟨_, c - n, by rw [hl], by omega, ?_⟩⟩⟩
  rcases h4 with rfl | ⟨r', o', b, h5, h6, h7⟩
  · exact .inl (by simp)
  · rw [ha] at h5
    injection h5 with h5
    injection h5 with h5 h8
    subst h5 h8
    refine .inr ⟨r, o + n * k, b, rfl, h6, fun j x i v hj hv hi => ?_⟩
    have := h7 (n + j) x i v (by rw [List.getElem?_drop] at hj; exact hj) hv hi
    rw [Nat.add_mul] at this
    rw [show o + n * k + j * k + i = o + (n * k + j * k) + i by omega]
    exact this
theorem Sl.cases {a : Option Addr} {c : Nat} (h : Sl f k (.slice a L.length c) H L) : L.length ≤ c ∧ InS f k (.slice a L.length c) H L ∧ (a = none ∧ L = [] ∨ ∃ r o, a = some ⟨r, o, none⟩) := by
  obtain ⟨a', c', e1, h2, h8, h3⟩ := h
  injection e1 with e1 _ e3
  subst e1 e3
  refine ⟨h2, h3, ?_⟩
  rcases h8 with rfl | h8
  · obtain ⟨a2, c2, e2, _, h4⟩ := h3
    injection e2 with e2 _ _
    subst e2
    rcases h4 with h4 | ⟨_, _, _, h4, _⟩
    · exact .inl ⟨rfl, h4⟩
    · cases h4
  · exact .inr h8
/-- A slice behind a buffer of the call's own. -/
theorem RawV.appS {P : Program} {o : Oper} {t bytes q c : Nat} {xs xx : Operand} {B : Heap} {K : Value → Heap → Prop} {L2 : List α} (hin : InS f k sv B L2) (h1 : L1.length ≤ c) (h2 : c ≤ maxLen) (ho : o.op = .call { callee := .builtin .append, args := #[xs, xx], argTypes := #[t, t] }) (ht : tyOk P t e k bytes = true)
    (hk0 : 0 < k) (hk : ∀ x, (f x).length = k) (h3 : ∀ x, ∀ u ∈ f x, u.oneCell' = true) (h63 : (L1 ++ L2).length ≤ maxLen) (hb : (L1 ++ L2).length * bytes ≤ 140737488355328)
    (h : ∀ q' c', (L1 ++ L2).length ≤ c' → c' ≤ maxLen → K (.slice (some ⟨q', 0, none⟩) (L1 ++ L2).length c') ((q', .buf e ((L1 ++ L2).flatMap f) (c' * k)) :: B)) :
    RawV P o [.slice (some ⟨q, 0, none⟩) L1.length c, sv] ((q, .buf e (L1.flatMap f) (c * k)) :: B) K := by
  obtain ⟨a, c2, rfl, hml, h4⟩ := hin
  rcases h4 with rfl | ⟨r, o', b, rfl, hm, hc⟩
  · have := h q c (by simpa using h1) h2
    rw [List.append_nil] at this
    exact RawV.appE ho ht h1 this
  · have hl : (L2.flatMap f).length = L2.length * k := flat_len hk L2
    have hcc : ∀ (j : Nat) v, (L2.flatMap f)[j]? = some v → b.cell (o' + j) = some v := fun j v hv => by
      obtain ⟨j', i, x, rfl, hi, hj, hv⟩ := flat_inv hk hv
      have := hc j' x i v hj hv hi
      rwa [Nat.add_assoc] at this
    rw [List.length_append] at h63 hb h
    refine RawV.appT (A := []) ho ht hk0 (flat_len hk L1) rfl h1 h2 (.tail _ hm) hl hcc (fun u hu => ?_) h63 hb (fun q' c' k1 k2 => ?_)
    · obtain ⟨x, _, hx⟩ := List.mem_flatMap.1 hu
      exact h3 x u hx
    · have := h q' c' k1 k2
      rw [List.flatMap_append] at this
      exact this
end
abbrev qC (x : Wn) : List Value := [.int .i64 (x.who : Int), .int .u64 (x.ask : Int)]
theorem qC_len (x : Wn) : (qC x).length = 2 := rfl
theorem qC_one (x : Wn) : ∀ u ∈ qC x, u.oneCell' = true := by
  intro u hu
  simp only [qC, List.mem_cons, List.not_mem_nil, or_false] at hu
  rcases hu with rfl | rfl <;> rfl
abbrev aB (r : Nat) (l : List Nat) (n : Nat) : Nat × Blk := (r, .buf 28 (l.map u64) n)
inductive S18a (A0 A2 A7 A8 A9 A10 A11 A12 A13 A14 A15 : Value) : List Value → Prop
  | mk {r1 r3 r4 r5 r6 r16 r17 r18 r19 r20 r21 r22 r23 r24 r25 r26 r27 r28 r29 r30 r31 r32 r33 r34 r35 r36 r37 r38 r39 r40 r41 r42 r43 r44 r45 r46 r47 r48 r49 r50 r51 r52 r53 r54 r55 r56 r57 r58 r59 r60 r61 r62 r63 r64 r65 r66 r67 r68 r69 r70 r71 r72 r73 r74 r75 r76 r77 r78 r79 r80 r81 r82 r83 r84 r85 r86 r87 r88 r89 r90 r91 r92 r93 r94 r95 r96 r97 r98 r99 r100 r101 r102 r103 r104 r105 r106 r107 r108 r109 r110 r111 r112 r113 r114 r115 r116 r117 r118 r119 r120 r121 r122 r123 r124 r125 r126 r127 r128 r129 r130 r131 r132 r133 r134 r135 r136 r137 r138 r139 r140 r141 r142 r143 r144 r145 r146 r147 r148 r149 r150 r151 r152 r153 r154 r155 r156 r157 r158 r159 r160 r161 r162 r163 r164 r165 r166 r167 r168 r169 r170 r171 r172 : Value} : S18a A0 A2 A7 A8 A9 A10 A11 A12 A13 A14 A15 [A0, r1, A2, r3, r4, r5, r6, A7, A8, A9, A10, A11, A12, A13, A14, A15, r16, r17, r18, r19, r20, r21, r22, r23, r24, r25, r26, r27, r28, r29, r30, r31, r32, r33, r34, r35, r36, r37, r38, r39, r40, r41, r42, r43, r44, r45, r46, r47, r48, r49, r50, r51, r52, r53, r54, r55, r56, r57, r58, r59, r60, r61, r62, r63, r64, r65, r66, r67, r68, r69, r70, r71, r72, r73, r74, r75, r76, r77, r78, r79, r80, r81, r82, r83, r84, r85, r86, r87, r88, r89, r90, r91, r92, r93, r94, r95, r96, r97, r98, r99, r100, r101, r102, r103, r104, r105, r106, r107, r108, r109, r110, r111, r112, r113, r114, r115, r116, r117, r118, r119, r120, r121, r122, r123, r124, r125, r126, r127, r128, r129, r130, r131, r132, r133, r134, r135, r136, r137, r138, r139, r140, r141, r142, r143, r144, r145, r146, r147, r148, r149, r150, r151, r152, r153, r154, r155, r156, r157, r158, r159, r160, r161, r162, r163, r164, r165, r166, r167, r168, r169, r170, r171, r172]
inductive S18b (A0 A2 A7 A8 A9 A10 A11 A12 A16 A17 : Value) : List Value → Prop
  | mk {r1 r3 r4 r5 r6 r13 r14 r15 r18 r19 r20 r21 r22 r23 r24 r25 r26 r27 r28 r29 r30 r31 r32 r33 r34 r35 r36 r37 r38 r39 r40 r41 r42 r43 r44 r45 r46 r47 r48 r49 r50 r51 r52 r53 r54 r55 r56 r57 r58 r59 r60 r61 r62 r63 r64 r65 r66 r67 r68 r69 r70 r71 r72 r73 r74 r75 r76 r77 r78 r79 r80 r81 r82 r83 r84 r85 r86 r87 r88 r89 r90 r91 r92 r93 r94 r95 r96 r97 r98 r99 r100 r101 r102 r103 r104 r105 r106 r107 r108 r109 r110 r111 r112 r113 r114 r115 r116 r117 r118 r119 r120 r121 r122 r123 r124 r125 r126 r127 r128 r129 r130 r131 r132 r133 r134 r135 r136 r137 r138 r139 r140 r141 r142 r143 r144 r145 r146 r147 r148 r149 r150 r151 r152 r153 r154 r155 r156 r157 r158 r159 r160 r161 r162 r163 r164 r165 r166 r167 r168 r169 r170 r171 r172 : Value} : S18b A0 A2 A7 A8 A9 A10 A11 A12 A16 A17 [A0, r1, A2, r3, r4, r5, r6, A7, A8, A9, A10, A11, A12, r13, r14, r15, A16, A17, r18, r19, r20, r21, r22, r23, r24, r25, r26, r27, r28, r29, r30, r31, r32, r33, r34, r35, r36, r37, r38, r39, r40, r41, r42, r43, r44, r45, r46, r47, r48, r49, r50, r51, r52, r53, r54, r55, r56, r57, r58, r59, r60, r61, r62, r63, r64, r65, r66, r67, r68, r69, r70, r71, r72, r73, r74, r75, r76, r77, r78, r79, r80, r81, r82, r83, r84, r85, r86, r87, r88, r89, r90, r91, r92, r93, r94, r95, r96, r97, r98, r99, r100, r101, r102, r103, r104, r105, r106, r107, r108, r109, r110, r111, r112, r113, r114, r115, r116, r117, r118, r119, r120, r121, r122, r123, r124, r125, r126, r127, r128, r129, r130, r131, r132, r133, r134, r135, r136, r137, r138, r139, r140, r141, r142, r143, r144, r145, r146, r147, r148, r149, r150, r151, r152, r153, r154, r155, r156, r157, r158, r159, r160, r161, r162, r163, r164, r165, r166, r167, r168, r169, r170, r171, r172]
inductive S18o (A0 A2 A7 A8 A9 A10 A11 A12 : Value) : List Value → Prop
  | mk {r1 r3 r4 r5 r6 r13 r14 r15 r16 r17 r18 r19 r20 r21 r22 r23 r24 r25 r26 r27 r28 r29 r30 r31 r32 r33 r34 r35 r36 r37 r38 r39 r40 r41 r42 r43 r44 r45 r46 r47 r48 r49 r50 r51 r52 r53 r54 r55 r56 r57 r58 r59 r60 r61 r62 r63 r64 r65 r66 r67 r68 r69 r70 r71 r72 r73 r74 r75 r76 r77 r78 r79 r80 r81 r82 r83 r84 r85 r86 r87 r88 r89 r90 r91 r92 r93 r94 r95 r96 r97 r98 r99 r100 r101 r102 r103 r104 r105 r106 r107 r108 r109 r110 r111 r112 r113 r114 r115 r116 r117 r118 r119 r120 r121 r122 r123 r124 r125 r126 r127 r128 r129 r130 r131 r132 r133 r134 r135 r136 r137 r138 r139 r140 r141 r142 r143 r144 r145 r146 r147 r148 r149 r150 r151 r152 r153 r154 r155 r156 r157 r158 r159 r160 r161 r162 r163 r164 r165 r166 r167 r168 r169 r170 r171 r172 : Value} : S18o A0 A2 A7 A8 A9 A10 A11 A12 [A0, r1, A2, r3, r4, r5, r6, A7, A8, A9, A10, A11, A12, r13, r14, r15, r16, r17, r18, r19, r20, r21, r22, r23, r24, r25, r26, r27, r28, r29, r30, r31, r32, r33, r34, r35, r36, r37, r38, r39, r40, r41, r42, r43, r44, r45, r46, r47, r48, r49, r50, r51, r52, r53, r54, r55, r56, r57, r58, r59, r60, r61, r62, r63, r64, r65, r66, r67, r68, r69, r70, r71, r72, r73, r74, r75, r76, r77, r78, r79, r80, r81, r82, r83, r84, r85, r86, r87, r88, r89, r90, r91, r92, r93, r94, r95, r96, r97, r98, r99, r100, r101, r102, r103, r104, r105, r106, r107, r108, r109, r110, r111, r112, r113, r114, r115, r116, r117, r118, r119, r120, r121, r122, r123, r124, r125, r126, r127, r128, r129, r130, r131, r132, r133, r134, r135, r136, r137, r138, r139, r140, r141, r142, r143, r144, r145, r146, r147, r148, r149, r150, r151, r152, r153, r154, r155, r156, r157, r158, r159, r160, r161, r162, r163, r164, r165, r166, r167, r168, r169, r170, r171, r172]
section
variable {H : Heap} {L : List Msg}
abbrev nW (i : Nat) (m : Msg) (l : List Nat) : List Wn := l.map fun a => ⟨i, fld m, a⟩
def I18a (sv vo fv lv av : Value) (va vb : Value) (un now i : Nat) (m : Msg) (az qz out : List Nat) (ra rb ro n nb : Nat) (Qs : List Wn) (tot : List Nat × Nat × Nat) (H : Heap) (y : List Nat × Nat × Nat × Nat) (S : List Value) (H' : Heap) : Prop :=
  (y.1 ++ (drF m.p un now y.2.2.2 y.2.1 y.2.2.1).1 = tot.1 ∧ (drF m.p un now y.2.2.2 y.2.1 y.2.2.1).2 = tot.2) ∧ (y.2.1 ≤ y.2.2.1 ∧ y.2.2.1 < y.2.1 + m.p ∧ y.2.2.1 ≤ un + 4294967296 ∧ un ≤ y.2.2.2 + y.2.2.1) ∧
    ∃ (qa : Option Addr) (qc : Nat) (M : Heap), Grow qC 2 80 (.slice qa (Qs ++ nW i m y.1).length qc) (Qs ++ nW i m y.1) M ∧ S18a sv (.int .u64 (un : Int)) va vb vo (.slice qa (Qs ++ nW i m y.1).length qc) (.int .u64 (now : Int)) fv lv av (.int .i64 (i : Int)) S ∧
      H' = aB ra (az.set i y.2.1) n :: aB rb (qz.set i y.2.2.1) nb :: aB ro out n :: (M ++ H)
theorem l18a {Q : Post} {S0 : List Value} {sa : Option Addr} {sc : Nat} {vo fv lv av : Value} {un now i n nb ra rb ro a0 q0 qc : Nat} {qa : Option Addr} {az qz out : List Nat} {m : Msg} {Qs : List Wn} {tot : List Nat × Nat × Nat} {M0 : Heap} {nA nB : Nat}
    (hin : InS mC 5 (.slice sa L.length sc) H L) (hx : L[i]? = some m) (hg : Good m) (ha0 : az[i]? = some a0) (hq0 : qz[i]? = some q0) (hasl : az.length = nA) (hqsl : qz.length = nB) (h1 : a0 ≤ q0) (h2 : q0 < a0 + m.p) (h3 : q0 ≤ un + 4294967296) (htot : drF m.p un now (un + 1) a0 q0 = tot)
    (hcap : (Qs ++ nW i m tot.1).length ≤ 67108864) (hG : Grow qC 2 80 (.slice qa Qs.length qc) Qs M0) (hun : un ≤ 1048576)
    (hS : S18a (.slice sa L.length sc) (.int .u64 (un : Int)) (.slice (some ⟨ra, 0, none⟩) nA n) (.slice (some ⟨rb, 0, none⟩) nB nb) vo (.slice qa Qs.length qc) (.int .u64 (now : Int)) fv lv av (.int .i64 (i : Int)) S0)
    (hQ : ∀ qa qc M S, Grow qC 2 80 (.slice qa (Qs ++ nW i m tot.1).length qc) (Qs ++ nW i m tot.1) M → S18a (.slice sa L.length sc) (.int .u64 (un : Int)) (.slice (some ⟨ra, 0, none⟩) nA n) (.slice (some ⟨rb, 0, none⟩) nB nb) vo (.slice qa (Qs ++ nW i m tot.1).length qc) (.int .u64 (now : Int)) fv lv av (.int .i64 (i : Int)) S →
      Q (.exit 4) S (aB ra (az.set i tot.2.1) n :: aB rb (qz.set i tot.2.2) nb :: aB ro out n :: (M ++ H))) :
    SLoop Tryd.prog X18_l1 Q S0 (aB ra az n :: aB rb qz nb :: aB ro out n :: (M0 ++ H)) := by
  have hia := (List.getElem?_eq_some_iff.1 ha0).1
  have hiq := (List.getElem?_eq_some_iff.1 hq0).1
  have e0 : az.set i a0 = az := by
    obtain ⟨hlt, e⟩ := List.getElem?_eq_some_iff.1 ha0
    rw [← e, List.set_getElem_self]
  have e1 : qz.set i q0 = qz := by
    obtain ⟨hlt, e⟩ := List.getElem?_eq_some_iff.1 hq0
    rw [← e, List.set_getElem_self]
  refine SLoop.invA (I18a (.slice sa L.length sc) vo fv lv av (.slice (some ⟨ra, 0, none⟩) nA n) (.slice (some ⟨rb, 0, none⟩) nB nb) un now i m az qz out ra rb ro n nb Qs tot H) (fun y => y.2.2.2) ([], a0, q0, un + 1) (Keep.all ⟨⟨by rw [← htot]; rfl, by rw [← htot]⟩, ⟨h1, h2, h3, by show un ≤ un + 1 + q0; omega⟩, qa, qc, M0, by simpa [nW] using hG, by simpa [nW] using hS, by rw [e0, e1]⟩) ?_
  clear hG hS h1 h2 h3 e0 e1
  rintro ⟨ak, a, q, f⟩ S H' ⟨⟨h1, h2⟩, ⟨h3, h4, h5, h6⟩, qa, qc, M, hG, hS, rfl⟩ R hR
  dsimp only at h1 h2 h3 h4 h5 h6 hG hS hR ⊢
  cases hS
  have hgp := hg.p2
  have hgp1 := hg.p1
  obtain ⟨mr, mo, mc, mb, e1, hmb, hmc⟩ := inS_at hin (fun _ => rfl) hx
  injection e1 with e1 _ e3
  subst e1
  have hm3 := hmc 3 _ rfl
  have hiL := (List.getElem?_eq_some_iff.1 hx).1
  have hva : (az.set i a)[i]? = some a := by rw [List.getElem?_set_self hia]
  have hvq : (qz.set i q)[i]? = some q := by rw [List.getElem?_set_self hiq]
  have hil : i < (az.set i a).length := by rw [List.length_set]; exact hia
  have hil2 : i < (qz.set i q).length := by rw [List.length_set]; exact hiq
  have hiA : i < nA := by omega
  have hiB : i < nB := by omega
  by_cases hc : q ≤ now ∧ q < un
  · obtain ⟨f, rfl⟩ : ∃ f', f = f' + 1 := ⟨f - 1, by omega⟩
    rw [drF, if_pos hc] at h1 h2
    have hl1 : (Qs ++ nW i m ak).length + 1 ≤ 67108864 := by
      have h1l := congrArg List.length h1
      simp only [nW, List.length_append, List.length_map, List.length_cons] at hcap h1l ⊢
      omega
    have hsnoc : Qs ++ nW i m ak ++ [(⟨i, fld m, a⟩ : Wn)] = Qs ++ nW i m (ak ++ [a]) := by simp [nW]
    have hsl : (Qs ++ nW i m ak).length + 1 = (Qs ++ nW i m (ak ++ [a])).length := by
      have := congrArg List.length hsnoc
      rw [List.length_append] at this
      exact this
    have hnext : ∀ S q' c' (r2 : Nat × Blk), Grow qC 2 80 (.slice (some ⟨q', 0, none⟩) ((Qs ++ nW i m ak).length + 1) c') (Qs ++ nW i m ak ++ [(⟨i, fld m, a⟩ : Wn)]) [(q', .buf 80 ((Qs ++ nW i m ak ++ [(⟨i, fld m, a⟩ : Wn)]).flatMap qC) (c' * 2))] →
        S18a (.slice (some ⟨mr, mo, none⟩) L.length sc) (.int .u64 (un : Int)) (.slice (some ⟨ra, 0, none⟩) nA n) (.slice (some ⟨rb, 0, none⟩) nB nb) vo (.slice (some ⟨q', 0, none⟩) ((Qs ++ nW i m ak).length + 1) c') (.int .u64 (now : Int)) fv lv av (.int .i64 (i : Int)) S →
        R S ((q', .buf 80 ((Qs ++ nW i m ak ++ [(⟨i, fld m, a⟩ : Wn)]).flatMap qC) (c' * 2)) :: r2 :: aB ra ((az.set i a).set i (a + m.p)) n :: aB rb ((qz.set i q).set i (a + m.p)) nb :: aB ro out n :: H) := by
      intro S q' c' r2 g1 g2
      rw [List.set_set, List.set_set]
      rw [hsl] at g1 g2
      rw [hsnoc] at g1 ⊢
      refine hR (ak ++ [a], a + m.p, a + m.p, f) S _ (Nat.lt_succ_self f) (Keep.glue [[(q', .buf 80 ((Qs ++ nW i m (ak ++ [a])).flatMap qC) (c' * 2))], [r2], [aB ra (az.set i (a + m.p)) n, aB rb (qz.set i (a + m.p)) nb, aB ro out n], H] [0, 1, 2, 3] [2, 0, 3] [1] (by decide) rfl ?_)
      exact ⟨⟨by rw [← h1]; simp, h2⟩, ⟨Nat.le_refl _, by show a + m.p < a + m.p + m.p; omega, by show a + m.p ≤ un + 4294967296; omega, by show un ≤ f + (a + m.p); omega⟩, _, _, _, g1, g2, rfl⟩
    have happ : ∀ r2 (o : Oper) (xs xx : Operand) (K2 : Value → Heap → Prop), o.op = .call { callee := .builtin .append, args := #[xs, xx], argTypes := #[76, 76] } →
        (∀ q' c', Grow qC 2 80 (.slice (some ⟨q', 0, none⟩) ((Qs ++ nW i m ak).length + 1) c') (Qs ++ nW i m ak ++ [(⟨i, fld m, a⟩ : Wn)]) [(q', .buf 80 ((Qs ++ nW i m ak ++ [(⟨i, fld m, a⟩ : Wn)]).flatMap qC) (c' * 2))] → K2 (.slice (some ⟨q', 0, none⟩) ((Qs ++ nW i m ak).length + 1) c') ((q', .buf 80 ((Qs ++ nW i m ak ++ [(⟨i, fld m, a⟩ : Wn)]).flatMap qC) (c' * 2)) :: (r2, .row 80 [.int .i64 (i : Int), .int .u64 (a : Int)] (0, 0)) :: aB ra (az.set i a) n :: aB rb (qz.set i q) nb :: aB ro out n :: H)) →
        RawV Tryd.prog o [.slice qa (Qs ++ nW i m ak).length qc, .slice (some ⟨r2, 0, none⟩) 1 1] ((r2, .row 80 [.int .i64 (i : Int), .int .u64 (a : Int)] (0, 0)) :: aB ra (az.set i a) n :: aB rb (qz.set i q) nb :: aB ro out n :: (M ++ H)) K2 := by
      intro r2 o xs xx K2 ho hk
      refine RawV.grow1b (A := [(r2, .row 80 [.int .i64 (i : Int), .int .u64 (a : Int)] (0, 0)), aB ra (az.set i a) n, aB rb (qz.set i q) nb, aB ro out n]) (B := H) (x := ⟨i, fld m, a⟩) (bytes := 16) hG rfl (.head _) ho (by kernel_rfl) (by decide) qC_len (qC_one _) (by simp only [maxLen]; omega) (by omega) (fun q' c' j1 j2 => ?_)
      refine hk q' c' ?_
      have hgb := Grow.buf (f := qC) (k := 2) (e := 80) (q := q') (c := c') (L := Qs ++ nW i m ak ++ [(⟨i, fld m, a⟩ : Wn)]) (by rw [List.length_append]; exact j1) j2
      rw [List.length_append] at hgb
      exact hgb
    have hv : IntKind.u64.wrap ((a : Int) + (m.p : Int)) = ((a + m.p : Nat) : Int) := by
      rw [← Int.natCast_add]; exact wrap_nat rfl (by show _ < 18446744073709551616; omega)
    have hva2 : ((az.set i a).set i (a + m.p))[i]? = some (a + m.p) := by rw [List.getElem?_set_self (by rw [List.length_set]; exact hia)]
    clear hR hQ
    repeat' ((conv => whnf); (first | with_reducible refine Val.to _ hv ?_ | refine Cell.nth hvq ?_ | refine Cell.nth hva ?_ | refine Cell.nth hva2 ?_ | refine Branch.dt (by omega) ?_ | refine Branch.t rfl ?_ | refine Idx.nat (by omega) ?_ | refine happ _ _ _ _ _ rfl (fun q' c' g1 => ?_) | refine Look.cell (.tail _ (.tail _ (.tail _ (.tail _ (.tail _ hmb))))) hm3 ?_ | refine Put.nthG (g := u64) (a + m.p) hil ?_ | refine Put.nthG (g := u64) (a + m.p) hil2 ?_ | exact hnext _ _ _ _ g1 .mk | refine New.mk (fun _ => ?_) | refine Look.at0 ?_ | refine Cell.row ?_ | refine Cell.buf ?_ | refine Cells.row rfl ?_ | refine Put.row rfl ?_ | refine Put.buf rfl ?_ | refine Look.at1 ?_ | refine Look.at2 ?_ | refine Look.at3 ?_ | refine Look.at4 ?_ | refine Look.at5 ?_ | refine Look.at6 ?_ | refine Look.at7 ?_ | refine Look.at8 ?_ | with_reducible refine Val.i64 (by omega) (by omega) ?_ | with_reducible refine Val.u8 (by omega) (by omega) ?_ | with_reducible refine Val.u32 (by omega) (by omega) ?_ | with_reducible refine Val.u64 (by omega) (by omega) ?_ | with_reducible refine Val.u8m ?_ | with_reducible refine Val.u32m ?_ | with_reducible refine Val.u64m ?_ | with_reducible refine Val.shr8 ?_ | with_reducible refine Val.shr16 (by decide) ?_ | with_reducible refine Val.shr24 (by decide) ?_ | with_reducible refine Val.raw ?_ | refine Branch.not ?_ | refine Branch.and ?_ | refine Branch.or ?_ | refine Branch.dt (by assumption) ?_ | refine Branch.df (by assumption) ?_ | refine Branch.dt rfl ?_ | refine Branch.dt (by omega) ?_ | refine Branch.df (by omega) ?_ | refine Branch.t rfl ?_ | refine Branch.f rfl ?_ | refine Branch.t (by assumption) ?_ | refine Branch.f (by assumption) ?_ | refine Branch.d (fun _ => ?_) (fun _ => ?_) | refine Branch.mk (fun _ => ?_) (fun _ => ?_) | refine Need.mk (by first | omega | decide | rfl) ?_ | refine Idx.nat (by omega) ?_ | refine Idx.auto (by first | omega | decide) (by first | omega | decide) ?_ | refine Cell.ro rfl ?_ | refine SDraw.all (by kernel_rfl) ?_ | refine Kept.k0 ?_ | refine Kept.k1 ?_ | refine Kept.k2 ?_ | refine Kept.k3 ?_ | refine Kept.k4 ?_))
  · have hd : drF m.p un now f a q = ([], a, q) := by
      cases f with
      | zero => rfl
      | succ f => rw [drF, if_neg hc]
    rw [hd] at h1 h2
    rw [List.append_nil] at h1
    subst h1
    have hq1 := hQ qa qc M
    rw [← h2] at hq1
    clear hR hQ
    by_cases hc1 : q < un
    · have hc2 : ¬ q ≤ now := fun h => hc ⟨h, hc1⟩
      repeat' ((conv => whnf); (first | refine Cell.nth hvq ?_ | refine Cell.nth hva ?_ | refine Branch.dt (by omega) ?_ | refine Branch.df (by omega) ?_ | refine Branch.t rfl ?_ | refine Idx.nat (by omega) ?_ | exact Keep.all (hq1 _ hG .mk) | exact hq1 _ hG .mk | refine New.mk (fun _ => ?_) | refine Look.at0 ?_ | refine Cell.row ?_ | refine Cell.buf ?_ | refine Cells.row rfl ?_ | refine Put.row rfl ?_ | refine Put.buf rfl ?_ | refine Look.at1 ?_ | refine Look.at2 ?_ | refine Look.at3 ?_ | refine Look.at4 ?_ | refine Look.at5 ?_ | refine Look.at6 ?_ | refine Look.at7 ?_ | refine Look.at8 ?_ | with_reducible refine Val.i64 (by omega) (by omega) ?_ | with_reducible refine Val.u8 (by omega) (by omega) ?_ | with_reducible refine Val.u32 (by omega) (by omega) ?_ | with_reducible refine Val.u64 (by omega) (by omega) ?_ | with_reducible refine Val.u8m ?_ | with_reducible refine Val.u32m ?_ | with_reducible refine Val.u64m ?_ | with_reducible refine Val.shr8 ?_ | with_reducible refine Val.shr16 (by decide) ?_ | with_reducible refine Val.shr24 (by decide) ?_ | with_reducible refine Val.raw ?_ | refine Branch.not ?_ | refine Branch.and ?_ | refine Branch.or ?_ | refine Branch.dt (by assumption) ?_ | refine Branch.df (by assumption) ?_ | refine Branch.dt rfl ?_ | refine Branch.dt (by omega) ?_ | refine Branch.df (by omega) ?_ | refine Branch.t rfl ?_ | refine Branch.f rfl ?_ | refine Branch.t (by assumption) ?_ | refine Branch.f (by assumption) ?_ | refine Branch.d (fun _ => ?_) (fun _ => ?_) | refine Branch.mk (fun _ => ?_) (fun _ => ?_) | refine Need.mk (by first | omega | decide | rfl) ?_ | refine Idx.nat (by omega) ?_ | refine Idx.auto (by first | omega | decide) (by first | omega | decide) ?_ | refine Cell.ro rfl ?_ | refine SDraw.all (by kernel_rfl) ?_ | refine Kept.k0 ?_ | refine Kept.k1 ?_ | refine Kept.k2 ?_ | refine Kept.k3 ?_ | refine Kept.k4 ?_))
    · repeat' ((conv => whnf); (first | refine Cell.nth hvq ?_ | refine Cell.nth hva ?_ | refine Branch.df (by omega) ?_ | refine Branch.f rfl ?_ | refine Idx.nat (by omega) ?_ | exact Keep.all (hq1 _ hG .mk) | exact hq1 _ hG .mk | refine New.mk (fun _ => ?_) | refine Look.at0 ?_ | refine Cell.row ?_ | refine Cell.buf ?_ | refine Cells.row rfl ?_ | refine Put.row rfl ?_ | refine Put.buf rfl ?_ | refine Look.at1 ?_ | refine Look.at2 ?_ | refine Look.at3 ?_ | refine Look.at4 ?_ | refine Look.at5 ?_ | refine Look.at6 ?_ | refine Look.at7 ?_ | refine Look.at8 ?_ | with_reducible refine Val.i64 (by omega) (by omega) ?_ | with_reducible refine Val.u8 (by omega) (by omega) ?_ | with_reducible refine Val.u32 (by omega) (by omega) ?_ | with_reducible refine Val.u64 (by omega) (by omega) ?_ | with_reducible refine Val.u8m ?_ | with_reducible refine Val.u32m ?_ | with_reducible refine Val.u64m ?_ | with_reducible refine Val.shr8 ?_ | with_reducible refine Val.shr16 (by decide) ?_ | with_reducible refine Val.shr24 (by decide) ?_ | with_reducible refine Val.raw ?_ | refine Branch.not ?_ | refine Branch.and ?_ | refine Branch.or ?_ | refine Branch.dt (by assumption) ?_ | refine Branch.df (by assumption) ?_ | refine Branch.dt rfl ?_ | refine Branch.dt (by omega) ?_ | refine Branch.df (by omega) ?_ | refine Branch.t rfl ?_ | refine Branch.f rfl ?_ | refine Branch.t (by assumption) ?_ | refine Branch.f (by assumption) ?_ | refine Branch.d (fun _ => ?_) (fun _ => ?_) | refine Branch.mk (fun _ => ?_) (fun _ => ?_) | refine Need.mk (by first | omega | decide | rfl) ?_ | refine Idx.nat (by omega) ?_ | refine Idx.auto (by first | omega | decide) (by first | omega | decide) ?_ | refine Cell.ro rfl ?_ | refine SDraw.all (by kernel_rfl) ?_ | refine Kept.k0 ?_ | refine Kept.k1 ?_ | refine Kept.k2 ?_ | refine Kept.k3 ?_ | refine Kept.k4 ?_))
end
end Go.Proofs.YtjleekdidedhaaaDoor

