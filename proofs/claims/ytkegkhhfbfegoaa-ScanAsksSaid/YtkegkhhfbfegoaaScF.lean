/- Layer 20: all slaves of a list take a frame: by walks. -/
import Derived.Test.YtkegkhhfbfegoaaScE
set_option linter.unusedVariables false
set_option linter.unusedSimpArgs false
set_option maxRecDepth 100000
set_option maxHeartbeats 4000000
namespace Go.Proofs.Ytkegkhhfbfegoaa
open Sx Ls
def ptrs (ad : List Nat) : List Value := ad.map fun r => .pointer (some ⟨r, 0, none⟩)
/-- A slice of pointers in memory. -/
def SlO (tb : TypeId) (a : Option Addr) (cap : Nat) (Bh : Heap) (ad : List Nat) : Prop :=
  ad.length ≤ cap ∧ cap ≤ maxLen ∧ ((ad = [] ∧ Bh = [] ) ∨ ∃ r, a = some ⟨r, 0, none⟩ ∧ Bh = [(r, .buf tb (ptrs ad) (cap * 1))])
theorem SlO.has {tb : TypeId} {a : Option Addr} {cap : Nat} {Bh : Heap} {ad : List Nat} (h : SlO tb a cap Bh ad) (hm : 0 < ad.length) : ∃ r, a = some ⟨r, 0, none⟩ ∧ Bh = [(r, .buf tb (ptrs ad) (cap * 1))] := by
  rcases h.2.2 with ⟨rfl, _⟩ | h
  · simp at hm
  · exact h
theorem ptr_nth {tb : TypeId} {ad : List Nat} {j r N : Nat} {K : Value → Prop} (hj : ad[j]? = some r) (h : K (.pointer (some ⟨r, 0, none⟩))) : Cell (.buf tb (ptrs ad) N) (0 + j * 1) K :=
  Cell.get (by show (ptrs ad)[0 + j * 1]? = _; simp [ptrs, hj]) h
abbrev PL := Nat × L
abbrev PR := Nat × R
def rwL (x : PL) : Nat × Blk := (x.1, x.2.row none)
def rwR (x : PR) : Nat × Blk := (x.1, x.2.row)
def tkL (q : Q) (x : PL) : PL := (x.1, (x.2.take q).2)
def tkR (q : Q) (x : PR) : PR := (x.1, (x.2.take q).2)
def anL (q : Q) (x : PL) : Bool := (x.2.take q).1.is
def anR (q : Q) (x : PR) : Bool := (x.2.take q).1.is
theorem any_succ {α : Type} {p : α → Bool} {l : List α} {j : Nat} {x : α} (hx : l[j]? = some x) : (l.take (j + 1)).any p = ((l.take j).any p || p x) := by
  obtain ⟨hlt, rfl⟩ := List.getElem?_eq_some_iff.1 hx
  rw [List.take_succ_eq_append_getElem hlt, List.any_append]
  simp
inductive S30 (A3 A5 A10 A11 A12 : Value) : List Value → Prop
  | mk {r0 r1 r2 r4 r6 r7 r8 r9 r13 r14 r15 r16 r17 r18 r19 r20 r21 r22 r23 r24 r25 r26 r27 : Value} : S30 A3 A5 A10 A11 A12 [r0, r1, r2, A3, r4, A5, r6, r7, r8, r9, A10, A11, A12, r13, r14, r15, r16, r17, r18, r19, r20, r21, r22, r23, r24, r25, r26, r27]
inductive S32 (A0 A3 A5 A6 : Value) : List Value → Prop
  | mk {r1 r2 r4 r7 r8 r9 r10 r11 r12 r13 r14 r15 r16 r17 r18 r19 r20 r21 r22 r23 r24 r25 r26 r27 r28 : Value} : S32 A0 A3 A5 A6 [A0, r1, r2, A3, r4, A5, A6, r7, r8, r9, r10, r11, r12, r13, r14, r15, r16, r17, r18, r19, r20, r21, r22, r23, r24, r25, r26, r27, r28]
section
variable {K : Value → Heap → Prop} {a : Option Addr} {cap : Nat} {Bh : Heap} {q : Q} {ms : List PL} {rs : List PR}
noncomputable def atS (l : List Value) (i : Nat) : Nat := match getL l i with | .int _ i => i.toNat | _ => 0
noncomputable def MS (i n : Nat) (l : List Value) (_ : Heap) : Nat := n - atS l i
def I30 (p : Nat) (a : Option Addr) (cap : Nat) (Bh : Heap) (q : Q) (ms : List PL) (S : List Value) (H : Heap) : Prop :=
  ∃ j : Nat, j ≤ ms.length ∧ S30 (.pointer (some ⟨p, 0, none⟩)) (.bool ((ms.take j).any (anL q))) (.slice a ms.length cap) (.int .i64 (ms.length : Int)) (.int .i64 (j : Int)) S ∧
    H = ((p, .row 55 [.int .u8 q.q0, .int .u8 q.q1, .int .u8 q.q2, .int .u8 q.q3, .int .u8 q.q4, .int .u8 q.q5, .int .u8 q.q6, .int .u8 q.q7] (0, 0)) :: Bh) ++ (updTo (tkL q) j ms).map rwL
theorem c30 (hsl : SlO 38 a cap Bh (ms.map Prod.fst)) (hlen : ms.length ≤ 140737488355328) (hok : ∀ x ∈ ms, x.2.Ok) (hq : q.Ok) (h23 : q.q0 ≠ 23) (h : K (.bool (ms.any (anL q))) (Bh ++ (ms.map (tkL q)).map rwL)) :
    SCalls Try.prog 30 [.slice a ms.length cap, q.val] (Bh ++ ms.map rwL) K := by
  refine enter30 ?_
  repeat' ((conv => whnf); (first
      | unfold Q.val
      | refine New.mk (fun _ => ?_)
      | refine Look.at0 ?_
      | refine Cell.row ?_
      | refine Cell.buf ?_
      | refine Cells.row rfl ?_
      | refine Put.row rfl ?_
      | refine Put.buf rfl ?_
      | refine Look.at1 ?_
      | refine Look.at2 ?_
      | refine Look.at3 ?_
      | refine Look.at4 ?_
      | refine Look.at5 ?_
      | refine Look.at6 ?_
      | refine Look.at7 ?_
      | refine Look.at8 ?_
      | with_reducible refine Val.i64 (by omega) (by omega) ?_
      | with_reducible refine Val.u8 (by omega) (by omega) ?_
      | with_reducible refine Val.u32 (by omega) (by omega) ?_
      | with_reducible refine Val.u64 (by omega) (by omega) ?_
      | with_reducible refine Val.u8m ?_
      | with_reducible refine Val.u32m ?_
      | with_reducible refine Val.u64m ?_
      | with_reducible refine Val.shr8 ?_
      | with_reducible refine Val.shr16 (by decide) ?_
      | with_reducible refine Val.shr24 (by decide) ?_
      | with_reducible refine Val.raw ?_
      | refine Branch.not ?_
      | refine Branch.and ?_
      | refine Branch.or ?_
      | refine Branch.dt (by assumption) ?_
      | refine Branch.df (by assumption) ?_
      | refine Branch.dt rfl ?_
      | refine Branch.dt (by omega) ?_
      | refine Branch.df (by omega) ?_
      | refine Branch.t rfl ?_
      | refine Branch.f rfl ?_
      | refine Branch.t (by assumption) ?_
      | refine Branch.f (by assumption) ?_
      | refine Branch.d (fun _ => ?_) (fun _ => ?_)
      | refine Branch.mk (fun _ => ?_) (fun _ => ?_)
      | refine Need.mk (by first | omega | decide | rfl) ?_
      | refine Idx.nat (by omega) ?_
      | refine Idx.auto (by first | omega | decide) (by first | omega | decide) ?_
      | refine Cell.ro rfl ?_
      | refine SDraw.all (by kernel_rfl) ?_
      | refine Kept.k0 ?_
      | refine Kept.k1 ?_
      | refine Kept.k2 ?_
      | refine Kept.k3 ?_
      | refine Kept.k4 ?_))
  rename_i p0
  refine SLoop.inv (I30 p0 a cap Bh q ms) (MS 12 ms.length) (Keep.all ⟨0, by omega, .mk, by rw [updTo_zero]; rfl⟩) ?_
  rintro S H ⟨j, hj, hS, rfl⟩ R hR
  cases hS
  by_cases hlt : j < ms.length
  · obtain ⟨x, hx⟩ : ∃ x, ms[j]? = some x := ⟨_, List.getElem?_eq_getElem hlt⟩
    obtain ⟨r, rfl, rfl⟩ := hsl.has (by simpa using (by omega : 0 < ms.length))
    have hp : (ms.map Prod.fst)[j]? = some x.1 := by rw [List.getElem?_map, hx]; rfl
    have hxo := hok x (List.mem_of_getElem? hx)
    have hs := any_succ (p := anL q) hx
    obtain ⟨xa, xl⟩ := x
    obtain ⟨an, l', he⟩ : ∃ an l', xl.take q = (an, l') := ⟨_, _, rfl⟩
    have e1 : anL q (xa, xl) = an.is := by unfold anL; rw [he]
    have e2 : tkL q (xa, xl) = (xa, l') := by unfold tkL; rw [he]
    have e3 := updTo_set (f := tkL q) hx
    rw [e2] at e3
    rw [e1] at hs
    have hcall := fun (K : Value → Heap → Prop) A hk => SCalls.elem (K := K) (rw := rwL) (x' := (xa, l')) (f := 25) (args := [.pointer (some ⟨xa, 0, none⟩), q.val]) (v := an.val) (updTo_nth (f := tkL q) hx) (fun K hk => Ls.c8e xl hxo q hq none he (fun z => h23 z.1) hk) A hk
    rw [e3] at hcall
    clear h
    unfold Q.val at hcall
    have fin : ∀ (S : List Value) (b : Bool) (tb : Nat × Blk), b = (ms.take (j + 1)).any (anL q) → S30 (.pointer (some ⟨p0, 0, none⟩)) (.bool b) (.slice (some ⟨r, 0, none⟩) ms.length cap) (.int .i64 (ms.length : Int)) (.int .i64 ((j + 1 : Nat) : Int)) S → atS S 12 = j + 1 →
        R S (tb :: (((p0, .row 55 [.int .u8 q.q0, .int .u8 q.q1, .int .u8 q.q2, .int .u8 q.q3, .int .u8 q.q4, .int .u8 q.q5, .int .u8 q.q6, .int .u8 q.q7] (0, 0)) :: [(r, .buf 38 (ptrs (ms.map Prod.fst)) (cap * 1))]) ++ (updTo (tkL q) (j + 1) ms).map rwL)) := by
      rintro S b tb rfl k2 k3
      refine hR _ _ (Keep.d1 ⟨⟨j + 1, by omega, k2, rfl⟩, ?_⟩)
      unfold MS
      rw [k3]
      show ms.length - (j + 1) < ms.length - Int.toNat (j : Int)
      omega
    repeat' ((conv => whnf); (first
        | refine ptr_nth hp ?_
        | refine hcall _ (_ :: [_]) ?_
        | refine New.mk (fun _ => ?_)
        | refine Look.at0 ?_
        | refine Cell.row ?_
        | refine Cell.buf ?_
        | refine Cells.row rfl ?_
        | refine Put.row rfl ?_
        | refine Put.buf rfl ?_
        | refine Look.at1 ?_
        | refine Look.at2 ?_
        | refine Look.at3 ?_
        | refine Look.at4 ?_
        | refine Look.at5 ?_
        | refine Look.at6 ?_
        | refine Look.at7 ?_
        | refine Look.at8 ?_
        | with_reducible refine Val.i64 (by omega) (by omega) ?_
        | with_reducible refine Val.u8 (by omega) (by omega) ?_
        | with_reducible refine Val.u32 (by omega) (by omega) ?_
        | with_reducible refine Val.u64 (by omega) (by omega) ?_
        | with_reducible refine Val.u8m ?_
        | with_reducible refine Val.u32m ?_
        | with_reducible refine Val.u64m ?_
        | with_reducible refine Val.shr8 ?_
        | with_reducible refine Val.shr16 (by decide) ?_
        | with_reducible refine Val.shr24 (by decide) ?_
        | with_reducible refine Val.raw ?_
        | refine Branch.not ?_
        | refine Branch.and ?_
        | refine Branch.or ?_
        | refine Branch.dt (by assumption) ?_
        | refine Branch.df (by assumption) ?_
        | refine Branch.dt rfl ?_
        | refine Branch.dt (by omega) ?_
        | refine Branch.df (by omega) ?_
        | refine Branch.t rfl ?_
        | refine Branch.f rfl ?_
        | refine Branch.t (by assumption) ?_
        | refine Branch.f (by assumption) ?_
        | refine Branch.d (fun _ => ?_) (fun _ => ?_)
        | refine Branch.mk (fun _ => ?_) (fun _ => ?_)
        | refine Need.mk (by first | omega | decide | rfl) ?_
        | refine Idx.nat (by omega) ?_
        | refine Idx.auto (by first | omega | decide) (by first | omega | decide) ?_
        | refine Cell.ro rfl ?_
        | refine SDraw.all (by kernel_rfl) ?_
        | refine Kept.k0 ?_
        | refine Kept.k1 ?_
        | refine Kept.k2 ?_
        | refine Kept.k3 ?_
        | refine Kept.k4 ?_))
    all_goals (conv => whnf)
    · exact fin _ true _ (by rw [hs, ‹List.any _ _ = true›]; rfl) .mk rfl
    · exact fin _ an.is _ (by rw [hs, ‹List.any _ _ = false›]; rfl) .mk rfl
  · have e : j = ms.length := by omega
    subst e
    rw [List.take_length, updTo_all (Nat.le_refl _)]
    repeat' ((conv => whnf); (first
        | refine New.mk (fun _ => ?_)
        | refine Look.at0 ?_
        | refine Cell.row ?_
        | refine Cell.buf ?_
        | refine Cells.row rfl ?_
        | refine Put.row rfl ?_
        | refine Put.buf rfl ?_
        | refine Look.at1 ?_
        | refine Look.at2 ?_
        | refine Look.at3 ?_
        | refine Look.at4 ?_
        | refine Look.at5 ?_
        | refine Look.at6 ?_
        | refine Look.at7 ?_
        | refine Look.at8 ?_
        | with_reducible refine Val.i64 (by omega) (by omega) ?_
        | with_reducible refine Val.u8 (by omega) (by omega) ?_
        | with_reducible refine Val.u32 (by omega) (by omega) ?_
        | with_reducible refine Val.u64 (by omega) (by omega) ?_
        | with_reducible refine Val.u8m ?_
        | with_reducible refine Val.u32m ?_
        | with_reducible refine Val.u64m ?_
        | with_reducible refine Val.shr8 ?_
        | with_reducible refine Val.shr16 (by decide) ?_
        | with_reducible refine Val.shr24 (by decide) ?_
        | with_reducible refine Val.raw ?_
        | refine Branch.not ?_
        | refine Branch.and ?_
        | refine Branch.or ?_
        | refine Branch.dt (by assumption) ?_
        | refine Branch.df (by assumption) ?_
        | refine Branch.dt rfl ?_
        | refine Branch.dt (by omega) ?_
        | refine Branch.df (by omega) ?_
        | refine Branch.t rfl ?_
        | refine Branch.f rfl ?_
        | refine Branch.t (by assumption) ?_
        | refine Branch.f (by assumption) ?_
        | refine Branch.d (fun _ => ?_) (fun _ => ?_)
        | refine Branch.mk (fun _ => ?_) (fun _ => ?_)
        | refine Need.mk (by first | omega | decide | rfl) ?_
        | refine Idx.nat (by omega) ?_
        | refine Idx.auto (by first | omega | decide) (by first | omega | decide) ?_
        | refine Cell.ro rfl ?_
        | refine SDraw.all (by kernel_rfl) ?_
        | refine Kept.k0 ?_
        | refine Kept.k1 ?_
        | refine Kept.k2 ?_
        | refine Kept.k3 ?_
        | refine Kept.k4 ?_))
    all_goals (conv => whnf)
    exact Keep.d1 h
end
end Go.Proofs.Ytkegkhhfbfegoaa
