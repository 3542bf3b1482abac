/- Layer 20: all slaves of the document take a frame: by walks. -/
import Derived.Test.YtkegkhhfbfegoaaScF
set_option linter.unusedVariables false
set_option linter.unusedSimpArgs false
set_option maxRecDepth 100000
set_option maxHeartbeats 4000000
namespace Go.Proofs.Ytkegkhhfbfegoaa
open Sx Ls
section
variable {K : Value → Heap → Prop} {a : Option Addr} {cap : Nat} {Bh : Heap} {q : Q} {ms : List PR}
def I32 (p : Nat) (a : Option Addr) (cap : Nat) (Bh : Heap) (q : Q) (ms : List PR) (S : List Value) (H : Heap) : Prop :=
  ∃ j : Nat, j ≤ ms.length ∧ S32 (.slice a ms.length cap) (.pointer (some ⟨p, 0, none⟩)) (.bool ((ms.take j).any (anR q))) (.int .i64 (j : Int)) S ∧
    H = ((p, .row 55 [.int .u8 q.q0, .int .u8 q.q1, .int .u8 q.q2, .int .u8 q.q3, .int .u8 q.q4, .int .u8 q.q5, .int .u8 q.q6, .int .u8 q.q7] (0, 0)) :: Bh) ++ (updTo (tkR q) j ms).map rwR
theorem c32 (hsl : SlO 42 a cap Bh (ms.map Prod.fst)) (hlen : ms.length ≤ 140737488355328) (hok : ∀ x ∈ ms, x.2.Ok) (hq : q.Ok) (h : K (.bool (ms.any (anR q))) (Bh ++ (ms.map (tkR q)).map rwR)) :
    SCalls Try.prog 32 [.slice a ms.length cap, q.val] (Bh ++ ms.map rwR) K := by
  refine enter32 ?_
  repeat' ((conv => whnf); (first
      | unfold Q.val
      | refine New.mk (fun _ => ?_)
      | refine Look.at0 ?_
      | refine Cell.row ?_
      | refine Cell.buf ?_
      | refine Cells.row rfl ?_
      | refine Put.row rfl ?_
      | refine Put.buf rfl ?_
      | refine Look.at1 ?_
      | refine Look.at2 ?_
      | refine Look.at3 ?_
      | refine Look.at4 ?_
      | refine Look.at5 ?_
      | refine Look.at6 ?_
      | refine Look.at7 ?_
      | refine Look.at8 ?_
      | with_reducible refine Val.i64 (by omega) (by omega) ?_
      | with_reducible refine Val.u8 (by omega) (by omega) ?_
      | with_reducible refine Val.u32 (by omega) (by omega) ?_
      | with_reducible refine Val.u64 (by omega) (by omega) ?_
      | with_reducible refine Val.u8m ?_
      | with_reducible refine Val.u32m ?_
      | with_reducible refine Val.u64m ?_
      | with_reducible refine Val.shr8 ?_
      | with_reducible refine Val.shr16 (by decide) ?_
      | with_reducible refine Val.shr24 (by decide) ?_
      | with_reducible refine Val.raw ?_
      | refine Branch.not ?_
      | refine Branch.and ?_
      | refine Branch.or ?_
      | refine Branch.dt (by assumption) ?_
      | refine Branch.df (by assumption) ?_
      | refine Branch.dt rfl ?_
      | refine Branch.dt (by omega) ?_
      | refine Branch.df (by omega) ?_
      | refine Branch.t rfl ?_
      | refine Branch.f rfl ?_
      | refine Branch.t (by assumption) ?_
      | refine Branch.f (by assumption) ?_
      | refine Branch.d (fun _ => ?_) (fun _ => ?_)
      | refine Branch.mk (fun _ => ?_) (fun _ => ?_)
      | refine Need.mk (by first | omega | decide | rfl) ?_
      | refine Idx.nat (by omega) ?_
      | refine Idx.auto (by first | omega | decide) (by first | omega | decide) ?_
      | refine Cell.ro rfl ?_
      | refine SDraw.all (by kernel_rfl) ?_
      | refine Kept.k0 ?_
      | refine Kept.k1 ?_
      | refine Kept.k2 ?_
      | refine Kept.k3 ?_
      | refine Kept.k4 ?_))
  rename_i p0
  refine SLoop.inv (I32 p0 a cap Bh q ms) (MS 6 ms.length) (Keep.all ⟨0, by omega, .mk, by rw [updTo_zero]; rfl⟩) ?_
  rintro S H ⟨j, hj, hS, rfl⟩ R hR
  cases hS
  by_cases hlt : j < ms.length
  · obtain ⟨x, hx⟩ : ∃ x, ms[j]? = some x := ⟨_, List.getElem?_eq_getElem hlt⟩
    obtain ⟨r, rfl, rfl⟩ := hsl.has (by simpa using (by omega : 0 < ms.length))
    have hp : (ms.map Prod.fst)[j]? = some x.1 := by rw [List.getElem?_map, hx]; rfl
    have hxo := hok x (List.mem_of_getElem? hx)
    have hs := any_succ (p := anR q) hx
    obtain ⟨xa, xl⟩ := x
    obtain ⟨an, l', he⟩ : ∃ an l', xl.take q = (an, l') := ⟨_, _, rfl⟩
    have e1 : anR q (xa, xl) = an.is := by unfold anR; rw [he]
    have e2 : tkR q (xa, xl) = (xa, l') := by unfold tkR; rw [he]
    have e3 := updTo_set (f := tkR q) hx
    rw [e2] at e3
    rw [e1] at hs
    have hcall := fun (K : Value → Heap → Prop) A hk => SCalls.elem (K := K) (rw := rwR) (x' := (xa, l')) (f := 41) (args := [.pointer (some ⟨xa, 0, none⟩), q.val]) (v := an.val) (updTo_nth (f := tkR q) hx) (fun K hk => Ls.c24 xl hxo q hq (by rw [he]; exact hk)) A hk
    rw [e3] at hcall
    clear h
    unfold Q.val at hcall
    have fin : ∀ (S : List Value) (b : Bool) (tb : Nat × Blk), b = (ms.take (j + 1)).any (anR q) → S32 (.slice (some ⟨r, 0, none⟩) ms.length cap) (.pointer (some ⟨p0, 0, none⟩)) (.bool b) (.int .i64 ((j + 1 : Nat) : Int)) S → atS S 6 = j + 1 →
        R S (tb :: (((p0, .row 55 [.int .u8 q.q0, .int .u8 q.q1, .int .u8 q.q2, .int .u8 q.q3, .int .u8 q.q4, .int .u8 q.q5, .int .u8 q.q6, .int .u8 q.q7] (0, 0)) :: [(r, .buf 42 (ptrs (ms.map Prod.fst)) (cap * 1))]) ++ (updTo (tkR q) (j + 1) ms).map rwR)) := by
      rintro S b tb rfl k2 k3
      refine hR _ _ (Keep.d1 ⟨⟨j + 1, by omega, k2, rfl⟩, ?_⟩)
      unfold MS
      rw [k3]
      show ms.length - (j + 1) < ms.length - Int.toNat (j : Int)
      omega
    repeat' ((conv => whnf); (first
        | refine ptr_nth hp ?_
        | refine hcall _ (_ :: [_]) ?_
        | refine hcall _ (_ :: _ :: [_]) ?_
        | refine And.intro ?_ ?_
        | refine SDraw.held (by kernel_rfl) [_, _] (.same (.head _) (.same (.tail _ (.head _)) .nil)) ?_
        | refine Kept.sub (List.Sublist.cons_cons _ (List.Sublist.cons_cons _ (List.nil_sublist _))) ?_
        | refine Kept.sub (List.Sublist.cons _ (List.Sublist.cons_cons _ (List.Sublist.cons_cons _ (List.nil_sublist _)))) ?_
        | refine New.mk (fun _ => ?_)
        | refine Look.at0 ?_
        | refine Cell.row ?_
        | refine Cell.buf ?_
        | refine Cells.row rfl ?_
        | refine Put.row rfl ?_
        | refine Put.buf rfl ?_
        | refine Look.at1 ?_
        | refine Look.at2 ?_
        | refine Look.at3 ?_
        | refine Look.at4 ?_
        | refine Look.at5 ?_
        | refine Look.at6 ?_
        | refine Look.at7 ?_
        | refine Look.at8 ?_
        | with_reducible refine Val.i64 (by omega) (by omega) ?_
        | with_reducible refine Val.u8 (by omega) (by omega) ?_
        | with_reducible refine Val.u32 (by omega) (by omega) ?_
        | with_reducible refine Val.u64 (by omega) (by omega) ?_
        | with_reducible refine Val.u8m ?_
        | with_reducible refine Val.u32m ?_
        | with_reducible refine Val.u64m ?_
        | with_reducible refine Val.shr8 ?_
        | with_reducible refine Val.shr16 (by decide) ?_
        | with_reducible refine Val.shr24 (by decide) ?_
        | with_reducible refine Val.raw ?_
        | refine Branch.not ?_
        | refine Branch.and ?_
        | refine Branch.or ?_
        | refine Branch.dt (by assumption) ?_
        | refine Branch.df (by assumption) ?_
        | refine Branch.dt rfl ?_
        | refine Branch.dt (by omega) ?_
        | refine Branch.df (by omega) ?_
        | refine Branch.t rfl ?_
        | refine Branch.f rfl ?_
        | refine Branch.t (by assumption) ?_
        | refine Branch.f (by assumption) ?_
        | refine Branch.d (fun _ => ?_) (fun _ => ?_)
        | refine Branch.mk (fun _ => ?_) (fun _ => ?_)
        | refine Need.mk (by first | omega | decide | rfl) ?_
        | refine Idx.nat (by omega) ?_
        | refine Idx.auto (by first | omega | decide) (by first | omega | decide) ?_
        | refine Cell.ro rfl ?_
        | refine SDraw.all (by kernel_rfl) ?_
        | refine Kept.k0 ?_
        | refine Kept.k1 ?_
        | refine Kept.k2 ?_
        | refine Kept.k3 ?_
        | refine Kept.k4 ?_))
    all_goals (conv => whnf)
    all_goals first
      | exact fin _ true _ (by rw [hs, ‹an.is = true›, Bool.or_true]) .mk rfl
      | exact fin _ _ _ (by rw [hs, ‹an.is = false›, Bool.or_false]) .mk rfl
      | trace_state
  · have e : j = ms.length := by omega
    subst e
    rw [List.take_length, updTo_all (Nat.le_refl _)]
    repeat' ((conv => whnf); (first
        | refine New.mk (fun _ => ?_)
        | refine Look.at0 ?_
        | refine Cell.row ?_
        | refine Cell.buf ?_
        | refine Cells.row rfl ?_
        | refine Put.row rfl ?_
        | refine Put.buf rfl ?_
        | refine Look.at1 ?_
        | refine Look.at2 ?_
        | refine Look.at3 ?_
        | refine Look.at4 ?_
        | refine Look.at5 ?_
        | refine Look.at6 ?_
        | refine Look.at7 ?_
        | refine Look.at8 ?_
        | with_reducible refine Val.i64 (by omega) (by omega) ?_
        | with_reducible refine Val.u8 (by omega) (by omega) ?_
        | with_reducible refine Val.u32 (by omega) (by omega) ?_
        | with_reducible refine Val.u64 (by omega) (by omega) ?_
        | with_reducible refine Val.u8m ?_
        | with_reducible refine Val.u32m ?_
        | with_reducible refine Val.u64m ?_
        | with_reducible refine Val.shr8 ?_
        | with_reducible refine Val.shr16 (by decide) ?_
        | with_reducible refine Val.shr24 (by decide) ?_
        | with_reducible refine Val.raw ?_
        | refine Branch.not ?_
        | refine Branch.and ?_
        | refine Branch.or ?_
        | refine Branch.dt (by assumption) ?_
        | refine Branch.df (by assumption) ?_
        | refine Branch.dt rfl ?_
        | refine Branch.dt (by omega) ?_
        | refine Branch.df (by omega) ?_
        | refine Branch.t rfl ?_
        | refine Branch.f rfl ?_
        | refine Branch.t (by assumption) ?_
        | refine Branch.f (by assumption) ?_
        | refine Branch.d (fun _ => ?_) (fun _ => ?_)
        | refine Branch.mk (fun _ => ?_) (fun _ => ?_)
        | refine Need.mk (by first | omega | decide | rfl) ?_
        | refine Idx.nat (by omega) ?_
        | refine Idx.auto (by first | omega | decide) (by first | omega | decide) ?_
        | refine Cell.ro rfl ?_
        | refine SDraw.all (by kernel_rfl) ?_
        | refine Kept.k0 ?_
        | refine Kept.k1 ?_
        | refine Kept.k2 ?_
        | refine Kept.k3 ?_
        | refine Kept.k4 ?_))
    all_goals (conv => whnf)
    exact Keep.d1 h
end
end Go.Proofs.Ytkegkhhfbfegoaa
