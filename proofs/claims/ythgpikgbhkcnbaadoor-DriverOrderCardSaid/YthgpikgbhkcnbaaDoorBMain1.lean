/- Layer 5: mailboxes as a heap: its methods, and container/heap over it, by walks. -/
import Derived.Test.YthgpikgbhkcnbaaDoorBMain

set_option linter.unusedVariables false
set_option linter.unusedSimpArgs false
set_option maxRecDepth 100000
set_option maxHeartbeats 4000000
namespace Go.Proofs.YthgpikgbhkcnbaaDoor
open Sx
abbrev tlt (a b : List UInt8) : Bool := Op.bytesLess a b
theorem strLt_of (a b : List UInt8) : strLt (strOf a) (strOf b) = tlt a b := by
  unfold strLt
  rw [ByteArray.toList_eq, ByteArray.toList_eq]; rfl
theorem strGt_of (a b : List UInt8) : (!(strLt (strOf a) (strOf b) || decide (strOf a = strOf b))) = tlt b a := by
  rw [strLt_of, strOf_eq]
  cases h : tlt a b with
  | true =>
    have : tlt b a = false := Hp.bl_asym h
    rw [this]; rfl
  | false =>
    by_cases e : a = b
    · subst e
      rw [show tlt a a = false from Hp.bl_irr a]; simp
    · rw [decide_eq_false e]
      cases h2 : tlt b a with
      | true => rfl
      | false => exact absurd (Hp.bl_tri _ _ h h2) e
theorem list_at {α : Type} {L : List α} {j : Nat} (hlt : j < L.length) : ∃ x, L[j]? = some x ∧ L.drop j = x :: L.drop (j + 1) ∧ L.take (j + 1) = L.take j ++ [x] :=
  ⟨L[j], List.getElem?_eq_getElem hlt, List.drop_eq_getElem_cons hlt, List.take_succ_eq_append_getElem hlt⟩
theorem inS_at {α : Type} {f : α → List Value} {k : Nat} {sv : Value} {H : Heap} {L : List α} (h : InS f k sv H L) (hk : ∀ x, (f x).length = k) {j : Nat} {x : α} (hj : L[j]? = some x) :
    ∃ r o c b, sv = .slice (some ⟨r, o, none⟩) L.length c ∧ (r, b) ∈ H ∧ ∀ i v, (f x)[i]? = some v → b.cell (o + j * k + i) = some v := by
  obtain ⟨a, c, rfl, h1, h2⟩ := h
  rcases h2 with rfl | ⟨r, o, b, rfl, hm, hc⟩
  · simp at hj
  · exact ⟨r, o, c, b, rfl, hm, fun i v hv => hc j x i v hj hv (by rw [← hk x]; exact (List.getElem?_eq_some_iff.1 hv).1)⟩
def cmpS (a b : List UInt8) : Int := if tlt a b then -1 else if tlt b a then 1 else 0
section
variable {K : Value → Heap → Prop} {H : Heap}
theorem c106 {a b : List UInt8} (hK : K (.int .i64 (cmpS a b)) H) : SCalls Tryd.prog 106 [.string (strOf a), .string (strOf b)] H K := by
  refine enter106 ?_
  have h108 : ∀ a H (K2 : Value → Heap → Prop), K2 (.bool false) H → SCalls Tryd.prog 108 [.string (strOf a)] H K2 := by
    intro a H K2 hk
    refine enter108 ?_
    have : (!decide (strOf a = strOf a)) = false := by simp
    repeat' ((conv => whnf); (first | (rw [this]; exact Keep.all hk) | (show Keep _ fun H' => K2 (.bool (!decide (strOf a = strOf a))) H'; rw [this]; exact Keep.all hk) | refine New.mk (fun _ => ?_) | refine Look.at0 ?_ | refine Cell.row ?_ | refine Cell.buf ?_ | refine Cells.row rfl ?_ | refine Put.row rfl ?_ | refine Put.buf rfl ?_ | refine Look.at1 ?_ | refine Look.at2 ?_ | refine Look.at3 ?_ | refine Look.at4 ?_ | refine Look.at5 ?_ | refine Look.at6 ?_ | refine Look.at7 ?_ | refine Look.at8 ?_ | with_reducible refine Val.i64 (by omega) (by omega) ?_ | with_reducible refine Val.u8 (by omega) (by omega) ?_ | with_reducible refine Val.u32 (by omega) (by omega) ?_ | with_reducible refine Val.u64 (by omega) (by omega) ?_ | with_reducible refine Val.u8m ?_ | with_reducible refine Val.u32m ?_ | with_reducible refine Val.u64m ?_ | with_reducible refine Val.shr8 ?_ | with_reducible refine Val.shr16 (by decide) ?_ | with_reducible refine Val.shr24 (by decide) ?_ | with_reducible refine Val.raw ?_ | refine Branch.not ?_ | refine Branch.and ?_ | refine Branch.or ?_ | refine Branch.dt (by assumption) ?_ | refine Branch.df (by assumption) ?_ | refine Branch.dt rfl ?_ | refine Branch.dt (by omega) ?_ | refine Branch.df (by omega) ?_ | refine Branch.t rfl ?_ | refine Branch.f rfl ?_ | refine Branch.t (by assumption) ?_ | refine Branch.f (by assumption) ?_ | refine Branch.d (fun _ => ?_) (fun _ => ?_) | refine Branch.mk (fun _ => ?_) (fun _ => ?_) | refine Need.mk (by first | omega | decide | rfl) ?_ | refine Idx.nat (by omega) ?_ | refine Idx.auto (by first | omega | decide) (by first | omega | decide) ?_ | refine Cell.ro rfl ?_ | refine SDraw.all (by kernel_rfl) ?_ | refine Kept.k0 ?_ | refine Kept.k1 ?_ | refine Kept.k2 ?_ | refine Kept.k3 ?_ | refine Kept.k4 ?_))
  unfold cmpS at hK
  have h1 := strLt_of a b
  have h2 := strGt_of a b
  cases ha : tlt a b with
  | true =>
    rw [ha] at hK h1
    repeat' ((conv => whnf); (first | with_reducible refine h108 _ _ _ ?_ | refine Branch.t h1 ?_ | exact Keep.all hK | refine New.mk (fun _ => ?_) | refine Look.at0 ?_ | refine Cell.row ?_ | refine Cell.buf ?_ | refine Cells.row rfl ?_ | refine Put.row rfl ?_ | refine Put.buf rfl ?_ | refine Look.at1 ?_ | refine Look.at2 ?_ | refine Look.at3 ?_ | refine Look.at4 ?_ | refine Look.at5 ?_ | refine Look.at6 ?_ | refine Look.at7 ?_ | refine Look.at8 ?_ | with_reducible refine Val.i64 (by omega) (by omega) ?_ | with_reducible refine Val.u8 (by omega) (by omega) ?_ | with_reducible refine Val.u32 (by omega) (by omega) ?_ | with_reducible refine Val.u64 (by omega) (by omega) ?_ | with_reducible refine Val.u8m ?_ | with_reducible refine Val.u32m ?_ | with_reducible refine Val.u64m ?_ | with_reducible refine Val.shr8 ?_ | with_reducible refine Val.shr16 (by decide) ?_ | with_reducible refine Val.shr24 (by decide) ?_ | with_reducible refine Val.raw ?_ | refine Branch.not ?_ | refine Branch.and ?_ | refine Branch.or ?_ | refine Branch.dt (by assumption) ?_ | refine Branch.df (by assumption) ?_ | refine Branch.dt rfl ?_ | refine Branch.dt (by omega) ?_ | refine Branch.df (by omega) ?_ | refine Branch.t rfl ?_ | refine Branch.f rfl ?_ | refine Branch.t (by assumption) ?_ | refine Branch.f (by assumption) ?_ | refine Branch.d (fun _ => ?_) (fun _ => ?_) | refine Branch.mk (fun _ => ?_) (fun _ => ?_) | refine Need.mk (by first | omega | decide | rfl) ?_ | refine Idx.nat (by omega) ?_ | refine Idx.auto (by first | omega | decide) (by first | omega | decide) ?_ | refine Cell.ro rfl ?_ | refine SDraw.all (by kernel_rfl) ?_ | refine Kept.k0 ?_ | refine Kept.k1 ?_ | refine Kept.k2 ?_ | refine Kept.k3 ?_ | refine Kept.k4 ?_))
  | false =>
    rw [ha] at hK h1
    cases hb : tlt b a with
    | true =>
      rw [hb] at hK h2
      repeat' ((conv => whnf); (first | with_reducible refine h108 _ _ _ ?_ | refine Branch.f h1 ?_ | refine Branch.t h2 ?_ | exact Keep.all hK | refine New.mk (fun _ => ?_) | refine Look.at0 ?_ | refine Cell.row ?_ | refine Cell.buf ?_ | refine Cells.row rfl ?_ | refine Put.row rfl ?_ | refine Put.buf rfl ?_ | refine Look.at1 ?_ | refine Look.at2 ?_ | refine Look.at3 ?_ | refine Look.at4 ?_ | refine Look.at5 ?_ | refine Look.at6 ?_ | refine Look.at7 ?_ | refine Look.at8 ?_ | with_reducible refine Val.i64 (by omega) (by omega) ?_ | with_reducible refine Val.u8 (by omega) (by omega) ?_ | with_reducible refine Val.u32 (by omega) (by omega) ?_ | with_reducible refine Val.u64 (by omega) (by omega) ?_ | with_reducible refine Val.u8m ?_ | with_reducible refine Val.u32m ?_ | with_reducible refine Val.u64m ?_ | with_reducible refine Val.shr8 ?_ | with_reducible refine Val.shr16 (by decide) ?_ | with_reducible refine Val.shr24 (by decide) ?_ | with_reducible refine Val.raw ?_ | refine Branch.not ?_ | refine Branch.and ?_ | refine Branch.or ?_ | refine Branch.dt (by assumption) ?_ | refine Branch.df (by assumption) ?_ | refine Branch.dt rfl ?_ | refine Branch.dt (by omega) ?_ | refine Branch.df (by omega) ?_ | refine Branch.t rfl ?_ | refine Branch.f rfl ?_ | refine Branch.t (by assumption) ?_ | refine Branch.f (by assumption) ?_ | refine Branch.d (fun _ => ?_) (fun _ => ?_) | refine Branch.mk (fun _ => ?_) (fun _ => ?_) | refine Need.mk (by first | omega | decide | rfl) ?_ | refine Idx.nat (by omega) ?_ | refine Idx.auto (by first | omega | decide) (by first | omega | decide) ?_ | refine Cell.ro rfl ?_ | refine SDraw.all (by kernel_rfl) ?_ | refine Kept.k0 ?_ | refine Kept.k1 ?_ | refine Kept.k2 ?_ | refine Kept.k3 ?_ | refine Kept.k4 ?_))
    | false =>
      rw [hb] at hK h2
      repeat' ((conv => whnf); (first | with_reducible refine h108 _ _ _ ?_ | refine Branch.f h1 ?_ | refine Branch.f h2 ?_ | exact Keep.all hK | refine New.mk (fun _ => ?_) | refine Look.at0 ?_ | refine Cell.row ?_ | refine Cell.buf ?_ | refine Cells.row rfl ?_ | refine Put.row rfl ?_ | refine Put.buf rfl ?_ | refine Look.at1 ?_ | refine Look.at2 ?_ | refine Look.at3 ?_ | refine Look.at4 ?_ | refine Look.at5 ?_ | refine Look.at6 ?_ | refine Look.at7 ?_ | refine Look.at8 ?_ | with_reducible refine Val.i64 (by omega) (by omega) ?_ | with_reducible refine Val.u8 (by omega) (by omega) ?_ | with_reducible refine Val.u32 (by omega) (by omega) ?_ | with_reducible refine Val.u64 (by omega) (by omega) ?_ | with_reducible refine Val.u8m ?_ | with_reducible refine Val.u32m ?_ | with_reducible refine Val.u64m ?_ | with_reducible refine Val.shr8 ?_ | with_reducible refine Val.shr16 (by decide) ?_ | with_reducible refine Val.shr24 (by decide) ?_ | with_reducible refine Val.raw ?_ | refine Branch.not ?_ | refine Branch.and ?_ | refine Branch.or ?_ | refine Branch.dt (by assumption) ?_ | refine Branch.df (by assumption) ?_ | refine Branch.dt rfl ?_ | refine Branch.dt (by omega) ?_ | refine Branch.df (by omega) ?_ | refine Branch.t rfl ?_ | refine Branch.f rfl ?_ | refine Branch.t (by assumption) ?_ | refine Branch.f (by assumption) ?_ | refine Branch.d (fun _ => ?_) (fun _ => ?_) | refine Branch.mk (fun _ => ?_) (fun _ => ?_) | refine Need.mk (by first | omega | decide | rfl) ?_ | refine Idx.nat (by omega) ?_ | refine Idx.auto (by first | omega | decide) (by first | omega | decide) ?_ | refine Cell.ro rfl ?_ | refine SDraw.all (by kernel_rfl) ?_ | refine Kept.k0 ?_ | refine Kept.k1 ?_ | refine Kept.k2 ?_ | refine Kept.k3 ?_ | refine Kept.k4 ?_))
end
/-- A frame in a mailbox. -/
structure Wn where
  (f : Fm) (fl : List UInt8) (ask : Nat)
abbrev wC (x : Wn) : List Value := [.int .u32 (x.f.id : Int), .bool x.f.x, .bool x.f.r, .int .i64 x.f.n, b8 x.f.d0, b8 x.f.d1, b8 x.f.d2, b8 x.f.d3, b8 x.f.d4, b8 x.f.d5, b8 x.f.d6, b8 x.f.d7, .string (strOf x.fl), .int .i64 (x.ask : Int)]
def key (x : Wn) : List UInt8 × Int := (x.fl, (x.ask : Int))
def wlt (x y : Wn) : Bool := Hp.klt (key x) (key y)
theorem wlt_ord : Hp.Ord wlt := ⟨fun a b => Hp.klt_ord.asym _ _, fun a b c => Hp.klt_ord.nt _ _ _⟩
theorem wlt_irr (x : Wn) : wlt x x = false := Hp.klt_irr _
def cmpI (a b : Nat) : Int := if a < b then -1 else if b < a then 1 else 0
theorem or_klt (a b : List UInt8) (x y : Nat) : decide ((if cmpS a b = 0 then cmpI x y else cmpS a b) < 0) = Hp.klt (a, (x : Int)) (b, (y : Int)) := by
  unfold Hp.klt
  show _ = (tlt a b || (decide (a = b) && decide ((x : Int) < y)))
  cases h : tlt a b with
  | true =>
    have : cmpS a b = -1 := by unfold cmpS; rw [h]; rfl
    rw [this]; rfl
  | false =>
    cases h2 : tlt b a with
    | true =>
      have hne : ¬ a = b := fun e => by
        subst e
        rw [show tlt a a = false from Hp.bl_irr a] at h2; cases h2
      have : cmpS a b = 1 := by unfold cmpS; rw [h, h2]; rfl
      rw [this, decide_eq_false hne]; rfl
    | false =>
      obtain rfl := Hp.bl_tri _ _ h h2
      have : cmpS a a = 0 := by unfold cmpS; rw [h]; rfl
      rw [this, if_pos rfl]
      unfold cmpI
      by_cases hxy : x < y
      · rw [if_pos hxy]; simp [hxy]
      · rw [if_neg hxy]
        split <;> simp <;> omega
theorem sw_front {α : Type} {q st : List α} {i j : Nat} {x y : α} (hi : i < q.length) (hj : j < q.length) : ((q ++ st).set i x).set j y = Hp.sw q i j x y ++ st := by
  unfold Hp.sw
  rw [List.set_append_left _ _ hi, List.set_append_left _ _ (by rw [List.length_set]; exact hj)]
section
variable {K : Value → Heap → Prop} {H : Heap}
theorem c107 {a b : Nat} (hK : K (.int .i64 (cmpI a b)) H) : SCalls Tryd.prog 107 [.int .i64 (a : Int), .int .i64 (b : Int)] H K := by
  refine enter107 ?_
  have h109 : ∀ (a : Nat) H (K2 : Value → Heap → Prop), K2 (.bool false) H → SCalls Tryd.prog 109 [.int .i64 (a : Int)] H K2 := by
    intro a H K2 hk
    refine enter109 ?_
    have : (!decide ((a : Int) = (a : Int))) = false := by simp
    repeat' ((conv => whnf); (first | (show Keep _ fun H' => K2 (.bool (!decide ((a : Int) = (a : Int)))) H'; rw [this]; exact Keep.all hk) | refine New.mk (fun _ => ?_) | refine Look.at0 ?_ | refine Cell.row ?_ | refine Cell.buf ?_ | refine Cells.row rfl ?_ | refine Put.row rfl ?_ | refine Put.buf rfl ?_ | refine Look.at1 ?_ | refine Look.at2 ?_ | refine Look.at3 ?_ | refine Look.at4 ?_ | refine Look.at5 ?_ | refine Look.at6 ?_ | refine Look.at7 ?_ | refine Look.at8 ?_ | with_reducible refine Val.i64 (by omega) (by omega) ?_ | with_reducible refine Val.u8 (by omega) (by omega) ?_ | with_reducible refine Val.u32 (by omega) (by omega) ?_ | with_reducible refine Val.u64 (by omega) (by omega) ?_ | with_reducible refine Val.u8m ?_ | with_reducible refine Val.u32m ?_ | with_reducible refine Val.u64m ?_ | with_reducible refine Val.shr8 ?_ | with_reducible refine Val.shr16 (by decide) ?_ | with_reducible refine Val.shr24 (by decide) ?_ | with_reducible refine Val.raw ?_ | refine Branch.not ?_ | refine Branch.and ?_ | refine Branch.or ?_ | refine Branch.dt (by assumption) ?_ | refine Branch.df (by assumption) ?_ | refine Branch.dt rfl ?_ | refine Branch.dt (by omega) ?_ | refine Branch.df (by omega) ?_ | refine Branch.t rfl ?_ | refine Branch.f rfl ?_ | refine Branch.t (by assumption) ?_ | refine Branch.f (by assumption) ?_ | refine Branch.d (fun _ => ?_) (fun _ => ?_) | refine Branch.mk (fun _ => ?_) (fun _ => ?_) | refine Need.mk (by first | omega | decide | rfl) ?_ | refine Idx.nat (by omega) ?_ | refine Idx.auto (by first | omega | decide) (by first | omega | decide) ?_ | refine Cell.ro rfl ?_ | refine SDraw.all (by kernel_rfl) ?_ | refine Kept.k0 ?_ | refine Kept.k1 ?_ | refine Kept.k2 ?_ | refine Kept.k3 ?_ | refine Kept.k4 ?_))
  unfold cmpI at hK
  by_cases h1 : a < b
  · rw [if_pos h1] at hK
    repeat' ((conv => whnf); (first | with_reducible refine h109 _ _ _ ?_ | refine Branch.dt (by omega) ?_ | exact Keep.all hK | refine New.mk (fun _ => ?_) | refine Look.at0 ?_ | refine Cell.row ?_ | refine Cell.buf ?_ | refine Cells.row rfl ?_ | refine Put.row rfl ?_ | refine Put.buf rfl ?_ | refine Look.at1 ?_ | refine Look.at2 ?_ | refine Look.at3 ?_ | refine Look.at4 ?_ | refine Look.at5 ?_ | refine Look.at6 ?_ | refine Look.at7 ?_ | refine Look.at8 ?_ | with_reducible refine Val.i64 (by omega) (by omega) ?_ | with_reducible refine Val.u8 (by omega) (by omega) ?_ | with_reducible refine Val.u32 (by omega) (by omega) ?_ | with_reducible refine Val.u64 (by omega) (by omega) ?_ | with_reducible refine Val.u8m ?_ | with_reducible refine Val.u32m ?_ | with_reducible refine Val.u64m ?_ | with_reducible refine Val.shr8 ?_ | with_reducible refine Val.shr16 (by decide) ?_ | with_reducible refine Val.shr24 (by decide) ?_ | with_reducible refine Val.raw ?_ | refine Branch.not ?_ | refine Branch.and ?_ | refine Branch.or ?_ | refine Branch.dt (by assumption) ?_ | refine Branch.df (by assumption) ?_ | refine Branch.dt rfl ?_ | refine Branch.dt (by omega) ?_ | refine Branch.df (by omega) ?_ | refine Branch.t rfl ?_ | refine Branch.f rfl ?_ | refine Branch.t (by assumption) ?_ | refine Branch.f (by assumption) ?_ | refine Branch.d (fun _ => ?_) (fun _ => ?_) | refine Branch.mk (fun _ => ?_) (fun _ => ?_) | refine Need.mk (by first | omega | decide | rfl) ?_ | refine Idx.nat (by omega) ?_ | refine Idx.auto (by first | omega | decide) (by first | omega | decide) ?_ | refine Cell.ro rfl ?_ | refine SDraw.all (by kernel_rfl) ?_ | refine Kept.k0 ?_ | refine Kept.k1 ?_ | refine Kept.k2 ?_ | refine Kept.k3 ?_ | refine Kept.k4 ?_))
  · rw [if_neg h1] at hK
    by_cases h2 : b < a
    · rw [if_pos h2] at hK
      repeat' ((conv => whnf); (first | with_reducible refine h109 _ _ _ ?_ | refine Branch.df (by omega) ?_ | refine Branch.dt (by omega) ?_ | exact Keep.all hK | refine New.mk (fun _ => ?_) | refine Look.at0 ?_ | refine Cell.row ?_ | refine Cell.buf ?_ | refine Cells.row rfl ?_ | refine Put.row rfl ?_ | refine Put.buf rfl ?_ | refine Look.at1 ?_ | refine Look.at2 ?_ | refine Look.at3 ?_ | refine Look.at4 ?_ | refine Look.at5 ?_ | refine Look.at6 ?_ | refine Look.at7 ?_ | refine Look.at8 ?_ | with_reducible refine Val.i64 (by omega) (by omega) ?_ | with_reducible refine Val.u8 (by omega) (by omega) ?_ | with_reducible refine Val.u32 (by omega) (by omega) ?_ | with_reducible refine Val.u64 (by omega) (by omega) ?_ | with_reducible refine Val.u8m ?_ | with_reducible refine Val.u32m ?_ | with_reducible refine Val.u64m ?_ | with_reducible refine Val.shr8 ?_ | with_reducible refine Val.shr16 (by decide) ?_ | with_reducible refine Val.shr24 (by decide) ?_ | with_reducible refine Val.raw ?_ | refine Branch.not ?_ | refine Branch.and ?_ | refine Branch.or ?_ | refine Branch.dt (by assumption) ?_ | refine Branch.df (by assumption) ?_ | refine Branch.dt rfl ?_ | refine Branch.dt (by omega) ?_ | refine Branch.df (by omega) ?_ | refine Branch.t rfl ?_ | refine Branch.f rfl ?_ | refine Branch.t (by assumption) ?_ | refine Branch.f (by assumption) ?_ | refine Branch.d (fun _ => ?_) (fun _ => ?_) | refine Branch.mk (fun _ => ?_) (fun _ => ?_) | refine Need.mk (by first | omega | decide | rfl) ?_ | refine Idx.nat (by omega) ?_ | refine Idx.auto (by first | omega | decide) (by first | omega | decide) ?_ | refine Cell.ro rfl ?_ | refine SDraw.all (by kernel_rfl) ?_ | refine Kept.k0 ?_ | refine Kept.k1 ?_ | refine Kept.k2 ?_ | refine Kept.k3 ?_ | refine Kept.k4 ?_))
    · rw [if_neg h2] at hK
      repeat' ((conv => whnf); (first | with_reducible refine h109 _ _ _ ?_ | refine Branch.df (by omega) ?_ | exact Keep.all hK | refine New.mk (fun _ => ?_) | refine Look.at0 ?_ | refine Cell.row ?_ | refine Cell.buf ?_ | refine Cells.row rfl ?_ | refine Put.row rfl ?_ | refine Put.buf rfl ?_ | refine Look.at1 ?_ | refine Look.at2 ?_ | refine Look.at3 ?_ | refine Look.at4 ?_ | refine Look.at5 ?_ | refine Look.at6 ?_ | refine Look.at7 ?_ | refine Look.at8 ?_ | with_reducible refine Val.i64 (by omega) (by omega) ?_ | with_reducible refine Val.u8 (by omega) (by omega) ?_ | with_reducible refine Val.u32 (by omega) (by omega) ?_ | with_reducible refine Val.u64 (by omega) (by omega) ?_ | with_reducible refine Val.u8m ?_ | with_reducible refine Val.u32m ?_ | with_reducible refine Val.u64m ?_ | with_reducible refine Val.shr8 ?_ | with_reducible refine Val.shr16 (by decide) ?_ | with_reducible refine Val.shr24 (by decide) ?_ | with_reducible refine Val.raw ?_ | refine Branch.not ?_ | refine Branch.and ?_ | refine Branch.or ?_ | refine Branch.dt (by assumption) ?_ | refine Branch.df (by assumption) ?_ | refine Branch.dt rfl ?_ | refine Branch.dt (by omega) ?_ | refine Branch.df (by omega) ?_ | refine Branch.t rfl ?_ | refine Branch.f rfl ?_ | refine Branch.t (by assumption) ?_ | refine Branch.f (by assumption) ?_ | refine Branch.d (fun _ => ?_) (fun _ => ?_) | refine Branch.mk (fun _ => ?_) (fun _ => ?_) | refine Need.mk (by first | omega | decide | rfl) ?_ | refine Idx.nat (by omega) ?_ | refine Idx.auto (by first | omega | decide) (by first | omega | decide) ?_ | refine Cell.ro rfl ?_ | refine SDraw.all (by kernel_rfl) ?_ | refine Kept.k0 ?_ | refine Kept.k1 ?_ | refine Kept.k2 ?_ | refine Kept.k3 ?_ | refine Kept.k4 ?_))
theorem c105 {a b : Int} {q : Nat} (hK : K (.int .i64 (if a = 0 then b else a)) ((q, .row 3 [.int .i64 a, .int .i64 b] (0, 0)) :: H)) : SCalls Tryd.prog 105 [.slice (some ⟨q, 0, none⟩) 2 2] ((q, .row 3 [.int .i64 a, .int .i64 b] (0, 0)) :: H) K := by
  refine enter105 ?_
  by_cases ha : a = 0
  · subst ha
    rw [if_pos rfl] at hK
    by_cases hb : b = 0
    · subst hb
      repeat' ((conv => whnf); (first | refine SLoop.round ?_ | refine Branch.t rfl ?_ | refine Branch.f rfl ?_ | exact Keep.all hK | refine New.mk (fun _ => ?_) | refine Look.at0 ?_ | refine Cell.row ?_ | refine Cell.buf ?_ | refine Cells.row rfl ?_ | refine Put.row rfl ?_ | refine Put.buf rfl ?_ | refine Look.at1 ?_ | refine Look.at2 ?_ | refine Look.at3 ?_ | refine Look.at4 ?_ | refine Look.at5 ?_ | refine Look.at6 ?_ | refine Look.at7 ?_ | refine Look.at8 ?_ | with_reducible refine Val.i64 (by omega) (by omega) ?_ | with_reducible refine Val.u8 (by omega) (by omega) ?_ | with_reducible refine Val.u32 (by omega) (by omega) ?_ | with_reducible refine Val.u64 (by omega) (by omega) ?_ | with_reducible refine Val.u8m ?_ | with_reducible refine Val.u32m ?_ | with_reducible refine Val.u64m ?_ | with_reducible refine Val.shr8 ?_ | with_reducible refine Val.shr16 (by decide) ?_ | with_reducible refine Val.shr24 (by decide) ?_ | with_reducible refine Val.raw ?_ | refine Branch.not ?_ | refine Branch.and ?_ | refine Branch.or ?_ | refine Branch.dt (by assumption) ?_ | refine Branch.df (by assumption) ?_ | refine Branch.dt rfl ?_ | refine Branch.dt (by omega) ?_ | refine Branch.df (by omega) ?_ | refine Branch.t rfl ?_ | refine Branch.f rfl ?_ | refine Branch.t (by assumption) ?_ | refine Branch.f (by assumption) ?_ | refine Branch.d (fun _ => ?_) (fun _ => ?_) | refine Branch.mk (fun _ => ?_) (fun _ => ?_) | refine Need.mk (by first | omega | decide | rfl) ?_ | refine Idx.nat (by omega) ?_ | refine Idx.auto (by first | omega | decide) (by first | omega | decide) ?_ | refine Cell.ro rfl ?_ | refine SDraw.all (by kernel_rfl) ?_ | refine Kept.k0 ?_ | refine Kept.k1 ?_ | refine Kept.k2 ?_ | refine Kept.k3 ?_ | refine Kept.k4 ?_))
    · repeat' ((conv => whnf); (first | refine SLoop.round ?_ | refine Branch.f rfl ?_ | refine Branch.t (by first | (simp [hb]; done) | rfl) ?_ | exact Keep.all hK | refine New.mk (fun _ => ?_) | refine Look.at0 ?_ | refine Cell.row ?_ | refine Cell.buf ?_ | refine Cells.row rfl ?_ | refine Put.row rfl ?_ | refine Put.buf rfl ?_ | refine Look.at1 ?_ | refine Look.at2 ?_ | refine Look.at3 ?_ | refine Look.at4 ?_ | refine Look.at5 ?_ | refine Look.at6 ?_ | refine Look.at7 ?_ | refine Look.at8 ?_ | with_reducible refine Val.i64 (by omega) (by omega) ?_ | with_reducible refine Val.u8 (by omega) (by omega) ?_ | with_reducible refine Val.u32 (by omega) (by omega) ?_ | with_reducible refine Val.u64 (by omega) (by omega) ?_ | with_reducible refine Val.u8m ?_ | with_reducible refine Val.u32m ?_ | with_reducible refine Val.u64m ?_ | with_reducible refine Val.shr8 ?_ | with_reducible refine Val.shr16 (by decide) ?_ | with_reducible refine Val.shr24 (by decide) ?_ | with_reducible refine Val.raw ?_ | refine Branch.not ?_ | refine Branch.and ?_ | refine Branch.or ?_ | refine Branch.dt (by assumption) ?_ | refine Branch.df (by assumption) ?_ | refine Branch.dt rfl ?_ | refine Branch.dt (by omega) ?_ | refine Branch.df (by omega) ?_ | refine Branch.t rfl ?_ | refine Branch.f rfl ?_ | refine Branch.t (by assumption) ?_ | refine Branch.f (by assumption) ?_ | refine Branch.d (fun _ => ?_) (fun _ => ?_) | refine Branch.mk (fun _ => ?_) (fun _ => ?_) | refine Need.mk (by first | omega | decide | rfl) ?_ | refine Idx.nat (by omega) ?_ | refine Idx.auto (by first | omega | decide) (by first | omega | decide) ?_ | refine Cell.ro rfl ?_ | refine SDraw.all (by kernel_rfl) ?_ | refine Kept.k0 ?_ | refine Kept.k1 ?_ | refine Kept.k2 ?_ | refine Kept.k3 ?_ | refine Kept.k4 ?_))
  · rw [if_neg ha] at hK
    repeat' ((conv => whnf); (first | refine SLoop.round ?_ | refine Branch.t (by first | (simp [ha]; done) | rfl) ?_ | exact Keep.all hK | refine New.mk (fun _ => ?_) | refine Look.at0 ?_ | refine Cell.row ?_ | refine Cell.buf ?_ | refine Cells.row rfl ?_ | refine Put.row rfl ?_ | refine Put.buf rfl ?_ | refine Look.at1 ?_ | refine Look.at2 ?_ | refine Look.at3 ?_ | refine Look.at4 ?_ | refine Look.at5 ?_ | refine Look.at6 ?_ | refine Look.at7 ?_ | refine Look.at8 ?_ | with_reducible refine Val.i64 (by omega) (by omega) ?_ | with_reducible refine Val.u8 (by omega) (by omega) ?_ | with_reducible refine Val.u32 (by omega) (by omega) ?_ | with_reducible refine Val.u64 (by omega) (by omega) ?_ | with_reducible refine Val.u8m ?_ | with_reducible refine Val.u32m ?_ | with_reducible refine Val.u64m ?_ | with_reducible refine Val.shr8 ?_ | with_reducible refine Val.shr16 (by decide) ?_ | with_reducible refine Val.shr24 (by decide) ?_ | with_reducible refine Val.raw ?_ | refine Branch.not ?_ | refine Branch.and ?_ | refine Branch.or ?_ | refine Branch.dt (by assumption) ?_ | refine Branch.df (by assumption) ?_ | refine Branch.dt rfl ?_ | refine Branch.dt (by omega) ?_ | refine Branch.df (by omega) ?_ | refine Branch.t rfl ?_ | refine Branch.f rfl ?_ | refine Branch.t (by assumption) ?_ | refine Branch.f (by assumption) ?_ | refine Branch.d (fun _ => ?_) (fun _ => ?_) | refine Branch.mk (fun _ => ?_) (fun _ => ?_) | refine Need.mk (by first | omega | decide | rfl) ?_ | refine Idx.nat (by omega) ?_ | refine Idx.auto (by first | omega | decide) (by first | omega | decide) ?_ | refine Cell.ro rfl ?_ | refine SDraw.all (by kernel_rfl) ?_ | refine Kept.k0 ?_ | refine Kept.k1 ?_ | refine Kept.k2 ?_ | refine Kept.k3 ?_ | refine Kept.k4 ?_))
theorem c103 {q : List Wn} {qv : Value} {i j : Nat} {x y : Wn} (hq : InS wC 14 qv H q) (hi : q[i]? = some x) (hj : q[j]? = some y) (hK : K (.bool (wlt x y)) H) : SCalls Tryd.prog 103 [qv, .int .i64 (i : Int), .int .i64 (j : Int)] H K := by
  have hml := hq.sv
  obtain ⟨r, o, c, b, rfl, hb, hc⟩ := inS_at hq (fun _ => rfl) hi
  obtain ⟨r2, o2, c2, b2, e1, hb2, hc2⟩ := inS_at hq (fun _ => rfl) hj
  injection e1 with e1 _ e3
  injection e1 with e1
  injection e1 with e4 e5
  subst e4 e5
  have hil := (List.getElem?_eq_some_iff.1 hi).1
  have hjl := (List.getElem?_eq_some_iff.1 hj).1
  have h1 := hc 12 _ rfl
  have h2 := hc 13 _ rfl
  have h3 := hc2 12 _ rfl
  have h4 := hc2 13 _ rfl
  have hk : ∀ p : Nat × Blk, Keep (p :: H) fun H' => K (.bool (decide ((if cmpS x.fl y.fl = 0 then cmpI x.ask y.ask else cmpS x.fl y.fl) < 0))) H' := fun p => by
    rw [or_klt]; exact Keep.d1 hK
  refine enter103 ?_
  repeat' ((conv => whnf); (first | refine Look.cell hb h1 ?_ | refine Look.cell hb h2 ?_ | refine Look.cell hb2 h3 ?_ | refine Look.cell hb2 h4 ?_ | refine c106 ?_ | refine c107 ?_ | refine c105 ?_ | exact hk _ | refine New.mk (fun _ => ?_) | refine Look.at0 ?_ | refine Cell.row ?_ | refine Cell.buf ?_ | refine Cells.row rfl ?_ | refine Put.row rfl ?_ | refine Put.buf rfl ?_ | refine Look.at1 ?_ | refine Look.at2 ?_ | refine Look.at3 ?_ | refine Look.at4 ?_ | refine Look.at5 ?_ | refine Look.at6 ?_ | refine Look.at7 ?_ | refine Look.at8 ?_ | with_reducible refine Val.i64 (by omega) (by omega) ?_ | with_reducible refine Val.u8 (by omega) (by omega) ?_ | with_reducible refine Val.u32 (by omega) (by omega) ?_ | with_reducible refine Val.u64 (by omega) (by omega) ?_ | with_reducible refine Val.u8m ?_ | with_reducible refine Val.u32m ?_ | with_reducible refine Val.u64m ?_ | with_reducible refine Val.shr8 ?_ | with_reducible refine Val.shr16 (by decide) ?_ | with_reducible refine Val.shr24 (by decide) ?_ | with_reducible refine Val.raw ?_ | refine Branch.not ?_ | refine Branch.and ?_ | refine Branch.or ?_ | refine Branch.dt (by assumption) ?_ | refine Branch.df (by assumption) ?_ | refine Branch.dt rfl ?_ | refine Branch.dt (by omega) ?_ | refine Branch.df (by omega) ?_ | refine Branch.t rfl ?_ | refine Branch.f rfl ?_ | refine Branch.t (by assumption) ?_ | refine Branch.f (by assumption) ?_ | refine Branch.d (fun _ => ?_) (fun _ => ?_) | refine Branch.mk (fun _ => ?_) (fun _ => ?_) | refine Need.mk (by first | omega | decide | rfl) ?_ | refine Idx.nat (by omega) ?_ | refine Idx.auto (by first | omega | decide) (by first | omega | decide) ?_ | refine Cell.ro rfl ?_ | refine SDraw.all (by kernel_rfl) ?_ | refine Kept.k0 ?_ | refine Kept.k1 ?_ | refine Kept.k2 ?_ | refine Kept.k3 ?_ | refine Kept.k4 ?_))
theorem c102 {a : Option Addr} {n c : Nat} (hK : K (.int .i64 (n : Int)) H) : SCalls Tryd.prog 102 [.slice a n c] H K := by
  refine enter102 ?_
  repeat' ((conv => whnf); (first | exact Keep.all hK | refine New.mk (fun _ => ?_) | refine Look.at0 ?_ | refine Cell.row ?_ | refine Cell.buf ?_ | refine Cells.row rfl ?_ | refine Put.row rfl ?_ | refine Put.buf rfl ?_ | refine Look.at1 ?_ | refine Look.at2 ?_ | refine Look.at3 ?_ | refine Look.at4 ?_ | refine Look.at5 ?_ | refine Look.at6 ?_ | refine Look.at7 ?_ | refine Look.at8 ?_ | with_reducible refine Val.i64 (by omega) (by omega) ?_ | with_reducible refine Val.u8 (by omega) (by omega) ?_ | with_reducible refine Val.u32 (by omega) (by omega) ?_ | with_reducible refine Val.u64 (by omega) (by omega) ?_ | with_reducible refine Val.u8m ?_ | with_reducible refine Val.u32m ?_ | with_reducible refine Val.u64m ?_ | with_reducible refine Val.shr8 ?_ | with_reducible refine Val.shr16 (by decide) ?_ | with_reducible refine Val.shr24 (by decide) ?_ | with_reducible refine Val.raw ?_ | refine Branch.not ?_ | refine Branch.and ?_ | refine Branch.or ?_ | refine Branch.dt (by assumption) ?_ | refine Branch.df (by assumption) ?_ | refine Branch.dt rfl ?_ | refine Branch.dt (by omega) ?_ | refine Branch.df (by omega) ?_ | refine Branch.t rfl ?_ | refine Branch.f rfl ?_ | refine Branch.t (by assumption) ?_ | refine Branch.f (by assumption) ?_ | refine Branch.d (fun _ => ?_) (fun _ => ?_) | refine Branch.mk (fun _ => ?_) (fun _ => ?_) | refine Need.mk (by first | omega | decide | rfl) ?_ | refine Idx.nat (by omega) ?_ | refine Idx.auto (by first | omega | decide) (by first | omega | decide) ?_ | refine Cell.ro rfl ?_ | refine SDraw.all (by kernel_rfl) ?_ | refine Kept.k0 ?_ | refine Kept.k1 ?_ | refine Kept.k2 ?_ | refine Kept.k3 ?_ | refine Kept.k4 ?_))
theorem c104 {b c N : Nat} {q st : List Wn} {i j : Nat} {x y : Wn} (hi : q[i]? = some y) (hj : q[j]? = some x) (hK : K (.tuple ⟨[]⟩) ((b, .buf 70 ((Hp.sw q i j x y ++ st).flatMap wC) N) :: H)) : SCalls Tryd.prog 104 [.slice (some ⟨b, 0, none⟩) q.length c, .int .i64 (i : Int), .int .i64 (j : Int)] ((b, .buf 70 ((q ++ st).flatMap wC) N) :: H) K := by
  have hil := (List.getElem?_eq_some_iff.1 hi).1
  have hjl := (List.getElem?_eq_some_iff.1 hj).1
  have hi2 : (q ++ st)[i]? = some y := by rw [List.getElem?_append_left hil]; exact hi
  have hj2 : (q ++ st)[j]? = some x := by rw [List.getElem?_append_left hjl]; exact hj
  rw [← sw_front hil hjl] at hK
  obtain ⟨z, hz⟩ : ∃ z, ((q ++ st).set i x)[j]? = some z := ⟨_, List.getElem?_eq_getElem (by simp; omega)⟩
  have ei : 0 + i * 14 = i * 14 := Nat.zero_add _
  have ej : 0 + j * 14 = j * 14 := Nat.zero_add _
  refine enter104 ?_
  repeat' ((conv => whnf); (first | refine SDraw.held (by kernel_rfl) [] .nil ?_ | refine Kept.sub (List.nil_sublist _) ?_ | refine And.intro ?_ ?_ | refine Cells.flat (f := wC) (fun _ => rfl) hj2 ?_ | refine Cells.flat (f := wC) (fun _ => rfl) hi2 ?_ | refine Put.flatAll (f := wC) (fun _ => rfl) (x := y) x hi2 ei ?_ | refine Put.flatAll (f := wC) (fun _ => rfl) y hz ej ?_ | exact Keep.all hK | refine New.mk (fun _ => ?_) | refine Look.at0 ?_ | refine Cell.row ?_ | refine Cell.buf ?_ | refine Cells.row rfl ?_ | refine Put.row rfl ?_ | refine Put.buf rfl ?_ | refine Look.at1 ?_ | refine Look.at2 ?_ | refine Look.at3 ?_ | refine Look.at4 ?_ | refine Look.at5 ?_ | refine Look.at6 ?_ | refine Look.at7 ?_ | refine Look.at8 ?_ | with_reducible refine Val.i64 (by omega) (by omega) ?_ | with_reducible refine Val.u8 (by omega) (by omega) ?_ | with_reducible refine Val.u32 (by omega) (by omega) ?_ | with_reducible refine Val.u64 (by omega) (by omega) ?_ | with_reducible refine Val.u8m ?_ | with_reducible refine Val.u32m ?_ | with_reducible refine Val.u64m ?_ | with_reducible refine Val.shr8 ?_ | with_reducible refine Val.shr16 (by decide) ?_ | with_reducible refine Val.shr24 (by decide) ?_ | with_reducible refine Val.raw ?_ | refine Branch.not ?_ | refine Branch.and ?_ | refine Branch.or ?_ | refine Branch.dt (by assumption) ?_ | refine Branch.df (by assumption) ?_ | refine Branch.dt rfl ?_ | refine Branch.dt (by omega) ?_ | refine Branch.df (by omega) ?_ | refine Branch.t rfl ?_ | refine Branch.f rfl ?_ | refine Branch.t (by assumption) ?_ | refine Branch.f (by assumption) ?_ | refine Branch.d (fun _ => ?_) (fun _ => ?_) | refine Branch.mk (fun _ => ?_) (fun _ => ?_) | refine Need.mk (by first | omega | decide | rfl) ?_ | refine Idx.nat (by omega) ?_ | refine Idx.auto (by first | omega | decide) (by first | omega | decide) ?_ | refine Cell.ro rfl ?_ | refine SDraw.all (by kernel_rfl) ?_ | refine Kept.k0 ?_ | refine Kept.k1 ?_ | refine Kept.k2 ?_ | refine Kept.k3 ?_ | refine Kept.k4 ?_))
end
abbrev qP (p : Nat) : Value := .iface 68 (.pointer (some ⟨p, 3, none⟩))
abbrev pRow (p : Nat) (mo ro fi qv tk iv lo : Value) : Nat × Blk := (p, .row 66 [mo, ro, fi, qv, tk, iv, lo] (0, 0))
theorem inv_len (p : Nat) (w : World) {sv : Value} (hc : w.cell? ⟨p, 3, none⟩ = some sv) : (callMethod (qP p) "Len" ([] : List Value).toArray).run Tryd.prog w = .ok (.enter 102 (sv :: ([] : List Value)).toArray) w := by
  have h : (callMethod (qP p) "Len" ([] : List Value).toArray).run Tryd.prog w = (match w.cell? ⟨p, 3, none⟩ with
    | some v => (.ok (.enter 102 (v :: ([] : List Value)).toArray) w : Result Next)
    | none => match w.farLoad Tryd.prog ⟨p, 3, none⟩ false with
      | .ok (v, _) => .ok (.enter 102 (v :: ([] : List Value)).toArray) w
      | .error h => .halt h w) := by kernel_rfl
  rw [h, hc]
theorem inv_less (p : Nat) (x y : Value) (w : World) {sv : Value} (hc : w.cell? ⟨p, 3, none⟩ = some sv) : (callMethod (qP p) "Less" [x, y].toArray).run Tryd.prog w = .ok (.enter 103 (sv :: [x, y]).toArray) w := by
  have h : (callMethod (qP p) "Less" [x, y].toArray).run Tryd.prog w = (match w.cell? ⟨p, 3, none⟩ with
    | some v => (.ok (.enter 103 (v :: [x, y]).toArray) w : Result Next)
    | none => match w.farLoad Tryd.prog ⟨p, 3, none⟩ false with
      | .ok (v, _) => .ok (.enter 103 (v :: [x, y]).toArray) w
      | .error h => .halt h w) := by kernel_rfl
  rw [h, hc]
theorem inv_swap (p : Nat) (x y : Value) (w : World) {sv : Value} (hc : w.cell? ⟨p, 3, none⟩ = some sv) : (callMethod (qP p) "Swap" [x, y].toArray).run Tryd.prog w = .ok (.enter 104 (sv :: [x, y]).toArray) w := by
  have h : (callMethod (qP p) "Swap" [x, y].toArray).run Tryd.prog w = (match w.cell? ⟨p, 3, none⟩ with
    | some v => (.ok (.enter 104 (v :: [x, y]).toArray) w : Result Next)
    | none => match w.farLoad Tryd.prog ⟨p, 3, none⟩ false with
      | .ok (v, _) => .ok (.enter 104 (v :: [x, y]).toArray) w
      | .error h => .halt h w) := by kernel_rfl
  rw [h, hc]
theorem inv_pop (p : Nat) (w : World) : (callMethod (qP p) "Pop" ([] : List Value).toArray).run Tryd.prog w = .ok (.enter 110 (.pointer (some ⟨p, 3, none⟩) :: ([] : List Value)).toArray) w := by kernel_rfl
theorem inv_push (p : Nat) (x : Value) (w : World) : (callMethod (qP p) "Push" [x].toArray).run Tryd.prog w = .ok (.enter 111 (.pointer (some ⟨p, 3, none⟩) :: [x]).toArray) w := by kernel_rfl
inductive S40 (A0 A1 : Value) : List Value → Prop
  | mk {r2 r3 r4 r5 r6 r7 r8 r9 r10 r11 r12 r13 r14 r15 r16 r17 r18 r19 r20 r21 r22 : Value} : S40 A0 A1 [A0, A1, r2, r3, r4, r5, r6, r7, r8, r9, r10, r11, r12, r13, r14, r15, r16, r17, r18, r19, r20, r21, r22]
inductive S44 (A0 A1 A2 A7 : Value) : List Value → Prop
  | mk {r3 r4 r5 r6 r8 r9 r10 r11 r12 r13 r14 r15 r16 r17 r18 r19 r20 r21 r22 r23 r24 r25 r26 r27 r28 r29 r30 r31 r32 r33 r34 r35 r36 r37 r38 r39 r40 r41 r42 r43 r44 r45 r46 r47 : Value} : S44 A0 A1 A2 A7 [A0, A1, A2, r3, r4, r5, r6, A7, r8, r9, r10, r11, r12, r13, r14, r15, r16, r17, r18, r19, r20, r21, r22, r23, r24, r25, r26, r27, r28, r29, r30, r31, r32, r33, r34, r35, r36, r37, r38, r39, r40, r41, r42, r43, r44, r45, r46, r47]
section
variable {K : Value → Heap → Prop} {H : Heap} {p : Nat} {mo ro fi tk iv lo : Value} {o : Oper} {xr xi xj : Operand} {ts : Array TypeId} {ar : Array Operand}
/-- The player's block, and its queue's. -/
abbrev pq (p b N c : Nat) (mo ro fi tk iv lo : Value) (q st : List Wn) (H : Heap) : Heap := pRow p mo ro fi (.slice (some ⟨b, 0, none⟩) q.length c) tk iv lo :: (b, .buf 70 ((q ++ st).flatMap wC) N) :: H
theorem pq_in {b N c : Nat} {q st : List Wn} (hml : q.length ≤ maxLen) : InS wC 14 (.slice (some ⟨b, 0, none⟩) q.length c) (pq p b N c mo ro fi tk iv lo q st H) q :=
  ⟨_, c, rfl, hml, .inr ⟨b, 0, _, rfl, .tail _ (.head _), fun j x i v hj hv hi => by
    show ((q ++ st).flatMap wC)[0 + j * 14 + i]? = some v
    rw [Nat.zero_add, flat_nth (f := wC) (fun _ => rfl) (by rw [List.getElem?_append_left (List.getElem?_eq_some_iff.1 hj).1]; exact hj) hi]
    exact hv⟩⟩
theorem r_len {b N c : Nat} {q st : List Wn} (ho : o.op = .call { callee := .invoke xr "Len", args := ar, argTypes := ts }) (hK : K (.int .i64 (q.length : Int)) (pq p b N c mo ro fi tk iv lo q st H)) : RawV Tryd.prog o [qP p] (pq p b N c mo ro fi tk iv lo q st H) K :=
  RawV.invoke (f := 102) (vs := []) ho (fun w hw => inv_len p w (cell_at (hw.at_ _ (.head _)) rfl)) (c102 hK)
theorem r_less {b N c : Nat} {q st : List Wn} {i j : Nat} {x y : Wn} (ho : o.op = .call { callee := .invoke xr "Less", args := ar, argTypes := ts }) (hml : q.length ≤ maxLen) (hi : q[i]? = some x) (hj : q[j]? = some y) (hK : K (.bool (wlt x y)) (pq p b N c mo ro fi tk iv lo q st H)) : RawV Tryd.prog o [qP p, .int .i64 (i : Int), .int .i64 (j : Int)] (pq p b N c mo ro fi tk iv lo q st H) K :=
  RawV.invoke (f := 103) (vs := [_, _]) ho (fun w hw => inv_less p _ _ w (cell_at (hw.at_ _ (.head _)) rfl)) (c103 (pq_in hml) hi hj hK)
theorem r_swap {b N c : Nat} {q st : List Wn} {i j : Nat} {x y : Wn} (ho : o.op = .call { callee := .invoke xr "Swap", args := ar, argTypes := ts }) (hi : q[i]? = some y) (hj : q[j]? = some x) (hK : K (.tuple ⟨[]⟩) (pq p b N c mo ro fi tk iv lo (Hp.sw q i j x y) st H)) : RawV Tryd.prog o [qP p, .int .i64 (i : Int), .int .i64 (j : Int)] (pq p b N c mo ro fi tk iv lo q st H) K := by
  unfold pq at hK
  rw [Hp.sw_len] at hK
  exact RawV.invoke (f := 104) (vs := [_, _]) ho (fun w hw => inv_swap p _ _ w (cell_at (hw.at_ _ (.head _)) rfl)) (SCalls.under [_] (c104 hi hj hK))
def I40 (p b N c n : Nat) (mo ro fi tk iv lo : Value) (q0 st : List Wn) (H : Heap) (s : List Wn × Nat) (S : List Value) (H' : Heap) : Prop :=
  s.1.Perm q0 ∧ (∀ k, n ≤ k → s.1[k]? = q0[k]?) ∧ Hp.UpI wlt s.1 s.2 n ∧ s.2 < n ∧ S40 (qP p) (.int .i64 (s.2 : Int)) S ∧ H' = pq p b N c mo ro fi tk iv lo s.1 st H
theorem c40n {b N c n : Nat} {q st : List Wn} {j : Nat} (hml : q.length ≤ 4503599627370496) (hn : n ≤ q.length) (hu : Hp.UpI wlt q j n) (hj : j < n) (hK : ∀ q', q'.Perm q → (∀ k, n ≤ k → q'[k]? = q[k]?) → Hp.HeapN wlt q' n → K (.tuple ⟨[]⟩) (pq p b N c mo ro fi tk iv lo q' st H)) : SCalls Tryd.prog 40 [qP p, .int .i64 (j : Int)] (pq p b N c mo ro fi tk iv lo q st H) K := by
  refine enter40 ?_
  repeat' ((conv => whnf); (first | refine New.mk (fun _ => ?_) | refine Look.at0 ?_ | refine Cell.row ?_ | refine Cell.buf ?_ | refine Cells.row rfl ?_ | refine Put.row rfl ?_ | refine Put.buf rfl ?_ | refine Look.at1 ?_ | refine Look.at2 ?_ | refine Look.at3 ?_ | refine Look.at4 ?_ | refine Look.at5 ?_ | refine Look.at6 ?_ | refine Look.at7 ?_ | refine Look.at8 ?_ | with_reducible refine Val.i64 (by omega) (by omega) ?_ | with_reducible refine Val.u8 (by omega) (by omega) ?_ | with_reducible refine Val.u32 (by omega) (by omega) ?_ | with_reducible refine Val.u64 (by omega) (by omega) ?_ | with_reducible refine Val.u8m ?_ | with_reducible refine Val.u32m ?_ | with_reducible refine Val.u64m ?_ | with_reducible refine Val.shr8 ?_ | with_reducible refine Val.shr16 (by decide) ?_ | with_reducible refine Val.shr24 (by decide) ?_ | with_reducible refine Val.raw ?_ | refine Branch.not ?_ | refine Branch.and ?_ | refine Branch.or ?_ | refine Branch.dt (by assumption) ?_ | refine Branch.df (by assumption) ?_ | refine Branch.dt rfl ?_ | refine Branch.dt (by omega) ?_ | refine Branch.df (by omega) ?_ | refine Branch.t rfl ?_ | refine Branch.f rfl ?_ | refine Branch.t (by assumption) ?_ | refine Branch.f (by assumption) ?_ | refine Branch.d (fun _ => ?_) (fun _ => ?_) | refine Branch.mk (fun _ => ?_) (fun _ => ?_) | refine Need.mk (by first | omega | decide | rfl) ?_ | refine Idx.nat (by omega) ?_ | refine Idx.auto (by first | omega | decide) (by first | omega | decide) ?_ | refine Cell.ro rfl ?_ | refine SDraw.all (by kernel_rfl) ?_ | refine Kept.k0 ?_ | refine Kept.k1 ?_ | refine Kept.k2 ?_ | refine Kept.k3 ?_ | refine Kept.k4 ?_))
  refine SLoop.invA (I40 p b N c n mo ro fi tk iv lo q st H) (fun s => s.2) (q, j) (Keep.all ⟨.refl _, fun _ _ => rfl, hu, hj, .mk, rfl⟩) ?_
  rintro ⟨q1, j⟩ S H' ⟨hp, htl, hu, hj, hS, rfl⟩ R hR
  dsimp only at hp htl hu hj hS hR ⊢
  cases hS
  have hl := hp.length_eq
  have hm2 : q1.length ≤ 4503599627370496 := by omega
  have hml1 : q1.length ≤ maxLen := by simp only [maxLen]; omega
  have hx := List.getElem?_eq_getElem (show j < q1.length by omega)
  generalize q1[j] = x at hx
  have hy := List.getElem?_eq_getElem (show (j - 1) / 2 < q1.length by omega)
  generalize q1[(j - 1) / 2] = y at hy
  rcases Nat.eq_zero_or_pos j with rfl | hj0
  · have hk := hK q1 hp htl (hu.done (.inl rfl))
    have hv : IntKind.i64.wrap ((((0 : Nat) : Int) - 1).tdiv 2) = ((0 : Nat) : Int) := by decide
    clear hR hK
    repeat' ((conv => whnf); (first | with_reducible refine Val.to _ hv ?_ | refine Branch.t rfl ?_ | exact Keep.all hk | refine New.mk (fun _ => ?_) | refine Look.at0 ?_ | refine Cell.row ?_ | refine Cell.buf ?_ | refine Cells.row rfl ?_ | refine Put.row rfl ?_ | refine Put.buf rfl ?_ | refine Look.at1 ?_ | refine Look.at2 ?_ | refine Look.at3 ?_ | refine Look.at4 ?_ | refine Look.at5 ?_ | refine Look.at6 ?_ | refine Look.at7 ?_ | refine Look.at8 ?_ | with_reducible refine Val.i64 (by omega) (by omega) ?_ | with_reducible refine Val.u8 (by omega) (by omega) ?_ | with_reducible refine Val.u32 (by omega) (by omega) ?_ | with_reducible refine Val.u64 (by omega) (by omega) ?_ | with_reducible refine Val.u8m ?_ | with_reducible refine Val.u32m ?_ | with_reducible refine Val.u64m ?_ | with_reducible refine Val.shr8 ?_ | with_reducible refine Val.shr16 (by decide) ?_ | with_reducible refine Val.shr24 (by decide) ?_ | with_reducible refine Val.raw ?_ | refine Branch.not ?_ | refine Branch.and ?_ | refine Branch.or ?_ | refine Branch.dt (by assumption) ?_ | refine Branch.df (by assumption) ?_ | refine Branch.dt rfl ?_ | refine Branch.dt (by omega) ?_ | refine Branch.df (by omega) ?_ | refine Branch.t rfl ?_ | refine Branch.f rfl ?_ | refine Branch.t (by assumption) ?_ | refine Branch.f (by assumption) ?_ | refine Branch.d (fun _ => ?_) (fun _ => ?_) | refine Branch.mk (fun _ => ?_) (fun _ => ?_) | refine Need.mk (by first | omega | decide | rfl) ?_ | refine Idx.nat (by omega) ?_ | refine Idx.auto (by first | omega | decide) (by first | omega | decide) ?_ | refine Cell.ro rfl ?_ | refine SDraw.all (by kernel_rfl) ?_ | refine Kept.k0 ?_ | refine Kept.k1 ?_ | refine Kept.k2 ?_ | refine Kept.k3 ?_ | refine Kept.k4 ?_))
  · have hv : IntKind.i64.wrap (((j : Int) - 1).tdiv 2) = (((j - 1) / 2 : Nat) : Int) := by
      rw [show (j : Int) - 1 = ((j - 1 : Nat) : Int) by omega, Int.tdiv_eq_ediv_of_nonneg (by omega), show ((2 : Int)) = ((2 : Nat) : Int) from rfl, ← Int.natCast_ediv]
      exact wrap_i64 (by omega) (by omega)
    have hij : (j - 1) / 2 < j := by omega
    have hless := fun (K2 : Value → Heap → Prop) (o : Oper) (xr : Operand) (ar : Array Operand) (ts : Array TypeId) ho hk => r_less (K := K2) (o := o) (xr := xr) (ar := ar) (ts := ts) (p := p) (mo := mo) (ro := ro) (fi := fi) (tk := tk) (iv := iv) (lo := lo) (H := H) (b := b) (N := N) (c := c) (st := st) ho hml1 hx hy hk
    cases hlt : wlt x y with
    | false =>
      have hk := hK q1 hp htl (hu.done (.inr ⟨x, y, hx, hy, hlt⟩))
      rw [hlt] at hless
      clear hR hK
      repeat' ((conv => whnf); (first | with_reducible refine Val.to _ hv ?_ | refine Branch.df (by omega) ?_ | refine hless _ _ _ _ _ rfl ?_ | exact Keep.all hk | refine New.mk (fun _ => ?_) | refine Look.at0 ?_ | refine Cell.row ?_ | refine Cell.buf ?_ | refine Cells.row rfl ?_ | refine Put.row rfl ?_ | refine Put.buf rfl ?_ | refine Look.at1 ?_ | refine Look.at2 ?_ | refine Look.at3 ?_ | refine Look.at4 ?_ | refine Look.at5 ?_ | refine Look.at6 ?_ | refine Look.at7 ?_ | refine Look.at8 ?_ | with_reducible refine Val.i64 (by omega) (by omega) ?_ | with_reducible refine Val.u8 (by omega) (by omega) ?_ | with_reducible refine Val.u32 (by omega) (by omega) ?_ | with_reducible refine Val.u64 (by omega) (by omega) ?_ | with_reducible refine Val.u8m ?_ | with_reducible refine Val.u32m ?_ | with_reducible refine Val.u64m ?_ | with_reducible refine Val.shr8 ?_ | with_reducible refine Val.shr16 (by decide) ?_ | with_reducible refine Val.shr24 (by decide) ?_ | with_reducible refine Val.raw ?_ | refine Branch.not ?_ | refine Branch.and ?_ | refine Branch.or ?_ | refine Branch.dt (by assumption) ?_ | refine Branch.df (by assumption) ?_ | refine Branch.dt rfl ?_ | refine Branch.dt (by omega) ?_ | refine Branch.df (by omega) ?_ | refine Branch.t rfl ?_ | refine Branch.f rfl ?_ | refine Branch.t (by assumption) ?_ | refine Branch.f (by assumption) ?_ | refine Branch.d (fun _ => ?_) (fun _ => ?_) | refine Branch.mk (fun _ => ?_) (fun _ => ?_) | refine Need.mk (by first | omega | decide | rfl) ?_ | refine Idx.nat (by omega) ?_ | refine Idx.auto (by first | omega | decide) (by first | omega | decide) ?_ | refine Cell.ro rfl ?_ | refine SDraw.all (by kernel_rfl) ?_ | refine Kept.k0 ?_ | refine Kept.k1 ?_ | refine Kept.k2 ?_ | refine Kept.k3 ?_ | refine Kept.k4 ?_))
    | true =>
      rw [hlt] at hless
      have hstep := hu.step wlt_ord hj0 hj hx hy hlt
      have hnext := fun S (hS : S40 (qP p) (.int .i64 (((j - 1) / 2 : Nat) : Int)) S) => hR (Hp.sw q1 ((j - 1) / 2) j x y, (j - 1) / 2) S _ hij (Keep.all ⟨(Hp.sw_perm hy hx).trans hp, fun k hk => by
        show (Hp.sw q1 ((j - 1) / 2) j x y)[k]? = _
        rw [Hp.sw_at (Hp.at_lt hy) (Hp.at_lt hx), if_neg (by omega), if_neg (by omega)]
        exact htl k hk, hstep, by show (j - 1) / 2 < n; omega, hS, rfl⟩)
      clear hR hK
      repeat' ((conv => whnf); (first | with_reducible refine Val.to _ hv ?_ | refine Branch.df (by omega) ?_ | refine hless _ _ _ _ _ rfl ?_ | refine r_swap rfl hy hx ?_ | exact hnext _ .mk | refine New.mk (fun _ => ?_) | refine Look.at0 ?_ | refine Cell.row ?_ | refine Cell.buf ?_ | refine Cells.row rfl ?_ | refine Put.row rfl ?_ | refine Put.buf rfl ?_ | refine Look.at1 ?_ | refine Look.at2 ?_ | refine Look.at3 ?_ | refine Look.at4 ?_ | refine Look.at5 ?_ | refine Look.at6 ?_ | refine Look.at7 ?_ | refine Look.at8 ?_ | with_reducible refine Val.i64 (by omega) (by omega) ?_ | with_reducible refine Val.u8 (by omega) (by omega) ?_ | with_reducible refine Val.u32 (by omega) (by omega) ?_ | with_reducible refine Val.u64 (by omega) (by omega) ?_ | with_reducible refine Val.u8m ?_ | with_reducible refine Val.u32m ?_ | with_reducible refine Val.u64m ?_ | with_reducible refine Val.shr8 ?_ | with_reducible refine Val.shr16 (by decide) ?_ | with_reducible refine Val.shr24 (by decide) ?_ | with_reducible refine Val.raw ?_ | refine Branch.not ?_ | refine Branch.and ?_ | refine Branch.or ?_ | refine Branch.dt (by assumption) ?_ | refine Branch.df (by assumption) ?_ | refine Branch.dt rfl ?_ | refine Branch.dt (by omega) ?_ | refine Branch.df (by omega) ?_ | refine Branch.t rfl ?_ | refine Branch.f rfl ?_ | refine Branch.t (by assumption) ?_ | refine Branch.f (by assumption) ?_ | refine Branch.d (fun _ => ?_) (fun _ => ?_) | refine Branch.mk (fun _ => ?_) (fun _ => ?_) | refine Need.mk (by first | omega | decide | rfl) ?_ | refine Idx.nat (by omega) ?_ | refine Idx.auto (by first | omega | decide) (by first | omega | decide) ?_ | refine Cell.ro rfl ?_ | refine SDraw.all (by kernel_rfl) ?_ | refine Kept.k0 ?_ | refine Kept.k1 ?_ | refine Kept.k2 ?_ | refine Kept.k3 ?_ | refine Kept.k4 ?_))
theorem c40 {b N c : Nat} {q st : List Wn} {j : Nat} (hml : q.length ≤ 4503599627370496) (hu : Hp.UpI wlt q j q.length) (hj : j < q.length) (hK : ∀ q', q'.Perm q → Hp.HeapN wlt q' q'.length → K (.tuple ⟨[]⟩) (pq p b N c mo ro fi tk iv lo q' st H)) : SCalls Tryd.prog 40 [qP p, .int .i64 (j : Int)] (pq p b N c mo ro fi tk iv lo q st H) K :=
  c40n hml (Nat.le_refl _) hu hj fun q' hp _ hh => hK q' hp (by rw [hp.length_eq]; exact hh)
def I44 (p b N c : Nat) (mo ro fi tk iv lo : Value) (q0 st : List Wn) (i0 n : Nat) (H : Heap) (s : List Wn × Nat) (S : List Value) (H' : Heap) : Prop :=
  s.1.Perm q0 ∧ (∀ k, n ≤ k → s.1[k]? = q0[k]?) ∧ Hp.BothI wlt s.1 s.2 n ∧ (s.2 ≠ i0 → Hp.DownI wlt s.1 s.2 n) ∧ i0 ≤ s.2 ∧ (s.2 = i0 → s.1 = q0) ∧ (s.2 < n ∨ s.2 = i0) ∧ S44 (qP p) (.int .i64 (i0 : Int)) (.int .i64 (n : Int)) (.int .i64 (s.2 : Int)) S ∧ H' = pq p b N c mo ro fi tk iv lo s.1 st H
theorem c44 {b N c : Nat} {q st : List Wn} {i0 n : Nat} (hml : q.length ≤ 4503599627370496) (hn : n ≤ q.length) (hb : Hp.BothI wlt q i0 n) (hi0 : i0 ≤ n)
    (hK : ∀ (mv : Bool) q', q'.Perm q → (∀ k, n ≤ k → q'[k]? = q[k]?) → (mv = true → Hp.HeapN wlt q' n) → (mv = false → q' = q ∧ Hp.UpI wlt q i0 n) → K (.bool mv) (pq p b N c mo ro fi tk iv lo q' st H)) : SCalls Tryd.prog 44 [qP p, .int .i64 (i0 : Int), .int .i64 (n : Int)] (pq p b N c mo ro fi tk iv lo q st H) K := by
  refine enter44 ?_
  repeat' ((conv => whnf); (first | refine New.mk (fun _ => ?_) | refine Look.at0 ?_ | refine Cell.row ?_ | refine Cell.buf ?_ | refine Cells.row rfl ?_ | refine Put.row rfl ?_ | refine Put.buf rfl ?_ | refine Look.at1 ?_ | refine Look.at2 ?_ | refine Look.at3 ?_ | refine Look.at4 ?_ | refine Look.at5 ?_ | refine Look.at6 ?_ | refine Look.at7 ?_ | refine Look.at8 ?_ | with_reducible refine Val.i64 (by omega) (by omega) ?_ | with_reducible refine Val.u8 (by omega) (by omega) ?_ | with_reducible refine Val.u32 (by omega) (by omega) ?_ | with_reducible refine Val.u64 (by omega) (by omega) ?_ | with_reducible refine Val.u8m ?_ | with_reducible refine Val.u32m ?_ | with_reducible refine Val.u64m ?_ | with_reducible refine Val.shr8 ?_ | with_reducible refine Val.shr16 (by decide) ?_ | with_reducible refine Val.shr24 (by decide) ?_ | with_reducible refine Val.raw ?_ | refine Branch.not ?_ | refine Branch.and ?_ | refine Branch.or ?_ | refine Branch.dt (by assumption) ?_ | refine Branch.df (by assumption) ?_ | refine Branch.dt rfl ?_ | refine Branch.dt (by omega) ?_ | refine Branch.df (by omega) ?_ | refine Branch.t rfl ?_ | refine Branch.f rfl ?_ | refine Branch.t (by assumption) ?_ | refine Branch.f (by assumption) ?_ | refine Branch.d (fun _ => ?_) (fun _ => ?_) | refine Branch.mk (fun _ => ?_) (fun _ => ?_) | refine Need.mk (by first | omega | decide | rfl) ?_ | refine Idx.nat (by omega) ?_ | refine Idx.auto (by first | omega | decide) (by first | omega | decide) ?_ | refine Cell.ro rfl ?_ | refine SDraw.all (by kernel_rfl) ?_ | refine Kept.k0 ?_ | refine Kept.k1 ?_ | refine Kept.k2 ?_ | refine Kept.k3 ?_ | refine Kept.k4 ?_))
  refine SLoop.invA (I44 p b N c mo ro fi tk iv lo q st i0 n H) (fun s => n - s.2) (q, i0) (Keep.all ⟨.refl _, fun _ _ => rfl, hb, fun h => absurd rfl h, Nat.le_refl _, fun _ => rfl, .inr rfl, .mk, rfl⟩) ?_
  rintro ⟨q1, i⟩ S H' ⟨hp, htl, hbo, hdn, hge, hsame, hlt', hS, rfl⟩ R hR
  dsimp only at hp htl hbo hdn hge hsame hlt' hS hR ⊢
  cases hS
  have hl := hp.length_eq
  have hm2 : q1.length ≤ 4503599627370496 := by omega
  have hml1 : q1.length ≤ maxLen := by simp only [maxLen]; omega
  have hfin : (∀ k x y, 0 < k → k < n → (k - 1) / 2 = i → q1[k]? = some x → q1[i]? = some y → wlt x y = false) → K (.bool (decide ((i0 : Int) < i))) (pq p b N c mo ro fi tk iv lo q1 st H) := fun hd => by
    by_cases he : i = i0
    · have hq := hsame he
      subst he
      rw [show decide ((i : Int) < i) = false by simp]
      exact hK false q1 hp htl (fun h => by cases h) (fun _ => ⟨hq, by rw [← hq]; exact hbo.stay hd⟩)
    · rw [show decide ((i0 : Int) < i) = true by simp; omega]
      exact hK true q1 hp htl (fun _ => (hdn he).done hd) (fun h => by cases h)
  clear hK
  by_cases h1 : n ≤ 2 * i + 1
  · have hk := hfin (fun k x y k0 k1 k2 _ _ => by omega)
    clear hR hfin
    repeat' ((conv => whnf); (first | refine Branch.dt (by omega) ?_ | exact Keep.all hk | refine New.mk (fun _ => ?_) | refine Look.at0 ?_ | refine Cell.row ?_ | refine Cell.buf ?_ | refine Cells.row rfl ?_ | refine Put.row rfl ?_ | refine Put.buf rfl ?_ | refine Look.at1 ?_ | refine Look.at2 ?_ | refine Look.at3 ?_ | refine Look.at4 ?_ | refine Look.at5 ?_ | refine Look.at6 ?_ | refine Look.at7 ?_ | refine Look.at8 ?_ | with_reducible refine Val.i64 (by omega) (by omega) ?_ | with_reducible refine Val.u8 (by omega) (by omega) ?_ | with_reducible refine Val.u32 (by omega) (by omega) ?_ | with_reducible refine Val.u64 (by omega) (by omega) ?_ | with_reducible refine Val.u8m ?_ | with_reducible refine Val.u32m ?_ | with_reducible refine Val.u64m ?_ | with_reducible refine Val.shr8 ?_ | with_reducible refine Val.shr16 (by decide) ?_ | with_reducible refine Val.shr24 (by decide) ?_ | with_reducible refine Val.raw ?_ | refine Branch.not ?_ | refine Branch.and ?_ | refine Branch.or ?_ | refine Branch.dt (by assumption) ?_ | refine Branch.df (by assumption) ?_ | refine Branch.dt rfl ?_ | refine Branch.dt (by omega) ?_ | refine Branch.df (by omega) ?_ | refine Branch.t rfl ?_ | refine Branch.f rfl ?_ | refine Branch.t (by assumption) ?_ | refine Branch.f (by assumption) ?_ | refine Branch.d (fun _ => ?_) (fun _ => ?_) | refine Branch.mk (fun _ => ?_) (fun _ => ?_) | refine Need.mk (by first | omega | decide | rfl) ?_ | refine Idx.nat (by omega) ?_ | refine Idx.auto (by first | omega | decide) (by first | omega | decide) ?_ | refine Cell.ro rfl ?_ | refine SDraw.all (by kernel_rfl) ?_ | refine Kept.k0 ?_ | refine Kept.k1 ?_ | refine Kept.k2 ?_ | refine Kept.k3 ?_ | refine Kept.k4 ?_))
  · have hin : i < n := by omega
    have hx := List.getElem?_eq_getElem (show i < q1.length by omega)
    generalize q1[i] = y at hx
    have hx1 := List.getElem?_eq_getElem (show 2 * i + 1 < q1.length by omega)
    generalize q1[2 * i + 1] = x1 at hx1
    have go : ∀ (j : Nat) (x : Wn), q1[j]? = some x → (j - 1) / 2 = i → 0 < j → j < n → (∀ k a, 0 < k → k < n → (k - 1) / 2 = i → q1[k]? = some a → wlt a x = false) →
        (wlt x y = false → K (.bool (decide ((i0 : Int) < i))) (pq p b N c mo ro fi tk iv lo q1 st H)) ∧ (wlt x y = true → ∀ S, S44 (qP p) (.int .i64 (i0 : Int)) (.int .i64 (n : Int)) (.int .i64 (j : Int)) S → R S (pq p b N c mo ro fi tk iv lo (Hp.sw q1 i j x y) st H)) := by
      intro j x hj hji hj0 hjn hmin
      have hij : i < j := by omega
      refine ⟨fun hlt => hfin fun k a z k0 k1 k2 ha hz => ?_, fun hlt S hS => hR (Hp.sw q1 i j x y, j) S _ (by show n - j < n - i; omega) (Keep.all ⟨(Hp.sw_perm hx hj).trans hp, fun k hk => ?_, ?_, fun _ => ?_, by show i0 ≤ j; omega, fun h => absurd h (by show ¬ j = i0; omega), .inl hjn, hS, rfl⟩)⟩
      · rw [hx] at hz
        injection hz with hz
        subst hz
        exact wlt_ord.nt _ _ _ hlt (hmin k a k0 k1 k2 ha)
      · show (Hp.sw q1 i j x y)[k]? = _
        rw [Hp.sw_at (Hp.at_lt hx) (Hp.at_lt hj), if_neg (by omega), if_neg (by omega)]
        exact htl k hk
      · exact (hbo.step wlt_ord hji hj0 hjn hj hx hlt hmin).both
      · exact hbo.step wlt_ord hji hj0 hjn hj hx hlt hmin
    have irr : ∀ a : Wn, wlt a a = false := wlt_irr
    have hless := fun (i j : Nat) (x y : Wn) (hi : q1[i]? = some x) (hj : q1[j]? = some y) (b' : Bool) (hb' : wlt x y = b') (K2 : Value → Heap → Prop) (o : Oper) (xr : Operand) (ar : Array Operand) (ts : Array TypeId) ho (hk : K2 (.bool b') (pq p b N c mo ro fi tk iv lo q1 st H)) => r_less (K := K2) (o := o) (xr := xr) (ar := ar) (ts := ts) (p := p) (mo := mo) (ro := ro) (fi := fi) (tk := tk) (iv := iv) (lo := lo) (H := H) (b := b) (N := N) (c := c) (st := st) ho hml1 hi hj (by rw [hb']; exact hk)
    have e1 : (2 : Int) * (i : Int) + 1 = ((2 * i + 1 : Nat) : Int) := by omega
    have e2 : (((2 * i + 1 : Nat) : Int)) + 1 = ((2 * i + 2 : Nat) : Int) := by omega
    clear hR hfin
    by_cases h2 : 2 * i + 2 < n
    · have hx2 := List.getElem?_eq_getElem (show 2 * i + 2 < q1.length by omega)
      generalize q1[2 * i + 2] = x2 at hx2
      cases hc12 : wlt x2 x1 with
      | true =>
        obtain ⟨g1, g2⟩ := go (2 * i + 2) x2 hx2 (by omega) (by omega) h2 (fun k a k0 k1 k2 ha => by
          rcases (by omega : k = 2 * i + 1 ∨ k = 2 * i + 2) with rfl | rfl
          · rw [hx1] at ha
            injection ha with ha
            subst ha
            exact wlt_ord.asym _ _ hc12
          · rw [hx2] at ha
            injection ha with ha
            subst ha
            exact irr _)
        have hl1 := hless _ _ _ _ hx2 hx1 _ hc12
        cases hc : wlt x2 y with
        | false =>
          have hk := g1 hc
          have hl2 := hless _ _ _ _ hx2 hx _ hc
          repeat' ((conv => whnf); (first | with_reducible refine Val.to ((2 * i + 1 : Nat) : Int) (by rw [wrap_i64 (by omega) (by omega)]; omega) ?_ | with_reducible refine Val.to ((2 * i + 2 : Nat) : Int) (by rw [wrap_i64 (by omega) (by omega)]; omega) ?_ | refine Branch.df (by omega) ?_ | refine Branch.dt (by omega) ?_ | refine hl1 _ _ _ _ _ rfl ?_ | refine hl2 _ _ _ _ _ rfl ?_ | exact Keep.all hk | refine New.mk (fun _ => ?_) | refine Look.at0 ?_ | refine Cell.row ?_ | refine Cell.buf ?_ | refine Cells.row rfl ?_ | refine Put.row rfl ?_ | refine Put.buf rfl ?_ | refine Look.at1 ?_ | refine Look.at2 ?_ | refine Look.at3 ?_ | refine Look.at4 ?_ | refine Look.at5 ?_ | refine Look.at6 ?_ | refine Look.at7 ?_ | refine Look.at8 ?_ | with_reducible refine Val.i64 (by omega) (by omega) ?_ | with_reducible refine Val.u8 (by omega) (by omega) ?_ | with_reducible refine Val.u32 (by omega) (by omega) ?_ | with_reducible refine Val.u64 (by omega) (by omega) ?_ | with_reducible refine Val.u8m ?_ | with_reducible refine Val.u32m ?_ | with_reducible refine Val.u64m ?_ | with_reducible refine Val.shr8 ?_ | with_reducible refine Val.shr16 (by decide) ?_ | with_reducible refine Val.shr24 (by decide) ?_ | with_reducible refine Val.raw ?_ | refine Branch.not ?_ | refine Branch.and ?_ | refine Branch.or ?_ | refine Branch.dt (by assumption) ?_ | refine Branch.df (by assumption) ?_ | refine Branch.dt rfl ?_ | refine Branch.dt (by omega) ?_ | refine Branch.df (by omega) ?_ | refine Branch.t rfl ?_ | refine Branch.f rfl ?_ | refine Branch.t (by assumption) ?_ | refine Branch.f (by assumption) ?_ | refine Branch.d (fun _ => ?_) (fun _ => ?_) | refine Branch.mk (fun _ => ?_) (fun _ => ?_) | refine Need.mk (by first | omega | decide | rfl) ?_ | refine Idx.nat (by omega) ?_ | refine Idx.auto (by first | omega | decide) (by first | omega | decide) ?_ | refine Cell.ro rfl ?_ | refine SDraw.all (by kernel_rfl) ?_ | refine Kept.k0 ?_ | refine Kept.k1 ?_ | refine Kept.k2 ?_ | refine Kept.k3 ?_ | refine Kept.k4 ?_))
        | true =>
          have hk := g2 hc
          have hl2 := hless _ _ _ _ hx2 hx _ hc
          repeat' ((conv => whnf); (first | with_reducible refine Val.to ((2 * i + 1 : Nat) : Int) (by rw [wrap_i64 (by omega) (by omega)]; omega) ?_ | with_reducible refine Val.to ((2 * i + 2 : Nat) : Int) (by rw [wrap_i64 (by omega) (by omega)]; omega) ?_ | refine Branch.df (by omega) ?_ | refine Branch.dt (by omega) ?_ | refine hl1 _ _ _ _ _ rfl ?_ | refine hl2 _ _ _ _ _ rfl ?_ | refine r_swap rfl hx hx2 ?_ | exact hk _ .mk | refine New.mk (fun _ => ?_) | refine Look.at0 ?_ | refine Cell.row ?_ | refine Cell.buf ?_ | refine Cells.row rfl ?_ | refine Put.row rfl ?_ | refine Put.buf rfl ?_ | refine Look.at1 ?_ | refine Look.at2 ?_ | refine Look.at3 ?_ | refine Look.at4 ?_ | refine Look.at5 ?_ | refine Look.at6 ?_ | refine Look.at7 ?_ | refine Look.at8 ?_ | with_reducible refine Val.i64 (by omega) (by omega) ?_ | with_reducible refine Val.u8 (by omega) (by omega) ?_ | with_reducible refine Val.u32 (by omega) (by omega) ?_ | with_reducible refine Val.u64 (by omega) (by omega) ?_ | with_reducible refine Val.u8m ?_ | with_reducible refine Val.u32m ?_ | with_reducible refine Val.u64m ?_ | with_reducible refine Val.shr8 ?_ | with_reducible refine Val.shr16 (by decide) ?_ | with_reducible refine Val.shr24 (by decide) ?_ | with_reducible refine Val.raw ?_ | refine Branch.not ?_ | refine Branch.and ?_ | refine Branch.or ?_ | refine Branch.dt (by assumption) ?_ | refine Branch.df (by assumption) ?_ | refine Branch.dt rfl ?_ | refine Branch.dt (by omega) ?_ | refine Branch.df (by omega) ?_ | refine Branch.t rfl ?_ | refine Branch.f rfl ?_ | refine Branch.t (by assumption) ?_ | refine Branch.f (by assumption) ?_ | refine Branch.d (fun _ => ?_) (fun _ => ?_) | refine Branch.mk (fun _ => ?_) (fun _ => ?_) | refine Need.mk (by first | omega | decide | rfl) ?_ | refine Idx.nat (by omega) ?_ | refine Idx.auto (by first | omega | decide) (by first | omega | decide) ?_ | refine Cell.ro rfl ?_ | refine SDraw.all (by kernel_rfl) ?_ | refine Kept.k0 ?_ | refine Kept.k1 ?_ | refine Kept.k2 ?_ | refine Kept.k3 ?_ | refine Kept.k4 ?_))
      | false =>
        obtain ⟨g1, g2⟩ := go (2 * i + 1) x1 hx1 (by omega) (by omega) (by omega) (fun k a k0 k1 k2 ha => by
          rcases (by omega : k = 2 * i + 1 ∨ k = 2 * i + 2) with rfl | rfl
          · rw [hx1] at ha
            injection ha with ha
            subst ha
            exact irr _
          · rw [hx2] at ha
            injection ha with ha
            subst ha
            exact hc12)
        have hl1 := hless _ _ _ _ hx2 hx1 _ hc12
        cases hc : wlt x1 y with
        | false =>
          have hk := g1 hc
          have hl2 := hless _ _ _ _ hx1 hx _ hc
          repeat' ((conv => whnf); (first | with_reducible refine Val.to ((2 * i + 1 : Nat) : Int) (by rw [wrap_i64 (by omega) (by omega)]; omega) ?_ | with_reducible refine Val.to ((2 * i + 2 : Nat) : Int) (by rw [wrap_i64 (by omega) (by omega)]; omega) ?_ | refine Branch.df (by omega) ?_ | refine Branch.dt (by omega) ?_ | refine hl1 _ _ _ _ _ rfl ?_ | refine hl2 _ _ _ _ _ rfl ?_ | exact Keep.all hk | refine New.mk (fun _ => ?_) | refine Look.at0 ?_ | refine Cell.row ?_ | refine Cell.buf ?_ | refine Cells.row rfl ?_ | refine Put.row rfl ?_ | refine Put.buf rfl ?_ | refine Look.at1 ?_ | refine Look.at2 ?_ | refine Look.at3 ?_ | refine Look.at4 ?_ | refine Look.at5 ?_ | refine Look.at6 ?_ | refine Look.at7 ?_ | refine Look.at8 ?_ | with_reducible refine Val.i64 (by omega) (by omega) ?_ | with_reducible refine Val.u8 (by omega) (by omega) ?_ | with_reducible refine Val.u32 (by omega) (by omega) ?_ | with_reducible refine Val.u64 (by omega) (by omega) ?_ | with_reducible refine Val.u8m ?_ | with_reducible refine Val.u32m ?_ | with_reducible refine Val.u64m ?_ | with_reducible refine Val.shr8 ?_ | with_reducible refine Val.shr16 (by decide) ?_ | with_reducible refine Val.shr24 (by decide) ?_ | with_reducible refine Val.raw ?_ | refine Branch.not ?_ | refine Branch.and ?_ | refine Branch.or ?_ | refine Branch.dt (by assumption) ?_ | refine Branch.df (by assumption) ?_ | refine Branch.dt rfl ?_ | refine Branch.dt (by omega) ?_ | refine Branch.df (by omega) ?_ | refine Branch.t rfl ?_ | refine Branch.f rfl ?_ | refine Branch.t (by assumption) ?_ | refine Branch.f (by assumption) ?_ | refine Branch.d (fun _ => ?_) (fun _ => ?_) | refine Branch.mk (fun _ => ?_) (fun _ => ?_) | refine Need.mk (by first | omega | decide | rfl) ?_ | refine Idx.nat (by omega) ?_ | refine Idx.auto (by first | omega | decide) (by first | omega | decide) ?_ | refine Cell.ro rfl ?_ | refine SDraw.all (by kernel_rfl) ?_ | refine Kept.k0 ?_ | refine Kept.k1 ?_ | refine Kept.k2 ?_ | refine Kept.k3 ?_ | refine Kept.k4 ?_))
        | true =>
          have hk := g2 hc
          have hl2 := hless _ _ _ _ hx1 hx _ hc
          repeat' ((conv => whnf); (first | with_reducible refine Val.to ((2 * i + 1 : Nat) : Int) (by rw [wrap_i64 (by omega) (by omega)]; omega) ?_ | with_reducible refine Val.to ((2 * i + 2 : Nat) : Int) (by rw [wrap_i64 (by omega) (by omega)]; omega) ?_ | refine Branch.df (by omega) ?_ | refine Branch.dt (by omega) ?_ | refine hl1 _ _ _ _ _ rfl ?_ | refine hl2 _ _ _ _ _ rfl ?_ | refine r_swap rfl hx hx1 ?_ | exact hk _ .mk | refine New.mk (fun _ => ?_) | refine Look.at0 ?_ | refine Cell.row ?_ | refine Cell.buf ?_ | refine Cells.row rfl ?_ | refine Put.row rfl ?_ | refine Put.buf rfl ?_ | refine Look.at1 ?_ | refine Look.at2 ?_ | refine Look.at3 ?_ | refine Look.at4 ?_ | refine Look.at5 ?_ | refine Look.at6 ?_ | refine Look.at7 ?_ | refine Look.at8 ?_ | with_reducible refine Val.i64 (by omega) (by omega) ?_ | with_reducible refine Val.u8 (by omega) (by omega) ?_ | with_reducible refine Val.u32 (by omega) (by omega) ?_ | with_reducible refine Val.u64 (by omega) (by omega) ?_ | with_reducible refine Val.u8m ?_ | with_reducible refine Val.u32m ?_ | with_reducible refine Val.u64m ?_ | with_reducible refine Val.shr8 ?_ | with_reducible refine Val.shr16 (by decide) ?_ | with_reducible refine Val.shr24 (by decide) ?_ | with_reducible refine Val.raw ?_ | refine Branch.not ?_ | refine Branch.and ?_ | refine Branch.or ?_ | refine Branch.dt (by assumption) ?_ | refine Branch.df (by assumption) ?_ | refine Branch.dt rfl ?_ | refine Branch.dt (by omega) ?_ | refine Branch.df (by omega) ?_ | refine Branch.t rfl ?_ | refine Branch.f rfl ?_ | refine Branch.t (by assumption) ?_ | refine Branch.f (by assumption) ?_ | refine Branch.d (fun _ => ?_) (fun _ => ?_) | refine Branch.mk (fun _ => ?_) (fun _ => ?_) | refine Need.mk (by first | omega | decide | rfl) ?_ | refine Idx.nat (by omega) ?_ | refine Idx.auto (by first | omega | decide) (by first | omega | decide) ?_ | refine Cell.ro rfl ?_ | refine SDraw.all (by kernel_rfl) ?_ | refine Kept.k0 ?_ | refine Kept.k1 ?_ | refine Kept.k2 ?_ | refine Kept.k3 ?_ | refine Kept.k4 ?_))
    · obtain ⟨g1, g2⟩ := go (2 * i + 1) x1 hx1 (by omega) (by omega) (by omega) (fun k a k0 k1 k2 ha => by
        obtain rfl : k = 2 * i + 1 := by omega
        rw [hx1] at ha
        injection ha with ha
        subst ha
        exact irr _)
      cases hc : wlt x1 y with
      | false =>
        have hk := g1 hc
        have hl2 := hless _ _ _ _ hx1 hx _ hc
        repeat' ((conv => whnf); (first | with_reducible refine Val.to ((2 * i + 1 : Nat) : Int) (by rw [wrap_i64 (by omega) (by omega)]; omega) ?_ | with_reducible refine Val.to ((2 * i + 2 : Nat) : Int) (by rw [wrap_i64 (by omega) (by omega)]; omega) ?_ | refine Branch.df (by omega) ?_ | refine Branch.dt (by omega) ?_ | refine hl2 _ _ _ _ _ rfl ?_ | exact Keep.all hk | refine New.mk (fun _ => ?_) | refine Look.at0 ?_ | refine Cell.row ?_ | refine Cell.buf ?_ | refine Cells.row rfl ?_ | refine Put.row rfl ?_ | refine Put.buf rfl ?_ | refine Look.at1 ?_ | refine Look.at2 ?_ | refine Look.at3 ?_ | refine Look.at4 ?_ | refine Look.at5 ?_ | refine Look.at6 ?_ | refine Look.at7 ?_ | refine Look.at8 ?_ | with_reducible refine Val.i64 (by omega) (by omega) ?_ | with_reducible refine Val.u8 (by omega) (by omega) ?_ | with_reducible refine Val.u32 (by omega) (by omega) ?_ | with_reducible refine Val.u64 (by omega) (by omega) ?_ | with_reducible refine Val.u8m ?_ | with_reducible refine Val.u32m ?_ | with_reducible refine Val.u64m ?_ | with_reducible refine Val.shr8 ?_ | with_reducible refine Val.shr16 (by decide) ?_ | with_reducible refine Val.shr24 (by decide) ?_ | with_reducible refine Val.raw ?_ | refine Branch.not ?_ | refine Branch.and ?_ | refine Branch.or ?_ | refine Branch.dt (by assumption) ?_ | refine Branch.df (by assumption) ?_ | refine Branch.dt rfl ?_ | refine Branch.dt (by omega) ?_ | refine Branch.df (by omega) ?_ | refine Branch.t rfl ?_ | refine Branch.f rfl ?_ | refine Branch.t (by assumption) ?_ | refine Branch.f (by assumption) ?_ | refine Branch.d (fun _ => ?_) (fun _ => ?_) | refine Branch.mk (fun _ => ?_) (fun _ => ?_) | refine Need.mk (by first | omega | decide | rfl) ?_ | refine Idx.nat (by omega) ?_ | refine Idx.auto (by first | omega | decide) (by first | omega | decide) ?_ | refine Cell.ro rfl ?_ | refine SDraw.all (by kernel_rfl) ?_ | refine Kept.k0 ?_ | refine Kept.k1 ?_ | refine Kept.k2 ?_ | refine Kept.k3 ?_ | refine Kept.k4 ?_))
      | true =>
        have hk := g2 hc
        have hl2 := hless _ _ _ _ hx1 hx _ hc
        repeat' ((conv => whnf); (first | with_reducible refine Val.to ((2 * i + 1 : Nat) : Int) (by rw [wrap_i64 (by omega) (by omega)]; omega) ?_ | with_reducible refine Val.to ((2 * i + 2 : Nat) : Int) (by rw [wrap_i64 (by omega) (by omega)]; omega) ?_ | refine Branch.df (by omega) ?_ | refine Branch.dt (by omega) ?_ | refine hl2 _ _ _ _ _ rfl ?_ | refine r_swap rfl hx hx1 ?_ | exact hk _ .mk | refine New.mk (fun _ => ?_) | refine Look.at0 ?_ | refine Cell.row ?_ | refine Cell.buf ?_ | refine Cells.row rfl ?_ | refine Put.row rfl ?_ | refine Put.buf rfl ?_ | refine Look.at1 ?_ | refine Look.at2 ?_ | refine Look.at3 ?_ | refine Look.at4 ?_ | refine Look.at5 ?_ | refine Look.at6 ?_ | refine Look.at7 ?_ | refine Look.at8 ?_ | with_reducible refine Val.i64 (by omega) (by omega) ?_ | with_reducible refine Val.u8 (by omega) (by omega) ?_ | with_reducible refine Val.u32 (by omega) (by omega) ?_ | with_reducible refine Val.u64 (by omega) (by omega) ?_ | with_reducible refine Val.u8m ?_ | with_reducible refine Val.u32m ?_ | with_reducible refine Val.u64m ?_ | with_reducible refine Val.shr8 ?_ | with_reducible refine Val.shr16 (by decide) ?_ | with_reducible refine Val.shr24 (by decide) ?_ | with_reducible refine Val.raw ?_ | refine Branch.not ?_ | refine Branch.and ?_ | refine Branch.or ?_ | refine Branch.dt (by assumption) ?_ | refine Branch.df (by assumption) ?_ | refine Branch.dt rfl ?_ | refine Branch.dt (by omega) ?_ | refine Branch.df (by omega) ?_ | refine Branch.t rfl ?_ | refine Branch.f rfl ?_ | refine Branch.t (by assumption) ?_ | refine Branch.f (by assumption) ?_ | refine Branch.d (fun _ => ?_) (fun _ => ?_) | refine Branch.mk (fun _ => ?_) (fun _ => ?_) | refine Need.mk (by first | omega | decide | rfl) ?_ | refine Idx.nat (by omega) ?_ | refine Idx.auto (by first | omega | decide) (by first | omega | decide) ?_ | refine Cell.ro rfl ?_ | refine SDraw.all (by kernel_rfl) ?_ | refine Kept.k0 ?_ | refine Kept.k1 ?_ | refine Kept.k2 ?_ | refine Kept.k3 ?_ | refine Kept.k4 ?_))
end
/-- The player's block and its queue (q), ahead of what else is known (H). -/
inductive PQ (p : Nat) (mo ro fi tk iv lo : Value) : List Wn → Heap → Heap → Prop
  | nil {H : Heap} : PQ p mo ro fi tk iv lo [] H (pRow p mo ro fi (.slice none 0 0) tk iv lo :: H)
  | buf {H : Heap} {b c : Nat} {q st : List Wn} : q.length ≤ c → c ≤ maxLen → PQ p mo ro fi tk iv lo q H (pq p b (c * 14) c mo ro fi tk iv lo q st H)
theorem oneW (y : Wn) : ∀ u ∈ wC y, u.oneCell' = true := by
  intro u hu
  simp only [wC, List.mem_cons, List.not_mem_nil, or_false] at hu
  rcases hu with rfl | rfl | rfl | rfl | rfl | rfl | rfl | rfl | rfl | rfl | rfl | rfl | rfl | rfl <;> rfl
theorem rot3 {a b c : Nat × Blk} {H : Heap} {K : Heap → Prop} (h : K (c :: a :: H)) : Keep (a :: b :: c :: H) K :=
  Keep.mk (b :: c :: a :: H) (c :: a :: H) ((List.Perm.swap b a _).trans (.cons b (.swap c a H))) (List.sublist_cons_self _ _) h
section
variable {K : Value → Heap → Prop} {H F : Heap} {p : Nat} {mo ro fi tk iv lo : Value} {q : List Wn} {x : Wn} {o : Oper} {xr : Operand} {ts : Array TypeId} {ar : Array Operand}
theorem PQ.que (h : PQ p mo ro fi tk iv lo q H F) : ∃ a c M, q.length ≤ maxLen ∧ Que wC 14 70 (.slice a q.length c) q M ∧ F = pRow p mo ro fi (.slice a q.length c) tk iv lo :: (M ++ H) := by
  cases h with
  | nil => exact ⟨none, 0, [], Nat.zero_le _, .nil, rfl⟩
  | buf h1 h2 => exact ⟨_, _, _, Nat.le_trans h1 h2, .buf h1 h2, rfl⟩
theorem c111 (h : PQ p mo ro fi tk iv lo q H F) (hl : q.length ≤ 1000000000) (hK : ∀ b c, q.length + 1 ≤ c → c ≤ maxLen → K (.tuple ⟨[]⟩) (pRow p mo ro fi (.slice (some ⟨b, 0, none⟩) (q.length + 1) c) tk iv lo :: (b, .buf 70 ((q ++ [x]).flatMap wC) (c * 14)) :: H)) : SCalls Tryd.prog 111 [.pointer (some ⟨p, 3, none⟩), .iface 70 (.agg ⟨wC x⟩)] F K := by
  obtain ⟨a, c, M, hml, hq, rfl⟩ := h.que
  refine enter111 ?_
  repeat' ((conv => whnf); (first | refine SDraw.held (by kernel_rfl) [_] (.same (.head _) .nil) ?_ | refine Kept.sub (List.Sublist.cons _ (List.Sublist.cons_cons _ (List.nil_sublist _))) ?_ | refine Kept.sub (List.Sublist.cons _ (List.Sublist.cons _ (List.Sublist.cons_cons _ (List.nil_sublist _)))) ?_ | refine RawV.que1 (A := [_, _]) (x := x) (bytes := 48) hq rfl (.head _) rfl (by kernel_rfl) (by decide) (fun _ => rfl) (oneW x) (by simp only [maxLen]; omega) (by omega) (fun b c h1 h2 => ?_) | exact rot3 (hK _ _ h1 h2) | refine New.mk (fun _ => ?_) | refine Look.at0 ?_ | refine Cell.row ?_ | refine Cell.buf ?_ | refine Cells.row rfl ?_ | refine Put.row rfl ?_ | refine Put.buf rfl ?_ | refine Look.at1 ?_ | refine Look.at2 ?_ | refine Look.at3 ?_ | refine Look.at4 ?_ | refine Look.at5 ?_ | refine Look.at6 ?_ | refine Look.at7 ?_ | refine Look.at8 ?_ | with_reducible refine Val.i64 (by omega) (by omega) ?_ | with_reducible refine Val.u8 (by omega) (by omega) ?_ | with_reducible refine Val.u32 (by omega) (by omega) ?_ | with_reducible refine Val.u64 (by omega) (by omega) ?_ | with_reducible refine Val.u8m ?_ | with_reducible refine Val.u32m ?_ | with_reducible refine Val.u64m ?_ | with_reducible refine Val.shr8 ?_ | with_reducible refine Val.shr16 (by decide) ?_ | with_reducible refine Val.shr24 (by decide) ?_ | with_reducible refine Val.raw ?_ | refine Branch.not ?_ | refine Branch.and ?_ | refine Branch.or ?_ | refine Branch.dt (by assumption) ?_ | refine Branch.df (by assumption) ?_ | refine Branch.dt rfl ?_ | refine Branch.dt (by omega) ?_ | refine Branch.df (by omega) ?_ | refine Branch.t rfl ?_ | refine Branch.f rfl ?_ | refine Branch.t (by assumption) ?_ | refine Branch.f (by assumption) ?_ | refine Branch.d (fun _ => ?_) (fun _ => ?_) | refine Branch.mk (fun _ => ?_) (fun _ => ?_) | refine Need.mk (by first | omega | decide | rfl) ?_ | refine Idx.nat (by omega) ?_ | refine Idx.auto (by first | omega | decide) (by first | omega | decide) ?_ | refine Cell.ro rfl ?_ | refine SDraw.all (by kernel_rfl) ?_ | refine Kept.k0 ?_ | refine Kept.k1 ?_ | refine Kept.k2 ?_ | refine Kept.k3 ?_ | refine Kept.k4 ?_))
theorem c110 {b N c : Nat} {q st : List Wn} (hl : q.length ≤ 1000000000) (hc : q.length + 1 ≤ c) (hK : K (.iface 70 (.agg ⟨wC x⟩)) (pq p b N c mo ro fi tk iv lo q (x :: st) H)) : SCalls Tryd.prog 110 [.pointer (some ⟨p, 3, none⟩)] (pq p b N c mo ro fi tk iv lo (q ++ [x]) st H) K := by
  have hx : (q ++ [x] ++ st)[q.length]? = some x := by simp
  have e : q ++ [x] ++ st = q ++ (x :: st) := by simp
  unfold pq at hK ⊢
  rw [← e] at hK
  rw [List.length_append, List.length_singleton]
  refine enter110 ?_
  repeat' ((conv => whnf); (first | with_reducible refine Val.to (q.length : Int) (by rw [wrap_i64 (by omega) (by omega)]; omega) ?_ | refine Idx.of q.length (by omega) (by omega) ?_ | refine Cells.flat (f := wC) (fun _ => rfl) hx ?_ | exact Keep.d1 hK | refine New.mk (fun _ => ?_) | refine Look.at0 ?_ | refine Cell.row ?_ | refine Cell.buf ?_ | refine Cells.row rfl ?_ | refine Put.row rfl ?_ | refine Put.buf rfl ?_ | refine Look.at1 ?_ | refine Look.at2 ?_ | refine Look.at3 ?_ | refine Look.at4 ?_ | refine Look.at5 ?_ | refine Look.at6 ?_ | refine Look.at7 ?_ | refine Look.at8 ?_ | with_reducible refine Val.i64 (by omega) (by omega) ?_ | with_reducible refine Val.u8 (by omega) (by omega) ?_ | with_reducible refine Val.u32 (by omega) (by omega) ?_ | with_reducible refine Val.u64 (by omega) (by omega) ?_ | with_reducible refine Val.u8m ?_ | with_reducible refine Val.u32m ?_ | with_reducible refine Val.u64m ?_ | with_reducible refine Val.shr8 ?_ | with_reducible refine Val.shr16 (by decide) ?_ | with_reducible refine Val.shr24 (by decide) ?_ | with_reducible refine Val.raw ?_ | refine Branch.not ?_ | refine Branch.and ?_ | refine Branch.or ?_ | refine Branch.dt (by assumption) ?_ | refine Branch.df (by assumption) ?_ | refine Branch.dt rfl ?_ | refine Branch.dt (by omega) ?_ | refine Branch.df (by omega) ?_ | refine Branch.t rfl ?_ | refine Branch.f rfl ?_ | refine Branch.t (by assumption) ?_ | refine Branch.f (by assumption) ?_ | refine Branch.d (fun _ => ?_) (fun _ => ?_) | refine Branch.mk (fun _ => ?_) (fun _ => ?_) | refine Need.mk (by first | omega | decide | rfl) ?_ | refine Idx.nat (by omega) ?_ | refine Idx.auto (by first | omega | decide) (by first | omega | decide) ?_ | refine Cell.ro rfl ?_ | refine SDraw.all (by kernel_rfl) ?_ | refine Kept.k0 ?_ | refine Kept.k1 ?_ | refine Kept.k2 ?_ | refine Kept.k3 ?_ | refine Kept.k4 ?_))
theorem r_push (ho : o.op = .call { callee := .invoke xr "Push", args := ar, argTypes := ts }) (h : PQ p mo ro fi tk iv lo q H F) (hl : q.length ≤ 1000000000) (hK : ∀ b c, q.length + 1 ≤ c → c ≤ maxLen → K (.tuple ⟨[]⟩) (pRow p mo ro fi (.slice (some ⟨b, 0, none⟩) (q.length + 1) c) tk iv lo :: (b, .buf 70 ((q ++ [x]).flatMap wC) (c * 14)) :: H)) : RawV Tryd.prog o [qP p, .iface 70 (.agg ⟨wC x⟩)] F K :=
  RawV.invoke (f := 111) (vs := [_]) ho (fun w hw => inv_push p _ w) (c111 h hl hK)
theorem r_pop {b N c : Nat} {q st : List Wn} (ho : o.op = .call { callee := .invoke xr "Pop", args := ar, argTypes := ts }) (hl : q.length ≤ 1000000000) (hc : q.length + 1 ≤ c) (hK : K (.iface 70 (.agg ⟨wC x⟩)) (pq p b N c mo ro fi tk iv lo q (x :: st) H)) : RawV Tryd.prog o [qP p] (pq p b N c mo ro fi tk iv lo (q ++ [x]) st H) K :=
  RawV.invoke (f := 110) (vs := []) ho (fun w hw => inv_pop p w) (c110 hl hc hK)
theorem c24 (h : PQ p mo ro fi tk iv lo q H F) (hh : Hp.HeapN wlt q q.length) (hl : q.length ≤ 1000000000) (hK : ∀ q' F', PQ p mo ro fi tk iv lo q' H F' → q'.Perm (q ++ [x]) → Hp.HeapN wlt q' q'.length → K (.tuple ⟨[]⟩) F') : SCalls Tryd.prog 24 [qP p, .iface 70 (.agg ⟨wC x⟩)] F K := by
  refine enter24 ?_
  have hpush := fun (K2 : Value → Heap → Prop) (o : Oper) (xr : Operand) (ar : Array Operand) (ts : Array TypeId) ho hk => r_push (K := K2) (o := o) (xr := xr) (ar := ar) (ts := ts) (x := x) ho h hl hk
  have hup : ∀ b c (K : Value → Heap → Prop), q.length + 1 ≤ c → c ≤ maxLen → (∀ q' F', PQ p mo ro fi tk iv lo q' H F' → q'.Perm (q ++ [x]) → Hp.HeapN wlt q' q'.length → K (.tuple ⟨[]⟩) F') → SCalls Tryd.prog 40 [qP p, .int .i64 (q.length : Int)] (pRow p mo ro fi (.slice (some ⟨b, 0, none⟩) (q.length + 1) c) tk iv lo :: (b, .buf 70 ((q ++ [x]).flatMap wC) (c * 14)) :: H) K := by
    intro b c K h1 h2 hK
    have hu := hh.push x
    have he : pRow p mo ro fi (.slice (some ⟨b, 0, none⟩) (q.length + 1) c) tk iv lo :: (b, .buf 70 ((q ++ [x]).flatMap wC) (c * 14)) :: H = pq p b (c * 14) c mo ro fi tk iv lo (q ++ [x]) [] H := by
      unfold pq
      rw [List.append_nil, List.length_append]; rfl
    rw [he]
    refine c40 (by simp; omega) (by rw [List.length_append]; exact hu) (by simp) (fun q' hp hn => hK q' _ (.buf (by rw [hp.length_eq]; simpa using h1) h2) hp hn)
  have hlen : ∀ b c (K2 : Value → Heap → Prop) (o : Oper) (xr : Operand) (ar : Array Operand) (ts : Array TypeId), o.op = .call { callee := .invoke xr "Len", args := ar, argTypes := ts } → K2 (.int .i64 ((q.length : Int) + 1)) (pRow p mo ro fi (.slice (some ⟨b, 0, none⟩) (q.length + 1) c) tk iv lo :: (b, .buf 70 ((q ++ [x]).flatMap wC) (c * 14)) :: H) → RawV Tryd.prog o [qP p] (pRow p mo ro fi (.slice (some ⟨b, 0, none⟩) (q.length + 1) c) tk iv lo :: (b, .buf 70 ((q ++ [x]).flatMap wC) (c * 14)) :: H) K2 := by
    intro b c K2 o xr ar ts ho hk
    have he : pRow p mo ro fi (.slice (some ⟨b, 0, none⟩) (q.length + 1) c) tk iv lo :: (b, .buf 70 ((q ++ [x]).flatMap wC) (c * 14)) :: H = pq p b (c * 14) c mo ro fi tk iv lo (q ++ [x]) [] H := by
      unfold pq
      rw [List.append_nil, List.length_append]; rfl
    rw [he] at hk ⊢
    refine r_len ho ?_
    rw [List.length_append]
    exact hk
  clear h
  repeat' ((conv => whnf); (first | refine hpush _ _ _ _ _ rfl (fun b c h1 h2 => ?_) | refine hlen _ _ _ _ _ _ _ rfl ?_ | with_reducible refine Val.to (q.length : Int) (by rw [wrap_i64 (by omega) (by omega)]; omega) ?_ | refine hup _ _ _ h1 h2 (fun q' F' g1 g2 g3 => ?_) | exact Keep.all (hK _ _ g1 g2 g3) | refine New.mk (fun _ => ?_) | refine Look.at0 ?_ | refine Cell.row ?_ | refine Cell.buf ?_ | refine Cells.row rfl ?_ | refine Put.row rfl ?_ | refine Put.buf rfl ?_ | refine Look.at1 ?_ | refine Look.at2 ?_ | refine Look.at3 ?_ | refine Look.at4 ?_ | refine Look.at5 ?_ | refine Look.at6 ?_ | refine Look.at7 ?_ | refine Look.at8 ?_ | with_reducible refine Val.i64 (by omega) (by omega) ?_ | with_reducible refine Val.u8 (by omega) (by omega) ?_ | with_reducible refine Val.u32 (by omega) (by omega) ?_ | with_reducible refine Val.u64 (by omega) (by omega) ?_ | with_reducible refine Val.u8m ?_ | with_reducible refine Val.u32m ?_ | with_reducible refine Val.u64m ?_ | with_reducible refine Val.shr8 ?_ | with_reducible refine Val.shr16 (by decide) ?_ | with_reducible refine Val.shr24 (by decide) ?_ | with_reducible refine Val.raw ?_ | refine Branch.not ?_ | refine Branch.and ?_ | refine Branch.or ?_ | refine Branch.dt (by assumption) ?_ | refine Branch.df (by assumption) ?_ | refine Branch.dt rfl ?_ | refine Branch.dt (by omega) ?_ | refine Branch.df (by omega) ?_ | refine Branch.t rfl ?_ | refine Branch.f rfl ?_ | refine Branch.t (by assumption) ?_ | refine Branch.f (by assumption) ?_ | refine Branch.d (fun _ => ?_) (fun _ => ?_) | refine Branch.mk (fun _ => ?_) (fun _ => ?_) | refine Need.mk (by first | omega | decide | rfl) ?_ | refine Idx.nat (by omega) ?_ | refine Idx.auto (by first | omega | decide) (by first | omega | decide) ?_ | refine Cell.ro rfl ?_ | refine SDraw.all (by kernel_rfl) ?_ | refine Kept.k0 ?_ | refine Kept.k1 ?_ | refine Kept.k2 ?_ | refine Kept.k3 ?_ | refine Kept.k4 ?_))
theorem c29 {n : Nat} {y : Wn} (h : PQ p mo ro fi tk iv lo q H F) (hh : Hp.HeapN wlt q q.length) (hl : q.length ≤ 1000000000) (hn : q.length = n + 1) (hK : ∀ y q' F', PQ p mo ro fi tk iv lo q' H F' → q.Perm (y :: q') → (∀ x ∈ q, wlt x y = false) → Hp.HeapN wlt q' q'.length → K (.iface 70 (.agg ⟨wC y⟩)) F') : SCalls Tryd.prog 29 [qP p] F K := by
  cases h with
  | nil => cases hn
  | @buf _ b c q st hc1 hc2 =>
    have h0 := List.getElem?_eq_getElem (show 0 < q.length by omega)
    generalize q[0] = y at h0
    have hx := List.getElem?_eq_getElem (show n < q.length by omega)
    generalize q[n] = x at hx
    have hmin := hh.min wlt_ord (Nat.le_refl _) h0 (wlt_irr y)
    rw [hn] at hh
    have hb := hh.pop h0 hx
    have hsl := Hp.sw_len (l := q) (i := 0) (j := n) (x := x) (y := y)
    have hsn : (Hp.sw q 0 n x y)[n]? = some y := by rw [Hp.sw_at (Hp.at_lt h0) (Hp.at_lt hx), if_pos rfl]
    have hdown : ∀ (K2 : Value → Heap → Prop), (∀ mv q', q'.length = n → q.Perm (y :: q') → Hp.HeapN wlt q' q'.length → K2 (.bool mv) (pq p b (c * 14) c mo ro fi tk iv lo (q' ++ [y]) st H)) → SCalls Tryd.prog 44 [qP p, .int .i64 0, .int .i64 (n : Int)] (pq p b (c * 14) c mo ro fi tk iv lo (Hp.sw q 0 n x y) st H) K2 := by
      intro K2 hk
      refine c44 (i0 := 0) (n := n) (by rw [hsl]; omega) (by rw [hsl]; omega) hb (Nat.zero_le _) (fun mv q2 hp htl hmv hmf => ?_)
      have hq2 : Hp.HeapN wlt q2 n := by
        cases mv with
        | true => exact hmv rfl
        | false =>
          obtain ⟨rfl, hu⟩ := hmf rfl
          exact hu.done (.inl rfl)
      have hl2 : q2.length = n + 1 := by rw [hp.length_eq, hsl, hn]
      have hy2 : q2[n]? = some y := by rw [htl n (Nat.le_refl _), hsn]
      have hsplit : q2 = q2.take n ++ [y] := by
        obtain ⟨hlt, e⟩ := List.getElem?_eq_some_iff.1 hy2
        rw [← e, ← List.take_succ_eq_append_getElem hlt, List.take_of_length_le (by omega)]
      have hlt : (q2.take n).length = n := by simp; omega
      have hperm : q.Perm (y :: q2.take n) := ((hp.trans (Hp.sw_perm h0 hx)).symm).trans (by
        conv => lhs; rw [hsplit]
        exact List.perm_append_comm)
      have := hk mv (q2.take n) hlt hperm (by rw [hlt]; exact hq2.cut)
      rw [← hsplit] at this
      exact this
    have hswap := fun (K2 : Value → Heap → Prop) (o : Oper) (xr : Operand) (ar : Array Operand) (ts : Array TypeId) ho hk => r_swap (K := K2) (o := o) (xr := xr) (ar := ar) (ts := ts) (p := p) (mo := mo) (ro := ro) (fi := fi) (tk := tk) (iv := iv) (lo := lo) (H := H) (b := b) (N := c * 14) (c := c) (st := st) (i := 0) (j := n) ho h0 hx hk
    have hpop := fun q' (hq : q'.length = n) (K2 : Value → Heap → Prop) (o : Oper) (xr : Operand) (ar : Array Operand) (ts : Array TypeId) ho hk => r_pop (K := K2) (o := o) (xr := xr) (ar := ar) (ts := ts) (p := p) (mo := mo) (ro := ro) (fi := fi) (tk := tk) (iv := iv) (lo := lo) (H := H) (b := b) (N := c * 14) (c := c) (q := q') (st := st) (x := y) ho (by omega) (by omega) hk
    refine enter29 ?_
    repeat' ((conv => whnf); (first | refine r_len rfl ?_ | with_reducible refine Val.to (n : Int) (by rw [wrap_i64 (by omega) (by omega)]; omega) ?_ | refine hswap _ _ _ _ _ rfl ?_ | refine hdown _ (fun mv q' g1 g2 g3 => ?_) | refine hpop _ g1 _ _ _ _ _ rfl ?_ | exact Keep.all (hK _ _ _ (.buf (by omega) hc2) g2 (fun x hx => by
            obtain ⟨k, hk, rfl⟩ := List.getElem_of_mem hx
            exact hmin k _ hk (List.getElem?_eq_getElem hk)) g3) | refine New.mk (fun _ => ?_) | refine Look.at0 ?_ | refine Cell.row ?_ | refine Cell.buf ?_ | refine Cells.row rfl ?_ | refine Put.row rfl ?_ | refine Put.buf rfl ?_ | refine Look.at1 ?_ | refine Look.at2 ?_ | refine Look.at3 ?_ | refine Look.at4 ?_ | refine Look.at5 ?_ | refine Look.at6 ?_ | refine Look.at7 ?_ | refine Look.at8 ?_ | with_reducible refine Val.i64 (by omega) (by omega) ?_ | with_reducible refine Val.u8 (by omega) (by omega) ?_ | with_reducible refine Val.u32 (by omega) (by omega) ?_ | with_reducible refine Val.u64 (by omega) (by omega) ?_ | with_reducible refine Val.u8m ?_ | with_reducible refine Val.u32m ?_ | with_reducible refine Val.u64m ?_ | with_reducible refine Val.shr8 ?_ | with_reducible refine Val.shr16 (by decide) ?_ | with_reducible refine Val.shr24 (by decide) ?_ | with_reducible refine Val.raw ?_ | refine Branch.not ?_ | refine Branch.and ?_ | refine Branch.or ?_ | refine Branch.dt (by assumption) ?_ | refine Branch.df (by assumption) ?_ | refine Branch.dt rfl ?_ | refine Branch.dt (by omega) ?_ | refine Branch.df (by omega) ?_ | refine Branch.t rfl ?_ | refine Branch.f rfl ?_ | refine Branch.t (by assumption) ?_ | refine Branch.f (by assumption) ?_ | refine Branch.d (fun _ => ?_) (fun _ => ?_) | refine Branch.mk (fun _ => ?_) (fun _ => ?_) | refine Need.mk (by first | omega | decide | rfl) ?_ | refine Idx.nat (by omega) ?_ | refine Idx.auto (by first | omega | decide) (by first | omega | decide) ?_ | refine Cell.ro rfl ?_ | refine SDraw.all (by kernel_rfl) ?_ | refine Kept.k0 ?_ | refine Kept.k1 ?_ | refine Kept.k2 ?_ | refine Kept.k3 ?_ | refine Kept.k4 ?_))
theorem c48 {n i : Nat} {y : Wn} (h : PQ p mo ro fi tk iv lo q H F) (hh : Hp.HeapN wlt q q.length) (hl : q.length ≤ 1000000000) (hn : q.length = n + 1) (hi : q[i]? = some y) (hK : ∀ q' F', PQ p mo ro fi tk iv lo q' H F' → q.Perm (y :: q') → Hp.HeapN wlt q' q'.length → K (.iface 70 (.agg ⟨wC y⟩)) F') : SCalls Tryd.prog 48 [qP p, .int .i64 (i : Int)] F K := by
  cases h with
  | nil => cases hn
  | @buf _ b c q st hc1 hc2 =>
    have hil := Hp.at_lt hi
    have hx := List.getElem?_eq_getElem (show n < q.length by omega)
    generalize q[n] = x at hx
    have hpop := fun q' (hq : q'.length = n) (K2 : Value → Heap → Prop) (o : Oper) (xr : Operand) (ar : Array Operand) (ts : Array TypeId) ho hk => r_pop (K := K2) (o := o) (xr := xr) (ar := ar) (ts := ts) (p := p) (mo := mo) (ro := ro) (fi := fi) (tk := tk) (iv := iv) (lo := lo) (H := H) (b := b) (N := c * 14) (c := c) (q := q') (st := st) (x := y) ho (by omega) (by omega) hk
    have hcut : ∀ q2 : List Wn, q2.length = n + 1 → q2[n]? = some y → q2.Perm q → Hp.HeapN wlt q2 n → q2 = q2.take n ++ [y] ∧ (q2.take n).length = n ∧ q.Perm (y :: q2.take n) ∧ Hp.HeapN wlt (q2.take n) (q2.take n).length := by
      intro q2 hl2 hy2 hp hq2
      have hsplit : q2 = q2.take n ++ [y] := by
        obtain ⟨hlt, e⟩ := List.getElem?_eq_some_iff.1 hy2
        rw [← e, ← List.take_succ_eq_append_getElem hlt, List.take_of_length_le (by omega)]
      have hlt : (q2.take n).length = n := by simp; omega
      refine ⟨hsplit, hlt, hp.symm.trans (by
        conv => lhs; rw [hsplit]
        exact List.perm_append_comm), by rw [hlt]; exact hq2.cut⟩
    by_cases hin : i = n
    · subst hin
      obtain ⟨e1, e2, e3, e4⟩ := hcut q hn hi (.refl _) (by rw [hn] at hh; exact fun k a z k0 k1 k2 k3 => hh k a z k0 (by omega) k2 k3)
      generalize q.take i = q' at *
      subst e1
      have hpop := hpop q' e2
      rw [List.length_append, List.length_singleton] at hn
      refine enter48 ?_
      have hnn : (!decide ((i : Int) = (i : Int))) = false := by simp
      repeat' ((conv => whnf); (first | refine r_len rfl ?_ | with_reducible refine Val.to (i : Int) (by rw [List.length_append, List.length_singleton, wrap_i64 (by omega) (by omega)]; omega) ?_ | refine Branch.f hnn ?_ | refine hpop _ _ _ _ _ rfl ?_ | exact Keep.all (hK _ _ (.buf (by omega) hc2) e3 e4) | refine New.mk (fun _ => ?_) | refine Look.at0 ?_ | refine Cell.row ?_ | refine Cell.buf ?_ | refine Cells.row rfl ?_ | refine Put.row rfl ?_ | refine Put.buf rfl ?_ | refine Look.at1 ?_ | refine Look.at2 ?_ | refine Look.at3 ?_ | refine Look.at4 ?_ | refine Look.at5 ?_ | refine Look.at6 ?_ | refine Look.at7 ?_ | refine Look.at8 ?_ | with_reducible refine Val.i64 (by omega) (by omega) ?_ | with_reducible refine Val.u8 (by omega) (by omega) ?_ | with_reducible refine Val.u32 (by omega) (by omega) ?_ | with_reducible refine Val.u64 (by omega) (by omega) ?_ | with_reducible refine Val.u8m ?_ | with_reducible refine Val.u32m ?_ | with_reducible refine Val.u64m ?_ | with_reducible refine Val.shr8 ?_ | with_reducible refine Val.shr16 (by decide) ?_ | with_reducible refine Val.shr24 (by decide) ?_ | with_reducible refine Val.raw ?_ | refine Branch.not ?_ | refine Branch.and ?_ | refine Branch.or ?_ | refine Branch.dt (by assumption) ?_ | refine Branch.df (by assumption) ?_ | refine Branch.dt rfl ?_ | refine Branch.dt (by omega) ?_ | refine Branch.df (by omega) ?_ | refine Branch.t rfl ?_ | refine Branch.f rfl ?_ | refine Branch.t (by assumption) ?_ | refine Branch.f (by assumption) ?_ | refine Branch.d (fun _ => ?_) (fun _ => ?_) | refine Branch.mk (fun _ => ?_) (fun _ => ?_) | refine Need.mk (by first | omega | decide | rfl) ?_ | refine Idx.nat (by omega) ?_ | refine Idx.auto (by first | omega | decide) (by first | omega | decide) ?_ | refine Cell.ro rfl ?_ | refine SDraw.all (by kernel_rfl) ?_ | refine Kept.k0 ?_ | refine Kept.k1 ?_ | refine Kept.k2 ?_ | refine Kept.k3 ?_ | refine Kept.k4 ?_))
    · have hnn : (!decide ((n : Int) = (i : Int))) = true := by
        have : ¬ (n : Int) = (i : Int) := by omega
        simp [this]
      rw [hn] at hh
      have hb := hh.remove wlt_ord (show i < n by omega) hi hx
      have hsl := Hp.sw_len (l := q) (i := i) (j := n) (x := x) (y := y)
      have hsn : (Hp.sw q i n x y)[n]? = some y := by rw [Hp.sw_at (Hp.at_lt hi) (Hp.at_lt hx), if_pos rfl]
      have hswap := fun (K2 : Value → Heap → Prop) (o : Oper) (xr : Operand) (ar : Array Operand) (ts : Array TypeId) ho hk => r_swap (K := K2) (o := o) (xr := xr) (ar := ar) (ts := ts) (p := p) (mo := mo) (ro := ro) (fi := fi) (tk := tk) (iv := iv) (lo := lo) (H := H) (b := b) (N := c * 14) (c := c) (st := st) (i := i) (j := n) ho hi hx hk
      have hfin : ∀ q2 : List Wn, q2.Perm (Hp.sw q i n x y) → (∀ k, n ≤ k → q2[k]? = (Hp.sw q i n x y)[k]?) → Hp.HeapN wlt q2 n → ∃ q', q2 = q' ++ [y] ∧ q'.length = n ∧ q.Perm (y :: q') ∧ Hp.HeapN wlt q' q'.length := fun q2 hp htl hq2 =>
        ⟨q2.take n, hcut q2 (by rw [hp.length_eq, hsl, hn]) (by rw [htl n (Nat.le_refl _), hsn]) (hp.trans (Hp.sw_perm hi hx)) hq2⟩
      have hdown : ∀ (K2 : Value → Heap → Prop), (∀ q', q'.length = n → q.Perm (y :: q') → Hp.HeapN wlt q' q'.length → K2 (.bool true) (pq p b (c * 14) c mo ro fi tk iv lo (q' ++ [y]) st H)) → (Hp.UpI wlt (Hp.sw q i n x y) i n → K2 (.bool false) (pq p b (c * 14) c mo ro fi tk iv lo (Hp.sw q i n x y) st H)) →
          SCalls Tryd.prog 44 [qP p, .int .i64 (i : Int), .int .i64 (n : Int)] (pq p b (c * 14) c mo ro fi tk iv lo (Hp.sw q i n x y) st H) K2 := by
        intro K2 hk1 hk2
        refine c44 (i0 := i) (n := n) (by rw [hsl]; omega) (by rw [hsl]; omega) hb (by omega) (fun mv q2 hp htl hmv hmf => ?_)
        cases mv with
        | true =>
          obtain ⟨q', rfl, g2, g3, g4⟩ := hfin q2 hp htl (hmv rfl)
          exact hk1 q' g2 g3 g4
        | false =>
          obtain ⟨rfl, hu⟩ := hmf rfl
          exact hk2 hu
      have hup : Hp.UpI wlt (Hp.sw q i n x y) i n → ∀ (K2 : Value → Heap → Prop), (∀ q', q'.length = n → q.Perm (y :: q') → Hp.HeapN wlt q' q'.length → K2 (.tuple ⟨[]⟩) (pq p b (c * 14) c mo ro fi tk iv lo (q' ++ [y]) st H)) →
          SCalls Tryd.prog 40 [qP p, .int .i64 (i : Int)] (pq p b (c * 14) c mo ro fi tk iv lo (Hp.sw q i n x y) st H) K2 := by
        intro hu K2 hk
        refine c40n (n := n) (by rw [hsl]; omega) (by rw [hsl]; omega) hu (by omega) (fun q2 hp htl hq2 => ?_)
        obtain ⟨q', rfl, g2, g3, g4⟩ := hfin q2 hp htl hq2
        exact hk q' g2 g3 g4
      have hk := fun q' (g1 : q'.length = n) g2 g3 => hK q' _ (.buf (H := H) (b := b) (st := y :: st) (by omega) hc2) g2 g3
      clear hcut hfin hK
      refine enter48 ?_
      repeat' ((conv => whnf); (first | refine r_len rfl ?_ | with_reducible refine Val.to (n : Int) (by rw [wrap_i64 (by omega) (by omega)]; omega) ?_ | refine Branch.t hnn ?_ | refine hswap _ _ _ _ _ rfl ?_ | refine hdown _ (fun q' g1 g2 g3 => ?_) (fun hu => ?_) | refine hup hu _ (fun q' g1 g2 g3 => ?_) | refine Branch.f rfl ?_ | refine Branch.t rfl ?_ | refine hpop _ g1 _ _ _ _ _ rfl ?_ | exact Keep.all (hk _ g1 g2 g3) | refine New.mk (fun _ => ?_) | refine Look.at0 ?_ | refine Cell.row ?_ | refine Cell.buf ?_ | refine Cells.row rfl ?_ | refine Put.row rfl ?_ | refine Put.buf rfl ?_ | refine Look.at1 ?_ | refine Look.at2 ?_ | refine Look.at3 ?_ | refine Look.at4 ?_ | refine Look.at5 ?_ | refine Look.at6 ?_ | refine Look.at7 ?_ | refine Look.at8 ?_ | with_reducible refine Val.i64 (by omega) (by omega) ?_ | with_reducible refine Val.u8 (by omega) (by omega) ?_ | with_reducible refine Val.u32 (by omega) (by omega) ?_ | with_reducible refine Val.u64 (by omega) (by omega) ?_ | with_reducible refine Val.u8m ?_ | with_reducible refine Val.u32m ?_ | with_reducible refine Val.u64m ?_ | with_reducible refine Val.shr8 ?_ | with_reducible refine Val.shr16 (by decide) ?_ | with_reducible refine Val.shr24 (by decide) ?_ | with_reducible refine Val.raw ?_ | refine Branch.not ?_ | refine Branch.and ?_ | refine Branch.or ?_ | refine Branch.dt (by assumption) ?_ | refine Branch.df (by assumption) ?_ | refine Branch.dt rfl ?_ | refine Branch.dt (by omega) ?_ | refine Branch.df (by omega) ?_ | refine Branch.t rfl ?_ | refine Branch.f rfl ?_ | refine Branch.t (by assumption) ?_ | refine Branch.f (by assumption) ?_ | refine Branch.d (fun _ => ?_) (fun _ => ?_) | refine Branch.mk (fun _ => ?_) (fun _ => ?_) | refine Need.mk (by first | omega | decide | rfl) ?_ | refine Idx.nat (by omega) ?_ | refine Idx.auto (by first | omega | decide) (by first | omega | decide) ?_ | refine Cell.ro rfl ?_ | refine SDraw.all (by kernel_rfl) ?_ | refine Kept.k0 ?_ | refine Kept.k1 ?_ | refine Kept.k2 ?_ | refine Kept.k3 ?_ | refine Kept.k4 ?_))
end
end Go.Proofs.YthgpikgbhkcnbaaDoor

/- Layer 5: the program's driver, what reads it: by walks. -/
set_option linter.unusedVariables false
set_option linter.unusedSimpArgs false
set_option maxRecDepth 100000
set_option maxHeartbeats 4000000
namespace Go.Proofs.YthgpikgbhkcnbaaDoor
open Sx
/-- A filter. -/
structure Fl where
  (id ms : Nat) (x : Bool)
abbrev fC (l : Fl) : List Value := [.int .u32 (l.id : Int), .int .u32 (l.ms : Int), .bool l.x]
def Fl.wf (l : Fl) : Prop := l.id < 4294967296 ∧ l.ms < 4294967296
/-- Whether a frame that can be passes a filter; several. -/
def pas1 (l : Fl) (f : Fm) : Bool := (l.x == f.x) && decide (l.id &&& l.ms = f.id &&& l.ms)
def pas (L : List Fl) (f : Fm) : Bool := decide (L.length = 0) || L.any fun l => pas1 l f
theorem xor_zero {a b : Nat} (h : a ^^^ b = 0) : a = b := by
  have : a ^^^ b ^^^ b = b := by rw [h, Nat.zero_xor]
  rwa [Nat.xor_assoc, Nat.xor_self, Nat.xor_zero] at this
theorem pas_xor (a b m : Nat) : decide ((((a ^^^ b) &&& m : Nat) : Int) = 0) = decide (a &&& m = b &&& m) := by
  rw [Nat.and_xor_distrib_right]
  by_cases h : a &&& m = b &&& m
  · rw [decide_eq_true h, h, Nat.xor_self]; rfl
  · rw [decide_eq_false h]
    refine decide_eq_false fun e => h (xor_zero (by omega))
/-- What a driver is. -/
structure Dr where
  (most room : Nat) (L : List Fl) (tk lost : Nat) (I : List Fm) (q : List Wn)
structure DrW (s : Dr) : Prop where
  most : s.most ≤ 64
  room : s.room ≤ 64
  L : s.L.length ≤ 32
  Lw : ∀ l ∈ s.L, l.wf
  I : s.I.length ≤ s.room
  q : s.q.length ≤ s.most
  tk : s.tk ≤ 140737488355328
  lost : s.lost ≤ 140737488355328
  heap : Hp.HeapN wlt s.q s.q.length
abbrev i64 (n : Nat) : Value := .int .i64 (n : Int)
inductive DrO (p : Nat) (s : Dr) (H : Heap) : Heap → Prop
  | mk {fi iv : Value} {M1 M2 F : Heap} : Grow fC 3 33 fi s.L M1 → Grow frC 12 26 iv s.I M2 → PQ p (i64 s.most) (i64 s.room) fi (i64 s.tk) iv (i64 s.lost) s.q (M1 ++ (M2 ++ H)) F → DrO p s H F
theorem frC_len (f : Fm) : (frC f).length = 12 := rfl
theorem fC_len (f : Fl) : (fC f).length = 3 := rfl
theorem wC_len (x : Wn) : (wC x).length = 14 := rfl
theorem frC_one (f : Fm) : ∀ u ∈ frC f, u.oneCell' = true := by
  intro u hu
  simp only [frC, List.mem_cons, List.not_mem_nil, or_false] at hu
  rcases hu with rfl | rfl | rfl | rfl | rfl | rfl | rfl | rfl | rfl | rfl | rfl | rfl <;> rfl
theorem fC_one (f : Fl) : ∀ u ∈ fC f, u.oneCell' = true := by
  intro u hu
  simp only [fC, List.mem_cons, List.not_mem_nil, or_false] at hu
  rcases hu with rfl | rfl | rfl <;> rfl
section
variable {p : Nat} {s : Dr} {H F : Heap} {mo ro fi tk iv lo : Value} {q : List Wn} {X : Heap}
/-- The row of a queue, and that all else of it may be another. -/
theorem PQ.chg (h : PQ p mo ro fi tk iv lo q X F) : ∃ a c Mq, q.length ≤ maxLen ∧ F = pRow p mo ro fi (.slice a q.length c) tk iv lo :: (Mq ++ X) ∧ (∀ mo' ro' fi' tk' iv' lo' X', PQ p mo' ro' fi' tk' iv' lo' q X' (pRow p mo' ro' fi' (.slice a q.length c) tk' iv' lo' :: (Mq ++ X'))) ∧ InS wC 14 (.slice a q.length c) F q := by
  cases h with
  | nil => exact ⟨none, 0, [], Nat.zero_le _, rfl, fun _ _ _ _ _ _ _ => .nil, InS.nil⟩
  | @buf _ b c _ st h1 h2 =>
    exact ⟨_, _, [_], Nat.le_trans h1 h2, rfl, fun _ _ _ _ _ _ _ => .buf h1 h2, pq_in (Nat.le_trans h1 h2)⟩
theorem PQ.sub (h : PQ p mo ro fi tk iv lo q X F) : ∀ z ∈ X, z ∈ F := by
  obtain ⟨a, c, Mq, _, rfl, _⟩ := h.chg
  exact fun z hz => .tail _ (List.mem_append_right _ hz)
theorem DrO.split (h : DrO p s H F) : ∃ F0, F = F0 ++ H ∧ ∀ H', DrO p s H' (F0 ++ H') := by
  obtain ⟨h1, h2, h3⟩ := h
  rename_i fi iv M1 M2
  obtain ⟨a, c, Mq, _, rfl, h4, _⟩ := h3.chg
  refine ⟨pRow p (i64 s.most) (i64 s.room) fi (.slice a s.q.length c) (i64 s.tk) iv (i64 s.lost) :: (Mq ++ (M1 ++ M2)), by simp, fun H' => ?_⟩
  have := DrO.mk h1 h2 (h4 (i64 s.most) (i64 s.room) fi (i64 s.tk) iv (i64 s.lost) (M1 ++ (M2 ++ H')))
  simpa using this
/-- What a driver's row is, and what lies behind its slices. -/
theorem DrO.look (h : DrO p s H F) : ∃ fa fc qa qc ia ic X, F = pRow p (i64 s.most) (i64 s.room) (.slice fa s.L.length fc) (.slice qa s.q.length qc) (i64 s.tk) (.slice ia s.I.length ic) (i64 s.lost) :: X ∧
    InS fC 3 (.slice fa s.L.length fc) F s.L ∧ InS wC 14 (.slice qa s.q.length qc) F s.q ∧ InS frC 12 (.slice ia s.I.length ic) F s.I ∧ ∀ z ∈ H, z ∈ F := by
  obtain ⟨h1, h2, h3⟩ := h
  obtain ⟨fa, fc, rfl, _⟩ := h1.sv
  obtain ⟨ia, ic, rfl, _⟩ := h2.sv
  have hs := h3.sub
  obtain ⟨a, c, Mq, _, rfl, _, h5⟩ := h3.chg
  exact ⟨fa, fc, a, c, ia, ic, _, rfl, h1.ins fC_len (fun z hz => hs z (List.mem_append_left _ hz)), h5, h2.ins frC_len (fun z hz => hs z (List.mem_append_right _ (List.mem_append_left _ hz))), fun z hz => hs z (List.mem_append_right _ (List.mem_append_right _ hz))⟩
end
inductive S46 (A0 A1 A6 A7 A8 : Value) : List Value → Prop
  | mk {r2 r3 r4 r5 r9 r10 r11 r12 r13 r14 r15 r16 r17 r18 : Value} : S46 A0 A1 A6 A7 A8 [A0, A1, r2, r3, r4, r5, A6, A7, A8, r9, r10, r11, r12, r13, r14, r15, r16, r17, r18]
inductive S50 (A0 A1 A6 A7 A8 : Value) : List Value → Prop
  | mk {r2 r3 r4 r5 r9 r10 r11 r12 r13 r14 r15 r16 r17 r18 : Value} : S50 A0 A1 A6 A7 A8 [A0, A1, r2, r3, r4, r5, A6, A7, A8, r9, r10, r11, r12, r13, r14, r15, r16, r17, r18]
section
variable {K : Value → Heap → Prop} {p : Nat} {s : Dr} {H F : Heap} {f : Fm}
theorem c46 {L : List Wn} {sv : Value} {fid : Nat} {cs : List Value} (pr : Wn → Bool) (hin : InS wC 14 sv H L) (hp : ∀ (j : Nat) (x : Wn), L[j]? = some x → ∀ K : Value → Heap → Prop, K (.bool (pr x)) H → SCalls Tryd.prog fid (.agg ⟨wC x⟩ :: cs) H K)
    (h0 : (∀ x ∈ L, pr x = false) → K (.int .i64 (-1)) H) (h1 : ∀ (j : Nat) (x : Wn), L[j]? = some x → pr x = true → (∀ i y, i < j → L[i]? = some y → pr y = false) → K (.int .i64 (j : Int)) H) : SCalls Tryd.prog 46 [sv, .func (.func fid) ⟨[]⟩ ⟨cs⟩] H K := by
  obtain ⟨sa, sc, rfl, hml⟩ := hin.sv
  simp only [maxLen] at hml
  refine enter46 ?_
  repeat' ((conv => whnf); (first | refine New.mk (fun _ => ?_) | refine Look.at0 ?_ | refine Cell.row ?_ | refine Cell.buf ?_ | refine Cells.row rfl ?_ | refine Put.row rfl ?_ | refine Put.buf rfl ?_ | refine Look.at1 ?_ | refine Look.at2 ?_ | refine Look.at3 ?_ | refine Look.at4 ?_ | refine Look.at5 ?_ | refine Look.at6 ?_ | refine Look.at7 ?_ | refine Look.at8 ?_ | with_reducible refine Val.i64 (by omega) (by omega) ?_ | with_reducible refine Val.u8 (by omega) (by omega) ?_ | with_reducible refine Val.u32 (by omega) (by omega) ?_ | with_reducible refine Val.u64 (by omega) (by omega) ?_ | with_reducible refine Val.u8m ?_ | with_reducible refine Val.u32m ?_ | with_reducible refine Val.u64m ?_ | with_reducible refine Val.shr8 ?_ | with_reducible refine Val.shr16 (by decide) ?_ | with_reducible refine Val.shr24 (by decide) ?_ | with_reducible refine Val.raw ?_ | refine Branch.not ?_ | refine Branch.and ?_ | refine Branch.or ?_ | refine Branch.dt (by assumption) ?_ | refine Branch.df (by assumption) ?_ | refine Branch.dt rfl ?_ | refine Branch.dt (by omega) ?_ | refine Branch.df (by omega) ?_ | refine Branch.t rfl ?_ | refine Branch.f rfl ?_ | refine Branch.t (by assumption) ?_ | refine Branch.f (by assumption) ?_ | refine Branch.d (fun _ => ?_) (fun _ => ?_) | refine Branch.mk (fun _ => ?_) (fun _ => ?_) | refine Need.mk (by first | omega | decide | rfl) ?_ | refine Idx.nat (by omega) ?_ | refine Idx.auto (by first | omega | decide) (by first | omega | decide) ?_ | refine Cell.ro rfl ?_ | refine SDraw.all (by kernel_rfl) ?_ | refine Kept.k0 ?_ | refine Kept.k1 ?_ | refine Kept.k2 ?_ | refine Kept.k3 ?_ | refine Kept.k4 ?_))
  refine SLoop.invA (fun (k : Nat) S H' => k ≤ L.length ∧ (∀ i y, i < k → L[i]? = some y → pr y = false) ∧ S46 (.slice sa L.length sc) (.func (.func fid) ⟨[]⟩ ⟨cs⟩) (.slice sa L.length sc) (.int .i64 (L.length : Int)) (.int .i64 (k : Int)) S ∧ H' = H) (fun k => L.length - k) 0 (Keep.all ⟨Nat.zero_le _, fun i y hi => absurd hi (Nat.not_lt_zero _), .mk, rfl⟩) ?_
  rintro k S H' ⟨hk, hno, hS, rfl⟩ R hR
  cases hS
  by_cases hlt : k < L.length
  · obtain ⟨x, hx, _⟩ := list_at hlt
    obtain ⟨r, o, c, b, e1, hrb, hcc⟩ := inS_at hin wC_len hx
    injection e1 with e1 _ e3
    subst e1
    have hpx := hp k x hx
    cases hpr : pr x with
    | true =>
      have hk1 := h1 k x hx hpr hno
      rw [hpr] at hpx
      clear hR
      repeat' ((conv => whnf); (first | refine Look.cells hrb rfl hcc ?_ | refine hpx _ ?_ | refine Branch.t rfl ?_ | exact Keep.all hk1 | refine New.mk (fun _ => ?_) | refine Look.at0 ?_ | refine Cell.row ?_ | refine Cell.buf ?_ | refine Cells.row rfl ?_ | refine Put.row rfl ?_ | refine Put.buf rfl ?_ | refine Look.at1 ?_ | refine Look.at2 ?_ | refine Look.at3 ?_ | refine Look.at4 ?_ | refine Look.at5 ?_ | refine Look.at6 ?_ | refine Look.at7 ?_ | refine Look.at8 ?_ | with_reducible refine Val.i64 (by omega) (by omega) ?_ | with_reducible refine Val.u8 (by omega) (by omega) ?_ | with_reducible refine Val.u32 (by omega) (by omega) ?_ | with_reducible refine Val.u64 (by omega) (by omega) ?_ | with_reducible refine Val.u8m ?_ | with_reducible refine Val.u32m ?_ | with_reducible refine Val.u64m ?_ | with_reducible refine Val.shr8 ?_ | with_reducible refine Val.shr16 (by decide) ?_ | with_reducible refine Val.shr24 (by decide) ?_ | with_reducible refine Val.raw ?_ | refine Branch.not ?_ | refine Branch.and ?_ | refine Branch.or ?_ | refine Branch.dt (by assumption) ?_ | refine Branch.df (by assumption) ?_ | refine Branch.dt rfl ?_ | refine Branch.dt (by omega) ?_ | refine Branch.df (by omega) ?_ | refine Branch.t rfl ?_ | refine Branch.f rfl ?_ | refine Branch.t (by assumption) ?_ | refine Branch.f (by assumption) ?_ | refine Branch.d (fun _ => ?_) (fun _ => ?_) | refine Branch.mk (fun _ => ?_) (fun _ => ?_) | refine Need.mk (by first | omega | decide | rfl) ?_ | refine Idx.nat (by omega) ?_ | refine Idx.auto (by first | omega | decide) (by first | omega | decide) ?_ | refine Cell.ro rfl ?_ | refine SDraw.all (by kernel_rfl) ?_ | refine Kept.k0 ?_ | refine Kept.k1 ?_ | refine Kept.k2 ?_ | refine Kept.k3 ?_ | refine Kept.k4 ?_))
    | false =>
      have hnext := fun S hS => hR (k + 1) S H' (by omega) (Keep.all ⟨hlt, fun i y hi hy => by
        rcases Nat.lt_or_ge i k with h | h
        · exact hno i y h hy
        · obtain rfl : i = k := by omega
          rw [hx] at hy
          injection hy with hy
          subst hy
          exact hpr, hS, rfl⟩)
      rw [hpr] at hpx
      clear hR
      repeat' ((conv => whnf); (first | refine Look.cells hrb rfl hcc ?_ | refine hpx _ ?_ | refine Branch.f rfl ?_ | exact hnext _ .mk | refine New.mk (fun _ => ?_) | refine Look.at0 ?_ | refine Cell.row ?_ | refine Cell.buf ?_ | refine Cells.row rfl ?_ | refine Put.row rfl ?_ | refine Put.buf rfl ?_ | refine Look.at1 ?_ | refine Look.at2 ?_ | refine Look.at3 ?_ | refine Look.at4 ?_ | refine Look.at5 ?_ | refine Look.at6 ?_ | refine Look.at7 ?_ | refine Look.at8 ?_ | with_reducible refine Val.i64 (by omega) (by omega) ?_ | with_reducible refine Val.u8 (by omega) (by omega) ?_ | with_reducible refine Val.u32 (by omega) (by omega) ?_ | with_reducible refine Val.u64 (by omega) (by omega) ?_ | with_reducible refine Val.u8m ?_ | with_reducible refine Val.u32m ?_ | with_reducible refine Val.u64m ?_ | with_reducible refine Val.shr8 ?_ | with_reducible refine Val.shr16 (by decide) ?_ | with_reducible refine Val.shr24 (by decide) ?_ | with_reducible refine Val.raw ?_ | refine Branch.not ?_ | refine Branch.and ?_ | refine Branch.or ?_ | refine Branch.dt (by assumption) ?_ | refine Branch.df (by assumption) ?_ | refine Branch.dt rfl ?_ | refine Branch.dt (by omega) ?_ | refine Branch.df (by omega) ?_ | refine Branch.t rfl ?_ | refine Branch.f rfl ?_ | refine Branch.t (by assumption) ?_ | refine Branch.f (by assumption) ?_ | refine Branch.d (fun _ => ?_) (fun _ => ?_) | refine Branch.mk (fun _ => ?_) (fun _ => ?_) | refine Need.mk (by first | omega | decide | rfl) ?_ | refine Idx.nat (by omega) ?_ | refine Idx.auto (by first | omega | decide) (by first | omega | decide) ?_ | refine Cell.ro rfl ?_ | refine SDraw.all (by kernel_rfl) ?_ | refine Kept.k0 ?_ | refine Kept.k1 ?_ | refine Kept.k2 ?_ | refine Kept.k3 ?_ | refine Kept.k4 ?_))
  · have hk0 := h0 fun x hx => by
      obtain ⟨i, hi, rfl⟩ := List.getElem_of_mem hx
      exact hno i _ (by omega) (List.getElem?_eq_getElem hi)
    clear hR
    repeat' ((conv => whnf); (first | refine Branch.df (by omega) ?_ | exact Keep.all hk0 | refine New.mk (fun _ => ?_) | refine Look.at0 ?_ | refine Cell.row ?_ | refine Cell.buf ?_ | refine Cells.row rfl ?_ | refine Put.row rfl ?_ | refine Put.buf rfl ?_ | refine Look.at1 ?_ | refine Look.at2 ?_ | refine Look.at3 ?_ | refine Look.at4 ?_ | refine Look.at5 ?_ | refine Look.at6 ?_ | refine Look.at7 ?_ | refine Look.at8 ?_ | with_reducible refine Val.i64 (by omega) (by omega) ?_ | with_reducible refine Val.u8 (by omega) (by omega) ?_ | with_reducible refine Val.u32 (by omega) (by omega) ?_ | with_reducible refine Val.u64 (by omega) (by omega) ?_ | with_reducible refine Val.u8m ?_ | with_reducible refine Val.u32m ?_ | with_reducible refine Val.u64m ?_ | with_reducible refine Val.shr8 ?_ | with_reducible refine Val.shr16 (by decide) ?_ | with_reducible refine Val.shr24 (by decide) ?_ | with_reducible refine Val.raw ?_ | refine Branch.not ?_ | refine Branch.and ?_ | refine Branch.or ?_ | refine Branch.dt (by assumption) ?_ | refine Branch.df (by assumption) ?_ | refine Branch.dt rfl ?_ | refine Branch.dt (by omega) ?_ | refine Branch.df (by omega) ?_ | refine Branch.t rfl ?_ | refine Branch.f rfl ?_ | refine Branch.t (by assumption) ?_ | refine Branch.f (by assumption) ?_ | refine Branch.d (fun _ => ?_) (fun _ => ?_) | refine Branch.mk (fun _ => ?_) (fun _ => ?_) | refine Need.mk (by first | omega | decide | rfl) ?_ | refine Idx.nat (by omega) ?_ | refine Idx.auto (by first | omega | decide) (by first | omega | decide) ?_ | refine Cell.ro rfl ?_ | refine SDraw.all (by kernel_rfl) ?_ | refine Kept.k0 ?_ | refine Kept.k1 ?_ | refine Kept.k2 ?_ | refine Kept.k3 ?_ | refine Kept.k4 ?_))
theorem c50 {L : List Fl} {sv : Value} {fid : Nat} {cs : List Value} (pr : Fl → Bool) (hin : InS fC 3 sv H L) (hp : ∀ (j : Nat) (x : Fl), L[j]? = some x → ∀ K : Value → Heap → Prop, K (.bool (pr x)) H → SCalls Tryd.prog fid (.agg ⟨fC x⟩ :: cs) H K)
    (h0 : (∀ x ∈ L, pr x = false) → K (.int .i64 (-1)) H) (h1 : ∀ (j : Nat) (x : Fl), L[j]? = some x → pr x = true → (∀ i y, i < j → L[i]? = some y → pr y = false) → K (.int .i64 (j : Int)) H) : SCalls Tryd.prog 50 [sv, .func (.func fid) ⟨[]⟩ ⟨cs⟩] H K := by
  obtain ⟨sa, sc, rfl, hml⟩ := hin.sv
  simp only [maxLen] at hml
  refine enter50 ?_
  repeat' ((conv => whnf); (first | refine New.mk (fun _ => ?_) | refine Look.at0 ?_ | refine Cell.row ?_ | refine Cell.buf ?_ | refine Cells.row rfl ?_ | refine Put.row rfl ?_ | refine Put.buf rfl ?_ | refine Look.at1 ?_ | refine Look.at2 ?_ | refine Look.at3 ?_ | refine Look.at4 ?_ | refine Look.at5 ?_ | refine Look.at6 ?_ | refine Look.at7 ?_ | refine Look.at8 ?_ | with_reducible refine Val.i64 (by omega) (by omega) ?_ | with_reducible refine Val.u8 (by omega) (by omega) ?_ | with_reducible refine Val.u32 (by omega) (by omega) ?_ | with_reducible refine Val.u64 (by omega) (by omega) ?_ | with_reducible refine Val.u8m ?_ | with_reducible refine Val.u32m ?_ | with_reducible refine Val.u64m ?_ | with_reducible refine Val.shr8 ?_ | with_reducible refine Val.shr16 (by decide) ?_ | with_reducible refine Val.shr24 (by decide) ?_ | with_reducible refine Val.raw ?_ | refine Branch.not ?_ | refine Branch.and ?_ | refine Branch.or ?_ | refine Branch.dt (by assumption) ?_ | refine Branch.df (by assumption) ?_ | refine Branch.dt rfl ?_ | refine Branch.dt (by omega) ?_ | refine Branch.df (by omega) ?_ | refine Branch.t rfl ?_ | refine Branch.f rfl ?_ | refine Branch.t (by assumption) ?_ | refine Branch.f (by assumption) ?_ | refine Branch.d (fun _ => ?_) (fun _ => ?_) | refine Branch.mk (fun _ => ?_) (fun _ => ?_) | refine Need.mk (by first | omega | decide | rfl) ?_ | refine Idx.nat (by omega) ?_ | refine Idx.auto (by first | omega | decide) (by first | omega | decide) ?_ | refine Cell.ro rfl ?_ | refine SDraw.all (by kernel_rfl) ?_ | refine Kept.k0 ?_ | refine Kept.k1 ?_ | refine Kept.k2 ?_ | refine Kept.k3 ?_ | refine Kept.k4 ?_))
  refine SLoop.invA (fun (k : Nat) S H' => k ≤ L.length ∧ (∀ i y, i < k → L[i]? = some y → pr y = false) ∧ S50 (.slice sa L.length sc) (.func (.func fid) ⟨[]⟩ ⟨cs⟩) (.slice sa L.length sc) (.int .i64 (L.length : Int)) (.int .i64 (k : Int)) S ∧ H' = H) (fun k => L.length - k) 0 (Keep.all ⟨Nat.zero_le _, fun i y hi => absurd hi (Nat.not_lt_zero _), .mk, rfl⟩) ?_
  rintro k S H' ⟨hk, hno, hS, rfl⟩ R hR
  cases hS
  by_cases hlt : k < L.length
  · obtain ⟨x, hx, _⟩ := list_at hlt
    obtain ⟨r, o, c, b, e1, hrb, hcc⟩ := inS_at hin fC_len hx
    injection e1 with e1 _ e3
    subst e1
    have hpx := hp k x hx
    cases hpr : pr x with
    | true =>
      have hk1 := h1 k x hx hpr hno
      rw [hpr] at hpx
      clear hR
      repeat' ((conv => whnf); (first | refine Look.cells hrb rfl hcc ?_ | refine hpx _ ?_ | refine Branch.t rfl ?_ | exact Keep.all hk1 | refine New.mk (fun _ => ?_) | refine Look.at0 ?_ | refine Cell.row ?_ | refine Cell.buf ?_ | refine Cells.row rfl ?_ | refine Put.row rfl ?_ | refine Put.buf rfl ?_ | refine Look.at1 ?_ | refine Look.at2 ?_ | refine Look.at3 ?_ | refine Look.at4 ?_ | refine Look.at5 ?_ | refine Look.at6 ?_ | refine Look.at7 ?_ | refine Look.at8 ?_ | with_reducible refine Val.i64 (by omega) (by omega) ?_ | with_reducible refine Val.u8 (by omega) (by omega) ?_ | with_reducible refine Val.u32 (by omega) (by omega) ?_ | with_reducible refine Val.u64 (by omega) (by omega) ?_ | with_reducible refine Val.u8m ?_ | with_reducible refine Val.u32m ?_ | with_reducible refine Val.u64m ?_ | with_reducible refine Val.shr8 ?_ | with_reducible refine Val.shr16 (by decide) ?_ | with_reducible refine Val.shr24 (by decide) ?_ | with_reducible refine Val.raw ?_ | refine Branch.not ?_ | refine Branch.and ?_ | refine Branch.or ?_ | refine Branch.dt (by assumption) ?_ | refine Branch.df (by assumption) ?_ | refine Branch.dt rfl ?_ | refine Branch.dt (by omega) ?_ | refine Branch.df (by omega) ?_ | refine Branch.t rfl ?_ | refine Branch.f rfl ?_ | refine Branch.t (by assumption) ?_ | refine Branch.f (by assumption) ?_ | refine Branch.d (fun _ => ?_) (fun _ => ?_) | refine Branch.mk (fun _ => ?_) (fun _ => ?_) | refine Need.mk (by first | omega | decide | rfl) ?_ | refine Idx.nat (by omega) ?_ | refine Idx.auto (by first | omega | decide) (by first | omega | decide) ?_ | refine Cell.ro rfl ?_ | refine SDraw.all (by kernel_rfl) ?_ | refine Kept.k0 ?_ | refine Kept.k1 ?_ | refine Kept.k2 ?_ | refine Kept.k3 ?_ | refine Kept.k4 ?_))
    | false =>
      have hnext := fun S hS => hR (k + 1) S H' (by omega) (Keep.all ⟨hlt, fun i y hi hy => by
        rcases Nat.lt_or_ge i k with h | h
        · exact hno i y h hy
        · obtain rfl : i = k := by omega
          rw [hx] at hy
          injection hy with hy
          subst hy
          exact hpr, hS, rfl⟩)
      rw [hpr] at hpx
      clear hR
      repeat' ((conv => whnf); (first | refine Look.cells hrb rfl hcc ?_ | refine hpx _ ?_ | refine Branch.f rfl ?_ | exact hnext _ .mk | refine New.mk (fun _ => ?_) | refine Look.at0 ?_ | refine Cell.row ?_ | refine Cell.buf ?_ | refine Cells.row rfl ?_ | refine Put.row rfl ?_ | refine Put.buf rfl ?_ | refine Look.at1 ?_ | refine Look.at2 ?_ | refine Look.at3 ?_ | refine Look.at4 ?_ | refine Look.at5 ?_ | refine Look.at6 ?_ | refine Look.at7 ?_ | refine Look.at8 ?_ | with_reducible refine Val.i64 (by omega) (by omega) ?_ | with_reducible refine Val.u8 (by omega) (by omega) ?_ | with_reducible refine Val.u32 (by omega) (by omega) ?_ | with_reducible refine Val.u64 (by omega) (by omega) ?_ | with_reducible refine Val.u8m ?_ | with_reducible refine Val.u32m ?_ | with_reducible refine Val.u64m ?_ | with_reducible refine Val.shr8 ?_ | with_reducible refine Val.shr16 (by decide) ?_ | with_reducible refine Val.shr24 (by decide) ?_ | with_reducible refine Val.raw ?_ | refine Branch.not ?_ | refine Branch.and ?_ | refine Branch.or ?_ | refine Branch.dt (by assumption) ?_ | refine Branch.df (by assumption) ?_ | refine Branch.dt rfl ?_ | refine Branch.dt (by omega) ?_ | refine Branch.df (by omega) ?_ | refine Branch.t rfl ?_ | refine Branch.f rfl ?_ | refine Branch.t (by assumption) ?_ | refine Branch.f (by assumption) ?_ | refine Branch.d (fun _ => ?_) (fun _ => ?_) | refine Branch.mk (fun _ => ?_) (fun _ => ?_) | refine Need.mk (by first | omega | decide | rfl) ?_ | refine Idx.nat (by omega) ?_ | refine Idx.auto (by first | omega | decide) (by first | omega | decide) ?_ | refine Cell.ro rfl ?_ | refine SDraw.all (by kernel_rfl) ?_ | refine Kept.k0 ?_ | refine Kept.k1 ?_ | refine Kept.k2 ?_ | refine Kept.k3 ?_ | refine Kept.k4 ?_))
  · have hk0 := h0 fun x hx => by
      obtain ⟨i, hi, rfl⟩ := List.getElem_of_mem hx
      exact hno i _ (by omega) (List.getElem?_eq_getElem hi)
    clear hR
    repeat' ((conv => whnf); (first | refine Branch.df (by omega) ?_ | exact Keep.all hk0 | refine New.mk (fun _ => ?_) | refine Look.at0 ?_ | refine Cell.row ?_ | refine Cell.buf ?_ | refine Cells.row rfl ?_ | refine Put.row rfl ?_ | refine Put.buf rfl ?_ | refine Look.at1 ?_ | refine Look.at2 ?_ | refine Look.at3 ?_ | refine Look.at4 ?_ | refine Look.at5 ?_ | refine Look.at6 ?_ | refine Look.at7 ?_ | refine Look.at8 ?_ | with_reducible refine Val.i64 (by omega) (by omega) ?_ | with_reducible refine Val.u8 (by omega) (by omega) ?_ | with_reducible refine Val.u32 (by omega) (by omega) ?_ | with_reducible refine Val.u64 (by omega) (by omega) ?_ | with_reducible refine Val.u8m ?_ | with_reducible refine Val.u32m ?_ | with_reducible refine Val.u64m ?_ | with_reducible refine Val.shr8 ?_ | with_reducible refine Val.shr16 (by decide) ?_ | with_reducible refine Val.shr24 (by decide) ?_ | with_reducible refine Val.raw ?_ | refine Branch.not ?_ | refine Branch.and ?_ | refine Branch.or ?_ | refine Branch.dt (by assumption) ?_ | refine Branch.df (by assumption) ?_ | refine Branch.dt rfl ?_ | refine Branch.dt (by omega) ?_ | refine Branch.df (by omega) ?_ | refine Branch.t rfl ?_ | refine Branch.f rfl ?_ | refine Branch.t (by assumption) ?_ | refine Branch.f (by assumption) ?_ | refine Branch.d (fun _ => ?_) (fun _ => ?_) | refine Branch.mk (fun _ => ?_) (fun _ => ?_) | refine Need.mk (by first | omega | decide | rfl) ?_ | refine Idx.nat (by omega) ?_ | refine Idx.auto (by first | omega | decide) (by first | omega | decide) ?_ | refine Cell.ro rfl ?_ | refine SDraw.all (by kernel_rfl) ?_ | refine Kept.k0 ?_ | refine Kept.k1 ?_ | refine Kept.k2 ?_ | refine Kept.k3 ?_ | refine Kept.k4 ?_))
/-- One filter. -/
theorem c39 {l : Fl} {b : Nat} (hl : l.wf) (hf : f.id < 4294967296) (hb : (b, .row 26 (frC f) (0, 0)) ∈ H) (hK : K (.bool (pas1 l f)) H) : SCalls Tryd.prog 39 [.agg ⟨fC l⟩, ptr b] H K := by
  obtain ⟨lid, lm, lx⟩ := l
  obtain ⟨hl1, hl2⟩ := hl
  dsimp only at hl1 hl2
  have hc0 : (Blk.row 26 (frC f) (0, 0)).cell 0 = some (.int .u32 (f.id : Int)) := rfl
  have hc1 : (Blk.row 26 (frC f) (0, 0)).cell 1 = some (.bool f.x) := rfl
  have hx : bitXor .u32 (lid : Int) (f.id : Int) = ((lid ^^^ f.id : Nat) : Int) := bitXor_nat rfl hl1 hf
  have hlt : lid ^^^ f.id < 4294967296 := Nat.xor_lt_two_pow (n := 32) hl1 hf
  have ha : bitAnd .u32 ((lid ^^^ f.id : Nat) : Int) (lm : Int) = (((lid ^^^ f.id) &&& lm : Nat) : Int) := bitAnd_nat rfl hlt hl2
  have hp := pas_xor lid f.id lm
  unfold pas1 at hK
  dsimp only at hK
  rw [← hp] at hK
  dsimp only [fC]
  generalize f.x = fx at hK hc1
  refine enter39 ?_
  cases hlf : (lx == fx) with
  | true =>
    rw [hlf, Bool.true_and] at hK
    repeat' ((conv => whnf); (first | refine Look.cell (.tail _ hb) hc0 ?_ | refine Look.cell (.tail _ hb) hc1 ?_ | with_reducible refine Val.to _ hx ?_ | with_reducible refine Val.to _ ha ?_ | refine Branch.t hlf ?_ | exact Keep.d1 hK | refine New.mk (fun _ => ?_) | refine Look.at0 ?_ | refine Cell.row ?_ | refine Cell.buf ?_ | refine Cells.row rfl ?_ | refine Put.row rfl ?_ | refine Put.buf rfl ?_ | refine Look.at1 ?_ | refine Look.at2 ?_ | refine Look.at3 ?_ | refine Look.at4 ?_ | refine Look.at5 ?_ | refine Look.at6 ?_ | refine Look.at7 ?_ | refine Look.at8 ?_ | with_reducible refine Val.i64 (by omega) (by omega) ?_ | with_reducible refine Val.u8 (by omega) (by omega) ?_ | with_reducible refine Val.u32 (by omega) (by omega) ?_ | with_reducible refine Val.u64 (by omega) (by omega) ?_ | with_reducible refine Val.u8m ?_ | with_reducible refine Val.u32m ?_ | with_reducible refine Val.u64m ?_ | with_reducible refine Val.shr8 ?_ | with_reducible refine Val.shr16 (by decide) ?_ | with_reducible refine Val.shr24 (by decide) ?_ | with_reducible refine Val.raw ?_ | refine Branch.not ?_ | refine Branch.and ?_ | refine Branch.or ?_ | refine Branch.dt (by assumption) ?_ | refine Branch.df (by assumption) ?_ | refine Branch.dt rfl ?_ | refine Branch.dt (by omega) ?_ | refine Branch.df (by omega) ?_ | refine Branch.t rfl ?_ | refine Branch.f rfl ?_ | refine Branch.t (by assumption) ?_ | refine Branch.f (by assumption) ?_ | refine Branch.d (fun _ => ?_) (fun _ => ?_) | refine Branch.mk (fun _ => ?_) (fun _ => ?_) | refine Need.mk (by first | omega | decide | rfl) ?_ | refine Idx.nat (by omega) ?_ | refine Idx.auto (by first | omega | decide) (by first | omega | decide) ?_ | refine Cell.ro rfl ?_ | refine SDraw.all (by kernel_rfl) ?_ | refine Kept.k0 ?_ | refine Kept.k1 ?_ | refine Kept.k2 ?_ | refine Kept.k3 ?_ | refine Kept.k4 ?_))
  | false =>
    rw [hlf, Bool.false_and] at hK
    repeat' ((conv => whnf); (first | refine Look.cell (.tail _ hb) hc0 ?_ | refine Look.cell (.tail _ hb) hc1 ?_ | with_reducible refine Val.to _ hx ?_ | with_reducible refine Val.to _ ha ?_ | refine Branch.f hlf ?_ | exact Keep.d1 hK | refine New.mk (fun _ => ?_) | refine Look.at0 ?_ | refine Cell.row ?_ | refine Cell.buf ?_ | refine Cells.row rfl ?_ | refine Put.row rfl ?_ | refine Put.buf rfl ?_ | refine Look.at1 ?_ | refine Look.at2 ?_ | refine Look.at3 ?_ | refine Look.at4 ?_ | refine Look.at5 ?_ | refine Look.at6 ?_ | refine Look.at7 ?_ | refine Look.at8 ?_ | with_reducible refine Val.i64 (by omega) (by omega) ?_ | with_reducible refine Val.u8 (by omega) (by omega) ?_ | with_reducible refine Val.u32 (by omega) (by omega) ?_ | with_reducible refine Val.u64 (by omega) (by omega) ?_ | with_reducible refine Val.u8m ?_ | with_reducible refine Val.u32m ?_ | with_reducible refine Val.u64m ?_ | with_reducible refine Val.shr8 ?_ | with_reducible refine Val.shr16 (by decide) ?_ | with_reducible refine Val.shr24 (by decide) ?_ | with_reducible refine Val.raw ?_ | refine Branch.not ?_ | refine Branch.and ?_ | refine Branch.or ?_ | refine Branch.dt (by assumption) ?_ | refine Branch.df (by assumption) ?_ | refine Branch.dt rfl ?_ | refine Branch.dt (by omega) ?_ | refine Branch.df (by omega) ?_ | refine Branch.t rfl ?_ | refine Branch.f rfl ?_ | refine Branch.t (by assumption) ?_ | refine Branch.f (by assumption) ?_ | refine Branch.d (fun _ => ?_) (fun _ => ?_) | refine Branch.mk (fun _ => ?_) (fun _ => ?_) | refine Need.mk (by first | omega | decide | rfl) ?_ | refine Idx.nat (by omega) ?_ | refine Idx.auto (by first | omega | decide) (by first | omega | decide) ?_ | refine Cell.ro rfl ?_ | refine SDraw.all (by kernel_rfl) ?_ | refine Kept.k0 ?_ | refine Kept.k1 ?_ | refine Kept.k2 ?_ | refine Kept.k3 ?_ | refine Kept.k4 ?_))
theorem c38 {L : List Fl} {sv : Value} {b : Nat} (hin : InS fC 3 sv H L) (hw : ∀ l ∈ L, l.wf) (hf : f.id < 4294967296) (hb : (b, .row 26 (frC f) (0, 0)) ∈ H) (hK : K (.bool (L.any fun l => pas1 l f)) H) : SCalls Tryd.prog 38 [sv, .func (.func 39) ⟨[]⟩ ⟨[ptr b]⟩] H K := by
  obtain ⟨sa, sc, rfl, hml⟩ := hin.sv
  have h50 := fun (K : Value → Heap → Prop) h0 h1 => c50 (K := K) (fid := 39) (cs := [ptr b]) (fun l => pas1 l f) hin (fun j x hx K hk => c39 (hw x (List.mem_of_getElem? hx)) hf hb hk) h0 h1
  refine enter38 ?_
  repeat' ((conv => whnf); (first | refine h50 _ (fun h0 => ?_) (fun j x hx hp hno => ?_) | refine New.mk (fun _ => ?_) | refine Look.at0 ?_ | refine Cell.row ?_ | refine Cell.buf ?_ | refine Cells.row rfl ?_ | refine Put.row rfl ?_ | refine Put.buf rfl ?_ | refine Look.at1 ?_ | refine Look.at2 ?_ | refine Look.at3 ?_ | refine Look.at4 ?_ | refine Look.at5 ?_ | refine Look.at6 ?_ | refine Look.at7 ?_ | refine Look.at8 ?_ | with_reducible refine Val.i64 (by omega) (by omega) ?_ | with_reducible refine Val.u8 (by omega) (by omega) ?_ | with_reducible refine Val.u32 (by omega) (by omega) ?_ | with_reducible refine Val.u64 (by omega) (by omega) ?_ | with_reducible refine Val.u8m ?_ | with_reducible refine Val.u32m ?_ | with_reducible refine Val.u64m ?_ | with_reducible refine Val.shr8 ?_ | with_reducible refine Val.shr16 (by decide) ?_ | with_reducible refine Val.shr24 (by decide) ?_ | with_reducible refine Val.raw ?_ | refine Branch.not ?_ | refine Branch.and ?_ | refine Branch.or ?_ | refine Branch.dt (by assumption) ?_ | refine Branch.df (by assumption) ?_ | refine Branch.dt rfl ?_ | refine Branch.dt (by omega) ?_ | refine Branch.df (by omega) ?_ | refine Branch.t rfl ?_ | refine Branch.f rfl ?_ | refine Branch.t (by assumption) ?_ | refine Branch.f (by assumption) ?_ | refine Branch.d (fun _ => ?_) (fun _ => ?_) | refine Branch.mk (fun _ => ?_) (fun _ => ?_) | refine Need.mk (by first | omega | decide | rfl) ?_ | refine Idx.nat (by omega) ?_ | refine Idx.auto (by first | omega | decide) (by first | omega | decide) ?_ | refine Cell.ro rfl ?_ | refine SDraw.all (by kernel_rfl) ?_ | refine Kept.k0 ?_ | refine Kept.k1 ?_ | refine Kept.k2 ?_ | refine Kept.k3 ?_ | refine Kept.k4 ?_))
  · have e : (L.any fun l => pas1 l f) = false := List.any_eq_false.2 fun x hx => by rw [h0 x hx]; decide
    rw [e] at hK
    repeat' ((conv => whnf); (first | exact Keep.all hK | refine New.mk (fun _ => ?_) | refine Look.at0 ?_ | refine Cell.row ?_ | refine Cell.buf ?_ | refine Cells.row rfl ?_ | refine Put.row rfl ?_ | refine Put.buf rfl ?_ | refine Look.at1 ?_ | refine Look.at2 ?_ | refine Look.at3 ?_ | refine Look.at4 ?_ | refine Look.at5 ?_ | refine Look.at6 ?_ | refine Look.at7 ?_ | refine Look.at8 ?_ | with_reducible refine Val.i64 (by omega) (by omega) ?_ | with_reducible refine Val.u8 (by omega) (by omega) ?_ | with_reducible refine Val.u32 (by omega) (by omega) ?_ | with_reducible refine Val.u64 (by omega) (by omega) ?_ | with_reducible refine Val.u8m ?_ | with_reducible refine Val.u32m ?_ | with_reducible refine Val.u64m ?_ | with_reducible refine Val.shr8 ?_ | with_reducible refine Val.shr16 (by decide) ?_ | with_reducible refine Val.shr24 (by decide) ?_ | with_reducible refine Val.raw ?_ | refine Branch.not ?_ | refine Branch.and ?_ | refine Branch.or ?_ | refine Branch.dt (by assumption) ?_ | refine Branch.df (by assumption) ?_ | refine Branch.dt rfl ?_ | refine Branch.dt (by omega) ?_ | refine Branch.df (by omega) ?_ | refine Branch.t rfl ?_ | refine Branch.f rfl ?_ | refine Branch.t (by assumption) ?_ | refine Branch.f (by assumption) ?_ | refine Branch.d (fun _ => ?_) (fun _ => ?_) | refine Branch.mk (fun _ => ?_) (fun _ => ?_) | refine Need.mk (by first | omega | decide | rfl) ?_ | refine Idx.nat (by omega) ?_ | refine Idx.auto (by first | omega | decide) (by first | omega | decide) ?_ | refine Cell.ro rfl ?_ | refine SDraw.all (by kernel_rfl) ?_ | refine Kept.k0 ?_ | refine Kept.k1 ?_ | refine Kept.k2 ?_ | refine Kept.k3 ?_ | refine Kept.k4 ?_))
  · have e : (L.any fun l => pas1 l f) = true := List.any_eq_true.2 ⟨x, List.mem_of_getElem? hx, hp⟩
    have e2 : decide ((0 : Int) ≤ (j : Int)) = true := decide_eq_true (by omega)
    rw [e, ← e2] at hK
    repeat' ((conv => whnf); (first | exact Keep.all hK | refine New.mk (fun _ => ?_) | refine Look.at0 ?_ | refine Cell.row ?_ | refine Cell.buf ?_ | refine Cells.row rfl ?_ | refine Put.row rfl ?_ | refine Put.buf rfl ?_ | refine Look.at1 ?_ | refine Look.at2 ?_ | refine Look.at3 ?_ | refine Look.at4 ?_ | refine Look.at5 ?_ | refine Look.at6 ?_ | refine Look.at7 ?_ | refine Look.at8 ?_ | with_reducible refine Val.i64 (by omega) (by omega) ?_ | with_reducible refine Val.u8 (by omega) (by omega) ?_ | with_reducible refine Val.u32 (by omega) (by omega) ?_ | with_reducible refine Val.u64 (by omega) (by omega) ?_ | with_reducible refine Val.u8m ?_ | with_reducible refine Val.u32m ?_ | with_reducible refine Val.u64m ?_ | with_reducible refine Val.shr8 ?_ | with_reducible refine Val.shr16 (by decide) ?_ | with_reducible refine Val.shr24 (by decide) ?_ | with_reducible refine Val.raw ?_ | refine Branch.not ?_ | refine Branch.and ?_ | refine Branch.or ?_ | refine Branch.dt (by assumption) ?_ | refine Branch.df (by assumption) ?_ | refine Branch.dt rfl ?_ | refine Branch.dt (by omega) ?_ | refine Branch.df (by omega) ?_ | refine Branch.t rfl ?_ | refine Branch.f rfl ?_ | refine Branch.t (by assumption) ?_ | refine Branch.f (by assumption) ?_ | refine Branch.d (fun _ => ?_) (fun _ => ?_) | refine Branch.mk (fun _ => ?_) (fun _ => ?_) | refine Need.mk (by first | omega | decide | rfl) ?_ | refine Idx.nat (by omega) ?_ | refine Idx.auto (by first | omega | decide) (by first | omega | decide) ?_ | refine Cell.ro rfl ?_ | refine SDraw.all (by kernel_rfl) ?_ | refine Kept.k0 ?_ | refine Kept.k1 ?_ | refine Kept.k2 ?_ | refine Kept.k3 ?_ | refine Kept.k4 ?_))
theorem c23 (hw : DrW s) (h : DrO p s H F) (hf : f.id < 4294967296) (hK : K (.bool (pas s.L f)) F) : SCalls Tryd.prog 23 [ptr p, frV f] F K := by
  obtain ⟨fa, fc, qa, qc, ia, ic, X, rfl, h1, _⟩ := h.look
  have h38 : ∀ b (K2 : Value → Heap → Prop), K2 (.bool (s.L.any fun l => pas1 l f)) ((b, .row 26 (frC f) (0, 0)) :: pRow p (i64 s.most) (i64 s.room) (.slice fa s.L.length fc) (.slice qa s.q.length qc) (i64 s.tk) (.slice ia s.I.length ic) (i64 s.lost) :: X) →
      SCalls Tryd.prog 38 [.slice fa s.L.length fc, .func (.func 39) ⟨[]⟩ ⟨[ptr b]⟩] ((b, .row 26 (frC f) (0, 0)) :: pRow p (i64 s.most) (i64 s.room) (.slice fa s.L.length fc) (.slice qa s.q.length qc) (i64 s.tk) (.slice ia s.I.length ic) (i64 s.lost) :: X) K2 :=
    fun b K2 hk => c38 (h1.mono fun z hz => .tail _ hz) hw.Lw hf (.head _) hk
  unfold pas at hK
  refine enter23 ?_
  by_cases h0 : s.L.length = 0
  · rw [decide_eq_true h0, Bool.true_or] at hK
    have e : decide ((s.L.length : Int) = 0) = true := decide_eq_true (by omega)
    repeat' ((conv => whnf); (first | refine Branch.t e ?_ | exact Keep.d1 hK | refine New.mk (fun _ => ?_) | refine Look.at0 ?_ | refine Cell.row ?_ | refine Cell.buf ?_ | refine Cells.row rfl ?_ | refine Put.row rfl ?_ | refine Put.buf rfl ?_ | refine Look.at1 ?_ | refine Look.at2 ?_ | refine Look.at3 ?_ | refine Look.at4 ?_ | refine Look.at5 ?_ | refine Look.at6 ?_ | refine Look.at7 ?_ | refine Look.at8 ?_ | with_reducible refine Val.i64 (by omega) (by omega) ?_ | with_reducible refine Val.u8 (by omega) (by omega) ?_ | with_reducible refine Val.u32 (by omega) (by omega) ?_ | with_reducible refine Val.u64 (by omega) (by omega) ?_ | with_reducible refine Val.u8m ?_ | with_reducible refine Val.u32m ?_ | with_reducible refine Val.u64m ?_ | with_reducible refine Val.shr8 ?_ | with_reducible refine Val.shr16 (by decide) ?_ | with_reducible refine Val.shr24 (by decide) ?_ | with_reducible refine Val.raw ?_ | refine Branch.not ?_ | refine Branch.and ?_ | refine Branch.or ?_ | refine Branch.dt (by assumption) ?_ | refine Branch.df (by assumption) ?_ | refine Branch.dt rfl ?_ | refine Branch.dt (by omega) ?_ | refine Branch.df (by omega) ?_ | refine Branch.t rfl ?_ | refine Branch.f rfl ?_ | refine Branch.t (by assumption) ?_ | refine Branch.f (by assumption) ?_ | refine Branch.d (fun _ => ?_) (fun _ => ?_) | refine Branch.mk (fun _ => ?_) (fun _ => ?_) | refine Need.mk (by first | omega | decide | rfl) ?_ | refine Idx.nat (by omega) ?_ | refine Idx.auto (by first | omega | decide) (by first | omega | decide) ?_ | refine Cell.ro rfl ?_ | refine SDraw.all (by kernel_rfl) ?_ | refine Kept.k0 ?_ | refine Kept.k1 ?_ | refine Kept.k2 ?_ | refine Kept.k3 ?_ | refine Kept.k4 ?_))
  · rw [decide_eq_false h0, Bool.false_or] at hK
    have e : decide ((s.L.length : Int) = 0) = false := decide_eq_false (by omega)
    repeat' ((conv => whnf); (first | refine Branch.f e ?_ | refine h38 _ _ ?_ | exact Keep.d1 hK | refine New.mk (fun _ => ?_) | refine Look.at0 ?_ | refine Cell.row ?_ | refine Cell.buf ?_ | refine Cells.row rfl ?_ | refine Put.row rfl ?_ | refine Put.buf rfl ?_ | refine Look.at1 ?_ | refine Look.at2 ?_ | refine Look.at3 ?_ | refine Look.at4 ?_ | refine Look.at5 ?_ | refine Look.at6 ?_ | refine Look.at7 ?_ | refine Look.at8 ?_ | with_reducible refine Val.i64 (by omega) (by omega) ?_ | with_reducible refine Val.u8 (by omega) (by omega) ?_ | with_reducible refine Val.u32 (by omega) (by omega) ?_ | with_reducible refine Val.u64 (by omega) (by omega) ?_ | with_reducible refine Val.u8m ?_ | with_reducible refine Val.u32m ?_ | with_reducible refine Val.u64m ?_ | with_reducible refine Val.shr8 ?_ | with_reducible refine Val.shr16 (by decide) ?_ | with_reducible refine Val.shr24 (by decide) ?_ | with_reducible refine Val.raw ?_ | refine Branch.not ?_ | refine Branch.and ?_ | refine Branch.or ?_ | refine Branch.dt (by assumption) ?_ | refine Branch.df (by assumption) ?_ | refine Branch.dt rfl ?_ | refine Branch.dt (by omega) ?_ | refine Branch.df (by omega) ?_ | refine Branch.t rfl ?_ | refine Branch.f rfl ?_ | refine Branch.t (by assumption) ?_ | refine Branch.f (by assumption) ?_ | refine Branch.d (fun _ => ?_) (fun _ => ?_) | refine Branch.mk (fun _ => ?_) (fun _ => ?_) | refine Need.mk (by first | omega | decide | rfl) ?_ | refine Idx.nat (by omega) ?_ | refine Idx.auto (by first | omega | decide) (by first | omega | decide) ?_ | refine Cell.ro rfl ?_ | refine SDraw.all (by kernel_rfl) ?_ | refine Kept.k0 ?_ | refine Kept.k1 ?_ | refine Kept.k2 ?_ | refine Kept.k3 ?_ | refine Kept.k4 ?_))
theorem c9 (hw : DrW s) (h : DrO p s H F) (hf : f.id < 4294967296) (hK : K (.bool (okF f && pas s.L f)) F) : SCalls Tryd.prog 9 [ptr p, frV f] F K := by
  have h23 := fun (K : Value → Heap → Prop) hk => c23 (K := K) hw h hf hk
  have h22 := fun H (K2 : Value → Heap → Prop) (hk : K2 (.int .i64 (erF f)) H) => c22 (H := H) (K := K2) hf hk
  unfold erF at h22
  refine enter9 ?_
  cases hg : okF f with
  | true =>
    rw [hg] at h22 hK
    repeat' ((conv => whnf); (first | refine h22 _ _ ?_ | refine SCalls.under [_] (h23 _ ?_) | refine Branch.t rfl ?_ | exact Keep.d1 hK | refine New.mk (fun _ => ?_) | refine Look.at0 ?_ | refine Cell.row ?_ | refine Cell.buf ?_ | refine Cells.row rfl ?_ | refine Put.row rfl ?_ | refine Put.buf rfl ?_ | refine Look.at1 ?_ | refine Look.at2 ?_ | refine Look.at3 ?_ | refine Look.at4 ?_ | refine Look.at5 ?_ | refine Look.at6 ?_ | refine Look.at7 ?_ | refine Look.at8 ?_ | with_reducible refine Val.i64 (by omega) (by omega) ?_ | with_reducible refine Val.u8 (by omega) (by omega) ?_ | with_reducible refine Val.u32 (by omega) (by omega) ?_ | with_reducible refine Val.u64 (by omega) (by omega) ?_ | with_reducible refine Val.u8m ?_ | with_reducible refine Val.u32m ?_ | with_reducible refine Val.u64m ?_ | with_reducible refine Val.shr8 ?_ | with_reducible refine Val.shr16 (by decide) ?_ | with_reducible refine Val.shr24 (by decide) ?_ | with_reducible refine Val.raw ?_ | refine Branch.not ?_ | refine Branch.and ?_ | refine Branch.or ?_ | refine Branch.dt (by assumption) ?_ | refine Branch.df (by assumption) ?_ | refine Branch.dt rfl ?_ | refine Branch.dt (by omega) ?_ | refine Branch.df (by omega) ?_ | refine Branch.t rfl ?_ | refine Branch.f rfl ?_ | refine Branch.t (by assumption) ?_ | refine Branch.f (by assumption) ?_ | refine Branch.d (fun _ => ?_) (fun _ => ?_) | refine Branch.mk (fun _ => ?_) (fun _ => ?_) | refine Need.mk (by first | omega | decide | rfl) ?_ | refine Idx.nat (by omega) ?_ | refine Idx.auto (by first | omega | decide) (by first | omega | decide) ?_ | refine Cell.ro rfl ?_ | refine SDraw.all (by kernel_rfl) ?_ | refine Kept.k0 ?_ | refine Kept.k1 ?_ | refine Kept.k2 ?_ | refine Kept.k3 ?_ | refine Kept.k4 ?_))
  | false =>
    rw [hg] at h22 hK
    repeat' ((conv => whnf); (first | refine h22 _ _ ?_ | refine Branch.f rfl ?_ | exact Keep.d1 hK | refine New.mk (fun _ => ?_) | refine Look.at0 ?_ | refine Cell.row ?_ | refine Cell.buf ?_ | refine Cells.row rfl ?_ | refine Put.row rfl ?_ | refine Put.buf rfl ?_ | refine Look.at1 ?_ | refine Look.at2 ?_ | refine Look.at3 ?_ | refine Look.at4 ?_ | refine Look.at5 ?_ | refine Look.at6 ?_ | refine Look.at7 ?_ | refine Look.at8 ?_ | with_reducible refine Val.i64 (by omega) (by omega) ?_ | with_reducible refine Val.u8 (by omega) (by omega) ?_ | with_reducible refine Val.u32 (by omega) (by omega) ?_ | with_reducible refine Val.u64 (by omega) (by omega) ?_ | with_reducible refine Val.u8m ?_ | with_reducible refine Val.u32m ?_ | with_reducible refine Val.u64m ?_ | with_reducible refine Val.shr8 ?_ | with_reducible refine Val.shr16 (by decide) ?_ | with_reducible refine Val.shr24 (by decide) ?_ | with_reducible refine Val.raw ?_ | refine Branch.not ?_ | refine Branch.and ?_ | refine Branch.or ?_ | refine Branch.dt (by assumption) ?_ | refine Branch.df (by assumption) ?_ | refine Branch.dt rfl ?_ | refine Branch.dt (by omega) ?_ | refine Branch.df (by omega) ?_ | refine Branch.t rfl ?_ | refine Branch.f rfl ?_ | refine Branch.t (by assumption) ?_ | refine Branch.f (by assumption) ?_ | refine Branch.d (fun _ => ?_) (fun _ => ?_) | refine Branch.mk (fun _ => ?_) (fun _ => ?_) | refine Need.mk (by first | omega | decide | rfl) ?_ | refine Idx.nat (by omega) ?_ | refine Idx.auto (by first | omega | decide) (by first | omega | decide) ?_ | refine Cell.ro rfl ?_ | refine SDraw.all (by kernel_rfl) ?_ | refine Kept.k0 ?_ | refine Kept.k1 ?_ | refine Kept.k2 ?_ | refine Kept.k3 ?_ | refine Kept.k4 ?_))
theorem c15 (h : DrO p s H F) (hK : K (.tuple ⟨[i64 s.q.length, i64 s.I.length]⟩) F) : SCalls Tryd.prog 15 [ptr p] F K := by
  obtain ⟨fa, fc, qa, qc, ia, ic, X, rfl, h1, _⟩ := h.look
  refine enter15 ?_
  repeat' ((conv => whnf); (first | exact Keep.all hK | refine New.mk (fun _ => ?_) | refine Look.at0 ?_ | refine Cell.row ?_ | refine Cell.buf ?_ | refine Cells.row rfl ?_ | refine Put.row rfl ?_ | refine Put.buf rfl ?_ | refine Look.at1 ?_ | refine Look.at2 ?_ | refine Look.at3 ?_ | refine Look.at4 ?_ | refine Look.at5 ?_ | refine Look.at6 ?_ | refine Look.at7 ?_ | refine Look.at8 ?_ | with_reducible refine Val.i64 (by omega) (by omega) ?_ | with_reducible refine Val.u8 (by omega) (by omega) ?_ | with_reducible refine Val.u32 (by omega) (by omega) ?_ | with_reducible refine Val.u64 (by omega) (by omega) ?_ | with_reducible refine Val.u8m ?_ | with_reducible refine Val.u32m ?_ | with_reducible refine Val.u64m ?_ | with_reducible refine Val.shr8 ?_ | with_reducible refine Val.shr16 (by decide) ?_ | with_reducible refine Val.shr24 (by decide) ?_ | with_reducible refine Val.raw ?_ | refine Branch.not ?_ | refine Branch.and ?_ | refine Branch.or ?_ | refine Branch.dt (by assumption) ?_ | refine Branch.df (by assumption) ?_ | refine Branch.dt rfl ?_ | refine Branch.dt (by omega) ?_ | refine Branch.df (by omega) ?_ | refine Branch.t rfl ?_ | refine Branch.f rfl ?_ | refine Branch.t (by assumption) ?_ | refine Branch.f (by assumption) ?_ | refine Branch.d (fun _ => ?_) (fun _ => ?_) | refine Branch.mk (fun _ => ?_) (fun _ => ?_) | refine Need.mk (by first | omega | decide | rfl) ?_ | refine Idx.nat (by omega) ?_ | refine Idx.auto (by first | omega | decide) (by first | omega | decide) ?_ | refine Cell.ro rfl ?_ | refine SDraw.all (by kernel_rfl) ?_ | refine Kept.k0 ?_ | refine Kept.k1 ?_ | refine Kept.k2 ?_ | refine Kept.k3 ?_ | refine Kept.k4 ?_))
theorem c18 (h : DrO p s H F) (hK : K (i64 s.lost) F) : SCalls Tryd.prog 18 [ptr p] F K := by
  obtain ⟨fa, fc, qa, qc, ia, ic, X, rfl, h1, _⟩ := h.look
  refine enter18 ?_
  repeat' ((conv => whnf); (first | exact Keep.all hK | refine New.mk (fun _ => ?_) | refine Look.at0 ?_ | refine Cell.row ?_ | refine Cell.buf ?_ | refine Cells.row rfl ?_ | refine Put.row rfl ?_ | refine Put.buf rfl ?_ | refine Look.at1 ?_ | refine Look.at2 ?_ | refine Look.at3 ?_ | refine Look.at4 ?_ | refine Look.at5 ?_ | refine Look.at6 ?_ | refine Look.at7 ?_ | refine Look.at8 ?_ | with_reducible refine Val.i64 (by omega) (by omega) ?_ | with_reducible refine Val.u8 (by omega) (by omega) ?_ | with_reducible refine Val.u32 (by omega) (by omega) ?_ | with_reducible refine Val.u64 (by omega) (by omega) ?_ | with_reducible refine Val.u8m ?_ | with_reducible refine Val.u32m ?_ | with_reducible refine Val.u64m ?_ | with_reducible refine Val.shr8 ?_ | with_reducible refine Val.shr16 (by decide) ?_ | with_reducible refine Val.shr24 (by decide) ?_ | with_reducible refine Val.raw ?_ | refine Branch.not ?_ | refine Branch.and ?_ | refine Branch.or ?_ | refine Branch.dt (by assumption) ?_ | refine Branch.df (by assumption) ?_ | refine Branch.dt rfl ?_ | refine Branch.dt (by omega) ?_ | refine Branch.df (by omega) ?_ | refine Branch.t rfl ?_ | refine Branch.f rfl ?_ | refine Branch.t (by assumption) ?_ | refine Branch.f (by assumption) ?_ | refine Branch.d (fun _ => ?_) (fun _ => ?_) | refine Branch.mk (fun _ => ?_) (fun _ => ?_) | refine Need.mk (by first | omega | decide | rfl) ?_ | refine Idx.nat (by omega) ?_ | refine Idx.auto (by first | omega | decide) (by first | omega | decide) ?_ | refine Cell.ro rfl ?_ | refine SDraw.all (by kernel_rfl) ?_ | refine Kept.k0 ?_ | refine Kept.k1 ?_ | refine Kept.k2 ?_ | refine Kept.k3 ?_ | refine Kept.k4 ?_))
def zF : Fm := ⟨0, false, false, 0, 0, 0, 0, 0, 0, 0, 0, 0⟩
/-- The first of several. -/
def hd1 (l : List Fm) : Fm := match l with | [] => zF | f :: _ => f
theorem c11 (h : DrO p s H F) (hK : K (.tuple ⟨[frV (hd1 (s.q.map Wn.f)), .bool (decide (0 < s.q.length))]⟩) F) : SCalls Tryd.prog 11 [ptr p] F K := by
  obtain ⟨fa, fc, qa, qc, ia, ic, X, rfl, _, h1, _⟩ := h.look
  refine enter11 ?_
  cases hq : s.q with
  | nil =>
    rw [hq] at hK
    have hk : K (.tuple ⟨[.agg ⟨[.int .u32 0, .bool false, .bool false, .int .i64 0, .int .u8 0, .int .u8 0, .int .u8 0, .int .u8 0, .int .u8 0, .int .u8 0, .int .u8 0, .int .u8 0]⟩, .bool false]⟩) _ := hK
    repeat' ((conv => whnf); (first | refine Branch.t rfl ?_ | exact Keep.d1 hk | refine New.mk (fun _ => ?_) | refine Look.at0 ?_ | refine Cell.row ?_ | refine Cell.buf ?_ | refine Cells.row rfl ?_ | refine Put.row rfl ?_ | refine Put.buf rfl ?_ | refine Look.at1 ?_ | refine Look.at2 ?_ | refine Look.at3 ?_ | refine Look.at4 ?_ | refine Look.at5 ?_ | refine Look.at6 ?_ | refine Look.at7 ?_ | refine Look.at8 ?_ | with_reducible refine Val.i64 (by omega) (by omega) ?_ | with_reducible refine Val.u8 (by omega) (by omega) ?_ | with_reducible refine Val.u32 (by omega) (by omega) ?_ | with_reducible refine Val.u64 (by omega) (by omega) ?_ | with_reducible refine Val.u8m ?_ | with_reducible refine Val.u32m ?_ | with_reducible refine Val.u64m ?_ | with_reducible refine Val.shr8 ?_ | with_reducible refine Val.shr16 (by decide) ?_ | with_reducible refine Val.shr24 (by decide) ?_ | with_reducible refine Val.raw ?_ | refine Branch.not ?_ | refine Branch.and ?_ | refine Branch.or ?_ | refine Branch.dt (by assumption) ?_ | refine Branch.df (by assumption) ?_ | refine Branch.dt rfl ?_ | refine Branch.dt (by omega) ?_ | refine Branch.df (by omega) ?_ | refine Branch.t rfl ?_ | refine Branch.f rfl ?_ | refine Branch.t (by assumption) ?_ | refine Branch.f (by assumption) ?_ | refine Branch.d (fun _ => ?_) (fun _ => ?_) | refine Branch.mk (fun _ => ?_) (fun _ => ?_) | refine Need.mk (by first | omega | decide | rfl) ?_ | refine Idx.nat (by omega) ?_ | refine Idx.auto (by first | omega | decide) (by first | omega | decide) ?_ | refine Cell.ro rfl ?_ | refine SDraw.all (by kernel_rfl) ?_ | refine Kept.k0 ?_ | refine Kept.k1 ?_ | refine Kept.k2 ?_ | refine Kept.k3 ?_ | refine Kept.k4 ?_))
  | cons x r =>
    rw [hq] at hK h1
    obtain ⟨rr, o, c, b, e1, hrb, hcc⟩ := inS_at (j := 0) (x := x) h1 wC_len rfl
    injection e1 with e1 _ e3
    subst e1
    have hc12 : ∀ (j : Nat) v, (frC x.f)[j]? = some v → b.cell (o + 0 * 14 + 0 + j) = some v := by
      intro j v hj
      have hlt : j < 12 := (List.getElem?_eq_some_iff.1 hj).1
      refine hcc j v ?_
      have e : (wC x)[j]? = (frC x.f ++ [.string (strOf x.fl), .int .i64 (x.ask : Int)])[j]? := rfl
      rw [e, List.getElem?_append_left hlt]
      exact hj
    have e : decide (((x :: r).length : Int) = 0) = false := decide_eq_false (by simp; omega)
    have hk := show K (.tuple ⟨[frV x.f, .bool true]⟩) _ from by
      rw [decide_eq_true (show 0 < (x :: r).length by simp)] at hK
      exact hK
    repeat' ((conv => whnf); (first | refine Branch.f e ?_ | refine Idx.of 0 rfl (by simp) ?_ | refine Look.cells (.tail _ hrb) rfl hc12 ?_ | exact Keep.d1 hk | refine New.mk (fun _ => ?_) | refine Look.at0 ?_ | refine Cell.row ?_ | refine Cell.buf ?_ | refine Cells.row rfl ?_ | refine Put.row rfl ?_ | refine Put.buf rfl ?_ | refine Look.at1 ?_ | refine Look.at2 ?_ | refine Look.at3 ?_ | refine Look.at4 ?_ | refine Look.at5 ?_ | refine Look.at6 ?_ | refine Look.at7 ?_ | refine Look.at8 ?_ | with_reducible refine Val.i64 (by omega) (by omega) ?_ | with_reducible refine Val.u8 (by omega) (by omega) ?_ | with_reducible refine Val.u32 (by omega) (by omega) ?_ | with_reducible refine Val.u64 (by omega) (by omega) ?_ | with_reducible refine Val.u8m ?_ | with_reducible refine Val.u32m ?_ | with_reducible refine Val.u64m ?_ | with_reducible refine Val.shr8 ?_ | with_reducible refine Val.shr16 (by decide) ?_ | with_reducible refine Val.shr24 (by decide) ?_ | with_reducible refine Val.raw ?_ | refine Branch.not ?_ | refine Branch.and ?_ | refine Branch.or ?_ | refine Branch.dt (by assumption) ?_ | refine Branch.df (by assumption) ?_ | refine Branch.dt rfl ?_ | refine Branch.dt (by omega) ?_ | refine Branch.df (by omega) ?_ | refine Branch.t rfl ?_ | refine Branch.f rfl ?_ | refine Branch.t (by assumption) ?_ | refine Branch.f (by assumption) ?_ | refine Branch.d (fun _ => ?_) (fun _ => ?_) | refine Branch.mk (fun _ => ?_) (fun _ => ?_) | refine Need.mk (by first | omega | decide | rfl) ?_ | refine Idx.nat (by omega) ?_ | refine Idx.auto (by first | omega | decide) (by first | omega | decide) ?_ | refine Cell.ro rfl ?_ | refine SDraw.all (by kernel_rfl) ?_ | refine Kept.k0 ?_ | refine Kept.k1 ?_ | refine Kept.k2 ?_ | refine Kept.k3 ?_ | refine Kept.k4 ?_))
end
end Go.Proofs.YthgpikgbhkcnbaaDoor

/- Layer 5: the program's driver, what changes it: by walks. -/
set_option linter.unusedVariables false
set_option linter.unusedSimpArgs false
set_option maxRecDepth 100000
set_option maxHeartbeats 4000000
namespace Go.Proofs.YthgpikgbhkcnbaaDoor
open Sx
abbrev tup2 (a b : Int) : Value := .tuple ⟨[.int .i64 a, .int .i64 b]⟩
section
variable {K : Value → Heap → Prop} {p : Nat} {s : Dr} {H F : Heap} {f : Fm}
/-- What a frame becomes in a mailbox. -/
abbrev mailW (f : Fm) (n : Nat) : Wn := ⟨plF f, fld f, n⟩
theorem c10 (hw : DrW s) (h : DrO p s H F) (hD : Db H) (hf : f.id < 4294967296) (h0 : okF f = false → K (tup2 0 1) F) (h1 : okF f = true → s.most ≤ s.q.length → K (tup2 0 31) F)
    (h2 : okF f = true → s.q.length < s.most → ∀ q' F', DrO p { s with tk := s.tk + 1, q := q' } H F' → q'.Perm (s.q ++ [mailW f (s.tk + 1)]) → Hp.HeapN wlt q' q'.length → K (tup2 ((s.tk + 1 : Nat) : Int) 0) F') : SCalls Tryd.prog 10 [ptr p, frV f] F K := by
  obtain ⟨g1, g2, g3⟩ := h
  rename_i fi iv M1 M2
  have hDF : ∀ t3 : Nat × Blk, Db (t3 :: F) := fun t3 => hD.mono fun z hz => .tail _ (g3.sub _ (List.mem_append_right _ (List.mem_append_right _ hz)))
  obtain ⟨a, c, Mq, _, rfl, hc, _⟩ := g3.chg
  have h12 := fun (t3 : Nat × Blk) (K2 : Value → Heap → Prop) hk => c12 (K := K2) hf (hDF t3) hk
  have hq := hw.q
  have hm := hw.most
  have ht := hw.tk
  unfold fV at h12
  refine enter10 ?_
  cases hg : okF f with
  | false =>
    rw [hg] at h12
    have hk := h0 hg
    clear h1 h2
    repeat' ((conv => whnf); (first | refine h12 _ _ ?_ | refine Branch.t rfl ?_ | exact Keep.d1 hk | refine New.mk (fun _ => ?_) | refine Look.at0 ?_ | refine Cell.row ?_ | refine Cell.buf ?_ | refine Cells.row rfl ?_ | refine Put.row rfl ?_ | refine Put.buf rfl ?_ | refine Look.at1 ?_ | refine Look.at2 ?_ | refine Look.at3 ?_ | refine Look.at4 ?_ | refine Look.at5 ?_ | refine Look.at6 ?_ | refine Look.at7 ?_ | refine Look.at8 ?_ | with_reducible refine Val.i64 (by omega) (by omega) ?_ | with_reducible refine Val.u8 (by omega) (by omega) ?_ | with_reducible refine Val.u32 (by omega) (by omega) ?_ | with_reducible refine Val.u64 (by omega) (by omega) ?_ | with_reducible refine Val.u8m ?_ | with_reducible refine Val.u32m ?_ | with_reducible refine Val.u64m ?_ | with_reducible refine Val.shr8 ?_ | with_reducible refine Val.shr16 (by decide) ?_ | with_reducible refine Val.shr24 (by decide) ?_ | with_reducible refine Val.raw ?_ | refine Branch.not ?_ | refine Branch.and ?_ | refine Branch.or ?_ | refine Branch.dt (by assumption) ?_ | refine Branch.df (by assumption) ?_ | refine Branch.dt rfl ?_ | refine Branch.dt (by omega) ?_ | refine Branch.df (by omega) ?_ | refine Branch.t rfl ?_ | refine Branch.f rfl ?_ | refine Branch.t (by assumption) ?_ | refine Branch.f (by assumption) ?_ | refine Branch.d (fun _ => ?_) (fun _ => ?_) | refine Branch.mk (fun _ => ?_) (fun _ => ?_) | refine Need.mk (by first | omega | decide | rfl) ?_ | refine Idx.nat (by omega) ?_ | refine Idx.auto (by first | omega | decide) (by first | omega | decide) ?_ | refine Cell.ro rfl ?_ | refine SDraw.all (by kernel_rfl) ?_ | refine Kept.k0 ?_ | refine Kept.k1 ?_ | refine Kept.k2 ?_ | refine Kept.k3 ?_ | refine Kept.k4 ?_))
  | true =>
    rw [hg] at h12
    by_cases hlt : s.q.length < s.most
    · have hk2 := h2 hg hlt
      have h24 : ∀ K2 : Value → Heap → Prop, (∀ q' a' c' M', DrO p { s with tk := s.tk + 1, q := q' } H (pRow p (i64 s.most) (i64 s.room) fi (.slice a' q'.length c') (.int .i64 ((s.tk + 1 : Nat) : Int)) iv (i64 s.lost) :: M') → q'.Perm (s.q ++ [mailW f (s.tk + 1)]) → Hp.HeapN wlt q' q'.length → K2 (.tuple ⟨[]⟩) (pRow p (i64 s.most) (i64 s.room) fi (.slice a' q'.length c') (.int .i64 ((s.tk + 1 : Nat) : Int)) iv (i64 s.lost) :: M')) →
          SCalls Tryd.prog 24 [qP p, .iface 70 (.agg ⟨wC (mailW f (s.tk + 1))⟩)] (pRow p (i64 s.most) (i64 s.room) fi (.slice a s.q.length c) (.int .i64 ((s.tk + 1 : Nat) : Int)) iv (i64 s.lost) :: (Mq ++ (M1 ++ (M2 ++ H)))) K2 := by
        intro K2 hk
        refine c24 (x := mailW f (s.tk + 1)) (hc (i64 s.most) (i64 s.room) fi (.int .i64 ((s.tk + 1 : Nat) : Int)) iv (i64 s.lost) (M1 ++ (M2 ++ H))) hw.heap (by omega) (fun q' F' k1 k2 k3 => ?_)
        have hd := DrO.mk (s := { s with tk := s.tk + 1, q := q' }) g1 g2 k1
        obtain ⟨a', c', M', _, rfl, _⟩ := k1.chg
        exact hk q' a' c' _ hd k2 k3
      clear h0 h1 h2 hc g3
      repeat' ((conv => whnf); (first | refine h12 _ _ ?_ | refine Branch.f rfl ?_ | refine Branch.df (by omega) ?_ | with_reducible refine Val.to ((s.tk + 1 : Nat) : Int) (by rw [wrap_i64 (by omega) (by omega)]; omega) ?_ | refine c25 ?_ | refine SCalls.under [_] (h24 _ (fun q' a' c' M' k1 k2 k3 => ?_)) | exact Keep.d1 (hk2 _ _ k1 k2 k3) | refine New.mk (fun _ => ?_) | refine Look.at0 ?_ | refine Cell.row ?_ | refine Cell.buf ?_ | refine Cells.row rfl ?_ | refine Put.row rfl ?_ | refine Put.buf rfl ?_ | refine Look.at1 ?_ | refine Look.at2 ?_ | refine Look.at3 ?_ | refine Look.at4 ?_ | refine Look.at5 ?_ | refine Look.at6 ?_ | refine Look.at7 ?_ | refine Look.at8 ?_ | with_reducible refine Val.i64 (by omega) (by omega) ?_ | with_reducible refine Val.u8 (by omega) (by omega) ?_ | with_reducible refine Val.u32 (by omega) (by omega) ?_ | with_reducible refine Val.u64 (by omega) (by omega) ?_ | with_reducible refine Val.u8m ?_ | with_reducible refine Val.u32m ?_ | with_reducible refine Val.u64m ?_ | with_reducible refine Val.shr8 ?_ | with_reducible refine Val.shr16 (by decide) ?_ | with_reducible refine Val.shr24 (by decide) ?_ | with_reducible refine Val.raw ?_ | refine Branch.not ?_ | refine Branch.and ?_ | refine Branch.or ?_ | refine Branch.dt (by assumption) ?_ | refine Branch.df (by assumption) ?_ | refine Branch.dt rfl ?_ | refine Branch.dt (by omega) ?_ | refine Branch.df (by omega) ?_ | refine Branch.t rfl ?_ | refine Branch.f rfl ?_ | refine Branch.t (by assumption) ?_ | refine Branch.f (by assumption) ?_ | refine Branch.d (fun _ => ?_) (fun _ => ?_) | refine Branch.mk (fun _ => ?_) (fun _ => ?_) | refine Need.mk (by first | omega | decide | rfl) ?_ | refine Idx.nat (by omega) ?_ | refine Idx.auto (by first | omega | decide) (by first | omega | decide) ?_ | refine Cell.ro rfl ?_ | refine SDraw.all (by kernel_rfl) ?_ | refine Kept.k0 ?_ | refine Kept.k1 ?_ | refine Kept.k2 ?_ | refine Kept.k3 ?_ | refine Kept.k4 ?_))
    · have hk := h1 hg (by omega)
      clear h0 h2
      repeat' ((conv => whnf); (first | refine h12 _ _ ?_ | refine Branch.f rfl ?_ | refine Branch.dt (by omega) ?_ | exact Keep.d1 hk | refine New.mk (fun _ => ?_) | refine Look.at0 ?_ | refine Cell.row ?_ | refine Cell.buf ?_ | refine Cells.row rfl ?_ | refine Put.row rfl ?_ | refine Put.buf rfl ?_ | refine Look.at1 ?_ | refine Look.at2 ?_ | refine Look.at3 ?_ | refine Look.at4 ?_ | refine Look.at5 ?_ | refine Look.at6 ?_ | refine Look.at7 ?_ | refine Look.at8 ?_ | with_reducible refine Val.i64 (by omega) (by omega) ?_ | with_reducible refine Val.u8 (by omega) (by omega) ?_ | with_reducible refine Val.u32 (by omega) (by omega) ?_ | with_reducible refine Val.u64 (by omega) (by omega) ?_ | with_reducible refine Val.u8m ?_ | with_reducible refine Val.u32m ?_ | with_reducible refine Val.u64m ?_ | with_reducible refine Val.shr8 ?_ | with_reducible refine Val.shr16 (by decide) ?_ | with_reducible refine Val.shr24 (by decide) ?_ | with_reducible refine Val.raw ?_ | refine Branch.not ?_ | refine Branch.and ?_ | refine Branch.or ?_ | refine Branch.dt (by assumption) ?_ | refine Branch.df (by assumption) ?_ | refine Branch.dt rfl ?_ | refine Branch.dt (by omega) ?_ | refine Branch.df (by omega) ?_ | refine Branch.t rfl ?_ | refine Branch.f rfl ?_ | refine Branch.t (by assumption) ?_ | refine Branch.f (by assumption) ?_ | refine Branch.d (fun _ => ?_) (fun _ => ?_) | refine Branch.mk (fun _ => ?_) (fun _ => ?_) | refine Need.mk (by first | omega | decide | rfl) ?_ | refine Idx.nat (by omega) ?_ | refine Idx.auto (by first | omega | decide) (by first | omega | decide) ?_ | refine Cell.ro rfl ?_ | refine SDraw.all (by kernel_rfl) ?_ | refine Kept.k0 ?_ | refine Kept.k1 ?_ | refine Kept.k2 ?_ | refine Kept.k3 ?_ | refine Kept.k4 ?_))
theorem c14 (hw : DrW s) (h : DrO p s H F) (h0 : s.q = [] → K (.bool false) F) (h1 : ∀ y q' F', DrO p { s with q := q' } H F' → s.q.Perm (y :: q') → (∀ x ∈ s.q, wlt x y = false) → Hp.HeapN wlt q' q'.length → K (.bool true) F') : SCalls Tryd.prog 14 [ptr p] F K := by
  obtain ⟨g1, g2, g3⟩ := h
  rename_i fi iv M1 M2
  have hq := hw.q
  have hm := hw.most
  have h29 : ∀ n, s.q.length = n + 1 → ∀ K2 : Value → Heap → Prop, (∀ y q' F', DrO p { s with q := q' } H F' → s.q.Perm (y :: q') → (∀ x ∈ s.q, wlt x y = false) → Hp.HeapN wlt q' q'.length → K2 (.iface 70 (.agg ⟨wC y⟩)) F') → SCalls Tryd.prog 29 [qP p] F K2 :=
    fun n hn K2 hk => c29 (y := ⟨zF, [], 0⟩) g3 hw.heap (by omega) hn (fun y q' F' k1 k2 k3 k4 => hk y q' F' (DrO.mk (s := { s with q := q' }) g1 g2 k1) k2 k3 k4)
  obtain ⟨a, c, Mq, _, rfl, hc, _⟩ := g3.chg
  refine enter14 ?_
  rcases Nat.eq_zero_or_pos s.q.length with hn | hn
  · have hk := h0 (List.length_eq_zero_iff.1 hn)
    have e : decide ((s.q.length : Int) = 0) = true := decide_eq_true (by omega)
    clear h1 h29
    repeat' ((conv => whnf); (first | refine Branch.t e ?_ | exact Keep.all hk | refine New.mk (fun _ => ?_) | refine Look.at0 ?_ | refine Cell.row ?_ | refine Cell.buf ?_ | refine Cells.row rfl ?_ | refine Put.row rfl ?_ | refine Put.buf rfl ?_ | refine Look.at1 ?_ | refine Look.at2 ?_ | refine Look.at3 ?_ | refine Look.at4 ?_ | refine Look.at5 ?_ | refine Look.at6 ?_ | refine Look.at7 ?_ | refine Look.at8 ?_ | with_reducible refine Val.i64 (by omega) (by omega) ?_ | with_reducible refine Val.u8 (by omega) (by omega) ?_ | with_reducible refine Val.u32 (by omega) (by omega) ?_ | with_reducible refine Val.u64 (by omega) (by omega) ?_ | with_reducible refine Val.u8m ?_ | with_reducible refine Val.u32m ?_ | with_reducible refine Val.u64m ?_ | with_reducible refine Val.shr8 ?_ | with_reducible refine Val.shr16 (by decide) ?_ | with_reducible refine Val.shr24 (by decide) ?_ | with_reducible refine Val.raw ?_ | refine Branch.not ?_ | refine Branch.and ?_ | refine Branch.or ?_ | refine Branch.dt (by assumption) ?_ | refine Branch.df (by assumption) ?_ | refine Branch.dt rfl ?_ | refine Branch.dt (by omega) ?_ | refine Branch.df (by omega) ?_ | refine Branch.t rfl ?_ | refine Branch.f rfl ?_ | refine Branch.t (by assumption) ?_ | refine Branch.f (by assumption) ?_ | refine Branch.d (fun _ => ?_) (fun _ => ?_) | refine Branch.mk (fun _ => ?_) (fun _ => ?_) | refine Need.mk (by first | omega | decide | rfl) ?_ | refine Idx.nat (by omega) ?_ | refine Idx.auto (by first | omega | decide) (by first | omega | decide) ?_ | refine Cell.ro rfl ?_ | refine SDraw.all (by kernel_rfl) ?_ | refine Kept.k0 ?_ | refine Kept.k1 ?_ | refine Kept.k2 ?_ | refine Kept.k3 ?_ | refine Kept.k4 ?_))
  · have e : decide ((s.q.length : Int) = 0) = false := decide_eq_false (by omega)
    have h29 := h29 (s.q.length - 1) (by omega)
    clear h0
    repeat' ((conv => whnf); (first | refine Branch.f e ?_ | refine h29 _ (fun y q' F' k1 k2 k3 k4 => ?_) | exact Keep.all (h1 _ _ _ k1 k2 k3 k4) | refine New.mk (fun _ => ?_) | refine Look.at0 ?_ | refine Cell.row ?_ | refine Cell.buf ?_ | refine Cells.row rfl ?_ | refine Put.row rfl ?_ | refine Put.buf rfl ?_ | refine Look.at1 ?_ | refine Look.at2 ?_ | refine Look.at3 ?_ | refine Look.at4 ?_ | refine Look.at5 ?_ | refine Look.at6 ?_ | refine Look.at7 ?_ | refine Look.at8 ?_ | with_reducible refine Val.i64 (by omega) (by omega) ?_ | with_reducible refine Val.u8 (by omega) (by omega) ?_ | with_reducible refine Val.u32 (by omega) (by omega) ?_ | with_reducible refine Val.u64 (by omega) (by omega) ?_ | with_reducible refine Val.u8m ?_ | with_reducible refine Val.u32m ?_ | with_reducible refine Val.u64m ?_ | with_reducible refine Val.shr8 ?_ | with_reducible refine Val.shr16 (by decide) ?_ | with_reducible refine Val.shr24 (by decide) ?_ | with_reducible refine Val.raw ?_ | refine Branch.not ?_ | refine Branch.and ?_ | refine Branch.or ?_ | refine Branch.dt (by assumption) ?_ | refine Branch.df (by assumption) ?_ | refine Branch.dt rfl ?_ | refine Branch.dt (by omega) ?_ | refine Branch.df (by omega) ?_ | refine Branch.t rfl ?_ | refine Branch.f rfl ?_ | refine Branch.t (by assumption) ?_ | refine Branch.f (by assumption) ?_ | refine Branch.d (fun _ => ?_) (fun _ => ?_) | refine Branch.mk (fun _ => ?_) (fun _ => ?_) | refine Need.mk (by first | omega | decide | rfl) ?_ | refine Idx.nat (by omega) ?_ | refine Idx.auto (by first | omega | decide) (by first | omega | decide) ?_ | refine Cell.ro rfl ?_ | refine SDraw.all (by kernel_rfl) ?_ | refine Kept.k0 ?_ | refine Kept.k1 ?_ | refine Kept.k2 ?_ | refine Kept.k3 ?_ | refine Kept.k4 ?_))
theorem c47 {x : Wn} {b : Nat} {t : Int} (hb : (b, .row 3 [.int .i64 t] (0, 0)) ∈ H) (hK : K (.bool (decide ((x.ask : Int) = t))) H) : SCalls Tryd.prog 47 [.agg ⟨wC x⟩, ptr b] H K := by
  obtain ⟨⟨id, xx, rm, n, d0, d1, d2, d3, d4, d5, d6, d7⟩, fl, ask⟩ := x
  dsimp only [wC]
  have hc0 : (Blk.row 3 [.int .i64 t] (0, 0)).cell 0 = some (.int .i64 t) := rfl
  refine enter47 ?_
  repeat' ((conv => whnf); (first | refine Look.cell (.tail _ hb) hc0 ?_ | exact Keep.d1 hK | refine New.mk (fun _ => ?_) | refine Look.at0 ?_ | refine Cell.row ?_ | refine Cell.buf ?_ | refine Cells.row rfl ?_ | refine Put.row rfl ?_ | refine Put.buf rfl ?_ | refine Look.at1 ?_ | refine Look.at2 ?_ | refine Look.at3 ?_ | refine Look.at4 ?_ | refine Look.at5 ?_ | refine Look.at6 ?_ | refine Look.at7 ?_ | refine Look.at8 ?_ | with_reducible refine Val.i64 (by omega) (by omega) ?_ | with_reducible refine Val.u8 (by omega) (by omega) ?_ | with_reducible refine Val.u32 (by omega) (by omega) ?_ | with_reducible refine Val.u64 (by omega) (by omega) ?_ | with_reducible refine Val.u8m ?_ | with_reducible refine Val.u32m ?_ | with_reducible refine Val.u64m ?_ | with_reducible refine Val.shr8 ?_ | with_reducible refine Val.shr16 (by decide) ?_ | with_reducible refine Val.shr24 (by decide) ?_ | with_reducible refine Val.raw ?_ | refine Branch.not ?_ | refine Branch.and ?_ | refine Branch.or ?_ | refine Branch.dt (by assumption) ?_ | refine Branch.df (by assumption) ?_ | refine Branch.dt rfl ?_ | refine Branch.dt (by omega) ?_ | refine Branch.df (by omega) ?_ | refine Branch.t rfl ?_ | refine Branch.f rfl ?_ | refine Branch.t (by assumption) ?_ | refine Branch.f (by assumption) ?_ | refine Branch.d (fun _ => ?_) (fun _ => ?_) | refine Branch.mk (fun _ => ?_) (fun _ => ?_) | refine Need.mk (by first | omega | decide | rfl) ?_ | refine Idx.nat (by omega) ?_ | refine Idx.auto (by first | omega | decide) (by first | omega | decide) ?_ | refine Cell.ro rfl ?_ | refine SDraw.all (by kernel_rfl) ?_ | refine Kept.k0 ?_ | refine Kept.k1 ?_ | refine Kept.k2 ?_ | refine Kept.k3 ?_ | refine Kept.k4 ?_))
theorem c34 {t : Int} (hw : DrW s) (h : DrO p s H F) (h0 : (∀ x ∈ s.q, (x.ask : Int) ≠ t) → K (.bool false) F) (h1 : ∀ y q' F', (y.ask : Int) = t → DrO p { s with q := q' } H F' → s.q.Perm (y :: q') → Hp.HeapN wlt q' q'.length → K (.bool true) F') : SCalls Tryd.prog 34 [ptr p, .int .i64 t] F K := by
  obtain ⟨g1, g2, g3⟩ := h
  rename_i fi iv M1 M2
  have hq := hw.q
  have hm := hw.most
  have h48 : ∀ (j : Nat) (y : Wn), s.q[j]? = some y → ∀ K2 : Value → Heap → Prop, (∀ q' F', DrO p { s with q := q' } H F' → s.q.Perm (y :: q') → Hp.HeapN wlt q' q'.length → K2 (.iface 70 (.agg ⟨wC y⟩)) F') → SCalls Tryd.prog 48 [qP p, .int .i64 (j : Int)] F K2 :=
    fun j y hj K2 hk => c48 (n := s.q.length - 1) g3 hw.heap (by omega) (by have := Hp.at_lt hj; omega) hj (fun q' F' k1 k2 k3 => hk q' F' (DrO.mk (s := { s with q := q' }) g1 g2 k1) k2 k3)
  obtain ⟨a, c, Mq, _, rfl, hc, hin⟩ := g3.chg
  have h46 : ∀ (b : Nat) (K2 : Value → Heap → Prop), ((∀ x ∈ s.q, decide ((x.ask : Int) = t) = false) → K2 (.int .i64 (-1)) ((b, .row 3 [.int .i64 t] (0, 0)) :: pRow p (i64 s.most) (i64 s.room) fi (.slice a s.q.length c) (i64 s.tk) iv (i64 s.lost) :: (Mq ++ (M1 ++ (M2 ++ H))))) →
      (∀ (j : Nat) (y : Wn), s.q[j]? = some y → decide ((y.ask : Int) = t) = true → K2 (.int .i64 (j : Int)) ((b, .row 3 [.int .i64 t] (0, 0)) :: pRow p (i64 s.most) (i64 s.room) fi (.slice a s.q.length c) (i64 s.tk) iv (i64 s.lost) :: (Mq ++ (M1 ++ (M2 ++ H))))) →
      SCalls Tryd.prog 46 [.slice a s.q.length c, .func (.func 47) ⟨[]⟩ ⟨[ptr b]⟩] ((b, .row 3 [.int .i64 t] (0, 0)) :: pRow p (i64 s.most) (i64 s.room) fi (.slice a s.q.length c) (i64 s.tk) iv (i64 s.lost) :: (Mq ++ (M1 ++ (M2 ++ H)))) K2 :=
    fun b K2 k0 k1 => c46 (fid := 47) (cs := [ptr b]) (fun x => decide ((x.ask : Int) = t)) (hin.mono fun z hz => .tail _ hz) (fun j x hx K hk => c47 (.head _) hk) k0 (fun j y hj hp _ => k1 j y hj hp)
  refine enter34 ?_
  repeat' ((conv => whnf); (first | refine h46 _ _ (fun hno => ?_) (fun j y hj hp => ?_) | refine New.mk (fun _ => ?_) | refine Look.at0 ?_ | refine Cell.row ?_ | refine Cell.buf ?_ | refine Cells.row rfl ?_ | refine Put.row rfl ?_ | refine Put.buf rfl ?_ | refine Look.at1 ?_ | refine Look.at2 ?_ | refine Look.at3 ?_ | refine Look.at4 ?_ | refine Look.at5 ?_ | refine Look.at6 ?_ | refine Look.at7 ?_ | refine Look.at8 ?_ | with_reducible refine Val.i64 (by omega) (by omega) ?_ | with_reducible refine Val.u8 (by omega) (by omega) ?_ | with_reducible refine Val.u32 (by omega) (by omega) ?_ | with_reducible refine Val.u64 (by omega) (by omega) ?_ | with_reducible refine Val.u8m ?_ | with_reducible refine Val.u32m ?_ | with_reducible refine Val.u64m ?_ | with_reducible refine Val.shr8 ?_ | with_reducible refine Val.shr16 (by decide) ?_ | with_reducible refine Val.shr24 (by decide) ?_ | with_reducible refine Val.raw ?_ | refine Branch.not ?_ | refine Branch.and ?_ | refine Branch.or ?_ | refine Branch.dt (by assumption) ?_ | refine Branch.df (by assumption) ?_ | refine Branch.dt rfl ?_ | refine Branch.dt (by omega) ?_ | refine Branch.df (by omega) ?_ | refine Branch.t rfl ?_ | refine Branch.f rfl ?_ | refine Branch.t (by assumption) ?_ | refine Branch.f (by assumption) ?_ | refine Branch.d (fun _ => ?_) (fun _ => ?_) | refine Branch.mk (fun _ => ?_) (fun _ => ?_) | refine Need.mk (by first | omega | decide | rfl) ?_ | refine Idx.nat (by omega) ?_ | refine Idx.auto (by first | omega | decide) (by first | omega | decide) ?_ | refine Cell.ro rfl ?_ | refine SDraw.all (by kernel_rfl) ?_ | refine Kept.k0 ?_ | refine Kept.k1 ?_ | refine Kept.k2 ?_ | refine Kept.k3 ?_ | refine Kept.k4 ?_))
  · have hk := h0 fun x hx he => by
      have := hno x hx
      rw [decide_eq_true he] at this
      cases this
    clear h1 h48
    repeat' ((conv => whnf); (first | refine Branch.dt (by decide) ?_ | exact Keep.d1 hk | refine New.mk (fun _ => ?_) | refine Look.at0 ?_ | refine Cell.row ?_ | refine Cell.buf ?_ | refine Cells.row rfl ?_ | refine Put.row rfl ?_ | refine Put.buf rfl ?_ | refine Look.at1 ?_ | refine Look.at2 ?_ | refine Look.at3 ?_ | refine Look.at4 ?_ | refine Look.at5 ?_ | refine Look.at6 ?_ | refine Look.at7 ?_ | refine Look.at8 ?_ | with_reducible refine Val.i64 (by omega) (by omega) ?_ | with_reducible refine Val.u8 (by omega) (by omega) ?_ | with_reducible refine Val.u32 (by omega) (by omega) ?_ | with_reducible refine Val.u64 (by omega) (by omega) ?_ | with_reducible refine Val.u8m ?_ | with_reducible refine Val.u32m ?_ | with_reducible refine Val.u64m ?_ | with_reducible refine Val.shr8 ?_ | with_reducible refine Val.shr16 (by decide) ?_ | with_reducible refine Val.shr24 (by decide) ?_ | with_reducible refine Val.raw ?_ | refine Branch.not ?_ | refine Branch.and ?_ | refine Branch.or ?_ | refine Branch.dt (by assumption) ?_ | refine Branch.df (by assumption) ?_ | refine Branch.dt rfl ?_ | refine Branch.dt (by omega) ?_ | refine Branch.df (by omega) ?_ | refine Branch.t rfl ?_ | refine Branch.f rfl ?_ | refine Branch.t (by assumption) ?_ | refine Branch.f (by assumption) ?_ | refine Branch.d (fun _ => ?_) (fun _ => ?_) | refine Branch.mk (fun _ => ?_) (fun _ => ?_) | refine Need.mk (by first | omega | decide | rfl) ?_ | refine Idx.nat (by omega) ?_ | refine Idx.auto (by first | omega | decide) (by first | omega | decide) ?_ | refine Cell.ro rfl ?_ | refine SDraw.all (by kernel_rfl) ?_ | refine Kept.k0 ?_ | refine Kept.k1 ?_ | refine Kept.k2 ?_ | refine Kept.k3 ?_ | refine Kept.k4 ?_))
  · have h48 := h48 j y hj
    have hk := fun q' F' => h1 y q' F' (of_decide_eq_true hp)
    clear h0 h1
    repeat' ((conv => whnf); (first | refine Branch.df (by omega) ?_ | refine SCalls.under [_] (h48 _ (fun q' F' k1 k2 k3 => ?_)) | exact Keep.d1 (hk _ _ k1 k2 k3) | refine New.mk (fun _ => ?_) | refine Look.at0 ?_ | refine Cell.row ?_ | refine Cell.buf ?_ | refine Cells.row rfl ?_ | refine Put.row rfl ?_ | refine Put.buf rfl ?_ | refine Look.at1 ?_ | refine Look.at2 ?_ | refine Look.at3 ?_ | refine Look.at4 ?_ | refine Look.at5 ?_ | refine Look.at6 ?_ | refine Look.at7 ?_ | refine Look.at8 ?_ | with_reducible refine Val.i64 (by omega) (by omega) ?_ | with_reducible refine Val.u8 (by omega) (by omega) ?_ | with_reducible refine Val.u32 (by omega) (by omega) ?_ | with_reducible refine Val.u64 (by omega) (by omega) ?_ | with_reducible refine Val.u8m ?_ | with_reducible refine Val.u32m ?_ | with_reducible refine Val.u64m ?_ | with_reducible refine Val.shr8 ?_ | with_reducible refine Val.shr16 (by decide) ?_ | with_reducible refine Val.shr24 (by decide) ?_ | with_reducible refine Val.raw ?_ | refine Branch.not ?_ | refine Branch.and ?_ | refine Branch.or ?_ | refine Branch.dt (by assumption) ?_ | refine Branch.df (by assumption) ?_ | refine Branch.dt rfl ?_ | refine Branch.dt (by omega) ?_ | refine Branch.df (by omega) ?_ | refine Branch.t rfl ?_ | refine Branch.f rfl ?_ | refine Branch.t (by assumption) ?_ | refine Branch.f (by assumption) ?_ | refine Branch.d (fun _ => ?_) (fun _ => ?_) | refine Branch.mk (fun _ => ?_) (fun _ => ?_) | refine Need.mk (by first | omega | decide | rfl) ?_ | refine Idx.nat (by omega) ?_ | refine Idx.auto (by first | omega | decide) (by first | omega | decide) ?_ | refine Cell.ro rfl ?_ | refine SDraw.all (by kernel_rfl) ?_ | refine Kept.k0 ?_ | refine Kept.k1 ?_ | refine Kept.k2 ?_ | refine Kept.k3 ?_ | refine Kept.k4 ?_))
theorem c30 {ad : Addr} {c : Nat} {L : List Fm} (hin : InS frC 12 (.slice (some ad) L.length c) H L) (hl : L.length ≤ 1000) (hK : ∀ q c, L.length ≤ c → c ≤ maxLen → K (.slice (some ⟨q, 0, none⟩) L.length c) ((q, .buf 26 (L.flatMap frC) (c * 12)) :: H)) :
    SCalls Tryd.prog 30 [.slice (some ad) L.length c] H K := by
  refine enter30 ?_
  repeat' ((conv => whnf); (first | refine Branch.f rfl ?_ | refine RawV.copyS (bytes := 24) hin rfl (by kernel_rfl) (by decide) frC_len frC_one (by omega) (fun q c k1 k2 => ?_) | exact Keep.all (hK _ _ k1 k2) | refine New.mk (fun _ => ?_) | refine Look.at0 ?_ | refine Cell.row ?_ | refine Cell.buf ?_ | refine Cells.row rfl ?_ | refine Put.row rfl ?_ | refine Put.buf rfl ?_ | refine Look.at1 ?_ | refine Look.at2 ?_ | refine Look.at3 ?_ | refine Look.at4 ?_ | refine Look.at5 ?_ | refine Look.at6 ?_ | refine Look.at7 ?_ | refine Look.at8 ?_ | with_reducible refine Val.i64 (by omega) (by omega) ?_ | with_reducible refine Val.u8 (by omega) (by omega) ?_ | with_reducible refine Val.u32 (by omega) (by omega) ?_ | with_reducible refine Val.u64 (by omega) (by omega) ?_ | with_reducible refine Val.u8m ?_ | with_reducible refine Val.u32m ?_ | with_reducible refine Val.u64m ?_ | with_reducible refine Val.shr8 ?_ | with_reducible refine Val.shr16 (by decide) ?_ | with_reducible refine Val.shr24 (by decide) ?_ | with_reducible refine Val.raw ?_ | refine Branch.not ?_ | refine Branch.and ?_ | refine Branch.or ?_ | refine Branch.dt (by assumption) ?_ | refine Branch.df (by assumption) ?_ | refine Branch.dt rfl ?_ | refine Branch.dt (by omega) ?_ | refine Branch.df (by omega) ?_ | refine Branch.t rfl ?_ | refine Branch.f rfl ?_ | refine Branch.t (by assumption) ?_ | refine Branch.f (by assumption) ?_ | refine Branch.d (fun _ => ?_) (fun _ => ?_) | refine Branch.mk (fun _ => ?_) (fun _ => ?_) | refine Need.mk (by first | omega | decide | rfl) ?_ | refine Idx.nat (by omega) ?_ | refine Idx.auto (by first | omega | decide) (by first | omega | decide) ?_ | refine Cell.ro rfl ?_ | refine SDraw.all (by kernel_rfl) ?_ | refine Kept.k0 ?_ | refine Kept.k1 ?_ | refine Kept.k2 ?_ | refine Kept.k3 ?_ | refine Kept.k4 ?_))
theorem c21 {ad : Addr} {c : Nat} {L : List Fl} (hin : InS fC 3 (.slice (some ad) L.length c) H L) (hl : L.length ≤ 1000) (hK : ∀ q c, L.length ≤ c → c ≤ maxLen → K (.slice (some ⟨q, 0, none⟩) L.length c) ((q, .buf 33 (L.flatMap fC) (c * 3)) :: H)) :
    SCalls Tryd.prog 21 [.slice (some ad) L.length c] H K := by
  refine enter21 ?_
  repeat' ((conv => whnf); (first | refine Branch.f rfl ?_ | refine RawV.copyS (bytes := 12) hin rfl (by kernel_rfl) (by decide) fC_len fC_one (by omega) (fun q c k1 k2 => ?_) | exact Keep.all (hK _ _ k1 k2) | refine New.mk (fun _ => ?_) | refine Look.at0 ?_ | refine Cell.row ?_ | refine Cell.buf ?_ | refine Cells.row rfl ?_ | refine Put.row rfl ?_ | refine Put.buf rfl ?_ | refine Look.at1 ?_ | refine Look.at2 ?_ | refine Look.at3 ?_ | refine Look.at4 ?_ | refine Look.at5 ?_ | refine Look.at6 ?_ | refine Look.at7 ?_ | refine Look.at8 ?_ | with_reducible refine Val.i64 (by omega) (by omega) ?_ | with_reducible refine Val.u8 (by omega) (by omega) ?_ | with_reducible refine Val.u32 (by omega) (by omega) ?_ | with_reducible refine Val.u64 (by omega) (by omega) ?_ | with_reducible refine Val.u8m ?_ | with_reducible refine Val.u32m ?_ | with_reducible refine Val.u64m ?_ | with_reducible refine Val.shr8 ?_ | with_reducible refine Val.shr16 (by decide) ?_ | with_reducible refine Val.shr24 (by decide) ?_ | with_reducible refine Val.raw ?_ | refine Branch.not ?_ | refine Branch.and ?_ | refine Branch.or ?_ | refine Branch.dt (by assumption) ?_ | refine Branch.df (by assumption) ?_ | refine Branch.dt rfl ?_ | refine Branch.dt (by omega) ?_ | refine Branch.df (by omega) ?_ | refine Branch.t rfl ?_ | refine Branch.f rfl ?_ | refine Branch.t (by assumption) ?_ | refine Branch.f (by assumption) ?_ | refine Branch.d (fun _ => ?_) (fun _ => ?_) | refine Branch.mk (fun _ => ?_) (fun _ => ?_) | refine Need.mk (by first | omega | decide | rfl) ?_ | refine Idx.nat (by omega) ?_ | refine Idx.auto (by first | omega | decide) (by first | omega | decide) ?_ | refine Cell.ro rfl ?_ | refine SDraw.all (by kernel_rfl) ?_ | refine Kept.k0 ?_ | refine Kept.k1 ?_ | refine Kept.k2 ?_ | refine Kept.k3 ?_ | refine Kept.k4 ?_))
theorem c21n (hK : K (.slice none 0 0) H) : SCalls Tryd.prog 21 [.slice none 0 0] H K := by
  refine enter21 ?_
  repeat' ((conv => whnf); (first | refine Branch.t rfl ?_ | exact Keep.all hK | refine New.mk (fun _ => ?_) | refine Look.at0 ?_ | refine Cell.row ?_ | refine Cell.buf ?_ | refine Cells.row rfl ?_ | refine Put.row rfl ?_ | refine Put.buf rfl ?_ | refine Look.at1 ?_ | refine Look.at2 ?_ | refine Look.at3 ?_ | refine Look.at4 ?_ | refine Look.at5 ?_ | refine Look.at6 ?_ | refine Look.at7 ?_ | refine Look.at8 ?_ | with_reducible refine Val.i64 (by omega) (by omega) ?_ | with_reducible refine Val.u8 (by omega) (by omega) ?_ | with_reducible refine Val.u32 (by omega) (by omega) ?_ | with_reducible refine Val.u64 (by omega) (by omega) ?_ | with_reducible refine Val.u8m ?_ | with_reducible refine Val.u32m ?_ | with_reducible refine Val.u64m ?_ | with_reducible refine Val.shr8 ?_ | with_reducible refine Val.shr16 (by decide) ?_ | with_reducible refine Val.shr24 (by decide) ?_ | with_reducible refine Val.raw ?_ | refine Branch.not ?_ | refine Branch.and ?_ | refine Branch.or ?_ | refine Branch.dt (by assumption) ?_ | refine Branch.df (by assumption) ?_ | refine Branch.dt rfl ?_ | refine Branch.dt (by omega) ?_ | refine Branch.df (by omega) ?_ | refine Branch.t rfl ?_ | refine Branch.f rfl ?_ | refine Branch.t (by assumption) ?_ | refine Branch.f (by assumption) ?_ | refine Branch.d (fun _ => ?_) (fun _ => ?_) | refine Branch.mk (fun _ => ?_) (fun _ => ?_) | refine Need.mk (by first | omega | decide | rfl) ?_ | refine Idx.nat (by omega) ?_ | refine Idx.auto (by first | omega | decide) (by first | omega | decide) ?_ | refine Cell.ro rfl ?_ | refine SDraw.all (by kernel_rfl) ?_ | refine Kept.k0 ?_ | refine Kept.k1 ?_ | refine Kept.k2 ?_ | refine Kept.k3 ?_ | refine Kept.k4 ?_))
/-- What a new driver is. -/
def dr0 (mo ro : Int) (L : List Fl) : Dr := ⟨mo.toNat, ro.toNat, L, 0, 0, [], []⟩
def okN (mo ro : Int) : Prop := 1 ≤ mo ∧ 1 ≤ ro ∧ mo ≤ 64 ∧ ro ≤ 64
theorem dr0_ok {mo ro : Int} {L : List Fl} (h : okN mo ro) (hL : L.length ≤ 32) (hw : ∀ l ∈ L, l.wf) : DrW (dr0 mo ro L) := by
  obtain ⟨h1, h2, h3, h4⟩ := h
  exact ⟨by show mo.toNat ≤ 64; omega, by show ro.toNat ≤ 64; omega, hL, hw, Nat.zero_le _, Nat.zero_le _, Nat.zero_le _, Nat.zero_le _, fun k x y k0 k1 => absurd k1 (Nat.not_lt_zero _)⟩
theorem c8 {mo ro : Int} {sv : Value} {L : List Fl} (hin : InS fC 3 sv H L) (hsv : (sv = .slice none 0 0 ∧ L = []) ∨ ∃ ad c, sv = .slice (some ad) L.length c) (h0 : ¬ okN mo ro → K (.tuple ⟨[.pointer none, .int .i64 1]⟩) H) (h1 : okN mo ro → 32 < L.length → K (.tuple ⟨[.pointer none, .int .i64 2]⟩) H)
    (h2 : okN mo ro → L.length ≤ 32 → ∀ p F, DrO p (dr0 mo ro L) H F → K (.tuple ⟨[ptr p, .int .i64 0]⟩) F) : SCalls Tryd.prog 8 [.int .i64 mo, .int .i64 ro, sv] H K := by
  obtain ⟨mn, e1, e2⟩ : ∃ m : Int, (if ro < mo then ro else mo) = m ∧ (m < 1 ↔ mo < 1 ∨ ro < 1) := ⟨_, rfl, by split <;> omega⟩
  obtain ⟨mx, e3, e4⟩ : ∃ m : Int, (if mo < ro then ro else mo) = m ∧ (64 < m ↔ 64 < mo ∨ 64 < ro) := ⟨_, rfl, by split <;> omega⟩
  have hz : sv = .slice none 0 0 → sv = .slice none L.length 0 → True := fun _ _ => trivial
  by_cases hok : okN mo ro
  · have hok' := hok
    obtain ⟨k1, k2, k3, k4⟩ := hok'
    have c1 : ¬ mn < 1 := by omega
    have c2 : ¬ 64 < mx := by omega
    by_cases hL : L.length ≤ 32
    · have h2 := h2 hok hL
      have hm : ∀ v, v = mo → i64 (dr0 mo ro L).most = .int .i64 v := fun v e => by subst e; show Value.int .i64 ((v.toNat : Nat) : Int) = _; rw [Int.toNat_of_nonneg (by omega)]
      have hr : ∀ v, v = ro → i64 (dr0 mo ro L).room = .int .i64 v := fun v e => by subst e; show Value.int .i64 ((v.toNat : Nat) : Int) = _; rw [Int.toNat_of_nonneg (by omega)]
      have hmk : ∀ p fi M1, Grow fC 3 33 fi L M1 → DrO p (dr0 mo ro L) H (pRow p (.int .i64 mo) (.int .i64 ro) fi (.slice none 0 0) (.int .i64 0) (.slice none 0 0) (.int .i64 0) :: (M1 ++ H)) := by
        intro p fi M1 hg
        have := DrO.mk (p := p) (s := dr0 mo ro L) (H := H) hg .nil PQ.nil
        rw [hm mo rfl, hr ro rfl] at this
        exact this
      clear h0 h1
      rcases hsv with ⟨rfl, rfl⟩ | ⟨ad, c, rfl⟩
      · refine enter8 ?_
        repeat' ((conv => whnf); (first | refine RawV.min2 rfl e1 ?_ | refine RawV.max2 rfl e3 ?_ | refine Branch.df c1 ?_ | refine Branch.df c2 ?_ | refine Branch.df (by decide) ?_ | refine c21n ?_ | exact Keep.all (h2 _ _ (hmk _ _ _ .nil)) | refine New.mk (fun _ => ?_) | refine Look.at0 ?_ | refine Cell.row ?_ | refine Cell.buf ?_ | refine Cells.row rfl ?_ | refine Put.row rfl ?_ | refine Put.buf rfl ?_ | refine Look.at1 ?_ | refine Look.at2 ?_ | refine Look.at3 ?_ | refine Look.at4 ?_ | refine Look.at5 ?_ | refine Look.at6 ?_ | refine Look.at7 ?_ | refine Look.at8 ?_ | with_reducible refine Val.i64 (by omega) (by omega) ?_ | with_reducible refine Val.u8 (by omega) (by omega) ?_ | with_reducible refine Val.u32 (by omega) (by omega) ?_ | with_reducible refine Val.u64 (by omega) (by omega) ?_ | with_reducible refine Val.u8m ?_ | with_reducible refine Val.u32m ?_ | with_reducible refine Val.u64m ?_ | with_reducible refine Val.shr8 ?_ | with_reducible refine Val.shr16 (by decide) ?_ | with_reducible refine Val.shr24 (by decide) ?_ | with_reducible refine Val.raw ?_ | refine Branch.not ?_ | refine Branch.and ?_ | refine Branch.or ?_ | refine Branch.dt (by assumption) ?_ | refine Branch.df (by assumption) ?_ | refine Branch.dt rfl ?_ | refine Branch.dt (by omega) ?_ | refine Branch.df (by omega) ?_ | refine Branch.t rfl ?_ | refine Branch.f rfl ?_ | refine Branch.t (by assumption) ?_ | refine Branch.f (by assumption) ?_ | refine Branch.d (fun _ => ?_) (fun _ => ?_) | refine Branch.mk (fun _ => ?_) (fun _ => ?_) | refine Need.mk (by first | omega | decide | rfl) ?_ | refine Idx.nat (by omega) ?_ | refine Idx.auto (by first | omega | decide) (by first | omega | decide) ?_ | refine Cell.ro rfl ?_ | refine SDraw.all (by kernel_rfl) ?_ | refine Kept.k0 ?_ | refine Kept.k1 ?_ | refine Kept.k2 ?_ | refine Kept.k3 ?_ | refine Kept.k4 ?_))
      · have hL' : ¬ (32 : Int) < (L.length : Int) := by omega
        have h21 := fun (K : Value → Heap → Prop) hk => c21 (K := K) hin (by omega) hk
        refine enter8 ?_
        repeat' ((conv => whnf); (first | refine RawV.min2 rfl e1 ?_ | refine RawV.max2 rfl e3 ?_ | refine Branch.df c1 ?_ | refine Branch.df c2 ?_ | refine Branch.df hL' ?_ | refine h21 _ (fun q c g1 g2 => ?_) | exact Keep.all (h2 _ _ (hmk _ _ _ (.buf g1 g2))) | refine New.mk (fun _ => ?_) | refine Look.at0 ?_ | refine Cell.row ?_ | refine Cell.buf ?_ | refine Cells.row rfl ?_ | refine Put.row rfl ?_ | refine Put.buf rfl ?_ | refine Look.at1 ?_ | refine Look.at2 ?_ | refine Look.at3 ?_ | refine Look.at4 ?_ | refine Look.at5 ?_ | refine Look.at6 ?_ | refine Look.at7 ?_ | refine Look.at8 ?_ | with_reducible refine Val.i64 (by omega) (by omega) ?_ | with_reducible refine Val.u8 (by omega) (by omega) ?_ | with_reducible refine Val.u32 (by omega) (by omega) ?_ | with_reducible refine Val.u64 (by omega) (by omega) ?_ | with_reducible refine Val.u8m ?_ | with_reducible refine Val.u32m ?_ | with_reducible refine Val.u64m ?_ | with_reducible refine Val.shr8 ?_ | with_reducible refine Val.shr16 (by decide) ?_ | with_reducible refine Val.shr24 (by decide) ?_ | with_reducible refine Val.raw ?_ | refine Branch.not ?_ | refine Branch.and ?_ | refine Branch.or ?_ | refine Branch.dt (by assumption) ?_ | refine Branch.df (by assumption) ?_ | refine Branch.dt rfl ?_ | refine Branch.dt (by omega) ?_ | refine Branch.df (by omega) ?_ | refine Branch.t rfl ?_ | refine Branch.f rfl ?_ | refine Branch.t (by assumption) ?_ | refine Branch.f (by assumption) ?_ | refine Branch.d (fun _ => ?_) (fun _ => ?_) | refine Branch.mk (fun _ => ?_) (fun _ => ?_) | refine Need.mk (by first | omega | decide | rfl) ?_ | refine Idx.nat (by omega) ?_ | refine Idx.auto (by first | omega | decide) (by first | omega | decide) ?_ | refine Cell.ro rfl ?_ | refine SDraw.all (by kernel_rfl) ?_ | refine Kept.k0 ?_ | refine Kept.k1 ?_ | refine Kept.k2 ?_ | refine Kept.k3 ?_ | refine Kept.k4 ?_))
    · have hk := h1 hok (by omega)
      obtain ⟨sa, sc, rfl, _⟩ := hin.sv
      have hL' : (32 : Int) < (L.length : Int) := by omega
      clear h0 h2 hsv
      refine enter8 ?_
      repeat' ((conv => whnf); (first | refine RawV.min2 rfl e1 ?_ | refine RawV.max2 rfl e3 ?_ | refine Branch.df c1 ?_ | refine Branch.df c2 ?_ | refine Branch.dt hL' ?_ | exact Keep.all hk | refine New.mk (fun _ => ?_) | refine Look.at0 ?_ | refine Cell.row ?_ | refine Cell.buf ?_ | refine Cells.row rfl ?_ | refine Put.row rfl ?_ | refine Put.buf rfl ?_ | refine Look.at1 ?_ | refine Look.at2 ?_ | refine Look.at3 ?_ | refine Look.at4 ?_ | refine Look.at5 ?_ | refine Look.at6 ?_ | refine Look.at7 ?_ | refine Look.at8 ?_ | with_reducible refine Val.i64 (by omega) (by omega) ?_ | with_reducible refine Val.u8 (by omega) (by omega) ?_ | with_reducible refine Val.u32 (by omega) (by omega) ?_ | with_reducible refine Val.u64 (by omega) (by omega) ?_ | with_reducible refine Val.u8m ?_ | with_reducible refine Val.u32m ?_ | with_reducible refine Val.u64m ?_ | with_reducible refine Val.shr8 ?_ | with_reducible refine Val.shr16 (by decide) ?_ | with_reducible refine Val.shr24 (by decide) ?_ | with_reducible refine Val.raw ?_ | refine Branch.not ?_ | refine Branch.and ?_ | refine Branch.or ?_ | refine Branch.dt (by assumption) ?_ | refine Branch.df (by assumption) ?_ | refine Branch.dt rfl ?_ | refine Branch.dt (by omega) ?_ | refine Branch.df (by omega) ?_ | refine Branch.t rfl ?_ | refine Branch.f rfl ?_ | refine Branch.t (by assumption) ?_ | refine Branch.f (by assumption) ?_ | refine Branch.d (fun _ => ?_) (fun _ => ?_) | refine Branch.mk (fun _ => ?_) (fun _ => ?_) | refine Need.mk (by first | omega | decide | rfl) ?_ | refine Idx.nat (by omega) ?_ | refine Idx.auto (by first | omega | decide) (by first | omega | decide) ?_ | refine Cell.ro rfl ?_ | refine SDraw.all (by kernel_rfl) ?_ | refine Kept.k0 ?_ | refine Kept.k1 ?_ | refine Kept.k2 ?_ | refine Kept.k3 ?_ | refine Kept.k4 ?_))
  · have hk := h0 hok
    obtain ⟨sa, sc, rfl, _⟩ := hin.sv
    clear h1 h2 hsv
    unfold okN at hok
    refine enter8 ?_
    by_cases c1 : mn < 1
    · repeat' ((conv => whnf); (first | refine RawV.min2 rfl e1 ?_ | refine RawV.max2 rfl e3 ?_ | refine Branch.dt c1 ?_ | refine Branch.t rfl ?_ | exact Keep.all hk | refine New.mk (fun _ => ?_) | refine Look.at0 ?_ | refine Cell.row ?_ | refine Cell.buf ?_ | refine Cells.row rfl ?_ | refine Put.row rfl ?_ | refine Put.buf rfl ?_ | refine Look.at1 ?_ | refine Look.at2 ?_ | refine Look.at3 ?_ | refine Look.at4 ?_ | refine Look.at5 ?_ | refine Look.at6 ?_ | refine Look.at7 ?_ | refine Look.at8 ?_ | with_reducible refine Val.i64 (by omega) (by omega) ?_ | with_reducible refine Val.u8 (by omega) (by omega) ?_ | with_reducible refine Val.u32 (by omega) (by omega) ?_ | with_reducible refine Val.u64 (by omega) (by omega) ?_ | with_reducible refine Val.u8m ?_ | with_reducible refine Val.u32m ?_ | with_reducible refine Val.u64m ?_ | with_reducible refine Val.shr8 ?_ | with_reducible refine Val.shr16 (by decide) ?_ | with_reducible refine Val.shr24 (by decide) ?_ | with_reducible refine Val.raw ?_ | refine Branch.not ?_ | refine Branch.and ?_ | refine Branch.or ?_ | refine Branch.dt (by assumption) ?_ | refine Branch.df (by assumption) ?_ | refine Branch.dt rfl ?_ | refine Branch.dt (by omega) ?_ | refine Branch.df (by omega) ?_ | refine Branch.t rfl ?_ | refine Branch.f rfl ?_ | refine Branch.t (by assumption) ?_ | refine Branch.f (by assumption) ?_ | refine Branch.d (fun _ => ?_) (fun _ => ?_) | refine Branch.mk (fun _ => ?_) (fun _ => ?_) | refine Need.mk (by first | omega | decide | rfl) ?_ | refine Idx.nat (by omega) ?_ | refine Idx.auto (by first | omega | decide) (by first | omega | decide) ?_ | refine Cell.ro rfl ?_ | refine SDraw.all (by kernel_rfl) ?_ | refine Kept.k0 ?_ | refine Kept.k1 ?_ | refine Kept.k2 ?_ | refine Kept.k3 ?_ | refine Kept.k4 ?_))
    · have c2 : 64 < mx := by omega
      repeat' ((conv => whnf); (first | refine RawV.min2 rfl e1 ?_ | refine RawV.max2 rfl e3 ?_ | refine Branch.df c1 ?_ | refine Branch.dt c2 ?_ | refine Branch.t rfl ?_ | exact Keep.all hk | refine New.mk (fun _ => ?_) | refine Look.at0 ?_ | refine Cell.row ?_ | refine Cell.buf ?_ | refine Cells.row rfl ?_ | refine Put.row rfl ?_ | refine Put.buf rfl ?_ | refine Look.at1 ?_ | refine Look.at2 ?_ | refine Look.at3 ?_ | refine Look.at4 ?_ | refine Look.at5 ?_ | refine Look.at6 ?_ | refine Look.at7 ?_ | refine Look.at8 ?_ | with_reducible refine Val.i64 (by omega) (by omega) ?_ | with_reducible refine Val.u8 (by omega) (by omega) ?_ | with_reducible refine Val.u32 (by omega) (by omega) ?_ | with_reducible refine Val.u64 (by omega) (by omega) ?_ | with_reducible refine Val.u8m ?_ | with_reducible refine Val.u32m ?_ | with_reducible refine Val.u64m ?_ | with_reducible refine Val.shr8 ?_ | with_reducible refine Val.shr16 (by decide) ?_ | with_reducible refine Val.shr24 (by decide) ?_ | with_reducible refine Val.raw ?_ | refine Branch.not ?_ | refine Branch.and ?_ | refine Branch.or ?_ | refine Branch.dt (by assumption) ?_ | refine Branch.df (by assumption) ?_ | refine Branch.dt rfl ?_ | refine Branch.dt (by omega) ?_ | refine Branch.df (by omega) ?_ | refine Branch.t rfl ?_ | refine Branch.f rfl ?_ | refine Branch.t (by assumption) ?_ | refine Branch.f (by assumption) ?_ | refine Branch.d (fun _ => ?_) (fun _ => ?_) | refine Branch.mk (fun _ => ?_) (fun _ => ?_) | refine Need.mk (by first | omega | decide | rfl) ?_ | refine Idx.nat (by omega) ?_ | refine Idx.auto (by first | omega | decide) (by first | omega | decide) ?_ | refine Cell.ro rfl ?_ | refine SDraw.all (by kernel_rfl) ?_ | refine Kept.k0 ?_ | refine Kept.k1 ?_ | refine Kept.k2 ?_ | refine Kept.k3 ?_ | refine Kept.k4 ?_))
end
end Go.Proofs.YthgpikgbhkcnbaaDoor

/- Layer 5: the program's driver: Take and Fetch: by walks. -/
set_option linter.unusedVariables false
set_option linter.unusedSimpArgs false
set_option maxRecDepth 100000
set_option maxHeartbeats 4000000
namespace Go.Proofs.YthgpikgbhkcnbaaDoor
open Sx
/-- What Take answers; what it leaves. -/
def takeE (s : Dr) (f : Fm) : Int := if okF f then if pas s.L f then if s.room ≤ s.I.length then 50 else 0 else 4 else 1
def takeS (s : Dr) (f : Fm) : Dr := if okF f then if pas s.L f then if s.room ≤ s.I.length then { s with lost := s.lost + 1 } else { s with I := s.I ++ [plF f] } else s else s
/-- Of a driver's parts: they make one again. -/
theorem DrO.remake {p : Nat} {s : Dr} {H : Heap} {fi qv tk iv lo : Value} {M1 M2 F : Heap} (h1 : Grow fC 3 33 fi s.L M1) (h2 : Grow frC 12 26 iv s.I M2) (htk : tk = i64 s.tk) (hlo : lo = i64 s.lost) (h3 : PQ p (i64 s.most) (i64 s.room) fi tk iv lo s.q (M1 ++ (M2 ++ H)) F) : DrO p s H F := by
  subst htk hlo
  exact .mk h1 h2 h3
section
variable {K : Value → Heap → Prop} {p : Nat} {s : Dr} {H F : Heap} {f : Fm}
theorem c16 (hw : DrW s) (h : DrO p s H F) (hf : f.id < 4294967296) (hK : ∀ F', DrO p (takeS s f) H F' → K (.int .i64 (takeE s f)) F') : SCalls Tryd.prog 16 [ptr p, frV f] F K := by
  have h23 := fun (K : Value → Heap → Prop) hk => c23 (K := K) hw h hf hk
  have h22 := fun H (K2 : Value → Heap → Prop) (hk : K2 (.int .i64 (erF f)) H) => c22 (H := H) (K := K2) hf hk
  have hsame := hK F
  unfold erF at h22
  unfold takeE at hK hsame
  unfold takeS at hK hsame
  have hI := hw.I
  have hro := hw.room
  have hlo := hw.lost
  cases hg : okF f with
  | false =>
    rw [hg] at h22 hsame
    have hk := hsame h
    clear hK hsame h23
    obtain ⟨fa, fc, qa, qc, ia, ic, X, rfl, _⟩ := h.look
    refine enter16 ?_
    repeat' ((conv => whnf); (first | refine h22 _ _ ?_ | refine Branch.t rfl ?_ | exact Keep.d1 hk | refine New.mk (fun _ => ?_) | refine Look.at0 ?_ | refine Cell.row ?_ | refine Cell.buf ?_ | refine Cells.row rfl ?_ | refine Put.row rfl ?_ | refine Put.buf rfl ?_ | refine Look.at1 ?_ | refine Look.at2 ?_ | refine Look.at3 ?_ | refine Look.at4 ?_ | refine Look.at5 ?_ | refine Look.at6 ?_ | refine Look.at7 ?_ | refine Look.at8 ?_ | with_reducible refine Val.i64 (by omega) (by omega) ?_ | with_reducible refine Val.u8 (by omega) (by omega) ?_ | with_reducible refine Val.u32 (by omega) (by omega) ?_ | with_reducible refine Val.u64 (by omega) (by omega) ?_ | with_reducible refine Val.u8m ?_ | with_reducible refine Val.u32m ?_ | with_reducible refine Val.u64m ?_ | with_reducible refine Val.shr8 ?_ | with_reducible refine Val.shr16 (by decide) ?_ | with_reducible refine Val.shr24 (by decide) ?_ | with_reducible refine Val.raw ?_ | refine Branch.not ?_ | refine Branch.and ?_ | refine Branch.or ?_ | refine Branch.dt (by assumption) ?_ | refine Branch.df (by assumption) ?_ | refine Branch.dt rfl ?_ | refine Branch.dt (by omega) ?_ | refine Branch.df (by omega) ?_ | refine Branch.t rfl ?_ | refine Branch.f rfl ?_ | refine Branch.t (by assumption) ?_ | refine Branch.f (by assumption) ?_ | refine Branch.d (fun _ => ?_) (fun _ => ?_) | refine Branch.mk (fun _ => ?_) (fun _ => ?_) | refine Need.mk (by first | omega | decide | rfl) ?_ | refine Idx.nat (by omega) ?_ | refine Idx.auto (by first | omega | decide) (by first | omega | decide) ?_ | refine Cell.ro rfl ?_ | refine SDraw.all (by kernel_rfl) ?_ | refine Kept.k0 ?_ | refine Kept.k1 ?_ | refine Kept.k2 ?_ | refine Kept.k3 ?_ | refine Kept.k4 ?_))
  | true =>
    rw [hg] at h22 hsame hK
    cases hp : pas s.L f with
    | false =>
      rw [hp] at h23 hsame
      have hk := hsame h
      clear hK hsame
      obtain ⟨fa, fc, qa, qc, ia, ic, X, rfl, _⟩ := h.look
      refine enter16 ?_
      repeat' ((conv => whnf); (first | refine h22 _ _ ?_ | refine SCalls.under [_] (h23 _ ?_) | refine Branch.f rfl ?_ | refine Branch.t rfl ?_ | exact Keep.d1 hk | refine New.mk (fun _ => ?_) | refine Look.at0 ?_ | refine Cell.row ?_ | refine Cell.buf ?_ | refine Cells.row rfl ?_ | refine Put.row rfl ?_ | refine Put.buf rfl ?_ | refine Look.at1 ?_ | refine Look.at2 ?_ | refine Look.at3 ?_ | refine Look.at4 ?_ | refine Look.at5 ?_ | refine Look.at6 ?_ | refine Look.at7 ?_ | refine Look.at8 ?_ | with_reducible refine Val.i64 (by omega) (by omega) ?_ | with_reducible refine Val.u8 (by omega) (by omega) ?_ | with_reducible refine Val.u32 (by omega) (by omega) ?_ | with_reducible refine Val.u64 (by omega) (by omega) ?_ | with_reducible refine Val.u8m ?_ | with_reducible refine Val.u32m ?_ | with_reducible refine Val.u64m ?_ | with_reducible refine Val.shr8 ?_ | with_reducible refine Val.shr16 (by decide) ?_ | with_reducible refine Val.shr24 (by decide) ?_ | with_reducible refine Val.raw ?_ | refine Branch.not ?_ | refine Branch.and ?_ | refine Branch.or ?_ | refine Branch.dt (by assumption) ?_ | refine Branch.df (by assumption) ?_ | refine Branch.dt rfl ?_ | refine Branch.dt (by omega) ?_ | refine Branch.df (by omega) ?_ | refine Branch.t rfl ?_ | refine Branch.f rfl ?_ | refine Branch.t (by assumption) ?_ | refine Branch.f (by assumption) ?_ | refine Branch.d (fun _ => ?_) (fun _ => ?_) | refine Branch.mk (fun _ => ?_) (fun _ => ?_) | refine Need.mk (by first | omega | decide | rfl) ?_ | refine Idx.nat (by omega) ?_ | refine Idx.auto (by first | omega | decide) (by first | omega | decide) ?_ | refine Cell.ro rfl ?_ | refine SDraw.all (by kernel_rfl) ?_ | refine Kept.k0 ?_ | refine Kept.k1 ?_ | refine Kept.k2 ?_ | refine Kept.k3 ?_ | refine Kept.k4 ?_))
    | true =>
      rw [hp] at h23 hK
      simp only [if_true] at hK
      clear hsame
      obtain ⟨g1, g2, g3⟩ := h
      rename_i fi iv M1 M2
      obtain ⟨a, c, Mq, _, rfl, hc, _⟩ := g3.chg
      by_cases hfull : s.room ≤ s.I.length
      · rw [if_pos hfull, if_pos hfull] at hK
        obtain ⟨ia, ic, rfl, _⟩ := g2.sv
        have hk := hK _ (DrO.mk (s := { s with lost := s.lost + 1 }) g1 g2 (hc (i64 s.most) (i64 s.room) fi (i64 s.tk) (.slice ia s.I.length ic) (i64 (s.lost + 1)) (M1 ++ (M2 ++ H))))
        clear hK hc g3
        refine enter16 ?_
        repeat' ((conv => whnf); (first | refine h22 _ _ ?_ | refine SCalls.under [_] (h23 _ ?_) | refine Branch.f rfl ?_ | refine Branch.dt (by omega) ?_ | with_reducible refine Val.to ((s.lost + 1 : Nat) : Int) (by rw [wrap_i64 (by omega) (by omega)]; omega) ?_ | exact Keep.d1 hk | refine New.mk (fun _ => ?_) | refine Look.at0 ?_ | refine Cell.row ?_ | refine Cell.buf ?_ | refine Cells.row rfl ?_ | refine Put.row rfl ?_ | refine Put.buf rfl ?_ | refine Look.at1 ?_ | refine Look.at2 ?_ | refine Look.at3 ?_ | refine Look.at4 ?_ | refine Look.at5 ?_ | refine Look.at6 ?_ | refine Look.at7 ?_ | refine Look.at8 ?_ | with_reducible refine Val.i64 (by omega) (by omega) ?_ | with_reducible refine Val.u8 (by omega) (by omega) ?_ | with_reducible refine Val.u32 (by omega) (by omega) ?_ | with_reducible refine Val.u64 (by omega) (by omega) ?_ | with_reducible refine Val.u8m ?_ | with_reducible refine Val.u32m ?_ | with_reducible refine Val.u64m ?_ | with_reducible refine Val.shr8 ?_ | with_reducible refine Val.shr16 (by decide) ?_ | with_reducible refine Val.shr24 (by decide) ?_ | with_reducible refine Val.raw ?_ | refine Branch.not ?_ | refine Branch.and ?_ | refine Branch.or ?_ | refine Branch.dt (by assumption) ?_ | refine Branch.df (by assumption) ?_ | refine Branch.dt rfl ?_ | refine Branch.dt (by omega) ?_ | refine Branch.df (by omega) ?_ | refine Branch.t rfl ?_ | refine Branch.f rfl ?_ | refine Branch.t (by assumption) ?_ | refine Branch.f (by assumption) ?_ | refine Branch.d (fun _ => ?_) (fun _ => ?_) | refine Branch.mk (fun _ => ?_) (fun _ => ?_) | refine Need.mk (by first | omega | decide | rfl) ?_ | refine Idx.nat (by omega) ?_ | refine Idx.auto (by first | omega | decide) (by first | omega | decide) ?_ | refine Cell.ro rfl ?_ | refine SDraw.all (by kernel_rfl) ?_ | refine Kept.k0 ?_ | refine Kept.k1 ?_ | refine Kept.k2 ?_ | refine Kept.k3 ?_ | refine Kept.k4 ?_))
      · rw [if_neg hfull, if_neg hfull] at hK
        obtain ⟨ia, ic, rfl, _⟩ := g2.sv
        have hk : ∀ (t41 t3 : Nat × Blk) a' c' q, Grow frC 12 26 (.slice a' (s.I.length + 1) c') (s.I ++ [plF f]) [q] → Keep (q :: t41 :: t3 :: pRow p (i64 s.most) (i64 s.room) fi (.slice a s.q.length c) (i64 s.tk) (.slice a' (s.I.length + 1) c') (i64 s.lost) :: ((Mq ++ M1) ++ H)) fun H' => K (.int .i64 0) H' := by
          intro t41 t3 a' c' q hg'
          refine Keep.glue [[q], [t41, t3], [pRow p (i64 s.most) (i64 s.room) fi (.slice a s.q.length c) (i64 s.tk) (.slice a' (s.I.length + 1) c') (i64 s.lost)], Mq, M1, H] [0, 1, 2, 3, 4, 5] [2, 3, 4, 0, 5] [1] (by decide) (by simp [Sx.glue]) ?_
          refine hK _ (DrO.mk (s := { s with I := s.I ++ [plF f] }) g1 hg' ?_)
          have := hc (i64 s.most) (i64 s.room) fi (i64 s.tk) (.slice a' (s.I.length + 1) c') (i64 s.lost) (M1 ++ ([q] ++ H))
          simpa [Sx.glue] using this
        have happ : ∀ (t3 : Nat × Blk) r (o : Oper) (xs xx : Operand) (K2 : Value → Heap → Prop), o.op = .call { callee := .builtin .append, args := #[xs, xx], argTypes := #[36, 36] } →
            (∀ q c', Grow frC 12 26 (.slice (some ⟨q, 0, none⟩) (s.I.length + 1) c') (s.I ++ [plF f]) [(q, .buf 26 ((s.I ++ [plF f]).flatMap frC) (c' * 12))] → K2 (.slice (some ⟨q, 0, none⟩) (s.I.length + 1) c') ((q, .buf 26 ((s.I ++ [plF f]).flatMap frC) (c' * 12)) :: (r, .row 26 (frC (plF f)) (0, 0)) :: t3 :: pRow p (i64 s.most) (i64 s.room) fi (.slice a s.q.length c) (i64 s.tk) (.slice ia s.I.length ic) (i64 s.lost) :: ((Mq ++ M1) ++ H))) →
            RawV Tryd.prog o [.slice ia s.I.length ic, .slice (some ⟨r, 0, none⟩) 1 1] ((r, .row 26 (frC (plF f)) (0, 0)) :: t3 :: pRow p (i64 s.most) (i64 s.room) fi (.slice a s.q.length c) (i64 s.tk) (.slice ia s.I.length ic) (i64 s.lost) :: (Mq ++ (M1 ++ (M2 ++ H)))) K2 := by
          intro t3 r o xs xx K2 ho hk2
          refine RawV.grow1b (A := (r, .row 26 (frC (plF f)) (0, 0)) :: t3 :: pRow p (i64 s.most) (i64 s.room) fi (.slice a s.q.length c) (i64 s.tk) (.slice ia s.I.length ic) (i64 s.lost) :: (Mq ++ M1)) (B := H) (x := plF f) (bytes := 24) g2 (by simp) (.head _) ho (by kernel_rfl) (by decide) frC_len (frC_one _) (by simp only [maxLen]; omega) (by omega) (fun q c' k1 k2 => ?_)
          refine hk2 q c' ?_
          have hgb := Grow.buf (f := frC) (k := 12) (e := 26) (q := q) (c := c') (L := s.I ++ [plF f]) (by simpa using k1) k2
          rw [List.length_append] at hgb
          exact hgb
        have hm : ∀ z : Nat × Blk, z ∈ pRow p (i64 s.most) (i64 s.room) fi (.slice a s.q.length c) (i64 s.tk) (.slice ia s.I.length ic) (i64 s.lost) :: ((Mq ++ M1) ++ H) → z ∈ pRow p (i64 s.most) (i64 s.room) fi (.slice a s.q.length c) (i64 s.tk) (.slice ia s.I.length ic) (i64 s.lost) :: ((Mq ++ M1) ++ H) := fun z hz => hz
        clear hK hc g3
        refine enter16 ?_
        repeat' ((conv => whnf); (first | refine h22 _ _ ?_ | refine SCalls.under [_] (h23 _ ?_) | refine Branch.f rfl ?_ | refine Branch.df (by omega) ?_ | refine SDraw.held (by kernel_rfl) [_, _] (.same (.head _) (.same (.tail _ (.head _)) .nil)) ?_ | refine SDraw.all (by kernel_rfl) ?_ | refine c25 ?_ | refine happ _ _ _ _ _ _ rfl (fun q c' k1 => ?_) | refine Kept.mk (.same (.head _) (.same (.tail _ (.head _)) .nil)) ?_ | refine Kept.mk (.same (.tail _ (.head _)) (.same (.tail _ (.tail _ (.head _))) .nil)) ?_ | refine Kept.mk (.same (.tail _ (.tail _ (.head _))) (.same (.tail _ (.tail _ (.tail _ (.head _)))) .nil)) ?_ | exact hk _ _ _ _ _ k1 | refine New.mk (fun _ => ?_) | refine Look.at0 ?_ | refine Cell.row ?_ | refine Cell.buf ?_ | refine Cells.row rfl ?_ | refine Put.row rfl ?_ | refine Put.buf rfl ?_ | refine Look.at1 ?_ | refine Look.at2 ?_ | refine Look.at3 ?_ | refine Look.at4 ?_ | refine Look.at5 ?_ | refine Look.at6 ?_ | refine Look.at7 ?_ | refine Look.at8 ?_ | with_reducible refine Val.i64 (by omega) (by omega) ?_ | with_reducible refine Val.u8 (by omega) (by omega) ?_ | with_reducible refine Val.u32 (by omega) (by omega) ?_ | with_reducible refine Val.u64 (by omega) (by omega) ?_ | with_reducible refine Val.u8m ?_ | with_reducible refine Val.u32m ?_ | with_reducible refine Val.u64m ?_ | with_reducible refine Val.shr8 ?_ | with_reducible refine Val.shr16 (by decide) ?_ | with_reducible refine Val.shr24 (by decide) ?_ | with_reducible refine Val.raw ?_ | refine Branch.not ?_ | refine Branch.and ?_ | refine Branch.or ?_ | refine Branch.dt (by assumption) ?_ | refine Branch.df (by assumption) ?_ | refine Branch.dt rfl ?_ | refine Branch.dt (by omega) ?_ | refine Branch.df (by omega) ?_ | refine Branch.t rfl ?_ | refine Branch.f rfl ?_ | refine Branch.t (by assumption) ?_ | refine Branch.f (by assumption) ?_ | refine Branch.d (fun _ => ?_) (fun _ => ?_) | refine Branch.mk (fun _ => ?_) (fun _ => ?_) | refine Need.mk (by first | omega | decide | rfl) ?_ | refine Idx.nat (by omega) ?_ | refine Idx.auto (by first | omega | decide) (by first | omega | decide) ?_ | refine Cell.ro rfl ?_ | refine SDraw.all (by kernel_rfl) ?_ | refine Kept.k0 ?_ | refine Kept.k1 ?_ | refine Kept.k2 ?_ | refine Kept.k3 ?_ | refine Kept.k4 ?_))
theorem c17 (hw : DrW s) (h : DrO p s H F) (hK : ∀ F', DrO p { s with I := s.I.tail } H F' → K (.tuple ⟨[frV (hd1 s.I), .bool (decide (0 < s.I.length))]⟩) F') : SCalls Tryd.prog 17 [ptr p] F K := by
  have hI := hw.I
  have hro := hw.room
  obtain ⟨g1, g2, g3⟩ := h
  rename_i fi iv M1 M2
  have hs3 := g3.sub
  obtain ⟨a, c, Mq, _, rfl, hc, _⟩ := g3.chg
  obtain ⟨ia, ic, rfl, hml⟩ := g2.sv
  obtain hl | ⟨x, r, hl⟩ : s.I = [] ∨ ∃ x r, s.I = x :: r := by
    cases s.I with
    | nil => exact .inl rfl
    | cons x r => exact .inr ⟨x, r, rfl⟩
  · have h0 : decide ((s.I.length : Int) = 0) = true := by rw [hl]; rfl
    have hk := hK _ (DrO.mk (s := { s with I := s.I.tail }) g1 (by show Grow frC 12 26 _ s.I.tail M2; rw [show s.I.tail = s.I by rw [hl]; rfl]; exact g2) (hc (i64 s.most) (i64 s.room) fi (i64 s.tk) (.slice ia s.I.length ic) (i64 s.lost) (M1 ++ (M2 ++ H))))
    have hk := show K (.tuple ⟨[.agg ⟨[.int .u32 0, .bool false, .bool false, .int .i64 0, .int .u8 0, .int .u8 0, .int .u8 0, .int .u8 0, .int .u8 0, .int .u8 0, .int .u8 0, .int .u8 0]⟩, .bool false]⟩) _ from by
      rw [show (decide (0 < s.I.length)) = false by rw [hl]; rfl, show hd1 s.I = zF by rw [hl]; rfl] at hk
      exact hk
    clear hK
    refine enter17 ?_
    repeat' ((conv => whnf); (first | refine Branch.t h0 ?_ | exact Keep.d1 hk | refine New.mk (fun _ => ?_) | refine Look.at0 ?_ | refine Cell.row ?_ | refine Cell.buf ?_ | refine Cells.row rfl ?_ | refine Put.row rfl ?_ | refine Put.buf rfl ?_ | refine Look.at1 ?_ | refine Look.at2 ?_ | refine Look.at3 ?_ | refine Look.at4 ?_ | refine Look.at5 ?_ | refine Look.at6 ?_ | refine Look.at7 ?_ | refine Look.at8 ?_ | with_reducible refine Val.i64 (by omega) (by omega) ?_ | with_reducible refine Val.u8 (by omega) (by omega) ?_ | with_reducible refine Val.u32 (by omega) (by omega) ?_ | with_reducible refine Val.u64 (by omega) (by omega) ?_ | with_reducible refine Val.u8m ?_ | with_reducible refine Val.u32m ?_ | with_reducible refine Val.u64m ?_ | with_reducible refine Val.shr8 ?_ | with_reducible refine Val.shr16 (by decide) ?_ | with_reducible refine Val.shr24 (by decide) ?_ | with_reducible refine Val.raw ?_ | refine Branch.not ?_ | refine Branch.and ?_ | refine Branch.or ?_ | refine Branch.dt (by assumption) ?_ | refine Branch.df (by assumption) ?_ | refine Branch.dt rfl ?_ | refine Branch.dt (by omega) ?_ | refine Branch.df (by omega) ?_ | refine Branch.t rfl ?_ | refine Branch.f rfl ?_ | refine Branch.t (by assumption) ?_ | refine Branch.f (by assumption) ?_ | refine Branch.d (fun _ => ?_) (fun _ => ?_) | refine Branch.mk (fun _ => ?_) (fun _ => ?_) | refine Need.mk (by first | omega | decide | rfl) ?_ | refine Idx.nat (by omega) ?_ | refine Idx.auto (by first | omega | decide) (by first | omega | decide) ?_ | refine Cell.ro rfl ?_ | refine SDraw.all (by kernel_rfl) ?_ | refine Kept.k0 ?_ | refine Kept.k1 ?_ | refine Kept.k2 ?_ | refine Kept.k3 ?_ | refine Kept.k4 ?_))
  · have hlen : s.I.length = r.length + 1 := by rw [hl]; rfl
    rw [hl] at hK
    have hin := g2.ins (H := pRow p (i64 s.most) (i64 s.room) fi (.slice a s.q.length c) (i64 s.tk) (.slice ia s.I.length ic) (i64 s.lost) :: (Mq ++ (M1 ++ (M2 ++ H)))) frC_len (fun z hz => hs3 z (List.mem_append_right _ (List.mem_append_left _ hz)))
    obtain ⟨q0, rfl, _, hcap, hcm, rfl⟩ := g2.inv (by rw [hl]; simp)
    rw [hlen] at hin hcap
    obtain ⟨rr, o, c1, b, e1, hrb, hcc⟩ := inS_at (j := 0) (x := x) hin frC_len (by rw [hl]; rfl)
    injection e1 with e1 _ e3
    injection e1 with e1
    injection e1 with e1 e4
    subst e1 e4
    have hc12 : ∀ (j : Nat) v, (frC x)[j]? = some v → b.cell (0 + 0 * 12 + j) = some v := fun j v hj => hcc j v hj
    have h0 : decide (((r.length + 1 : Nat) : Int) = 0) = false := decide_eq_false (by omega)
    -- what is behind the first
    have hr2 : ∀ z : Nat × Blk, z ∈ pRow p (i64 s.most) (i64 s.room) fi (.slice a s.q.length c) (i64 s.tk) (.slice (some ⟨q0, 0, none⟩) (r.length + 1) ic) (i64 s.lost) :: (Mq ++ (M1 ++ ([(q0, Blk.buf 26 (s.I.flatMap frC) (ic * 12))] ++ H))) → True := fun _ _ => trivial
    have hbuf : (q0, Blk.buf 26 (s.I.flatMap frC) (ic * 12)) ∈ Mq ++ (M1 ++ ([(q0, Blk.buf 26 (s.I.flatMap frC) (ic * 12))] ++ H)) := List.mem_append_right _ (List.mem_append_right _ (.head _))
    have hrest : ∀ (o' c' : Nat) (X : Heap), (ic = 1 ∧ o' = 0 ∨ ic ≠ 1 ∧ o' = 0 + 1 * 12) → (∀ z ∈ Mq ++ (M1 ++ ([(q0, Blk.buf 26 (s.I.flatMap frC) (ic * 12))] ++ H)), z ∈ X) → InS frC 12 (.slice (some ⟨q0, o', none⟩) r.length c') X r := by
      intro o' c' X ho hX
      rcases ho with ⟨h1, rfl⟩ | ⟨h1, rfl⟩
      · have : r = [] := List.length_eq_zero_iff.1 (by omega)
        subst this
        exact InS.nil
      · refine ⟨_, c', rfl, by simp only [maxLen]; omega, .inr ⟨q0, 0 + 1 * 12, _, rfl, hX _ hbuf, fun j y i v hj hv hi => ?_⟩⟩
        show (s.I.flatMap frC)[0 + 1 * 12 + j * 12 + i]? = some v
        rw [hl, show 0 + 1 * 12 + j * 12 + i = (j + 1) * 12 + i by omega, flat_nth frC_len (L := x :: r) (j := j + 1) (x := y) (by simpa using hj) hi]
        exact hv
    have hk : ∀ (t4 t2 : Nat × Blk) q' c', r.length ≤ c' → c' ≤ maxLen → Keep ((q', Blk.buf 26 (r.flatMap frC) (c' * 12)) :: t4 :: t2 :: pRow p (i64 s.most) (i64 s.room) fi (.slice a s.q.length c) (i64 s.tk) (.slice (some ⟨q', 0, none⟩) r.length c') (i64 s.lost) :: (Mq ++ (M1 ++ ([(q0, Blk.buf 26 (s.I.flatMap frC) (ic * 12))] ++ H)))) fun H' => K (.tuple ⟨[frV x, .bool true]⟩) H' := by
      intro t4 t2 q' c' k1 k2
      refine Keep.glue [[(q', Blk.buf 26 (r.flatMap frC) (c' * 12))], [t4, t2], [pRow p (i64 s.most) (i64 s.room) fi (.slice a s.q.length c) (i64 s.tk) (.slice (some ⟨q', 0, none⟩) r.length c') (i64 s.lost)], Mq, M1, [(q0, Blk.buf 26 (s.I.flatMap frC) (ic * 12))], H] [0, 1, 2, 3, 4, 5, 6] [2, 3, 4, 0, 6] [1, 5] (by decide) (by simp [Sx.glue]) ?_
      have hk := hK (glue [[(q', Blk.buf 26 (r.flatMap frC) (c' * 12))], [t4, t2], [pRow p (i64 s.most) (i64 s.room) fi (.slice a s.q.length c) (i64 s.tk) (.slice (some ⟨q', 0, none⟩) r.length c') (i64 s.lost)], Mq, M1, [(q0, Blk.buf 26 (s.I.flatMap frC) (ic * 12))], H] [2, 3, 4, 0, 6]) (DrO.mk (s := { s with I := r }) g1 (.buf (q := q') (L := r) k1 k2) ?_)
      · exact hk
      · have := hc (i64 s.most) (i64 s.room) fi (i64 s.tk) (.slice (some ⟨q', 0, none⟩) r.length c') (i64 s.lost) (M1 ++ ([(q', Blk.buf 26 (r.flatMap frC) (c' * 12))] ++ H))
        simpa [Sx.glue] using this
    rw [hlen]
    clear hK hc g3 hs3 hin g2
    refine enter17 ?_
    by_cases hic : ic = 1
    · have h30 : ∀ (t4 t2 : Nat × Blk) (K2 : Value → Heap → Prop), (∀ q' c', r.length ≤ c' → c' ≤ maxLen → K2 (.slice (some ⟨q', 0, none⟩) r.length c') ((q', Blk.buf 26 (r.flatMap frC) (c' * 12)) :: t4 :: t2 :: pRow p (i64 s.most) (i64 s.room) fi (.slice a s.q.length c) (i64 s.tk) (.slice (some ⟨q0, 0, none⟩) (r.length + 1) ic) (i64 s.lost) :: (Mq ++ (M1 ++ ([(q0, Blk.buf 26 (s.I.flatMap frC) (ic * 12))] ++ H))))) →
          SCalls Tryd.prog 30 [.slice (some ⟨q0, 0, none⟩) (r.length + 1 - 1) (ic - 1)] (t4 :: t2 :: pRow p (i64 s.most) (i64 s.room) fi (.slice a s.q.length c) (i64 s.tk) (.slice (some ⟨q0, 0, none⟩) (r.length + 1) ic) (i64 s.lost) :: (Mq ++ (M1 ++ ([(q0, Blk.buf 26 (s.I.flatMap frC) (ic * 12))] ++ H)))) K2 :=
        fun t4 t2 K2 hk2 => c30 (L := r) (hrest 0 _ _ (.inl ⟨hic, rfl⟩) (fun z hz => .tail _ (.tail _ (.tail _ hz)))) (by omega) hk2
      repeat' ((conv => whnf); (first | refine Branch.f h0 ?_ | refine Idx.of 0 rfl (by omega) ?_ | refine Idx.of 1 rfl (by omega) ?_ | refine Look.cells (.tail _ hrb) rfl hc12 ?_ | refine Branch.dt hic ?_ | refine h30 _ _ _ (fun q' c' k1 k2 => ?_) | exact hk _ _ _ _ k1 k2 | refine New.mk (fun _ => ?_) | refine Look.at0 ?_ | refine Cell.row ?_ | refine Cell.buf ?_ | refine Cells.row rfl ?_ | refine Put.row rfl ?_ | refine Put.buf rfl ?_ | refine Look.at1 ?_ | refine Look.at2 ?_ | refine Look.at3 ?_ | refine Look.at4 ?_ | refine Look.at5 ?_ | refine Look.at6 ?_ | refine Look.at7 ?_ | refine Look.at8 ?_ | with_reducible refine Val.i64 (by omega) (by omega) ?_ | with_reducible refine Val.u8 (by omega) (by omega) ?_ | with_reducible refine Val.u32 (by omega) (by omega) ?_ | with_reducible refine Val.u64 (by omega) (by omega) ?_ | with_reducible refine Val.u8m ?_ | with_reducible refine Val.u32m ?_ | with_reducible refine Val.u64m ?_ | with_reducible refine Val.shr8 ?_ | with_reducible refine Val.shr16 (by decide) ?_ | with_reducible refine Val.shr24 (by decide) ?_ | with_reducible refine Val.raw ?_ | refine Branch.not ?_ | refine Branch.and ?_ | refine Branch.or ?_ | refine Branch.dt (by assumption) ?_ | refine Branch.df (by assumption) ?_ | refine Branch.dt rfl ?_ | refine Branch.dt (by omega) ?_ | refine Branch.df (by omega) ?_ | refine Branch.t rfl ?_ | refine Branch.f rfl ?_ | refine Branch.t (by assumption) ?_ | refine Branch.f (by assumption) ?_ | refine Branch.d (fun _ => ?_) (fun _ => ?_) | refine Branch.mk (fun _ => ?_) (fun _ => ?_) | refine Need.mk (by first | omega | decide | rfl) ?_ | refine Idx.nat (by omega) ?_ | refine Idx.auto (by first | omega | decide) (by first | omega | decide) ?_ | refine Cell.ro rfl ?_ | refine SDraw.all (by kernel_rfl) ?_ | refine Kept.k0 ?_ | refine Kept.k1 ?_ | refine Kept.k2 ?_ | refine Kept.k3 ?_ | refine Kept.k4 ?_))
    · have h30 : ∀ (t4 t2 : Nat × Blk) (K2 : Value → Heap → Prop), (∀ q' c', r.length ≤ c' → c' ≤ maxLen → K2 (.slice (some ⟨q', 0, none⟩) r.length c') ((q', Blk.buf 26 (r.flatMap frC) (c' * 12)) :: t4 :: t2 :: pRow p (i64 s.most) (i64 s.room) fi (.slice a s.q.length c) (i64 s.tk) (.slice (some ⟨q0, 0, none⟩) (r.length + 1) ic) (i64 s.lost) :: (Mq ++ (M1 ++ ([(q0, Blk.buf 26 (s.I.flatMap frC) (ic * 12))] ++ H))))) →
          SCalls Tryd.prog 30 [.slice (some ⟨q0, 0 + 1 * 12, none⟩) (r.length + 1 - 1) (ic - 1)] (t4 :: t2 :: pRow p (i64 s.most) (i64 s.room) fi (.slice a s.q.length c) (i64 s.tk) (.slice (some ⟨q0, 0, none⟩) (r.length + 1) ic) (i64 s.lost) :: (Mq ++ (M1 ++ ([(q0, Blk.buf 26 (s.I.flatMap frC) (ic * 12))] ++ H)))) K2 :=
        fun t4 t2 K2 hk2 => c30 (L := r) (hrest (0 + 1 * 12) _ _ (.inr ⟨hic, rfl⟩) (fun z hz => .tail _ (.tail _ (.tail _ hz)))) (by omega) hk2
      repeat' ((conv => whnf); (first | refine Branch.f h0 ?_ | refine Idx.of 0 rfl (by omega) ?_ | refine Idx.of 1 rfl (by omega) ?_ | refine Look.cells (.tail _ hrb) rfl hc12 ?_ | refine Branch.df hic ?_ | refine h30 _ _ _ (fun q' c' k1 k2 => ?_) | exact hk _ _ _ _ k1 k2 | refine New.mk (fun _ => ?_) | refine Look.at0 ?_ | refine Cell.row ?_ | refine Cell.buf ?_ | refine Cells.row rfl ?_ | refine Put.row rfl ?_ | refine Put.buf rfl ?_ | refine Look.at1 ?_ | refine Look.at2 ?_ | refine Look.at3 ?_ | refine Look.at4 ?_ | refine Look.at5 ?_ | refine Look.at6 ?_ | refine Look.at7 ?_ | refine Look.at8 ?_ | with_reducible refine Val.i64 (by omega) (by omega) ?_ | with_reducible refine Val.u8 (by omega) (by omega) ?_ | with_reducible refine Val.u32 (by omega) (by omega) ?_ | with_reducible refine Val.u64 (by omega) (by omega) ?_ | with_reducible refine Val.u8m ?_ | with_reducible refine Val.u32m ?_ | with_reducible refine Val.u64m ?_ | with_reducible refine Val.shr8 ?_ | with_reducible refine Val.shr16 (by decide) ?_ | with_reducible refine Val.shr24 (by decide) ?_ | with_reducible refine Val.raw ?_ | refine Branch.not ?_ | refine Branch.and ?_ | refine Branch.or ?_ | refine Branch.dt (by assumption) ?_ | refine Branch.df (by assumption) ?_ | refine Branch.dt rfl ?_ | refine Branch.dt (by omega) ?_ | refine Branch.df (by omega) ?_ | refine Branch.t rfl ?_ | refine Branch.f rfl ?_ | refine Branch.t (by assumption) ?_ | refine Branch.f (by assumption) ?_ | refine Branch.d (fun _ => ?_) (fun _ => ?_) | refine Branch.mk (fun _ => ?_) (fun _ => ?_) | refine Need.mk (by first | omega | decide | rfl) ?_ | refine Idx.nat (by omega) ?_ | refine Idx.auto (by first | omega | decide) (by first | omega | decide) ?_ | refine Cell.ro rfl ?_ | refine SDraw.all (by kernel_rfl) ?_ | refine Kept.k0 ?_ | refine Kept.k1 ?_ | refine Kept.k2 ?_ | refine Kept.k3 ?_ | refine Kept.k4 ?_))
end
end Go.Proofs.YthgpikgbhkcnbaaDoor

