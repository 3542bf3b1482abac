/- Layer 25: what is wrong with messages, by the program and by the document: by walks. -/
import Derived.Test.YtjleekdidedhaaaDoorBMain
import Derived.Test.YtjleekdidedhaaaDoorBSx1

set_option linter.unusedVariables false
set_option linter.unusedSimpArgs false
set_option maxRecDepth 100000
set_option maxHeartbeats 4000000
namespace Go.Proofs.YtjleekdidedhaaaDoor
open Sx
theorem list_at {α : Type} {L : List α} {j : Nat} (hlt : j < L.length) : ∃ x, L[j]? = some x ∧ L.drop j = x :: L.drop (j + 1) ∧ L.take (j + 1) = L.take j ++ [x] :=
  ⟨L[j], List.getElem?_eq_getElem hlt, List.drop_eq_getElem_cons hlt, List.take_succ_eq_append_getElem hlt⟩
theorem inS_at {α : Type} {f : α → List Value} {k : Nat} {sv : Value} {H : Heap} {L : List α} (h : InS f k sv H L) (hk : ∀ x, (f x).length = k) {j : Nat} {x : α} (hj : L[j]? = some x) :
    ∃ r o c b, sv = .slice (some ⟨r, o, none⟩) L.length c ∧ (r, b) ∈ H ∧ ∀ i v, (f x)[i]? = some v → b.cell (o + j * k + i) = some v := by
  obtain ⟨a, c, rfl, h1, h2⟩ := h
  rcases h2 with rfl | ⟨r, o, b, rfl, hm, hc⟩
  · simp at hj
  · exact ⟨r, o, c, b, rfl, hm, fun i v hv => hc j x i v hj hv (by rw [← hk x]; exact (List.getElem?_eq_some_iff.1 hv).1)⟩
/-- A message. -/
structure Msg where
  (id : Nat) (x : Bool) (n : Int) (p j : Nat)
def Msg.wf (m : Msg) : Prop := m.id < 4294967296 ∧ -9223372036854775808 ≤ m.n ∧ m.n ≤ 9223372036854775807 ∧ m.p < 18446744073709551616 ∧ m.j < 18446744073709551616
abbrev mC (m : Msg) : List Value := [.int .u32 (m.id : Int), .bool m.x, .int .i64 m.n, .int .u64 (m.p : Int), .int .u64 (m.j : Int)]
abbrev fld (m : Msg) : List UInt8 := (fV m.id m.x m.n).1
def badN (n : Int) (p j : Nat) : Bool := decide (n < 0) || decide (8 < n) || decide (p < 1) || decide (4294967296 < p) || decide (p ≤ j)
def chkGo : List Msg → List Msg → Int
  | _, [] => 0
  | pre, m :: r => if badN m.n m.p m.j || !okF m.id m.x m.n then 1 else if pre.any (fun y => decide (fld y = fld m)) then 5 else chkGo (pre ++ [m]) r
def chk (L : List Msg) : Int := if 64 < L.length then 2 else chkGo [] L
abbrev kS : List UInt8 → Value := fun s => .string (strOf s)
theorem keysS : Keys .string kS := ⟨fun a => by simp [Go.MapKept.IsKey], fun a b h => by injection h with h; exact strOf_inj h⟩
theorem hty81 : mapTy Tryd.prog 81 9 4 .string (.bool false) := mapTy.mk' (by kernel_rfl) (by kernel_rfl) (by kernel_rfl)
inductive S22 (A3 A12 A13 A14 : Value) : List Value → Prop
  | mk {r0 r1 r2 r4 r5 r6 r7 r8 r9 r10 r11 r15 r16 r17 r18 r19 r20 r21 r22 r23 r24 r25 r26 r27 r28 r29 r30 r31 r32 r33 r34 r35 r36 r37 r38 r39 r40 r41 r42 r43 r44 r45 r46 r47 r48 r49 r50 r51 r52 r53 r54 r55 r56 r57 r58 : Value} : S22 A3 A12 A13 A14 [r0, r1, r2, A3, r4, r5, r6, r7, r8, r9, r10, r11, A12, A13, A14, r15, r16, r17, r18, r19, r20, r21, r22, r23, r24, r25, r26, r27, r28, r29, r30, r31, r32, r33, r34, r35, r36, r37, r38, r39, r40, r41, r42, r43, r44, r45, r46, r47, r48, r49, r50, r51, r52, r53, r54, r55, r56, r57, r58]
inductive S16 (A0 A3 : Value) : List Value → Prop
  | mk {r1 r2 r4 r5 r6 r7 r8 r9 r10 r11 r12 r13 r14 r15 r16 r17 r18 r19 r20 r21 r22 r23 r24 r25 r26 r27 r28 r29 r30 r31 r32 r33 r34 r35 r36 r37 r38 r39 r40 r41 r42 r43 r44 r45 r46 r47 r48 r49 r50 r51 r52 r53 r54 r55 r56 r57 r58 r59 r60 r61 r62 : Value} : S16 A0 A3 [A0, r1, r2, A3, r4, r5, r6, r7, r8, r9, r10, r11, r12, r13, r14, r15, r16, r17, r18, r19, r20, r21, r22, r23, r24, r25, r26, r27, r28, r29, r30, r31, r32, r33, r34, r35, r36, r37, r38, r39, r40, r41, r42, r43, r44, r45, r46, r47, r48, r49, r50, r51, r52, r53, r54, r55, r56, r57, r58, r59, r60, r61, r62]
inductive S16a (A0 A3 A4 A5 : Value) : List Value → Prop
  | mk {r1 r2 r6 r7 r8 r9 r10 r11 r12 r13 r14 r15 r16 r17 r18 r19 r20 r21 r22 r23 r24 r25 r26 r27 r28 r29 r30 r31 r32 r33 r34 r35 r36 r37 r38 r39 r40 r41 r42 r43 r44 r45 r46 r47 r48 r49 r50 r51 r52 r53 r54 r55 r56 r57 r58 r59 r60 r61 r62 : Value} : S16a A0 A3 A4 A5 [A0, r1, r2, A3, A4, A5, r6, r7, r8, r9, r10, r11, r12, r13, r14, r15, r16, r17, r18, r19, r20, r21, r22, r23, r24, r25, r26, r27, r28, r29, r30, r31, r32, r33, r34, r35, r36, r37, r38, r39, r40, r41, r42, r43, r44, r45, r46, r47, r48, r49, r50, r51, r52, r53, r54, r55, r56, r57, r58, r59, r60, r61, r62]
structure T22 where
  (k : Nat) (l : List (Ent (List UInt8))) (c : Nat)
def I22 (pm : Nat) (sv : Value) (L : List Msg) (T : Int) (H : Heap) (y : T22) (S : List Value) (H' : Heap) : Prop :=
  y.k ≤ L.length ∧ y.l.map Ent.key = (L.take y.k).map fld ∧ (∀ e ∈ y.l, e.val = .bool true) ∧ chkGo (L.take y.k) (L.drop y.k) = T ∧ S22 (.map (some pm)) sv (.int .i64 (L.length : Int)) (.int .i64 (y.k : Int)) S ∧ H' = (pm, mapB kS y.l y.c) :: H
section
variable {K : Value → Heap → Prop} {H : Heap} {sv : Value} {L : List Msg}
theorem c22 (hD : Db H) (hin : InS mC 5 sv H L) (hwf : ∀ m ∈ L, m.wf) (h : K (.int .i64 (chk L)) H) : SCalls Tryd.prog 22 [sv] H K := by
  obtain ⟨sa, sc, rfl, hml⟩ := hin.sv
  have hml' : L.length ≤ 9223372036854775807 := by simp only [maxLen] at hml; omega
  refine enter22 ?_
  unfold chk at h
  by_cases hl : 64 < L.length
  · rw [if_pos hl] at h
    repeat' ((conv => whnf); (first | exact Keep.all h | refine New.mk (fun _ => ?_) | refine Look.at0 ?_ | refine Cell.row ?_ | refine Cell.buf ?_ | refine Cells.row rfl ?_ | refine Put.row rfl ?_ | refine Put.buf rfl ?_ | refine Look.at1 ?_ | refine Look.at2 ?_ | refine Look.at3 ?_ | refine Look.at4 ?_ | refine Look.at5 ?_ | refine Look.at6 ?_ | refine Look.at7 ?_ | refine Look.at8 ?_ | with_reducible refine Val.i64 (by omega) (by omega) ?_ | with_reducible refine Val.u8 (by omega) (by omega) ?_ | with_reducible refine Val.u32 (by omega) (by omega) ?_ | with_reducible refine Val.u64 (by omega) (by omega) ?_ | with_reducible refine Val.u8m ?_ | with_reducible refine Val.u32m ?_ | with_reducible refine Val.u64m ?_ | with_reducible refine Val.shr8 ?_ | with_reducible refine Val.shr16 (by decide) ?_ | with_reducible refine Val.shr24 (by decide) ?_ | with_reducible refine Val.raw ?_ | refine Branch.not ?_ | refine Branch.and ?_ | refine Branch.or ?_ | refine Branch.dt (by assumption) ?_ | refine Branch.df (by assumption) ?_ | refine Branch.dt rfl ?_ | refine Branch.dt (by omega) ?_ | refine Branch.df (by omega) ?_ | refine Branch.t rfl ?_ | refine Branch.f rfl ?_ | refine Branch.t (by assumption) ?_ | refine Branch.f (by assumption) ?_ | refine Branch.d (fun _ => ?_) (fun _ => ?_) | refine Branch.mk (fun _ => ?_) (fun _ => ?_) | refine Need.mk (by first | omega | decide | rfl) ?_ | refine Idx.nat (by omega) ?_ | refine Idx.auto (by first | omega | decide) (by first | omega | decide) ?_ | refine Cell.ro rfl ?_ | refine SDraw.all (by kernel_rfl) ?_ | refine Kept.k0 ?_ | refine Kept.k1 ?_ | refine Kept.k2 ?_ | refine Kept.k3 ?_ | refine Kept.k4 ?_))
  · rw [if_neg hl] at h
    generalize hT : chkGo [] L = T at h
    repeat' ((conv => whnf); (first | refine RawV.mkMap kS rfl (fun pm => ?_) | refine New.mk (fun _ => ?_) | refine Look.at0 ?_ | refine Cell.row ?_ | refine Cell.buf ?_ | refine Cells.row rfl ?_ | refine Put.row rfl ?_ | refine Put.buf rfl ?_ | refine Look.at1 ?_ | refine Look.at2 ?_ | refine Look.at3 ?_ | refine Look.at4 ?_ | refine Look.at5 ?_ | refine Look.at6 ?_ | refine Look.at7 ?_ | refine Look.at8 ?_ | with_reducible refine Val.i64 (by omega) (by omega) ?_ | with_reducible refine Val.u8 (by omega) (by omega) ?_ | with_reducible refine Val.u32 (by omega) (by omega) ?_ | with_reducible refine Val.u64 (by omega) (by omega) ?_ | with_reducible refine Val.u8m ?_ | with_reducible refine Val.u32m ?_ | with_reducible refine Val.u64m ?_ | with_reducible refine Val.shr8 ?_ | with_reducible refine Val.shr16 (by decide) ?_ | with_reducible refine Val.shr24 (by decide) ?_ | with_reducible refine Val.raw ?_ | refine Branch.not ?_ | refine Branch.and ?_ | refine Branch.or ?_ | refine Branch.dt (by assumption) ?_ | refine Branch.df (by assumption) ?_ | refine Branch.dt rfl ?_ | refine Branch.dt (by omega) ?_ | refine Branch.df (by omega) ?_ | refine Branch.t rfl ?_ | refine Branch.f rfl ?_ | refine Branch.t (by assumption) ?_ | refine Branch.f (by assumption) ?_ | refine Branch.d (fun _ => ?_) (fun _ => ?_) | refine Branch.mk (fun _ => ?_) (fun _ => ?_) | refine Need.mk (by first | omega | decide | rfl) ?_ | refine Idx.nat (by omega) ?_ | refine Idx.auto (by first | omega | decide) (by first | omega | decide) ?_ | refine Cell.ro rfl ?_ | refine SDraw.all (by kernel_rfl) ?_ | refine Kept.k0 ?_ | refine Kept.k1 ?_ | refine Kept.k2 ?_ | refine Kept.k3 ?_ | refine Kept.k4 ?_))
    refine SLoop.invA (I22 pm (.slice sa L.length sc) L T H) (fun y => L.length - y.k) ⟨0, [], 0⟩ (Keep.all ⟨by simp, by simp, by simp, hT, .mk, rfl⟩) ?_
    rintro ⟨k, l, c2⟩ S H' ⟨hk, hkeys, hvals, hgo, hS, rfl⟩ R hR
    dsimp only at hk hkeys hvals hgo hS hR ⊢
    cases hS
    by_cases hlt : k < L.length
    · obtain ⟨m, hx, hdrop, htake⟩ := list_at hlt
      obtain ⟨r, o, c, b, e1, hm, hc⟩ := inS_at hin (fun _ => rfl) hx
      injection e1 with e1 _ e3
      subst e1
      have hmw := hwf m (List.mem_of_getElem? hx)
      have hin1 : ((L.take k).any fun y => decide (fld y = fld m)) = true ↔ ∃ e ∈ l, e.key = fld m := by
        rw [List.any_eq_true]
        constructor
        · rintro ⟨y, hy, he⟩
          have : fld y ∈ l.map Ent.key := by rw [hkeys]; exact List.mem_map_of_mem hy
          obtain ⟨e, he1, he2⟩ := List.mem_map.1 this
          exact ⟨e, he1, by rw [he2]; exact of_decide_eq_true he⟩
        · rintro ⟨e, he1, he2⟩
          have : e.key ∈ (L.take k).map fld := by rw [← hkeys]; exact List.mem_map_of_mem he1
          obtain ⟨y, hy, he⟩ := List.mem_map.1 this
          exact ⟨y, hy, by rw [he, he2]; simp⟩
      rw [hdrop, chkGo] at hgo
      have hnext : ∀ S (y1 : Nat × Blk), (badN m.n m.p m.j || !okF m.id m.x m.n) = false → ((L.take k).any fun y => decide (fld y = fld m)) = false → S22 (.map (some pm)) (.slice (some ⟨r, o, none⟩) L.length sc) (.int .i64 (L.length : Int)) (.int .i64 ((k + 1 : Nat) : Int)) S → R S (y1 :: (pm, mapB kS (l ++ [⟨fld m, .bool true, c2⟩]) (c2 + 1)) :: H) := fun S y1 h1 h2 h3 => by
        rw [if_neg (by rw [h1]; decide), if_neg (by rw [h2]; decide), ← htake] at hgo
        refine hR ⟨k + 1, l ++ [⟨fld m, .bool true, c2⟩], c2 + 1⟩ _ _ (by show L.length - (k + 1) < L.length - k; omega) (Keep.d1 ⟨by show k + 1 ≤ L.length; omega, ?_, ?_, hgo, h3, rfl⟩)
        · show (l ++ [(⟨fld m, .bool true, c2⟩ : Ent (List UInt8))]).map Ent.key = (L.take (k + 1)).map fld
          rw [List.map_append, hkeys, htake, List.map_append]; rfl
        · intro e he
          rcases List.mem_append.1 he with he | he
          · exact hvals e he
          · obtain rfl := List.mem_singleton.1 he; rfl
      clear hR hT hkeys htake
      have hD2 : ∀ y z : Nat × Blk, Db (y :: z :: H) := fun y z => hD.mono fun p hp => .tail _ (.tail _ hp)
      obtain ⟨id, x, n, p, j⟩ := m
      obtain ⟨w1, w2, w3, w4, w5⟩ := hmw
      have hc : ∀ i v, ([.int .u32 (id : Int), .bool x, .int .i64 n, .int .u64 (p : Int), .int .u64 (j : Int)] : List Value)[i]? = some v → b.cell (o + k * 5 + i) = some v := hc
      dsimp only at hgo hnext hc hx hin1 w1 w2 w3 w4 w5
      cases hb : badN n p j with
      | true =>
        rw [hb, Bool.true_or, if_pos rfl] at hgo
        rw [← hgo] at h
        unfold badN at hb
        simp only [Bool.or_eq_true, decide_eq_true_eq] at hb
        clear hnext hin1
        repeat' ((conv => whnf); (first | refine Look.cells (.tail _ hm) rfl hc ?_ | refine New.mk (fun _ => ?_) | refine Look.at0 ?_ | refine Cell.row ?_ | refine Cell.buf ?_ | refine Cells.row rfl ?_ | refine Put.row rfl ?_ | refine Put.buf rfl ?_ | refine Look.at1 ?_ | refine Look.at2 ?_ | refine Look.at3 ?_ | refine Look.at4 ?_ | refine Look.at5 ?_ | refine Look.at6 ?_ | refine Look.at7 ?_ | refine Look.at8 ?_ | with_reducible refine Val.i64 (by omega) (by omega) ?_ | with_reducible refine Val.u8 (by omega) (by omega) ?_ | with_reducible refine Val.u32 (by omega) (by omega) ?_ | with_reducible refine Val.u64 (by omega) (by omega) ?_ | with_reducible refine Val.u8m ?_ | with_reducible refine Val.u32m ?_ | with_reducible refine Val.u64m ?_ | with_reducible refine Val.shr8 ?_ | with_reducible refine Val.shr16 (by decide) ?_ | with_reducible refine Val.shr24 (by decide) ?_ | with_reducible refine Val.raw ?_ | refine Branch.not ?_ | refine Branch.and ?_ | refine Branch.or ?_ | refine Branch.dt (by assumption) ?_ | refine Branch.df (by assumption) ?_ | refine Branch.dt rfl ?_ | refine Branch.dt (by omega) ?_ | refine Branch.df (by omega) ?_ | refine Branch.t rfl ?_ | refine Branch.f rfl ?_ | refine Branch.t (by assumption) ?_ | refine Branch.f (by assumption) ?_ | refine Branch.d (fun _ => ?_) (fun _ => ?_) | refine Branch.mk (fun _ => ?_) (fun _ => ?_) | refine Need.mk (by first | omega | decide | rfl) ?_ | refine Idx.nat (by omega) ?_ | refine Idx.auto (by first | omega | decide) (by first | omega | decide) ?_ | refine Cell.ro rfl ?_ | refine SDraw.all (by kernel_rfl) ?_ | refine Kept.k0 ?_ | refine Kept.k1 ?_ | refine Kept.k2 ?_ | refine Kept.k3 ?_ | refine Kept.k4 ?_))
        all_goals first
          | (conv => whnf); exact Keep.d2 h
          | (exfalso; omega)
      | false =>
        have hb2 := hb
        unfold badN at hb2
        simp only [Bool.or_eq_false_iff, decide_eq_false_iff_not] at hb2
        obtain ⟨⟨⟨⟨b1, b2⟩, b3⟩, b4⟩, b5⟩ := hb2
        rw [hb, Bool.false_or] at hgo hnext
        have hfld : fV id x n = (fld ⟨id, x, n, p, j⟩, if okF id x n then 0 else 1) := by
          unfold fld fV
          split <;> rfl
        have h34 := fun H (K2 : Value → Heap → Prop) (hD : Db H) (hk : K2 (.tuple ⟨[.string (strOf (fV id x n).1), .int .i64 (fV id x n).2]⟩) H) => c34 (x := x) (n := n) w1 hD hk
        rw [hfld] at h34
        generalize hF : fld ⟨id, x, n, p, j⟩ = F at *
        dsimp only at h34
        cases ho : okF id x n with
        | false =>
          rw [ho, Bool.not_false, if_pos rfl] at hgo
          rw [ho] at h34
          rw [← hgo] at h
          clear hnext hin1
          repeat' ((conv => whnf); (first | refine Look.cells (.tail _ hm) rfl hc ?_ | refine c35 ?_ | refine h34 _ _ (hD2 _ _) ?_ | exact Keep.d2 h | refine New.mk (fun _ => ?_) | refine Look.at0 ?_ | refine Cell.row ?_ | refine Cell.buf ?_ | refine Cells.row rfl ?_ | refine Put.row rfl ?_ | refine Put.buf rfl ?_ | refine Look.at1 ?_ | refine Look.at2 ?_ | refine Look.at3 ?_ | refine Look.at4 ?_ | refine Look.at5 ?_ | refine Look.at6 ?_ | refine Look.at7 ?_ | refine Look.at8 ?_ | with_reducible refine Val.i64 (by omega) (by omega) ?_ | with_reducible refine Val.u8 (by omega) (by omega) ?_ | with_reducible refine Val.u32 (by omega) (by omega) ?_ | with_reducible refine Val.u64 (by omega) (by omega) ?_ | with_reducible refine Val.u8m ?_ | with_reducible refine Val.u32m ?_ | with_reducible refine Val.u64m ?_ | with_reducible refine Val.shr8 ?_ | with_reducible refine Val.shr16 (by decide) ?_ | with_reducible refine Val.shr24 (by decide) ?_ | with_reducible refine Val.raw ?_ | refine Branch.not ?_ | refine Branch.and ?_ | refine Branch.or ?_ | refine Branch.dt (by assumption) ?_ | refine Branch.df (by assumption) ?_ | refine Branch.dt rfl ?_ | refine Branch.dt (by omega) ?_ | refine Branch.df (by omega) ?_ | refine Branch.t rfl ?_ | refine Branch.f rfl ?_ | refine Branch.t (by assumption) ?_ | refine Branch.f (by assumption) ?_ | refine Branch.d (fun _ => ?_) (fun _ => ?_) | refine Branch.mk (fun _ => ?_) (fun _ => ?_) | refine Need.mk (by first | omega | decide | rfl) ?_ | refine Idx.nat (by omega) ?_ | refine Idx.auto (by first | omega | decide) (by first | omega | decide) ?_ | refine Cell.ro rfl ?_ | refine SDraw.all (by kernel_rfl) ?_ | refine Kept.k0 ?_ | refine Kept.k1 ?_ | refine Kept.k2 ?_ | refine Kept.k3 ?_ | refine Kept.k4 ?_))
        | true =>
          rw [ho, Bool.not_true, if_neg (by decide)] at hgo
          rw [ho] at h34 hnext
          repeat' ((conv => whnf); (first | refine Look.cells (.tail _ hm) rfl hc ?_ | refine c35 ?_ | refine h34 _ _ (hD2 _ _) ?_ | refine RawV.look (f := kS) (a := F) rfl hty81 keysS (.tail _ (.head _)) (fun hno => ?_) (fun i e hi he => ?_) | refine RawV.upd (A := [_]) (f := kS) (a := F) rfl hty81 keysS (fun hno2 => ?_) (fun i e hi he => ?_) | (rw [hvals _ (List.mem_of_getElem? hi)]) | refine New.mk (fun _ => ?_) | refine Look.at0 ?_ | refine Cell.row ?_ | refine Cell.buf ?_ | refine Cells.row rfl ?_ | refine Put.row rfl ?_ | refine Put.buf rfl ?_ | refine Look.at1 ?_ | refine Look.at2 ?_ | refine Look.at3 ?_ | refine Look.at4 ?_ | refine Look.at5 ?_ | refine Look.at6 ?_ | refine Look.at7 ?_ | refine Look.at8 ?_ | with_reducible refine Val.i64 (by omega) (by omega) ?_ | with_reducible refine Val.u8 (by omega) (by omega) ?_ | with_reducible refine Val.u32 (by omega) (by omega) ?_ | with_reducible refine Val.u64 (by omega) (by omega) ?_ | with_reducible refine Val.u8m ?_ | with_reducible refine Val.u32m ?_ | with_reducible refine Val.u64m ?_ | with_reducible refine Val.shr8 ?_ | with_reducible refine Val.shr16 (by decide) ?_ | with_reducible refine Val.shr24 (by decide) ?_ | with_reducible refine Val.raw ?_ | refine Branch.not ?_ | refine Branch.and ?_ | refine Branch.or ?_ | refine Branch.dt (by assumption) ?_ | refine Branch.df (by assumption) ?_ | refine Branch.dt rfl ?_ | refine Branch.dt (by omega) ?_ | refine Branch.df (by omega) ?_ | refine Branch.t rfl ?_ | refine Branch.f rfl ?_ | refine Branch.t (by assumption) ?_ | refine Branch.f (by assumption) ?_ | refine Branch.d (fun _ => ?_) (fun _ => ?_) | refine Branch.mk (fun _ => ?_) (fun _ => ?_) | refine Need.mk (by first | omega | decide | rfl) ?_ | refine Idx.nat (by omega) ?_ | refine Idx.auto (by first | omega | decide) (by first | omega | decide) ?_ | refine Cell.ro rfl ?_ | refine SDraw.all (by kernel_rfl) ?_ | refine Kept.k0 ?_ | refine Kept.k1 ?_ | refine Kept.k2 ?_ | refine Kept.k3 ?_ | refine Kept.k4 ?_))
          all_goals (conv => whnf)
          · have hnin : ((L.take k).any fun y => decide (fld y = F)) = false := by
              cases hq : ((L.take k).any fun y => decide (fld y = F)) with
              | false => rfl
              | true =>
                obtain ⟨e, he1, he2⟩ := hin1.1 hq
                exact absurd he2 (hno e he1)
            exact hnext _ _ rfl hnin .mk
          · exact absurd he (hno e (List.mem_of_getElem? hi))
          · rw [if_pos (hin1.2 ⟨e, List.mem_of_getElem? hi, he⟩)] at hgo
            rw [← hgo] at h
            exact Keep.d2 h
    · have e : k = L.length := by omega
      subst e
      rw [List.drop_length, chkGo] at hgo
      rw [← hgo] at h
      repeat' ((conv => whnf); (first | refine New.mk (fun _ => ?_) | refine Look.at0 ?_ | refine Cell.row ?_ | refine Cell.buf ?_ | refine Cells.row rfl ?_ | refine Put.row rfl ?_ | refine Put.buf rfl ?_ | refine Look.at1 ?_ | refine Look.at2 ?_ | refine Look.at3 ?_ | refine Look.at4 ?_ | refine Look.at5 ?_ | refine Look.at6 ?_ | refine Look.at7 ?_ | refine Look.at8 ?_ | with_reducible refine Val.i64 (by omega) (by omega) ?_ | with_reducible refine Val.u8 (by omega) (by omega) ?_ | with_reducible refine Val.u32 (by omega) (by omega) ?_ | with_reducible refine Val.u64 (by omega) (by omega) ?_ | with_reducible refine Val.u8m ?_ | with_reducible refine Val.u32m ?_ | with_reducible refine Val.u64m ?_ | with_reducible refine Val.shr8 ?_ | with_reducible refine Val.shr16 (by decide) ?_ | with_reducible refine Val.shr24 (by decide) ?_ | with_reducible refine Val.raw ?_ | refine Branch.not ?_ | refine Branch.and ?_ | refine Branch.or ?_ | refine Branch.dt (by assumption) ?_ | refine Branch.df (by assumption) ?_ | refine Branch.dt rfl ?_ | refine Branch.dt (by omega) ?_ | refine Branch.df (by omega) ?_ | refine Branch.t rfl ?_ | refine Branch.f rfl ?_ | refine Branch.t (by assumption) ?_ | refine Branch.f (by assumption) ?_ | refine Branch.d (fun _ => ?_) (fun _ => ?_) | refine Branch.mk (fun _ => ?_) (fun _ => ?_) | refine Need.mk (by first | omega | decide | rfl) ?_ | refine Idx.nat (by omega) ?_ | refine Idx.auto (by first | omega | decide) (by first | omega | decide) ?_ | refine Cell.ro rfl ?_ | refine SDraw.all (by kernel_rfl) ?_ | refine Kept.k0 ?_ | refine Kept.k1 ?_ | refine Kept.k2 ?_ | refine Kept.k3 ?_ | refine Kept.k4 ?_))
      all_goals (conv => whnf)
      exact Keep.d1 h
def I16 (sv : Value) (L : List Msg) (T : Int) (H : Heap) (k : Nat) (S : List Value) (H' : Heap) : Prop :=
  k ≤ L.length ∧ chkGo (L.take k) (L.drop k) = T ∧ S16 sv (.int .i64 (k : Int)) S ∧ H' = H
def I16a (sv : Value) (L : List Msg) (m : Msg) (k : Nat) (q : Nat) (H : Heap) (i : Nat) (S : List Value) (H' : Heap) : Prop :=
  i ≤ k ∧ (∀ y ∈ L.take i, fld y ≠ fld m) ∧ S16a sv (.int .i64 (k : Int)) (ptr q) (.int .i64 (i : Int)) S ∧ H' = (q, .row 30 (mC m) (0, 0)) :: H
theorem c16 (hin : InS mC 5 sv H L) (hwf : ∀ m ∈ L, m.wf) (h : K (.int .i64 (chk L)) H) : SCalls Tryd.prog 16 [sv] H K := by
  obtain ⟨sa, sc, rfl, hml⟩ := hin.sv
  have hml' : L.length ≤ 9223372036854775807 := by simp only [maxLen] at hml; omega
  refine enter16 ?_
  unfold chk at h
  by_cases hl : 64 < L.length
  · rw [if_pos hl] at h
    repeat' ((conv => whnf); (first | exact Keep.all h | refine New.mk (fun _ => ?_) | refine Look.at0 ?_ | refine Cell.row ?_ | refine Cell.buf ?_ | refine Cells.row rfl ?_ | refine Put.row rfl ?_ | refine Put.buf rfl ?_ | refine Look.at1 ?_ | refine Look.at2 ?_ | refine Look.at3 ?_ | refine Look.at4 ?_ | refine Look.at5 ?_ | refine Look.at6 ?_ | refine Look.at7 ?_ | refine Look.at8 ?_ | with_reducible refine Val.i64 (by omega) (by omega) ?_ | with_reducible refine Val.u8 (by omega) (by omega) ?_ | with_reducible refine Val.u32 (by omega) (by omega) ?_ | with_reducible refine Val.u64 (by omega) (by omega) ?_ | with_reducible refine Val.u8m ?_ | with_reducible refine Val.u32m ?_ | with_reducible refine Val.u64m ?_ | with_reducible refine Val.shr8 ?_ | with_reducible refine Val.shr16 (by decide) ?_ | with_reducible refine Val.shr24 (by decide) ?_ | with_reducible refine Val.raw ?_ | refine Branch.not ?_ | refine Branch.and ?_ | refine Branch.or ?_ | refine Branch.dt (by assumption) ?_ | refine Branch.df (by assumption) ?_ | refine Branch.dt rfl ?_ | refine Branch.dt (by omega) ?_ | refine Branch.df (by omega) ?_ | refine Branch.t rfl ?_ | refine Branch.f rfl ?_ | refine Branch.t (by assumption) ?_ | refine Branch.f (by assumption) ?_ | refine Branch.d (fun _ => ?_) (fun _ => ?_) | refine Branch.mk (fun _ => ?_) (fun _ => ?_) | refine Need.mk (by first | omega | decide | rfl) ?_ | refine Idx.nat (by omega) ?_ | refine Idx.auto (by first | omega | decide) (by first | omega | decide) ?_ | refine Cell.ro rfl ?_ | refine SDraw.all (by kernel_rfl) ?_ | refine Kept.k0 ?_ | refine Kept.k1 ?_ | refine Kept.k2 ?_ | refine Kept.k3 ?_ | refine Kept.k4 ?_))
  · rw [if_neg hl] at h
    generalize hT : chkGo [] L = T at h
    repeat' ((conv => whnf); (first | refine New.mk (fun _ => ?_) | refine Look.at0 ?_ | refine Cell.row ?_ | refine Cell.buf ?_ | refine Cells.row rfl ?_ | refine Put.row rfl ?_ | refine Put.buf rfl ?_ | refine Look.at1 ?_ | refine Look.at2 ?_ | refine Look.at3 ?_ | refine Look.at4 ?_ | refine Look.at5 ?_ | refine Look.at6 ?_ | refine Look.at7 ?_ | refine Look.at8 ?_ | with_reducible refine Val.i64 (by omega) (by omega) ?_ | with_reducible refine Val.u8 (by omega) (by omega) ?_ | with_reducible refine Val.u32 (by omega) (by omega) ?_ | with_reducible refine Val.u64 (by omega) (by omega) ?_ | with_reducible refine Val.u8m ?_ | with_reducible refine Val.u32m ?_ | with_reducible refine Val.u64m ?_ | with_reducible refine Val.shr8 ?_ | with_reducible refine Val.shr16 (by decide) ?_ | with_reducible refine Val.shr24 (by decide) ?_ | with_reducible refine Val.raw ?_ | refine Branch.not ?_ | refine Branch.and ?_ | refine Branch.or ?_ | refine Branch.dt (by assumption) ?_ | refine Branch.df (by assumption) ?_ | refine Branch.dt rfl ?_ | refine Branch.dt (by omega) ?_ | refine Branch.df (by omega) ?_ | refine Branch.t rfl ?_ | refine Branch.f rfl ?_ | refine Branch.t (by assumption) ?_ | refine Branch.f (by assumption) ?_ | refine Branch.d (fun _ => ?_) (fun _ => ?_) | refine Branch.mk (fun _ => ?_) (fun _ => ?_) | refine Need.mk (by first | omega | decide | rfl) ?_ | refine Idx.nat (by omega) ?_ | refine Idx.auto (by first | omega | decide) (by first | omega | decide) ?_ | refine Cell.ro rfl ?_ | refine SDraw.all (by kernel_rfl) ?_ | refine Kept.k0 ?_ | refine Kept.k1 ?_ | refine Kept.k2 ?_ | refine Kept.k3 ?_ | refine Kept.k4 ?_))
    refine SLoop.invA (I16 (.slice sa L.length sc) L T H) (fun y => L.length - y) 0 (Keep.all ⟨by simp, hT, .mk, rfl⟩) ?_
    rintro k S H' ⟨hk, hgo, hS, rfl⟩ R hR
    cases hS
    by_cases hlt : k < L.length
    · obtain ⟨m, hx, hdrop, htake⟩ := list_at hlt
      obtain ⟨r, o, c, b, e1, hm, hc⟩ := inS_at hin (fun _ => rfl) hx
      injection e1 with e1 _ e3
      subst e1
      have hmw := hwf m (List.mem_of_getElem? hx)
      rw [hdrop, chkGo] at hgo
      have hnext : ∀ S (y1 : Nat × Blk), (badN m.n m.p m.j || !okF m.id m.x m.n) = false → ((L.take k).any fun y => decide (fld y = fld m)) = false → S16 (.slice (some ⟨r, o, none⟩) L.length sc) (.int .i64 ((k + 1 : Nat) : Int)) S → R S (y1 :: H') := fun S y1 h1 h2 h3 => by
        rw [if_neg (by rw [h1]; decide), if_neg (by rw [h2]; decide), ← htake] at hgo
        exact hR (k + 1) _ _ (by show L.length - (k + 1) < L.length - k; omega) (Keep.d1 ⟨by show k + 1 ≤ L.length; omega, hgo, h3, rfl⟩)
      clear hR hT htake
      obtain ⟨id, x, n, p, j⟩ := m
      obtain ⟨w1, w2, w3, w4, w5⟩ := hmw
      have hc : ∀ i v, ([.int .u32 (id : Int), .bool x, .int .i64 n, .int .u64 (p : Int), .int .u64 (j : Int)] : List Value)[i]? = some v → b.cell (o + k * 5 + i) = some v := hc
      dsimp only at hgo hnext hc hx w1 w2 w3 w4 w5
      have h32 := fun H (K2 : Value → Heap → Prop) (hk : K2 (.int .i64 (if okF id x n then 0 else 1)) H) => c32 (H := H) (K := K2) hk
      cases hb : badN n p j with
      | true =>
        rw [hb, Bool.true_or, if_pos rfl] at hgo
        rw [← hgo] at h
        unfold badN at hb
        simp only [Bool.or_eq_true, decide_eq_true_eq] at hb
        clear hnext
        cases ho : okF id x n with
        | false =>
          rw [ho] at h32
          repeat' ((conv => whnf); (first | refine Look.cells hm rfl hc ?_ | refine c26 ?_ | refine h32 _ _ ?_ | exact Keep.d1 h | refine New.mk (fun _ => ?_) | refine Look.at0 ?_ | refine Cell.row ?_ | refine Cell.buf ?_ | refine Cells.row rfl ?_ | refine Put.row rfl ?_ | refine Put.buf rfl ?_ | refine Look.at1 ?_ | refine Look.at2 ?_ | refine Look.at3 ?_ | refine Look.at4 ?_ | refine Look.at5 ?_ | refine Look.at6 ?_ | refine Look.at7 ?_ | refine Look.at8 ?_ | with_reducible refine Val.i64 (by omega) (by omega) ?_ | with_reducible refine Val.u8 (by omega) (by omega) ?_ | with_reducible refine Val.u32 (by omega) (by omega) ?_ | with_reducible refine Val.u64 (by omega) (by omega) ?_ | with_reducible refine Val.u8m ?_ | with_reducible refine Val.u32m ?_ | with_reducible refine Val.u64m ?_ | with_reducible refine Val.shr8 ?_ | with_reducible refine Val.shr16 (by decide) ?_ | with_reducible refine Val.shr24 (by decide) ?_ | with_reducible refine Val.raw ?_ | refine Branch.not ?_ | refine Branch.and ?_ | refine Branch.or ?_ | refine Branch.dt (by assumption) ?_ | refine Branch.df (by assumption) ?_ | refine Branch.dt rfl ?_ | refine Branch.dt (by omega) ?_ | refine Branch.df (by omega) ?_ | refine Branch.t rfl ?_ | refine Branch.f rfl ?_ | refine Branch.t (by assumption) ?_ | refine Branch.f (by assumption) ?_ | refine Branch.d (fun _ => ?_) (fun _ => ?_) | refine Branch.mk (fun _ => ?_) (fun _ => ?_) | refine Need.mk (by first | omega | decide | rfl) ?_ | refine Idx.nat (by omega) ?_ | refine Idx.auto (by first | omega | decide) (by first | omega | decide) ?_ | refine Cell.ro rfl ?_ | refine SDraw.all (by kernel_rfl) ?_ | refine Kept.k0 ?_ | refine Kept.k1 ?_ | refine Kept.k2 ?_ | refine Kept.k3 ?_ | refine Kept.k4 ?_))
        | true =>
          rw [ho] at h32
          repeat' ((conv => whnf); (first | refine Look.cells hm rfl hc ?_ | refine c26 ?_ | refine h32 _ _ ?_ | exact Keep.d1 h | refine New.mk (fun _ => ?_) | refine Look.at0 ?_ | refine Cell.row ?_ | refine Cell.buf ?_ | refine Cells.row rfl ?_ | refine Put.row rfl ?_ | refine Put.buf rfl ?_ | refine Look.at1 ?_ | refine Look.at2 ?_ | refine Look.at3 ?_ | refine Look.at4 ?_ | refine Look.at5 ?_ | refine Look.at6 ?_ | refine Look.at7 ?_ | refine Look.at8 ?_ | with_reducible refine Val.i64 (by omega) (by omega) ?_ | with_reducible refine Val.u8 (by omega) (by omega) ?_ | with_reducible refine Val.u32 (by omega) (by omega) ?_ | with_reducible refine Val.u64 (by omega) (by omega) ?_ | with_reducible refine Val.u8m ?_ | with_reducible refine Val.u32m ?_ | with_reducible refine Val.u64m ?_ | with_reducible refine Val.shr8 ?_ | with_reducible refine Val.shr16 (by decide) ?_ | with_reducible refine Val.shr24 (by decide) ?_ | with_reducible refine Val.raw ?_ | refine Branch.not ?_ | refine Branch.and ?_ | refine Branch.or ?_ | refine Branch.dt (by assumption) ?_ | refine Branch.df (by assumption) ?_ | refine Branch.dt rfl ?_ | refine Branch.dt (by omega) ?_ | refine Branch.df (by omega) ?_ | refine Branch.t rfl ?_ | refine Branch.f rfl ?_ | refine Branch.t (by assumption) ?_ | refine Branch.f (by assumption) ?_ | refine Branch.d (fun _ => ?_) (fun _ => ?_) | refine Branch.mk (fun _ => ?_) (fun _ => ?_) | refine Need.mk (by first | omega | decide | rfl) ?_ | refine Idx.nat (by omega) ?_ | refine Idx.auto (by first | omega | decide) (by first | omega | decide) ?_ | refine Cell.ro rfl ?_ | refine SDraw.all (by kernel_rfl) ?_ | refine Kept.k0 ?_ | refine Kept.k1 ?_ | refine Kept.k2 ?_ | refine Kept.k3 ?_ | refine Kept.k4 ?_))
          all_goals (exfalso; omega)
      | false =>
        have hb2 := hb
        unfold badN at hb2
        simp only [Bool.or_eq_false_iff, decide_eq_false_iff_not] at hb2
        obtain ⟨⟨⟨⟨b1, b2⟩, b3⟩, b4⟩, b5⟩ := hb2
        rw [hb, Bool.false_or] at hgo hnext
        cases ho : okF id x n with
        | false =>
          rw [ho, Bool.not_false, if_pos rfl] at hgo
          rw [ho] at h32
          rw [← hgo] at h
          clear hnext
          repeat' ((conv => whnf); (first | refine Look.cells hm rfl hc ?_ | refine c26 ?_ | refine h32 _ _ ?_ | exact Keep.d1 h | refine New.mk (fun _ => ?_) | refine Look.at0 ?_ | refine Cell.row ?_ | refine Cell.buf ?_ | refine Cells.row rfl ?_ | refine Put.row rfl ?_ | refine Put.buf rfl ?_ | refine Look.at1 ?_ | refine Look.at2 ?_ | refine Look.at3 ?_ | refine Look.at4 ?_ | refine Look.at5 ?_ | refine Look.at6 ?_ | refine Look.at7 ?_ | refine Look.at8 ?_ | with_reducible refine Val.i64 (by omega) (by omega) ?_ | with_reducible refine Val.u8 (by omega) (by omega) ?_ | with_reducible refine Val.u32 (by omega) (by omega) ?_ | with_reducible refine Val.u64 (by omega) (by omega) ?_ | with_reducible refine Val.u8m ?_ | with_reducible refine Val.u32m ?_ | with_reducible refine Val.u64m ?_ | with_reducible refine Val.shr8 ?_ | with_reducible refine Val.shr16 (by decide) ?_ | with_reducible refine Val.shr24 (by decide) ?_ | with_reducible refine Val.raw ?_ | refine Branch.not ?_ | refine Branch.and ?_ | refine Branch.or ?_ | refine Branch.dt (by assumption) ?_ | refine Branch.df (by assumption) ?_ | refine Branch.dt rfl ?_ | refine Branch.dt (by omega) ?_ | refine Branch.df (by omega) ?_ | refine Branch.t rfl ?_ | refine Branch.f rfl ?_ | refine Branch.t (by assumption) ?_ | refine Branch.f (by assumption) ?_ | refine Branch.d (fun _ => ?_) (fun _ => ?_) | refine Branch.mk (fun _ => ?_) (fun _ => ?_) | refine Need.mk (by first | omega | decide | rfl) ?_ | refine Idx.nat (by omega) ?_ | refine Idx.auto (by first | omega | decide) (by first | omega | decide) ?_ | refine Cell.ro rfl ?_ | refine SDraw.all (by kernel_rfl) ?_ | refine Kept.k0 ?_ | refine Kept.k1 ?_ | refine Kept.k2 ?_ | refine Kept.k3 ?_ | refine Kept.k4 ?_))
        | true =>
          rw [ho, Bool.not_true, if_neg (by decide)] at hgo
          rw [ho] at h32 hnext
          repeat' ((conv => whnf); (first | refine Look.cells hm rfl hc ?_ | refine c26 ?_ | refine h32 _ _ ?_ | refine New.mk (fun _ => ?_) | refine Look.at0 ?_ | refine Cell.row ?_ | refine Cell.buf ?_ | refine Cells.row rfl ?_ | refine Put.row rfl ?_ | refine Put.buf rfl ?_ | refine Look.at1 ?_ | refine Look.at2 ?_ | refine Look.at3 ?_ | refine Look.at4 ?_ | refine Look.at5 ?_ | refine Look.at6 ?_ | refine Look.at7 ?_ | refine Look.at8 ?_ | with_reducible refine Val.i64 (by omega) (by omega) ?_ | with_reducible refine Val.u8 (by omega) (by omega) ?_ | with_reducible refine Val.u32 (by omega) (by omega) ?_ | with_reducible refine Val.u64 (by omega) (by omega) ?_ | with_reducible refine Val.u8m ?_ | with_reducible refine Val.u32m ?_ | with_reducible refine Val.u64m ?_ | with_reducible refine Val.shr8 ?_ | with_reducible refine Val.shr16 (by decide) ?_ | with_reducible refine Val.shr24 (by decide) ?_ | with_reducible refine Val.raw ?_ | refine Branch.not ?_ | refine Branch.and ?_ | refine Branch.or ?_ | refine Branch.dt (by assumption) ?_ | refine Branch.df (by assumption) ?_ | refine Branch.dt rfl ?_ | refine Branch.dt (by omega) ?_ | refine Branch.df (by omega) ?_ | refine Branch.t rfl ?_ | refine Branch.f rfl ?_ | refine Branch.t (by assumption) ?_ | refine Branch.f (by assumption) ?_ | refine Branch.d (fun _ => ?_) (fun _ => ?_) | refine Branch.mk (fun _ => ?_) (fun _ => ?_) | refine Need.mk (by first | omega | decide | rfl) ?_ | refine Idx.nat (by omega) ?_ | refine Idx.auto (by first | omega | decide) (by first | omega | decide) ?_ | refine Cell.ro rfl ?_ | refine SDraw.all (by kernel_rfl) ?_ | refine Kept.k0 ?_ | refine Kept.k1 ?_ | refine Kept.k2 ?_ | refine Kept.k3 ?_ | refine Kept.k4 ?_))
          rename_i q
          refine SLoop.invA (I16a (.slice (some ⟨r, o, none⟩) L.length sc) L ⟨id, x, n, p, j⟩ k q H') (fun i => k - i) 0 (Keep.all ⟨by simp, by simp, .mk, rfl⟩) ?_
          rintro i S H2 ⟨hi, hno, hS, rfl⟩ R2 hR2
          cases hS
          by_cases hik : i < k
          · obtain ⟨y, hy, hdrop2, htake2⟩ := list_at (L := L) (j := i) (by omega)
            obtain ⟨r', o', c', b', e1', hm', hc'⟩ := inS_at hin (fun _ => rfl) hy
            injection e1' with e1' _ e3'
            injection e1' with e1'
            injection e1' with e4 e5
            subst e4 e5
            have hnext2 := fun S (hne : fld y ≠ fld ⟨id, x, n, p, j⟩) (hS : S16a (.slice (some ⟨r, o, none⟩) L.length sc) (.int .i64 (k : Int)) (ptr q) (.int .i64 ((i + 1 : Nat) : Int)) S) => hR2 (i + 1) S ((q, .row 30 (mC ⟨id, x, n, p, j⟩) (0, 0)) :: H') (by omega) (Keep.all ⟨by omega, (by
              intro z hz
              rw [htake2] at hz
              rcases List.mem_append.1 hz with hz | hz
              · exact hno z hz
              · obtain rfl := List.mem_singleton.1 hz
                exact hne), hS, rfl⟩)
            clear hnext hR2
            have hany : fld y = fld ⟨id, x, n, p, j⟩ → ((L.take k).any fun y => decide (fld y = fld ⟨id, x, n, p, j⟩)) = true := fun he => by
              rw [List.any_eq_true]
              exact ⟨y, List.mem_of_getElem? (i := i) (by rw [List.getElem?_take_of_lt hik]; exact hy), by rw [he]; simp⟩
            obtain ⟨yid, yx, yn, yp, yj⟩ := y
            have hc' : ∀ i' v, ([.int .u32 (yid : Int), .bool yx, .int .i64 yn, .int .u64 (yp : Int), .int .u64 (yj : Int)] : List Value)[i']? = some v → b'.cell (o + i * 5 + i') = some v := hc'
            dsimp only [fld] at hany hnext2 hgo
            by_cases he : (fV yid yx yn).1 = (fV id x n).1
            · rw [if_pos (hany he)] at hgo
              rw [← hgo] at h
              have he2 : decide (strOf (fV yid yx yn).1 = strOf (fV id x n).1) = true := by rw [he]; simp
              repeat' ((conv => whnf); (first | refine Look.cells (.tail _ hm') rfl hc' ?_ | refine c13 ?_ | refine Branch.t he2 ?_ | exact Keep.d1 h | refine New.mk (fun _ => ?_) | refine Look.at0 ?_ | refine Cell.row ?_ | refine Cell.buf ?_ | refine Cells.row rfl ?_ | refine Put.row rfl ?_ | refine Put.buf rfl ?_ | refine Look.at1 ?_ | refine Look.at2 ?_ | refine Look.at3 ?_ | refine Look.at4 ?_ | refine Look.at5 ?_ | refine Look.at6 ?_ | refine Look.at7 ?_ | refine Look.at8 ?_ | with_reducible refine Val.i64 (by omega) (by omega) ?_ | with_reducible refine Val.u8 (by omega) (by omega) ?_ | with_reducible refine Val.u32 (by omega) (by omega) ?_ | with_reducible refine Val.u64 (by omega) (by omega) ?_ | with_reducible refine Val.u8m ?_ | with_reducible refine Val.u32m ?_ | with_reducible refine Val.u64m ?_ | with_reducible refine Val.shr8 ?_ | with_reducible refine Val.shr16 (by decide) ?_ | with_reducible refine Val.shr24 (by decide) ?_ | with_reducible refine Val.raw ?_ | refine Branch.not ?_ | refine Branch.and ?_ | refine Branch.or ?_ | refine Branch.dt (by assumption) ?_ | refine Branch.df (by assumption) ?_ | refine Branch.dt rfl ?_ | refine Branch.dt (by omega) ?_ | refine Branch.df (by omega) ?_ | refine Branch.t rfl ?_ | refine Branch.f rfl ?_ | refine Branch.t (by assumption) ?_ | refine Branch.f (by assumption) ?_ | refine Branch.d (fun _ => ?_) (fun _ => ?_) | refine Branch.mk (fun _ => ?_) (fun _ => ?_) | refine Need.mk (by first | omega | decide | rfl) ?_ | refine Idx.nat (by omega) ?_ | refine Idx.auto (by first | omega | decide) (by first | omega | decide) ?_ | refine Cell.ro rfl ?_ | refine SDraw.all (by kernel_rfl) ?_ | refine Kept.k0 ?_ | refine Kept.k1 ?_ | refine Kept.k2 ?_ | refine Kept.k3 ?_ | refine Kept.k4 ?_))
            · have he2 : decide (strOf (fV yid yx yn).1 = strOf (fV id x n).1) = false := by rw [strOf_eq]; exact decide_eq_false he
              repeat' ((conv => whnf); (first | refine Look.cells (.tail _ hm') rfl hc' ?_ | refine c13 ?_ | refine Branch.f he2 ?_ | exact hnext2 _ he .mk | refine New.mk (fun _ => ?_) | refine Look.at0 ?_ | refine Cell.row ?_ | refine Cell.buf ?_ | refine Cells.row rfl ?_ | refine Put.row rfl ?_ | refine Put.buf rfl ?_ | refine Look.at1 ?_ | refine Look.at2 ?_ | refine Look.at3 ?_ | refine Look.at4 ?_ | refine Look.at5 ?_ | refine Look.at6 ?_ | refine Look.at7 ?_ | refine Look.at8 ?_ | with_reducible refine Val.i64 (by omega) (by omega) ?_ | with_reducible refine Val.u8 (by omega) (by omega) ?_ | with_reducible refine Val.u32 (by omega) (by omega) ?_ | with_reducible refine Val.u64 (by omega) (by omega) ?_ | with_reducible refine Val.u8m ?_ | with_reducible refine Val.u32m ?_ | with_reducible refine Val.u64m ?_ | with_reducible refine Val.shr8 ?_ | with_reducible refine Val.shr16 (by decide) ?_ | with_reducible refine Val.shr24 (by decide) ?_ | with_reducible refine Val.raw ?_ | refine Branch.not ?_ | refine Branch.and ?_ | refine Branch.or ?_ | refine Branch.dt (by assumption) ?_ | refine Branch.df (by assumption) ?_ | refine Branch.dt rfl ?_ | refine Branch.dt (by omega) ?_ | refine Branch.df (by omega) ?_ | refine Branch.t rfl ?_ | refine Branch.f rfl ?_ | refine Branch.t (by assumption) ?_ | refine Branch.f (by assumption) ?_ | refine Branch.d (fun _ => ?_) (fun _ => ?_) | refine Branch.mk (fun _ => ?_) (fun _ => ?_) | refine Need.mk (by first | omega | decide | rfl) ?_ | refine Idx.nat (by omega) ?_ | refine Idx.auto (by first | omega | decide) (by first | omega | decide) ?_ | refine Cell.ro rfl ?_ | refine SDraw.all (by kernel_rfl) ?_ | refine Kept.k0 ?_ | refine Kept.k1 ?_ | refine Kept.k2 ?_ | refine Kept.k3 ?_ | refine Kept.k4 ?_))
          · obtain rfl : i = k := by omega
            have hany : ((L.take i).any fun y => decide (fld y = fld ⟨id, x, n, p, j⟩)) = false := by
              rw [List.any_eq_false]
              intro y hy
              simpa using hno y hy
            clear hR2
            repeat' ((conv => whnf); (first | exact hnext _ _ rfl hany .mk | refine New.mk (fun _ => ?_) | refine Look.at0 ?_ | refine Cell.row ?_ | refine Cell.buf ?_ | refine Cells.row rfl ?_ | refine Put.row rfl ?_ | refine Put.buf rfl ?_ | refine Look.at1 ?_ | refine Look.at2 ?_ | refine Look.at3 ?_ | refine Look.at4 ?_ | refine Look.at5 ?_ | refine Look.at6 ?_ | refine Look.at7 ?_ | refine Look.at8 ?_ | with_reducible refine Val.i64 (by omega) (by omega) ?_ | with_reducible refine Val.u8 (by omega) (by omega) ?_ | with_reducible refine Val.u32 (by omega) (by omega) ?_ | with_reducible refine Val.u64 (by omega) (by omega) ?_ | with_reducible refine Val.u8m ?_ | with_reducible refine Val.u32m ?_ | with_reducible refine Val.u64m ?_ | with_reducible refine Val.shr8 ?_ | with_reducible refine Val.shr16 (by decide) ?_ | with_reducible refine Val.shr24 (by decide) ?_ | with_reducible refine Val.raw ?_ | refine Branch.not ?_ | refine Branch.and ?_ | refine Branch.or ?_ | refine Branch.dt (by assumption) ?_ | refine Branch.df (by assumption) ?_ | refine Branch.dt rfl ?_ | refine Branch.dt (by omega) ?_ | refine Branch.df (by omega) ?_ | refine Branch.t rfl ?_ | refine Branch.f rfl ?_ | refine Branch.t (by assumption) ?_ | refine Branch.f (by assumption) ?_ | refine Branch.d (fun _ => ?_) (fun _ => ?_) | refine Branch.mk (fun _ => ?_) (fun _ => ?_) | refine Need.mk (by first | omega | decide | rfl) ?_ | refine Idx.nat (by omega) ?_ | refine Idx.auto (by first | omega | decide) (by first | omega | decide) ?_ | refine Cell.ro rfl ?_ | refine SDraw.all (by kernel_rfl) ?_ | refine Kept.k0 ?_ | refine Kept.k1 ?_ | refine Kept.k2 ?_ | refine Kept.k3 ?_ | refine Kept.k4 ?_))
    · have e : k = L.length := by omega
      subst e
      rw [List.drop_length, chkGo] at hgo
      rw [← hgo] at h
      repeat' ((conv => whnf); (first | exact Keep.all h | refine New.mk (fun _ => ?_) | refine Look.at0 ?_ | refine Cell.row ?_ | refine Cell.buf ?_ | refine Cells.row rfl ?_ | refine Put.row rfl ?_ | refine Put.buf rfl ?_ | refine Look.at1 ?_ | refine Look.at2 ?_ | refine Look.at3 ?_ | refine Look.at4 ?_ | refine Look.at5 ?_ | refine Look.at6 ?_ | refine Look.at7 ?_ | refine Look.at8 ?_ | with_reducible refine Val.i64 (by omega) (by omega) ?_ | with_reducible refine Val.u8 (by omega) (by omega) ?_ | with_reducible refine Val.u32 (by omega) (by omega) ?_ | with_reducible refine Val.u64 (by omega) (by omega) ?_ | with_reducible refine Val.u8m ?_ | with_reducible refine Val.u32m ?_ | with_reducible refine Val.u64m ?_ | with_reducible refine Val.shr8 ?_ | with_reducible refine Val.shr16 (by decide) ?_ | with_reducible refine Val.shr24 (by decide) ?_ | with_reducible refine Val.raw ?_ | refine Branch.not ?_ | refine Branch.and ?_ | refine Branch.or ?_ | refine Branch.dt (by assumption) ?_ | refine Branch.df (by assumption) ?_ | refine Branch.dt rfl ?_ | refine Branch.dt (by omega) ?_ | refine Branch.df (by omega) ?_ | refine Branch.t rfl ?_ | refine Branch.f rfl ?_ | refine Branch.t (by assumption) ?_ | refine Branch.f (by assumption) ?_ | refine Branch.d (fun _ => ?_) (fun _ => ?_) | refine Branch.mk (fun _ => ?_) (fun _ => ?_) | refine Need.mk (by first | omega | decide | rfl) ?_ | refine Idx.nat (by omega) ?_ | refine Idx.auto (by first | omega | decide) (by first | omega | decide) ?_ | refine Cell.ro rfl ?_ | refine SDraw.all (by kernel_rfl) ?_ | refine Kept.k0 ?_ | refine Kept.k1 ?_ | refine Kept.k2 ?_ | refine Kept.k3 ?_ | refine Kept.k4 ?_))
end
end Go.Proofs.YtjleekdidedhaaaDoor

/- Layer 25: how long one takes at most: what is reckoned, and the program's walk. -/
set_option linter.unusedVariables false
set_option linter.unusedSimpArgs false
set_option maxRecDepth 100000
set_option maxHeartbeats 4000000
namespace Go.Proofs.YtjleekdidedhaaaDoor
open Sx
abbrev tlt (a b : List UInt8) : Bool := Op.bytesLess a b
theorem strLt_of (a b : List UInt8) : strLt (strOf a) (strOf b) = tlt a b := by
  unfold strLt
  rw [ByteArray.toList_eq, ByteArray.toList_eq]; rfl
theorem strGt_of (a b : List UInt8) : (!(strLt (strOf a) (strOf b) || decide (strOf a = strOf b))) = tlt b a := by
  rw [strLt_of, strOf_eq]
  cases h : tlt a b with
  | true =>
    have : tlt b a = false := Hp.bl_asym h
    rw [this]; rfl
  | false =>
    by_cases e : a = b
    · subst e
      rw [show tlt a a = false from Hp.bl_irr a]; simp
    · rw [decide_eq_false e]
      cases h2 : tlt b a with
      | true => rfl
      | false => exact absurd (Hp.bl_tri _ _ h h2) e
/-- A message that can be. -/
structure Good (m : Msg) : Prop where
  id : m.id < 4294967296
  n0 : 0 ≤ m.n
  n8 : m.n ≤ 8
  p1 : 1 ≤ m.p
  p2 : m.p ≤ 4294967296
  j : m.j < m.p
  ok : okF m.id m.x m.n = true
/-- Messages that can be. -/
structure Goods (L : List Msg) : Prop where
  len : L.length ≤ 64
  good : ∀ m ∈ L, Good m
  one : (L.map fld).Nodup
theorem chkGo0 : ∀ (L pre : List Msg), (∀ m ∈ L, m.wf) → chkGo pre L = 0 → (∀ m ∈ L, Good m) ∧ (L.map fld).Nodup ∧ ∀ m ∈ L, ∀ y ∈ pre, fld y ≠ fld m
  | [], pre, _, _ => ⟨(fun _ h => by cases h), List.nodup_nil, (fun _ h => by cases h)⟩
  | m :: r, pre, hw, h => by
    rw [chkGo] at h
    by_cases hb : (badN m.n m.p m.j || !okF m.id m.x m.n) = true
    · rw [if_pos hb] at h; cases h
    · rw [if_neg hb] at h
      by_cases ha : (pre.any fun y => decide (fld y = fld m)) = true
      · rw [if_pos ha] at h; cases h
      · rw [if_neg ha] at h
        obtain ⟨g1, g2, g3⟩ := chkGo0 r (pre ++ [m]) (fun x hx => hw x (.tail _ hx)) h
        have hb : (badN m.n m.p m.j || !okF m.id m.x m.n) = false := by simpa using hb
        unfold badN at hb
        simp only [Bool.or_eq_false_iff, decide_eq_false_iff_not, Bool.not_eq_false'] at hb
        obtain ⟨⟨⟨⟨⟨b1, b2⟩, b3⟩, b4⟩, b5⟩, b6⟩ := hb
        have hm : ∀ y ∈ pre, fld y ≠ fld m := fun y hy he => ha (List.any_eq_true.2 ⟨y, hy, decide_eq_true he⟩)
        refine ⟨fun x hx => ?_, ?_, fun x hx y hy => ?_⟩
        · rcases List.mem_cons.1 hx with rfl | hx
          · exact ⟨(hw _ (.head _)).1, by omega, by omega, by omega, by omega, by omega, b6⟩
          · exact g1 x hx
        · rw [List.map_cons, List.nodup_cons]
          refine ⟨fun hx => ?_, g2⟩
          obtain ⟨y, hy, he⟩ := List.mem_map.1 hx
          exact g3 y hy m (by simp) he.symm
        · rcases List.mem_cons.1 hx with rfl | hx
          · exact hm y hy
          · exact g3 x hx y (List.mem_append_left _ hy)
theorem goods_of {L : List Msg} (hw : ∀ m ∈ L, m.wf) (h : chk L = 0) : Goods L := by
  unfold chk at h
  split at h
  · cases h
  · obtain ⟨g1, g2, _⟩ := chkGo0 L [] hw h
    exact ⟨by omega, g1, g2⟩
theorem Goods.ne {L : List Msg} (h : Goods L) {i k : Nat} {a b : Msg} (hi : L[i]? = some a) (hk : L[k]? = some b) (hik : i ≠ k) : fld a ≠ fld b := by
  intro he
  have h1 : (L.map fld)[i]? = some (fld a) := by rw [List.getElem?_map, hi]; rfl
  have h2 : (L.map fld)[k]? = some (fld a) := by rw [List.getElem?_map, hk, he]; rfl
  have hlt := (List.getElem?_eq_some_iff.1 h1).1
  exact hik ((List.getElem?_inj hlt h.one).1 (by rw [h1, h2]))
/-- How long a message is on the wire. -/
def tm (m : Msg) : Nat := (lng m.n m.x).toNat
theorem Good.tm {m : Msg} (h : Good m) : 55 ≤ tm m ∧ tm m ≤ 160 ∧ lng m.n m.x = (tm m : Int) := by
  have := lng_b (x := m.x) h.n0 h.n8
  unfold YtjleekdidedhaaaDoor.tm
  omega
def wB (L : List Msg) (m : Msg) : Nat := L.foldl (fun b y => if tlt (fld m) (fld y) then max b (tm y) else b) (tm m)
def wF (L : List Msg) (m : Msg) : List Msg := L.filter fun y => tlt (fld y) (fld m)
def wAdd (w : Nat) (a : Nat) (y : Msg) : Nat := a + tm y * ((w + y.j) / y.p + 1)
def wStep (L : List Msg) (m : Msg) (w : Nat) : Nat := (wF L m).foldl (wAdd w) (wB L m)
def wIter (L : List Msg) (m : Msg) : Nat → Nat → Nat × Bool
  | 0, _ => (0, false)
  | f + 1, w => if m.p < m.j + w + tm m then (0, false) else if wStep L m w = w then (m.j + w + tm m, true) else wIter L m f (wStep L m w)
def worstS (L : List Msg) (m : Msg) : Nat × Bool := wIter L m (m.p + 1) (wB L m)
theorem wAdd_le (w : Nat) : ∀ (F : List Msg) (a : Nat), a ≤ F.foldl (wAdd w) a
  | [], a => Nat.le_refl a
  | y :: F, a => Nat.le_trans (Nat.le_add_right _ _) (wAdd_le w F (wAdd w a y))
theorem wAdd_mono {w w' : Nat} (hw : w ≤ w') : ∀ (F : List Msg) {a a' : Nat}, a ≤ a' → F.foldl (wAdd w) a ≤ F.foldl (wAdd w') a'
  | [], a, a', h => h
  | y :: F, a, a', h => wAdd_mono hw F (Nat.add_le_add h (Nat.mul_le_mul_left _ (Nat.add_le_add_right (Nat.div_le_div_right (Nat.add_le_add_right hw _)) 1)))
theorem wStep_mono (L : List Msg) (m : Msg) {w w' : Nat} (hw : w ≤ w') : wStep L m w ≤ wStep L m w' := wAdd_mono hw _ (Nat.le_refl _)
theorem wB_le (L : List Msg) (m : Msg) (w : Nat) : wB L m ≤ wStep L m w := wAdd_le w _ _
theorem wIter_fuel (L : List Msg) (m : Msg) : ∀ f g w, m.p + 1 ≤ f + w → m.p + 1 ≤ g + w → w ≤ wStep L m w → wIter L m f w = wIter L m g w
  | 0, 0, _, _, _, _ => rfl
  | 0, g + 1, w, h1, _, _ => by
    show (0, false) = _
    rw [wIter, if_pos (by omega)]
  | f + 1, 0, w, _, h2, _ => by
    show _ = (0, false)
    rw [wIter, if_pos (by omega)]
  | f + 1, g + 1, w, h1, h2, hw => by
    rw [wIter, wIter]
    by_cases hp : m.p < m.j + w + tm m
    · rw [if_pos hp, if_pos hp]
    · rw [if_neg hp, if_neg hp]
      by_cases he : wStep L m w = w
      · rw [if_pos he, if_pos he]
      · rw [if_neg he, if_neg he]
        exact wIter_fuel L m f g _ (by omega) (by omega) (wStep_mono L m hw)
theorem wB_b {L : List Msg} (hG : ∀ y ∈ L, Good y) {m : Msg} (h : Good m) (F : List Msg) (hF : ∀ y ∈ F, y ∈ L) : ∀ b, b ≤ 160 → F.foldl (fun b y => if tlt (fld m) (fld y) then max b (tm y) else b) b ≤ 160 := by
  induction F with
  | nil => exact fun b hb => hb
  | cons y F ih =>
    intro b hb
    refine ih (fun z hz => hF z (.tail _ hz)) _ ?_
    have := (hG y (hF y (.head _))).tm
    dsimp only
    split <;> omega
theorem wAdd_b {y : Msg} (h : Good y) {w : Nat} (hw : w ≤ 4294967296) : tm y * ((w + y.j) / y.p + 1) ≤ 1374389534880 := by
  have h1 := h.tm
  have h2 : (w + y.j) / y.p ≤ 8589934591 := Nat.le_trans (Nat.div_le_self _ _) (by have := h.p2; have := h.j; omega)
  exact Nat.le_trans (Nat.mul_le_mul h1.2.1 (Nat.add_le_add_right h2 1)) (by decide)
theorem wSum_b {w : Nat} (hw : w ≤ 4294967296) : ∀ (F : List Msg) (a : Nat), (∀ y ∈ F, Good y) → F.foldl (wAdd w) a ≤ a + F.length * 1374389534880
  | [], a, _ => by simp
  | y :: F, a, h => by
    have h1 := wSum_b hw F (wAdd w a y) (fun z hz => h z (.tail _ hz))
    have h2 := wAdd_b (h y (.head _)) hw
    rw [List.length_cons, Nat.succ_mul]
    show F.foldl (wAdd w) (wAdd w a y) ≤ _
    unfold wAdd at h1 ⊢
    omega
end Go.Proofs.YtjleekdidedhaaaDoor

/- Layer 25: how long one takes at most: the program's walk. -/
set_option linter.unusedVariables false
set_option linter.unusedSimpArgs false
set_option maxRecDepth 100000
set_option maxHeartbeats 4000000
namespace Go.Proofs.YtjleekdidedhaaaDoor
open Sx
def cmpS (a b : List UInt8) : Int := if tlt a b then -1 else if tlt b a then 1 else 0
inductive S23a (A0 A1 A6 A7 A8 A26 A27 A28 : Value) : List Value → Prop
  | mk {r2 r3 r4 r5 r9 r10 r11 r12 r13 r14 r15 r16 r17 r18 r19 r20 r21 r22 r23 r24 r25 r29 r30 r31 r32 r33 r34 r35 r36 r37 r38 r39 r40 r41 r42 r43 r44 r45 r46 r47 r48 r49 r50 r51 r52 r53 r54 r55 r56 r57 r58 r59 r60 r61 r62 r63 r64 r65 r66 r67 r68 r69 r70 r71 r72 r73 r74 r75 r76 r77 r78 r79 r80 r81 r82 r83 r84 r85 r86 r87 r88 r89 r90 r91 r92 r93 r94 r95 r96 r97 r98 r99 r100 r101 r102 r103 r104 r105 : Value} : S23a A0 A1 A6 A7 A8 A26 A27 A28 [A0, A1, r2, r3, r4, r5, A6, A7, A8, r9, r10, r11, r12, r13, r14, r15, r16, r17, r18, r19, r20, r21, r22, r23, r24, r25, A26, A27, A28, r29, r30, r31, r32, r33, r34, r35, r36, r37, r38, r39, r40, r41, r42, r43, r44, r45, r46, r47, r48, r49, r50, r51, r52, r53, r54, r55, r56, r57, r58, r59, r60, r61, r62, r63, r64, r65, r66, r67, r68, r69, r70, r71, r72, r73, r74, r75, r76, r77, r78, r79, r80, r81, r82, r83, r84, r85, r86, r87, r88, r89, r90, r91, r92, r93, r94, r95, r96, r97, r98, r99, r100, r101, r102, r103, r104, r105]
inductive S23b (A0 A1 A7 A8 A12 : Value) : List Value → Prop
  | mk {r2 r3 r4 r5 r6 r9 r10 r11 r13 r14 r15 r16 r17 r18 r19 r20 r21 r22 r23 r24 r25 r26 r27 r28 r29 r30 r31 r32 r33 r34 r35 r36 r37 r38 r39 r40 r41 r42 r43 r44 r45 r46 r47 r48 r49 r50 r51 r52 r53 r54 r55 r56 r57 r58 r59 r60 r61 r62 r63 r64 r65 r66 r67 r68 r69 r70 r71 r72 r73 r74 r75 r76 r77 r78 r79 r80 r81 r82 r83 r84 r85 r86 r87 r88 r89 r90 r91 r92 r93 r94 r95 r96 r97 r98 r99 r100 r101 r102 r103 r104 r105 : Value} : S23b A0 A1 A7 A8 A12 [A0, A1, r2, r3, r4, r5, r6, A7, A8, r9, r10, r11, A12, r13, r14, r15, r16, r17, r18, r19, r20, r21, r22, r23, r24, r25, r26, r27, r28, r29, r30, r31, r32, r33, r34, r35, r36, r37, r38, r39, r40, r41, r42, r43, r44, r45, r46, r47, r48, r49, r50, r51, r52, r53, r54, r55, r56, r57, r58, r59, r60, r61, r62, r63, r64, r65, r66, r67, r68, r69, r70, r71, r72, r73, r74, r75, r76, r77, r78, r79, r80, r81, r82, r83, r84, r85, r86, r87, r88, r89, r90, r91, r92, r93, r94, r95, r96, r97, r98, r99, r100, r101, r102, r103, r104, r105]
inductive S23c (A0 A1 A7 A8 A12 A13 A75 A76 A77 : Value) : List Value → Prop
  | mk {r2 r3 r4 r5 r6 r9 r10 r11 r14 r15 r16 r17 r18 r19 r20 r21 r22 r23 r24 r25 r26 r27 r28 r29 r30 r31 r32 r33 r34 r35 r36 r37 r38 r39 r40 r41 r42 r43 r44 r45 r46 r47 r48 r49 r50 r51 r52 r53 r54 r55 r56 r57 r58 r59 r60 r61 r62 r63 r64 r65 r66 r67 r68 r69 r70 r71 r72 r73 r74 r78 r79 r80 r81 r82 r83 r84 r85 r86 r87 r88 r89 r90 r91 r92 r93 r94 r95 r96 r97 r98 r99 r100 r101 r102 r103 r104 r105 : Value} : S23c A0 A1 A7 A8 A12 A13 A75 A76 A77 [A0, A1, r2, r3, r4, r5, r6, A7, A8, r9, r10, r11, A12, A13, r14, r15, r16, r17, r18, r19, r20, r21, r22, r23, r24, r25, r26, r27, r28, r29, r30, r31, r32, r33, r34, r35, r36, r37, r38, r39, r40, r41, r42, r43, r44, r45, r46, r47, r48, r49, r50, r51, r52, r53, r54, r55, r56, r57, r58, r59, r60, r61, r62, r63, r64, r65, r66, r67, r68, r69, r70, r71, r72, r73, r74, A75, A76, A77, r78, r79, r80, r81, r82, r83, r84, r85, r86, r87, r88, r89, r90, r91, r92, r93, r94, r95, r96, r97, r98, r99, r100, r101, r102, r103, r104, r105]
theorem one5 (y : Msg) : ∀ u ∈ mC y, u.oneCell' = true := by
  intro u hu
  simp only [mC, List.mem_cons, List.not_mem_nil, or_false] at hu
  rcases hu with rfl | rfl | rfl | rfl | rfl <;> rfl
section
variable {K : Value → Heap → Prop} {H : Heap} {sv : Value} {L : List Msg} {m y : Msg}
theorem c36 {a b : List UInt8} (hK : K (.int .i64 (cmpS a b)) H) : SCalls Tryd.prog 36 [.string (strOf a), .string (strOf b)] H K := by
  refine enter36 ?_
  have h44 : ∀ a H (K2 : Value → Heap → Prop), K2 (.bool false) H → SCalls Tryd.prog 44 [.string (strOf a)] H K2 := by
    intro a H K2 hk
    refine enter44 ?_
    have : (!decide (strOf a = strOf a)) = false := by simp
    repeat' ((conv => whnf); (first | (rw [this]; exact Keep.all hk) | (show Keep _ fun H' => K2 (.bool (!decide (strOf a = strOf a))) H'; rw [this]; exact Keep.all hk) | refine New.mk (fun _ => ?_) | refine Look.at0 ?_ | refine Cell.row ?_ | refine Cell.buf ?_ | refine Cells.row rfl ?_ | refine Put.row rfl ?_ | refine Put.buf rfl ?_ | refine Look.at1 ?_ | refine Look.at2 ?_ | refine Look.at3 ?_ | refine Look.at4 ?_ | refine Look.at5 ?_ | refine Look.at6 ?_ | refine Look.at7 ?_ | refine Look.at8 ?_ | with_reducible refine Val.i64 (by omega) (by omega) ?_ | with_reducible refine Val.u8 (by omega) (by omega) ?_ | with_reducible refine Val.u32 (by omega) (by omega) ?_ | with_reducible refine Val.u64 (by omega) (by omega) ?_ | with_reducible refine Val.u8m ?_ | with_reducible refine Val.u32m ?_ | with_reducible refine Val.u64m ?_ | with_reducible refine Val.shr8 ?_ | with_reducible refine Val.shr16 (by decide) ?_ | with_reducible refine Val.shr24 (by decide) ?_ | with_reducible refine Val.raw ?_ | refine Branch.not ?_ | refine Branch.and ?_ | refine Branch.or ?_ | refine Branch.dt (by assumption) ?_ | refine Branch.df (by assumption) ?_ | refine Branch.dt rfl ?_ | refine Branch.dt (by omega) ?_ | refine Branch.df (by omega) ?_ | refine Branch.t rfl ?_ | refine Branch.f rfl ?_ | refine Branch.t (by assumption) ?_ | refine Branch.f (by assumption) ?_ | refine Branch.d (fun _ => ?_) (fun _ => ?_) | refine Branch.mk (fun _ => ?_) (fun _ => ?_) | refine Need.mk (by first | omega | decide | rfl) ?_ | refine Idx.nat (by omega) ?_ | refine Idx.auto (by first | omega | decide) (by first | omega | decide) ?_ | refine Cell.ro rfl ?_ | refine SDraw.all (by kernel_rfl) ?_ | refine Kept.k0 ?_ | refine Kept.k1 ?_ | refine Kept.k2 ?_ | refine Kept.k3 ?_ | refine Kept.k4 ?_))
  unfold cmpS at hK
  have h1 := strLt_of a b
  have h2 := strGt_of a b
  cases ha : tlt a b with
  | true =>
    rw [ha] at hK h1
    repeat' ((conv => whnf); (first | with_reducible refine h44 _ _ _ ?_ | refine Branch.t h1 ?_ | exact Keep.all hK | refine New.mk (fun _ => ?_) | refine Look.at0 ?_ | refine Cell.row ?_ | refine Cell.buf ?_ | refine Cells.row rfl ?_ | refine Put.row rfl ?_ | refine Put.buf rfl ?_ | refine Look.at1 ?_ | refine Look.at2 ?_ | refine Look.at3 ?_ | refine Look.at4 ?_ | refine Look.at5 ?_ | refine Look.at6 ?_ | refine Look.at7 ?_ | refine Look.at8 ?_ | with_reducible refine Val.i64 (by omega) (by omega) ?_ | with_reducible refine Val.u8 (by omega) (by omega) ?_ | with_reducible refine Val.u32 (by omega) (by omega) ?_ | with_reducible refine Val.u64 (by omega) (by omega) ?_ | with_reducible refine Val.u8m ?_ | with_reducible refine Val.u32m ?_ | with_reducible refine Val.u64m ?_ | with_reducible refine Val.shr8 ?_ | with_reducible refine Val.shr16 (by decide) ?_ | with_reducible refine Val.shr24 (by decide) ?_ | with_reducible refine Val.raw ?_ | refine Branch.not ?_ | refine Branch.and ?_ | refine Branch.or ?_ | refine Branch.dt (by assumption) ?_ | refine Branch.df (by assumption) ?_ | refine Branch.dt rfl ?_ | refine Branch.dt (by omega) ?_ | refine Branch.df (by omega) ?_ | refine Branch.t rfl ?_ | refine Branch.f rfl ?_ | refine Branch.t (by assumption) ?_ | refine Branch.f (by assumption) ?_ | refine Branch.d (fun _ => ?_) (fun _ => ?_) | refine Branch.mk (fun _ => ?_) (fun _ => ?_) | refine Need.mk (by first | omega | decide | rfl) ?_ | refine Idx.nat (by omega) ?_ | refine Idx.auto (by first | omega | decide) (by first | omega | decide) ?_ | refine Cell.ro rfl ?_ | refine SDraw.all (by kernel_rfl) ?_ | refine Kept.k0 ?_ | refine Kept.k1 ?_ | refine Kept.k2 ?_ | refine Kept.k3 ?_ | refine Kept.k4 ?_))
  | false =>
    rw [ha] at hK h1
    cases hb : tlt b a with
    | true =>
      rw [hb] at hK h2
      repeat' ((conv => whnf); (first | with_reducible refine h44 _ _ _ ?_ | refine Branch.f h1 ?_ | refine Branch.t h2 ?_ | exact Keep.all hK | refine New.mk (fun _ => ?_) | refine Look.at0 ?_ | refine Cell.row ?_ | refine Cell.buf ?_ | refine Cells.row rfl ?_ | refine Put.row rfl ?_ | refine Put.buf rfl ?_ | refine Look.at1 ?_ | refine Look.at2 ?_ | refine Look.at3 ?_ | refine Look.at4 ?_ | refine Look.at5 ?_ | refine Look.at6 ?_ | refine Look.at7 ?_ | refine Look.at8 ?_ | with_reducible refine Val.i64 (by omega) (by omega) ?_ | with_reducible refine Val.u8 (by omega) (by omega) ?_ | with_reducible refine Val.u32 (by omega) (by omega) ?_ | with_reducible refine Val.u64 (by omega) (by omega) ?_ | with_reducible refine Val.u8m ?_ | with_reducible refine Val.u32m ?_ | with_reducible refine Val.u64m ?_ | with_reducible refine Val.shr8 ?_ | with_reducible refine Val.shr16 (by decide) ?_ | with_reducible refine Val.shr24 (by decide) ?_ | with_reducible refine Val.raw ?_ | refine Branch.not ?_ | refine Branch.and ?_ | refine Branch.or ?_ | refine Branch.dt (by assumption) ?_ | refine Branch.df (by assumption) ?_ | refine Branch.dt rfl ?_ | refine Branch.dt (by omega) ?_ | refine Branch.df (by omega) ?_ | refine Branch.t rfl ?_ | refine Branch.f rfl ?_ | refine Branch.t (by assumption) ?_ | refine Branch.f (by assumption) ?_ | refine Branch.d (fun _ => ?_) (fun _ => ?_) | refine Branch.mk (fun _ => ?_) (fun _ => ?_) | refine Need.mk (by first | omega | decide | rfl) ?_ | refine Idx.nat (by omega) ?_ | refine Idx.auto (by first | omega | decide) (by first | omega | decide) ?_ | refine Cell.ro rfl ?_ | refine SDraw.all (by kernel_rfl) ?_ | refine Kept.k0 ?_ | refine Kept.k1 ?_ | refine Kept.k2 ?_ | refine Kept.k3 ?_ | refine Kept.k4 ?_))
    | false =>
      rw [hb] at hK h2
      repeat' ((conv => whnf); (first | with_reducible refine h44 _ _ _ ?_ | refine Branch.f h1 ?_ | refine Branch.f h2 ?_ | exact Keep.all hK | refine New.mk (fun _ => ?_) | refine Look.at0 ?_ | refine Cell.row ?_ | refine Cell.buf ?_ | refine Cells.row rfl ?_ | refine Put.row rfl ?_ | refine Put.buf rfl ?_ | refine Look.at1 ?_ | refine Look.at2 ?_ | refine Look.at3 ?_ | refine Look.at4 ?_ | refine Look.at5 ?_ | refine Look.at6 ?_ | refine Look.at7 ?_ | refine Look.at8 ?_ | with_reducible refine Val.i64 (by omega) (by omega) ?_ | with_reducible refine Val.u8 (by omega) (by omega) ?_ | with_reducible refine Val.u32 (by omega) (by omega) ?_ | with_reducible refine Val.u64 (by omega) (by omega) ?_ | with_reducible refine Val.u8m ?_ | with_reducible refine Val.u32m ?_ | with_reducible refine Val.u64m ?_ | with_reducible refine Val.shr8 ?_ | with_reducible refine Val.shr16 (by decide) ?_ | with_reducible refine Val.shr24 (by decide) ?_ | with_reducible refine Val.raw ?_ | refine Branch.not ?_ | refine Branch.and ?_ | refine Branch.or ?_ | refine Branch.dt (by assumption) ?_ | refine Branch.df (by assumption) ?_ | refine Branch.dt rfl ?_ | refine Branch.dt (by omega) ?_ | refine Branch.df (by omega) ?_ | refine Branch.t rfl ?_ | refine Branch.f rfl ?_ | refine Branch.t (by assumption) ?_ | refine Branch.f (by assumption) ?_ | refine Branch.d (fun _ => ?_) (fun _ => ?_) | refine Branch.mk (fun _ => ?_) (fun _ => ?_) | refine Need.mk (by first | omega | decide | rfl) ?_ | refine Idx.nat (by omega) ?_ | refine Idx.auto (by first | omega | decide) (by first | omega | decide) ?_ | refine Cell.ro rfl ?_ | refine SDraw.all (by kernel_rfl) ?_ | refine Kept.k0 ?_ | refine Kept.k1 ?_ | refine Kept.k2 ?_ | refine Kept.k3 ?_ | refine Kept.k4 ?_))
theorem t27 (h : Good y) (hK : K (.int .u64 (tm y : Int)) H) : SCalls Tryd.prog 27 [.agg ⟨mC y⟩] H K :=
  c27 h.n0 h.n8 (by rw [h.tm.2.2]; exact hK)
theorem t12 (h : Good y) (hK : K (.int .u64 (tm y : Int)) H) : SCalls Tryd.prog 12 [.agg ⟨mC y⟩] H K :=
  c12 h.n0 h.n8 (by rw [h.tm.2.2]; exact hK)
theorem t37 {w : Nat} (h : Good y) (hw : w ≤ 4294967296) (hK : K (.int .u64 (((w + y.j) / y.p + 1 : Nat) : Int)) H) : SCalls Tryd.prog 37 [.agg ⟨mC y⟩, .int .u64 (w : Int)] H K :=
  c37 h.p1 (by have := h.p2; have := h.j; omega) hK
def bK (L : List Msg) (m : Msg) (k : Nat) : Nat := (L.take k).foldl (fun b y => if tlt (fld m) (fld y) then max b (tm y) else b) (tm m)
def fK (L : List Msg) (m : Msg) (k : Nat) : List Msg := (L.take k).filter fun y => tlt (fld y) (fld m)
theorem bK_succ {k : Nat} (h : L.take (k + 1) = L.take k ++ [y]) : bK L m (k + 1) = if tlt (fld m) (fld y) then max (bK L m k) (tm y) else bK L m k := by
  unfold bK
  rw [h, List.foldl_append]; rfl
theorem fK_succ {k : Nat} (h : L.take (k + 1) = L.take k ++ [y]) : fK L m (k + 1) = if tlt (fld y) (fld m) then fK L m k ++ [y] else fK L m k := by
  unfold fK
  rw [h, List.filter_append]
  cases hq : tlt (fld y) (fld m) <;> simp [List.filter_cons, hq]
def I23a (sv : Value) (i : Nat) (L : List Msg) (m : Msg) (H : Heap) (k : Nat) (S : List Value) (H' : Heap) : Prop :=
  k ≤ L.length ∧ ∃ fv M, Grow mC 5 30 fv (fK L m k) M ∧ S23a sv (.int .i64 (i : Int)) (.string (strOf (fV m.id m.x m.n).1)) fv (.int .u64 (bK L m k : Int)) sv (.int .i64 (L.length : Int)) (.int .i64 (k : Int)) S ∧ H' = M ++ H
def I23b (sv fv : Value) (i : Nat) (L : List Msg) (m : Msg) (T : Nat × Bool) (H : Heap) (w : Nat) (S : List Value) (H' : Heap) : Prop :=
  w ≤ 140737488355328 ∧ w ≤ wStep L m w ∧ wIter L m (m.p + 1 - w) w = T ∧ S23b sv (.int .i64 (i : Int)) fv (.int .u64 (wB L m : Int)) (.int .u64 (w : Int)) S ∧ H' = H
def I23c (sv fv : Value) (i : Nat) (L : List Msg) (m : Msg) (w : Nat) (H : Heap) (k : Nat) (S : List Value) (H' : Heap) : Prop :=
  k ≤ (wF L m).length ∧ S23c sv (.int .i64 (i : Int)) fv (.int .u64 (wB L m : Int)) (.int .u64 ((((wF L m).take k).foldl (wAdd w) (wB L m) : Nat) : Int)) (.int .u64 (w : Int)) fv (.int .i64 ((wF L m).length : Int)) (.int .i64 (k : Int)) S ∧ H' = H
theorem c23 {i : Nat} (hD : Db H) (hin : InS mC 5 sv H L) (hG : Goods L) (hi : L[i]? = some m) (h : K (.tuple ⟨[.int .u64 ((worstS L m).1 : Int), .bool (worstS L m).2]⟩) H) : SCalls Tryd.prog 23 [sv, .int .i64 (i : Int)] H K := by
  have hm := List.mem_of_getElem? hi
  have hg := hG.good m hm
  have hlen := hG.len
  have hil : i < L.length := (List.getElem?_eq_some_iff.1 hi).1
  obtain ⟨r, o, c, b, rfl, hrb, hc⟩ := inS_at hin (fun _ => rfl) hi
  have hc3 := hc 3 _ rfl
  have hc4 := hc 4 _ rfl
  refine enter23 ?_
  repeat' ((conv => whnf); (first | refine Look.cells hrb rfl hc ?_ | refine c28 hg.id hD ?_ | refine t27 hg ?_ | refine New.mk (fun _ => ?_) | refine Look.at0 ?_ | refine Cell.row ?_ | refine Cell.buf ?_ | refine Cells.row rfl ?_ | refine Put.row rfl ?_ | refine Put.buf rfl ?_ | refine Look.at1 ?_ | refine Look.at2 ?_ | refine Look.at3 ?_ | refine Look.at4 ?_ | refine Look.at5 ?_ | refine Look.at6 ?_ | refine Look.at7 ?_ | refine Look.at8 ?_ | with_reducible refine Val.i64 (by omega) (by omega) ?_ | with_reducible refine Val.u8 (by omega) (by omega) ?_ | with_reducible refine Val.u32 (by omega) (by omega) ?_ | with_reducible refine Val.u64 (by omega) (by omega) ?_ | with_reducible refine Val.u8m ?_ | with_reducible refine Val.u32m ?_ | with_reducible refine Val.u64m ?_ | with_reducible refine Val.shr8 ?_ | with_reducible refine Val.shr16 (by decide) ?_ | with_reducible refine Val.shr24 (by decide) ?_ | with_reducible refine Val.raw ?_ | refine Branch.not ?_ | refine Branch.and ?_ | refine Branch.or ?_ | refine Branch.dt (by assumption) ?_ | refine Branch.df (by assumption) ?_ | refine Branch.dt rfl ?_ | refine Branch.dt (by omega) ?_ | refine Branch.df (by omega) ?_ | refine Branch.t rfl ?_ | refine Branch.f rfl ?_ | refine Branch.t (by assumption) ?_ | refine Branch.f (by assumption) ?_ | refine Branch.d (fun _ => ?_) (fun _ => ?_) | refine Branch.mk (fun _ => ?_) (fun _ => ?_) | refine Need.mk (by first | omega | decide | rfl) ?_ | refine Idx.nat (by omega) ?_ | refine Idx.auto (by first | omega | decide) (by first | omega | decide) ?_ | refine Cell.ro rfl ?_ | refine SDraw.all (by kernel_rfl) ?_ | refine Kept.k0 ?_ | refine Kept.k1 ?_ | refine Kept.k2 ?_ | refine Kept.k3 ?_ | refine Kept.k4 ?_))
  refine SLoop.invA (I23a (.slice (some ⟨r, o, none⟩) L.length c) i L m H) (fun k => L.length - k) 0 (Keep.all ⟨Nat.zero_le _, _, [], .nil, .mk, rfl⟩) ?_
  rintro k S H' ⟨hk, fv, M, hGr, hS, rfl⟩ R hR
  cases hS
  by_cases hlt : k < L.length
  · obtain ⟨y, hx, hdrop, htake⟩ := list_at hlt
    obtain ⟨r2, o2, c2, b2, e1, hrb2, hc2⟩ := inS_at hin (fun _ => rfl) hx
    injection e1 with e1 _ e3
    injection e1 with e1
    injection e1 with e4 e5
    subst e4 e5
    have hgy := hG.good y (List.mem_of_getElem? hx)
    have hD' : ∀ q : Nat × Blk, Db (q :: (M ++ H)) := fun q => hD.mono fun p hp => .tail _ (List.mem_append_right _ hp)
    have hM : (r, b2) ∈ M ++ H := List.mem_append_right _ hrb2
    have hb1 := bK_succ (m := m) htake
    have hf1 := fK_succ (m := m) htake
    have hbb : bK L m k ≤ 160 := wB_b hG.good hg (L.take k) (fun z hz => List.mem_of_mem_take hz) _ hg.tm.2.1
    have hbt := hgy.tm
    have hfl : (fK L m k).length ≤ 64 := Nat.le_trans (List.length_filter_le _ _) (Nat.le_trans (List.length_take_le _ _) (by omega))
    by_cases hki : k = i
    · subst hki
      rw [hi] at hx
      injection hx with hx
      subst hx
      rw [show tlt (fld m) (fld m) = false from Hp.bl_irr _] at hb1 hf1
      have hnext := fun S q (hS : S23a (.slice (some ⟨r, o, none⟩) L.length c) (.int .i64 (k : Int)) (.string (strOf (fV m.id m.x m.n).1)) fv (.int .u64 (bK L m k : Int)) (.slice (some ⟨r, o, none⟩) L.length c) (.int .i64 (L.length : Int)) (.int .i64 ((k + 1 : Nat) : Int)) S) => hR (k + 1) S (q :: (M ++ H)) (by omega) (Keep.d1 ⟨by omega, fv, M, by rw [hf1]; exact hGr, by rw [hb1]; exact hS, rfl⟩)
      clear hR
      repeat' ((conv => whnf); (first | refine Look.cells hM rfl hc2 ?_ | refine c28 hg.id (hD' _) ?_ | refine c36 ?_ | exact hnext _ _ .mk | refine New.mk (fun _ => ?_) | refine Look.at0 ?_ | refine Cell.row ?_ | refine Cell.buf ?_ | refine Cells.row rfl ?_ | refine Put.row rfl ?_ | refine Put.buf rfl ?_ | refine Look.at1 ?_ | refine Look.at2 ?_ | refine Look.at3 ?_ | refine Look.at4 ?_ | refine Look.at5 ?_ | refine Look.at6 ?_ | refine Look.at7 ?_ | refine Look.at8 ?_ | with_reducible refine Val.i64 (by omega) (by omega) ?_ | with_reducible refine Val.u8 (by omega) (by omega) ?_ | with_reducible refine Val.u32 (by omega) (by omega) ?_ | with_reducible refine Val.u64 (by omega) (by omega) ?_ | with_reducible refine Val.u8m ?_ | with_reducible refine Val.u32m ?_ | with_reducible refine Val.u64m ?_ | with_reducible refine Val.shr8 ?_ | with_reducible refine Val.shr16 (by decide) ?_ | with_reducible refine Val.shr24 (by decide) ?_ | with_reducible refine Val.raw ?_ | refine Branch.not ?_ | refine Branch.and ?_ | refine Branch.or ?_ | refine Branch.dt (by assumption) ?_ | refine Branch.df (by assumption) ?_ | refine Branch.dt rfl ?_ | refine Branch.dt (by omega) ?_ | refine Branch.df (by omega) ?_ | refine Branch.t rfl ?_ | refine Branch.f rfl ?_ | refine Branch.t (by assumption) ?_ | refine Branch.f (by assumption) ?_ | refine Branch.d (fun _ => ?_) (fun _ => ?_) | refine Branch.mk (fun _ => ?_) (fun _ => ?_) | refine Need.mk (by first | omega | decide | rfl) ?_ | refine Idx.nat (by omega) ?_ | refine Idx.auto (by first | omega | decide) (by first | omega | decide) ?_ | refine Cell.ro rfl ?_ | refine SDraw.all (by kernel_rfl) ?_ | refine Kept.k0 ?_ | refine Kept.k1 ?_ | refine Kept.k2 ?_ | refine Kept.k3 ?_ | refine Kept.k4 ?_))
    · have hne := hG.ne hx hi hki
      cases hlt2 : tlt (fld y) (fld m) with
      | true =>
        rw [hlt2] at hf1
        rw [show tlt (fld m) (fld y) = false from Hp.bl_asym hlt2] at hb1
        have hcmp1 : cmpS (fld y) (fld m) = -1 := by unfold cmpS; rw [hlt2]; rfl
        have hcmp : cmpS (fV y.id y.x y.n).1 (fV m.id m.x m.n).1 < 0 := by rw [show cmpS (fV y.id y.x y.n).1 (fV m.id m.x m.n).1 = -1 from hcmp1]; decide
        obtain ⟨fa, fc, rfl, _⟩ := hGr.sv
        have hnext := fun S fv' M' (q q2 : Nat × Blk) (hg2 : Grow mC 5 30 fv' (fK L m k ++ [y]) M') (hS : S23a (.slice (some ⟨r, o, none⟩) L.length c) (.int .i64 (i : Int)) (.string (strOf (fV m.id m.x m.n).1)) fv' (.int .u64 (bK L m k : Int)) (.slice (some ⟨r, o, none⟩) L.length c) (.int .i64 (L.length : Int)) (.int .i64 ((k + 1 : Nat) : Int)) S) => hR (k + 1) S (M' ++ ([q, q2] ++ H)) (by omega) (Keep.sub _ ((List.Sublist.refl M').append (List.sublist_append_right [q, q2] H)) ⟨by omega, fv', M', by rw [hf1]; exact hg2, by rw [hb1]; exact hS, rfl⟩)
        clear hR
        repeat' ((conv => whnf); (first | refine Look.cells hM rfl hc2 ?_ | refine c28 hgy.id (hD' _) ?_ | refine c36 ?_ | refine Branch.df (by omega) ?_ | refine Branch.dt (by omega) ?_ | refine RawV.grow1 (A := [_, _]) (x := y) (bytes := 32) hGr rfl (.head _) rfl (by kernel_rfl) (by decide) (fun _ => rfl) (one5 y) (by simp only [maxLen]; omega) (by omega) (fun fa' fc' M' hg2 => ?_) | exact hnext _ _ _ _ _ hg2 .mk | refine New.mk (fun _ => ?_) | refine Look.at0 ?_ | refine Cell.row ?_ | refine Cell.buf ?_ | refine Cells.row rfl ?_ | refine Put.row rfl ?_ | refine Put.buf rfl ?_ | refine Look.at1 ?_ | refine Look.at2 ?_ | refine Look.at3 ?_ | refine Look.at4 ?_ | refine Look.at5 ?_ | refine Look.at6 ?_ | refine Look.at7 ?_ | refine Look.at8 ?_ | with_reducible refine Val.i64 (by omega) (by omega) ?_ | with_reducible refine Val.u8 (by omega) (by omega) ?_ | with_reducible refine Val.u32 (by omega) (by omega) ?_ | with_reducible refine Val.u64 (by omega) (by omega) ?_ | with_reducible refine Val.u8m ?_ | with_reducible refine Val.u32m ?_ | with_reducible refine Val.u64m ?_ | with_reducible refine Val.shr8 ?_ | with_reducible refine Val.shr16 (by decide) ?_ | with_reducible refine Val.shr24 (by decide) ?_ | with_reducible refine Val.raw ?_ | refine Branch.not ?_ | refine Branch.and ?_ | refine Branch.or ?_ | refine Branch.dt (by assumption) ?_ | refine Branch.df (by assumption) ?_ | refine Branch.dt rfl ?_ | refine Branch.dt (by omega) ?_ | refine Branch.df (by omega) ?_ | refine Branch.t rfl ?_ | refine Branch.f rfl ?_ | refine Branch.t (by assumption) ?_ | refine Branch.f (by assumption) ?_ | refine Branch.d (fun _ => ?_) (fun _ => ?_) | refine Branch.mk (fun _ => ?_) (fun _ => ?_) | refine Need.mk (by first | omega | decide | rfl) ?_ | refine Idx.nat (by omega) ?_ | refine Idx.auto (by first | omega | decide) (by first | omega | decide) ?_ | refine Cell.ro rfl ?_ | refine SDraw.all (by kernel_rfl) ?_ | refine Kept.k0 ?_ | refine Kept.k1 ?_ | refine Kept.k2 ?_ | refine Kept.k3 ?_ | refine Kept.k4 ?_))
      | false =>
        rw [hlt2] at hf1
        have hlt3 : tlt (fld m) (fld y) = true := by
          cases h3 : tlt (fld m) (fld y) with
          | true => rfl
          | false => exact absurd (Hp.bl_tri _ _ hlt2 h3) hne
        rw [hlt3] at hb1
        have hcmp1 : cmpS (fld y) (fld m) = 1 := by unfold cmpS; rw [hlt2, hlt3]; rfl
        have hcmp : cmpS (fV y.id y.x y.n).1 (fV m.id m.x m.n).1 = 1 := hcmp1
        have hmax : (if (bK L m k : Int) < (tm y : Int) then (tm y : Int) else (bK L m k : Int)) = ((max (bK L m k) (tm y) : Nat) : Int) := by
          split <;> omega
        have hnext := fun S q (hS : S23a (.slice (some ⟨r, o, none⟩) L.length c) (.int .i64 (i : Int)) (.string (strOf (fV m.id m.x m.n).1)) fv (.int .u64 ((max (bK L m k) (tm y) : Nat) : Int)) (.slice (some ⟨r, o, none⟩) L.length c) (.int .i64 (L.length : Int)) (.int .i64 ((k + 1 : Nat) : Int)) S) => hR (k + 1) S (q :: (M ++ H)) (by omega) (Keep.d1 ⟨by omega, fv, M, by rw [hf1]; exact hGr, by rw [hb1]; exact hS, rfl⟩)
        clear hR
        repeat' ((conv => whnf); (first | refine Look.cells hM rfl hc2 ?_ | refine c28 hgy.id (hD' _) ?_ | refine c36 ?_ | refine Branch.df (by omega) ?_ | refine t27 hgy ?_ | refine RawV.max2 rfl hmax ?_ | exact hnext _ _ .mk | refine New.mk (fun _ => ?_) | refine Look.at0 ?_ | refine Cell.row ?_ | refine Cell.buf ?_ | refine Cells.row rfl ?_ | refine Put.row rfl ?_ | refine Put.buf rfl ?_ | refine Look.at1 ?_ | refine Look.at2 ?_ | refine Look.at3 ?_ | refine Look.at4 ?_ | refine Look.at5 ?_ | refine Look.at6 ?_ | refine Look.at7 ?_ | refine Look.at8 ?_ | with_reducible refine Val.i64 (by omega) (by omega) ?_ | with_reducible refine Val.u8 (by omega) (by omega) ?_ | with_reducible refine Val.u32 (by omega) (by omega) ?_ | with_reducible refine Val.u64 (by omega) (by omega) ?_ | with_reducible refine Val.u8m ?_ | with_reducible refine Val.u32m ?_ | with_reducible refine Val.u64m ?_ | with_reducible refine Val.shr8 ?_ | with_reducible refine Val.shr16 (by decide) ?_ | with_reducible refine Val.shr24 (by decide) ?_ | with_reducible refine Val.raw ?_ | refine Branch.not ?_ | refine Branch.and ?_ | refine Branch.or ?_ | refine Branch.dt (by assumption) ?_ | refine Branch.df (by assumption) ?_ | refine Branch.dt rfl ?_ | refine Branch.dt (by omega) ?_ | refine Branch.df (by omega) ?_ | refine Branch.t rfl ?_ | refine Branch.f rfl ?_ | refine Branch.t (by assumption) ?_ | refine Branch.f (by assumption) ?_ | refine Branch.d (fun _ => ?_) (fun _ => ?_) | refine Branch.mk (fun _ => ?_) (fun _ => ?_) | refine Need.mk (by first | omega | decide | rfl) ?_ | refine Idx.nat (by omega) ?_ | refine Idx.auto (by first | omega | decide) (by first | omega | decide) ?_ | refine Cell.ro rfl ?_ | refine SDraw.all (by kernel_rfl) ?_ | refine Kept.k0 ?_ | refine Kept.k1 ?_ | refine Kept.k2 ?_ | refine Kept.k3 ?_ | refine Kept.k4 ?_))
  · have e : k = L.length := by omega
    subst e
    clear hR
    have eb : bK L m L.length = wB L m := by unfold bK wB; rw [List.take_length]
    have ef : fK L m L.length = wF L m := by unfold fK wF; rw [List.take_length]
    rw [ef] at hGr
    rw [eb]
    have hbb : wB L m ≤ 160 := wB_b hG.good hg L (fun z hz => hz) _ hg.tm.2.1
    generalize hT : worstS L m = T at h
    have hM : (r, b) ∈ M ++ H := List.mem_append_right _ hrb
    have hfin := hGr.ins (fun _ => rfl) (H := M ++ H) (fun p hp => List.mem_append_left _ hp)
    obtain ⟨fa, fc, rfl, hml⟩ := hGr.sv
    have hml' : (wF L m).length ≤ 64 := Nat.le_trans (List.length_filter_le _ _) hlen
    have hgF : ∀ y ∈ wF L m, Good y := fun y hy => hG.good y (List.mem_filter.1 hy).1
    have h' : ∀ q : Heap, Keep (q ++ H) fun H' => K (.tuple ⟨[.int .u64 (T.1 : Int), .bool T.2]⟩) H' := fun q => Keep.sub _ (List.sublist_append_right q H) h
    have hgt := hg.tm
    have hp2 := hg.p2
    have hj := hg.j
    clear h
    repeat' ((conv => whnf); (first | refine New.mk (fun _ => ?_) | refine Look.at0 ?_ | refine Cell.row ?_ | refine Cell.buf ?_ | refine Cells.row rfl ?_ | refine Put.row rfl ?_ | refine Put.buf rfl ?_ | refine Look.at1 ?_ | refine Look.at2 ?_ | refine Look.at3 ?_ | refine Look.at4 ?_ | refine Look.at5 ?_ | refine Look.at6 ?_ | refine Look.at7 ?_ | refine Look.at8 ?_ | with_reducible refine Val.i64 (by omega) (by omega) ?_ | with_reducible refine Val.u8 (by omega) (by omega) ?_ | with_reducible refine Val.u32 (by omega) (by omega) ?_ | with_reducible refine Val.u64 (by omega) (by omega) ?_ | with_reducible refine Val.u8m ?_ | with_reducible refine Val.u32m ?_ | with_reducible refine Val.u64m ?_ | with_reducible refine Val.shr8 ?_ | with_reducible refine Val.shr16 (by decide) ?_ | with_reducible refine Val.shr24 (by decide) ?_ | with_reducible refine Val.raw ?_ | refine Branch.not ?_ | refine Branch.and ?_ | refine Branch.or ?_ | refine Branch.dt (by assumption) ?_ | refine Branch.df (by assumption) ?_ | refine Branch.dt rfl ?_ | refine Branch.dt (by omega) ?_ | refine Branch.df (by omega) ?_ | refine Branch.t rfl ?_ | refine Branch.f rfl ?_ | refine Branch.t (by assumption) ?_ | refine Branch.f (by assumption) ?_ | refine Branch.d (fun _ => ?_) (fun _ => ?_) | refine Branch.mk (fun _ => ?_) (fun _ => ?_) | refine Need.mk (by first | omega | decide | rfl) ?_ | refine Idx.nat (by omega) ?_ | refine Idx.auto (by first | omega | decide) (by first | omega | decide) ?_ | refine Cell.ro rfl ?_ | refine SDraw.all (by kernel_rfl) ?_ | refine Kept.k0 ?_ | refine Kept.k1 ?_ | refine Kept.k2 ?_ | refine Kept.k3 ?_ | refine Kept.k4 ?_))
    refine SLoop.invA (I23b (.slice (some ⟨r, o, none⟩) L.length c) (.slice fa (wF L m).length fc) i L m T (M ++ H)) (fun w => m.p + 1 - w) (wB L m) (Keep.all ⟨by omega, wB_le _ _ _, by rw [← hT]; exact wIter_fuel _ _ _ _ _ (by omega) (by omega) (wB_le _ _ _), .mk, rfl⟩) ?_
    rintro w S H' ⟨hwb, hw, hgo, hS, rfl⟩ R hR
    cases hS
    by_cases hp : m.p < m.j + w + tm m
    · have e : T = (0, false) := by
        rw [← hgo]
        cases hf : m.p + 1 - w with
        | zero => rfl
        | succ f => rw [wIter, if_pos hp]
      subst e
      clear hR
      repeat' ((conv => whnf); (first | refine Look.cell hM hc4 ?_ | refine Look.cell hM hc3 ?_ | refine Look.cells hM rfl hc ?_ | refine t27 hg ?_ | refine Branch.dt (by omega) ?_ | exact h' _ | refine New.mk (fun _ => ?_) | refine Look.at0 ?_ | refine Cell.row ?_ | refine Cell.buf ?_ | refine Cells.row rfl ?_ | refine Put.row rfl ?_ | refine Put.buf rfl ?_ | refine Look.at1 ?_ | refine Look.at2 ?_ | refine Look.at3 ?_ | refine Look.at4 ?_ | refine Look.at5 ?_ | refine Look.at6 ?_ | refine Look.at7 ?_ | refine Look.at8 ?_ | with_reducible refine Val.i64 (by omega) (by omega) ?_ | with_reducible refine Val.u8 (by omega) (by omega) ?_ | with_reducible refine Val.u32 (by omega) (by omega) ?_ | with_reducible refine Val.u64 (by omega) (by omega) ?_ | with_reducible refine Val.u8m ?_ | with_reducible refine Val.u32m ?_ | with_reducible refine Val.u64m ?_ | with_reducible refine Val.shr8 ?_ | with_reducible refine Val.shr16 (by decide) ?_ | with_reducible refine Val.shr24 (by decide) ?_ | with_reducible refine Val.raw ?_ | refine Branch.not ?_ | refine Branch.and ?_ | refine Branch.or ?_ | refine Branch.dt (by assumption) ?_ | refine Branch.df (by assumption) ?_ | refine Branch.dt rfl ?_ | refine Branch.dt (by omega) ?_ | refine Branch.df (by omega) ?_ | refine Branch.t rfl ?_ | refine Branch.f rfl ?_ | refine Branch.t (by assumption) ?_ | refine Branch.f (by assumption) ?_ | refine Branch.d (fun _ => ?_) (fun _ => ?_) | refine Branch.mk (fun _ => ?_) (fun _ => ?_) | refine Need.mk (by first | omega | decide | rfl) ?_ | refine Idx.nat (by omega) ?_ | refine Idx.auto (by first | omega | decide) (by first | omega | decide) ?_ | refine Cell.ro rfl ?_ | refine SDraw.all (by kernel_rfl) ?_ | refine Kept.k0 ?_ | refine Kept.k1 ?_ | refine Kept.k2 ?_ | refine Kept.k3 ?_ | refine Kept.k4 ?_))
    · obtain ⟨f, hf⟩ : ∃ f, m.p + 1 - w = f + 1 := ⟨m.p - w, by omega⟩
      rw [hf, wIter, if_neg hp] at hgo
      repeat' ((conv => whnf); (first | refine Look.cell hM hc4 ?_ | refine Look.cell hM hc3 ?_ | refine Look.cells hM rfl hc ?_ | refine t27 hg ?_ | refine Branch.df (by omega) ?_ | refine New.mk (fun _ => ?_) | refine Look.at0 ?_ | refine Cell.row ?_ | refine Cell.buf ?_ | refine Cells.row rfl ?_ | refine Put.row rfl ?_ | refine Put.buf rfl ?_ | refine Look.at1 ?_ | refine Look.at2 ?_ | refine Look.at3 ?_ | refine Look.at4 ?_ | refine Look.at5 ?_ | refine Look.at6 ?_ | refine Look.at7 ?_ | refine Look.at8 ?_ | with_reducible refine Val.i64 (by omega) (by omega) ?_ | with_reducible refine Val.u8 (by omega) (by omega) ?_ | with_reducible refine Val.u32 (by omega) (by omega) ?_ | with_reducible refine Val.u64 (by omega) (by omega) ?_ | with_reducible refine Val.u8m ?_ | with_reducible refine Val.u32m ?_ | with_reducible refine Val.u64m ?_ | with_reducible refine Val.shr8 ?_ | with_reducible refine Val.shr16 (by decide) ?_ | with_reducible refine Val.shr24 (by decide) ?_ | with_reducible refine Val.raw ?_ | refine Branch.not ?_ | refine Branch.and ?_ | refine Branch.or ?_ | refine Branch.dt (by assumption) ?_ | refine Branch.df (by assumption) ?_ | refine Branch.dt rfl ?_ | refine Branch.dt (by omega) ?_ | refine Branch.df (by omega) ?_ | refine Branch.t rfl ?_ | refine Branch.f rfl ?_ | refine Branch.t (by assumption) ?_ | refine Branch.f (by assumption) ?_ | refine Branch.d (fun _ => ?_) (fun _ => ?_) | refine Branch.mk (fun _ => ?_) (fun _ => ?_) | refine Need.mk (by first | omega | decide | rfl) ?_ | refine Idx.nat (by omega) ?_ | refine Idx.auto (by first | omega | decide) (by first | omega | decide) ?_ | refine Cell.ro rfl ?_ | refine SDraw.all (by kernel_rfl) ?_ | refine Kept.k0 ?_ | refine Kept.k1 ?_ | refine Kept.k2 ?_ | refine Kept.k3 ?_ | refine Kept.k4 ?_))
      refine SLoop.invA (I23c (.slice (some ⟨r, o, none⟩) L.length c) (.slice fa (wF L m).length fc) i L m w (M ++ H)) (fun k => (wF L m).length - k) 0 (Keep.all ⟨Nat.zero_le _, .mk, rfl⟩) ?_
      rintro k S H' ⟨hk, hS, rfl⟩ R2 hR2
      cases hS
      have hw32 : w ≤ 4294967296 := by omega
      have hsum := wSum_b hw32 ((wF L m).take k) (wB L m) (fun z hz => hgF z (List.mem_of_mem_take hz))
      have hlk : ((wF L m).take k).length ≤ 64 := Nat.le_trans (List.length_take_le _ _) (by omega)
      have hlk2 : ((wF L m).take k).length * 1374389534880 ≤ 64 * 1374389534880 := Nat.mul_le_mul_right _ hlk
      by_cases hlt : k < (wF L m).length
      · obtain ⟨y, hx, hdrop, htake⟩ := list_at hlt
        obtain ⟨r2, o2, c2, b2, e1, hrb2, hc2⟩ := inS_at hfin (fun _ => rfl) hx
        injection e1 with e1 _ e3
        subst e1
        have hgy := hgF y (List.mem_of_getElem? hx)
        have hv := wAdd_b hgy hw32
        generalize hacc : ((wF L m).take k).foldl (wAdd w) (wB L m) = acc at *
        have hacc2 : ((wF L m).take (k + 1)).foldl (wAdd w) (wB L m) = wAdd w acc y := by
          rw [htake, List.foldl_append, hacc]; rfl
        have hv1 : IntKind.u64.wrap ((tm y : Int) * (((w + y.j) / y.p + 1 : Nat) : Int)) = ((tm y * ((w + y.j) / y.p + 1) : Nat) : Int) := by
          rw [← Int.natCast_mul]; exact wrap_nat rfl (by show _ < 18446744073709551616; omega)
        have hv2 : IntKind.u64.wrap ((acc : Int) + ((tm y * ((w + y.j) / y.p + 1) : Nat) : Int)) = ((wAdd w acc y : Nat) : Int) := by
          rw [← Int.natCast_add]; exact wrap_nat rfl (by show _ < 18446744073709551616; omega)
        have hnext := fun S q (hS : S23c (.slice (some ⟨r, o, none⟩) L.length c) (.int .i64 (i : Int)) (.slice (some ⟨r2, o2, none⟩) (wF L m).length fc) (.int .u64 (wB L m : Int)) (.int .u64 ((wAdd w acc y : Nat) : Int)) (.int .u64 (w : Int)) (.slice (some ⟨r2, o2, none⟩) (wF L m).length fc) (.int .i64 ((wF L m).length : Int)) (.int .i64 ((k + 1 : Nat) : Int)) S) => hR2 (k + 1) S (q :: (M ++ H)) (by omega) (Keep.d1 ⟨by omega, by rw [hacc2]; exact hS, rfl⟩)
        clear hR hR2
        repeat' ((conv => whnf); (first | refine Look.cells hrb2 rfl hc2 ?_ | refine t27 hgy ?_ | refine t37 hgy hw32 ?_ | with_reducible refine Val.to _ hv1 ?_ | with_reducible refine Val.to _ hv2 ?_ | exact hnext _ _ .mk | refine New.mk (fun _ => ?_) | refine Look.at0 ?_ | refine Cell.row ?_ | refine Cell.buf ?_ | refine Cells.row rfl ?_ | refine Put.row rfl ?_ | refine Put.buf rfl ?_ | refine Look.at1 ?_ | refine Look.at2 ?_ | refine Look.at3 ?_ | refine Look.at4 ?_ | refine Look.at5 ?_ | refine Look.at6 ?_ | refine Look.at7 ?_ | refine Look.at8 ?_ | with_reducible refine Val.i64 (by omega) (by omega) ?_ | with_reducible refine Val.u8 (by omega) (by omega) ?_ | with_reducible refine Val.u32 (by omega) (by omega) ?_ | with_reducible refine Val.u64 (by omega) (by omega) ?_ | with_reducible refine Val.u8m ?_ | with_reducible refine Val.u32m ?_ | with_reducible refine Val.u64m ?_ | with_reducible refine Val.shr8 ?_ | with_reducible refine Val.shr16 (by decide) ?_ | with_reducible refine Val.shr24 (by decide) ?_ | with_reducible refine Val.raw ?_ | refine Branch.not ?_ | refine Branch.and ?_ | refine Branch.or ?_ | refine Branch.dt (by assumption) ?_ | refine Branch.df (by assumption) ?_ | refine Branch.dt rfl ?_ | refine Branch.dt (by omega) ?_ | refine Branch.df (by omega) ?_ | refine Branch.t rfl ?_ | refine Branch.f rfl ?_ | refine Branch.t (by assumption) ?_ | refine Branch.f (by assumption) ?_ | refine Branch.d (fun _ => ?_) (fun _ => ?_) | refine Branch.mk (fun _ => ?_) (fun _ => ?_) | refine Need.mk (by first | omega | decide | rfl) ?_ | refine Idx.nat (by omega) ?_ | refine Idx.auto (by first | omega | decide) (by first | omega | decide) ?_ | refine Cell.ro rfl ?_ | refine SDraw.all (by kernel_rfl) ?_ | refine Kept.k0 ?_ | refine Kept.k1 ?_ | refine Kept.k2 ?_ | refine Kept.k3 ?_ | refine Kept.k4 ?_))
      · have e : k = (wF L m).length := by omega
        subst e
        have es : ((wF L m).take (wF L m).length).foldl (wAdd w) (wB L m) = wStep L m w := by rw [List.take_length]; rfl
        rw [es] at hsum
        rw [es]
        generalize hS' : wStep L m w = n at *
        have hmono : w ≤ n → n ≤ wStep L m n := fun hh => by
          have := wStep_mono L m hh
          rw [hS'] at this; exact this
        clear hR2 es
        by_cases he : n = w
        · subst he
          rw [if_pos rfl] at hgo
          subst hgo
          clear hR
          have hk' : Keep (M ++ H) fun H' => K (.tuple ⟨[.int .u64 ((m.j : Int) + (n : Int) + (tm m : Int)), .bool true]⟩) H' := h' M
          repeat' ((conv => whnf); (first | refine Look.cell hM hc4 ?_ | refine Look.cell hM hc3 ?_ | refine Look.cells hM rfl hc ?_ | refine t27 hg ?_ | exact hk' | refine New.mk (fun _ => ?_) | refine Look.at0 ?_ | refine Cell.row ?_ | refine Cell.buf ?_ | refine Cells.row rfl ?_ | refine Put.row rfl ?_ | refine Put.buf rfl ?_ | refine Look.at1 ?_ | refine Look.at2 ?_ | refine Look.at3 ?_ | refine Look.at4 ?_ | refine Look.at5 ?_ | refine Look.at6 ?_ | refine Look.at7 ?_ | refine Look.at8 ?_ | with_reducible refine Val.i64 (by omega) (by omega) ?_ | with_reducible refine Val.u8 (by omega) (by omega) ?_ | with_reducible refine Val.u32 (by omega) (by omega) ?_ | with_reducible refine Val.u64 (by omega) (by omega) ?_ | with_reducible refine Val.u8m ?_ | with_reducible refine Val.u32m ?_ | with_reducible refine Val.u64m ?_ | with_reducible refine Val.shr8 ?_ | with_reducible refine Val.shr16 (by decide) ?_ | with_reducible refine Val.shr24 (by decide) ?_ | with_reducible refine Val.raw ?_ | refine Branch.not ?_ | refine Branch.and ?_ | refine Branch.or ?_ | refine Branch.dt (by assumption) ?_ | refine Branch.df (by assumption) ?_ | refine Branch.dt rfl ?_ | refine Branch.dt (by omega) ?_ | refine Branch.df (by omega) ?_ | refine Branch.t rfl ?_ | refine Branch.f rfl ?_ | refine Branch.t (by assumption) ?_ | refine Branch.f (by assumption) ?_ | refine Branch.d (fun _ => ?_) (fun _ => ?_) | refine Branch.mk (fun _ => ?_) (fun _ => ?_) | refine Need.mk (by first | omega | decide | rfl) ?_ | refine Idx.nat (by omega) ?_ | refine Idx.auto (by first | omega | decide) (by first | omega | decide) ?_ | refine Cell.ro rfl ?_ | refine SDraw.all (by kernel_rfl) ?_ | refine Kept.k0 ?_ | refine Kept.k1 ?_ | refine Kept.k2 ?_ | refine Kept.k3 ?_ | refine Kept.k4 ?_))
        · rw [if_neg he] at hgo
          have hnext := fun S (hS : S23b (.slice (some ⟨r, o, none⟩) L.length c) (.int .i64 (i : Int)) (.slice fa (wF L m).length fc) (.int .u64 (wB L m : Int)) (.int .u64 (n : Int)) S) => hR n S (M ++ H) (by omega) (Keep.all ⟨by omega, hmono hw, by rw [← hgo]; exact wIter_fuel _ _ _ _ _ (by omega) (by omega) (hmono hw), hS, rfl⟩)
          clear hR
          repeat' ((conv => whnf); (first | refine Branch.df (by omega) ?_ | exact hnext _ .mk | refine New.mk (fun _ => ?_) | refine Look.at0 ?_ | refine Cell.row ?_ | refine Cell.buf ?_ | refine Cells.row rfl ?_ | refine Put.row rfl ?_ | refine Put.buf rfl ?_ | refine Look.at1 ?_ | refine Look.at2 ?_ | refine Look.at3 ?_ | refine Look.at4 ?_ | refine Look.at5 ?_ | refine Look.at6 ?_ | refine Look.at7 ?_ | refine Look.at8 ?_ | with_reducible refine Val.i64 (by omega) (by omega) ?_ | with_reducible refine Val.u8 (by omega) (by omega) ?_ | with_reducible refine Val.u32 (by omega) (by omega) ?_ | with_reducible refine Val.u64 (by omega) (by omega) ?_ | with_reducible refine Val.u8m ?_ | with_reducible refine Val.u32m ?_ | with_reducible refine Val.u64m ?_ | with_reducible refine Val.shr8 ?_ | with_reducible refine Val.shr16 (by decide) ?_ | with_reducible refine Val.shr24 (by decide) ?_ | with_reducible refine Val.raw ?_ | refine Branch.not ?_ | refine Branch.and ?_ | refine Branch.or ?_ | refine Branch.dt (by assumption) ?_ | refine Branch.df (by assumption) ?_ | refine Branch.dt rfl ?_ | refine Branch.dt (by omega) ?_ | refine Branch.df (by omega) ?_ | refine Branch.t rfl ?_ | refine Branch.f rfl ?_ | refine Branch.t (by assumption) ?_ | refine Branch.f (by assumption) ?_ | refine Branch.d (fun _ => ?_) (fun _ => ?_) | refine Branch.mk (fun _ => ?_) (fun _ => ?_) | refine Need.mk (by first | omega | decide | rfl) ?_ | refine Idx.nat (by omega) ?_ | refine Idx.auto (by first | omega | decide) (by first | omega | decide) ?_ | refine Cell.ro rfl ?_ | refine SDraw.all (by kernel_rfl) ?_ | refine Kept.k0 ?_ | refine Kept.k1 ?_ | refine Kept.k2 ?_ | refine Kept.k3 ?_ | refine Kept.k4 ?_))
end
end Go.Proofs.YtjleekdidedhaaaDoor

/- Layer 25: how long one takes at most: the document's walk. -/
set_option linter.unusedVariables false
set_option linter.unusedSimpArgs false
set_option maxRecDepth 100000
set_option maxHeartbeats 4000000
namespace Go.Proofs.YtjleekdidedhaaaDoor
open Sx
abbrev fS (s : List UInt8) : List Value := [.string (strOf s)]
inductive S33 (A0 A3 A4 : Value) : List Value → Prop
  | mk {r1 r2 r5 r6 r7 r8 r9 r10 r11 r12 r13 r14 r15 r16 r17 r18 r19 r20 : Value} : S33 A0 A3 A4 [A0, r1, r2, A3, A4, r5, r6, r7, r8, r9, r10, r11, r12, r13, r14, r15, r16, r17, r18, r19, r20]
inductive S21a (A0 A1 A6 A7 A8 : Value) : List Value → Prop
  | mk {r2 r3 r4 r5 r9 r10 r11 r12 r13 r14 r15 r16 r17 r18 r19 r20 r21 r22 r23 r24 r25 r26 r27 r28 r29 r30 r31 r32 r33 r34 r35 r36 r37 r38 r39 r40 r41 r42 r43 r44 r45 r46 r47 r48 r49 r50 r51 r52 r53 r54 r55 r56 r57 r58 r59 r60 r61 r62 r63 r64 r65 r66 r67 r68 r69 r70 r71 r72 r73 r74 r75 r76 r77 r78 r79 r80 r81 r82 r83 r84 r85 r86 r87 r88 r89 r90 r91 r92 r93 r94 r95 r96 r97 r98 r99 r100 r101 r102 r103 r104 r105 r106 r107 r108 r109 r110 r111 r112 r113 r114 r115 r116 r117 r118 r119 r120 r121 r122 : Value} : S21a A0 A1 A6 A7 A8 [A0, A1, r2, r3, r4, r5, A6, A7, A8, r9, r10, r11, r12, r13, r14, r15, r16, r17, r18, r19, r20, r21, r22, r23, r24, r25, r26, r27, r28, r29, r30, r31, r32, r33, r34, r35, r36, r37, r38, r39, r40, r41, r42, r43, r44, r45, r46, r47, r48, r49, r50, r51, r52, r53, r54, r55, r56, r57, r58, r59, r60, r61, r62, r63, r64, r65, r66, r67, r68, r69, r70, r71, r72, r73, r74, r75, r76, r77, r78, r79, r80, r81, r82, r83, r84, r85, r86, r87, r88, r89, r90, r91, r92, r93, r94, r95, r96, r97, r98, r99, r100, r101, r102, r103, r104, r105, r106, r107, r108, r109, r110, r111, r112, r113, r114, r115, r116, r117, r118, r119, r120, r121, r122]
inductive S21b (A0 A1 A6 A7 A9 : Value) : List Value → Prop
  | mk {r2 r3 r4 r5 r8 r10 r11 r12 r13 r14 r15 r16 r17 r18 r19 r20 r21 r22 r23 r24 r25 r26 r27 r28 r29 r30 r31 r32 r33 r34 r35 r36 r37 r38 r39 r40 r41 r42 r43 r44 r45 r46 r47 r48 r49 r50 r51 r52 r53 r54 r55 r56 r57 r58 r59 r60 r61 r62 r63 r64 r65 r66 r67 r68 r69 r70 r71 r72 r73 r74 r75 r76 r77 r78 r79 r80 r81 r82 r83 r84 r85 r86 r87 r88 r89 r90 r91 r92 r93 r94 r95 r96 r97 r98 r99 r100 r101 r102 r103 r104 r105 r106 r107 r108 r109 r110 r111 r112 r113 r114 r115 r116 r117 r118 r119 r120 r121 r122 : Value} : S21b A0 A1 A6 A7 A9 [A0, A1, r2, r3, r4, r5, A6, A7, r8, A9, r10, r11, r12, r13, r14, r15, r16, r17, r18, r19, r20, r21, r22, r23, r24, r25, r26, r27, r28, r29, r30, r31, r32, r33, r34, r35, r36, r37, r38, r39, r40, r41, r42, r43, r44, r45, r46, r47, r48, r49, r50, r51, r52, r53, r54, r55, r56, r57, r58, r59, r60, r61, r62, r63, r64, r65, r66, r67, r68, r69, r70, r71, r72, r73, r74, r75, r76, r77, r78, r79, r80, r81, r82, r83, r84, r85, r86, r87, r88, r89, r90, r91, r92, r93, r94, r95, r96, r97, r98, r99, r100, r101, r102, r103, r104, r105, r106, r107, r108, r109, r110, r111, r112, r113, r114, r115, r116, r117, r118, r119, r120, r121, r122]
inductive S21c (A0 A1 A6 A7 A9 A10 A11 : Value) : List Value → Prop
  | mk {r2 r3 r4 r5 r8 r12 r13 r14 r15 r16 r17 r18 r19 r20 r21 r22 r23 r24 r25 r26 r27 r28 r29 r30 r31 r32 r33 r34 r35 r36 r37 r38 r39 r40 r41 r42 r43 r44 r45 r46 r47 r48 r49 r50 r51 r52 r53 r54 r55 r56 r57 r58 r59 r60 r61 r62 r63 r64 r65 r66 r67 r68 r69 r70 r71 r72 r73 r74 r75 r76 r77 r78 r79 r80 r81 r82 r83 r84 r85 r86 r87 r88 r89 r90 r91 r92 r93 r94 r95 r96 r97 r98 r99 r100 r101 r102 r103 r104 r105 r106 r107 r108 r109 r110 r111 r112 r113 r114 r115 r116 r117 r118 r119 r120 r121 r122 : Value} : S21c A0 A1 A6 A7 A9 A10 A11 [A0, A1, r2, r3, r4, r5, A6, A7, r8, A9, A10, A11, r12, r13, r14, r15, r16, r17, r18, r19, r20, r21, r22, r23, r24, r25, r26, r27, r28, r29, r30, r31, r32, r33, r34, r35, r36, r37, r38, r39, r40, r41, r42, r43, r44, r45, r46, r47, r48, r49, r50, r51, r52, r53, r54, r55, r56, r57, r58, r59, r60, r61, r62, r63, r64, r65, r66, r67, r68, r69, r70, r71, r72, r73, r74, r75, r76, r77, r78, r79, r80, r81, r82, r83, r84, r85, r86, r87, r88, r89, r90, r91, r92, r93, r94, r95, r96, r97, r98, r99, r100, r101, r102, r103, r104, r105, r106, r107, r108, r109, r110, r111, r112, r113, r114, r115, r116, r117, r118, r119, r120, r121, r122]
section
variable {K : Value → Heap → Prop} {H : Heap} {sv : Value} {L : List Msg} {m y : Msg}
def I33 (sv : Value) (L : List Msg) (H : Heap) (k : Nat) (S : List Value) (H' : Heap) : Prop :=
  k ≤ L.length ∧ ∃ fa fc M, Grow fS 1 9 (.slice fa k fc) ((L.take k).map fld) M ∧ S33 sv (.slice fa k fc) (.int .i64 (k : Int)) S ∧ H' = M ++ H
theorem c33 (hin : InS mC 5 sv H L) (hlen : L.length ≤ 64) (h : ∀ fa fc M, (∀ H', (∀ p ∈ M, p ∈ H') → InS fS 1 (.slice fa L.length fc) H' (L.map fld)) → K (.slice fa L.length fc) (M ++ H)) : SCalls Tryd.prog 33 [sv] H K := by
  obtain ⟨sa, sc, rfl, hml⟩ := hin.sv
  refine enter33 ?_
  repeat' ((conv => whnf); (first | refine New.mk (fun _ => ?_) | refine Look.at0 ?_ | refine Cell.row ?_ | refine Cell.buf ?_ | refine Cells.row rfl ?_ | refine Put.row rfl ?_ | refine Put.buf rfl ?_ | refine Look.at1 ?_ | refine Look.at2 ?_ | refine Look.at3 ?_ | refine Look.at4 ?_ | refine Look.at5 ?_ | refine Look.at6 ?_ | refine Look.at7 ?_ | refine Look.at8 ?_ | with_reducible refine Val.i64 (by omega) (by omega) ?_ | with_reducible refine Val.u8 (by omega) (by omega) ?_ | with_reducible refine Val.u32 (by omega) (by omega) ?_ | with_reducible refine Val.u64 (by omega) (by omega) ?_ | with_reducible refine Val.u8m ?_ | with_reducible refine Val.u32m ?_ | with_reducible refine Val.u64m ?_ | with_reducible refine Val.shr8 ?_ | with_reducible refine Val.shr16 (by decide) ?_ | with_reducible refine Val.shr24 (by decide) ?_ | with_reducible refine Val.raw ?_ | refine Branch.not ?_ | refine Branch.and ?_ | refine Branch.or ?_ | refine Branch.dt (by assumption) ?_ | refine Branch.df (by assumption) ?_ | refine Branch.dt rfl ?_ | refine Branch.dt (by omega) ?_ | refine Branch.df (by omega) ?_ | refine Branch.t rfl ?_ | refine Branch.f rfl ?_ | refine Branch.t (by assumption) ?_ | refine Branch.f (by assumption) ?_ | refine Branch.d (fun _ => ?_) (fun _ => ?_) | refine Branch.mk (fun _ => ?_) (fun _ => ?_) | refine Need.mk (by first | omega | decide | rfl) ?_ | refine Idx.nat (by omega) ?_ | refine Idx.auto (by first | omega | decide) (by first | omega | decide) ?_ | refine Cell.ro rfl ?_ | refine SDraw.all (by kernel_rfl) ?_ | refine Kept.k0 ?_ | refine Kept.k1 ?_ | refine Kept.k2 ?_ | refine Kept.k3 ?_ | refine Kept.k4 ?_))
  rename_i p
  refine SLoop.toBuf (A := []) (SLoop.invA (I33 (.slice sa L.length sc) L H) (fun k => L.length - k) 0 (Keep.all ⟨Nat.zero_le _, _, _, [(p, .buf 9 [] (0 * 1))], Grow.zero, .mk, rfl⟩) ?_)
  rintro k S H' ⟨hk, fa, fc, M, hGr, hS, rfl⟩ R hR
  cases hS
  by_cases hlt : k < L.length
  · obtain ⟨y, hx, hdrop, htake⟩ := list_at hlt
    obtain ⟨r2, o2, c2, b2, e1, hrb2, hc2⟩ := inS_at hin (fun _ => rfl) hx
    injection e1 with e1 _ e3
    subst e1
    have hM : (r2, b2) ∈ M ++ H := List.mem_append_right _ hrb2
    have hl2 : ((L.take k).map fld).length = k := by simp; omega
    have hnext := fun S fa' fc' M' (q : Nat × Blk) (hg2 : Grow fS 1 9 (.slice fa' (((L.take k).map fld).length + 1) fc') ((L.take k).map fld ++ [fld y]) M') (hS : S33 (.slice (some ⟨r2, o2, none⟩) L.length sc) (.slice fa' (((L.take k).map fld).length + 1) fc') (.int .i64 ((k + 1 : Nat) : Int)) S) => hR (k + 1) S (M' ++ ([q] ++ H)) (by omega) (Keep.sub _ ((List.Sublist.refl M').append (List.sublist_append_right [q] H)) ⟨by omega, fa', fc', M', by
      rw [htake, List.map_append]
      rw [hl2] at hg2
      exact hg2, by rw [hl2] at hS; exact hS, rfl⟩)
    clear hR
    repeat' ((conv => whnf); (first | refine Look.cells hM rfl hc2 ?_ | refine c13 ?_ | refine RawV.grow1 (A := [_]) (x := fld y) (bytes := 16) hGr rfl (.head _) rfl (by kernel_rfl) (by decide) (fun _ => rfl) (fun u hu => by obtain rfl := List.mem_singleton.1 hu; rfl) (by rw [hl2]; simp only [maxLen]; omega) (by rw [hl2]; omega) (fun fa' fc' M' hg2 => ?_) | exact hnext _ _ _ _ _ hg2 .mk | refine New.mk (fun _ => ?_) | refine Look.at0 ?_ | refine Cell.row ?_ | refine Cell.buf ?_ | refine Cells.row rfl ?_ | refine Put.row rfl ?_ | refine Put.buf rfl ?_ | refine Look.at1 ?_ | refine Look.at2 ?_ | refine Look.at3 ?_ | refine Look.at4 ?_ | refine Look.at5 ?_ | refine Look.at6 ?_ | refine Look.at7 ?_ | refine Look.at8 ?_ | with_reducible refine Val.i64 (by omega) (by omega) ?_ | with_reducible refine Val.u8 (by omega) (by omega) ?_ | with_reducible refine Val.u32 (by omega) (by omega) ?_ | with_reducible refine Val.u64 (by omega) (by omega) ?_ | with_reducible refine Val.u8m ?_ | with_reducible refine Val.u32m ?_ | with_reducible refine Val.u64m ?_ | with_reducible refine Val.shr8 ?_ | with_reducible refine Val.shr16 (by decide) ?_ | with_reducible refine Val.shr24 (by decide) ?_ | with_reducible refine Val.raw ?_ | refine Branch.not ?_ | refine Branch.and ?_ | refine Branch.or ?_ | refine Branch.dt (by assumption) ?_ | refine Branch.df (by assumption) ?_ | refine Branch.dt rfl ?_ | refine Branch.dt (by omega) ?_ | refine Branch.df (by omega) ?_ | refine Branch.t rfl ?_ | refine Branch.f rfl ?_ | refine Branch.t (by assumption) ?_ | refine Branch.f (by assumption) ?_ | refine Branch.d (fun _ => ?_) (fun _ => ?_) | refine Branch.mk (fun _ => ?_) (fun _ => ?_) | refine Need.mk (by first | omega | decide | rfl) ?_ | refine Idx.nat (by omega) ?_ | refine Idx.auto (by first | omega | decide) (by first | omega | decide) ?_ | refine Cell.ro rfl ?_ | refine SDraw.all (by kernel_rfl) ?_ | refine Kept.k0 ?_ | refine Kept.k1 ?_ | refine Kept.k2 ?_ | refine Kept.k3 ?_ | refine Kept.k4 ?_))
  · obtain rfl : k = L.length := by omega
    rw [List.take_length] at hGr
    clear hR
    have hk := h fa fc M (fun H' hs => hGr.ins (fun _ => rfl) hs)
    repeat' ((conv => whnf); (first | exact Keep.all hk | refine New.mk (fun _ => ?_) | refine Look.at0 ?_ | refine Cell.row ?_ | refine Cell.buf ?_ | refine Cells.row rfl ?_ | refine Put.row rfl ?_ | refine Put.buf rfl ?_ | refine Look.at1 ?_ | refine Look.at2 ?_ | refine Look.at3 ?_ | refine Look.at4 ?_ | refine Look.at5 ?_ | refine Look.at6 ?_ | refine Look.at7 ?_ | refine Look.at8 ?_ | with_reducible refine Val.i64 (by omega) (by omega) ?_ | with_reducible refine Val.u8 (by omega) (by omega) ?_ | with_reducible refine Val.u32 (by omega) (by omega) ?_ | with_reducible refine Val.u64 (by omega) (by omega) ?_ | with_reducible refine Val.u8m ?_ | with_reducible refine Val.u32m ?_ | with_reducible refine Val.u64m ?_ | with_reducible refine Val.shr8 ?_ | with_reducible refine Val.shr16 (by decide) ?_ | with_reducible refine Val.shr24 (by decide) ?_ | with_reducible refine Val.raw ?_ | refine Branch.not ?_ | refine Branch.and ?_ | refine Branch.or ?_ | refine Branch.dt (by assumption) ?_ | refine Branch.df (by assumption) ?_ | refine Branch.dt rfl ?_ | refine Branch.dt (by omega) ?_ | refine Branch.df (by omega) ?_ | refine Branch.t rfl ?_ | refine Branch.f rfl ?_ | refine Branch.t (by assumption) ?_ | refine Branch.f (by assumption) ?_ | refine Branch.d (fun _ => ?_) (fun _ => ?_) | refine Branch.mk (fun _ => ?_) (fun _ => ?_) | refine Need.mk (by first | omega | decide | rfl) ?_ | refine Idx.nat (by omega) ?_ | refine Idx.auto (by first | omega | decide) (by first | omega | decide) ?_ | refine Cell.ro rfl ?_ | refine SDraw.all (by kernel_rfl) ?_ | refine Kept.k0 ?_ | refine Kept.k1 ?_ | refine Kept.k2 ?_ | refine Kept.k3 ?_ | refine Kept.k4 ?_))
def I21a (sv fv : Value) (i : Nat) (L : List Msg) (m : Msg) (H : Heap) (k : Nat) (S : List Value) (H' : Heap) : Prop :=
  k ≤ L.length ∧ S21a sv (.int .i64 (i : Int)) (.int .u64 (bK L m k : Int)) fv (.int .i64 (k : Int)) S ∧ H' = H
def I21b (sv fv : Value) (i : Nat) (L : List Msg) (m : Msg) (T : Nat × Bool) (H : Heap) (w : Nat) (S : List Value) (H' : Heap) : Prop :=
  w ≤ 140737488355328 ∧ w ≤ wStep L m w ∧ wIter L m (m.p + 1 - w) w = T ∧ S21b sv (.int .i64 (i : Int)) (.int .u64 (wB L m : Int)) fv (.int .u64 (w : Int)) S ∧ H' = H
def I21c (sv fv : Value) (i : Nat) (L : List Msg) (m : Msg) (w : Nat) (H : Heap) (k : Nat) (S : List Value) (H' : Heap) : Prop :=
  k ≤ L.length ∧ S21c sv (.int .i64 (i : Int)) (.int .u64 (wB L m : Int)) fv (.int .u64 (w : Int)) (.int .u64 (((fK L m k).foldl (wAdd w) (wB L m) : Nat) : Int)) (.int .i64 (k : Int)) S ∧ H' = H
theorem c21 {i : Nat} (hin : InS mC 5 sv H L) (hG : Goods L) (hi : L[i]? = some m) (h : K (.tuple ⟨[.int .u64 ((worstS L m).1 : Int), .bool (worstS L m).2]⟩) H) : SCalls Tryd.prog 21 [sv, .int .i64 (i : Int)] H K := by
  have hm := List.mem_of_getElem? hi
  have hg := hG.good m hm
  have hlen := hG.len
  have hil : i < L.length := (List.getElem?_eq_some_iff.1 hi).1
  obtain ⟨r, o, c, b, rfl, hrb, hc⟩ := inS_at hin (fun _ => rfl) hi
  refine enter21 ?_
  repeat' ((conv => whnf); (first | refine Look.cells hrb rfl hc ?_ | refine t12 hg ?_ | refine c33 hin hlen (fun fa fc M hfs => ?_) | refine New.mk (fun _ => ?_) | refine Look.at0 ?_ | refine Cell.row ?_ | refine Cell.buf ?_ | refine Cells.row rfl ?_ | refine Put.row rfl ?_ | refine Put.buf rfl ?_ | refine Look.at1 ?_ | refine Look.at2 ?_ | refine Look.at3 ?_ | refine Look.at4 ?_ | refine Look.at5 ?_ | refine Look.at6 ?_ | refine Look.at7 ?_ | refine Look.at8 ?_ | with_reducible refine Val.i64 (by omega) (by omega) ?_ | with_reducible refine Val.u8 (by omega) (by omega) ?_ | with_reducible refine Val.u32 (by omega) (by omega) ?_ | with_reducible refine Val.u64 (by omega) (by omega) ?_ | with_reducible refine Val.u8m ?_ | with_reducible refine Val.u32m ?_ | with_reducible refine Val.u64m ?_ | with_reducible refine Val.shr8 ?_ | with_reducible refine Val.shr16 (by decide) ?_ | with_reducible refine Val.shr24 (by decide) ?_ | with_reducible refine Val.raw ?_ | refine Branch.not ?_ | refine Branch.and ?_ | refine Branch.or ?_ | refine Branch.dt (by assumption) ?_ | refine Branch.df (by assumption) ?_ | refine Branch.dt rfl ?_ | refine Branch.dt (by omega) ?_ | refine Branch.df (by omega) ?_ | refine Branch.t rfl ?_ | refine Branch.f rfl ?_ | refine Branch.t (by assumption) ?_ | refine Branch.f (by assumption) ?_ | refine Branch.d (fun _ => ?_) (fun _ => ?_) | refine Branch.mk (fun _ => ?_) (fun _ => ?_) | refine Need.mk (by first | omega | decide | rfl) ?_ | refine Idx.nat (by omega) ?_ | refine Idx.auto (by first | omega | decide) (by first | omega | decide) ?_ | refine Cell.ro rfl ?_ | refine SDraw.all (by kernel_rfl) ?_ | refine Kept.k0 ?_ | refine Kept.k1 ?_ | refine Kept.k2 ?_ | refine Kept.k3 ?_ | refine Kept.k4 ?_))
  have hfin := hfs (M ++ H) (fun p hp => List.mem_append_left _ hp)
  have h' : Keep (M ++ H) fun H' => K (.tuple ⟨[.int .u64 ((worstS L m).1 : Int), .bool (worstS L m).2]⟩) H' := Keep.sub _ (List.sublist_append_right M H) h
  have hM := List.mem_append_right M hrb
  have hc3 := hc 3 _ rfl
  have hc4 := hc 4 _ rfl
  obtain ⟨fr, fo, fc1, fb, e1, hfb, hfi⟩ := hfin.at1 (j := i) (x := fld m) (by rw [List.getElem?_map, hi]; rfl) rfl
  rw [List.length_map] at e1
  injection e1 with e1 _ e3
  subst e1
  have hfk : ∀ (k : Nat) (y : Msg), L[k]? = some y → ∃ fb, (fr, fb) ∈ M ++ H ∧ fb.cell (fo + k * 1) = some (.string (strOf (fV y.id y.x y.n).1)) := by
    intro k y hy
    obtain ⟨fr', fo', fc1', fb', e1, hfb', hfi'⟩ := hfin.at1 (j := k) (x := fld y) (by rw [List.getElem?_map, hy]; rfl) rfl
    injection e1 with e1 _ _
    injection e1 with e1
    injection e1 with e4 e5
    subst e4 e5
    exact ⟨fb', hfb', hfi'⟩
  have hfi : fb.cell (fo + i * 1) = some (.string (strOf (fV m.id m.x m.n).1)) := hfi
  have hgt := hg.tm
  have hp2 := hg.p2
  have hj := hg.j
  have hbb : wB L m ≤ 160 := wB_b hG.good hg L (fun z hz => hz) _ hg.tm.2.1
  generalize hT : worstS L m = T at h'
  clear h hfs
  refine SLoop.invA (I21a (.slice (some ⟨r, o, none⟩) L.length c) (.slice (some ⟨fr, fo, none⟩) L.length fc) i L m (M ++ H)) (fun k => L.length - k) 0 (Keep.all ⟨Nat.zero_le _, .mk, rfl⟩) ?_
  rintro k S H' ⟨hk, hS, rfl⟩ R hR
  cases hS
  by_cases hlt : k < L.length
  · obtain ⟨y, hx, hdrop, htake⟩ := list_at hlt
    obtain ⟨r2, o2, c2, b2, e1, hrb2, hc2⟩ := inS_at hin (fun _ => rfl) hx
    injection e1 with e1 _ e3
    injection e1 with e1
    injection e1 with e4 e5
    subst e4 e5
    obtain ⟨fbk, hfbk, hck⟩ := hfk k y hx
    have hgy := hG.good y (List.mem_of_getElem? hx)
    have hM2 := List.mem_append_right M hrb2
    have hb1 := bK_succ (m := m) htake
    have hbk : bK L m k ≤ 160 := wB_b hG.good hg (L.take k) (fun z hz => List.mem_of_mem_take hz) _ hg.tm.2.1
    have hbt := hgy.tm
    have hgtr := strGt_of (fV y.id y.x y.n).1 (fV m.id m.x m.n).1
    have hnext := fun S (hS : S21a (.slice (some ⟨r, o, none⟩) L.length c) (.int .i64 (i : Int)) (.int .u64 (bK L m (k + 1) : Int)) (.slice (some ⟨fr, fo, none⟩) L.length fc) (.int .i64 ((k + 1 : Nat) : Int)) S) => hR (k + 1) S (M ++ H) (by omega) (Keep.all ⟨by omega, hS, rfl⟩)
    clear hR
    cases hlt2 : tlt (fV m.id m.x m.n).1 (fV y.id y.x y.n).1 with
    | false =>
      rw [hlt2] at hgtr
      rw [show tlt (fld m) (fld y) = false from hlt2] at hb1
      rw [hb1] at hnext
      repeat' ((conv => whnf); (first | refine Look.cell hfbk hck ?_ | refine Look.cell hfb hfi ?_ | refine Branch.f hgtr ?_ | exact hnext _ .mk | refine New.mk (fun _ => ?_) | refine Look.at0 ?_ | refine Cell.row ?_ | refine Cell.buf ?_ | refine Cells.row rfl ?_ | refine Put.row rfl ?_ | refine Put.buf rfl ?_ | refine Look.at1 ?_ | refine Look.at2 ?_ | refine Look.at3 ?_ | refine Look.at4 ?_ | refine Look.at5 ?_ | refine Look.at6 ?_ | refine Look.at7 ?_ | refine Look.at8 ?_ | with_reducible refine Val.i64 (by omega) (by omega) ?_ | with_reducible refine Val.u8 (by omega) (by omega) ?_ | with_reducible refine Val.u32 (by omega) (by omega) ?_ | with_reducible refine Val.u64 (by omega) (by omega) ?_ | with_reducible refine Val.u8m ?_ | with_reducible refine Val.u32m ?_ | with_reducible refine Val.u64m ?_ | with_reducible refine Val.shr8 ?_ | with_reducible refine Val.shr16 (by decide) ?_ | with_reducible refine Val.shr24 (by decide) ?_ | with_reducible refine Val.raw ?_ | refine Branch.not ?_ | refine Branch.and ?_ | refine Branch.or ?_ | refine Branch.dt (by assumption) ?_ | refine Branch.df (by assumption) ?_ | refine Branch.dt rfl ?_ | refine Branch.dt (by omega) ?_ | refine Branch.df (by omega) ?_ | refine Branch.t rfl ?_ | refine Branch.f rfl ?_ | refine Branch.t (by assumption) ?_ | refine Branch.f (by assumption) ?_ | refine Branch.d (fun _ => ?_) (fun _ => ?_) | refine Branch.mk (fun _ => ?_) (fun _ => ?_) | refine Need.mk (by first | omega | decide | rfl) ?_ | refine Idx.nat (by omega) ?_ | refine Idx.auto (by first | omega | decide) (by first | omega | decide) ?_ | refine Cell.ro rfl ?_ | refine SDraw.all (by kernel_rfl) ?_ | refine Kept.k0 ?_ | refine Kept.k1 ?_ | refine Kept.k2 ?_ | refine Kept.k3 ?_ | refine Kept.k4 ?_))
    | true =>
      rw [hlt2] at hgtr
      rw [show tlt (fld m) (fld y) = true from hlt2] at hb1
      by_cases hbig : bK L m k < tm y
      · rw [hb1, if_pos rfl, show max (bK L m k) (tm y) = tm y by omega] at hnext
        repeat' ((conv => whnf); (first | refine Look.cell hfbk hck ?_ | refine Look.cell hfb hfi ?_ | refine Look.cells hM2 rfl hc2 ?_ | refine t12 hgy ?_ | refine Branch.t hgtr ?_ | refine Branch.dt (by omega) ?_ | exact hnext _ .mk | refine New.mk (fun _ => ?_) | refine Look.at0 ?_ | refine Cell.row ?_ | refine Cell.buf ?_ | refine Cells.row rfl ?_ | refine Put.row rfl ?_ | refine Put.buf rfl ?_ | refine Look.at1 ?_ | refine Look.at2 ?_ | refine Look.at3 ?_ | refine Look.at4 ?_ | refine Look.at5 ?_ | refine Look.at6 ?_ | refine Look.at7 ?_ | refine Look.at8 ?_ | with_reducible refine Val.i64 (by omega) (by omega) ?_ | with_reducible refine Val.u8 (by omega) (by omega) ?_ | with_reducible refine Val.u32 (by omega) (by omega) ?_ | with_reducible refine Val.u64 (by omega) (by omega) ?_ | with_reducible refine Val.u8m ?_ | with_reducible refine Val.u32m ?_ | with_reducible refine Val.u64m ?_ | with_reducible refine Val.shr8 ?_ | with_reducible refine Val.shr16 (by decide) ?_ | with_reducible refine Val.shr24 (by decide) ?_ | with_reducible refine Val.raw ?_ | refine Branch.not ?_ | refine Branch.and ?_ | refine Branch.or ?_ | refine Branch.dt (by assumption) ?_ | refine Branch.df (by assumption) ?_ | refine Branch.dt rfl ?_ | refine Branch.dt (by omega) ?_ | refine Branch.df (by omega) ?_ | refine Branch.t rfl ?_ | refine Branch.f rfl ?_ | refine Branch.t (by assumption) ?_ | refine Branch.f (by assumption) ?_ | refine Branch.d (fun _ => ?_) (fun _ => ?_) | refine Branch.mk (fun _ => ?_) (fun _ => ?_) | refine Need.mk (by first | omega | decide | rfl) ?_ | refine Idx.nat (by omega) ?_ | refine Idx.auto (by first | omega | decide) (by first | omega | decide) ?_ | refine Cell.ro rfl ?_ | refine SDraw.all (by kernel_rfl) ?_ | refine Kept.k0 ?_ | refine Kept.k1 ?_ | refine Kept.k2 ?_ | refine Kept.k3 ?_ | refine Kept.k4 ?_))
      · rw [hb1, if_pos rfl, show max (bK L m k) (tm y) = bK L m k by omega] at hnext
        repeat' ((conv => whnf); (first | refine Look.cell hfbk hck ?_ | refine Look.cell hfb hfi ?_ | refine Look.cells hM2 rfl hc2 ?_ | refine t12 hgy ?_ | refine Branch.t hgtr ?_ | refine Branch.df (by omega) ?_ | exact hnext _ .mk | refine New.mk (fun _ => ?_) | refine Look.at0 ?_ | refine Cell.row ?_ | refine Cell.buf ?_ | refine Cells.row rfl ?_ | refine Put.row rfl ?_ | refine Put.buf rfl ?_ | refine Look.at1 ?_ | refine Look.at2 ?_ | refine Look.at3 ?_ | refine Look.at4 ?_ | refine Look.at5 ?_ | refine Look.at6 ?_ | refine Look.at7 ?_ | refine Look.at8 ?_ | with_reducible refine Val.i64 (by omega) (by omega) ?_ | with_reducible refine Val.u8 (by omega) (by omega) ?_ | with_reducible refine Val.u32 (by omega) (by omega) ?_ | with_reducible refine Val.u64 (by omega) (by omega) ?_ | with_reducible refine Val.u8m ?_ | with_reducible refine Val.u32m ?_ | with_reducible refine Val.u64m ?_ | with_reducible refine Val.shr8 ?_ | with_reducible refine Val.shr16 (by decide) ?_ | with_reducible refine Val.shr24 (by decide) ?_ | with_reducible refine Val.raw ?_ | refine Branch.not ?_ | refine Branch.and ?_ | refine Branch.or ?_ | refine Branch.dt (by assumption) ?_ | refine Branch.df (by assumption) ?_ | refine Branch.dt rfl ?_ | refine Branch.dt (by omega) ?_ | refine Branch.df (by omega) ?_ | refine Branch.t rfl ?_ | refine Branch.f rfl ?_ | refine Branch.t (by assumption) ?_ | refine Branch.f (by assumption) ?_ | refine Branch.d (fun _ => ?_) (fun _ => ?_) | refine Branch.mk (fun _ => ?_) (fun _ => ?_) | refine Need.mk (by first | omega | decide | rfl) ?_ | refine Idx.nat (by omega) ?_ | refine Idx.auto (by first | omega | decide) (by first | omega | decide) ?_ | refine Cell.ro rfl ?_ | refine SDraw.all (by kernel_rfl) ?_ | refine Kept.k0 ?_ | refine Kept.k1 ?_ | refine Kept.k2 ?_ | refine Kept.k3 ?_ | refine Kept.k4 ?_))
  · have e : k = L.length := by omega
    subst e
    clear hR
    have eb : bK L m L.length = wB L m := by unfold bK wB; rw [List.take_length]
    rw [eb]
    repeat' ((conv => whnf); (first | refine New.mk (fun _ => ?_) | refine Look.at0 ?_ | refine Cell.row ?_ | refine Cell.buf ?_ | refine Cells.row rfl ?_ | refine Put.row rfl ?_ | refine Put.buf rfl ?_ | refine Look.at1 ?_ | refine Look.at2 ?_ | refine Look.at3 ?_ | refine Look.at4 ?_ | refine Look.at5 ?_ | refine Look.at6 ?_ | refine Look.at7 ?_ | refine Look.at8 ?_ | with_reducible refine Val.i64 (by omega) (by omega) ?_ | with_reducible refine Val.u8 (by omega) (by omega) ?_ | with_reducible refine Val.u32 (by omega) (by omega) ?_ | with_reducible refine Val.u64 (by omega) (by omega) ?_ | with_reducible refine Val.u8m ?_ | with_reducible refine Val.u32m ?_ | with_reducible refine Val.u64m ?_ | with_reducible refine Val.shr8 ?_ | with_reducible refine Val.shr16 (by decide) ?_ | with_reducible refine Val.shr24 (by decide) ?_ | with_reducible refine Val.raw ?_ | refine Branch.not ?_ | refine Branch.and ?_ | refine Branch.or ?_ | refine Branch.dt (by assumption) ?_ | refine Branch.df (by assumption) ?_ | refine Branch.dt rfl ?_ | refine Branch.dt (by omega) ?_ | refine Branch.df (by omega) ?_ | refine Branch.t rfl ?_ | refine Branch.f rfl ?_ | refine Branch.t (by assumption) ?_ | refine Branch.f (by assumption) ?_ | refine Branch.d (fun _ => ?_) (fun _ => ?_) | refine Branch.mk (fun _ => ?_) (fun _ => ?_) | refine Need.mk (by first | omega | decide | rfl) ?_ | refine Idx.nat (by omega) ?_ | refine Idx.auto (by first | omega | decide) (by first | omega | decide) ?_ | refine Cell.ro rfl ?_ | refine SDraw.all (by kernel_rfl) ?_ | refine Kept.k0 ?_ | refine Kept.k1 ?_ | refine Kept.k2 ?_ | refine Kept.k3 ?_ | refine Kept.k4 ?_))
    refine SLoop.invA (I21b (.slice (some ⟨r, o, none⟩) L.length c) (.slice (some ⟨fr, fo, none⟩) L.length fc) i L m T (M ++ H)) (fun w => m.p + 1 - w) (wB L m) (Keep.all ⟨by omega, wB_le _ _ _, by rw [← hT]; exact wIter_fuel _ _ _ _ _ (by omega) (by omega) (wB_le _ _ _), .mk, rfl⟩) ?_
    rintro w S H' ⟨hwb, hw, hgo, hS, rfl⟩ R hR
    cases hS
    by_cases hp : m.p < m.j + w + tm m
    · have e : T = (0, false) := by
        rw [← hgo]
        cases hf : m.p + 1 - w with
        | zero => rfl
        | succ f => rw [wIter, if_pos hp]
      subst e
      clear hR
      repeat' ((conv => whnf); (first | refine Look.cell hM hc4 ?_ | refine Look.cell hM hc3 ?_ | refine Look.cells hM rfl hc ?_ | refine t12 hg ?_ | refine Branch.df (by omega) ?_ | exact h' | refine New.mk (fun _ => ?_) | refine Look.at0 ?_ | refine Cell.row ?_ | refine Cell.buf ?_ | refine Cells.row rfl ?_ | refine Put.row rfl ?_ | refine Put.buf rfl ?_ | refine Look.at1 ?_ | refine Look.at2 ?_ | refine Look.at3 ?_ | refine Look.at4 ?_ | refine Look.at5 ?_ | refine Look.at6 ?_ | refine Look.at7 ?_ | refine Look.at8 ?_ | with_reducible refine Val.i64 (by omega) (by omega) ?_ | with_reducible refine Val.u8 (by omega) (by omega) ?_ | with_reducible refine Val.u32 (by omega) (by omega) ?_ | with_reducible refine Val.u64 (by omega) (by omega) ?_ | with_reducible refine Val.u8m ?_ | with_reducible refine Val.u32m ?_ | with_reducible refine Val.u64m ?_ | with_reducible refine Val.shr8 ?_ | with_reducible refine Val.shr16 (by decide) ?_ | with_reducible refine Val.shr24 (by decide) ?_ | with_reducible refine Val.raw ?_ | refine Branch.not ?_ | refine Branch.and ?_ | refine Branch.or ?_ | refine Branch.dt (by assumption) ?_ | refine Branch.df (by assumption) ?_ | refine Branch.dt rfl ?_ | refine Branch.dt (by omega) ?_ | refine Branch.df (by omega) ?_ | refine Branch.t rfl ?_ | refine Branch.f rfl ?_ | refine Branch.t (by assumption) ?_ | refine Branch.f (by assumption) ?_ | refine Branch.d (fun _ => ?_) (fun _ => ?_) | refine Branch.mk (fun _ => ?_) (fun _ => ?_) | refine Need.mk (by first | omega | decide | rfl) ?_ | refine Idx.nat (by omega) ?_ | refine Idx.auto (by first | omega | decide) (by first | omega | decide) ?_ | refine Cell.ro rfl ?_ | refine SDraw.all (by kernel_rfl) ?_ | refine Kept.k0 ?_ | refine Kept.k1 ?_ | refine Kept.k2 ?_ | refine Kept.k3 ?_ | refine Kept.k4 ?_))
    · obtain ⟨f, hf⟩ : ∃ f, m.p + 1 - w = f + 1 := ⟨m.p - w, by omega⟩
      rw [hf, wIter, if_neg hp] at hgo
      repeat' ((conv => whnf); (first | refine Look.cell hM hc4 ?_ | refine Look.cell hM hc3 ?_ | refine Look.cells hM rfl hc ?_ | refine t12 hg ?_ | refine Branch.dt (by omega) ?_ | refine New.mk (fun _ => ?_) | refine Look.at0 ?_ | refine Cell.row ?_ | refine Cell.buf ?_ | refine Cells.row rfl ?_ | refine Put.row rfl ?_ | refine Put.buf rfl ?_ | refine Look.at1 ?_ | refine Look.at2 ?_ | refine Look.at3 ?_ | refine Look.at4 ?_ | refine Look.at5 ?_ | refine Look.at6 ?_ | refine Look.at7 ?_ | refine Look.at8 ?_ | with_reducible refine Val.i64 (by omega) (by omega) ?_ | with_reducible refine Val.u8 (by omega) (by omega) ?_ | with_reducible refine Val.u32 (by omega) (by omega) ?_ | with_reducible refine Val.u64 (by omega) (by omega) ?_ | with_reducible refine Val.u8m ?_ | with_reducible refine Val.u32m ?_ | with_reducible refine Val.u64m ?_ | with_reducible refine Val.shr8 ?_ | with_reducible refine Val.shr16 (by decide) ?_ | with_reducible refine Val.shr24 (by decide) ?_ | with_reducible refine Val.raw ?_ | refine Branch.not ?_ | refine Branch.and ?_ | refine Branch.or ?_ | refine Branch.dt (by assumption) ?_ | refine Branch.df (by assumption) ?_ | refine Branch.dt rfl ?_ | refine Branch.dt (by omega) ?_ | refine Branch.df (by omega) ?_ | refine Branch.t rfl ?_ | refine Branch.f rfl ?_ | refine Branch.t (by assumption) ?_ | refine Branch.f (by assumption) ?_ | refine Branch.d (fun _ => ?_) (fun _ => ?_) | refine Branch.mk (fun _ => ?_) (fun _ => ?_) | refine Need.mk (by first | omega | decide | rfl) ?_ | refine Idx.nat (by omega) ?_ | refine Idx.auto (by first | omega | decide) (by first | omega | decide) ?_ | refine Cell.ro rfl ?_ | refine SDraw.all (by kernel_rfl) ?_ | refine Kept.k0 ?_ | refine Kept.k1 ?_ | refine Kept.k2 ?_ | refine Kept.k3 ?_ | refine Kept.k4 ?_))
      refine SLoop.invA (I21c (.slice (some ⟨r, o, none⟩) L.length c) (.slice (some ⟨fr, fo, none⟩) L.length fc) i L m w (M ++ H)) (fun k => L.length - k) 0 (Keep.all ⟨Nat.zero_le _, .mk, rfl⟩) ?_
      rintro k S H' ⟨hk, hS, rfl⟩ R2 hR2
      cases hS
      have hw32 : w ≤ 4294967296 := by omega
      have hgF : ∀ y ∈ fK L m k, Good y := fun y hy => hG.good y (List.mem_of_mem_take (List.mem_filter.1 hy).1)
      have hsum := wSum_b hw32 (fK L m k) (wB L m) hgF
      have hlk : (fK L m k).length ≤ 64 := Nat.le_trans (List.length_filter_le _ _) (Nat.le_trans (List.length_take_le _ _) (by omega))
      have hlk2 : (fK L m k).length * 1374389534880 ≤ 64 * 1374389534880 := Nat.mul_le_mul_right _ hlk
      by_cases hlt : k < L.length
      · obtain ⟨y, hx, hdrop, htake⟩ := list_at hlt
        obtain ⟨r2, o2, c2, b2, e1, hrb2, hc2⟩ := inS_at hin (fun _ => rfl) hx
        injection e1 with e1 _ e3
        injection e1 with e1
        injection e1 with e4 e5
        subst e4 e5
        obtain ⟨fbk, hfbk, hck⟩ := hfk k y hx
        have hM2 := List.mem_append_right M hrb2
        have hd3 := hc2 3 _ rfl
        have hd4 := hc2 4 _ rfl
        have hgy := hG.good y (List.mem_of_getElem? hx)
        have hf1 := fK_succ (m := m) htake
        have hv := wAdd_b hgy hw32
        have hyp := hgy.p1
        have hyp2 := hgy.p2
        have hyj := hgy.j
        have hlts := strLt_of (fV y.id y.x y.n).1 (fV m.id m.x m.n).1
        have hnext := fun S q (hS : S21c (.slice (some ⟨r, o, none⟩) L.length c) (.int .i64 (i : Int)) (.int .u64 (wB L m : Int)) (.slice (some ⟨fr, fo, none⟩) L.length fc) (.int .u64 (w : Int)) (.int .u64 q) (.int .i64 ((k + 1 : Nat) : Int)) S) (hq : q = (((fK L m (k + 1)).foldl (wAdd w) (wB L m) : Nat) : Int)) => hR2 (k + 1) S (M ++ H) (by omega) (Keep.all ⟨by omega, by rw [← hq]; exact hS, rfl⟩)
        clear hR hR2
        generalize hacc : (fK L m k).foldl (wAdd w) (wB L m) = acc at *
        cases hlt2 : tlt (fV y.id y.x y.n).1 (fV m.id m.x m.n).1 with
        | false =>
          rw [hlt2] at hlts
          rw [show tlt (fld y) (fld m) = false from hlt2] at hf1
          have hq : (acc : Int) = (((fK L m (k + 1)).foldl (wAdd w) (wB L m) : Nat) : Int) := by rw [hf1, ← hacc]; rfl
          repeat' ((conv => whnf); (first | refine Look.cell hfbk hck ?_ | refine Look.cell hfb hfi ?_ | refine Branch.f hlts ?_ | exact hnext _ _ .mk hq | refine New.mk (fun _ => ?_) | refine Look.at0 ?_ | refine Cell.row ?_ | refine Cell.buf ?_ | refine Cells.row rfl ?_ | refine Put.row rfl ?_ | refine Put.buf rfl ?_ | refine Look.at1 ?_ | refine Look.at2 ?_ | refine Look.at3 ?_ | refine Look.at4 ?_ | refine Look.at5 ?_ | refine Look.at6 ?_ | refine Look.at7 ?_ | refine Look.at8 ?_ | with_reducible refine Val.i64 (by omega) (by omega) ?_ | with_reducible refine Val.u8 (by omega) (by omega) ?_ | with_reducible refine Val.u32 (by omega) (by omega) ?_ | with_reducible refine Val.u64 (by omega) (by omega) ?_ | with_reducible refine Val.u8m ?_ | with_reducible refine Val.u32m ?_ | with_reducible refine Val.u64m ?_ | with_reducible refine Val.shr8 ?_ | with_reducible refine Val.shr16 (by decide) ?_ | with_reducible refine Val.shr24 (by decide) ?_ | with_reducible refine Val.raw ?_ | refine Branch.not ?_ | refine Branch.and ?_ | refine Branch.or ?_ | refine Branch.dt (by assumption) ?_ | refine Branch.df (by assumption) ?_ | refine Branch.dt rfl ?_ | refine Branch.dt (by omega) ?_ | refine Branch.df (by omega) ?_ | refine Branch.t rfl ?_ | refine Branch.f rfl ?_ | refine Branch.t (by assumption) ?_ | refine Branch.f (by assumption) ?_ | refine Branch.d (fun _ => ?_) (fun _ => ?_) | refine Branch.mk (fun _ => ?_) (fun _ => ?_) | refine Need.mk (by first | omega | decide | rfl) ?_ | refine Idx.nat (by omega) ?_ | refine Idx.auto (by first | omega | decide) (by first | omega | decide) ?_ | refine Cell.ro rfl ?_ | refine SDraw.all (by kernel_rfl) ?_ | refine Kept.k0 ?_ | refine Kept.k1 ?_ | refine Kept.k2 ?_ | refine Kept.k3 ?_ | refine Kept.k4 ?_))
        | true =>
          rw [hlt2] at hlts
          rw [show tlt (fld y) (fld m) = true from hlt2] at hf1
          have hq : ((wAdd w acc y : Nat) : Int) = (((fK L m (k + 1)).foldl (wAdd w) (wB L m) : Nat) : Int) := by
            rw [hf1, if_pos rfl, List.foldl_append, hacc]; rfl
          have hd : (w + y.j) / y.p ≤ 8589934591 := Nat.le_trans (Nat.div_le_self _ _) (by omega)
          have hv0 : IntKind.u64.wrap (((w : Int) + (y.j : Int)).tdiv (y.p : Int)) = (((w + y.j) / y.p : Nat) : Int) := by
            rw [show ((w : Int) + (y.j : Int)) = ((w + y.j : Nat) : Int) from rfl, Int.tdiv_eq_ediv_of_nonneg (by omega), ← Int.natCast_ediv]
            exact wrap_nat rfl (by show _ < 18446744073709551616; omega)
          have hv01 : IntKind.u64.wrap ((((w + y.j) / y.p : Nat) : Int) + 1) = (((w + y.j) / y.p + 1 : Nat) : Int) := by
            rw [show (((w + y.j) / y.p : Nat) : Int) + 1 = (((w + y.j) / y.p + 1 : Nat) : Int) from rfl]
            exact wrap_nat rfl (by show _ < 18446744073709551616; omega)
          have hv1 : IntKind.u64.wrap ((tm y : Int) * (((w + y.j) / y.p + 1 : Nat) : Int)) = ((tm y * ((w + y.j) / y.p + 1) : Nat) : Int) := by
            rw [← Int.natCast_mul]; exact wrap_nat rfl (by show _ < 18446744073709551616; omega)
          have hv2 : IntKind.u64.wrap ((acc : Int) + ((tm y * ((w + y.j) / y.p + 1) : Nat) : Int)) = ((wAdd w acc y : Nat) : Int) := by
            rw [← Int.natCast_add]; exact wrap_nat rfl (by show _ < 18446744073709551616; omega)
          repeat' ((conv => whnf); (first | refine Look.cell hfbk hck ?_ | refine Look.cell hfb hfi ?_ | refine Look.cell hM2 hd4 ?_ | refine Look.cell hM2 hd3 ?_ | refine Look.cells hM2 rfl hc2 ?_ | refine t12 hgy ?_ | refine Branch.t hlts ?_ | with_reducible refine Val.to _ hv0 ?_ | with_reducible refine Val.to _ hv01 ?_ | with_reducible refine Val.to _ hv1 ?_ | with_reducible refine Val.to _ hv2 ?_ | exact hnext _ _ .mk hq | refine New.mk (fun _ => ?_) | refine Look.at0 ?_ | refine Cell.row ?_ | refine Cell.buf ?_ | refine Cells.row rfl ?_ | refine Put.row rfl ?_ | refine Put.buf rfl ?_ | refine Look.at1 ?_ | refine Look.at2 ?_ | refine Look.at3 ?_ | refine Look.at4 ?_ | refine Look.at5 ?_ | refine Look.at6 ?_ | refine Look.at7 ?_ | refine Look.at8 ?_ | with_reducible refine Val.i64 (by omega) (by omega) ?_ | with_reducible refine Val.u8 (by omega) (by omega) ?_ | with_reducible refine Val.u32 (by omega) (by omega) ?_ | with_reducible refine Val.u64 (by omega) (by omega) ?_ | with_reducible refine Val.u8m ?_ | with_reducible refine Val.u32m ?_ | with_reducible refine Val.u64m ?_ | with_reducible refine Val.shr8 ?_ | with_reducible refine Val.shr16 (by decide) ?_ | with_reducible refine Val.shr24 (by decide) ?_ | with_reducible refine Val.raw ?_ | refine Branch.not ?_ | refine Branch.and ?_ | refine Branch.or ?_ | refine Branch.dt (by assumption) ?_ | refine Branch.df (by assumption) ?_ | refine Branch.dt rfl ?_ | refine Branch.dt (by omega) ?_ | refine Branch.df (by omega) ?_ | refine Branch.t rfl ?_ | refine Branch.f rfl ?_ | refine Branch.t (by assumption) ?_ | refine Branch.f (by assumption) ?_ | refine Branch.d (fun _ => ?_) (fun _ => ?_) | refine Branch.mk (fun _ => ?_) (fun _ => ?_) | refine Need.mk (by first | omega | decide | rfl) ?_ | refine Idx.nat (by omega) ?_ | refine Idx.auto (by first | omega | decide) (by first | omega | decide) ?_ | refine Cell.ro rfl ?_ | refine SDraw.all (by kernel_rfl) ?_ | refine Kept.k0 ?_ | refine Kept.k1 ?_ | refine Kept.k2 ?_ | refine Kept.k3 ?_ | refine Kept.k4 ?_))
      · have e : k = L.length := by omega
        subst e
        have es : (fK L m L.length).foldl (wAdd w) (wB L m) = wStep L m w := by unfold fK; rw [List.take_length]; rfl
        rw [es] at hsum
        rw [es]
        generalize hS' : wStep L m w = n at *
        have hmono : w ≤ n → n ≤ wStep L m n := fun hh => by
          have := wStep_mono L m hh
          rw [hS'] at this; exact this
        clear hR2 es
        by_cases he : n = w
        · subst he
          rw [if_pos rfl] at hgo
          subst hgo
          clear hR
          have hk' : Keep (M ++ H) fun H' => K (.tuple ⟨[.int .u64 ((m.j : Int) + (n : Int) + (tm m : Int)), .bool true]⟩) H' := h'
          repeat' ((conv => whnf); (first | refine Look.cell hM hc4 ?_ | refine Look.cell hM hc3 ?_ | refine Look.cells hM rfl hc ?_ | refine t12 hg ?_ | exact hk' | refine New.mk (fun _ => ?_) | refine Look.at0 ?_ | refine Cell.row ?_ | refine Cell.buf ?_ | refine Cells.row rfl ?_ | refine Put.row rfl ?_ | refine Put.buf rfl ?_ | refine Look.at1 ?_ | refine Look.at2 ?_ | refine Look.at3 ?_ | refine Look.at4 ?_ | refine Look.at5 ?_ | refine Look.at6 ?_ | refine Look.at7 ?_ | refine Look.at8 ?_ | with_reducible refine Val.i64 (by omega) (by omega) ?_ | with_reducible refine Val.u8 (by omega) (by omega) ?_ | with_reducible refine Val.u32 (by omega) (by omega) ?_ | with_reducible refine Val.u64 (by omega) (by omega) ?_ | with_reducible refine Val.u8m ?_ | with_reducible refine Val.u32m ?_ | with_reducible refine Val.u64m ?_ | with_reducible refine Val.shr8 ?_ | with_reducible refine Val.shr16 (by decide) ?_ | with_reducible refine Val.shr24 (by decide) ?_ | with_reducible refine Val.raw ?_ | refine Branch.not ?_ | refine Branch.and ?_ | refine Branch.or ?_ | refine Branch.dt (by assumption) ?_ | refine Branch.df (by assumption) ?_ | refine Branch.dt rfl ?_ | refine Branch.dt (by omega) ?_ | refine Branch.df (by omega) ?_ | refine Branch.t rfl ?_ | refine Branch.f rfl ?_ | refine Branch.t (by assumption) ?_ | refine Branch.f (by assumption) ?_ | refine Branch.d (fun _ => ?_) (fun _ => ?_) | refine Branch.mk (fun _ => ?_) (fun _ => ?_) | refine Need.mk (by first | omega | decide | rfl) ?_ | refine Idx.nat (by omega) ?_ | refine Idx.auto (by first | omega | decide) (by first | omega | decide) ?_ | refine Cell.ro rfl ?_ | refine SDraw.all (by kernel_rfl) ?_ | refine Kept.k0 ?_ | refine Kept.k1 ?_ | refine Kept.k2 ?_ | refine Kept.k3 ?_ | refine Kept.k4 ?_))
        · rw [if_neg he] at hgo
          have hnext := fun S (hS : S21b (.slice (some ⟨r, o, none⟩) L.length c) (.int .i64 (i : Int)) (.int .u64 (wB L m : Int)) (.slice (some ⟨fr, fo, none⟩) L.length fc) (.int .u64 (n : Int)) S) => hR n S (M ++ H) (by omega) (Keep.all ⟨by omega, hmono hw, by rw [← hgo]; exact wIter_fuel _ _ _ _ _ (by omega) (by omega) (hmono hw), hS, rfl⟩)
          clear hR
          repeat' ((conv => whnf); (first | refine Branch.df (by omega) ?_ | exact hnext _ .mk | refine New.mk (fun _ => ?_) | refine Look.at0 ?_ | refine Cell.row ?_ | refine Cell.buf ?_ | refine Cells.row rfl ?_ | refine Put.row rfl ?_ | refine Put.buf rfl ?_ | refine Look.at1 ?_ | refine Look.at2 ?_ | refine Look.at3 ?_ | refine Look.at4 ?_ | refine Look.at5 ?_ | refine Look.at6 ?_ | refine Look.at7 ?_ | refine Look.at8 ?_ | with_reducible refine Val.i64 (by omega) (by omega) ?_ | with_reducible refine Val.u8 (by omega) (by omega) ?_ | with_reducible refine Val.u32 (by omega) (by omega) ?_ | with_reducible refine Val.u64 (by omega) (by omega) ?_ | with_reducible refine Val.u8m ?_ | with_reducible refine Val.u32m ?_ | with_reducible refine Val.u64m ?_ | with_reducible refine Val.shr8 ?_ | with_reducible refine Val.shr16 (by decide) ?_ | with_reducible refine Val.shr24 (by decide) ?_ | with_reducible refine Val.raw ?_ | refine Branch.not ?_ | refine Branch.and ?_ | refine Branch.or ?_ | refine Branch.dt (by assumption) ?_ | refine Branch.df (by assumption) ?_ | refine Branch.dt rfl ?_ | refine Branch.dt (by omega) ?_ | refine Branch.df (by omega) ?_ | refine Branch.t rfl ?_ | refine Branch.f rfl ?_ | refine Branch.t (by assumption) ?_ | refine Branch.f (by assumption) ?_ | refine Branch.d (fun _ => ?_) (fun _ => ?_) | refine Branch.mk (fun _ => ?_) (fun _ => ?_) | refine Need.mk (by first | omega | decide | rfl) ?_ | refine Idx.nat (by omega) ?_ | refine Idx.auto (by first | omega | decide) (by first | omega | decide) ?_ | refine Cell.ro rfl ?_ | refine SDraw.all (by kernel_rfl) ?_ | refine Kept.k0 ?_ | refine Kept.k1 ?_ | refine Kept.k2 ?_ | refine Kept.k3 ?_ | refine Kept.k4 ?_))
end
end Go.Proofs.YtjleekdidedhaaaDoor

/- Layer 25: Check, Time, Worst, Fits, Busy: by walks. -/
set_option linter.unusedVariables false
set_option linter.unusedSimpArgs false
set_option maxRecDepth 100000
set_option maxHeartbeats 4000000
namespace Go.Proofs.YtjleekdidedhaaaDoor
open Sx
def fitsS (L : List Msg) : Bool := L.all fun m => (worstS L m).2
def bAdd (a : Nat) (y : Msg) : Nat := a + tm y * 1000 / y.p
def busyS (L : List Msg) : Nat := L.foldl bAdd 0
theorem bAdd_b : ∀ (F : List Msg) (a : Nat), (∀ y ∈ F, Good y) → F.foldl bAdd a ≤ a + F.length * 160000
  | [], a, _ => by simp
  | y :: F, a, h => by
    have h1 := bAdd_b F (bAdd a y) (fun z hz => h z (.tail _ hz))
    have h2 := (h y (.head _)).tm
    have h3 : tm y * 1000 / y.p ≤ 160000 := Nat.le_trans (Nat.div_le_self _ _) (by omega)
    rw [List.length_cons, Nat.succ_mul]
    show F.foldl bAdd (bAdd a y) ≤ _
    unfold bAdd at h1 ⊢
    omega
inductive S19 (A0 A13 A14 A15 : Value) : List Value → Prop
  | mk {r1 r2 r3 r4 r5 r6 r7 r8 r9 r10 r11 r12 r16 r17 r18 r19 r20 r21 r22 r23 r24 r25 r26 : Value} : S19 A0 A13 A14 A15 [A0, r1, r2, r3, r4, r5, r6, r7, r8, r9, r10, r11, r12, A13, A14, A15, r16, r17, r18, r19, r20, r21, r22, r23, r24, r25, r26]
inductive S20 (A5 A13 A14 A15 : Value) : List Value → Prop
  | mk {r0 r1 r2 r3 r4 r6 r7 r8 r9 r10 r11 r12 r16 r17 r18 r19 r20 r21 r22 r23 r24 r25 r26 r27 r28 : Value} : S20 A5 A13 A14 A15 [r0, r1, r2, r3, r4, A5, r6, r7, r8, r9, r10, r11, r12, A13, A14, A15, r16, r17, r18, r19, r20, r21, r22, r23, r24, r25, r26, r27, r28]
section
variable {K : Value → Heap → Prop} {H : Heap} {sv : Value} {L : List Msg} {m y : Msg}
theorem c9 (hin : InS mC 5 sv H L) (hb : L.length * 32 ≤ 140737488355328) (h : ∀ q c, L.length ≤ c → c ≤ maxLen → K (.slice (some ⟨q, 0, none⟩) L.length c) ((q, .buf 30 (L.flatMap mC) (c * 5)) :: H)) : SCalls Tryd.prog 9 [sv] H K := by
  obtain ⟨sa, sc, rfl, hml⟩ := hin.sv
  refine enter9 ?_
  have hcp : ∀ p (o : Oper) (xs xx : Operand) (K2 : Value → Heap → Prop), o.op = .call { callee := .builtin .append, args := #[xs, xx], argTypes := #[22, 22] } → (∀ q c, L.length ≤ c → c ≤ maxLen → K2 (.slice (some ⟨q, 0, none⟩) L.length c) ((q, .buf 30 (L.flatMap mC) (c * 5)) :: H)) → RawV Tryd.prog o [.slice (some ⟨p, 0, none⟩) 0 0, .slice sa L.length sc] ((p, .row 30 [] (0, 0)) :: H) K2 :=
    fun p o xs xx K2 ho hk => RawV.copyS hin ho (by kernel_rfl) (by decide) (fun _ => rfl) one5 hb hk
  repeat' ((conv => whnf); (first | refine hcp _ _ _ _ _ rfl (fun q c h1 h2 => ?_) | exact Keep.all (h _ _ h1 h2) | refine New.mk (fun _ => ?_) | refine Look.at0 ?_ | refine Cell.row ?_ | refine Cell.buf ?_ | refine Cells.row rfl ?_ | refine Put.row rfl ?_ | refine Put.buf rfl ?_ | refine Look.at1 ?_ | refine Look.at2 ?_ | refine Look.at3 ?_ | refine Look.at4 ?_ | refine Look.at5 ?_ | refine Look.at6 ?_ | refine Look.at7 ?_ | refine Look.at8 ?_ | with_reducible refine Val.i64 (by omega) (by omega) ?_ | with_reducible refine Val.u8 (by omega) (by omega) ?_ | with_reducible refine Val.u32 (by omega) (by omega) ?_ | with_reducible refine Val.u64 (by omega) (by omega) ?_ | with_reducible refine Val.u8m ?_ | with_reducible refine Val.u32m ?_ | with_reducible refine Val.u64m ?_ | with_reducible refine Val.shr8 ?_ | with_reducible refine Val.shr16 (by decide) ?_ | with_reducible refine Val.shr24 (by decide) ?_ | with_reducible refine Val.raw ?_ | refine Branch.not ?_ | refine Branch.and ?_ | refine Branch.or ?_ | refine Branch.dt (by assumption) ?_ | refine Branch.df (by assumption) ?_ | refine Branch.dt rfl ?_ | refine Branch.dt (by omega) ?_ | refine Branch.df (by omega) ?_ | refine Branch.t rfl ?_ | refine Branch.f rfl ?_ | refine Branch.t (by assumption) ?_ | refine Branch.f (by assumption) ?_ | refine Branch.d (fun _ => ?_) (fun _ => ?_) | refine Branch.mk (fun _ => ?_) (fun _ => ?_) | refine Need.mk (by first | omega | decide | rfl) ?_ | refine Idx.nat (by omega) ?_ | refine Idx.auto (by first | omega | decide) (by first | omega | decide) ?_ | refine Cell.ro rfl ?_ | refine SDraw.all (by kernel_rfl) ?_ | refine Kept.k0 ?_ | refine Kept.k1 ?_ | refine Kept.k2 ?_ | refine Kept.k3 ?_ | refine Kept.k4 ?_))
theorem c8 (hD : Db H) (hin : InS mC 5 sv H L) (hwf : ∀ m ∈ L, m.wf) (h : K (.int .i64 (chk L)) H) : SCalls Tryd.prog 8 [sv] H K := by
  obtain ⟨sa, sc, rfl, hml⟩ := hin.sv
  refine enter8 ?_
  repeat' ((conv => whnf); (first | refine c22 hD hin hwf ?_ | exact Keep.all h | refine New.mk (fun _ => ?_) | refine Look.at0 ?_ | refine Cell.row ?_ | refine Cell.buf ?_ | refine Cells.row rfl ?_ | refine Put.row rfl ?_ | refine Put.buf rfl ?_ | refine Look.at1 ?_ | refine Look.at2 ?_ | refine Look.at3 ?_ | refine Look.at4 ?_ | refine Look.at5 ?_ | refine Look.at6 ?_ | refine Look.at7 ?_ | refine Look.at8 ?_ | with_reducible refine Val.i64 (by omega) (by omega) ?_ | with_reducible refine Val.u8 (by omega) (by omega) ?_ | with_reducible refine Val.u32 (by omega) (by omega) ?_ | with_reducible refine Val.u64 (by omega) (by omega) ?_ | with_reducible refine Val.u8m ?_ | with_reducible refine Val.u32m ?_ | with_reducible refine Val.u64m ?_ | with_reducible refine Val.shr8 ?_ | with_reducible refine Val.shr16 (by decide) ?_ | with_reducible refine Val.shr24 (by decide) ?_ | with_reducible refine Val.raw ?_ | refine Branch.not ?_ | refine Branch.and ?_ | refine Branch.or ?_ | refine Branch.dt (by assumption) ?_ | refine Branch.df (by assumption) ?_ | refine Branch.dt rfl ?_ | refine Branch.dt (by omega) ?_ | refine Branch.df (by omega) ?_ | refine Branch.t rfl ?_ | refine Branch.f rfl ?_ | refine Branch.t (by assumption) ?_ | refine Branch.f (by assumption) ?_ | refine Branch.d (fun _ => ?_) (fun _ => ?_) | refine Branch.mk (fun _ => ?_) (fun _ => ?_) | refine Need.mk (by first | omega | decide | rfl) ?_ | refine Idx.nat (by omega) ?_ | refine Idx.auto (by first | omega | decide) (by first | omega | decide) ?_ | refine Cell.ro rfl ?_ | refine SDraw.all (by kernel_rfl) ?_ | refine Kept.k0 ?_ | refine Kept.k1 ?_ | refine Kept.k2 ?_ | refine Kept.k3 ?_ | refine Kept.k4 ?_))
theorem Good.wf (h : Good m) : m.wf := by
  have := h.id; have := h.n0; have := h.n8; have := h.p2; have := h.j
  exact ⟨by omega, by omega, by omega, by omega, by omega⟩
theorem Good.chk1 (h : Good m) : chk [m] = 0 := by
  have hb : badN m.n m.p m.j = false := by
    have := h.n0; have := h.n8; have := h.p1; have := h.p2; have := h.j
    unfold badN
    simp only [Bool.or_eq_false_iff, decide_eq_false_iff_not]
    omega
  unfold chk chkGo
  rw [hb, h.ok]
  simp [chkGo]
theorem c14 (hD : Db H) (hg : Good m) (h : K (.tuple ⟨[.int .u64 (tm m : Int), .int .i64 0]⟩) H) : SCalls Tryd.prog 14 [.agg ⟨mC m⟩] H K := by
  refine enter14 ?_
  have h22 : ∀ q p (K2 : Value → Heap → Prop), K2 (.int .i64 0) ((q, .row 30 (mC m) (0, 0)) :: p :: H) → SCalls Tryd.prog 22 [.slice (some ⟨q, 0, none⟩) 1 1] ((q, .row 30 (mC m) (0, 0)) :: p :: H) K2 := fun q p K2 hk =>
    c22 (L := [m]) (hD.mono fun p hp => .tail _ (.tail _ hp)) (InS.row (L := [m]) (.head _) (by simp) (fun _ => rfl) (by show 1 ≤ maxLen; decide)) (fun y hy => by obtain rfl := List.mem_singleton.1 hy; exact hg.wf) (by rw [hg.chk1]; exact hk)
  repeat' ((conv => whnf); (first | refine h22 _ _ _ ?_ | refine t27 hg ?_ | exact Keep.d2 h | refine New.mk (fun _ => ?_) | refine Look.at0 ?_ | refine Cell.row ?_ | refine Cell.buf ?_ | refine Cells.row rfl ?_ | refine Put.row rfl ?_ | refine Put.buf rfl ?_ | refine Look.at1 ?_ | refine Look.at2 ?_ | refine Look.at3 ?_ | refine Look.at4 ?_ | refine Look.at5 ?_ | refine Look.at6 ?_ | refine Look.at7 ?_ | refine Look.at8 ?_ | with_reducible refine Val.i64 (by omega) (by omega) ?_ | with_reducible refine Val.u8 (by omega) (by omega) ?_ | with_reducible refine Val.u32 (by omega) (by omega) ?_ | with_reducible refine Val.u64 (by omega) (by omega) ?_ | with_reducible refine Val.u8m ?_ | with_reducible refine Val.u32m ?_ | with_reducible refine Val.u64m ?_ | with_reducible refine Val.shr8 ?_ | with_reducible refine Val.shr16 (by decide) ?_ | with_reducible refine Val.shr24 (by decide) ?_ | with_reducible refine Val.raw ?_ | refine Branch.not ?_ | refine Branch.and ?_ | refine Branch.or ?_ | refine Branch.dt (by assumption) ?_ | refine Branch.df (by assumption) ?_ | refine Branch.dt rfl ?_ | refine Branch.dt (by omega) ?_ | refine Branch.df (by omega) ?_ | refine Branch.t rfl ?_ | refine Branch.f rfl ?_ | refine Branch.t (by assumption) ?_ | refine Branch.f (by assumption) ?_ | refine Branch.d (fun _ => ?_) (fun _ => ?_) | refine Branch.mk (fun _ => ?_) (fun _ => ?_) | refine Need.mk (by first | omega | decide | rfl) ?_ | refine Idx.nat (by omega) ?_ | refine Idx.auto (by first | omega | decide) (by first | omega | decide) ?_ | refine Cell.ro rfl ?_ | refine SDraw.all (by kernel_rfl) ?_ | refine Kept.k0 ?_ | refine Kept.k1 ?_ | refine Kept.k2 ?_ | refine Kept.k3 ?_ | refine Kept.k4 ?_))
theorem c11e {i : Int} (hD : Db H) (hin : InS mC 5 sv H L) (hwf : ∀ m ∈ L, m.wf) (hc : chk L ≠ 0) (h : K (.tuple ⟨[.int .u64 0, .bool false, .int .i64 (chk L)]⟩) H) : SCalls Tryd.prog 11 [sv, .int .i64 i] H K := by
  obtain ⟨sa, sc, rfl, hml⟩ := hin.sv
  refine enter11 ?_
  repeat' ((conv => whnf); (first | refine c22 hD hin hwf ?_ | refine Branch.t (by first | (simp [hc]; done) | omega) ?_ | exact Keep.all h | refine New.mk (fun _ => ?_) | refine Look.at0 ?_ | refine Cell.row ?_ | refine Cell.buf ?_ | refine Cells.row rfl ?_ | refine Put.row rfl ?_ | refine Put.buf rfl ?_ | refine Look.at1 ?_ | refine Look.at2 ?_ | refine Look.at3 ?_ | refine Look.at4 ?_ | refine Look.at5 ?_ | refine Look.at6 ?_ | refine Look.at7 ?_ | refine Look.at8 ?_ | with_reducible refine Val.i64 (by omega) (by omega) ?_ | with_reducible refine Val.u8 (by omega) (by omega) ?_ | with_reducible refine Val.u32 (by omega) (by omega) ?_ | with_reducible refine Val.u64 (by omega) (by omega) ?_ | with_reducible refine Val.u8m ?_ | with_reducible refine Val.u32m ?_ | with_reducible refine Val.u64m ?_ | with_reducible refine Val.shr8 ?_ | with_reducible refine Val.shr16 (by decide) ?_ | with_reducible refine Val.shr24 (by decide) ?_ | with_reducible refine Val.raw ?_ | refine Branch.not ?_ | refine Branch.and ?_ | refine Branch.or ?_ | refine Branch.dt (by assumption) ?_ | refine Branch.df (by assumption) ?_ | refine Branch.dt rfl ?_ | refine Branch.dt (by omega) ?_ | refine Branch.df (by omega) ?_ | refine Branch.t rfl ?_ | refine Branch.f rfl ?_ | refine Branch.t (by assumption) ?_ | refine Branch.f (by assumption) ?_ | refine Branch.d (fun _ => ?_) (fun _ => ?_) | refine Branch.mk (fun _ => ?_) (fun _ => ?_) | refine Need.mk (by first | omega | decide | rfl) ?_ | refine Idx.nat (by omega) ?_ | refine Idx.auto (by first | omega | decide) (by first | omega | decide) ?_ | refine Cell.ro rfl ?_ | refine SDraw.all (by kernel_rfl) ?_ | refine Kept.k0 ?_ | refine Kept.k1 ?_ | refine Kept.k2 ?_ | refine Kept.k3 ?_ | refine Kept.k4 ?_))
theorem c11r {i : Int} (hD : Db H) (hin : InS mC 5 sv H L) (hwf : ∀ m ∈ L, m.wf) (hc : chk L = 0) (hi : i < 0 ∨ (L.length : Int) ≤ i) (h : K (.tuple ⟨[.int .u64 0, .bool false, .int .i64 1]⟩) H) : SCalls Tryd.prog 11 [sv, .int .i64 i] H K := by
  obtain ⟨sa, sc, rfl, hml⟩ := hin.sv
  have h22 := fun (K : Value → Heap → Prop) hk => c22 (K := K) hD hin hwf hk
  rw [hc] at h22
  refine enter11 ?_
  repeat' ((conv => whnf); (first | refine h22 _ ?_ | refine Branch.f rfl ?_ | exact Keep.all h | refine New.mk (fun _ => ?_) | refine Look.at0 ?_ | refine Cell.row ?_ | refine Cell.buf ?_ | refine Cells.row rfl ?_ | refine Put.row rfl ?_ | refine Put.buf rfl ?_ | refine Look.at1 ?_ | refine Look.at2 ?_ | refine Look.at3 ?_ | refine Look.at4 ?_ | refine Look.at5 ?_ | refine Look.at6 ?_ | refine Look.at7 ?_ | refine Look.at8 ?_ | with_reducible refine Val.i64 (by omega) (by omega) ?_ | with_reducible refine Val.u8 (by omega) (by omega) ?_ | with_reducible refine Val.u32 (by omega) (by omega) ?_ | with_reducible refine Val.u64 (by omega) (by omega) ?_ | with_reducible refine Val.u8m ?_ | with_reducible refine Val.u32m ?_ | with_reducible refine Val.u64m ?_ | with_reducible refine Val.shr8 ?_ | with_reducible refine Val.shr16 (by decide) ?_ | with_reducible refine Val.shr24 (by decide) ?_ | with_reducible refine Val.raw ?_ | refine Branch.not ?_ | refine Branch.and ?_ | refine Branch.or ?_ | refine Branch.dt (by assumption) ?_ | refine Branch.df (by assumption) ?_ | refine Branch.dt rfl ?_ | refine Branch.dt (by omega) ?_ | refine Branch.df (by omega) ?_ | refine Branch.t rfl ?_ | refine Branch.f rfl ?_ | refine Branch.t (by assumption) ?_ | refine Branch.f (by assumption) ?_ | refine Branch.d (fun _ => ?_) (fun _ => ?_) | refine Branch.mk (fun _ => ?_) (fun _ => ?_) | refine Need.mk (by first | omega | decide | rfl) ?_ | refine Idx.nat (by omega) ?_ | refine Idx.auto (by first | omega | decide) (by first | omega | decide) ?_ | refine Cell.ro rfl ?_ | refine SDraw.all (by kernel_rfl) ?_ | refine Kept.k0 ?_ | refine Kept.k1 ?_ | refine Kept.k2 ?_ | refine Kept.k3 ?_ | refine Kept.k4 ?_))
  all_goals (exfalso; omega)
theorem c11 {i : Nat} (hD : Db H) (hin : InS mC 5 sv H L) (hG : Goods L) (hwf : ∀ m ∈ L, m.wf) (hc : chk L = 0) (hi : L[i]? = some m) (h : K (.tuple ⟨[.int .u64 ((worstS L m).1 : Int), .bool (worstS L m).2, .int .i64 0]⟩) H) : SCalls Tryd.prog 11 [sv, .int .i64 (i : Int)] H K := by
  obtain ⟨sa, sc, rfl, hml⟩ := hin.sv
  have hil : i < L.length := (List.getElem?_eq_some_iff.1 hi).1
  have h22 := fun (K : Value → Heap → Prop) hk => c22 (K := K) hD hin hwf hk
  rw [hc] at h22
  refine enter11 ?_
  repeat' ((conv => whnf); (first | refine h22 _ ?_ | refine Branch.f rfl ?_ | refine c23 hD hin hG hi ?_ | exact Keep.all h | refine New.mk (fun _ => ?_) | refine Look.at0 ?_ | refine Cell.row ?_ | refine Cell.buf ?_ | refine Cells.row rfl ?_ | refine Put.row rfl ?_ | refine Put.buf rfl ?_ | refine Look.at1 ?_ | refine Look.at2 ?_ | refine Look.at3 ?_ | refine Look.at4 ?_ | refine Look.at5 ?_ | refine Look.at6 ?_ | refine Look.at7 ?_ | refine Look.at8 ?_ | with_reducible refine Val.i64 (by omega) (by omega) ?_ | with_reducible refine Val.u8 (by omega) (by omega) ?_ | with_reducible refine Val.u32 (by omega) (by omega) ?_ | with_reducible refine Val.u64 (by omega) (by omega) ?_ | with_reducible refine Val.u8m ?_ | with_reducible refine Val.u32m ?_ | with_reducible refine Val.u64m ?_ | with_reducible refine Val.shr8 ?_ | with_reducible refine Val.shr16 (by decide) ?_ | with_reducible refine Val.shr24 (by decide) ?_ | with_reducible refine Val.raw ?_ | refine Branch.not ?_ | refine Branch.and ?_ | refine Branch.or ?_ | refine Branch.dt (by assumption) ?_ | refine Branch.df (by assumption) ?_ | refine Branch.dt rfl ?_ | refine Branch.dt (by omega) ?_ | refine Branch.df (by omega) ?_ | refine Branch.t rfl ?_ | refine Branch.f rfl ?_ | refine Branch.t (by assumption) ?_ | refine Branch.f (by assumption) ?_ | refine Branch.d (fun _ => ?_) (fun _ => ?_) | refine Branch.mk (fun _ => ?_) (fun _ => ?_) | refine Need.mk (by first | omega | decide | rfl) ?_ | refine Idx.nat (by omega) ?_ | refine Idx.auto (by first | omega | decide) (by first | omega | decide) ?_ | refine Cell.ro rfl ?_ | refine SDraw.all (by kernel_rfl) ?_ | refine Kept.k0 ?_ | refine Kept.k1 ?_ | refine Kept.k2 ?_ | refine Kept.k3 ?_ | refine Kept.k4 ?_))
theorem c19e (hD : Db H) (hin : InS mC 5 sv H L) (hwf : ∀ m ∈ L, m.wf) (hc : chk L ≠ 0) (h : K (.tuple ⟨[.bool false, .int .i64 (chk L)]⟩) H) : SCalls Tryd.prog 19 [sv] H K := by
  obtain ⟨sa, sc, rfl, hml⟩ := hin.sv
  refine enter19 ?_
  repeat' ((conv => whnf); (first | refine c22 hD hin hwf ?_ | refine Branch.t (by first | (simp [hc]; done) | omega) ?_ | exact Keep.all h | refine New.mk (fun _ => ?_) | refine Look.at0 ?_ | refine Cell.row ?_ | refine Cell.buf ?_ | refine Cells.row rfl ?_ | refine Put.row rfl ?_ | refine Put.buf rfl ?_ | refine Look.at1 ?_ | refine Look.at2 ?_ | refine Look.at3 ?_ | refine Look.at4 ?_ | refine Look.at5 ?_ | refine Look.at6 ?_ | refine Look.at7 ?_ | refine Look.at8 ?_ | with_reducible refine Val.i64 (by omega) (by omega) ?_ | with_reducible refine Val.u8 (by omega) (by omega) ?_ | with_reducible refine Val.u32 (by omega) (by omega) ?_ | with_reducible refine Val.u64 (by omega) (by omega) ?_ | with_reducible refine Val.u8m ?_ | with_reducible refine Val.u32m ?_ | with_reducible refine Val.u64m ?_ | with_reducible refine Val.shr8 ?_ | with_reducible refine Val.shr16 (by decide) ?_ | with_reducible refine Val.shr24 (by decide) ?_ | with_reducible refine Val.raw ?_ | refine Branch.not ?_ | refine Branch.and ?_ | refine Branch.or ?_ | refine Branch.dt (by assumption) ?_ | refine Branch.df (by assumption) ?_ | refine Branch.dt rfl ?_ | refine Branch.dt (by omega) ?_ | refine Branch.df (by omega) ?_ | refine Branch.t rfl ?_ | refine Branch.f rfl ?_ | refine Branch.t (by assumption) ?_ | refine Branch.f (by assumption) ?_ | refine Branch.d (fun _ => ?_) (fun _ => ?_) | refine Branch.mk (fun _ => ?_) (fun _ => ?_) | refine Need.mk (by first | omega | decide | rfl) ?_ | refine Idx.nat (by omega) ?_ | refine Idx.auto (by first | omega | decide) (by first | omega | decide) ?_ | refine Cell.ro rfl ?_ | refine SDraw.all (by kernel_rfl) ?_ | refine Kept.k0 ?_ | refine Kept.k1 ?_ | refine Kept.k2 ?_ | refine Kept.k3 ?_ | refine Kept.k4 ?_))
theorem c20e (hD : Db H) (hin : InS mC 5 sv H L) (hwf : ∀ m ∈ L, m.wf) (hc : chk L ≠ 0) (h : K (.tuple ⟨[.int .u64 0, .int .i64 (chk L)]⟩) H) : SCalls Tryd.prog 20 [sv] H K := by
  obtain ⟨sa, sc, rfl, hml⟩ := hin.sv
  refine enter20 ?_
  repeat' ((conv => whnf); (first | refine c22 hD hin hwf ?_ | refine Branch.t (by first | (simp [hc]; done) | omega) ?_ | exact Keep.all h | refine New.mk (fun _ => ?_) | refine Look.at0 ?_ | refine Cell.row ?_ | refine Cell.buf ?_ | refine Cells.row rfl ?_ | refine Put.row rfl ?_ | refine Put.buf rfl ?_ | refine Look.at1 ?_ | refine Look.at2 ?_ | refine Look.at3 ?_ | refine Look.at4 ?_ | refine Look.at5 ?_ | refine Look.at6 ?_ | refine Look.at7 ?_ | refine Look.at8 ?_ | with_reducible refine Val.i64 (by omega) (by omega) ?_ | with_reducible refine Val.u8 (by omega) (by omega) ?_ | with_reducible refine Val.u32 (by omega) (by omega) ?_ | with_reducible refine Val.u64 (by omega) (by omega) ?_ | with_reducible refine Val.u8m ?_ | with_reducible refine Val.u32m ?_ | with_reducible refine Val.u64m ?_ | with_reducible refine Val.shr8 ?_ | with_reducible refine Val.shr16 (by decide) ?_ | with_reducible refine Val.shr24 (by decide) ?_ | with_reducible refine Val.raw ?_ | refine Branch.not ?_ | refine Branch.and ?_ | refine Branch.or ?_ | refine Branch.dt (by assumption) ?_ | refine Branch.df (by assumption) ?_ | refine Branch.dt rfl ?_ | refine Branch.dt (by omega) ?_ | refine Branch.df (by omega) ?_ | refine Branch.t rfl ?_ | refine Branch.f rfl ?_ | refine Branch.t (by assumption) ?_ | refine Branch.f (by assumption) ?_ | refine Branch.d (fun _ => ?_) (fun _ => ?_) | refine Branch.mk (fun _ => ?_) (fun _ => ?_) | refine Need.mk (by first | omega | decide | rfl) ?_ | refine Idx.nat (by omega) ?_ | refine Idx.auto (by first | omega | decide) (by first | omega | decide) ?_ | refine Cell.ro rfl ?_ | refine SDraw.all (by kernel_rfl) ?_ | refine Kept.k0 ?_ | refine Kept.k1 ?_ | refine Kept.k2 ?_ | refine Kept.k3 ?_ | refine Kept.k4 ?_))
def I19 (sv : Value) (L : List Msg) (H : Heap) (k : Nat) (S : List Value) (H' : Heap) : Prop :=
  k ≤ L.length ∧ (L.take k).all (fun m => (worstS L m).2) = true ∧ S19 sv sv (.int .i64 (L.length : Int)) (.int .i64 (k : Int)) S ∧ H' = H
theorem c19 (hD : Db H) (hin : InS mC 5 sv H L) (hG : Goods L) (hwf : ∀ m ∈ L, m.wf) (hc : chk L = 0) (h : K (.tuple ⟨[.bool (fitsS L), .int .i64 0]⟩) H) : SCalls Tryd.prog 19 [sv] H K := by
  obtain ⟨sa, sc, rfl, hml⟩ := hin.sv
  have hlen := hG.len
  have h22 := fun (K : Value → Heap → Prop) hk => c22 (K := K) hD hin hwf hk
  rw [hc] at h22
  refine enter19 ?_
  repeat' ((conv => whnf); (first | refine h22 _ ?_ | refine Branch.f rfl ?_ | refine New.mk (fun _ => ?_) | refine Look.at0 ?_ | refine Cell.row ?_ | refine Cell.buf ?_ | refine Cells.row rfl ?_ | refine Put.row rfl ?_ | refine Put.buf rfl ?_ | refine Look.at1 ?_ | refine Look.at2 ?_ | refine Look.at3 ?_ | refine Look.at4 ?_ | refine Look.at5 ?_ | refine Look.at6 ?_ | refine Look.at7 ?_ | refine Look.at8 ?_ | with_reducible refine Val.i64 (by omega) (by omega) ?_ | with_reducible refine Val.u8 (by omega) (by omega) ?_ | with_reducible refine Val.u32 (by omega) (by omega) ?_ | with_reducible refine Val.u64 (by omega) (by omega) ?_ | with_reducible refine Val.u8m ?_ | with_reducible refine Val.u32m ?_ | with_reducible refine Val.u64m ?_ | with_reducible refine Val.shr8 ?_ | with_reducible refine Val.shr16 (by decide) ?_ | with_reducible refine Val.shr24 (by decide) ?_ | with_reducible refine Val.raw ?_ | refine Branch.not ?_ | refine Branch.and ?_ | refine Branch.or ?_ | refine Branch.dt (by assumption) ?_ | refine Branch.df (by assumption) ?_ | refine Branch.dt rfl ?_ | refine Branch.dt (by omega) ?_ | refine Branch.df (by omega) ?_ | refine Branch.t rfl ?_ | refine Branch.f rfl ?_ | refine Branch.t (by assumption) ?_ | refine Branch.f (by assumption) ?_ | refine Branch.d (fun _ => ?_) (fun _ => ?_) | refine Branch.mk (fun _ => ?_) (fun _ => ?_) | refine Need.mk (by first | omega | decide | rfl) ?_ | refine Idx.nat (by omega) ?_ | refine Idx.auto (by first | omega | decide) (by first | omega | decide) ?_ | refine Cell.ro rfl ?_ | refine SDraw.all (by kernel_rfl) ?_ | refine Kept.k0 ?_ | refine Kept.k1 ?_ | refine Kept.k2 ?_ | refine Kept.k3 ?_ | refine Kept.k4 ?_))
  refine SLoop.invA (I19 (.slice sa L.length sc) L H) (fun k => L.length - k) 0 (Keep.all ⟨Nat.zero_le _, by simp, .mk, rfl⟩) ?_
  rintro k S H' ⟨hk, ha, hS, rfl⟩ R hR
  cases hS
  by_cases hlt : k < L.length
  · obtain ⟨y, hx, hdrop, htake⟩ := list_at hlt
    have h23 := fun (K : Value → Heap → Prop) hk => c23 (K := K) hD hin hG hx hk
    have hnext := fun S (hb : (worstS L y).2 = true) (hS : S19 (.slice sa L.length sc) (.slice sa L.length sc) (.int .i64 (L.length : Int)) (.int .i64 ((k + 1 : Nat) : Int)) S) => hR (k + 1) S H' (by omega) (Keep.all ⟨by omega, by rw [htake, List.all_append, ha]; simpa using hb, hS, rfl⟩)
    have hno : (worstS L y).2 = false → fitsS L = false := fun hb => by
      unfold fitsS
      rw [List.all_eq_false]
      exact ⟨y, List.mem_of_getElem? hx, by rw [hb]; decide⟩
    clear hR
    cases hb : (worstS L y).2 with
    | true =>
      rw [hb] at h23
      repeat' ((conv => whnf); (first | refine h23 _ ?_ | exact hnext _ hb .mk | refine New.mk (fun _ => ?_) | refine Look.at0 ?_ | refine Cell.row ?_ | refine Cell.buf ?_ | refine Cells.row rfl ?_ | refine Put.row rfl ?_ | refine Put.buf rfl ?_ | refine Look.at1 ?_ | refine Look.at2 ?_ | refine Look.at3 ?_ | refine Look.at4 ?_ | refine Look.at5 ?_ | refine Look.at6 ?_ | refine Look.at7 ?_ | refine Look.at8 ?_ | with_reducible refine Val.i64 (by omega) (by omega) ?_ | with_reducible refine Val.u8 (by omega) (by omega) ?_ | with_reducible refine Val.u32 (by omega) (by omega) ?_ | with_reducible refine Val.u64 (by omega) (by omega) ?_ | with_reducible refine Val.u8m ?_ | with_reducible refine Val.u32m ?_ | with_reducible refine Val.u64m ?_ | with_reducible refine Val.shr8 ?_ | with_reducible refine Val.shr16 (by decide) ?_ | with_reducible refine Val.shr24 (by decide) ?_ | with_reducible refine Val.raw ?_ | refine Branch.not ?_ | refine Branch.and ?_ | refine Branch.or ?_ | refine Branch.dt (by assumption) ?_ | refine Branch.df (by assumption) ?_ | refine Branch.dt rfl ?_ | refine Branch.dt (by omega) ?_ | refine Branch.df (by omega) ?_ | refine Branch.t rfl ?_ | refine Branch.f rfl ?_ | refine Branch.t (by assumption) ?_ | refine Branch.f (by assumption) ?_ | refine Branch.d (fun _ => ?_) (fun _ => ?_) | refine Branch.mk (fun _ => ?_) (fun _ => ?_) | refine Need.mk (by first | omega | decide | rfl) ?_ | refine Idx.nat (by omega) ?_ | refine Idx.auto (by first | omega | decide) (by first | omega | decide) ?_ | refine Cell.ro rfl ?_ | refine SDraw.all (by kernel_rfl) ?_ | refine Kept.k0 ?_ | refine Kept.k1 ?_ | refine Kept.k2 ?_ | refine Kept.k3 ?_ | refine Kept.k4 ?_))
    | false =>
      rw [hb] at h23
      rw [hno hb] at h
      repeat' ((conv => whnf); (first | refine h23 _ ?_ | exact Keep.all h | refine New.mk (fun _ => ?_) | refine Look.at0 ?_ | refine Cell.row ?_ | refine Cell.buf ?_ | refine Cells.row rfl ?_ | refine Put.row rfl ?_ | refine Put.buf rfl ?_ | refine Look.at1 ?_ | refine Look.at2 ?_ | refine Look.at3 ?_ | refine Look.at4 ?_ | refine Look.at5 ?_ | refine Look.at6 ?_ | refine Look.at7 ?_ | refine Look.at8 ?_ | with_reducible refine Val.i64 (by omega) (by omega) ?_ | with_reducible refine Val.u8 (by omega) (by omega) ?_ | with_reducible refine Val.u32 (by omega) (by omega) ?_ | with_reducible refine Val.u64 (by omega) (by omega) ?_ | with_reducible refine Val.u8m ?_ | with_reducible refine Val.u32m ?_ | with_reducible refine Val.u64m ?_ | with_reducible refine Val.shr8 ?_ | with_reducible refine Val.shr16 (by decide) ?_ | with_reducible refine Val.shr24 (by decide) ?_ | with_reducible refine Val.raw ?_ | refine Branch.not ?_ | refine Branch.and ?_ | refine Branch.or ?_ | refine Branch.dt (by assumption) ?_ | refine Branch.df (by assumption) ?_ | refine Branch.dt rfl ?_ | refine Branch.dt (by omega) ?_ | refine Branch.df (by omega) ?_ | refine Branch.t rfl ?_ | refine Branch.f rfl ?_ | refine Branch.t (by assumption) ?_ | refine Branch.f (by assumption) ?_ | refine Branch.d (fun _ => ?_) (fun _ => ?_) | refine Branch.mk (fun _ => ?_) (fun _ => ?_) | refine Need.mk (by first | omega | decide | rfl) ?_ | refine Idx.nat (by omega) ?_ | refine Idx.auto (by first | omega | decide) (by first | omega | decide) ?_ | refine Cell.ro rfl ?_ | refine SDraw.all (by kernel_rfl) ?_ | refine Kept.k0 ?_ | refine Kept.k1 ?_ | refine Kept.k2 ?_ | refine Kept.k3 ?_ | refine Kept.k4 ?_))
  · obtain rfl : k = L.length := by omega
    rw [List.take_length] at ha
    rw [show fitsS L = true from ha] at h
    clear hR
    repeat' ((conv => whnf); (first | exact Keep.all h | refine New.mk (fun _ => ?_) | refine Look.at0 ?_ | refine Cell.row ?_ | refine Cell.buf ?_ | refine Cells.row rfl ?_ | refine Put.row rfl ?_ | refine Put.buf rfl ?_ | refine Look.at1 ?_ | refine Look.at2 ?_ | refine Look.at3 ?_ | refine Look.at4 ?_ | refine Look.at5 ?_ | refine Look.at6 ?_ | refine Look.at7 ?_ | refine Look.at8 ?_ | with_reducible refine Val.i64 (by omega) (by omega) ?_ | with_reducible refine Val.u8 (by omega) (by omega) ?_ | with_reducible refine Val.u32 (by omega) (by omega) ?_ | with_reducible refine Val.u64 (by omega) (by omega) ?_ | with_reducible refine Val.u8m ?_ | with_reducible refine Val.u32m ?_ | with_reducible refine Val.u64m ?_ | with_reducible refine Val.shr8 ?_ | with_reducible refine Val.shr16 (by decide) ?_ | with_reducible refine Val.shr24 (by decide) ?_ | with_reducible refine Val.raw ?_ | refine Branch.not ?_ | refine Branch.and ?_ | refine Branch.or ?_ | refine Branch.dt (by assumption) ?_ | refine Branch.df (by assumption) ?_ | refine Branch.dt rfl ?_ | refine Branch.dt (by omega) ?_ | refine Branch.df (by omega) ?_ | refine Branch.t rfl ?_ | refine Branch.f rfl ?_ | refine Branch.t (by assumption) ?_ | refine Branch.f (by assumption) ?_ | refine Branch.d (fun _ => ?_) (fun _ => ?_) | refine Branch.mk (fun _ => ?_) (fun _ => ?_) | refine Need.mk (by first | omega | decide | rfl) ?_ | refine Idx.nat (by omega) ?_ | refine Idx.auto (by first | omega | decide) (by first | omega | decide) ?_ | refine Cell.ro rfl ?_ | refine SDraw.all (by kernel_rfl) ?_ | refine Kept.k0 ?_ | refine Kept.k1 ?_ | refine Kept.k2 ?_ | refine Kept.k3 ?_ | refine Kept.k4 ?_))
def I20 (sv : Value) (L : List Msg) (H : Heap) (k : Nat) (S : List Value) (H' : Heap) : Prop :=
  k ≤ L.length ∧ S20 (.int .u64 (((L.take k).foldl bAdd 0 : Nat) : Int)) sv (.int .i64 (L.length : Int)) (.int .i64 (k : Int)) S ∧ H' = H
theorem c20 (hD : Db H) (hin : InS mC 5 sv H L) (hG : Goods L) (hwf : ∀ m ∈ L, m.wf) (hc : chk L = 0) (h : K (.tuple ⟨[.int .u64 (busyS L : Int), .int .i64 0]⟩) H) : SCalls Tryd.prog 20 [sv] H K := by
  obtain ⟨sa, sc, rfl, hml⟩ := hin.sv
  have hlen := hG.len
  have h22 := fun (K : Value → Heap → Prop) hk => c22 (K := K) hD hin hwf hk
  rw [hc] at h22
  refine enter20 ?_
  repeat' ((conv => whnf); (first | refine h22 _ ?_ | refine Branch.f rfl ?_ | refine New.mk (fun _ => ?_) | refine Look.at0 ?_ | refine Cell.row ?_ | refine Cell.buf ?_ | refine Cells.row rfl ?_ | refine Put.row rfl ?_ | refine Put.buf rfl ?_ | refine Look.at1 ?_ | refine Look.at2 ?_ | refine Look.at3 ?_ | refine Look.at4 ?_ | refine Look.at5 ?_ | refine Look.at6 ?_ | refine Look.at7 ?_ | refine Look.at8 ?_ | with_reducible refine Val.i64 (by omega) (by omega) ?_ | with_reducible refine Val.u8 (by omega) (by omega) ?_ | with_reducible refine Val.u32 (by omega) (by omega) ?_ | with_reducible refine Val.u64 (by omega) (by omega) ?_ | with_reducible refine Val.u8m ?_ | with_reducible refine Val.u32m ?_ | with_reducible refine Val.u64m ?_ | with_reducible refine Val.shr8 ?_ | with_reducible refine Val.shr16 (by decide) ?_ | with_reducible refine Val.shr24 (by decide) ?_ | with_reducible refine Val.raw ?_ | refine Branch.not ?_ | refine Branch.and ?_ | refine Branch.or ?_ | refine Branch.dt (by assumption) ?_ | refine Branch.df (by assumption) ?_ | refine Branch.dt rfl ?_ | refine Branch.dt (by omega) ?_ | refine Branch.df (by omega) ?_ | refine Branch.t rfl ?_ | refine Branch.f rfl ?_ | refine Branch.t (by assumption) ?_ | refine Branch.f (by assumption) ?_ | refine Branch.d (fun _ => ?_) (fun _ => ?_) | refine Branch.mk (fun _ => ?_) (fun _ => ?_) | refine Need.mk (by first | omega | decide | rfl) ?_ | refine Idx.nat (by omega) ?_ | refine Idx.auto (by first | omega | decide) (by first | omega | decide) ?_ | refine Cell.ro rfl ?_ | refine SDraw.all (by kernel_rfl) ?_ | refine Kept.k0 ?_ | refine Kept.k1 ?_ | refine Kept.k2 ?_ | refine Kept.k3 ?_ | refine Kept.k4 ?_))
  refine SLoop.invA (I20 (.slice sa L.length sc) L H) (fun k => L.length - k) 0 (Keep.all ⟨Nat.zero_le _, .mk, rfl⟩) ?_
  rintro k S H' ⟨hk, hS, rfl⟩ R hR
  cases hS
  by_cases hlt : k < L.length
  · obtain ⟨y, hx, hdrop, htake⟩ := list_at hlt
    obtain ⟨r2, o2, c2, b2, e1, hrb2, hc2⟩ := inS_at hin (fun _ => rfl) hx
    injection e1 with e1 _ e3
    subst e1
    have hgy := hG.good y (List.mem_of_getElem? hx)
    have hyt := hgy.tm
    have hyp := hgy.p1
    have hsum := bAdd_b (L.take k) 0 (fun z hz => hG.good z (List.mem_of_mem_take hz))
    have hlk : (L.take k).length ≤ 64 := Nat.le_trans (List.length_take_le _ _) (by omega)
    have hnext := fun S (q : Nat × Blk) (hS : S20 (.int .u64 ((bAdd ((L.take k).foldl bAdd 0) y : Nat) : Int)) (.slice (some ⟨r2, o2, none⟩) L.length sc) (.int .i64 (L.length : Int)) (.int .i64 ((k + 1 : Nat) : Int)) S) => hR (k + 1) S (q :: H') (by omega) (Keep.d1 ⟨by omega, by rw [htake, List.foldl_append]; exact hS, rfl⟩)
    clear hR
    generalize (L.take k).foldl bAdd 0 = acc at *
    have hd : tm y * 1000 / y.p ≤ 160000 := Nat.le_trans (Nat.div_le_self _ _) (by omega)
    have hv1 : IntKind.u64.wrap ((tm y : Int) * 1000) = ((tm y * 1000 : Nat) : Int) := by
      rw [show (tm y : Int) * 1000 = ((tm y * 1000 : Nat) : Int) by omega]
      exact wrap_nat rfl (by show _ < 18446744073709551616; omega)
    have hv2 : IntKind.u64.wrap (((tm y * 1000 : Nat) : Int).tdiv (y.p : Int)) = ((tm y * 1000 / y.p : Nat) : Int) := by
      rw [Int.tdiv_eq_ediv_of_nonneg (by omega), ← Int.natCast_ediv]
      exact wrap_nat rfl (by show _ < 18446744073709551616; omega)
    have hv3 : IntKind.u64.wrap ((acc : Int) + ((tm y * 1000 / y.p : Nat) : Int)) = ((bAdd acc y : Nat) : Int) := by
      rw [← Int.natCast_add]
      exact wrap_nat rfl (by show _ < 18446744073709551616; omega)
    repeat' ((conv => whnf); (first | refine Look.cells hrb2 rfl hc2 ?_ | refine t27 hgy ?_ | with_reducible refine Val.to _ hv1 ?_ | with_reducible refine Val.to _ hv2 ?_ | with_reducible refine Val.to _ hv3 ?_ | exact hnext _ _ .mk | refine New.mk (fun _ => ?_) | refine Look.at0 ?_ | refine Cell.row ?_ | refine Cell.buf ?_ | refine Cells.row rfl ?_ | refine Put.row rfl ?_ | refine Put.buf rfl ?_ | refine Look.at1 ?_ | refine Look.at2 ?_ | refine Look.at3 ?_ | refine Look.at4 ?_ | refine Look.at5 ?_ | refine Look.at6 ?_ | refine Look.at7 ?_ | refine Look.at8 ?_ | with_reducible refine Val.i64 (by omega) (by omega) ?_ | with_reducible refine Val.u8 (by omega) (by omega) ?_ | with_reducible refine Val.u32 (by omega) (by omega) ?_ | with_reducible refine Val.u64 (by omega) (by omega) ?_ | with_reducible refine Val.u8m ?_ | with_reducible refine Val.u32m ?_ | with_reducible refine Val.u64m ?_ | with_reducible refine Val.shr8 ?_ | with_reducible refine Val.shr16 (by decide) ?_ | with_reducible refine Val.shr24 (by decide) ?_ | with_reducible refine Val.raw ?_ | refine Branch.not ?_ | refine Branch.and ?_ | refine Branch.or ?_ | refine Branch.dt (by assumption) ?_ | refine Branch.df (by assumption) ?_ | refine Branch.dt rfl ?_ | refine Branch.dt (by omega) ?_ | refine Branch.df (by omega) ?_ | refine Branch.t rfl ?_ | refine Branch.f rfl ?_ | refine Branch.t (by assumption) ?_ | refine Branch.f (by assumption) ?_ | refine Branch.d (fun _ => ?_) (fun _ => ?_) | refine Branch.mk (fun _ => ?_) (fun _ => ?_) | refine Need.mk (by first | omega | decide | rfl) ?_ | refine Idx.nat (by omega) ?_ | refine Idx.auto (by first | omega | decide) (by first | omega | decide) ?_ | refine Cell.ro rfl ?_ | refine SDraw.all (by kernel_rfl) ?_ | refine Kept.k0 ?_ | refine Kept.k1 ?_ | refine Kept.k2 ?_ | refine Kept.k3 ?_ | refine Kept.k4 ?_))
  · obtain rfl : k = L.length := by omega
    rw [List.take_length]
    clear hR
    repeat' ((conv => whnf); (first | exact Keep.all h | refine New.mk (fun _ => ?_) | refine Look.at0 ?_ | refine Cell.row ?_ | refine Cell.buf ?_ | refine Cells.row rfl ?_ | refine Put.row rfl ?_ | refine Put.buf rfl ?_ | refine Look.at1 ?_ | refine Look.at2 ?_ | refine Look.at3 ?_ | refine Look.at4 ?_ | refine Look.at5 ?_ | refine Look.at6 ?_ | refine Look.at7 ?_ | refine Look.at8 ?_ | with_reducible refine Val.i64 (by omega) (by omega) ?_ | with_reducible refine Val.u8 (by omega) (by omega) ?_ | with_reducible refine Val.u32 (by omega) (by omega) ?_ | with_reducible refine Val.u64 (by omega) (by omega) ?_ | with_reducible refine Val.u8m ?_ | with_reducible refine Val.u32m ?_ | with_reducible refine Val.u64m ?_ | with_reducible refine Val.shr8 ?_ | with_reducible refine Val.shr16 (by decide) ?_ | with_reducible refine Val.shr24 (by decide) ?_ | with_reducible refine Val.raw ?_ | refine Branch.not ?_ | refine Branch.and ?_ | refine Branch.or ?_ | refine Branch.dt (by assumption) ?_ | refine Branch.df (by assumption) ?_ | refine Branch.dt rfl ?_ | refine Branch.dt (by omega) ?_ | refine Branch.df (by omega) ?_ | refine Branch.t rfl ?_ | refine Branch.f rfl ?_ | refine Branch.t (by assumption) ?_ | refine Branch.f (by assumption) ?_ | refine Branch.d (fun _ => ?_) (fun _ => ?_) | refine Branch.mk (fun _ => ?_) (fun _ => ?_) | refine Need.mk (by first | omega | decide | rfl) ?_ | refine Idx.nat (by omega) ?_ | refine Idx.auto (by first | omega | decide) (by first | omega | decide) ?_ | refine Cell.ro rfl ?_ | refine SDraw.all (by kernel_rfl) ?_ | refine Kept.k0 ?_ | refine Kept.k1 ?_ | refine Kept.k2 ?_ | refine Kept.k3 ?_ | refine Kept.k4 ?_))
end
end Go.Proofs.YtjleekdidedhaaaDoor

/- Layer 25: what waits, the one that comes first first: the heap's own methods, by walks. -/
set_option linter.unusedVariables false
set_option linter.unusedSimpArgs false
set_option maxRecDepth 100000
set_option maxHeartbeats 4000000
namespace Go.Proofs.YtjleekdidedhaaaDoor
open Sx
/-- A message that was queued. -/
structure Wn where
  (who : Nat) (fl : List UInt8) (ask : Nat)
abbrev wC (x : Wn) : List Value := [.int .i64 (x.who : Int), .string (strOf x.fl), .int .u64 (x.ask : Int)]
def key (x : Wn) : List UInt8 × Int := (x.fl, (x.ask : Int))
def wlt (x y : Wn) : Bool := Hp.klt (key x) (key y)
theorem wlt_ord : Hp.Ord wlt := ⟨fun a b => Hp.klt_ord.asym _ _, fun a b c => Hp.klt_ord.nt _ _ _⟩
theorem wlt_irr (x : Wn) : wlt x x = false := Hp.klt_irr _
def cmpI (a b : Nat) : Int := if a < b then -1 else if b < a then 1 else 0
theorem or_klt (a b : List UInt8) (x y : Nat) : decide ((if cmpS a b = 0 then cmpI x y else cmpS a b) < 0) = Hp.klt (a, (x : Int)) (b, (y : Int)) := by
  unfold Hp.klt
  show _ = (tlt a b || (decide (a = b) && decide ((x : Int) < y)))
  cases h : tlt a b with
  | true =>
    have : cmpS a b = -1 := by unfold cmpS; rw [h]; rfl
    rw [this]; rfl
  | false =>
    cases h2 : tlt b a with
    | true =>
      have hne : ¬ a = b := fun e => by
        subst e
        rw [show tlt a a = false from Hp.bl_irr a] at h2; cases h2
      have : cmpS a b = 1 := by unfold cmpS; rw [h, h2]; rfl
      rw [this, decide_eq_false hne]; rfl
    | false =>
      obtain rfl := Hp.bl_tri _ _ h h2
      have : cmpS a a = 0 := by unfold cmpS; rw [h]; rfl
      rw [this, if_pos rfl]
      unfold cmpI
      by_cases hxy : x < y
      · rw [if_pos hxy]; simp [hxy]
      · rw [if_neg hxy]
        split <;> simp <;> omega
theorem sw_front {α : Type} {q st : List α} {i j : Nat} {x y : α} (hi : i < q.length) (hj : j < q.length) : ((q ++ st).set i x).set j y = Hp.sw q i j x y ++ st := by
  unfold Hp.sw
  rw [List.set_append_left _ _ hi, List.set_append_left _ _ (by rw [List.length_set]; exact hj)]
section
variable {K : Value → Heap → Prop} {H : Heap}
theorem c101 {a b : Nat} (hK : K (.int .i64 (cmpI a b)) H) : SCalls Tryd.prog 101 [.int .u64 (a : Int), .int .u64 (b : Int)] H K := by
  refine enter101 ?_
  have h102 : ∀ (a : Nat) H (K2 : Value → Heap → Prop), K2 (.bool false) H → SCalls Tryd.prog 102 [.int .u64 (a : Int)] H K2 := by
    intro a H K2 hk
    refine enter102 ?_
    have : (!decide ((a : Int) = (a : Int))) = false := by simp
    repeat' ((conv => whnf); (first | (show Keep _ fun H' => K2 (.bool (!decide ((a : Int) = (a : Int)))) H'; rw [this]; exact Keep.all hk) | refine New.mk (fun _ => ?_) | refine Look.at0 ?_ | refine Cell.row ?_ | refine Cell.buf ?_ | refine Cells.row rfl ?_ | refine Put.row rfl ?_ | refine Put.buf rfl ?_ | refine Look.at1 ?_ | refine Look.at2 ?_ | refine Look.at3 ?_ | refine Look.at4 ?_ | refine Look.at5 ?_ | refine Look.at6 ?_ | refine Look.at7 ?_ | refine Look.at8 ?_ | with_reducible refine Val.i64 (by omega) (by omega) ?_ | with_reducible refine Val.u8 (by omega) (by omega) ?_ | with_reducible refine Val.u32 (by omega) (by omega) ?_ | with_reducible refine Val.u64 (by omega) (by omega) ?_ | with_reducible refine Val.u8m ?_ | with_reducible refine Val.u32m ?_ | with_reducible refine Val.u64m ?_ | with_reducible refine Val.shr8 ?_ | with_reducible refine Val.shr16 (by decide) ?_ | with_reducible refine Val.shr24 (by decide) ?_ | with_reducible refine Val.raw ?_ | refine Branch.not ?_ | refine Branch.and ?_ | refine Branch.or ?_ | refine Branch.dt (by assumption) ?_ | refine Branch.df (by assumption) ?_ | refine Branch.dt rfl ?_ | refine Branch.dt (by omega) ?_ | refine Branch.df (by omega) ?_ | refine Branch.t rfl ?_ | refine Branch.f rfl ?_ | refine Branch.t (by assumption) ?_ | refine Branch.f (by assumption) ?_ | refine Branch.d (fun _ => ?_) (fun _ => ?_) | refine Branch.mk (fun _ => ?_) (fun _ => ?_) | refine Need.mk (by first | omega | decide | rfl) ?_ | refine Idx.nat (by omega) ?_ | refine Idx.auto (by first | omega | decide) (by first | omega | decide) ?_ | refine Cell.ro rfl ?_ | refine SDraw.all (by kernel_rfl) ?_ | refine Kept.k0 ?_ | refine Kept.k1 ?_ | refine Kept.k2 ?_ | refine Kept.k3 ?_ | refine Kept.k4 ?_))
  unfold cmpI at hK
  by_cases h1 : a < b
  · rw [if_pos h1] at hK
    repeat' ((conv => whnf); (first | with_reducible refine h102 _ _ _ ?_ | refine Branch.dt (by omega) ?_ | exact Keep.all hK | refine New.mk (fun _ => ?_) | refine Look.at0 ?_ | refine Cell.row ?_ | refine Cell.buf ?_ | refine Cells.row rfl ?_ | refine Put.row rfl ?_ | refine Put.buf rfl ?_ | refine Look.at1 ?_ | refine Look.at2 ?_ | refine Look.at3 ?_ | refine Look.at4 ?_ | refine Look.at5 ?_ | refine Look.at6 ?_ | refine Look.at7 ?_ | refine Look.at8 ?_ | with_reducible refine Val.i64 (by omega) (by omega) ?_ | with_reducible refine Val.u8 (by omega) (by omega) ?_ | with_reducible refine Val.u32 (by omega) (by omega) ?_ | with_reducible refine Val.u64 (by omega) (by omega) ?_ | with_reducible refine Val.u8m ?_ | with_reducible refine Val.u32m ?_ | with_reducible refine Val.u64m ?_ | with_reducible refine Val.shr8 ?_ | with_reducible refine Val.shr16 (by decide) ?_ | with_reducible refine Val.shr24 (by decide) ?_ | with_reducible refine Val.raw ?_ | refine Branch.not ?_ | refine Branch.and ?_ | refine Branch.or ?_ | refine Branch.dt (by assumption) ?_ | refine Branch.df (by assumption) ?_ | refine Branch.dt rfl ?_ | refine Branch.dt (by omega) ?_ | refine Branch.df (by omega) ?_ | refine Branch.t rfl ?_ | refine Branch.f rfl ?_ | refine Branch.t (by assumption) ?_ | refine Branch.f (by assumption) ?_ | refine Branch.d (fun _ => ?_) (fun _ => ?_) | refine Branch.mk (fun _ => ?_) (fun _ => ?_) | refine Need.mk (by first | omega | decide | rfl) ?_ | refine Idx.nat (by omega) ?_ | refine Idx.auto (by first | omega | decide) (by first | omega | decide) ?_ | refine Cell.ro rfl ?_ | refine SDraw.all (by kernel_rfl) ?_ | refine Kept.k0 ?_ | refine Kept.k1 ?_ | refine Kept.k2 ?_ | refine Kept.k3 ?_ | refine Kept.k4 ?_))
  · rw [if_neg h1] at hK
    by_cases h2 : b < a
    · rw [if_pos h2] at hK
      repeat' ((conv => whnf); (first | with_reducible refine h102 _ _ _ ?_ | refine Branch.df (by omega) ?_ | refine Branch.dt (by omega) ?_ | exact Keep.all hK | refine New.mk (fun _ => ?_) | refine Look.at0 ?_ | refine Cell.row ?_ | refine Cell.buf ?_ | refine Cells.row rfl ?_ | refine Put.row rfl ?_ | refine Put.buf rfl ?_ | refine Look.at1 ?_ | refine Look.at2 ?_ | refine Look.at3 ?_ | refine Look.at4 ?_ | refine Look.at5 ?_ | refine Look.at6 ?_ | refine Look.at7 ?_ | refine Look.at8 ?_ | with_reducible refine Val.i64 (by omega) (by omega) ?_ | with_reducible refine Val.u8 (by omega) (by omega) ?_ | with_reducible refine Val.u32 (by omega) (by omega) ?_ | with_reducible refine Val.u64 (by omega) (by omega) ?_ | with_reducible refine Val.u8m ?_ | with_reducible refine Val.u32m ?_ | with_reducible refine Val.u64m ?_ | with_reducible refine Val.shr8 ?_ | with_reducible refine Val.shr16 (by decide) ?_ | with_reducible refine Val.shr24 (by decide) ?_ | with_reducible refine Val.raw ?_ | refine Branch.not ?_ | refine Branch.and ?_ | refine Branch.or ?_ | refine Branch.dt (by assumption) ?_ | refine Branch.df (by assumption) ?_ | refine Branch.dt rfl ?_ | refine Branch.dt (by omega) ?_ | refine Branch.df (by omega) ?_ | refine Branch.t rfl ?_ | refine Branch.f rfl ?_ | refine Branch.t (by assumption) ?_ | refine Branch.f (by assumption) ?_ | refine Branch.d (fun _ => ?_) (fun _ => ?_) | refine Branch.mk (fun _ => ?_) (fun _ => ?_) | refine Need.mk (by first | omega | decide | rfl) ?_ | refine Idx.nat (by omega) ?_ | refine Idx.auto (by first | omega | decide) (by first | omega | decide) ?_ | refine Cell.ro rfl ?_ | refine SDraw.all (by kernel_rfl) ?_ | refine Kept.k0 ?_ | refine Kept.k1 ?_ | refine Kept.k2 ?_ | refine Kept.k3 ?_ | refine Kept.k4 ?_))
    · rw [if_neg h2] at hK
      repeat' ((conv => whnf); (first | with_reducible refine h102 _ _ _ ?_ | refine Branch.df (by omega) ?_ | exact Keep.all hK | refine New.mk (fun _ => ?_) | refine Look.at0 ?_ | refine Cell.row ?_ | refine Cell.buf ?_ | refine Cells.row rfl ?_ | refine Put.row rfl ?_ | refine Put.buf rfl ?_ | refine Look.at1 ?_ | refine Look.at2 ?_ | refine Look.at3 ?_ | refine Look.at4 ?_ | refine Look.at5 ?_ | refine Look.at6 ?_ | refine Look.at7 ?_ | refine Look.at8 ?_ | with_reducible refine Val.i64 (by omega) (by omega) ?_ | with_reducible refine Val.u8 (by omega) (by omega) ?_ | with_reducible refine Val.u32 (by omega) (by omega) ?_ | with_reducible refine Val.u64 (by omega) (by omega) ?_ | with_reducible refine Val.u8m ?_ | with_reducible refine Val.u32m ?_ | with_reducible refine Val.u64m ?_ | with_reducible refine Val.shr8 ?_ | with_reducible refine Val.shr16 (by decide) ?_ | with_reducible refine Val.shr24 (by decide) ?_ | with_reducible refine Val.raw ?_ | refine Branch.not ?_ | refine Branch.and ?_ | refine Branch.or ?_ | refine Branch.dt (by assumption) ?_ | refine Branch.df (by assumption) ?_ | refine Branch.dt rfl ?_ | refine Branch.dt (by omega) ?_ | refine Branch.df (by omega) ?_ | refine Branch.t rfl ?_ | refine Branch.f rfl ?_ | refine Branch.t (by assumption) ?_ | refine Branch.f (by assumption) ?_ | refine Branch.d (fun _ => ?_) (fun _ => ?_) | refine Branch.mk (fun _ => ?_) (fun _ => ?_) | refine Need.mk (by first | omega | decide | rfl) ?_ | refine Idx.nat (by omega) ?_ | refine Idx.auto (by first | omega | decide) (by first | omega | decide) ?_ | refine Cell.ro rfl ?_ | refine SDraw.all (by kernel_rfl) ?_ | refine Kept.k0 ?_ | refine Kept.k1 ?_ | refine Kept.k2 ?_ | refine Kept.k3 ?_ | refine Kept.k4 ?_))
theorem c100 {a b : Int} {q : Nat} (hK : K (.int .i64 (if a = 0 then b else a)) ((q, .row 3 [.int .i64 a, .int .i64 b] (0, 0)) :: H)) : SCalls Tryd.prog 100 [.slice (some ⟨q, 0, none⟩) 2 2] ((q, .row 3 [.int .i64 a, .int .i64 b] (0, 0)) :: H) K := by
  refine enter100 ?_
  by_cases ha : a = 0
  · subst ha
    rw [if_pos rfl] at hK
    by_cases hb : b = 0
    · subst hb
      repeat' ((conv => whnf); (first | refine SLoop.round ?_ | refine Branch.t rfl ?_ | refine Branch.f rfl ?_ | exact Keep.all hK | refine New.mk (fun _ => ?_) | refine Look.at0 ?_ | refine Cell.row ?_ | refine Cell.buf ?_ | refine Cells.row rfl ?_ | refine Put.row rfl ?_ | refine Put.buf rfl ?_ | refine Look.at1 ?_ | refine Look.at2 ?_ | refine Look.at3 ?_ | refine Look.at4 ?_ | refine Look.at5 ?_ | refine Look.at6 ?_ | refine Look.at7 ?_ | refine Look.at8 ?_ | with_reducible refine Val.i64 (by omega) (by omega) ?_ | with_reducible refine Val.u8 (by omega) (by omega) ?_ | with_reducible refine Val.u32 (by omega) (by omega) ?_ | with_reducible refine Val.u64 (by omega) (by omega) ?_ | with_reducible refine Val.u8m ?_ | with_reducible refine Val.u32m ?_ | with_reducible refine Val.u64m ?_ | with_reducible refine Val.shr8 ?_ | with_reducible refine Val.shr16 (by decide) ?_ | with_reducible refine Val.shr24 (by decide) ?_ | with_reducible refine Val.raw ?_ | refine Branch.not ?_ | refine Branch.and ?_ | refine Branch.or ?_ | refine Branch.dt (by assumption) ?_ | refine Branch.df (by assumption) ?_ | refine Branch.dt rfl ?_ | refine Branch.dt (by omega) ?_ | refine Branch.df (by omega) ?_ | refine Branch.t rfl ?_ | refine Branch.f rfl ?_ | refine Branch.t (by assumption) ?_ | refine Branch.f (by assumption) ?_ | refine Branch.d (fun _ => ?_) (fun _ => ?_) | refine Branch.mk (fun _ => ?_) (fun _ => ?_) | refine Need.mk (by first | omega | decide | rfl) ?_ | refine Idx.nat (by omega) ?_ | refine Idx.auto (by first | omega | decide) (by first | omega | decide) ?_ | refine Cell.ro rfl ?_ | refine SDraw.all (by kernel_rfl) ?_ | refine Kept.k0 ?_ | refine Kept.k1 ?_ | refine Kept.k2 ?_ | refine Kept.k3 ?_ | refine Kept.k4 ?_))
    · repeat' ((conv => whnf); (first | refine SLoop.round ?_ | refine Branch.f rfl ?_ | refine Branch.t (by first | (simp [hb]; done) | rfl) ?_ | exact Keep.all hK | refine New.mk (fun _ => ?_) | refine Look.at0 ?_ | refine Cell.row ?_ | refine Cell.buf ?_ | refine Cells.row rfl ?_ | refine Put.row rfl ?_ | refine Put.buf rfl ?_ | refine Look.at1 ?_ | refine Look.at2 ?_ | refine Look.at3 ?_ | refine Look.at4 ?_ | refine Look.at5 ?_ | refine Look.at6 ?_ | refine Look.at7 ?_ | refine Look.at8 ?_ | with_reducible refine Val.i64 (by omega) (by omega) ?_ | with_reducible refine Val.u8 (by omega) (by omega) ?_ | with_reducible refine Val.u32 (by omega) (by omega) ?_ | with_reducible refine Val.u64 (by omega) (by omega) ?_ | with_reducible refine Val.u8m ?_ | with_reducible refine Val.u32m ?_ | with_reducible refine Val.u64m ?_ | with_reducible refine Val.shr8 ?_ | with_reducible refine Val.shr16 (by decide) ?_ | with_reducible refine Val.shr24 (by decide) ?_ | with_reducible refine Val.raw ?_ | refine Branch.not ?_ | refine Branch.and ?_ | refine Branch.or ?_ | refine Branch.dt (by assumption) ?_ | refine Branch.df (by assumption) ?_ | refine Branch.dt rfl ?_ | refine Branch.dt (by omega) ?_ | refine Branch.df (by omega) ?_ | refine Branch.t rfl ?_ | refine Branch.f rfl ?_ | refine Branch.t (by assumption) ?_ | refine Branch.f (by assumption) ?_ | refine Branch.d (fun _ => ?_) (fun _ => ?_) | refine Branch.mk (fun _ => ?_) (fun _ => ?_) | refine Need.mk (by first | omega | decide | rfl) ?_ | refine Idx.nat (by omega) ?_ | refine Idx.auto (by first | omega | decide) (by first | omega | decide) ?_ | refine Cell.ro rfl ?_ | refine SDraw.all (by kernel_rfl) ?_ | refine Kept.k0 ?_ | refine Kept.k1 ?_ | refine Kept.k2 ?_ | refine Kept.k3 ?_ | refine Kept.k4 ?_))
  · rw [if_neg ha] at hK
    repeat' ((conv => whnf); (first | refine SLoop.round ?_ | refine Branch.t (by first | (simp [ha]; done) | rfl) ?_ | exact Keep.all hK | refine New.mk (fun _ => ?_) | refine Look.at0 ?_ | refine Cell.row ?_ | refine Cell.buf ?_ | refine Cells.row rfl ?_ | refine Put.row rfl ?_ | refine Put.buf rfl ?_ | refine Look.at1 ?_ | refine Look.at2 ?_ | refine Look.at3 ?_ | refine Look.at4 ?_ | refine Look.at5 ?_ | refine Look.at6 ?_ | refine Look.at7 ?_ | refine Look.at8 ?_ | with_reducible refine Val.i64 (by omega) (by omega) ?_ | with_reducible refine Val.u8 (by omega) (by omega) ?_ | with_reducible refine Val.u32 (by omega) (by omega) ?_ | with_reducible refine Val.u64 (by omega) (by omega) ?_ | with_reducible refine Val.u8m ?_ | with_reducible refine Val.u32m ?_ | with_reducible refine Val.u64m ?_ | with_reducible refine Val.shr8 ?_ | with_reducible refine Val.shr16 (by decide) ?_ | with_reducible refine Val.shr24 (by decide) ?_ | with_reducible refine Val.raw ?_ | refine Branch.not ?_ | refine Branch.and ?_ | refine Branch.or ?_ | refine Branch.dt (by assumption) ?_ | refine Branch.df (by assumption) ?_ | refine Branch.dt rfl ?_ | refine Branch.dt (by omega) ?_ | refine Branch.df (by omega) ?_ | refine Branch.t rfl ?_ | refine Branch.f rfl ?_ | refine Branch.t (by assumption) ?_ | refine Branch.f (by assumption) ?_ | refine Branch.d (fun _ => ?_) (fun _ => ?_) | refine Branch.mk (fun _ => ?_) (fun _ => ?_) | refine Need.mk (by first | omega | decide | rfl) ?_ | refine Idx.nat (by omega) ?_ | refine Idx.auto (by first | omega | decide) (by first | omega | decide) ?_ | refine Cell.ro rfl ?_ | refine SDraw.all (by kernel_rfl) ?_ | refine Kept.k0 ?_ | refine Kept.k1 ?_ | refine Kept.k2 ?_ | refine Kept.k3 ?_ | refine Kept.k4 ?_))
theorem c98 {q : List Wn} {qv : Value} {i j : Nat} {x y : Wn} (hq : InS wC 3 qv H q) (hi : q[i]? = some x) (hj : q[j]? = some y) (hK : K (.bool (wlt x y)) H) : SCalls Tryd.prog 98 [qv, .int .i64 (i : Int), .int .i64 (j : Int)] H K := by
  have hml := hq.sv
  obtain ⟨r, o, c, b, rfl, hb, hc⟩ := inS_at hq (fun _ => rfl) hi
  obtain ⟨r2, o2, c2, b2, e1, hb2, hc2⟩ := inS_at hq (fun _ => rfl) hj
  injection e1 with e1 _ e3
  injection e1 with e1
  injection e1 with e4 e5
  subst e4 e5
  have hil := (List.getElem?_eq_some_iff.1 hi).1
  have hjl := (List.getElem?_eq_some_iff.1 hj).1
  have h1 := hc 1 _ rfl
  have h2 := hc 2 _ rfl
  have h3 := hc2 1 _ rfl
  have h4 := hc2 2 _ rfl
  have hk : ∀ p : Nat × Blk, Keep (p :: H) fun H' => K (.bool (decide ((if cmpS x.fl y.fl = 0 then cmpI x.ask y.ask else cmpS x.fl y.fl) < 0))) H' := fun p => by
    rw [or_klt]; exact Keep.d1 hK
  refine enter98 ?_
  repeat' ((conv => whnf); (first | refine Look.cell hb h1 ?_ | refine Look.cell hb h2 ?_ | refine Look.cell hb2 h3 ?_ | refine Look.cell hb2 h4 ?_ | refine c36 ?_ | refine c101 ?_ | refine c100 ?_ | exact hk _ | refine New.mk (fun _ => ?_) | refine Look.at0 ?_ | refine Cell.row ?_ | refine Cell.buf ?_ | refine Cells.row rfl ?_ | refine Put.row rfl ?_ | refine Put.buf rfl ?_ | refine Look.at1 ?_ | refine Look.at2 ?_ | refine Look.at3 ?_ | refine Look.at4 ?_ | refine Look.at5 ?_ | refine Look.at6 ?_ | refine Look.at7 ?_ | refine Look.at8 ?_ | with_reducible refine Val.i64 (by omega) (by omega) ?_ | with_reducible refine Val.u8 (by omega) (by omega) ?_ | with_reducible refine Val.u32 (by omega) (by omega) ?_ | with_reducible refine Val.u64 (by omega) (by omega) ?_ | with_reducible refine Val.u8m ?_ | with_reducible refine Val.u32m ?_ | with_reducible refine Val.u64m ?_ | with_reducible refine Val.shr8 ?_ | with_reducible refine Val.shr16 (by decide) ?_ | with_reducible refine Val.shr24 (by decide) ?_ | with_reducible refine Val.raw ?_ | refine Branch.not ?_ | refine Branch.and ?_ | refine Branch.or ?_ | refine Branch.dt (by assumption) ?_ | refine Branch.df (by assumption) ?_ | refine Branch.dt rfl ?_ | refine Branch.dt (by omega) ?_ | refine Branch.df (by omega) ?_ | refine Branch.t rfl ?_ | refine Branch.f rfl ?_ | refine Branch.t (by assumption) ?_ | refine Branch.f (by assumption) ?_ | refine Branch.d (fun _ => ?_) (fun _ => ?_) | refine Branch.mk (fun _ => ?_) (fun _ => ?_) | refine Need.mk (by first | omega | decide | rfl) ?_ | refine Idx.nat (by omega) ?_ | refine Idx.auto (by first | omega | decide) (by first | omega | decide) ?_ | refine Cell.ro rfl ?_ | refine SDraw.all (by kernel_rfl) ?_ | refine Kept.k0 ?_ | refine Kept.k1 ?_ | refine Kept.k2 ?_ | refine Kept.k3 ?_ | refine Kept.k4 ?_))
theorem c97 {a : Option Addr} {n c : Nat} (hK : K (.int .i64 (n : Int)) H) : SCalls Tryd.prog 97 [.slice a n c] H K := by
  refine enter97 ?_
  repeat' ((conv => whnf); (first | exact Keep.all hK | refine New.mk (fun _ => ?_) | refine Look.at0 ?_ | refine Cell.row ?_ | refine Cell.buf ?_ | refine Cells.row rfl ?_ | refine Put.row rfl ?_ | refine Put.buf rfl ?_ | refine Look.at1 ?_ | refine Look.at2 ?_ | refine Look.at3 ?_ | refine Look.at4 ?_ | refine Look.at5 ?_ | refine Look.at6 ?_ | refine Look.at7 ?_ | refine Look.at8 ?_ | with_reducible refine Val.i64 (by omega) (by omega) ?_ | with_reducible refine Val.u8 (by omega) (by omega) ?_ | with_reducible refine Val.u32 (by omega) (by omega) ?_ | with_reducible refine Val.u64 (by omega) (by omega) ?_ | with_reducible refine Val.u8m ?_ | with_reducible refine Val.u32m ?_ | with_reducible refine Val.u64m ?_ | with_reducible refine Val.shr8 ?_ | with_reducible refine Val.shr16 (by decide) ?_ | with_reducible refine Val.shr24 (by decide) ?_ | with_reducible refine Val.raw ?_ | refine Branch.not ?_ | refine Branch.and ?_ | refine Branch.or ?_ | refine Branch.dt (by assumption) ?_ | refine Branch.df (by assumption) ?_ | refine Branch.dt rfl ?_ | refine Branch.dt (by omega) ?_ | refine Branch.df (by omega) ?_ | refine Branch.t rfl ?_ | refine Branch.f rfl ?_ | refine Branch.t (by assumption) ?_ | refine Branch.f (by assumption) ?_ | refine Branch.d (fun _ => ?_) (fun _ => ?_) | refine Branch.mk (fun _ => ?_) (fun _ => ?_) | refine Need.mk (by first | omega | decide | rfl) ?_ | refine Idx.nat (by omega) ?_ | refine Idx.auto (by first | omega | decide) (by first | omega | decide) ?_ | refine Cell.ro rfl ?_ | refine SDraw.all (by kernel_rfl) ?_ | refine Kept.k0 ?_ | refine Kept.k1 ?_ | refine Kept.k2 ?_ | refine Kept.k3 ?_ | refine Kept.k4 ?_))
theorem c99 {b c N : Nat} {q st : List Wn} {i j : Nat} {x y : Wn} (hi : q[i]? = some y) (hj : q[j]? = some x) (hK : K (.tuple ⟨[]⟩) ((b, .buf 72 ((Hp.sw q i j x y ++ st).flatMap wC) N) :: H)) : SCalls Tryd.prog 99 [.slice (some ⟨b, 0, none⟩) q.length c, .int .i64 (i : Int), .int .i64 (j : Int)] ((b, .buf 72 ((q ++ st).flatMap wC) N) :: H) K := by
  have hil := (List.getElem?_eq_some_iff.1 hi).1
  have hjl := (List.getElem?_eq_some_iff.1 hj).1
  have hi2 : (q ++ st)[i]? = some y := by rw [List.getElem?_append_left hil]; exact hi
  have hj2 : (q ++ st)[j]? = some x := by rw [List.getElem?_append_left hjl]; exact hj
  rw [← sw_front hil hjl] at hK
  obtain ⟨z, hz⟩ : ∃ z, ((q ++ st).set i x)[j]? = some z := ⟨_, List.getElem?_eq_getElem (by simp; omega)⟩
  have ei : 0 + i * 3 = i * 3 := Nat.zero_add _
  have ej : 0 + j * 3 = j * 3 := Nat.zero_add _
  refine enter99 ?_
  repeat' ((conv => whnf); (first | refine SDraw.held (by kernel_rfl) [] .nil ?_ | refine Kept.sub (List.nil_sublist _) ?_ | refine And.intro ?_ ?_ | refine Cells.flat (f := wC) (fun _ => rfl) hj2 ?_ | refine Cells.flat (f := wC) (fun _ => rfl) hi2 ?_ | refine Put.flatAll (f := wC) (fun _ => rfl) (x := y) x hi2 ei ?_ | refine Put.flatAll (f := wC) (fun _ => rfl) y hz ej ?_ | exact Keep.all hK | refine New.mk (fun _ => ?_) | refine Look.at0 ?_ | refine Cell.row ?_ | refine Cell.buf ?_ | refine Cells.row rfl ?_ | refine Put.row rfl ?_ | refine Put.buf rfl ?_ | refine Look.at1 ?_ | refine Look.at2 ?_ | refine Look.at3 ?_ | refine Look.at4 ?_ | refine Look.at5 ?_ | refine Look.at6 ?_ | refine Look.at7 ?_ | refine Look.at8 ?_ | with_reducible refine Val.i64 (by omega) (by omega) ?_ | with_reducible refine Val.u8 (by omega) (by omega) ?_ | with_reducible refine Val.u32 (by omega) (by omega) ?_ | with_reducible refine Val.u64 (by omega) (by omega) ?_ | with_reducible refine Val.u8m ?_ | with_reducible refine Val.u32m ?_ | with_reducible refine Val.u64m ?_ | with_reducible refine Val.shr8 ?_ | with_reducible refine Val.shr16 (by decide) ?_ | with_reducible refine Val.shr24 (by decide) ?_ | with_reducible refine Val.raw ?_ | refine Branch.not ?_ | refine Branch.and ?_ | refine Branch.or ?_ | refine Branch.dt (by assumption) ?_ | refine Branch.df (by assumption) ?_ | refine Branch.dt rfl ?_ | refine Branch.dt (by omega) ?_ | refine Branch.df (by omega) ?_ | refine Branch.t rfl ?_ | refine Branch.f rfl ?_ | refine Branch.t (by assumption) ?_ | refine Branch.f (by assumption) ?_ | refine Branch.d (fun _ => ?_) (fun _ => ?_) | refine Branch.mk (fun _ => ?_) (fun _ => ?_) | refine Need.mk (by first | omega | decide | rfl) ?_ | refine Idx.nat (by omega) ?_ | refine Idx.auto (by first | omega | decide) (by first | omega | decide) ?_ | refine Cell.ro rfl ?_ | refine SDraw.all (by kernel_rfl) ?_ | refine Kept.k0 ?_ | refine Kept.k1 ?_ | refine Kept.k2 ?_ | refine Kept.k3 ?_ | refine Kept.k4 ?_))
end
end Go.Proofs.YtjleekdidedhaaaDoor

/- Layer 25: what waits: container/heap over it, by walks. -/
set_option linter.unusedVariables false
set_option linter.unusedSimpArgs false
set_option maxRecDepth 100000
set_option maxHeartbeats 4000000
namespace Go.Proofs.YtjleekdidedhaaaDoor
open Sx
abbrev qP (p : Nat) : Value := .iface 74 (.pointer (some ⟨p, 1, none⟩))
abbrev pRow (p : Nat) (lv qv un : Value) : Nat × Blk := (p, .row 65 [lv, qv, un] (0, 0))
theorem inv_len (p : Nat) (w : World) {sv : Value} (hc : w.cell? ⟨p, 1, none⟩ = some sv) : (callMethod (qP p) "Len" ([] : List Value).toArray).run Tryd.prog w = .ok (.enter 97 (sv :: ([] : List Value)).toArray) w := by
  have h : (callMethod (qP p) "Len" ([] : List Value).toArray).run Tryd.prog w = (match w.cell? ⟨p, 1, none⟩ with
    | some v => (.ok (.enter 97 (v :: ([] : List Value)).toArray) w : Result Next)
    | none => match w.farLoad Tryd.prog ⟨p, 1, none⟩ false with
      | .ok (v, _) => .ok (.enter 97 (v :: ([] : List Value)).toArray) w
      | .error h => .halt h w) := by kernel_rfl
  rw [h, hc]
theorem inv_less (p : Nat) (x y : Value) (w : World) {sv : Value} (hc : w.cell? ⟨p, 1, none⟩ = some sv) : (callMethod (qP p) "Less" [x, y].toArray).run Tryd.prog w = .ok (.enter 98 (sv :: [x, y]).toArray) w := by
  have h : (callMethod (qP p) "Less" [x, y].toArray).run Tryd.prog w = (match w.cell? ⟨p, 1, none⟩ with
    | some v => (.ok (.enter 98 (v :: [x, y]).toArray) w : Result Next)
    | none => match w.farLoad Tryd.prog ⟨p, 1, none⟩ false with
      | .ok (v, _) => .ok (.enter 98 (v :: [x, y]).toArray) w
      | .error h => .halt h w) := by kernel_rfl
  rw [h, hc]
theorem inv_swap (p : Nat) (x y : Value) (w : World) {sv : Value} (hc : w.cell? ⟨p, 1, none⟩ = some sv) : (callMethod (qP p) "Swap" [x, y].toArray).run Tryd.prog w = .ok (.enter 99 (sv :: [x, y]).toArray) w := by
  have h : (callMethod (qP p) "Swap" [x, y].toArray).run Tryd.prog w = (match w.cell? ⟨p, 1, none⟩ with
    | some v => (.ok (.enter 99 (v :: [x, y]).toArray) w : Result Next)
    | none => match w.farLoad Tryd.prog ⟨p, 1, none⟩ false with
      | .ok (v, _) => .ok (.enter 99 (v :: [x, y]).toArray) w
      | .error h => .halt h w) := by kernel_rfl
  rw [h, hc]
theorem inv_pop (p : Nat) (w : World) : (callMethod (qP p) "Pop" ([] : List Value).toArray).run Tryd.prog w = .ok (.enter 103 (.pointer (some ⟨p, 1, none⟩) :: ([] : List Value)).toArray) w := by kernel_rfl
theorem inv_push (p : Nat) (x : Value) (w : World) : (callMethod (qP p) "Push" [x].toArray).run Tryd.prog w = .ok (.enter 104 (.pointer (some ⟨p, 1, none⟩) :: [x]).toArray) w := by kernel_rfl
inductive S47 (A0 A1 : Value) : List Value → Prop
  | mk {r2 r3 r4 r5 r6 r7 r8 r9 r10 r11 r12 r13 r14 r15 r16 r17 r18 r19 r20 r21 r22 : Value} : S47 A0 A1 [A0, A1, r2, r3, r4, r5, r6, r7, r8, r9, r10, r11, r12, r13, r14, r15, r16, r17, r18, r19, r20, r21, r22]
inductive S41 (A0 A1 A2 A7 : Value) : List Value → Prop
  | mk {r3 r4 r5 r6 r8 r9 r10 r11 r12 r13 r14 r15 r16 r17 r18 r19 r20 r21 r22 r23 r24 r25 r26 r27 r28 r29 r30 r31 r32 r33 r34 r35 r36 r37 r38 r39 r40 r41 r42 r43 r44 r45 r46 r47 : Value} : S41 A0 A1 A2 A7 [A0, A1, A2, r3, r4, r5, r6, A7, r8, r9, r10, r11, r12, r13, r14, r15, r16, r17, r18, r19, r20, r21, r22, r23, r24, r25, r26, r27, r28, r29, r30, r31, r32, r33, r34, r35, r36, r37, r38, r39, r40, r41, r42, r43, r44, r45, r46, r47]
section
variable {K : Value → Heap → Prop} {H : Heap} {p : Nat} {lv un : Value} {o : Oper} {xr xi xj : Operand} {ts : Array TypeId} {ar : Array Operand}
/-- The player's block, and its queue's. -/
abbrev pq (p b N c : Nat) (lv un : Value) (q st : List Wn) (H : Heap) : Heap := pRow p lv (.slice (some ⟨b, 0, none⟩) q.length c) un :: (b, .buf 72 ((q ++ st).flatMap wC) N) :: H
theorem pq_in {b N c : Nat} {q st : List Wn} (hml : q.length ≤ maxLen) : InS wC 3 (.slice (some ⟨b, 0, none⟩) q.length c) (pq p b N c lv un q st H) q :=
  ⟨_, c, rfl, hml, .inr ⟨b, 0, _, rfl, .tail _ (.head _), fun j x i v hj hv hi => by
    show ((q ++ st).flatMap wC)[0 + j * 3 + i]? = some v
    rw [Nat.zero_add, flat_nth (f := wC) (fun _ => rfl) (by rw [List.getElem?_append_left (List.getElem?_eq_some_iff.1 hj).1]; exact hj) hi]
    exact hv⟩⟩
theorem r_len {b N c : Nat} {q st : List Wn} (ho : o.op = .call { callee := .invoke xr "Len", args := ar, argTypes := ts }) (hK : K (.int .i64 (q.length : Int)) (pq p b N c lv un q st H)) : RawV Tryd.prog o [qP p] (pq p b N c lv un q st H) K :=
  RawV.invoke (f := 97) (vs := []) ho (fun w hw => inv_len p w (cell_at (hw.at_ _ (.head _)) rfl)) (c97 hK)
theorem r_less {b N c : Nat} {q st : List Wn} {i j : Nat} {x y : Wn} (ho : o.op = .call { callee := .invoke xr "Less", args := ar, argTypes := ts }) (hml : q.length ≤ maxLen) (hi : q[i]? = some x) (hj : q[j]? = some y) (hK : K (.bool (wlt x y)) (pq p b N c lv un q st H)) : RawV Tryd.prog o [qP p, .int .i64 (i : Int), .int .i64 (j : Int)] (pq p b N c lv un q st H) K :=
  RawV.invoke (f := 98) (vs := [_, _]) ho (fun w hw => inv_less p _ _ w (cell_at (hw.at_ _ (.head _)) rfl)) (c98 (pq_in hml) hi hj hK)
theorem r_swap {b N c : Nat} {q st : List Wn} {i j : Nat} {x y : Wn} (ho : o.op = .call { callee := .invoke xr "Swap", args := ar, argTypes := ts }) (hi : q[i]? = some y) (hj : q[j]? = some x) (hK : K (.tuple ⟨[]⟩) (pq p b N c lv un (Hp.sw q i j x y) st H)) : RawV Tryd.prog o [qP p, .int .i64 (i : Int), .int .i64 (j : Int)] (pq p b N c lv un q st H) K := by
  unfold pq at hK
  rw [Hp.sw_len] at hK
  exact RawV.invoke (f := 99) (vs := [_, _]) ho (fun w hw => inv_swap p _ _ w (cell_at (hw.at_ _ (.head _)) rfl)) (SCalls.under [_] (c99 hi hj hK))
def I47 (p b N c : Nat) (lv un : Value) (q0 st : List Wn) (H : Heap) (s : List Wn × Nat) (S : List Value) (H' : Heap) : Prop :=
  s.1.Perm q0 ∧ Hp.UpI wlt s.1 s.2 s.1.length ∧ s.2 < s.1.length ∧ S47 (qP p) (.int .i64 (s.2 : Int)) S ∧ H' = pq p b N c lv un s.1 st H
theorem c47 {b N c : Nat} {q st : List Wn} {j : Nat} (hml : q.length ≤ 4503599627370496) (hu : Hp.UpI wlt q j q.length) (hj : j < q.length) (hK : ∀ q', q'.Perm q → Hp.HeapN wlt q' q'.length → K (.tuple ⟨[]⟩) (pq p b N c lv un q' st H)) : SCalls Tryd.prog 47 [qP p, .int .i64 (j : Int)] (pq p b N c lv un q st H) K := by
  refine enter47 ?_
  repeat' ((conv => whnf); (first | refine New.mk (fun _ => ?_) | refine Look.at0 ?_ | refine Cell.row ?_ | refine Cell.buf ?_ | refine Cells.row rfl ?_ | refine Put.row rfl ?_ | refine Put.buf rfl ?_ | refine Look.at1 ?_ | refine Look.at2 ?_ | refine Look.at3 ?_ | refine Look.at4 ?_ | refine Look.at5 ?_ | refine Look.at6 ?_ | refine Look.at7 ?_ | refine Look.at8 ?_ | with_reducible refine Val.i64 (by omega) (by omega) ?_ | with_reducible refine Val.u8 (by omega) (by omega) ?_ | with_reducible refine Val.u32 (by omega) (by omega) ?_ | with_reducible refine Val.u64 (by omega) (by omega) ?_ | with_reducible refine Val.u8m ?_ | with_reducible refine Val.u32m ?_ | with_reducible refine Val.u64m ?_ | with_reducible refine Val.shr8 ?_ | with_reducible refine Val.shr16 (by decide) ?_ | with_reducible refine Val.shr24 (by decide) ?_ | with_reducible refine Val.raw ?_ | refine Branch.not ?_ | refine Branch.and ?_ | refine Branch.or ?_ | refine Branch.dt (by assumption) ?_ | refine Branch.df (by assumption) ?_ | refine Branch.dt rfl ?_ | refine Branch.dt (by omega) ?_ | refine Branch.df (by omega) ?_ | refine Branch.t rfl ?_ | refine Branch.f rfl ?_ | refine Branch.t (by assumption) ?_ | refine Branch.f (by assumption) ?_ | refine Branch.d (fun _ => ?_) (fun _ => ?_) | refine Branch.mk (fun _ => ?_) (fun _ => ?_) | refine Need.mk (by first | omega | decide | rfl) ?_ | refine Idx.nat (by omega) ?_ | refine Idx.auto (by first | omega | decide) (by first | omega | decide) ?_ | refine Cell.ro rfl ?_ | refine SDraw.all (by kernel_rfl) ?_ | refine Kept.k0 ?_ | refine Kept.k1 ?_ | refine Kept.k2 ?_ | refine Kept.k3 ?_ | refine Kept.k4 ?_))
  refine SLoop.invA (I47 p b N c lv un q st H) (fun s => s.2) (q, j) (Keep.all ⟨.refl _, hu, hj, .mk, rfl⟩) ?_
  rintro ⟨q1, j⟩ S H' ⟨hp, hu, hj, hS, rfl⟩ R hR
  dsimp only at hp hu hj hS hR ⊢
  cases hS
  have hl := hp.length_eq
  have hm2 : q1.length ≤ 4503599627370496 := by omega
  have hml1 : q1.length ≤ maxLen := by simp only [maxLen]; omega
  have hx := List.getElem?_eq_getElem hj
  generalize q1[j] = x at hx
  have hy := List.getElem?_eq_getElem (show (j - 1) / 2 < q1.length by omega)
  generalize q1[(j - 1) / 2] = y at hy
  rcases Nat.eq_zero_or_pos j with rfl | hj0
  · have hk := hK q1 hp (hu.done (.inl rfl))
    have hv : IntKind.i64.wrap ((((0 : Nat) : Int) - 1).tdiv 2) = ((0 : Nat) : Int) := by decide
    clear hR hK
    repeat' ((conv => whnf); (first | with_reducible refine Val.to _ hv ?_ | refine Branch.t rfl ?_ | exact Keep.all hk | refine New.mk (fun _ => ?_) | refine Look.at0 ?_ | refine Cell.row ?_ | refine Cell.buf ?_ | refine Cells.row rfl ?_ | refine Put.row rfl ?_ | refine Put.buf rfl ?_ | refine Look.at1 ?_ | refine Look.at2 ?_ | refine Look.at3 ?_ | refine Look.at4 ?_ | refine Look.at5 ?_ | refine Look.at6 ?_ | refine Look.at7 ?_ | refine Look.at8 ?_ | with_reducible refine Val.i64 (by omega) (by omega) ?_ | with_reducible refine Val.u8 (by omega) (by omega) ?_ | with_reducible refine Val.u32 (by omega) (by omega) ?_ | with_reducible refine Val.u64 (by omega) (by omega) ?_ | with_reducible refine Val.u8m ?_ | with_reducible refine Val.u32m ?_ | with_reducible refine Val.u64m ?_ | with_reducible refine Val.shr8 ?_ | with_reducible refine Val.shr16 (by decide) ?_ | with_reducible refine Val.shr24 (by decide) ?_ | with_reducible refine Val.raw ?_ | refine Branch.not ?_ | refine Branch.and ?_ | refine Branch.or ?_ | refine Branch.dt (by assumption) ?_ | refine Branch.df (by assumption) ?_ | refine Branch.dt rfl ?_ | refine Branch.dt (by omega) ?_ | refine Branch.df (by omega) ?_ | refine Branch.t rfl ?_ | refine Branch.f rfl ?_ | refine Branch.t (by assumption) ?_ | refine Branch.f (by assumption) ?_ | refine Branch.d (fun _ => ?_) (fun _ => ?_) | refine Branch.mk (fun _ => ?_) (fun _ => ?_) | refine Need.mk (by first | omega | decide | rfl) ?_ | refine Idx.nat (by omega) ?_ | refine Idx.auto (by first | omega | decide) (by first | omega | decide) ?_ | refine Cell.ro rfl ?_ | refine SDraw.all (by kernel_rfl) ?_ | refine Kept.k0 ?_ | refine Kept.k1 ?_ | refine Kept.k2 ?_ | refine Kept.k3 ?_ | refine Kept.k4 ?_))
  · have hv : IntKind.i64.wrap (((j : Int) - 1).tdiv 2) = (((j - 1) / 2 : Nat) : Int) := by
      rw [show (j : Int) - 1 = ((j - 1 : Nat) : Int) by omega, Int.tdiv_eq_ediv_of_nonneg (by omega), show ((2 : Int)) = ((2 : Nat) : Int) from rfl, ← Int.natCast_ediv]
      exact wrap_i64 (by omega) (by omega)
    have hij : (j - 1) / 2 < j := by omega
    have hless := fun (K2 : Value → Heap → Prop) (o : Oper) (xr : Operand) (ar : Array Operand) (ts : Array TypeId) ho hk => r_less (K := K2) (o := o) (xr := xr) (ar := ar) (ts := ts) (p := p) (lv := lv) (un := un) (H := H) (b := b) (N := N) (c := c) (st := st) ho hml1 hx hy hk
    cases hlt : wlt x y with
    | false =>
      have hk := hK q1 hp (hu.done (.inr ⟨x, y, hx, hy, hlt⟩))
      rw [hlt] at hless
      clear hR hK
      repeat' ((conv => whnf); (first | with_reducible refine Val.to _ hv ?_ | refine Branch.df (by omega) ?_ | refine hless _ _ _ _ _ rfl ?_ | exact Keep.all hk | refine New.mk (fun _ => ?_) | refine Look.at0 ?_ | refine Cell.row ?_ | refine Cell.buf ?_ | refine Cells.row rfl ?_ | refine Put.row rfl ?_ | refine Put.buf rfl ?_ | refine Look.at1 ?_ | refine Look.at2 ?_ | refine Look.at3 ?_ | refine Look.at4 ?_ | refine Look.at5 ?_ | refine Look.at6 ?_ | refine Look.at7 ?_ | refine Look.at8 ?_ | with_reducible refine Val.i64 (by omega) (by omega) ?_ | with_reducible refine Val.u8 (by omega) (by omega) ?_ | with_reducible refine Val.u32 (by omega) (by omega) ?_ | with_reducible refine Val.u64 (by omega) (by omega) ?_ | with_reducible refine Val.u8m ?_ | with_reducible refine Val.u32m ?_ | with_reducible refine Val.u64m ?_ | with_reducible refine Val.shr8 ?_ | with_reducible refine Val.shr16 (by decide) ?_ | with_reducible refine Val.shr24 (by decide) ?_ | with_reducible refine Val.raw ?_ | refine Branch.not ?_ | refine Branch.and ?_ | refine Branch.or ?_ | refine Branch.dt (by assumption) ?_ | refine Branch.df (by assumption) ?_ | refine Branch.dt rfl ?_ | refine Branch.dt (by omega) ?_ | refine Branch.df (by omega) ?_ | refine Branch.t rfl ?_ | refine Branch.f rfl ?_ | refine Branch.t (by assumption) ?_ | refine Branch.f (by assumption) ?_ | refine Branch.d (fun _ => ?_) (fun _ => ?_) | refine Branch.mk (fun _ => ?_) (fun _ => ?_) | refine Need.mk (by first | omega | decide | rfl) ?_ | refine Idx.nat (by omega) ?_ | refine Idx.auto (by first | omega | decide) (by first | omega | decide) ?_ | refine Cell.ro rfl ?_ | refine SDraw.all (by kernel_rfl) ?_ | refine Kept.k0 ?_ | refine Kept.k1 ?_ | refine Kept.k2 ?_ | refine Kept.k3 ?_ | refine Kept.k4 ?_))
    | true =>
      rw [hlt] at hless
      have hstep := hu.step wlt_ord hj0 hj hx hy hlt
      have hnext := fun S (hS : S47 (qP p) (.int .i64 (((j - 1) / 2 : Nat) : Int)) S) => hR (Hp.sw q1 ((j - 1) / 2) j x y, (j - 1) / 2) S _ hij (Keep.all ⟨(Hp.sw_perm hy hx).trans hp, by rw [Hp.sw_len]; exact hstep, by rw [Hp.sw_len]; show (j - 1) / 2 < _; omega, hS, rfl⟩)
      clear hR hK
      repeat' ((conv => whnf); (first | with_reducible refine Val.to _ hv ?_ | refine Branch.df (by omega) ?_ | refine hless _ _ _ _ _ rfl ?_ | refine r_swap rfl hy hx ?_ | exact hnext _ .mk | refine New.mk (fun _ => ?_) | refine Look.at0 ?_ | refine Cell.row ?_ | refine Cell.buf ?_ | refine Cells.row rfl ?_ | refine Put.row rfl ?_ | refine Put.buf rfl ?_ | refine Look.at1 ?_ | refine Look.at2 ?_ | refine Look.at3 ?_ | refine Look.at4 ?_ | refine Look.at5 ?_ | refine Look.at6 ?_ | refine Look.at7 ?_ | refine Look.at8 ?_ | with_reducible refine Val.i64 (by omega) (by omega) ?_ | with_reducible refine Val.u8 (by omega) (by omega) ?_ | with_reducible refine Val.u32 (by omega) (by omega) ?_ | with_reducible refine Val.u64 (by omega) (by omega) ?_ | with_reducible refine Val.u8m ?_ | with_reducible refine Val.u32m ?_ | with_reducible refine Val.u64m ?_ | with_reducible refine Val.shr8 ?_ | with_reducible refine Val.shr16 (by decide) ?_ | with_reducible refine Val.shr24 (by decide) ?_ | with_reducible refine Val.raw ?_ | refine Branch.not ?_ | refine Branch.and ?_ | refine Branch.or ?_ | refine Branch.dt (by assumption) ?_ | refine Branch.df (by assumption) ?_ | refine Branch.dt rfl ?_ | refine Branch.dt (by omega) ?_ | refine Branch.df (by omega) ?_ | refine Branch.t rfl ?_ | refine Branch.f rfl ?_ | refine Branch.t (by assumption) ?_ | refine Branch.f (by assumption) ?_ | refine Branch.d (fun _ => ?_) (fun _ => ?_) | refine Branch.mk (fun _ => ?_) (fun _ => ?_) | refine Need.mk (by first | omega | decide | rfl) ?_ | refine Idx.nat (by omega) ?_ | refine Idx.auto (by first | omega | decide) (by first | omega | decide) ?_ | refine Cell.ro rfl ?_ | refine SDraw.all (by kernel_rfl) ?_ | refine Kept.k0 ?_ | refine Kept.k1 ?_ | refine Kept.k2 ?_ | refine Kept.k3 ?_ | refine Kept.k4 ?_))
def I41 (p b N c : Nat) (lv un : Value) (q0 st : List Wn) (i0 n : Nat) (H : Heap) (s : List Wn × Nat) (S : List Value) (H' : Heap) : Prop :=
  s.1.Perm q0 ∧ (∀ k, n ≤ k → s.1[k]? = q0[k]?) ∧ Hp.BothI wlt s.1 s.2 n ∧ (s.2 ≠ i0 → Hp.DownI wlt s.1 s.2 n) ∧ i0 ≤ s.2 ∧ (s.2 = i0 → s.1 = q0) ∧ (s.2 < n ∨ s.2 = i0) ∧ S41 (qP p) (.int .i64 (i0 : Int)) (.int .i64 (n : Int)) (.int .i64 (s.2 : Int)) S ∧ H' = pq p b N c lv un s.1 st H
theorem c41 {b N c : Nat} {q st : List Wn} {i0 n : Nat} (hml : q.length ≤ 4503599627370496) (hn : n ≤ q.length) (hb : Hp.BothI wlt q i0 n) (hi0 : i0 ≤ n)
    (hK : ∀ (mv : Bool) q', q'.Perm q → (∀ k, n ≤ k → q'[k]? = q[k]?) → (mv = true → Hp.HeapN wlt q' n) → (mv = false → q' = q ∧ Hp.UpI wlt q i0 n) → K (.bool mv) (pq p b N c lv un q' st H)) : SCalls Tryd.prog 41 [qP p, .int .i64 (i0 : Int), .int .i64 (n : Int)] (pq p b N c lv un q st H) K := by
  refine enter41 ?_
  repeat' ((conv => whnf); (first | refine New.mk (fun _ => ?_) | refine Look.at0 ?_ | refine Cell.row ?_ | refine Cell.buf ?_ | refine Cells.row rfl ?_ | refine Put.row rfl ?_ | refine Put.buf rfl ?_ | refine Look.at1 ?_ | refine Look.at2 ?_ | refine Look.at3 ?_ | refine Look.at4 ?_ | refine Look.at5 ?_ | refine Look.at6 ?_ | refine Look.at7 ?_ | refine Look.at8 ?_ | with_reducible refine Val.i64 (by omega) (by omega) ?_ | with_reducible refine Val.u8 (by omega) (by omega) ?_ | with_reducible refine Val.u32 (by omega) (by omega) ?_ | with_reducible refine Val.u64 (by omega) (by omega) ?_ | with_reducible refine Val.u8m ?_ | with_reducible refine Val.u32m ?_ | with_reducible refine Val.u64m ?_ | with_reducible refine Val.shr8 ?_ | with_reducible refine Val.shr16 (by decide) ?_ | with_reducible refine Val.shr24 (by decide) ?_ | with_reducible refine Val.raw ?_ | refine Branch.not ?_ | refine Branch.and ?_ | refine Branch.or ?_ | refine Branch.dt (by assumption) ?_ | refine Branch.df (by assumption) ?_ | refine Branch.dt rfl ?_ | refine Branch.dt (by omega) ?_ | refine Branch.df (by omega) ?_ | refine Branch.t rfl ?_ | refine Branch.f rfl ?_ | refine Branch.t (by assumption) ?_ | refine Branch.f (by assumption) ?_ | refine Branch.d (fun _ => ?_) (fun _ => ?_) | refine Branch.mk (fun _ => ?_) (fun _ => ?_) | refine Need.mk (by first | omega | decide | rfl) ?_ | refine Idx.nat (by omega) ?_ | refine Idx.auto (by first | omega | decide) (by first | omega | decide) ?_ | refine Cell.ro rfl ?_ | refine SDraw.all (by kernel_rfl) ?_ | refine Kept.k0 ?_ | refine Kept.k1 ?_ | refine Kept.k2 ?_ | refine Kept.k3 ?_ | refine Kept.k4 ?_))
  refine SLoop.invA (I41 p b N c lv un q st i0 n H) (fun s => n - s.2) (q, i0) (Keep.all ⟨.refl _, fun _ _ => rfl, hb, fun h => absurd rfl h, Nat.le_refl _, fun _ => rfl, .inr rfl, .mk, rfl⟩) ?_
  rintro ⟨q1, i⟩ S H' ⟨hp, htl, hbo, hdn, hge, hsame, hlt', hS, rfl⟩ R hR
  dsimp only at hp htl hbo hdn hge hsame hlt' hS hR ⊢
  cases hS
  have hl := hp.length_eq
  have hm2 : q1.length ≤ 4503599627370496 := by omega
  have hml1 : q1.length ≤ maxLen := by simp only [maxLen]; omega
  have hfin : (∀ k x y, 0 < k → k < n → (k - 1) / 2 = i → q1[k]? = some x → q1[i]? = some y → wlt x y = false) → K (.bool (decide ((i0 : Int) < i))) (pq p b N c lv un q1 st H) := fun hd => by
    by_cases he : i = i0
    · have hq := hsame he
      subst he
      rw [show decide ((i : Int) < i) = false by simp]
      exact hK false q1 hp htl (fun h => by cases h) (fun _ => ⟨hq, by rw [← hq]; exact hbo.stay hd⟩)
    · rw [show decide ((i0 : Int) < i) = true by simp; omega]
      exact hK true q1 hp htl (fun _ => (hdn he).done hd) (fun h => by cases h)
  clear hK
  by_cases h1 : n ≤ 2 * i + 1
  · have hk := hfin (fun k x y k0 k1 k2 _ _ => by omega)
    clear hR hfin
    repeat' ((conv => whnf); (first | refine Branch.dt (by omega) ?_ | exact Keep.all hk | refine New.mk (fun _ => ?_) | refine Look.at0 ?_ | refine Cell.row ?_ | refine Cell.buf ?_ | refine Cells.row rfl ?_ | refine Put.row rfl ?_ | refine Put.buf rfl ?_ | refine Look.at1 ?_ | refine Look.at2 ?_ | refine Look.at3 ?_ | refine Look.at4 ?_ | refine Look.at5 ?_ | refine Look.at6 ?_ | refine Look.at7 ?_ | refine Look.at8 ?_ | with_reducible refine Val.i64 (by omega) (by omega) ?_ | with_reducible refine Val.u8 (by omega) (by omega) ?_ | with_reducible refine Val.u32 (by omega) (by omega) ?_ | with_reducible refine Val.u64 (by omega) (by omega) ?_ | with_reducible refine Val.u8m ?_ | with_reducible refine Val.u32m ?_ | with_reducible refine Val.u64m ?_ | with_reducible refine Val.shr8 ?_ | with_reducible refine Val.shr16 (by decide) ?_ | with_reducible refine Val.shr24 (by decide) ?_ | with_reducible refine Val.raw ?_ | refine Branch.not ?_ | refine Branch.and ?_ | refine Branch.or ?_ | refine Branch.dt (by assumption) ?_ | refine Branch.df (by assumption) ?_ | refine Branch.dt rfl ?_ | refine Branch.dt (by omega) ?_ | refine Branch.df (by omega) ?_ | refine Branch.t rfl ?_ | refine Branch.f rfl ?_ | refine Branch.t (by assumption) ?_ | refine Branch.f (by assumption) ?_ | refine Branch.d (fun _ => ?_) (fun _ => ?_) | refine Branch.mk (fun _ => ?_) (fun _ => ?_) | refine Need.mk (by first | omega | decide | rfl) ?_ | refine Idx.nat (by omega) ?_ | refine Idx.auto (by first | omega | decide) (by first | omega | decide) ?_ | refine Cell.ro rfl ?_ | refine SDraw.all (by kernel_rfl) ?_ | refine Kept.k0 ?_ | refine Kept.k1 ?_ | refine Kept.k2 ?_ | refine Kept.k3 ?_ | refine Kept.k4 ?_))
  · have hin : i < n := by omega
    have hx := List.getElem?_eq_getElem (show i < q1.length by omega)
    generalize q1[i] = y at hx
    have hx1 := List.getElem?_eq_getElem (show 2 * i + 1 < q1.length by omega)
    generalize q1[2 * i + 1] = x1 at hx1
    have go : ∀ (j : Nat) (x : Wn), q1[j]? = some x → (j - 1) / 2 = i → 0 < j → j < n → (∀ k a, 0 < k → k < n → (k - 1) / 2 = i → q1[k]? = some a → wlt a x = false) →
        (wlt x y = false → K (.bool (decide ((i0 : Int) < i))) (pq p b N c lv un q1 st H)) ∧ (wlt x y = true → ∀ S, S41 (qP p) (.int .i64 (i0 : Int)) (.int .i64 (n : Int)) (.int .i64 (j : Int)) S → R S (pq p b N c lv un (Hp.sw q1 i j x y) st H)) := by
      intro j x hj hji hj0 hjn hmin
      have hij : i < j := by omega
      refine ⟨fun hlt => hfin fun k a z k0 k1 k2 ha hz => ?_, fun hlt S hS => hR (Hp.sw q1 i j x y, j) S _ (by show n - j < n - i; omega) (Keep.all ⟨(Hp.sw_perm hx hj).trans hp, fun k hk => ?_, ?_, fun _ => ?_, by show i0 ≤ j; omega, fun h => absurd h (by show ¬ j = i0; omega), .inl hjn, hS, rfl⟩)⟩
      · rw [hx] at hz
        injection hz with hz
        subst hz
        exact wlt_ord.nt _ _ _ hlt (hmin k a k0 k1 k2 ha)
      · show (Hp.sw q1 i j x y)[k]? = _
        rw [Hp.sw_at (Hp.at_lt hx) (Hp.at_lt hj), if_neg (by omega), if_neg (by omega)]
        exact htl k hk
      · exact (hbo.step wlt_ord hji hj0 hjn hj hx hlt hmin).both
      · exact hbo.step wlt_ord hji hj0 hjn hj hx hlt hmin
    have irr : ∀ a : Wn, wlt a a = false := wlt_irr
    have hless := fun (i j : Nat) (x y : Wn) (hi : q1[i]? = some x) (hj : q1[j]? = some y) (b' : Bool) (hb' : wlt x y = b') (K2 : Value → Heap → Prop) (o : Oper) (xr : Operand) (ar : Array Operand) (ts : Array TypeId) ho (hk : K2 (.bool b') (pq p b N c lv un q1 st H)) => r_less (K := K2) (o := o) (xr := xr) (ar := ar) (ts := ts) (p := p) (lv := lv) (un := un) (H := H) (b := b) (N := N) (c := c) (st := st) ho hml1 hi hj (by rw [hb']; exact hk)
    have e1 : (2 : Int) * (i : Int) + 1 = ((2 * i + 1 : Nat) : Int) := by omega
    have e2 : (((2 * i + 1 : Nat) : Int)) + 1 = ((2 * i + 2 : Nat) : Int) := by omega
    clear hR hfin
    by_cases h2 : 2 * i + 2 < n
    · have hx2 := List.getElem?_eq_getElem (show 2 * i + 2 < q1.length by omega)
      generalize q1[2 * i + 2] = x2 at hx2
      cases hc12 : wlt x2 x1 with
      | true =>
        obtain ⟨g1, g2⟩ := go (2 * i + 2) x2 hx2 (by omega) (by omega) h2 (fun k a k0 k1 k2 ha => by
          rcases (by omega : k = 2 * i + 1 ∨ k = 2 * i + 2) with rfl | rfl
          · rw [hx1] at ha
            injection ha with ha
            subst ha
            exact wlt_ord.asym _ _ hc12
          · rw [hx2] at ha
            injection ha with ha
            subst ha
            exact irr _)
        have hl1 := hless _ _ _ _ hx2 hx1 _ hc12
        cases hc : wlt x2 y with
        | false =>
          have hk := g1 hc
          have hl2 := hless _ _ _ _ hx2 hx _ hc
          repeat' ((conv => whnf); (first | with_reducible refine Val.to ((2 * i + 1 : Nat) : Int) (by rw [wrap_i64 (by omega) (by omega)]; omega) ?_ | with_reducible refine Val.to ((2 * i + 2 : Nat) : Int) (by rw [wrap_i64 (by omega) (by omega)]; omega) ?_ | refine Branch.df (by omega) ?_ | refine Branch.dt (by omega) ?_ | refine hl1 _ _ _ _ _ rfl ?_ | refine hl2 _ _ _ _ _ rfl ?_ | exact Keep.all hk | refine New.mk (fun _ => ?_) | refine Look.at0 ?_ | refine Cell.row ?_ | refine Cell.buf ?_ | refine Cells.row rfl ?_ | refine Put.row rfl ?_ | refine Put.buf rfl ?_ | refine Look.at1 ?_ | refine Look.at2 ?_ | refine Look.at3 ?_ | refine Look.at4 ?_ | refine Look.at5 ?_ | refine Look.at6 ?_ | refine Look.at7 ?_ | refine Look.at8 ?_ | with_reducible refine Val.i64 (by omega) (by omega) ?_ | with_reducible refine Val.u8 (by omega) (by omega) ?_ | with_reducible refine Val.u32 (by omega) (by omega) ?_ | with_reducible refine Val.u64 (by omega) (by omega) ?_ | with_reducible refine Val.u8m ?_ | with_reducible refine Val.u32m ?_ | with_reducible refine Val.u64m ?_ | with_reducible refine Val.shr8 ?_ | with_reducible refine Val.shr16 (by decide) ?_ | with_reducible refine Val.shr24 (by decide) ?_ | with_reducible refine Val.raw ?_ | refine Branch.not ?_ | refine Branch.and ?_ | refine Branch.or ?_ | refine Branch.dt (by assumption) ?_ | refine Branch.df (by assumption) ?_ | refine Branch.dt rfl ?_ | refine Branch.dt (by omega) ?_ | refine Branch.df (by omega) ?_ | refine Branch.t rfl ?_ | refine Branch.f rfl ?_ | refine Branch.t (by assumption) ?_ | refine Branch.f (by assumption) ?_ | refine Branch.d (fun _ => ?_) (fun _ => ?_) | refine Branch.mk (fun _ => ?_) (fun _ => ?_) | refine Need.mk (by first | omega | decide | rfl) ?_ | refine Idx.nat (by omega) ?_ | refine Idx.auto (by first | omega | decide) (by first | omega | decide) ?_ | refine Cell.ro rfl ?_ | refine SDraw.all (by kernel_rfl) ?_ | refine Kept.k0 ?_ | refine Kept.k1 ?_ | refine Kept.k2 ?_ | refine Kept.k3 ?_ | refine Kept.k4 ?_))
        | true =>
          have hk := g2 hc
          have hl2 := hless _ _ _ _ hx2 hx _ hc
          repeat' ((conv => whnf); (first | with_reducible refine Val.to ((2 * i + 1 : Nat) : Int) (by rw [wrap_i64 (by omega) (by omega)]; omega) ?_ | with_reducible refine Val.to ((2 * i + 2 : Nat) : Int) (by rw [wrap_i64 (by omega) (by omega)]; omega) ?_ | refine Branch.df (by omega) ?_ | refine Branch.dt (by omega) ?_ | refine hl1 _ _ _ _ _ rfl ?_ | refine hl2 _ _ _ _ _ rfl ?_ | refine r_swap rfl hx hx2 ?_ | exact hk _ .mk | refine New.mk (fun _ => ?_) | refine Look.at0 ?_ | refine Cell.row ?_ | refine Cell.buf ?_ | refine Cells.row rfl ?_ | refine Put.row rfl ?_ | refine Put.buf rfl ?_ | refine Look.at1 ?_ | refine Look.at2 ?_ | refine Look.at3 ?_ | refine Look.at4 ?_ | refine Look.at5 ?_ | refine Look.at6 ?_ | refine Look.at7 ?_ | refine Look.at8 ?_ | with_reducible refine Val.i64 (by omega) (by omega) ?_ | with_reducible refine Val.u8 (by omega) (by omega) ?_ | with_reducible refine Val.u32 (by omega) (by omega) ?_ | with_reducible refine Val.u64 (by omega) (by omega) ?_ | with_reducible refine Val.u8m ?_ | with_reducible refine Val.u32m ?_ | with_reducible refine Val.u64m ?_ | with_reducible refine Val.shr8 ?_ | with_reducible refine Val.shr16 (by decide) ?_ | with_reducible refine Val.shr24 (by decide) ?_ | with_reducible refine Val.raw ?_ | refine Branch.not ?_ | refine Branch.and ?_ | refine Branch.or ?_ | refine Branch.dt (by assumption) ?_ | refine Branch.df (by assumption) ?_ | refine Branch.dt rfl ?_ | refine Branch.dt (by omega) ?_ | refine Branch.df (by omega) ?_ | refine Branch.t rfl ?_ | refine Branch.f rfl ?_ | refine Branch.t (by assumption) ?_ | refine Branch.f (by assumption) ?_ | refine Branch.d (fun _ => ?_) (fun _ => ?_) | refine Branch.mk (fun _ => ?_) (fun _ => ?_) | refine Need.mk (by first | omega | decide | rfl) ?_ | refine Idx.nat (by omega) ?_ | refine Idx.auto (by first | omega | decide) (by first | omega | decide) ?_ | refine Cell.ro rfl ?_ | refine SDraw.all (by kernel_rfl) ?_ | refine Kept.k0 ?_ | refine Kept.k1 ?_ | refine Kept.k2 ?_ | refine Kept.k3 ?_ | refine Kept.k4 ?_))
      | false =>
        obtain ⟨g1, g2⟩ := go (2 * i + 1) x1 hx1 (by omega) (by omega) (by omega) (fun k a k0 k1 k2 ha => by
          rcases (by omega : k = 2 * i + 1 ∨ k = 2 * i + 2) with rfl | rfl
          · rw [hx1] at ha
            injection ha with ha
            subst ha
            exact irr _
          · rw [hx2] at ha
            injection ha with ha
            subst ha
            exact hc12)
        have hl1 := hless _ _ _ _ hx2 hx1 _ hc12
        cases hc : wlt x1 y with
        | false =>
          have hk := g1 hc
          have hl2 := hless _ _ _ _ hx1 hx _ hc
          repeat' ((conv => whnf); (first | with_reducible refine Val.to ((2 * i + 1 : Nat) : Int) (by rw [wrap_i64 (by omega) (by omega)]; omega) ?_ | with_reducible refine Val.to ((2 * i + 2 : Nat) : Int) (by rw [wrap_i64 (by omega) (by omega)]; omega) ?_ | refine Branch.df (by omega) ?_ | refine Branch.dt (by omega) ?_ | refine hl1 _ _ _ _ _ rfl ?_ | refine hl2 _ _ _ _ _ rfl ?_ | exact Keep.all hk | refine New.mk (fun _ => ?_) | refine Look.at0 ?_ | refine Cell.row ?_ | refine Cell.buf ?_ | refine Cells.row rfl ?_ | refine Put.row rfl ?_ | refine Put.buf rfl ?_ | refine Look.at1 ?_ | refine Look.at2 ?_ | refine Look.at3 ?_ | refine Look.at4 ?_ | refine Look.at5 ?_ | refine Look.at6 ?_ | refine Look.at7 ?_ | refine Look.at8 ?_ | with_reducible refine Val.i64 (by omega) (by omega) ?_ | with_reducible refine Val.u8 (by omega) (by omega) ?_ | with_reducible refine Val.u32 (by omega) (by omega) ?_ | with_reducible refine Val.u64 (by omega) (by omega) ?_ | with_reducible refine Val.u8m ?_ | with_reducible refine Val.u32m ?_ | with_reducible refine Val.u64m ?_ | with_reducible refine Val.shr8 ?_ | with_reducible refine Val.shr16 (by decide) ?_ | with_reducible refine Val.shr24 (by decide) ?_ | with_reducible refine Val.raw ?_ | refine Branch.not ?_ | refine Branch.and ?_ | refine Branch.or ?_ | refine Branch.dt (by assumption) ?_ | refine Branch.df (by assumption) ?_ | refine Branch.dt rfl ?_ | refine Branch.dt (by omega) ?_ | refine Branch.df (by omega) ?_ | refine Branch.t rfl ?_ | refine Branch.f rfl ?_ | refine Branch.t (by assumption) ?_ | refine Branch.f (by assumption) ?_ | refine Branch.d (fun _ => ?_) (fun _ => ?_) | refine Branch.mk (fun _ => ?_) (fun _ => ?_) | refine Need.mk (by first | omega | decide | rfl) ?_ | refine Idx.nat (by omega) ?_ | refine Idx.auto (by first | omega | decide) (by first | omega | decide) ?_ | refine Cell.ro rfl ?_ | refine SDraw.all (by kernel_rfl) ?_ | refine Kept.k0 ?_ | refine Kept.k1 ?_ | refine Kept.k2 ?_ | refine Kept.k3 ?_ | refine Kept.k4 ?_))
        | true =>
          have hk := g2 hc
          have hl2 := hless _ _ _ _ hx1 hx _ hc
          repeat' ((conv => whnf); (first | with_reducible refine Val.to ((2 * i + 1 : Nat) : Int) (by rw [wrap_i64 (by omega) (by omega)]; omega) ?_ | with_reducible refine Val.to ((2 * i + 2 : Nat) : Int) (by rw [wrap_i64 (by omega) (by omega)]; omega) ?_ | refine Branch.df (by omega) ?_ | refine Branch.dt (by omega) ?_ | refine hl1 _ _ _ _ _ rfl ?_ | refine hl2 _ _ _ _ _ rfl ?_ | refine r_swap rfl hx hx1 ?_ | exact hk _ .mk | refine New.mk (fun _ => ?_) | refine Look.at0 ?_ | refine Cell.row ?_ | refine Cell.buf ?_ | refine Cells.row rfl ?_ | refine Put.row rfl ?_ | refine Put.buf rfl ?_ | refine Look.at1 ?_ | refine Look.at2 ?_ | refine Look.at3 ?_ | refine Look.at4 ?_ | refine Look.at5 ?_ | refine Look.at6 ?_ | refine Look.at7 ?_ | refine Look.at8 ?_ | with_reducible refine Val.i64 (by omega) (by omega) ?_ | with_reducible refine Val.u8 (by omega) (by omega) ?_ | with_reducible refine Val.u32 (by omega) (by omega) ?_ | with_reducible refine Val.u64 (by omega) (by omega) ?_ | with_reducible refine Val.u8m ?_ | with_reducible refine Val.u32m ?_ | with_reducible refine Val.u64m ?_ | with_reducible refine Val.shr8 ?_ | with_reducible refine Val.shr16 (by decide) ?_ | with_reducible refine Val.shr24 (by decide) ?_ | with_reducible refine Val.raw ?_ | refine Branch.not ?_ | refine Branch.and ?_ | refine Branch.or ?_ | refine Branch.dt (by assumption) ?_ | refine Branch.df (by assumption) ?_ | refine Branch.dt rfl ?_ | refine Branch.dt (by omega) ?_ | refine Branch.df (by omega) ?_ | refine Branch.t rfl ?_ | refine Branch.f rfl ?_ | refine Branch.t (by assumption) ?_ | refine Branch.f (by assumption) ?_ | refine Branch.d (fun _ => ?_) (fun _ => ?_) | refine Branch.mk (fun _ => ?_) (fun _ => ?_) | refine Need.mk (by first | omega | decide | rfl) ?_ | refine Idx.nat (by omega) ?_ | refine Idx.auto (by first | omega | decide) (by first | omega | decide) ?_ | refine Cell.ro rfl ?_ | refine SDraw.all (by kernel_rfl) ?_ | refine Kept.k0 ?_ | refine Kept.k1 ?_ | refine Kept.k2 ?_ | refine Kept.k3 ?_ | refine Kept.k4 ?_))
    · obtain ⟨g1, g2⟩ := go (2 * i + 1) x1 hx1 (by omega) (by omega) (by omega) (fun k a k0 k1 k2 ha => by
        obtain rfl : k = 2 * i + 1 := by omega
        rw [hx1] at ha
        injection ha with ha
        subst ha
        exact irr _)
      cases hc : wlt x1 y with
      | false =>
        have hk := g1 hc
        have hl2 := hless _ _ _ _ hx1 hx _ hc
        repeat' ((conv => whnf); (first | with_reducible refine Val.to ((2 * i + 1 : Nat) : Int) (by rw [wrap_i64 (by omega) (by omega)]; omega) ?_ | with_reducible refine Val.to ((2 * i + 2 : Nat) : Int) (by rw [wrap_i64 (by omega) (by omega)]; omega) ?_ | refine Branch.df (by omega) ?_ | refine Branch.dt (by omega) ?_ | refine hl2 _ _ _ _ _ rfl ?_ | exact Keep.all hk | refine New.mk (fun _ => ?_) | refine Look.at0 ?_ | refine Cell.row ?_ | refine Cell.buf ?_ | refine Cells.row rfl ?_ | refine Put.row rfl ?_ | refine Put.buf rfl ?_ | refine Look.at1 ?_ | refine Look.at2 ?_ | refine Look.at3 ?_ | refine Look.at4 ?_ | refine Look.at5 ?_ | refine Look.at6 ?_ | refine Look.at7 ?_ | refine Look.at8 ?_ | with_reducible refine Val.i64 (by omega) (by omega) ?_ | with_reducible refine Val.u8 (by omega) (by omega) ?_ | with_reducible refine Val.u32 (by omega) (by omega) ?_ | with_reducible refine Val.u64 (by omega) (by omega) ?_ | with_reducible refine Val.u8m ?_ | with_reducible refine Val.u32m ?_ | with_reducible refine Val.u64m ?_ | with_reducible refine Val.shr8 ?_ | with_reducible refine Val.shr16 (by decide) ?_ | with_reducible refine Val.shr24 (by decide) ?_ | with_reducible refine Val.raw ?_ | refine Branch.not ?_ | refine Branch.and ?_ | refine Branch.or ?_ | refine Branch.dt (by assumption) ?_ | refine Branch.df (by assumption) ?_ | refine Branch.dt rfl ?_ | refine Branch.dt (by omega) ?_ | refine Branch.df (by omega) ?_ | refine Branch.t rfl ?_ | refine Branch.f rfl ?_ | refine Branch.t (by assumption) ?_ | refine Branch.f (by assumption) ?_ | refine Branch.d (fun _ => ?_) (fun _ => ?_) | refine Branch.mk (fun _ => ?_) (fun _ => ?_) | refine Need.mk (by first | omega | decide | rfl) ?_ | refine Idx.nat (by omega) ?_ | refine Idx.auto (by first | omega | decide) (by first | omega | decide) ?_ | refine Cell.ro rfl ?_ | refine SDraw.all (by kernel_rfl) ?_ | refine Kept.k0 ?_ | refine Kept.k1 ?_ | refine Kept.k2 ?_ | refine Kept.k3 ?_ | refine Kept.k4 ?_))
      | true =>
        have hk := g2 hc
        have hl2 := hless _ _ _ _ hx1 hx _ hc
        repeat' ((conv => whnf); (first | with_reducible refine Val.to ((2 * i + 1 : Nat) : Int) (by rw [wrap_i64 (by omega) (by omega)]; omega) ?_ | with_reducible refine Val.to ((2 * i + 2 : Nat) : Int) (by rw [wrap_i64 (by omega) (by omega)]; omega) ?_ | refine Branch.df (by omega) ?_ | refine Branch.dt (by omega) ?_ | refine hl2 _ _ _ _ _ rfl ?_ | refine r_swap rfl hx hx1 ?_ | exact hk _ .mk | refine New.mk (fun _ => ?_) | refine Look.at0 ?_ | refine Cell.row ?_ | refine Cell.buf ?_ | refine Cells.row rfl ?_ | refine Put.row rfl ?_ | refine Put.buf rfl ?_ | refine Look.at1 ?_ | refine Look.at2 ?_ | refine Look.at3 ?_ | refine Look.at4 ?_ | refine Look.at5 ?_ | refine Look.at6 ?_ | refine Look.at7 ?_ | refine Look.at8 ?_ | with_reducible refine Val.i64 (by omega) (by omega) ?_ | with_reducible refine Val.u8 (by omega) (by omega) ?_ | with_reducible refine Val.u32 (by omega) (by omega) ?_ | with_reducible refine Val.u64 (by omega) (by omega) ?_ | with_reducible refine Val.u8m ?_ | with_reducible refine Val.u32m ?_ | with_reducible refine Val.u64m ?_ | with_reducible refine Val.shr8 ?_ | with_reducible refine Val.shr16 (by decide) ?_ | with_reducible refine Val.shr24 (by decide) ?_ | with_reducible refine Val.raw ?_ | refine Branch.not ?_ | refine Branch.and ?_ | refine Branch.or ?_ | refine Branch.dt (by assumption) ?_ | refine Branch.df (by assumption) ?_ | refine Branch.dt rfl ?_ | refine Branch.dt (by omega) ?_ | refine Branch.df (by omega) ?_ | refine Branch.t rfl ?_ | refine Branch.f rfl ?_ | refine Branch.t (by assumption) ?_ | refine Branch.f (by assumption) ?_ | refine Branch.d (fun _ => ?_) (fun _ => ?_) | refine Branch.mk (fun _ => ?_) (fun _ => ?_) | refine Need.mk (by first | omega | decide | rfl) ?_ | refine Idx.nat (by omega) ?_ | refine Idx.auto (by first | omega | decide) (by first | omega | decide) ?_ | refine Cell.ro rfl ?_ | refine SDraw.all (by kernel_rfl) ?_ | refine Kept.k0 ?_ | refine Kept.k1 ?_ | refine Kept.k2 ?_ | refine Kept.k3 ?_ | refine Kept.k4 ?_))
end
end Go.Proofs.YtjleekdidedhaaaDoor

