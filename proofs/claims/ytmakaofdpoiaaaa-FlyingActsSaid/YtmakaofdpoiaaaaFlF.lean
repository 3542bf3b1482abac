/- Layer 24: a net of its masters: by walks. -/
import Derived.Test.YtmakaofdpoiaaaaFlE
import Derived.Test.YtmakaofdpoiaaaaSxO
set_option linter.unusedVariables false
set_option linter.unusedSimpArgs false
set_option maxRecDepth 100000
set_option maxHeartbeats 4000000
namespace Go.Proofs.Ytmakaofdpoiaaaa
open Sx
structure Mas where
  (node prio : Int)
  (on : Bool)
def Mas.cells (m : Mas) : List Value := [.int .i64 m.node, .int .i64 m.prio, .bool m.on]
theorem Mas.len (m : Mas) : m.cells.length = 3 := rfl
/-- Masters that come in. -/
def InL (sv : Value) (H : Heap) (L : List Mas) : Prop :=
  ∃ (a : Option Addr) (c : Nat), sv = .slice a L.length c ∧ L.length * 24 ≤ 140737488355328 ∧
    (0 < L.length → ∃ b o f, a = some ⟨b, o, none⟩ ∧ H = [(b, .ro f)] ∧ ∀ (j : Nat) m, L[j]? = some m → ∀ i v, m.cells[i]? = some v → f (o + j * 3 + i) = some v)
section
variable {K : Value → Heap → Prop}
theorem c9 {sv : Value} {H : Heap} {L : List Mas} (hin : InL sv H L) (h : ∀ q c, L.length ≤ c → c ≤ maxLen → K (.slice (some ⟨q, 0, none⟩) L.length c) ((q, .buf 30 (L.flatMap Mas.cells) (c * 3)) :: H)) : SCalls Try.prog 9 [sv] H K := by
  obtain ⟨a, c, rfl, hb, hs⟩ := hin
  refine enter9 ?_
  rcases L with _ | ⟨m, L⟩
  · repeat' ((conv => whnf); (first
        | refine RawV.toBuf (A := []) (RawV.appE (bytes := 24) (size := 3) (e := 30) rfl (by kernel_rfl) (Nat.le_refl 0) ?_)
        | refine New.mk (fun _ => ?_)
        | refine Look.at0 ?_
        | refine Cell.row ?_
        | refine Cell.buf ?_
        | refine Cells.row rfl ?_
        | refine Put.row rfl ?_
        | refine Put.buf rfl ?_
        | refine Look.at1 ?_
        | refine Look.at2 ?_
        | refine Look.at3 ?_
        | refine Look.at4 ?_
        | refine Look.at5 ?_
        | refine Look.at6 ?_
        | refine Look.at7 ?_
        | refine Look.at8 ?_
        | with_reducible refine Val.i64 (by omega) (by omega) ?_
        | with_reducible refine Val.u8 (by omega) (by omega) ?_
        | with_reducible refine Val.u32 (by omega) (by omega) ?_
        | with_reducible refine Val.u64 (by omega) (by omega) ?_
        | with_reducible refine Val.u8m ?_
        | with_reducible refine Val.u32m ?_
        | with_reducible refine Val.u64m ?_
        | with_reducible refine Val.shr8 ?_
        | with_reducible refine Val.shr16 (by decide) ?_
        | with_reducible refine Val.shr24 (by decide) ?_
        | with_reducible refine Val.raw ?_
        | refine Branch.not ?_
        | refine Branch.and ?_
        | refine Branch.or ?_
        | refine Branch.dt (by assumption) ?_
        | refine Branch.df (by assumption) ?_
        | refine Branch.dt rfl ?_
        | refine Branch.dt (by omega) ?_
        | refine Branch.df (by omega) ?_
        | refine Branch.t rfl ?_
        | refine Branch.f rfl ?_
        | refine Branch.t (by assumption) ?_
        | refine Branch.f (by assumption) ?_
        | refine Branch.d (fun _ => ?_) (fun _ => ?_)
        | refine Branch.mk (fun _ => ?_) (fun _ => ?_)
        | refine Need.mk (by first | omega | decide | rfl) ?_
        | refine Idx.nat (by omega) ?_
        | refine Idx.auto (by first | omega | decide) (by first | omega | decide) ?_
        | refine Cell.ro rfl ?_
        | refine SDraw.all (by kernel_rfl) ?_
        | refine Kept.k0 ?_
        | refine Kept.k1 ?_
        | refine Kept.k2 ?_
        | refine Kept.k3 ?_
        | refine Kept.k4 ?_))
    all_goals (conv => whnf)
    exact Keep.all (h _ 0 (Nat.le_refl 0) (Nat.zero_le _))
  · obtain ⟨b, o, f, rfl, rfl, hc⟩ := hs (by simp)
    generalize hL : m :: L = L' at *
    have hn : ∀ j v, (L'.flatMap Mas.cells)[j]? = some v → (Blk.ro f).cell (o + j) = some v := by
      intro j v hj
      obtain ⟨j', i, x, rfl, hi, hx, hv⟩ := flat_inv Mas.len hj
      have := hc j' x hx i v hv
      show f _ = some v
      rw [← Nat.add_assoc]; exact this
    have h1 : ∀ u ∈ L'.flatMap Mas.cells, u.oneCell' = true := by
      intro u hu
      obtain ⟨x, _, hx⟩ := List.mem_flatMap.1 hu
      simp only [Mas.cells, List.mem_cons, List.not_mem_nil, or_false] at hx
      rcases hx with rfl | rfl | rfl <;> rfl
    repeat' ((conv => whnf); (first
        | refine RawV.toBuf (A := []) (RawV.appT (A := []) (B := [_]) (n := 0) (cap := 0) (m := L'.length) (cs := []) (news := L'.flatMap Mas.cells) (r2 := b) (o2 := o) (b2 := .ro f) (size := 3) (bytes := 24) (e := 30) rfl (by kernel_rfl) (by decide) rfl rfl (Nat.le_refl 0) (Nat.zero_le _) (.tail _ (.head _)) (flat_len Mas.len _) hn h1 (by unfold maxLen; omega) (by omega) (fun r' cap' g1 g2 => ?_))
        | refine New.mk (fun _ => ?_)
        | refine Look.at0 ?_
        | refine Cell.row ?_
        | refine Cell.buf ?_
        | refine Cells.row rfl ?_
        | refine Put.row rfl ?_
        | refine Put.buf rfl ?_
        | refine Look.at1 ?_
        | refine Look.at2 ?_
        | refine Look.at3 ?_
        | refine Look.at4 ?_
        | refine Look.at5 ?_
        | refine Look.at6 ?_
        | refine Look.at7 ?_
        | refine Look.at8 ?_
        | with_reducible refine Val.i64 (by omega) (by omega) ?_
        | with_reducible refine Val.u8 (by omega) (by omega) ?_
        | with_reducible refine Val.u32 (by omega) (by omega) ?_
        | with_reducible refine Val.u64 (by omega) (by omega) ?_
        | with_reducible refine Val.u8m ?_
        | with_reducible refine Val.u32m ?_
        | with_reducible refine Val.u64m ?_
        | with_reducible refine Val.shr8 ?_
        | with_reducible refine Val.shr16 (by decide) ?_
        | with_reducible refine Val.shr24 (by decide) ?_
        | with_reducible refine Val.raw ?_
        | refine Branch.not ?_
        | refine Branch.and ?_
        | refine Branch.or ?_
        | refine Branch.dt (by assumption) ?_
        | refine Branch.df (by assumption) ?_
        | refine Branch.dt rfl ?_
        | refine Branch.dt (by omega) ?_
        | refine Branch.df (by omega) ?_
        | refine Branch.t rfl ?_
        | refine Branch.f rfl ?_
        | refine Branch.t (by assumption) ?_
        | refine Branch.f (by assumption) ?_
        | refine Branch.d (fun _ => ?_) (fun _ => ?_)
        | refine Branch.mk (fun _ => ?_) (fun _ => ?_)
        | refine Need.mk (by first | omega | decide | rfl) ?_
        | refine Idx.nat (by omega) ?_
        | refine Idx.auto (by first | omega | decide) (by first | omega | decide) ?_
        | refine Cell.ro rfl ?_
        | refine SDraw.all (by kernel_rfl) ?_
        | refine Kept.k0 ?_
        | refine Kept.k1 ?_
        | refine Kept.k2 ?_
        | refine Kept.k3 ?_
        | refine Kept.k4 ?_))
    all_goals (conv => whnf)
    rw [Nat.zero_add]
    exact Keep.all (h _ _ (by omega) g2)
/-- What New makes of one. -/
def mkM (slot : Int) (x : Mas) : M := if x.on then begM slot ⟨x.node, x.prio, true, 0, 0, 0, 0⟩ else ⟨x.node, x.prio, false, 0, 0, 0, 0⟩
def Bad (x : Mas) : Prop := x.node < 1 ∨ 127 < x.node ∨ x.prio < 0 ∨ 3 ≤ x.prio
instance (x : Mas) : Decidable (Bad x) := by unfold Bad; infer_instance
def newGo (slot : Int) : List Mas → List M → Except Int (List M)
  | [], acc => .ok acc
  | x :: r, acc => if Bad x then .error 1 else if acc.any (fun m => decide (m.node = x.node)) then .error 5 else newGo slot r (acc ++ [mkM slot x])
theorem newGo_bad {slot : Int} {x : Mas} {r : List Mas} {acc : List M} (h : Bad x) : newGo slot (x :: r) acc = .error 1 := by unfold newGo; exact if_pos h
theorem newGo_dup {slot : Int} {x : Mas} {r : List Mas} {acc : List M} (h : ¬ Bad x) (h2 : acc.any (fun m => decide (m.node = x.node)) = true) : newGo slot (x :: r) acc = .error 5 := by unfold newGo; rw [if_neg h]; exact if_pos h2
theorem newGo_ok {slot : Int} {x : Mas} {r : List Mas} {acc : List M} (h : ¬ Bad x) (h2 : acc.any (fun m => decide (m.node = x.node)) = false) : newGo slot (x :: r) acc = newGo slot r (acc ++ [mkM slot x]) := by
  conv => lhs; unfold newGo
  rw [if_neg h, h2]; rfl
def newF (slot lost : Int) (L : List Mas) : Except Int (List M) :=
  if 8 < L.length then .error 2 else match newGo slot L [] with
    | .error e => .error e
    | .ok ms => if slot < 1 ∨ 65536 < slot ∨ lost < 1 ∨ 4294967296 < lost then .error 1 else .ok ms
inductive S10 (A1 A2 A8 A19 A20 A21 : Value) : List Value → Prop
  | mk {r0 r3 r4 r5 r6 r7 r9 r10 r11 r12 r13 r14 r15 r16 r17 r18 r22 r23 r24 r25 r26 r27 r28 r29 r30 r31 r32 r33 r34 r35 r36 r37 r38 r39 r40 r41 r42 r43 r44 r45 r46 r47 r48 r49 r50 r51 r52 r53 r54 r55 r56 r57 r58 r59 r60 r61 r62 r63 r64 r65 r66 r67 r68 r69 r70 r71 r72 r73 r74 r75 r76 r77 r78 r79 r80 r81 : Value} : S10 A1 A2 A8 A19 A20 A21 [r0, A1, A2, r3, r4, r5, r6, r7, A8, r9, r10, r11, r12, r13, r14, r15, r16, r17, r18, A19, A20, A21, r22, r23, r24, r25, r26, r27, r28, r29, r30, r31, r32, r33, r34, r35, r36, r37, r38, r39, r40, r41, r42, r43, r44, r45, r46, r47, r48, r49, r50, r51, r52, r53, r54, r55, r56, r57, r58, r59, r60, r61, r62, r63, r64, r65, r66, r67, r68, r69, r70, r71, r72, r73, r74, r75, r76, r77, r78, r79, r80, r81]
def I10 (b o c : Nat) (blk : Blk) (slot lost : Int) (L : List Mas) (l : List Value) (H : Heap) : Prop :=
  ∃ (j : Nat) (ms : List PM) (g : Nat) (a : Option Addr) (cap : Nat) (Bh : Heap), j ≤ L.length ∧ newGo slot L [] = newGo slot (L.drop j) (ms.map Prod.snd) ∧ SlOk a cap Bh ms ∧ ms.length = j ∧ (∀ x ∈ ms, x.2.Ok) ∧
    S10 (.int .u64 slot) (.int .u64 lost) (.pointer (some ⟨g, 0, none⟩)) (.slice (some ⟨b, o, none⟩) L.length c) (.int .i64 (L.length : Int)) (.int .i64 (j : Int)) l ∧ H = (b, blk) :: netH g a cap Bh slot lost ms
noncomputable def M10 (n : Nat) (l : List Value) (_ : Heap) : Nat := n - (match getL l 21 with | .int _ i => i.toNat | _ => 0)
theorem c10 {b o c : Nat} {blk : Blk} {slot lost : Int} {L : List Mas} (hc : ∀ (j : Nat) m, L[j]? = some m → ∀ i v, m.cells[i]? = some v → blk.cell (o + j * 3 + i) = some v) (hsl : 0 ≤ slot ∧ slot ≤ 18446744073709551615)
    (hE : ∀ e, newF slot lost L = .error e → K (.tuple ⟨[.pointer none, .int .i64 e]⟩) [(b, blk)])
    (hN : ∀ ms g a cap Bh, newF slot lost L = .ok (ms.map Prod.snd) → SlOk a cap Bh ms → K (.tuple ⟨[.pointer (some ⟨g, 0, none⟩), .int .i64 0]⟩) ((b, blk) :: netH g a cap Bh slot lost ms)) :
    SCalls Try.prog 10 [.slice (some ⟨b, o, none⟩) L.length c, .int .u64 slot, .int .u64 lost] [(b, blk)] K := by
  unfold newF at hE hN
  refine enter10 ?_
  by_cases h8 : 8 < L.length
  · have hE := hE 2 (if_pos h8)
    repeat' ((conv => whnf); (first
        | refine Keep.all ?_
        | refine New.mk (fun _ => ?_)
        | refine Look.at0 ?_
        | refine Cell.row ?_
        | refine Cell.buf ?_
        | refine Cells.row rfl ?_
        | refine Put.row rfl ?_
        | refine Put.buf rfl ?_
        | refine Look.at1 ?_
        | refine Look.at2 ?_
        | refine Look.at3 ?_
        | refine Look.at4 ?_
        | refine Look.at5 ?_
        | refine Look.at6 ?_
        | refine Look.at7 ?_
        | refine Look.at8 ?_
        | with_reducible refine Val.i64 (by omega) (by omega) ?_
        | with_reducible refine Val.u8 (by omega) (by omega) ?_
        | with_reducible refine Val.u32 (by omega) (by omega) ?_
        | with_reducible refine Val.u64 (by omega) (by omega) ?_
        | with_reducible refine Val.u8m ?_
        | with_reducible refine Val.u32m ?_
        | with_reducible refine Val.u64m ?_
        | with_reducible refine Val.shr8 ?_
        | with_reducible refine Val.shr16 (by decide) ?_
        | with_reducible refine Val.shr24 (by decide) ?_
        | with_reducible refine Val.raw ?_
        | refine Branch.not ?_
        | refine Branch.and ?_
        | refine Branch.or ?_
        | refine Branch.dt (by assumption) ?_
        | refine Branch.df (by assumption) ?_
        | refine Branch.dt rfl ?_
        | refine Branch.dt (by omega) ?_
        | refine Branch.df (by omega) ?_
        | refine Branch.t rfl ?_
        | refine Branch.f rfl ?_
        | refine Branch.t (by assumption) ?_
        | refine Branch.f (by assumption) ?_
        | refine Branch.d (fun _ => ?_) (fun _ => ?_)
        | refine Branch.mk (fun _ => ?_) (fun _ => ?_)
        | refine Need.mk (by first | omega | decide | rfl) ?_
        | refine Idx.nat (by omega) ?_
        | refine Idx.auto (by first | omega | decide) (by first | omega | decide) ?_
        | refine Cell.ro rfl ?_
        | refine SDraw.all (by kernel_rfl) ?_
        | refine Kept.k0 ?_
        | refine Kept.k1 ?_
        | refine Kept.k2 ?_
        | refine Kept.k3 ?_
        | refine Kept.k4 ?_))
    exact hE
  rw [if_neg h8] at hE hN
  repeat' ((conv => whnf); (first
      | refine Keep.all ?_
      | refine New.mk (fun _ => ?_)
      | refine Look.at0 ?_
      | refine Cell.row ?_
      | refine Cell.buf ?_
      | refine Cells.row rfl ?_
      | refine Put.row rfl ?_
      | refine Put.buf rfl ?_
      | refine Look.at1 ?_
      | refine Look.at2 ?_
      | refine Look.at3 ?_
      | refine Look.at4 ?_
      | refine Look.at5 ?_
      | refine Look.at6 ?_
      | refine Look.at7 ?_
      | refine Look.at8 ?_
      | with_reducible refine Val.i64 (by omega) (by omega) ?_
      | with_reducible refine Val.u8 (by omega) (by omega) ?_
      | with_reducible refine Val.u32 (by omega) (by omega) ?_
      | with_reducible refine Val.u64 (by omega) (by omega) ?_
      | with_reducible refine Val.u8m ?_
      | with_reducible refine Val.u32m ?_
      | with_reducible refine Val.u64m ?_
      | with_reducible refine Val.shr8 ?_
      | with_reducible refine Val.shr16 (by decide) ?_
      | with_reducible refine Val.shr24 (by decide) ?_
      | with_reducible refine Val.raw ?_
      | refine Branch.not ?_
      | refine Branch.and ?_
      | refine Branch.or ?_
      | refine Branch.dt (by assumption) ?_
      | refine Branch.df (by assumption) ?_
      | refine Branch.dt rfl ?_
      | refine Branch.dt (by omega) ?_
      | refine Branch.df (by omega) ?_
      | refine Branch.t rfl ?_
      | refine Branch.f rfl ?_
      | refine Branch.t (by assumption) ?_
      | refine Branch.f (by assumption) ?_
      | refine Branch.d (fun _ => ?_) (fun _ => ?_)
      | refine Branch.mk (fun _ => ?_) (fun _ => ?_)
      | refine Need.mk (by first | omega | decide | rfl) ?_
      | refine Idx.nat (by omega) ?_
      | refine Idx.auto (by first | omega | decide) (by first | omega | decide) ?_
      | refine Cell.ro rfl ?_
      | refine SDraw.all (by kernel_rfl) ?_
      | refine Kept.k0 ?_
      | refine Kept.k1 ?_
      | refine Kept.k2 ?_
      | refine Kept.k3 ?_
      | refine Kept.k4 ?_))
  refine SLoop.inv (I10 b o c blk slot lost L) (M10 L.length) (Keep.by [[_], [_]] [0, 1] [1, 0] [] (by decide) rfl ⟨0, [], _, none, 0, [], by omega, rfl, ⟨Nat.zero_le _, Nat.zero_le _, .inl ⟨rfl, rfl, rfl, rfl⟩⟩, rfl, fun x hx => (by cases hx), .mk, rfl⟩) ?_
  rintro S H ⟨j, ms, g, a, cap, Bh, hj, hgo, hok, hlen, hOk, hS, rfl⟩ R hR
  cases hS
  rw [hgo] at hE hN
  by_cases hlt : j < L.length
  · obtain ⟨x, hx⟩ : ∃ x, L[j]? = some x := ⟨_, List.getElem?_eq_getElem hlt⟩
    have hcx := hc j x hx
    have hdrop : L.drop j = x :: L.drop (j + 1) := by
      obtain ⟨_, rfl⟩ := List.getElem?_eq_some_iff.1 hx
      exact List.drop_eq_getElem_cons hlt
    rw [hdrop] at hE hN hgo
    have fin : ∀ (l : List Value) (r' cap' t11 p t10 : Nat) (m' : M) (Bp Bt : Blk), ms.length + 1 ≤ cap' → cap' ≤ maxLen → ¬ Bad x → (∀ y ∈ ms, y.2.node ≠ x.node) → m' = mkM slot x → m'.Ok →
        S10 (.int .u64 slot) (.int .u64 lost) (.pointer (some ⟨g, 0, none⟩)) (.slice (some ⟨b, o, none⟩) L.length c) (.int .i64 (L.length : Int)) (.int .i64 ((j + 1 : Nat) : Int)) l → (match getL l 21 with | .int _ i => i.toNat | _ => 0) = j + 1 →
        R l ((r', .buf 61 (ms.map pr ++ [.pointer (some ⟨t11, 0, none⟩)]) (cap' * 1)) :: (p, Bp) :: (t11, m'.row) :: (t10, Bt) :: (b, blk) :: (g, .row 60 [.slice (some ⟨r', 0, none⟩) (ms.length + 1) cap', .int .u64 slot, .int .u64 lost] (0, 0)) :: ms.map rw_) := by
      intro l r' cap' t11 p t10 m' Bp Bt k1 k2 k3 k4 k5 k5' k6 k7
      refine hR _ _ (Keep.glue [[_], [_], [_], [_], [_], [_], ms.map rw_] [0, 1, 2, 3, 4, 5, 6] [4, 5, 0, 6, 2] [1, 3] (by decide) rfl ⟨⟨j + 1, ms ++ [(t11, m')], g, some ⟨r', 0, none⟩, cap', [(r', .buf 61 ((ms ++ [(t11, m')]).map pr) (cap' * 1))], by omega, ?_, ⟨by simp; omega, k2, .inr ⟨r', rfl, rfl⟩⟩, by simp; omega, ?_, k6, ?_⟩, ?_⟩)
      · rw [hgo]
        rw [newGo_ok k3 (by simpa using fun a b hab => k4 (a, b) hab), k5]
        simp
      · intro y hy
        rcases List.mem_append.1 hy with hy | hy
        · exact hOk y hy
        · obtain rfl := List.mem_singleton.1 hy; exact k5'
      · simp [netH, rw_, pr, glue]
      · unfold M10
        rw [k7]
        show L.length - (j + 1) < L.length - Int.toNat (j : Int)
        omega
    obtain ⟨nd, pq, on⟩ := x
    dsimp only [Mas.cells] at hcx
    unfold Bad at fin
    dsimp only at fin
    obtain ⟨hk1, hk2, ⟨rfl, rfl, rfl, rfl⟩ | ⟨r, rfl, rfl⟩⟩ := hok
    · have hsl0 : SlOk none 0 [] [] := ⟨by simp, by simp, .inl ⟨rfl, rfl, rfl, rfl⟩⟩
      cases on
      all_goals
        repeat' ((conv => whnf); (first
            | refine Cells.get [.int .i64 nd, .int .i64 pq, .bool _] rfl hcx ?_
            | refine SCalls.under [_, _] (c27 (g := g) (slot := slot) (lost := lost) hsl0 (by simp) nd (fun hno => ?_) (fun i x hx h2 hno => ?_))
            | refine RawV.app0one (bytes := 8) rfl (by kernel_rfl) (by decide) (fun q c h1 h2 => ?_)
            | refine enter28 ?_
            | refine Keep.sub [(b, blk)] (List.Sublist.cons _ (List.Sublist.cons_cons _ (List.nil_sublist _))) (hE _ ?_)
            | refine Keep.all ?_
            | refine New.mk (fun _ => ?_)
            | refine Look.at0 ?_
            | refine Cell.row ?_
            | refine Cell.buf ?_
            | refine Cells.row rfl ?_
            | refine Put.row rfl ?_
            | refine Put.buf rfl ?_
            | refine Look.at1 ?_
            | refine Look.at2 ?_
            | refine Look.at3 ?_
            | refine Look.at4 ?_
            | refine Look.at5 ?_
            | refine Look.at6 ?_
            | refine Look.at7 ?_
            | refine Look.at8 ?_
            | with_reducible refine Val.i64 (by omega) (by omega) ?_
            | with_reducible refine Val.u8 (by omega) (by omega) ?_
            | with_reducible refine Val.u32 (by omega) (by omega) ?_
            | with_reducible refine Val.u64 (by omega) (by omega) ?_
            | with_reducible refine Val.u8m ?_
            | with_reducible refine Val.u32m ?_
            | with_reducible refine Val.u64m ?_
            | with_reducible refine Val.shr8 ?_
            | with_reducible refine Val.shr16 (by decide) ?_
            | with_reducible refine Val.shr24 (by decide) ?_
            | with_reducible refine Val.raw ?_
            | refine Branch.not ?_
            | refine Branch.and ?_
            | refine Branch.or ?_
            | refine Branch.dt (by assumption) ?_
            | refine Branch.df (by assumption) ?_
            | refine Branch.dt rfl ?_
            | refine Branch.dt (by omega) ?_
            | refine Branch.df (by omega) ?_
            | refine Branch.t rfl ?_
            | refine Branch.f rfl ?_
            | refine Branch.t (by assumption) ?_
            | refine Branch.f (by assumption) ?_
            | refine Branch.d (fun _ => ?_) (fun _ => ?_)
            | refine Branch.mk (fun _ => ?_) (fun _ => ?_)
            | refine Need.mk (by first | omega | decide | rfl) ?_
            | refine Idx.nat (by omega) ?_
            | refine Idx.auto (by first | omega | decide) (by first | omega | decide) ?_
            | refine Cell.ro rfl ?_
            | refine SDraw.all (by kernel_rfl) ?_
            | refine Kept.k0 ?_
            | refine Kept.k1 ?_
            | refine Kept.k2 ?_
            | refine Kept.k3 ?_
            | refine Kept.k4 ?_))
      all_goals (conv => whnf)
      all_goals first
        | (rw [newGo_bad (x := ⟨nd, pq, _⟩) (show nd < 1 ∨ 127 < nd ∨ pq < 0 ∨ 3 ≤ pq by omega)]; done)
        | exact fin _ _ _ _ _ _ (begM slot ⟨nd, pq, true, 0, 0, 0, 0⟩) _ _ (by omega) (by assumption) (by omega) hno rfl ⟨by show (1 : Int) ≤ nd ∧ nd ≤ 127; omega, by show (0 : Int) ≤ pq ∧ pq ≤ 2; omega⟩ .mk rfl
        | exact fin _ _ _ _ _ _ ⟨nd, pq, false, 0, 0, 0, 0⟩ _ _ (by omega) (by assumption) (by omega) hno rfl ⟨by show (1 : Int) ≤ nd ∧ nd ≤ 127; omega, by show (0 : Int) ≤ pq ∧ pq ≤ 2; omega⟩ .mk rfl
        | (rw [newGo_dup (x := ⟨nd, pq, _⟩) (show ¬ (nd < 1 ∨ 127 < nd ∨ pq < 0 ∨ 3 ≤ pq) by omega) (List.any_eq_true.2 ⟨x.2, List.mem_map_of_mem (List.mem_of_getElem? hx), by simpa using h2⟩)]; done)
        | trace_state
    · have hok : SlOk (some ⟨r, 0, none⟩) cap [(r, .buf 61 (ms.map pr) (cap * 1))] ms := ⟨hk1, hk2, .inr ⟨r, rfl, rfl⟩⟩
      have h61 : ms.length + 1 ≤ maxLen := by unfold maxLen; omega
      cases on
      all_goals
        repeat' ((conv => whnf); (first
            | refine Cells.get [.int .i64 nd, .int .i64 pq, .bool _] rfl hcx ?_
            | refine SCalls.under [_, _] (c27 hok (by omega) nd (fun hno => ?_) (fun i x hx h2 hno => ?_))
            | refine RawV.appT (A := [_, _, _, _, _]) (cs := ms.map pr) (news := [_]) (size := 1) (bytes := 8) rfl (by kernel_rfl) (by decide) (by simp) rfl hk1 hk2 (.head _) rfl (fun j v hj => by rw [Nat.zero_add]; exact hj) (by intro u hu; obtain rfl := List.mem_singleton.1 hu; rfl) h61 (by omega) (fun q c h1 h2 => ?_)
            | refine enter28 ?_
            | refine Keep.sub [(b, blk)] (List.Sublist.cons _ (List.Sublist.cons_cons _ (List.nil_sublist _))) (hE _ ?_)
            | refine Keep.all ?_
            | refine New.mk (fun _ => ?_)
            | refine Look.at0 ?_
            | refine Cell.row ?_
            | refine Cell.buf ?_
            | refine Cells.row rfl ?_
            | refine Put.row rfl ?_
            | refine Put.buf rfl ?_
            | refine Look.at1 ?_
            | refine Look.at2 ?_
            | refine Look.at3 ?_
            | refine Look.at4 ?_
            | refine Look.at5 ?_
            | refine Look.at6 ?_
            | refine Look.at7 ?_
            | refine Look.at8 ?_
            | with_reducible refine Val.i64 (by omega) (by omega) ?_
            | with_reducible refine Val.u8 (by omega) (by omega) ?_
            | with_reducible refine Val.u32 (by omega) (by omega) ?_
            | with_reducible refine Val.u64 (by omega) (by omega) ?_
            | with_reducible refine Val.u8m ?_
            | with_reducible refine Val.u32m ?_
            | with_reducible refine Val.u64m ?_
            | with_reducible refine Val.shr8 ?_
            | with_reducible refine Val.shr16 (by decide) ?_
            | with_reducible refine Val.shr24 (by decide) ?_
            | with_reducible refine Val.raw ?_
            | refine Branch.not ?_
            | refine Branch.and ?_
            | refine Branch.or ?_
            | refine Branch.dt (by assumption) ?_
            | refine Branch.df (by assumption) ?_
            | refine Branch.dt rfl ?_
            | refine Branch.dt (by omega) ?_
            | refine Branch.df (by omega) ?_
            | refine Branch.t rfl ?_
            | refine Branch.f rfl ?_
            | refine Branch.t (by assumption) ?_
            | refine Branch.f (by assumption) ?_
            | refine Branch.d (fun _ => ?_) (fun _ => ?_)
            | refine Branch.mk (fun _ => ?_) (fun _ => ?_)
            | refine Need.mk (by first | omega | decide | rfl) ?_
            | refine Idx.nat (by omega) ?_
            | refine Idx.auto (by first | omega | decide) (by first | omega | decide) ?_
            | refine Cell.ro rfl ?_
            | refine SDraw.all (by kernel_rfl) ?_
            | refine Kept.k0 ?_
            | refine Kept.k1 ?_
            | refine Kept.k2 ?_
            | refine Kept.k3 ?_
            | refine Kept.k4 ?_))
      all_goals (conv => whnf)
      all_goals first
        | (rw [newGo_bad (x := ⟨nd, pq, _⟩) (show nd < 1 ∨ 127 < nd ∨ pq < 0 ∨ 3 ≤ pq by omega)]; done)
        | exact fin _ _ _ _ _ _ (begM slot ⟨nd, pq, true, 0, 0, 0, 0⟩) _ _ (by omega) (by assumption) (by omega) hno rfl ⟨by show (1 : Int) ≤ nd ∧ nd ≤ 127; omega, by show (0 : Int) ≤ pq ∧ pq ≤ 2; omega⟩ .mk rfl
        | exact fin _ _ _ _ _ _ ⟨nd, pq, false, 0, 0, 0, 0⟩ _ _ (by omega) (by assumption) (by omega) hno rfl ⟨by show (1 : Int) ≤ nd ∧ nd ≤ 127; omega, by show (0 : Int) ≤ pq ∧ pq ≤ 2; omega⟩ .mk rfl
        | (rw [newGo_dup (x := ⟨nd, pq, _⟩) (show ¬ (nd < 1 ∨ 127 < nd ∨ pq < 0 ∨ 3 ≤ pq) by omega) (List.any_eq_true.2 ⟨x.2, List.mem_map_of_mem (List.mem_of_getElem? hx), by simpa using h2⟩)]; done)
        | trace_state
  · have hd : L.drop j = [] := List.drop_eq_nil_of_le (by omega)
    rw [hd] at hE hN
    unfold newGo at hE hN
    dsimp only at hE hN
    repeat' ((conv => whnf); (first
        | refine Keep.sub [(b, blk)] (List.Sublist.cons_cons _ (List.nil_sublist _)) (hE _ ?_)
        | refine Keep.all ?_
        | refine New.mk (fun _ => ?_)
        | refine Look.at0 ?_
        | refine Cell.row ?_
        | refine Cell.buf ?_
        | refine Cells.row rfl ?_
        | refine Put.row rfl ?_
        | refine Put.buf rfl ?_
        | refine Look.at1 ?_
        | refine Look.at2 ?_
        | refine Look.at3 ?_
        | refine Look.at4 ?_
        | refine Look.at5 ?_
        | refine Look.at6 ?_
        | refine Look.at7 ?_
        | refine Look.at8 ?_
        | with_reducible refine Val.i64 (by omega) (by omega) ?_
        | with_reducible refine Val.u8 (by omega) (by omega) ?_
        | with_reducible refine Val.u32 (by omega) (by omega) ?_
        | with_reducible refine Val.u64 (by omega) (by omega) ?_
        | with_reducible refine Val.u8m ?_
        | with_reducible refine Val.u32m ?_
        | with_reducible refine Val.u64m ?_
        | with_reducible refine Val.shr8 ?_
        | with_reducible refine Val.shr16 (by decide) ?_
        | with_reducible refine Val.shr24 (by decide) ?_
        | with_reducible refine Val.raw ?_
        | refine Branch.not ?_
        | refine Branch.and ?_
        | refine Branch.or ?_
        | refine Branch.dt (by assumption) ?_
        | refine Branch.df (by assumption) ?_
        | refine Branch.dt rfl ?_
        | refine Branch.dt (by omega) ?_
        | refine Branch.df (by omega) ?_
        | refine Branch.t rfl ?_
        | refine Branch.f rfl ?_
        | refine Branch.t (by assumption) ?_
        | refine Branch.f (by assumption) ?_
        | refine Branch.d (fun _ => ?_) (fun _ => ?_)
        | refine Branch.mk (fun _ => ?_) (fun _ => ?_)
        | refine Need.mk (by first | omega | decide | rfl) ?_
        | refine Idx.nat (by omega) ?_
        | refine Idx.auto (by first | omega | decide) (by first | omega | decide) ?_
        | refine Cell.ro rfl ?_
        | refine SDraw.all (by kernel_rfl) ?_
        | refine Kept.k0 ?_
        | refine Kept.k1 ?_
        | refine Kept.k2 ?_
        | refine Kept.k3 ?_
        | refine Kept.k4 ?_))
    all_goals first
      | exact if_pos (by omega)
      | exact hN ms g a cap Bh (if_neg (by omega)) hok
      | trace_state
end
end Go.Proofs.Ytmakaofdpoiaaaa
