/- Layer 5: the document's driver, what reads it; slices that are cut and put together: by walks. -/
import Derived.Test.YthgpikgbhkcnbaaDoorBMain1
import Derived.Test.YthgpikgbhkcnbaaDoorRd
import Derived.Test.YthgpikgbhkcnbaaDoorBSx1
import Derived.Test.YthgpikgbhkcnbaaDoorTy
import Derived.Lib.LaidTab
import Derived.Stop.LaidErr

set_option linter.unusedVariables false
set_option linter.unusedSimpArgs false
set_option maxRecDepth 100000
set_option maxHeartbeats 4000000
namespace Go.Proofs.YthgpikgbhkcnbaaDoor
open Sx
/-- A slice that is only read, with room behind it or none. -/
def Sl {α : Type} (f : α → List Value) (k : Nat) (sv : Value) (H : Heap) (L : List α) : Prop := ∃ a c, sv = .slice a L.length c ∧ L.length ≤ c ∧ (a = none ∨ ∃ r o, a = some ⟨r, o, none⟩) ∧ InS f k sv H L
section
variable {α : Type} {f : α → List Value} {k e : Nat} {H H' : Heap} {sv : Value} {L L1 : List α}
theorem Sl.mono (h : Sl f k sv H L) (hs : ∀ z ∈ H, z ∈ H') : Sl f k sv H' L := by
  obtain ⟨a, c, h1, h2, h4, h3⟩ := h
  exact ⟨a, c, h1, h2, h4, h3.mono hs⟩
theorem Sl.nil : Sl f k (.slice none 0 0) H ([] : List α) := ⟨none, 0, rfl, Nat.le_refl _, .inl rfl, InS.nil⟩
theorem Sl.buf {q c N : Nat} (hk : ∀ x, (f x).length = k) (h1 : L.length ≤ c) (h2 : c ≤ maxLen) (hm : (q, .buf e (L.flatMap f) N) ∈ H) : Sl f k (.slice (some ⟨q, 0, none⟩) L.length c) H L :=
  ⟨_, c, rfl, h1, .inr ⟨_, _, rfl⟩, InS.buf hm rfl hk (Nat.le_trans h1 h2)⟩
theorem Sl.take {a : Option Addr} {c n : Nat} (h : Sl f k (.slice a L.length c) H L) (hn : n ≤ L.length) : InS f k (.slice a n c) H (L.take n) ∧ (L.take n).length = n := by
  obtain ⟨a', c', e1, h2, _, h3⟩ := h
  have hl : (L.take n).length = n := by simp; omega
  refine ⟨?_, hl⟩
  obtain ⟨a2, c2, e2, hml, h4⟩ := h3
  injection e2 with e2 _ e3
  subst e2 e3
  refine ⟨a, c, by rw [hl], by omega, ?_⟩
  rcases h4 with rfl | ⟨r, o, b, h5, h6, h7⟩
  · exact .inl (by simp)
  · refine .inr ⟨r, o, b, h5, h6, fun j x i v hj hv hi => h7 j x i v ?_ hv hi⟩
    rw [List.getElem?_take] at hj
    split at hj
    · exact hj
    · cases hj
/-- From n on. -/
theorem Sl.drop {a : Option Addr} {c n : Nat} (h : Sl f k (.slice a L.length c) H L) (hn : n ≤ L.length) :
    (c = n → Sl f k (.slice a (L.length - n) (c - n)) H (L.drop n)) ∧ ∀ r o, a = some ⟨r, o, none⟩ → Sl f k (.slice (some ⟨r, o + n * k, none⟩) (L.length - n) (c - n)) H (L.drop n) := by
  obtain ⟨a', c', e1, h2, h8, h3⟩ := h
  injection e1 with e1 _ e3
  subst e1 e3
  have hl : (L.drop n).length = L.length - n := by simp
  obtain ⟨a2, c2, e2, hml, h4⟩ := h3
  injection e2 with e2 _ e3
  subst e2 e3
  refine ⟨fun hc => ⟨a, c - n, by rw [hl], by omega, h8, ⟨a, c - n, by rw [hl], by omega, .inl (List.drop_eq_nil_of_le (by omega))⟩⟩, fun r o ha => ⟨_, c - n, by rw [hl], by omega, .inr ⟨_, _, rfl⟩, ⟨_, c - n, by rw [hl], by omega, ?_⟩⟩⟩
  rcases h4 with rfl | ⟨r', o', b, h5, h6, h7⟩
  · exact .inl (by simp)
  · rw [ha] at h5
    injection h5 with h5
    injection h5 with h5 h8
    subst h5 h8
    refine .inr ⟨r, o + n * k, b, rfl, h6, fun j x i v hj hv hi => ?_⟩
    have := h7 (n + j) x i v (by rw [List.getElem?_drop] at hj; exact hj) hv hi
    rw [Nat.add_mul] at this
    rw [show o + n * k + j * k + i = o + (n * k + j * k) + i by omega]
    exact this
theorem Sl.cases {a : Option Addr} {c : Nat} (h : Sl f k (.slice a L.length c) H L) : L.length ≤ c ∧ InS f k (.slice a L.length c) H L ∧ (a = none ∧ L = [] ∨ ∃ r o, a = some ⟨r, o, none⟩) := by
  obtain ⟨a', c', e1, h2, h8, h3⟩ := h
  injection e1 with e1 _ e3
  subst e1 e3
  refine ⟨h2, h3, ?_⟩
  rcases h8 with rfl | h8
  · obtain ⟨a2, c2, e2, _, h4⟩ := h3
    injection e2 with e2 _ _
    subst e2
    rcases h4 with h4 | ⟨_, _, _, h4, _⟩
    · exact .inl ⟨rfl, h4⟩
    · cases h4
  · exact .inr h8
/-- A slice behind a buffer of the call's own. -/
theorem RawV.appS {P : Program} {o : Oper} {t bytes q c : Nat} {xs xx : Operand} {B : Heap} {K : Value → Heap → Prop} {L2 : List α} (hin : InS f k sv B L2) (h1 : L1.length ≤ c) (h2 : c ≤ maxLen) (ho : o.op = .call { callee := .builtin .append, args := #[xs, xx], argTypes := #[t, t] }) (ht : tyOk P t e k bytes = true)
    (hk0 : 0 < k) (hk : ∀ x, (f x).length = k) (h3 : ∀ x, ∀ u ∈ f x, u.oneCell' = true) (h63 : (L1 ++ L2).length ≤ maxLen) (hb : (L1 ++ L2).length * bytes ≤ 140737488355328)
    (h : ∀ q' c', (L1 ++ L2).length ≤ c' → c' ≤ maxLen → K (.slice (some ⟨q', 0, none⟩) (L1 ++ L2).length c') ((q', .buf e ((L1 ++ L2).flatMap f) (c' * k)) :: B)) :
    RawV P o [.slice (some ⟨q, 0, none⟩) L1.length c, sv] ((q, .buf e (L1.flatMap f) (c * k)) :: B) K := by
  obtain ⟨a, c2, rfl, hml, h4⟩ := hin
  rcases h4 with rfl | ⟨r, o', b, rfl, hm, hc⟩
  · have := h q c (by simpa using h1) h2
    rw [List.append_nil] at this
    exact RawV.appE ho ht h1 this
  · have hl : (L2.flatMap f).length = L2.length * k := flat_len hk L2
    have hcc : ∀ (j : Nat) v, (L2.flatMap f)[j]? = some v → b.cell (o' + j) = some v := fun j v hv => by
      obtain ⟨j', i, x, rfl, hi, hj, hv⟩ := flat_inv hk hv
      have := hc j' x i v hj hv hi
      rwa [Nat.add_assoc] at this
    rw [List.length_append] at h63 hb h
    refine RawV.appT (A := []) ho ht hk0 (flat_len hk L1) rfl h1 h2 (.tail _ hm) hl hcc (fun u hu => ?_) h63 hb (fun q' c' k1 k2 => ?_)
    · obtain ⟨x, _, hx⟩ := List.mem_flatMap.1 hu
      exact h3 x u hx
    · have := h q' c' k1 k2
      rw [List.flatMap_append] at this
      exact this
end
/-- A frame in one of the document's mailboxes. -/
abbrev mC (x : Wn) : List Value := [.int .u32 (x.f.id : Int), .bool x.f.x, .bool x.f.r, .int .i64 x.f.n, b8 x.f.d0, b8 x.f.d1, b8 x.f.d2, b8 x.f.d3, b8 x.f.d4, b8 x.f.d5, b8 x.f.d6, b8 x.f.d7, .int .i64 (x.ask : Int)]
theorem mC_len (x : Wn) : (mC x).length = 13 := rfl
theorem mC_one (x : Wn) : ∀ u ∈ mC x, u.oneCell' = true := by
  intro u hu
  simp only [mC, List.mem_cons, List.not_mem_nil, or_false] at hu
  rcases hu with rfl | rfl | rfl | rfl | rfl | rfl | rfl | rfl | rfl | rfl | rfl | rfl | rfl <;> rfl
structure Rf where
  (most room : Nat) (L : List Fl) (O : List Wn) (tk lost : Nat) (I : List Fm)
structure RfW (s : Rf) : Prop where
  most : s.most ≤ 64
  room : s.room ≤ 64
  L : s.L.length ≤ 32
  Lw : ∀ l ∈ s.L, l.wf
  O : s.O.length ≤ s.most
  I : s.I.length ≤ s.room
  tk : s.tk ≤ 140737488355328
  lost : s.lost ≤ 140737488355328
  ok : ∀ y ∈ s.O, okF y.f = true ∧ y.fl = fld y.f
abbrev rRow (g : Nat) (mo ro lv ov tk iv lo : Value) : Nat × Blk := (g, .row 60 [mo, ro, lv, ov, tk, iv, lo] (0, 0))
inductive RfO (g : Nat) (s : Rf) (Hb : Heap) : Heap → Prop
  | mk {lv ov iv : Value} {M : Heap} : Sl fC 3 lv M s.L → Sl mC 13 ov M s.O → Sl frC 12 iv M s.I → (∀ z ∈ Hb, z ∈ M) → RfO g s Hb (rRow g (i64 s.most) (i64 s.room) lv ov (i64 s.tk) iv (i64 s.lost) :: M)
theorem RfO.look {g : Nat} {s : Rf} {Hb F : Heap} (h : RfO g s Hb F) : ∃ la lc oa oc ia ic M, F = rRow g (i64 s.most) (i64 s.room) (.slice la s.L.length lc) (.slice oa s.O.length oc) (i64 s.tk) (.slice ia s.I.length ic) (i64 s.lost) :: M ∧
    Sl fC 3 (.slice la s.L.length lc) M s.L ∧ Sl mC 13 (.slice oa s.O.length oc) M s.O ∧ Sl frC 12 (.slice ia s.I.length ic) M s.I ∧ ∀ z ∈ Hb, z ∈ M := by
  obtain ⟨h1, h2, h3, h4⟩ := h
  obtain ⟨la, lc, rfl, _⟩ := id h1
  obtain ⟨oa, oc, rfl, _⟩ := id h2
  obtain ⟨ia, ic, rfl, _⟩ := id h3
  exact ⟨la, lc, oa, oc, ia, ic, _, rfl, h1, h2, h3, h4⟩
def rf0 (mo ro : Int) (L : List Fl) : Rf := ⟨mo.toNat, ro.toNat, L, [], 0, 0, []⟩
theorem rf0_ok {mo ro : Int} {L : List Fl} (h : okN mo ro) (hL : L.length ≤ 32) (hw : ∀ l ∈ L, l.wf) : RfW (rf0 mo ro L) := by
  obtain ⟨h1, h2, h3, h4⟩ := h
  exact ⟨by show mo.toNat ≤ 64; omega, by show ro.toNat ≤ 64; omega, hL, hw, Nat.zero_le _, Nat.zero_le _, Nat.zero_le _, Nat.zero_le _, fun y hy => by cases hy⟩
inductive S36 (A0 A3 A4 A5 : Value) : List Value → Prop
  | mk {r1 r2 r6 r7 r8 r9 r10 r11 r12 r13 r14 r15 r16 r17 r18 r19 r20 r21 r22 r23 r24 r25 r26 r27 r28 r29 r30 r31 r32 r33 r34 r35 r36 r37 r38 r39 r40 r41 r42 r43 r44 r45 r46 r47 r48 r49 : Value} : S36 A0 A3 A4 A5 [A0, r1, r2, A3, A4, A5, r6, r7, r8, r9, r10, r11, r12, r13, r14, r15, r16, r17, r18, r19, r20, r21, r22, r23, r24, r25, r26, r27, r28, r29, r30, r31, r32, r33, r34, r35, r36, r37, r38, r39, r40, r41, r42, r43, r44, r45, r46, r47, r48, r49]
section
variable {K : Value → Heap → Prop} {g : Nat} {s : Rf} {Hb H F : Heap} {f : Fm}
theorem c19 {mo ro : Int} {sv : Value} {L : List Fl} (hin : InS fC 3 sv H L) (h0 : ¬ okN mo ro → K (.tuple ⟨[.pointer none, .int .i64 1]⟩) H) (h1 : okN mo ro → 32 < L.length → K (.tuple ⟨[.pointer none, .int .i64 2]⟩) H)
    (h2 : okN mo ro → L.length ≤ 32 → ∀ g F, RfO g (rf0 mo ro L) H F → K (.tuple ⟨[ptr g, .int .i64 0]⟩) F) : SCalls Tryd.prog 19 [.int .i64 mo, .int .i64 ro, sv] H K := by
  obtain ⟨sa, sc, rfl, hml⟩ := hin.sv
  by_cases hok : okN mo ro
  · have hok' := hok
    obtain ⟨k1, k2, k3, k4⟩ := hok'
    by_cases hL : L.length ≤ 32
    · have h2 := h2 hok hL
      have hm : ∀ v, v = mo → i64 (rf0 mo ro L).most = .int .i64 v := fun v e => by subst e; show Value.int .i64 ((v.toNat : Nat) : Int) = _; rw [Int.toNat_of_nonneg (by omega)]
      have hr : ∀ v, v = ro → i64 (rf0 mo ro L).room = .int .i64 v := fun v e => by subst e; show Value.int .i64 ((v.toNat : Nat) : Int) = _; rw [Int.toNat_of_nonneg (by omega)]
      have hmk : ∀ g q c, L.length ≤ c → c ≤ maxLen → RfO g (rf0 mo ro L) H (rRow g (.int .i64 mo) (.int .i64 ro) (.slice (some ⟨q, 0, none⟩) L.length c) (.slice none 0 0) (.int .i64 0) (.slice none 0 0) (.int .i64 0) :: (q, .buf 33 (L.flatMap fC) (c * 3)) :: H) := by
        intro g q c q1 q2
        have := RfO.mk (g := g) (s := rf0 mo ro L) (Hb := H) (M := (q, .buf 33 (L.flatMap fC) (c * 3)) :: H) (Sl.buf (e := 33) fC_len q1 q2 (.head _)) Sl.nil Sl.nil (fun z hz => .tail _ hz)
        rw [hm mo rfl, hr ro rfl] at this
        exact this
      clear h0 h1
      refine enter19 ?_
      repeat' ((conv => whnf); (first | refine Branch.df (by omega) ?_ | refine Branch.f rfl ?_ | refine RawV.copyS (bytes := 12) hin rfl (by kernel_rfl) (by decide) fC_len fC_one (by omega) (fun q c k1 k2 => ?_) | exact Keep.all (h2 _ _ (hmk _ _ _ k1 k2)) | refine New.mk (fun _ => ?_) | refine Look.at0 ?_ | refine Cell.row ?_ | refine Cell.buf ?_ | refine Cells.row rfl ?_ | refine Put.row rfl ?_ | refine Put.buf rfl ?_ | refine Look.at1 ?_ | refine Look.at2 ?_ | refine Look.at3 ?_ | refine Look.at4 ?_ | refine Look.at5 ?_ | refine Look.at6 ?_ | refine Look.at7 ?_ | refine Look.at8 ?_ | with_reducible refine Val.i64 (by omega) (by omega) ?_ | with_reducible refine Val.u8 (by omega) (by omega) ?_ | with_reducible refine Val.u32 (by omega) (by omega) ?_ | with_reducible refine Val.u64 (by omega) (by omega) ?_ | with_reducible refine Val.u8m ?_ | with_reducible refine Val.u32m ?_ | with_reducible refine Val.u64m ?_ | with_reducible refine Val.shr8 ?_ | with_reducible refine Val.shr16 (by decide) ?_ | with_reducible refine Val.shr24 (by decide) ?_ | with_reducible refine Val.raw ?_ | refine Branch.not ?_ | refine Branch.and ?_ | refine Branch.or ?_ | refine Branch.dt (by assumption) ?_ | refine Branch.df (by assumption) ?_ | refine Branch.dt rfl ?_ | refine Branch.dt (by omega) ?_ | refine Branch.df (by omega) ?_ | refine Branch.t rfl ?_ | refine Branch.f rfl ?_ | refine Branch.t (by assumption) ?_ | refine Branch.f (by assumption) ?_ | refine Branch.d (fun _ => ?_) (fun _ => ?_) | refine Branch.mk (fun _ => ?_) (fun _ => ?_) | refine Need.mk (by first | omega | decide | rfl) ?_ | refine Idx.nat (by omega) ?_ | refine Idx.auto (by first | omega | decide) (by first | omega | decide) ?_ | refine Cell.ro rfl ?_ | refine SDraw.all (by kernel_rfl) ?_ | refine Kept.k0 ?_ | refine Kept.k1 ?_ | refine Kept.k2 ?_ | refine Kept.k3 ?_ | refine Kept.k4 ?_))
    · have hk := h1 hok (by omega)
      clear h0 h2
      refine enter19 ?_
      repeat' ((conv => whnf); (first | refine Branch.df (by omega) ?_ | refine Branch.f rfl ?_ | refine Branch.dt (by omega) ?_ | exact Keep.all hk | refine New.mk (fun _ => ?_) | refine Look.at0 ?_ | refine Cell.row ?_ | refine Cell.buf ?_ | refine Cells.row rfl ?_ | refine Put.row rfl ?_ | refine Put.buf rfl ?_ | refine Look.at1 ?_ | refine Look.at2 ?_ | refine Look.at3 ?_ | refine Look.at4 ?_ | refine Look.at5 ?_ | refine Look.at6 ?_ | refine Look.at7 ?_ | refine Look.at8 ?_ | with_reducible refine Val.i64 (by omega) (by omega) ?_ | with_reducible refine Val.u8 (by omega) (by omega) ?_ | with_reducible refine Val.u32 (by omega) (by omega) ?_ | with_reducible refine Val.u64 (by omega) (by omega) ?_ | with_reducible refine Val.u8m ?_ | with_reducible refine Val.u32m ?_ | with_reducible refine Val.u64m ?_ | with_reducible refine Val.shr8 ?_ | with_reducible refine Val.shr16 (by decide) ?_ | with_reducible refine Val.shr24 (by decide) ?_ | with_reducible refine Val.raw ?_ | refine Branch.not ?_ | refine Branch.and ?_ | refine Branch.or ?_ | refine Branch.dt (by assumption) ?_ | refine Branch.df (by assumption) ?_ | refine Branch.dt rfl ?_ | refine Branch.dt (by omega) ?_ | refine Branch.df (by omega) ?_ | refine Branch.t rfl ?_ | refine Branch.f rfl ?_ | refine Branch.t (by assumption) ?_ | refine Branch.f (by assumption) ?_ | refine Branch.d (fun _ => ?_) (fun _ => ?_) | refine Branch.mk (fun _ => ?_) (fun _ => ?_) | refine Need.mk (by first | omega | decide | rfl) ?_ | refine Idx.nat (by omega) ?_ | refine Idx.auto (by first | omega | decide) (by first | omega | decide) ?_ | refine Cell.ro rfl ?_ | refine SDraw.all (by kernel_rfl) ?_ | refine Kept.k0 ?_ | refine Kept.k1 ?_ | refine Kept.k2 ?_ | refine Kept.k3 ?_ | refine Kept.k4 ?_))
  · have hk := h0 hok
    clear h1 h2
    unfold okN at hok
    refine enter19 ?_
    by_cases c1 : mo < 1
    · repeat' ((conv => whnf); (first | refine Branch.dt (by omega) ?_ | refine Branch.t rfl ?_ | exact Keep.all hk | refine New.mk (fun _ => ?_) | refine Look.at0 ?_ | refine Cell.row ?_ | refine Cell.buf ?_ | refine Cells.row rfl ?_ | refine Put.row rfl ?_ | refine Put.buf rfl ?_ | refine Look.at1 ?_ | refine Look.at2 ?_ | refine Look.at3 ?_ | refine Look.at4 ?_ | refine Look.at5 ?_ | refine Look.at6 ?_ | refine Look.at7 ?_ | refine Look.at8 ?_ | with_reducible refine Val.i64 (by omega) (by omega) ?_ | with_reducible refine Val.u8 (by omega) (by omega) ?_ | with_reducible refine Val.u32 (by omega) (by omega) ?_ | with_reducible refine Val.u64 (by omega) (by omega) ?_ | with_reducible refine Val.u8m ?_ | with_reducible refine Val.u32m ?_ | with_reducible refine Val.u64m ?_ | with_reducible refine Val.shr8 ?_ | with_reducible refine Val.shr16 (by decide) ?_ | with_reducible refine Val.shr24 (by decide) ?_ | with_reducible refine Val.raw ?_ | refine Branch.not ?_ | refine Branch.and ?_ | refine Branch.or ?_ | refine Branch.dt (by assumption) ?_ | refine Branch.df (by assumption) ?_ | refine Branch.dt rfl ?_ | refine Branch.dt (by omega) ?_ | refine Branch.df (by omega) ?_ | refine Branch.t rfl ?_ | refine Branch.f rfl ?_ | refine Branch.t (by assumption) ?_ | refine Branch.f (by assumption) ?_ | refine Branch.d (fun _ => ?_) (fun _ => ?_) | refine Branch.mk (fun _ => ?_) (fun _ => ?_) | refine Need.mk (by first | omega | decide | rfl) ?_ | refine Idx.nat (by omega) ?_ | refine Idx.auto (by first | omega | decide) (by first | omega | decide) ?_ | refine Cell.ro rfl ?_ | refine SDraw.all (by kernel_rfl) ?_ | refine Kept.k0 ?_ | refine Kept.k1 ?_ | refine Kept.k2 ?_ | refine Kept.k3 ?_ | refine Kept.k4 ?_))
    · by_cases c2 : 64 < mo
      · repeat' ((conv => whnf); (first | refine Branch.dt (by omega) ?_ | refine Branch.df (by omega) ?_ | refine Branch.t rfl ?_ | exact Keep.all hk | refine New.mk (fun _ => ?_) | refine Look.at0 ?_ | refine Cell.row ?_ | refine Cell.buf ?_ | refine Cells.row rfl ?_ | refine Put.row rfl ?_ | refine Put.buf rfl ?_ | refine Look.at1 ?_ | refine Look.at2 ?_ | refine Look.at3 ?_ | refine Look.at4 ?_ | refine Look.at5 ?_ | refine Look.at6 ?_ | refine Look.at7 ?_ | refine Look.at8 ?_ | with_reducible refine Val.i64 (by omega) (by omega) ?_ | with_reducible refine Val.u8 (by omega) (by omega) ?_ | with_reducible refine Val.u32 (by omega) (by omega) ?_ | with_reducible refine Val.u64 (by omega) (by omega) ?_ | with_reducible refine Val.u8m ?_ | with_reducible refine Val.u32m ?_ | with_reducible refine Val.u64m ?_ | with_reducible refine Val.shr8 ?_ | with_reducible refine Val.shr16 (by decide) ?_ | with_reducible refine Val.shr24 (by decide) ?_ | with_reducible refine Val.raw ?_ | refine Branch.not ?_ | refine Branch.and ?_ | refine Branch.or ?_ | refine Branch.dt (by assumption) ?_ | refine Branch.df (by assumption) ?_ | refine Branch.dt rfl ?_ | refine Branch.dt (by omega) ?_ | refine Branch.df (by omega) ?_ | refine Branch.t rfl ?_ | refine Branch.f rfl ?_ | refine Branch.t (by assumption) ?_ | refine Branch.f (by assumption) ?_ | refine Branch.d (fun _ => ?_) (fun _ => ?_) | refine Branch.mk (fun _ => ?_) (fun _ => ?_) | refine Need.mk (by first | omega | decide | rfl) ?_ | refine Idx.nat (by omega) ?_ | refine Idx.auto (by first | omega | decide) (by first | omega | decide) ?_ | refine Cell.ro rfl ?_ | refine SDraw.all (by kernel_rfl) ?_ | refine Kept.k0 ?_ | refine Kept.k1 ?_ | refine Kept.k2 ?_ | refine Kept.k3 ?_ | refine Kept.k4 ?_))
      · by_cases c3 : ro < 1
        · repeat' ((conv => whnf); (first | refine Branch.dt (by omega) ?_ | refine Branch.df (by omega) ?_ | refine Branch.t rfl ?_ | refine Branch.f rfl ?_ | exact Keep.all hk | refine New.mk (fun _ => ?_) | refine Look.at0 ?_ | refine Cell.row ?_ | refine Cell.buf ?_ | refine Cells.row rfl ?_ | refine Put.row rfl ?_ | refine Put.buf rfl ?_ | refine Look.at1 ?_ | refine Look.at2 ?_ | refine Look.at3 ?_ | refine Look.at4 ?_ | refine Look.at5 ?_ | refine Look.at6 ?_ | refine Look.at7 ?_ | refine Look.at8 ?_ | with_reducible refine Val.i64 (by omega) (by omega) ?_ | with_reducible refine Val.u8 (by omega) (by omega) ?_ | with_reducible refine Val.u32 (by omega) (by omega) ?_ | with_reducible refine Val.u64 (by omega) (by omega) ?_ | with_reducible refine Val.u8m ?_ | with_reducible refine Val.u32m ?_ | with_reducible refine Val.u64m ?_ | with_reducible refine Val.shr8 ?_ | with_reducible refine Val.shr16 (by decide) ?_ | with_reducible refine Val.shr24 (by decide) ?_ | with_reducible refine Val.raw ?_ | refine Branch.not ?_ | refine Branch.and ?_ | refine Branch.or ?_ | refine Branch.dt (by assumption) ?_ | refine Branch.df (by assumption) ?_ | refine Branch.dt rfl ?_ | refine Branch.dt (by omega) ?_ | refine Branch.df (by omega) ?_ | refine Branch.t rfl ?_ | refine Branch.f rfl ?_ | refine Branch.t (by assumption) ?_ | refine Branch.f (by assumption) ?_ | refine Branch.d (fun _ => ?_) (fun _ => ?_) | refine Branch.mk (fun _ => ?_) (fun _ => ?_) | refine Need.mk (by first | omega | decide | rfl) ?_ | refine Idx.nat (by omega) ?_ | refine Idx.auto (by first | omega | decide) (by first | omega | decide) ?_ | refine Cell.ro rfl ?_ | refine SDraw.all (by kernel_rfl) ?_ | refine Kept.k0 ?_ | refine Kept.k1 ?_ | refine Kept.k2 ?_ | refine Kept.k3 ?_ | refine Kept.k4 ?_))
        · have c4 : 64 < ro := by omega
          repeat' ((conv => whnf); (first | refine Branch.dt (by omega) ?_ | refine Branch.df (by omega) ?_ | refine Branch.t rfl ?_ | refine Branch.f rfl ?_ | exact Keep.all hk | refine New.mk (fun _ => ?_) | refine Look.at0 ?_ | refine Cell.row ?_ | refine Cell.buf ?_ | refine Cells.row rfl ?_ | refine Put.row rfl ?_ | refine Put.buf rfl ?_ | refine Look.at1 ?_ | refine Look.at2 ?_ | refine Look.at3 ?_ | refine Look.at4 ?_ | refine Look.at5 ?_ | refine Look.at6 ?_ | refine Look.at7 ?_ | refine Look.at8 ?_ | with_reducible refine Val.i64 (by omega) (by omega) ?_ | with_reducible refine Val.u8 (by omega) (by omega) ?_ | with_reducible refine Val.u32 (by omega) (by omega) ?_ | with_reducible refine Val.u64 (by omega) (by omega) ?_ | with_reducible refine Val.u8m ?_ | with_reducible refine Val.u32m ?_ | with_reducible refine Val.u64m ?_ | with_reducible refine Val.shr8 ?_ | with_reducible refine Val.shr16 (by decide) ?_ | with_reducible refine Val.shr24 (by decide) ?_ | with_reducible refine Val.raw ?_ | refine Branch.not ?_ | refine Branch.and ?_ | refine Branch.or ?_ | refine Branch.dt (by assumption) ?_ | refine Branch.df (by assumption) ?_ | refine Branch.dt rfl ?_ | refine Branch.dt (by omega) ?_ | refine Branch.df (by omega) ?_ | refine Branch.t rfl ?_ | refine Branch.f rfl ?_ | refine Branch.t (by assumption) ?_ | refine Branch.f (by assumption) ?_ | refine Branch.d (fun _ => ?_) (fun _ => ?_) | refine Branch.mk (fun _ => ?_) (fun _ => ?_) | refine Need.mk (by first | omega | decide | rfl) ?_ | refine Idx.nat (by omega) ?_ | refine Idx.auto (by first | omega | decide) (by first | omega | decide) ?_ | refine Cell.ro rfl ?_ | refine SDraw.all (by kernel_rfl) ?_ | refine Kept.k0 ?_ | refine Kept.k1 ?_ | refine Kept.k2 ?_ | refine Kept.k3 ?_ | refine Kept.k4 ?_))
theorem c32 (h : RfO g s Hb F) (hK : K (.tuple ⟨[frV (hd1 (s.O.map Wn.f)), .bool (decide (0 < s.O.length))]⟩) F) : SCalls Tryd.prog 32 [ptr g] F K := by
  obtain ⟨la, lc, oa, oc, ia, ic, M, rfl, _, h1, _⟩ := h.look
  obtain ⟨hoc, h1, _⟩ := h1.cases
  refine enter32 ?_
  obtain hq | ⟨x, r, hq⟩ : s.O = [] ∨ ∃ x r, s.O = x :: r := by
    cases s.O with
    | nil => exact .inl rfl
    | cons x r => exact .inr ⟨x, r, rfl⟩
  · have e : decide ((s.O.length : Int) = 0) = true := by rw [hq]; rfl
    rw [show (decide (0 < s.O.length)) = false by rw [hq]; rfl, show hd1 (s.O.map Wn.f) = zF by rw [hq]; rfl] at hK
    have hk := show K (.tuple ⟨[.agg ⟨[.int .u32 0, .bool false, .bool false, .int .i64 0, .int .u8 0, .int .u8 0, .int .u8 0, .int .u8 0, .int .u8 0, .int .u8 0, .int .u8 0, .int .u8 0]⟩, .bool false]⟩) _ from hK
    repeat' ((conv => whnf); (first | refine Branch.t e ?_ | exact Keep.d1 hk | refine New.mk (fun _ => ?_) | refine Look.at0 ?_ | refine Cell.row ?_ | refine Cell.buf ?_ | refine Cells.row rfl ?_ | refine Put.row rfl ?_ | refine Put.buf rfl ?_ | refine Look.at1 ?_ | refine Look.at2 ?_ | refine Look.at3 ?_ | refine Look.at4 ?_ | refine Look.at5 ?_ | refine Look.at6 ?_ | refine Look.at7 ?_ | refine Look.at8 ?_ | with_reducible refine Val.i64 (by omega) (by omega) ?_ | with_reducible refine Val.u8 (by omega) (by omega) ?_ | with_reducible refine Val.u32 (by omega) (by omega) ?_ | with_reducible refine Val.u64 (by omega) (by omega) ?_ | with_reducible refine Val.u8m ?_ | with_reducible refine Val.u32m ?_ | with_reducible refine Val.u64m ?_ | with_reducible refine Val.shr8 ?_ | with_reducible refine Val.shr16 (by decide) ?_ | with_reducible refine Val.shr24 (by decide) ?_ | with_reducible refine Val.raw ?_ | refine Branch.not ?_ | refine Branch.and ?_ | refine Branch.or ?_ | refine Branch.dt (by assumption) ?_ | refine Branch.df (by assumption) ?_ | refine Branch.dt rfl ?_ | refine Branch.dt (by omega) ?_ | refine Branch.df (by omega) ?_ | refine Branch.t rfl ?_ | refine Branch.f rfl ?_ | refine Branch.t (by assumption) ?_ | refine Branch.f (by assumption) ?_ | refine Branch.d (fun _ => ?_) (fun _ => ?_) | refine Branch.mk (fun _ => ?_) (fun _ => ?_) | refine Need.mk (by first | omega | decide | rfl) ?_ | refine Idx.nat (by omega) ?_ | refine Idx.auto (by first | omega | decide) (by first | omega | decide) ?_ | refine Cell.ro rfl ?_ | refine SDraw.all (by kernel_rfl) ?_ | refine Kept.k0 ?_ | refine Kept.k1 ?_ | refine Kept.k2 ?_ | refine Kept.k3 ?_ | refine Kept.k4 ?_))
  · have hl : s.O.length = r.length + 1 := by rw [hq]; rfl
    obtain ⟨rr, o, c, b, e1, hrb, hcc⟩ := inS_at (j := 0) (x := x) h1 mC_len (by rw [hq]; rfl)
    injection e1 with e1 _ e3
    subst e1
    have hc12 : ∀ (j : Nat) v, (frC x.f)[j]? = some v → b.cell (o + 0 * 13 + 0 + j) = some v := by
      intro j v hj
      have hlt : j < 12 := (List.getElem?_eq_some_iff.1 hj).1
      refine hcc j v ?_
      have e : (mC x)[j]? = (frC x.f ++ [.int .i64 (x.ask : Int)])[j]? := rfl
      rw [e, List.getElem?_append_left hlt]
      exact hj
    have e : decide ((s.O.length : Int) = 0) = false := decide_eq_false (by omega)
    rw [decide_eq_true (show 0 < s.O.length by omega), show hd1 (s.O.map Wn.f) = x.f by rw [hq]; rfl] at hK
    repeat' ((conv => whnf); (first | refine Branch.f e ?_ | refine Idx.of 0 rfl (by omega) ?_ | refine Look.cells (.tail _ (.tail _ hrb)) rfl hc12 ?_ | exact Keep.d1 hK | refine New.mk (fun _ => ?_) | refine Look.at0 ?_ | refine Cell.row ?_ | refine Cell.buf ?_ | refine Cells.row rfl ?_ | refine Put.row rfl ?_ | refine Put.buf rfl ?_ | refine Look.at1 ?_ | refine Look.at2 ?_ | refine Look.at3 ?_ | refine Look.at4 ?_ | refine Look.at5 ?_ | refine Look.at6 ?_ | refine Look.at7 ?_ | refine Look.at8 ?_ | with_reducible refine Val.i64 (by omega) (by omega) ?_ | with_reducible refine Val.u8 (by omega) (by omega) ?_ | with_reducible refine Val.u32 (by omega) (by omega) ?_ | with_reducible refine Val.u64 (by omega) (by omega) ?_ | with_reducible refine Val.u8m ?_ | with_reducible refine Val.u32m ?_ | with_reducible refine Val.u64m ?_ | with_reducible refine Val.shr8 ?_ | with_reducible refine Val.shr16 (by decide) ?_ | with_reducible refine Val.shr24 (by decide) ?_ | with_reducible refine Val.raw ?_ | refine Branch.not ?_ | refine Branch.and ?_ | refine Branch.or ?_ | refine Branch.dt (by assumption) ?_ | refine Branch.df (by assumption) ?_ | refine Branch.dt rfl ?_ | refine Branch.dt (by omega) ?_ | refine Branch.df (by omega) ?_ | refine Branch.t rfl ?_ | refine Branch.f rfl ?_ | refine Branch.t (by assumption) ?_ | refine Branch.f (by assumption) ?_ | refine Branch.d (fun _ => ?_) (fun _ => ?_) | refine Branch.mk (fun _ => ?_) (fun _ => ?_) | refine Need.mk (by first | omega | decide | rfl) ?_ | refine Idx.nat (by omega) ?_ | refine Idx.auto (by first | omega | decide) (by first | omega | decide) ?_ | refine Cell.ro rfl ?_ | refine SDraw.all (by kernel_rfl) ?_ | refine Kept.k0 ?_ | refine Kept.k1 ?_ | refine Kept.k2 ?_ | refine Kept.k3 ?_ | refine Kept.k4 ?_))
theorem c36 (hw : RfW s) (h : RfO g s Hb F) (hf : f.id < 4294967296) (hK : K (.bool (okF f && pas s.L f)) F) : SCalls Tryd.prog 36 [ptr g, frV f] F K := by
  have h49 := fun H (K2 : Value → Heap → Prop) (hk : K2 (.int .i64 (erF f)) H) => c49 (H := H) (K := K2) hk
  unfold erF at h49
  obtain ⟨la, lc, oa, oc, ia, ic, M, rfl, h1, _⟩ := h.look
  obtain ⟨hlc, h1, _⟩ := h1.cases
  have hL := hw.L
  have hLw := hw.Lw
  refine enter36 ?_
  cases hg : okF f with
  | false =>
    rw [hg] at h49 hK
    repeat' ((conv => whnf); (first | refine h49 _ _ ?_ | refine Branch.t rfl ?_ | exact Keep.d1 hK | refine New.mk (fun _ => ?_) | refine Look.at0 ?_ | refine Cell.row ?_ | refine Cell.buf ?_ | refine Cells.row rfl ?_ | refine Put.row rfl ?_ | refine Put.buf rfl ?_ | refine Look.at1 ?_ | refine Look.at2 ?_ | refine Look.at3 ?_ | refine Look.at4 ?_ | refine Look.at5 ?_ | refine Look.at6 ?_ | refine Look.at7 ?_ | refine Look.at8 ?_ | with_reducible refine Val.i64 (by omega) (by omega) ?_ | with_reducible refine Val.u8 (by omega) (by omega) ?_ | with_reducible refine Val.u32 (by omega) (by omega) ?_ | with_reducible refine Val.u64 (by omega) (by omega) ?_ | with_reducible refine Val.u8m ?_ | with_reducible refine Val.u32m ?_ | with_reducible refine Val.u64m ?_ | with_reducible refine Val.shr8 ?_ | with_reducible refine Val.shr16 (by decide) ?_ | with_reducible refine Val.shr24 (by decide) ?_ | with_reducible refine Val.raw ?_ | refine Branch.not ?_ | refine Branch.and ?_ | refine Branch.or ?_ | refine Branch.dt (by assumption) ?_ | refine Branch.df (by assumption) ?_ | refine Branch.dt rfl ?_ | refine Branch.dt (by omega) ?_ | refine Branch.df (by omega) ?_ | refine Branch.t rfl ?_ | refine Branch.f rfl ?_ | refine Branch.t (by assumption) ?_ | refine Branch.f (by assumption) ?_ | refine Branch.d (fun _ => ?_) (fun _ => ?_) | refine Branch.mk (fun _ => ?_) (fun _ => ?_) | refine Need.mk (by first | omega | decide | rfl) ?_ | refine Idx.nat (by omega) ?_ | refine Idx.auto (by first | omega | decide) (by first | omega | decide) ?_ | refine Cell.ro rfl ?_ | refine SDraw.all (by kernel_rfl) ?_ | refine Kept.k0 ?_ | refine Kept.k1 ?_ | refine Kept.k2 ?_ | refine Kept.k3 ?_ | refine Kept.k4 ?_))
  | true =>
    rw [hg] at h49 hK
    rw [Bool.true_and] at hK
    repeat' ((conv => whnf); (first | refine h49 _ _ ?_ | refine Branch.f rfl ?_ | refine New.mk (fun _ => ?_) | refine Look.at0 ?_ | refine Cell.row ?_ | refine Cell.buf ?_ | refine Cells.row rfl ?_ | refine Put.row rfl ?_ | refine Put.buf rfl ?_ | refine Look.at1 ?_ | refine Look.at2 ?_ | refine Look.at3 ?_ | refine Look.at4 ?_ | refine Look.at5 ?_ | refine Look.at6 ?_ | refine Look.at7 ?_ | refine Look.at8 ?_ | with_reducible refine Val.i64 (by omega) (by omega) ?_ | with_reducible refine Val.u8 (by omega) (by omega) ?_ | with_reducible refine Val.u32 (by omega) (by omega) ?_ | with_reducible refine Val.u64 (by omega) (by omega) ?_ | with_reducible refine Val.u8m ?_ | with_reducible refine Val.u32m ?_ | with_reducible refine Val.u64m ?_ | with_reducible refine Val.shr8 ?_ | with_reducible refine Val.shr16 (by decide) ?_ | with_reducible refine Val.shr24 (by decide) ?_ | with_reducible refine Val.raw ?_ | refine Branch.not ?_ | refine Branch.and ?_ | refine Branch.or ?_ | refine Branch.dt (by assumption) ?_ | refine Branch.df (by assumption) ?_ | refine Branch.dt rfl ?_ | refine Branch.dt (by omega) ?_ | refine Branch.df (by omega) ?_ | refine Branch.t rfl ?_ | refine Branch.f rfl ?_ | refine Branch.t (by assumption) ?_ | refine Branch.f (by assumption) ?_ | refine Branch.d (fun _ => ?_) (fun _ => ?_) | refine Branch.mk (fun _ => ?_) (fun _ => ?_) | refine Need.mk (by first | omega | decide | rfl) ?_ | refine Idx.nat (by omega) ?_ | refine Idx.auto (by first | omega | decide) (by first | omega | decide) ?_ | refine Cell.ro rfl ?_ | refine SDraw.all (by kernel_rfl) ?_ | refine Kept.k0 ?_ | refine Kept.k1 ?_ | refine Kept.k2 ?_ | refine Kept.k3 ?_ | refine Kept.k4 ?_))
    rename_i t3
    refine SLoop.invA (fun (k : Nat) S H' => k ≤ s.L.length ∧ (∀ i y, i < k → s.L[i]? = some y → pas1 y f = false) ∧ S36 (ptr g) (ptr t3) (.bool false) (.int .i64 (k : Int)) S ∧ H' = (t3, .row 26 (frC f) (0, 0)) :: rRow g (i64 s.most) (i64 s.room) (.slice la s.L.length lc) (.slice oa s.O.length oc) (i64 s.tk) (.slice ia s.I.length ic) (i64 s.lost) :: M) (fun k => s.L.length - k) 0 (Keep.all ⟨Nat.zero_le _, fun i y hi => absurd hi (Nat.not_lt_zero _), .mk, rfl⟩) ?_
    rintro k S H' ⟨hk, hno, hS, rfl⟩ R hR
    cases hS
    by_cases hlt : k < s.L.length
    · obtain ⟨x, hx, _⟩ := list_at hlt
      obtain ⟨r, o, c, b, e1, hrb, hcc⟩ := inS_at h1 fC_len hx
      injection e1 with e1 _ e3
      subst e1
      have hxw := hLw x (List.mem_of_getElem? hx)
      obtain ⟨lid, lm, lx⟩ := x
      obtain ⟨hl1, hl2⟩ := hxw
      dsimp only at hl1 hl2
      have ha : bitAnd .u32 (lid : Int) (lm : Int) = ((lid &&& lm : Nat) : Int) := bitAnd_nat rfl hl1 hl2
      have ha2 : bitAnd .u32 (f.id : Int) (lm : Int) = ((f.id &&& lm : Nat) : Int) := bitAnd_nat rfl hf hl2
      have hnext : pas1 ⟨lid, lm, lx⟩ f = false → ∀ t6 S, S36 (ptr g) (ptr t3) (.bool false) (.int .i64 ((k + 1 : Nat) : Int)) S → R S (t6 :: (t3, .row 26 (frC f) (0, 0)) :: rRow g (i64 s.most) (i64 s.room) (.slice (some ⟨r, o, none⟩) s.L.length lc) (.slice oa s.O.length oc) (i64 s.tk) (.slice ia s.I.length ic) (i64 s.lost) :: M) := fun hp t6 S hS => hR (k + 1) S _ (by omega) (Keep.d1 ⟨hlt, fun i y hi hy => by
        rcases Nat.lt_or_ge i k with h | h
        · exact hno i y h hy
        · obtain rfl : i = k := by omega
          rw [hx] at hy
          injection hy with hy
          subst hy
          exact hp, hS, rfl⟩)
      have hyes : pas1 ⟨lid, lm, lx⟩ f = true → K (.bool true) (rRow g (i64 s.most) (i64 s.room) (.slice (some ⟨r, o, none⟩) s.L.length lc) (.slice oa s.O.length oc) (i64 s.tk) (.slice ia s.I.length ic) (i64 s.lost) :: M) := fun hp => by
        have : pas s.L f = true := by
          unfold pas
          rw [List.any_eq_true.2 ⟨_, List.mem_of_getElem? hx, hp⟩, Bool.or_true]
        rw [this] at hK
        exact hK
      clear hR hK
      unfold pas1 at hnext hyes
      dsimp only at hnext hyes
      have hcf : (Blk.row 26 (frC f) (0, 0)).cell 1 = some (.bool f.x) := rfl
      have hci : (Blk.row 26 (frC f) (0, 0)).cell 0 = some (.int .u32 (f.id : Int)) := rfl
      generalize f.x = fx at *
      generalize f.id = fid at *
      cases hx1 : (lx == fx) with
      | false =>
        rw [hx1, Bool.false_and] at hnext
        have hnext := hnext rfl
        repeat' ((conv => whnf); (first | refine Look.cells (.tail _ (.tail _ hrb)) rfl hcc ?_ | refine Look.cell (.tail _ (.head _)) hcf ?_ | refine Look.cell (.tail _ (.head _)) hci ?_ | refine Branch.dt (by omega) ?_ | refine Branch.f hx1 ?_ | refine Branch.f rfl ?_ | exact hnext _ _ .mk | refine New.mk (fun _ => ?_) | refine Look.at0 ?_ | refine Cell.row ?_ | refine Cell.buf ?_ | refine Cells.row rfl ?_ | refine Put.row rfl ?_ | refine Put.buf rfl ?_ | refine Look.at1 ?_ | refine Look.at2 ?_ | refine Look.at3 ?_ | refine Look.at4 ?_ | refine Look.at5 ?_ | refine Look.at6 ?_ | refine Look.at7 ?_ | refine Look.at8 ?_ | with_reducible refine Val.i64 (by omega) (by omega) ?_ | with_reducible refine Val.u8 (by omega) (by omega) ?_ | with_reducible refine Val.u32 (by omega) (by omega) ?_ | with_reducible refine Val.u64 (by omega) (by omega) ?_ | with_reducible refine Val.u8m ?_ | with_reducible refine Val.u32m ?_ | with_reducible refine Val.u64m ?_ | with_reducible refine Val.shr8 ?_ | with_reducible refine Val.shr16 (by decide) ?_ | with_reducible refine Val.shr24 (by decide) ?_ | with_reducible refine Val.raw ?_ | refine Branch.not ?_ | refine Branch.and ?_ | refine Branch.or ?_ | refine Branch.dt (by assumption) ?_ | refine Branch.df (by assumption) ?_ | refine Branch.dt rfl ?_ | refine Branch.dt (by omega) ?_ | refine Branch.df (by omega) ?_ | refine Branch.t rfl ?_ | refine Branch.f rfl ?_ | refine Branch.t (by assumption) ?_ | refine Branch.f (by assumption) ?_ | refine Branch.d (fun _ => ?_) (fun _ => ?_) | refine Branch.mk (fun _ => ?_) (fun _ => ?_) | refine Need.mk (by first | omega | decide | rfl) ?_ | refine Idx.nat (by omega) ?_ | refine Idx.auto (by first | omega | decide) (by first | omega | decide) ?_ | refine Cell.ro rfl ?_ | refine SDraw.all (by kernel_rfl) ?_ | refine Kept.k0 ?_ | refine Kept.k1 ?_ | refine Kept.k2 ?_ | refine Kept.k3 ?_ | refine Kept.k4 ?_))
      | true =>
        rw [hx1, Bool.true_and] at hnext hyes
        by_cases he : lid &&& lm = fid &&& lm
        · have hk := hyes (decide_eq_true he)
          have he2 : ((lid &&& lm : Nat) : Int) = ((fid &&& lm : Nat) : Int) := by rw [he]
          clear hnext
          repeat' ((conv => whnf); (first | refine Look.cells (.tail _ (.tail _ hrb)) rfl hcc ?_ | refine Look.cell (.tail _ (.head _)) hcf ?_ | refine Look.cell (.tail _ (.head _)) hci ?_ | with_reducible refine Val.to _ ha ?_ | with_reducible refine Val.to _ ha2 ?_ | refine Branch.dt he2 ?_ | refine Branch.dt (by omega) ?_ | refine Branch.t hx1 ?_ | exact Keep.d2 hk | refine New.mk (fun _ => ?_) | refine Look.at0 ?_ | refine Cell.row ?_ | refine Cell.buf ?_ | refine Cells.row rfl ?_ | refine Put.row rfl ?_ | refine Put.buf rfl ?_ | refine Look.at1 ?_ | refine Look.at2 ?_ | refine Look.at3 ?_ | refine Look.at4 ?_ | refine Look.at5 ?_ | refine Look.at6 ?_ | refine Look.at7 ?_ | refine Look.at8 ?_ | with_reducible refine Val.i64 (by omega) (by omega) ?_ | with_reducible refine Val.u8 (by omega) (by omega) ?_ | with_reducible refine Val.u32 (by omega) (by omega) ?_ | with_reducible refine Val.u64 (by omega) (by omega) ?_ | with_reducible refine Val.u8m ?_ | with_reducible refine Val.u32m ?_ | with_reducible refine Val.u64m ?_ | with_reducible refine Val.shr8 ?_ | with_reducible refine Val.shr16 (by decide) ?_ | with_reducible refine Val.shr24 (by decide) ?_ | with_reducible refine Val.raw ?_ | refine Branch.not ?_ | refine Branch.and ?_ | refine Branch.or ?_ | refine Branch.dt (by assumption) ?_ | refine Branch.df (by assumption) ?_ | refine Branch.dt rfl ?_ | refine Branch.dt (by omega) ?_ | refine Branch.df (by omega) ?_ | refine Branch.t rfl ?_ | refine Branch.f rfl ?_ | refine Branch.t (by assumption) ?_ | refine Branch.f (by assumption) ?_ | refine Branch.d (fun _ => ?_) (fun _ => ?_) | refine Branch.mk (fun _ => ?_) (fun _ => ?_) | refine Need.mk (by first | omega | decide | rfl) ?_ | refine Idx.nat (by omega) ?_ | refine Idx.auto (by first | omega | decide) (by first | omega | decide) ?_ | refine Cell.ro rfl ?_ | refine SDraw.all (by kernel_rfl) ?_ | refine Kept.k0 ?_ | refine Kept.k1 ?_ | refine Kept.k2 ?_ | refine Kept.k3 ?_ | refine Kept.k4 ?_))
        · have hnext := hnext (decide_eq_false he)
          have he2 : ¬ ((lid &&& lm : Nat) : Int) = ((fid &&& lm : Nat) : Int) := by omega
          repeat' ((conv => whnf); (first | refine Look.cells (.tail _ (.tail _ hrb)) rfl hcc ?_ | refine Look.cell (.tail _ (.head _)) hcf ?_ | refine Look.cell (.tail _ (.head _)) hci ?_ | with_reducible refine Val.to _ ha ?_ | with_reducible refine Val.to _ ha2 ?_ | refine Branch.df he2 ?_ | refine Branch.dt (by omega) ?_ | refine Branch.t hx1 ?_ | exact hnext _ _ .mk | refine New.mk (fun _ => ?_) | refine Look.at0 ?_ | refine Cell.row ?_ | refine Cell.buf ?_ | refine Cells.row rfl ?_ | refine Put.row rfl ?_ | refine Put.buf rfl ?_ | refine Look.at1 ?_ | refine Look.at2 ?_ | refine Look.at3 ?_ | refine Look.at4 ?_ | refine Look.at5 ?_ | refine Look.at6 ?_ | refine Look.at7 ?_ | refine Look.at8 ?_ | with_reducible refine Val.i64 (by omega) (by omega) ?_ | with_reducible refine Val.u8 (by omega) (by omega) ?_ | with_reducible refine Val.u32 (by omega) (by omega) ?_ | with_reducible refine Val.u64 (by omega) (by omega) ?_ | with_reducible refine Val.u8m ?_ | with_reducible refine Val.u32m ?_ | with_reducible refine Val.u64m ?_ | with_reducible refine Val.shr8 ?_ | with_reducible refine Val.shr16 (by decide) ?_ | with_reducible refine Val.shr24 (by decide) ?_ | with_reducible refine Val.raw ?_ | refine Branch.not ?_ | refine Branch.and ?_ | refine Branch.or ?_ | refine Branch.dt (by assumption) ?_ | refine Branch.df (by assumption) ?_ | refine Branch.dt rfl ?_ | refine Branch.dt (by omega) ?_ | refine Branch.df (by omega) ?_ | refine Branch.t rfl ?_ | refine Branch.f rfl ?_ | refine Branch.t (by assumption) ?_ | refine Branch.f (by assumption) ?_ | refine Branch.d (fun _ => ?_) (fun _ => ?_) | refine Branch.mk (fun _ => ?_) (fun _ => ?_) | refine Need.mk (by first | omega | decide | rfl) ?_ | refine Idx.nat (by omega) ?_ | refine Idx.auto (by first | omega | decide) (by first | omega | decide) ?_ | refine Cell.ro rfl ?_ | refine SDraw.all (by kernel_rfl) ?_ | refine Kept.k0 ?_ | refine Kept.k1 ?_ | refine Kept.k2 ?_ | refine Kept.k3 ?_ | refine Kept.k4 ?_))
    · obtain rfl : k = s.L.length := by omega
      have hno2 : (s.L.any fun l => pas1 l f) = false := List.any_eq_false.2 fun x hx => by
        obtain ⟨i, hi, rfl⟩ := List.getElem_of_mem hx
        rw [hno i _ hi (List.getElem?_eq_getElem hi)]; decide
      have hk := show K (.bool (decide ((s.L.length : Int) = 0))) _ from by
        unfold pas at hK
        rw [hno2, Bool.or_false] at hK
        rw [show decide ((s.L.length : Int) = 0) = decide (s.L.length = 0) by simp]
        exact hK
      clear hR hK
      repeat' ((conv => whnf); (first | refine Branch.df (by omega) ?_ | exact Keep.d1 hk | refine New.mk (fun _ => ?_) | refine Look.at0 ?_ | refine Cell.row ?_ | refine Cell.buf ?_ | refine Cells.row rfl ?_ | refine Put.row rfl ?_ | refine Put.buf rfl ?_ | refine Look.at1 ?_ | refine Look.at2 ?_ | refine Look.at3 ?_ | refine Look.at4 ?_ | refine Look.at5 ?_ | refine Look.at6 ?_ | refine Look.at7 ?_ | refine Look.at8 ?_ | with_reducible refine Val.i64 (by omega) (by omega) ?_ | with_reducible refine Val.u8 (by omega) (by omega) ?_ | with_reducible refine Val.u32 (by omega) (by omega) ?_ | with_reducible refine Val.u64 (by omega) (by omega) ?_ | with_reducible refine Val.u8m ?_ | with_reducible refine Val.u32m ?_ | with_reducible refine Val.u64m ?_ | with_reducible refine Val.shr8 ?_ | with_reducible refine Val.shr16 (by decide) ?_ | with_reducible refine Val.shr24 (by decide) ?_ | with_reducible refine Val.raw ?_ | refine Branch.not ?_ | refine Branch.and ?_ | refine Branch.or ?_ | refine Branch.dt (by assumption) ?_ | refine Branch.df (by assumption) ?_ | refine Branch.dt rfl ?_ | refine Branch.dt (by omega) ?_ | refine Branch.df (by omega) ?_ | refine Branch.t rfl ?_ | refine Branch.f rfl ?_ | refine Branch.t (by assumption) ?_ | refine Branch.f (by assumption) ?_ | refine Branch.d (fun _ => ?_) (fun _ => ?_) | refine Branch.mk (fun _ => ?_) (fun _ => ?_) | refine Need.mk (by first | omega | decide | rfl) ?_ | refine Idx.nat (by omega) ?_ | refine Idx.auto (by first | omega | decide) (by first | omega | decide) ?_ | refine Cell.ro rfl ?_ | refine SDraw.all (by kernel_rfl) ?_ | refine Kept.k0 ?_ | refine Kept.k1 ?_ | refine Kept.k2 ?_ | refine Kept.k3 ?_ | refine Kept.k4 ?_))
end
end Go.Proofs.YthgpikgbhkcnbaaDoor

/- Layer 5: the document's driver, what changes it: by walks. -/
set_option linter.unusedVariables false
set_option linter.unusedSimpArgs false
set_option maxRecDepth 100000
set_option maxHeartbeats 4000000
namespace Go.Proofs.YthgpikgbhkcnbaaDoor
open Sx
/-- How many come ahead of a field. -/
def ahead (fl : List UInt8) (O : List Wn) : Nat := (O.takeWhile fun y => !tlt fl y.fl).length
theorem ahead_le (fl : List UInt8) (O : List Wn) : ahead fl O ≤ O.length := by
  unfold ahead
  exact (List.takeWhile_sublist _).length_le
theorem ahead_is {fl : List UInt8} : ∀ {O : List Wn} {n : Nat}, n ≤ O.length → (∀ i y, i < n → O[i]? = some y → tlt fl y.fl = false) → (∀ y, O[n]? = some y → tlt fl y.fl = true) → ahead fl O = n
  | [], n, h, _, _ => by
    have : n = 0 := by simpa using h
    subst this; rfl
  | y :: O, 0, _, _, h => by
    have := h y rfl
    unfold ahead
    rw [List.takeWhile_cons, this]; rfl
  | y :: O, n + 1, h, h1, h2 => by
    have h0 := h1 0 y (Nat.succ_pos _) rfl
    have ih := ahead_is (fl := fl) (O := O) (n := n) (by simpa using h) (fun i z hi hz => h1 (i + 1) z (by omega) (by simpa using hz)) (fun z hz => h2 z (by simpa using hz))
    unfold ahead at ih ⊢
    rw [List.takeWhile_cons, h0]
    show (List.takeWhile _ O).length + 1 = n + 1
    rw [ih]
/-- One more, behind all of its field. -/
def insO (x : Wn) (O : List Wn) : List Wn := (O.take (ahead x.fl O) ++ [x]) ++ O.drop (ahead x.fl O)
theorem insO_len (x : Wn) (O : List Wn) : (insO x O).length = O.length + 1 := by
  have := ahead_le x.fl O
  unfold insO
  simp; omega
inductive S31 (A0 A3 A6 A8 : Value) : List Value → Prop
  | mk {r1 r2 r4 r5 r7 r9 r10 r11 r12 r13 r14 r15 r16 r17 r18 r19 r20 r21 r22 r23 r24 r25 r26 r27 r28 r29 r30 r31 r32 r33 r34 r35 r36 r37 r38 r39 r40 r41 r42 r43 r44 r45 r46 r47 r48 r49 r50 r51 r52 r53 r54 r55 r56 r57 r58 r59 r60 r61 r62 r63 r64 r65 r66 r67 r68 r69 r70 r71 r72 r73 r74 r75 r76 r77 r78 r79 r80 r81 r82 r83 r84 r85 r86 r87 r88 r89 r90 r91 r92 : Value} : S31 A0 A3 A6 A8 [A0, r1, r2, A3, r4, r5, A6, r7, A8, r9, r10, r11, r12, r13, r14, r15, r16, r17, r18, r19, r20, r21, r22, r23, r24, r25, r26, r27, r28, r29, r30, r31, r32, r33, r34, r35, r36, r37, r38, r39, r40, r41, r42, r43, r44, r45, r46, r47, r48, r49, r50, r51, r52, r53, r54, r55, r56, r57, r58, r59, r60, r61, r62, r63, r64, r65, r66, r67, r68, r69, r70, r71, r72, r73, r74, r75, r76, r77, r78, r79, r80, r81, r82, r83, r84, r85, r86, r87, r88, r89, r90, r91, r92]
inductive S33 (A0 A1 A2 A7 : Value) : List Value → Prop
  | mk {r3 r4 r5 r6 r8 r9 r10 r11 r12 r13 r14 r15 r16 r17 r18 r19 r20 r21 r22 r23 r24 r25 r26 r27 r28 r29 r30 r31 r32 r33 r34 r35 r36 r37 r38 r39 r40 r41 r42 r43 r44 r45 r46 r47 r48 : Value} : S33 A0 A1 A2 A7 [A0, A1, A2, r3, r4, r5, r6, A7, r8, r9, r10, r11, r12, r13, r14, r15, r16, r17, r18, r19, r20, r21, r22, r23, r24, r25, r26, r27, r28, r29, r30, r31, r32, r33, r34, r35, r36, r37, r38, r39, r40, r41, r42, r43, r44, r45, r46, r47, r48]
section
variable {K : Value → Heap → Prop} {g : Nat} {s : Rf} {Hb H F : Heap} {f : Fm}
theorem c31 (hw : RfW s) (h : RfO g s Hb F) (h0 : okF f = false → K (tup2 0 1) F) (h1 : okF f = true → s.most ≤ s.O.length → K (tup2 0 31) F)
    (h2 : okF f = true → s.O.length < s.most → ∀ F', RfO g { s with tk := s.tk + 1, O := insO (mailW f (s.tk + 1)) s.O } Hb F' → K (tup2 ((s.tk + 1 : Nat) : Int) 0) F') : SCalls Tryd.prog 31 [ptr g, frV f] F K := by
  have h45 := fun H (K2 : Value → Heap → Prop) hk => c45 (H := H) (K := K2) (f := f) hk
  unfold fV at h45
  obtain ⟨la, lc, oa, oc, ia, ic, M, rfl, hl, hO, hI, hHb⟩ := h.look
  have hOl := hw.O
  have hm := hw.most
  have ht := hw.tk
  refine enter31 ?_
  cases hg : okF f with
  | false =>
    rw [hg] at h45
    have hk := h0 hg
    clear h1 h2
    repeat' ((conv => whnf); (first | refine h45 _ _ ?_ | refine Branch.t rfl ?_ | exact Keep.d1 hk | refine New.mk (fun _ => ?_) | refine Look.at0 ?_ | refine Cell.row ?_ | refine Cell.buf ?_ | refine Cells.row rfl ?_ | refine Put.row rfl ?_ | refine Put.buf rfl ?_ | refine Look.at1 ?_ | refine Look.at2 ?_ | refine Look.at3 ?_ | refine Look.at4 ?_ | refine Look.at5 ?_ | refine Look.at6 ?_ | refine Look.at7 ?_ | refine Look.at8 ?_ | with_reducible refine Val.i64 (by omega) (by omega) ?_ | with_reducible refine Val.u8 (by omega) (by omega) ?_ | with_reducible refine Val.u32 (by omega) (by omega) ?_ | with_reducible refine Val.u64 (by omega) (by omega) ?_ | with_reducible refine Val.u8m ?_ | with_reducible refine Val.u32m ?_ | with_reducible refine Val.u64m ?_ | with_reducible refine Val.shr8 ?_ | with_reducible refine Val.shr16 (by decide) ?_ | with_reducible refine Val.shr24 (by decide) ?_ | with_reducible refine Val.raw ?_ | refine Branch.not ?_ | refine Branch.and ?_ | refine Branch.or ?_ | refine Branch.dt (by assumption) ?_ | refine Branch.df (by assumption) ?_ | refine Branch.dt rfl ?_ | refine Branch.dt (by omega) ?_ | refine Branch.df (by omega) ?_ | refine Branch.t rfl ?_ | refine Branch.f rfl ?_ | refine Branch.t (by assumption) ?_ | refine Branch.f (by assumption) ?_ | refine Branch.d (fun _ => ?_) (fun _ => ?_) | refine Branch.mk (fun _ => ?_) (fun _ => ?_) | refine Need.mk (by first | omega | decide | rfl) ?_ | refine Idx.nat (by omega) ?_ | refine Idx.auto (by first | omega | decide) (by first | omega | decide) ?_ | refine Cell.ro rfl ?_ | refine SDraw.all (by kernel_rfl) ?_ | refine Kept.k0 ?_ | refine Kept.k1 ?_ | refine Kept.k2 ?_ | refine Kept.k3 ?_ | refine Kept.k4 ?_))
  | true =>
    rw [hg] at h45
    by_cases hlt : s.O.length < s.most
    · have h2 := h2 hg hlt
      clear h0 h1
      obtain ⟨hcap, hO1, hoa⟩ := hO.cases
      have hv : IntKind.i64.wrap ((s.tk : Int) + 1) = ((s.tk + 1 : Nat) : Int) := by rw [wrap_i64 (by omega) (by omega)]; omega
      repeat' ((conv => whnf); (first | refine h45 _ _ ?_ | refine Branch.f rfl ?_ | refine Branch.df (by omega) ?_ | with_reducible refine Val.to _ hv ?_ | refine New.mk (fun _ => ?_) | refine Look.at0 ?_ | refine Cell.row ?_ | refine Cell.buf ?_ | refine Cells.row rfl ?_ | refine Put.row rfl ?_ | refine Put.buf rfl ?_ | refine Look.at1 ?_ | refine Look.at2 ?_ | refine Look.at3 ?_ | refine Look.at4 ?_ | refine Look.at5 ?_ | refine Look.at6 ?_ | refine Look.at7 ?_ | refine Look.at8 ?_ | with_reducible refine Val.i64 (by omega) (by omega) ?_ | with_reducible refine Val.u8 (by omega) (by omega) ?_ | with_reducible refine Val.u32 (by omega) (by omega) ?_ | with_reducible refine Val.u64 (by omega) (by omega) ?_ | with_reducible refine Val.u8m ?_ | with_reducible refine Val.u32m ?_ | with_reducible refine Val.u64m ?_ | with_reducible refine Val.shr8 ?_ | with_reducible refine Val.shr16 (by decide) ?_ | with_reducible refine Val.shr24 (by decide) ?_ | with_reducible refine Val.raw ?_ | refine Branch.not ?_ | refine Branch.and ?_ | refine Branch.or ?_ | refine Branch.dt (by assumption) ?_ | refine Branch.df (by assumption) ?_ | refine Branch.dt rfl ?_ | refine Branch.dt (by omega) ?_ | refine Branch.df (by omega) ?_ | refine Branch.t rfl ?_ | refine Branch.f rfl ?_ | refine Branch.t (by assumption) ?_ | refine Branch.f (by assumption) ?_ | refine Branch.d (fun _ => ?_) (fun _ => ?_) | refine Branch.mk (fun _ => ?_) (fun _ => ?_) | refine Need.mk (by first | omega | decide | rfl) ?_ | refine Idx.nat (by omega) ?_ | refine Idx.auto (by first | omega | decide) (by first | omega | decide) ?_ | refine Cell.ro rfl ?_ | refine SDraw.all (by kernel_rfl) ?_ | refine Kept.k0 ?_ | refine Kept.k1 ?_ | refine Kept.k2 ?_ | refine Kept.k3 ?_ | refine Kept.k4 ?_))
      rename_i t3
      -- the parts that are put together, at whatever place n
      have hcopy : ∀ n, n ≤ s.O.length → ∀ (t3 w : Nat × Blk) p (o : Oper) (xs xx : Operand) (K2 : Value → Heap → Prop), o.op = .call { callee := .builtin .append, args := #[xs, xx], argTypes := #[58, 58] } →
          (∀ q c, n ≤ c → c ≤ maxLen → K2 (.slice (some ⟨q, 0, none⟩) n c) ((q, .buf 96 ((s.O.take n).flatMap mC) (c * 13)) :: t3 :: w :: M)) → RawV Tryd.prog o [.slice (some ⟨p, 0, none⟩) 0 0, .slice oa n oc] ((p, .row 96 [] (0, 0)) :: t3 :: w :: M) K2 := by
        intro n hn t3 w p o xs xx K2 ho hk
        obtain ⟨g1, g2⟩ := hO.take hn
        refine RawV.copyS (bytes := 32) (sv := .slice oa n oc) (g1.mono fun z hz => .tail _ (.tail _ hz)) ho (by kernel_rfl) (by decide) mC_len mC_one (by rw [g2]; omega) (fun q c k1 k2 => ?_)
        rw [g2] at k1 ⊢
        exact hk q c k1 k2
      have hone : ∀ n, n ≤ s.O.length → ∀ (B : Heap) q c r (o : Oper) (xs xx : Operand) (K2 : Value → Heap → Prop), n ≤ c → c ≤ maxLen → o.op = .call { callee := .builtin .append, args := #[xs, xx], argTypes := #[58, 58] } →
          (∀ q' c', n + 1 ≤ c' → c' ≤ maxLen → K2 (.slice (some ⟨q', 0, none⟩) (n + 1) c') ((q', .buf 96 ((s.O.take n ++ [mailW f (s.tk + 1)]).flatMap mC) (c' * 13)) :: (r, .row 96 (mC (mailW f (s.tk + 1))) (0, 0)) :: B)) →
          RawV Tryd.prog o [.slice (some ⟨q, 0, none⟩) n c, .slice (some ⟨r, 0, none⟩) 1 1] ((r, .row 96 (mC (mailW f (s.tk + 1))) (0, 0)) :: (q, .buf 96 ((s.O.take n).flatMap mC) (c * 13)) :: B) K2 := by
        intro n hn B q c r o xs xx K2 k1 k2 ho hk
        have hgl : (s.O.take n).length = n := by simp; omega
        have hgb := Grow.buf (f := mC) (k := 13) (e := 96) (q := q) (c := c) (L := s.O.take n) (by rw [hgl]; exact k1) k2
        rw [hgl] at hgb
        refine RawV.grow1b (A := [(r, .row 96 (mC (mailW f (s.tk + 1))) (0, 0))]) (B := B) (x := mailW f (s.tk + 1)) (bytes := 32) hgb rfl (.head _) ho (by kernel_rfl) (by decide) mC_len (mC_one _) (by rw [hgl]; simp only [maxLen]; omega) (by rw [hgl]; omega) (fun q' c' j1 j2 => ?_)
        rw [hgl] at j1 ⊢
        exact hk q' c' j1 j2
      have hend : ∀ n, n ≤ s.O.length → ∀ (B : Heap) (sv : Value) q c (o : Oper) (xs xx : Operand) (K2 : Value → Heap → Prop), InS mC 13 sv B (s.O.drop n) → n + 1 ≤ c → c ≤ maxLen → o.op = .call { callee := .builtin .append, args := #[xs, xx], argTypes := #[58, 58] } →
          (∀ q' c', s.O.length + 1 ≤ c' → c' ≤ maxLen → K2 (.slice (some ⟨q', 0, none⟩) (s.O.length + 1) c') ((q', .buf 96 (((s.O.take n ++ [mailW f (s.tk + 1)]) ++ s.O.drop n).flatMap mC) (c' * 13)) :: B)) →
          RawV Tryd.prog o [.slice (some ⟨q, 0, none⟩) (n + 1) c, sv] ((q, .buf 96 ((s.O.take n ++ [mailW f (s.tk + 1)]).flatMap mC) (c * 13)) :: B) K2 := by
        intro n hn B sv q c o xs xx K2 hin k1 k2 ho hk
        have hgl : (s.O.take n ++ [mailW f (s.tk + 1)]).length = n + 1 := by simp; omega
        have hgt : ((s.O.take n ++ [mailW f (s.tk + 1)]) ++ s.O.drop n).length = s.O.length + 1 := by simp; omega
        have := RawV.appS (P := Tryd.prog) (K := K2) (o := o) (L1 := s.O.take n ++ [mailW f (s.tk + 1)]) (c := c) (q := q) (bytes := 32) hin (by rw [hgl]; exact k1) k2 ho (e := 96) (by kernel_rfl) (by decide) mC_len mC_one (by rw [hgt]; simp only [maxLen]; omega) (by rw [hgt]; omega) (fun q' c' j1 j2 => by
          rw [hgt] at j1 ⊢
          exact hk q' c' j1 j2)
        rw [hgl] at this
        exact this
      have hfin : ∀ n, n ≤ s.O.length → ahead (fld f) s.O = n → ∀ (r t3 : Nat × Blk) q c, s.O.length + 1 ≤ c → c ≤ maxLen →
          Keep ((q, .buf 96 (((s.O.take n ++ [mailW f (s.tk + 1)]) ++ s.O.drop n).flatMap mC) (c * 13)) :: r :: t3 :: rRow g (i64 s.most) (i64 s.room) (.slice la s.L.length lc) (.slice (some ⟨q, 0, none⟩) (s.O.length + 1) c) (.int .i64 ((s.tk + 1 : Nat) : Int)) (.slice ia s.I.length ic) (i64 s.lost) :: M) fun H' => K (tup2 ((s.tk + 1 : Nat) : Int) 0) H' := by
        intro n hn han r t3 q c k1 k2
        have hi : (s.O.take n ++ [mailW f (s.tk + 1)]) ++ s.O.drop n = insO (mailW f (s.tk + 1)) s.O := by unfold insO; rw [show ahead (mailW f (s.tk + 1)).fl s.O = n from han]
        rw [hi]
        refine Keep.glue [[(q, .buf 96 ((insO (mailW f (s.tk + 1)) s.O).flatMap mC) (c * 13))], [r, t3], [rRow g (i64 s.most) (i64 s.room) (.slice la s.L.length lc) (.slice (some ⟨q, 0, none⟩) (s.O.length + 1) c) (.int .i64 ((s.tk + 1 : Nat) : Int)) (.slice ia s.I.length ic) (i64 s.lost)], M] [0, 1, 2, 3] [2, 0, 3] [1] (by decide) rfl ?_
        have hb := Sl.buf (f := mC) (k := 13) (e := 96) (q := q) (c := c) (N := c * 13) (L := insO (mailW f (s.tk + 1)) s.O) (H := (q, .buf 96 ((insO (mailW f (s.tk + 1)) s.O).flatMap mC) (c * 13)) :: M) mC_len (by rw [insO_len]; exact k1) k2 (.head _)
        rw [insO_len] at hb
        exact h2 _ (RfO.mk (s := { s with tk := s.tk + 1, O := insO (mailW f (s.tk + 1)) s.O }) (hl.mono fun z hz => .tail _ hz) hb (hI.mono fun z hz => .tail _ hz) (fun z hz => .tail _ (hHb z hz)))
      clear h2
      refine SLoop.invA (fun (k : Nat) S H' => k ≤ s.O.length ∧ (∀ i y, i < k → s.O[i]? = some y → tlt (fld f) y.fl = false) ∧ S31 (ptr g) (ptr t3) (.string (strOf (fld f))) (.int .i64 (k : Int)) S ∧ H' = (t3, .row 26 (frC f) (0, 0)) :: rRow g (i64 s.most) (i64 s.room) (.slice la s.L.length lc) (.slice oa s.O.length oc) (.int .i64 ((s.tk + 1 : Nat) : Int)) (.slice ia s.I.length ic) (i64 s.lost) :: M) (fun k => s.O.length - k) 0 (Keep.all ⟨Nat.zero_le _, fun i y hi => absurd hi (Nat.not_lt_zero _), .mk, rfl⟩) ?_
      rintro k S H' ⟨hk, hno, hS, rfl⟩ R hR
      cases hS
      obtain ⟨hd1', hd2⟩ := hO.drop hk
      have hrest : ahead (fld f) s.O = k → True := fun _ => trivial
      -- what is behind place k
      have hin1 : oc = k → ∀ B : Heap, (∀ z ∈ M, z ∈ B) → InS mC 13 (.slice oa (s.O.length - k) (oc - k)) B (s.O.drop k) := fun hc B hB => by
        obtain ⟨_, _, _, _, _, h⟩ := (hd1' hc).mono hB
        exact h
      by_cases hlt2 : k < s.O.length
      · obtain ⟨x, hx, _⟩ := list_at hlt2
        obtain ⟨r, o, c, b, e1, hrb, hcc⟩ := inS_at hO1 mC_len hx
        injection e1 with e1 _ e3
        subst e1
        have hc12 : ∀ (j : Nat) v, (frC x.f)[j]? = some v → b.cell (o + k * 13 + 0 + j) = some v := by
          intro j v hj
          have hlt : j < 12 := (List.getElem?_eq_some_iff.1 hj).1
          refine hcc j v ?_
          have e : (mC x)[j]? = (frC x.f ++ [.int .i64 (x.ask : Int)])[j]? := rfl
          rw [e, List.getElem?_append_left hlt]
          exact hj
        obtain ⟨hxo, hxf⟩ := hw.ok x (List.mem_of_getElem? hx)
        have h45x := fun H (K2 : Value → Heap → Prop) hk => c45 (H := H) (K := K2) (f := x.f) hk
        unfold fV at h45x
        rw [hxo, if_pos rfl, ← hxf] at h45x
        have hgt := strGt_of x.fl (fld f)
        have hin2 : oc ≠ k → ∀ B : Heap, (∀ z ∈ M, z ∈ B) → InS mC 13 (.slice (some ⟨r, o + k * 13, none⟩) (s.O.length - k) (oc - k)) B (s.O.drop k) := fun hc B hB => by
          obtain ⟨_, _, _, _, _, h⟩ := (hd2 r o rfl).mono hB
          exact h
        cases htl : tlt (fld f) x.fl with
        | true =>
          rw [htl] at hgt
          have han := ahead_is (fl := fld f) (O := s.O) (n := k) hk hno (fun y hy => by rw [hx] at hy; injection hy with hy; subst hy; exact htl)
          have hfin := hfin k hk han
          have hcopy := hcopy k hk
          have hone := hone k hk
          have hend := hend k hk
          have hne : ¬ oc = k := by omega
          have hin2 := hin2 hne
          clear hR
          repeat' ((conv => whnf); (first | refine Branch.dt (by omega) ?_ | refine Look.cells (.tail _ (.tail _ hrb)) rfl hc12 ?_ | refine h45x _ _ ?_ | refine Branch.t hgt ?_ | refine SDraw.held (by kernel_rfl) [_, _] (.same (.head _) (.same (.tail _ (.head _)) .nil)) ?_ | refine hcopy _ _ _ _ _ _ _ rfl (fun q c j1 j2 => ?_) | refine c13 ?_ | refine hone _ _ _ _ _ _ _ _ j1 j2 rfl (fun q2 c2 j3 j4 => ?_) | refine hend _ _ _ _ _ _ _ _ (hin2 _ (fun z hz => .tail _ (.tail _ (.tail _ hz)))) j3 j4 rfl (fun q3 c3 j5 j6 => ?_) | refine Branch.df hne ?_ | refine Kept.mk (.same (.tail _ (.head _)) (.same (.tail _ (.tail _ (.head _))) .nil)) ?_ | exact hfin _ _ _ _ j5 j6 | refine New.mk (fun _ => ?_) | refine Look.at0 ?_ | refine Cell.row ?_ | refine Cell.buf ?_ | refine Cells.row rfl ?_ | refine Put.row rfl ?_ | refine Put.buf rfl ?_ | refine Look.at1 ?_ | refine Look.at2 ?_ | refine Look.at3 ?_ | refine Look.at4 ?_ | refine Look.at5 ?_ | refine Look.at6 ?_ | refine Look.at7 ?_ | refine Look.at8 ?_ | with_reducible refine Val.i64 (by omega) (by omega) ?_ | with_reducible refine Val.u8 (by omega) (by omega) ?_ | with_reducible refine Val.u32 (by omega) (by omega) ?_ | with_reducible refine Val.u64 (by omega) (by omega) ?_ | with_reducible refine Val.u8m ?_ | with_reducible refine Val.u32m ?_ | with_reducible refine Val.u64m ?_ | with_reducible refine Val.shr8 ?_ | with_reducible refine Val.shr16 (by decide) ?_ | with_reducible refine Val.shr24 (by decide) ?_ | with_reducible refine Val.raw ?_ | refine Branch.not ?_ | refine Branch.and ?_ | refine Branch.or ?_ | refine Branch.dt (by assumption) ?_ | refine Branch.df (by assumption) ?_ | refine Branch.dt rfl ?_ | refine Branch.dt (by omega) ?_ | refine Branch.df (by omega) ?_ | refine Branch.t rfl ?_ | refine Branch.f rfl ?_ | refine Branch.t (by assumption) ?_ | refine Branch.f (by assumption) ?_ | refine Branch.d (fun _ => ?_) (fun _ => ?_) | refine Branch.mk (fun _ => ?_) (fun _ => ?_) | refine Need.mk (by first | omega | decide | rfl) ?_ | refine Idx.nat (by omega) ?_ | refine Idx.auto (by first | omega | decide) (by first | omega | decide) ?_ | refine Cell.ro rfl ?_ | refine SDraw.all (by kernel_rfl) ?_ | refine Kept.k0 ?_ | refine Kept.k1 ?_ | refine Kept.k2 ?_ | refine Kept.k3 ?_ | refine Kept.k4 ?_))
        | false =>
          rw [htl] at hgt
          have hnext : ∀ S, S31 (ptr g) (ptr t3) (.string (strOf (fld f))) (.int .i64 ((k + 1 : Nat) : Int)) S → R S _ := fun S hS => hR (k + 1) S _ (by omega) (Keep.all ⟨hlt2, fun i y hi hy => by
            rcases Nat.lt_or_ge i k with h | h
            · exact hno i y h hy
            · obtain rfl : i = k := by omega
              rw [hx] at hy
              injection hy with hy
              subst hy
              exact htl, hS, rfl⟩)
          clear hR hcopy hone hend hfin
          repeat' ((conv => whnf); (first | refine Branch.dt (by omega) ?_ | refine Look.cells (.tail _ (.tail _ hrb)) rfl hc12 ?_ | refine h45x _ _ ?_ | refine Branch.f hgt ?_ | exact hnext _ .mk | refine New.mk (fun _ => ?_) | refine Look.at0 ?_ | refine Cell.row ?_ | refine Cell.buf ?_ | refine Cells.row rfl ?_ | refine Put.row rfl ?_ | refine Put.buf rfl ?_ | refine Look.at1 ?_ | refine Look.at2 ?_ | refine Look.at3 ?_ | refine Look.at4 ?_ | refine Look.at5 ?_ | refine Look.at6 ?_ | refine Look.at7 ?_ | refine Look.at8 ?_ | with_reducible refine Val.i64 (by omega) (by omega) ?_ | with_reducible refine Val.u8 (by omega) (by omega) ?_ | with_reducible refine Val.u32 (by omega) (by omega) ?_ | with_reducible refine Val.u64 (by omega) (by omega) ?_ | with_reducible refine Val.u8m ?_ | with_reducible refine Val.u32m ?_ | with_reducible refine Val.u64m ?_ | with_reducible refine Val.shr8 ?_ | with_reducible refine Val.shr16 (by decide) ?_ | with_reducible refine Val.shr24 (by decide) ?_ | with_reducible refine Val.raw ?_ | refine Branch.not ?_ | refine Branch.and ?_ | refine Branch.or ?_ | refine Branch.dt (by assumption) ?_ | refine Branch.df (by assumption) ?_ | refine Branch.dt rfl ?_ | refine Branch.dt (by omega) ?_ | refine Branch.df (by omega) ?_ | refine Branch.t rfl ?_ | refine Branch.f rfl ?_ | refine Branch.t (by assumption) ?_ | refine Branch.f (by assumption) ?_ | refine Branch.d (fun _ => ?_) (fun _ => ?_) | refine Branch.mk (fun _ => ?_) (fun _ => ?_) | refine Need.mk (by first | omega | decide | rfl) ?_ | refine Idx.nat (by omega) ?_ | refine Idx.auto (by first | omega | decide) (by first | omega | decide) ?_ | refine Cell.ro rfl ?_ | refine SDraw.all (by kernel_rfl) ?_ | refine Kept.k0 ?_ | refine Kept.k1 ?_ | refine Kept.k2 ?_ | refine Kept.k3 ?_ | refine Kept.k4 ?_))
      · obtain rfl : k = s.O.length := by omega
        have han := ahead_is (fl := fld f) (O := s.O) (n := s.O.length) hk hno (fun y hy => by have := (List.getElem?_eq_some_iff.1 hy).1; omega)
        have hfin := hfin _ hk han
        have hcopy := hcopy _ hk
        have hone := hone _ hk
        have hend := hend _ hk
        clear hR
        by_cases hne : oc = s.O.length
        · have hin1 := hin1 hne
          repeat' ((conv => whnf); (first | refine Branch.df (by omega) ?_ | refine SDraw.held (by kernel_rfl) [_, _] (.same (.head _) (.same (.tail _ (.head _)) .nil)) ?_ | refine hcopy _ _ _ _ _ _ _ rfl (fun q c j1 j2 => ?_) | refine c13 ?_ | refine hone _ _ _ _ _ _ _ _ j1 j2 rfl (fun q2 c2 j3 j4 => ?_) | refine hend _ _ _ _ _ _ _ _ (hin1 _ (fun z hz => .tail _ (.tail _ (.tail _ hz)))) j3 j4 rfl (fun q3 c3 j5 j6 => ?_) | refine Branch.dt hne ?_ | refine Kept.mk (.same (.tail _ (.head _)) (.same (.tail _ (.tail _ (.head _))) .nil)) ?_ | exact hfin _ _ _ _ j5 j6 | refine New.mk (fun _ => ?_) | refine Look.at0 ?_ | refine Cell.row ?_ | refine Cell.buf ?_ | refine Cells.row rfl ?_ | refine Put.row rfl ?_ | refine Put.buf rfl ?_ | refine Look.at1 ?_ | refine Look.at2 ?_ | refine Look.at3 ?_ | refine Look.at4 ?_ | refine Look.at5 ?_ | refine Look.at6 ?_ | refine Look.at7 ?_ | refine Look.at8 ?_ | with_reducible refine Val.i64 (by omega) (by omega) ?_ | with_reducible refine Val.u8 (by omega) (by omega) ?_ | with_reducible refine Val.u32 (by omega) (by omega) ?_ | with_reducible refine Val.u64 (by omega) (by omega) ?_ | with_reducible refine Val.u8m ?_ | with_reducible refine Val.u32m ?_ | with_reducible refine Val.u64m ?_ | with_reducible refine Val.shr8 ?_ | with_reducible refine Val.shr16 (by decide) ?_ | with_reducible refine Val.shr24 (by decide) ?_ | with_reducible refine Val.raw ?_ | refine Branch.not ?_ | refine Branch.and ?_ | refine Branch.or ?_ | refine Branch.dt (by assumption) ?_ | refine Branch.df (by assumption) ?_ | refine Branch.dt rfl ?_ | refine Branch.dt (by omega) ?_ | refine Branch.df (by omega) ?_ | refine Branch.t rfl ?_ | refine Branch.f rfl ?_ | refine Branch.t (by assumption) ?_ | refine Branch.f (by assumption) ?_ | refine Branch.d (fun _ => ?_) (fun _ => ?_) | refine Branch.mk (fun _ => ?_) (fun _ => ?_) | refine Need.mk (by first | omega | decide | rfl) ?_ | refine Idx.nat (by omega) ?_ | refine Idx.auto (by first | omega | decide) (by first | omega | decide) ?_ | refine Cell.ro rfl ?_ | refine SDraw.all (by kernel_rfl) ?_ | refine Kept.k0 ?_ | refine Kept.k1 ?_ | refine Kept.k2 ?_ | refine Kept.k3 ?_ | refine Kept.k4 ?_))
        · have hdn : s.O.drop s.O.length = [] := List.drop_eq_nil_of_le (Nat.le_refl _)
          rcases hoa with ⟨rfl, _⟩ | ⟨r, o, rfl⟩
          · have hin2 : ∀ B : Heap, InS mC 13 (.slice none (s.O.length - s.O.length) (oc - s.O.length)) B (s.O.drop s.O.length) := fun B => by
              rw [hdn, Nat.sub_self]
              exact InS.nil
            repeat' ((conv => whnf); (first | refine Branch.df (by omega) ?_ | refine SDraw.held (by kernel_rfl) [_, _] (.same (.head _) (.same (.tail _ (.head _)) .nil)) ?_ | refine hcopy _ _ _ _ _ _ _ rfl (fun q c j1 j2 => ?_) | refine c13 ?_ | refine hone _ _ _ _ _ _ _ _ j1 j2 rfl (fun q2 c2 j3 j4 => ?_) | refine hend _ _ _ _ _ _ _ _ (hin2 _) j3 j4 rfl (fun q3 c3 j5 j6 => ?_) | refine Branch.df hne ?_ | refine Kept.mk (.same (.tail _ (.head _)) (.same (.tail _ (.tail _ (.head _))) .nil)) ?_ | exact hfin _ _ _ _ j5 j6 | refine New.mk (fun _ => ?_) | refine Look.at0 ?_ | refine Cell.row ?_ | refine Cell.buf ?_ | refine Cells.row rfl ?_ | refine Put.row rfl ?_ | refine Put.buf rfl ?_ | refine Look.at1 ?_ | refine Look.at2 ?_ | refine Look.at3 ?_ | refine Look.at4 ?_ | refine Look.at5 ?_ | refine Look.at6 ?_ | refine Look.at7 ?_ | refine Look.at8 ?_ | with_reducible refine Val.i64 (by omega) (by omega) ?_ | with_reducible refine Val.u8 (by omega) (by omega) ?_ | with_reducible refine Val.u32 (by omega) (by omega) ?_ | with_reducible refine Val.u64 (by omega) (by omega) ?_ | with_reducible refine Val.u8m ?_ | with_reducible refine Val.u32m ?_ | with_reducible refine Val.u64m ?_ | with_reducible refine Val.shr8 ?_ | with_reducible refine Val.shr16 (by decide) ?_ | with_reducible refine Val.shr24 (by decide) ?_ | with_reducible refine Val.raw ?_ | refine Branch.not ?_ | refine Branch.and ?_ | refine Branch.or ?_ | refine Branch.dt (by assumption) ?_ | refine Branch.df (by assumption) ?_ | refine Branch.dt rfl ?_ | refine Branch.dt (by omega) ?_ | refine Branch.df (by omega) ?_ | refine Branch.t rfl ?_ | refine Branch.f rfl ?_ | refine Branch.t (by assumption) ?_ | refine Branch.f (by assumption) ?_ | refine Branch.d (fun _ => ?_) (fun _ => ?_) | refine Branch.mk (fun _ => ?_) (fun _ => ?_) | refine Need.mk (by first | omega | decide | rfl) ?_ | refine Idx.nat (by omega) ?_ | refine Idx.auto (by first | omega | decide) (by first | omega | decide) ?_ | refine Cell.ro rfl ?_ | refine SDraw.all (by kernel_rfl) ?_ | refine Kept.k0 ?_ | refine Kept.k1 ?_ | refine Kept.k2 ?_ | refine Kept.k3 ?_ | refine Kept.k4 ?_))
          · have hin2 : ∀ B : Heap, InS mC 13 (.slice (some ⟨r, o + s.O.length * 13, none⟩) (s.O.length - s.O.length) (oc - s.O.length)) B (s.O.drop s.O.length) := fun B => by
              rw [hdn, Nat.sub_self]
              exact InS.nil
            repeat' ((conv => whnf); (first | refine Branch.df (by omega) ?_ | refine SDraw.held (by kernel_rfl) [_, _] (.same (.head _) (.same (.tail _ (.head _)) .nil)) ?_ | refine hcopy _ _ _ _ _ _ _ rfl (fun q c j1 j2 => ?_) | refine c13 ?_ | refine hone _ _ _ _ _ _ _ _ j1 j2 rfl (fun q2 c2 j3 j4 => ?_) | refine hend _ _ _ _ _ _ _ _ (hin2 _) j3 j4 rfl (fun q3 c3 j5 j6 => ?_) | refine Branch.df hne ?_ | refine Kept.mk (.same (.tail _ (.head _)) (.same (.tail _ (.tail _ (.head _))) .nil)) ?_ | exact hfin _ _ _ _ j5 j6 | refine New.mk (fun _ => ?_) | refine Look.at0 ?_ | refine Cell.row ?_ | refine Cell.buf ?_ | refine Cells.row rfl ?_ | refine Put.row rfl ?_ | refine Put.buf rfl ?_ | refine Look.at1 ?_ | refine Look.at2 ?_ | refine Look.at3 ?_ | refine Look.at4 ?_ | refine Look.at5 ?_ | refine Look.at6 ?_ | refine Look.at7 ?_ | refine Look.at8 ?_ | with_reducible refine Val.i64 (by omega) (by omega) ?_ | with_reducible refine Val.u8 (by omega) (by omega) ?_ | with_reducible refine Val.u32 (by omega) (by omega) ?_ | with_reducible refine Val.u64 (by omega) (by omega) ?_ | with_reducible refine Val.u8m ?_ | with_reducible refine Val.u32m ?_ | with_reducible refine Val.u64m ?_ | with_reducible refine Val.shr8 ?_ | with_reducible refine Val.shr16 (by decide) ?_ | with_reducible refine Val.shr24 (by decide) ?_ | with_reducible refine Val.raw ?_ | refine Branch.not ?_ | refine Branch.and ?_ | refine Branch.or ?_ | refine Branch.dt (by assumption) ?_ | refine Branch.df (by assumption) ?_ | refine Branch.dt rfl ?_ | refine Branch.dt (by omega) ?_ | refine Branch.df (by omega) ?_ | refine Branch.t rfl ?_ | refine Branch.f rfl ?_ | refine Branch.t (by assumption) ?_ | refine Branch.f (by assumption) ?_ | refine Branch.d (fun _ => ?_) (fun _ => ?_) | refine Branch.mk (fun _ => ?_) (fun _ => ?_) | refine Need.mk (by first | omega | decide | rfl) ?_ | refine Idx.nat (by omega) ?_ | refine Idx.auto (by first | omega | decide) (by first | omega | decide) ?_ | refine Cell.ro rfl ?_ | refine SDraw.all (by kernel_rfl) ?_ | refine Kept.k0 ?_ | refine Kept.k1 ?_ | refine Kept.k2 ?_ | refine Kept.k3 ?_ | refine Kept.k4 ?_))
    · have hk := h1 hg (by omega)
      clear h0 h2
      repeat' ((conv => whnf); (first | refine h45 _ _ ?_ | refine Branch.f rfl ?_ | refine Branch.dt (by omega) ?_ | exact Keep.d1 hk | refine New.mk (fun _ => ?_) | refine Look.at0 ?_ | refine Cell.row ?_ | refine Cell.buf ?_ | refine Cells.row rfl ?_ | refine Put.row rfl ?_ | refine Put.buf rfl ?_ | refine Look.at1 ?_ | refine Look.at2 ?_ | refine Look.at3 ?_ | refine Look.at4 ?_ | refine Look.at5 ?_ | refine Look.at6 ?_ | refine Look.at7 ?_ | refine Look.at8 ?_ | with_reducible refine Val.i64 (by omega) (by omega) ?_ | with_reducible refine Val.u8 (by omega) (by omega) ?_ | with_reducible refine Val.u32 (by omega) (by omega) ?_ | with_reducible refine Val.u64 (by omega) (by omega) ?_ | with_reducible refine Val.u8m ?_ | with_reducible refine Val.u32m ?_ | with_reducible refine Val.u64m ?_ | with_reducible refine Val.shr8 ?_ | with_reducible refine Val.shr16 (by decide) ?_ | with_reducible refine Val.shr24 (by decide) ?_ | with_reducible refine Val.raw ?_ | refine Branch.not ?_ | refine Branch.and ?_ | refine Branch.or ?_ | refine Branch.dt (by assumption) ?_ | refine Branch.df (by assumption) ?_ | refine Branch.dt rfl ?_ | refine Branch.dt (by omega) ?_ | refine Branch.df (by omega) ?_ | refine Branch.t rfl ?_ | refine Branch.f rfl ?_ | refine Branch.t (by assumption) ?_ | refine Branch.f (by assumption) ?_ | refine Branch.d (fun _ => ?_) (fun _ => ?_) | refine Branch.mk (fun _ => ?_) (fun _ => ?_) | refine Need.mk (by first | omega | decide | rfl) ?_ | refine Idx.nat (by omega) ?_ | refine Idx.auto (by first | omega | decide) (by first | omega | decide) ?_ | refine Cell.ro rfl ?_ | refine SDraw.all (by kernel_rfl) ?_ | refine Kept.k0 ?_ | refine Kept.k1 ?_ | refine Kept.k2 ?_ | refine Kept.k3 ?_ | refine Kept.k4 ?_))
end
end Go.Proofs.YthgpikgbhkcnbaaDoor

/- Layer 5: the document's driver: Drop, Take, Fetch: by walks. -/
set_option linter.unusedVariables false
set_option linter.unusedSimpArgs false
set_option maxRecDepth 100000
set_option maxHeartbeats 4000000
namespace Go.Proofs.YthgpikgbhkcnbaaDoor
open Sx
theorem erase_is {α : Type} (L : List α) (n : Nat) : L.take n ++ L.drop (n + 1) = L.eraseIdx n := (List.eraseIdx_eq_take_drop_succ L n).symm
def takeR (s : Rf) (f : Fm) : Rf := if okF f then if pas s.L f then if s.room ≤ s.I.length then { s with lost := s.lost + 1 } else { s with I := s.I ++ [plF f] } else s else s
def takeRE (s : Rf) (f : Fm) : Int := if okF f then if pas s.L f then if s.room ≤ s.I.length then 50 else 0 else 4 else 1
section
variable {K : Value → Heap → Prop} {g : Nat} {s : Rf} {Hb H F : Heap} {f : Fm}
theorem c33 {t : Int} {nx : Bool} (hw : RfW s) (h : RfO g s Hb F) (h0 : (∀ y ∈ s.O, nx = false ∧ (y.ask : Int) ≠ t) → K (.bool false) F)
    (h1 : ∀ (n : Nat) (y : Wn), s.O[n]? = some y → (nx = true ∨ (y.ask : Int) = t) → (∀ i z, i < n → s.O[i]? = some z → nx = false ∧ (z.ask : Int) ≠ t) → ∀ F', RfO g { s with O := s.O.eraseIdx n } Hb F' → K (.bool true) F') : SCalls Tryd.prog 33 [ptr g, .int .i64 t, .bool nx] F K := by
  obtain ⟨la, lc, oa, oc, ia, ic, M, rfl, hl, hO, hI, hHb⟩ := h.look
  obtain ⟨hcap, hO1, hoa⟩ := hO.cases
  have hOl := hw.O
  have hm := hw.most
  refine enter33 ?_
  repeat' ((conv => whnf); (first | refine New.mk (fun _ => ?_) | refine Look.at0 ?_ | refine Cell.row ?_ | refine Cell.buf ?_ | refine Cells.row rfl ?_ | refine Put.row rfl ?_ | refine Put.buf rfl ?_ | refine Look.at1 ?_ | refine Look.at2 ?_ | refine Look.at3 ?_ | refine Look.at4 ?_ | refine Look.at5 ?_ | refine Look.at6 ?_ | refine Look.at7 ?_ | refine Look.at8 ?_ | with_reducible refine Val.i64 (by omega) (by omega) ?_ | with_reducible refine Val.u8 (by omega) (by omega) ?_ | with_reducible refine Val.u32 (by omega) (by omega) ?_ | with_reducible refine Val.u64 (by omega) (by omega) ?_ | with_reducible refine Val.u8m ?_ | with_reducible refine Val.u32m ?_ | with_reducible refine Val.u64m ?_ | with_reducible refine Val.shr8 ?_ | with_reducible refine Val.shr16 (by decide) ?_ | with_reducible refine Val.shr24 (by decide) ?_ | with_reducible refine Val.raw ?_ | refine Branch.not ?_ | refine Branch.and ?_ | refine Branch.or ?_ | refine Branch.dt (by assumption) ?_ | refine Branch.df (by assumption) ?_ | refine Branch.dt rfl ?_ | refine Branch.dt (by omega) ?_ | refine Branch.df (by omega) ?_ | refine Branch.t rfl ?_ | refine Branch.f rfl ?_ | refine Branch.t (by assumption) ?_ | refine Branch.f (by assumption) ?_ | refine Branch.d (fun _ => ?_) (fun _ => ?_) | refine Branch.mk (fun _ => ?_) (fun _ => ?_) | refine Need.mk (by first | omega | decide | rfl) ?_ | refine Idx.nat (by omega) ?_ | refine Idx.auto (by first | omega | decide) (by first | omega | decide) ?_ | refine Cell.ro rfl ?_ | refine SDraw.all (by kernel_rfl) ?_ | refine Kept.k0 ?_ | refine Kept.k1 ?_ | refine Kept.k2 ?_ | refine Kept.k3 ?_ | refine Kept.k4 ?_))
  refine SLoop.invA (fun (k : Nat) S H' => k ≤ s.O.length ∧ (∀ i y, i < k → s.O[i]? = some y → nx = false ∧ (y.ask : Int) ≠ t) ∧ S33 (ptr g) (.int .i64 t) (.bool nx) (.int .i64 (k : Int)) S ∧ H' = rRow g (i64 s.most) (i64 s.room) (.slice la s.L.length lc) (.slice oa s.O.length oc) (i64 s.tk) (.slice ia s.I.length ic) (i64 s.lost) :: M) (fun k => s.O.length - k) 0 (Keep.all ⟨Nat.zero_le _, fun i y hi => absurd hi (Nat.not_lt_zero _), .mk, rfl⟩) ?_
  rintro k S H' ⟨hk, hno, hS, rfl⟩ R hR
  cases hS
  by_cases hlt2 : k < s.O.length
  · obtain ⟨x, hx, _⟩ := list_at hlt2
    obtain ⟨r, o, c, b, e1, hrb, hcc⟩ := inS_at hO1 mC_len hx
    injection e1 with e1 _ e3
    subst e1
    have ht12 := hcc 12 _ rfl
    obtain ⟨hd1', hd2⟩ := hO.drop (show k + 1 ≤ s.O.length by omega)
    have hd2 := hd2 r o rfl
    have herl : (s.O.take k ++ s.O.drop (k + 1)).length = s.O.length - 1 := by simp; omega
    have hcopy : ∀ (w : Nat × Blk) p (o' : Oper) (xs xx : Operand) (K2 : Value → Heap → Prop), o'.op = .call { callee := .builtin .append, args := #[xs, xx], argTypes := #[58, 58] } →
        (∀ q c, k ≤ c → c ≤ maxLen → K2 (.slice (some ⟨q, 0, none⟩) k c) ((q, .buf 96 ((s.O.take k).flatMap mC) (c * 13)) :: w :: M)) → RawV Tryd.prog o' [.slice (some ⟨p, 0, none⟩) 0 0, .slice (some ⟨r, o, none⟩) k oc] ((p, .row 96 [] (0, 0)) :: w :: M) K2 := by
      intro w p o' xs xx K2 ho hk
      obtain ⟨g1, g2⟩ := hO.take (show k ≤ s.O.length by omega)
      refine RawV.copyS (bytes := 32) (sv := .slice (some ⟨r, o, none⟩) k oc) (g1.mono fun z hz => .tail _ hz) ho (by kernel_rfl) (by decide) mC_len mC_one (by rw [g2]; omega) (fun q c k1 k2 => ?_)
      rw [g2] at k1 ⊢
      exact hk q c k1 k2
    have hend : ∀ (B : Heap) (sv : Value) q c (o' : Oper) (xs xx : Operand) (K2 : Value → Heap → Prop), InS mC 13 sv B (s.O.drop (k + 1)) → k ≤ c → c ≤ maxLen → o'.op = .call { callee := .builtin .append, args := #[xs, xx], argTypes := #[58, 58] } →
        (∀ q' c', s.O.length - 1 ≤ c' → c' ≤ maxLen → K2 (.slice (some ⟨q', 0, none⟩) (s.O.length - 1) c') ((q', .buf 96 ((s.O.eraseIdx k).flatMap mC) (c' * 13)) :: B)) →
        RawV Tryd.prog o' [.slice (some ⟨q, 0, none⟩) k c, sv] ((q, .buf 96 ((s.O.take k).flatMap mC) (c * 13)) :: B) K2 := by
      intro B sv q c o' xs xx K2 hin k1 k2 ho hk
      have hgl : (s.O.take k).length = k := by simp; omega
      have := RawV.appS (P := Tryd.prog) (K := K2) (o := o') (L1 := s.O.take k) (c := c) (q := q) (bytes := 32) hin (by rw [hgl]; exact k1) k2 ho (e := 96) (by kernel_rfl) (by decide) mC_len mC_one (by rw [herl]; simp only [maxLen]; omega) (by rw [herl]; omega) (fun q' c' j1 j2 => by
        rw [herl] at j1 ⊢
        rw [erase_is]
        exact hk q' c' j1 j2)
      rw [hgl] at this
      exact this
    have hfin : (nx = true ∨ (x.ask : Int) = t) → ∀ q c, s.O.length - 1 ≤ c → c ≤ maxLen →
        Keep ((q, .buf 96 ((s.O.eraseIdx k).flatMap mC) (c * 13)) :: rRow g (i64 s.most) (i64 s.room) (.slice la s.L.length lc) (.slice (some ⟨q, 0, none⟩) (s.O.length - 1) c) (i64 s.tk) (.slice ia s.I.length ic) (i64 s.lost) :: M) fun H' => K (.bool true) H' := by
      intro hyes q c k1 k2
      have hel : (s.O.eraseIdx k).length = s.O.length - 1 := List.length_eraseIdx_of_lt hlt2
      refine Keep.glue [[(q, .buf 96 ((s.O.eraseIdx k).flatMap mC) (c * 13))], [rRow g (i64 s.most) (i64 s.room) (.slice la s.L.length lc) (.slice (some ⟨q, 0, none⟩) (s.O.length - 1) c) (i64 s.tk) (.slice ia s.I.length ic) (i64 s.lost)], M] [0, 1, 2] [1, 0, 2] [] (by decide) rfl ?_
      have hb := Sl.buf (f := mC) (k := 13) (e := 96) (q := q) (c := c) (N := c * 13) (L := s.O.eraseIdx k) (H := (q, .buf 96 ((s.O.eraseIdx k).flatMap mC) (c * 13)) :: M) mC_len (by rw [hel]; exact k1) k2 (.head _)
      rw [hel] at hb
      exact h1 k x hx hyes hno _ (RfO.mk (s := { s with O := s.O.eraseIdx k }) (hl.mono fun z hz => .tail _ hz) hb (hI.mono fun z hz => .tail _ hz) (fun z hz => .tail _ (hHb z hz)))
    have hnext : nx = false ∧ (x.ask : Int) ≠ t → ∀ S, S33 (ptr g) (.int .i64 t) (.bool nx) (.int .i64 ((k + 1 : Nat) : Int)) S → R S _ := fun hyn S hS => hR (k + 1) S _ (by omega) (Keep.all ⟨hlt2, fun i y hi hy => by
      rcases Nat.lt_or_ge i k with h | h
      · exact hno i y h hy
      · obtain rfl : i = k := by omega
        rw [hx] at hy
        injection hy with hy
        subst hy
        exact hyn, hS, rfl⟩)
    have hin1 : oc = k + 1 → ∀ B : Heap, (∀ z ∈ M, z ∈ B) → InS mC 13 (.slice (some ⟨r, o, none⟩) (s.O.length - (k + 1)) (oc - (k + 1))) B (s.O.drop (k + 1)) := fun hc B hB => by
      obtain ⟨_, _, _, _, _, h⟩ := (hd1' hc).mono hB
      exact h
    have hin2 : ∀ B : Heap, (∀ z ∈ M, z ∈ B) → InS mC 13 (.slice (some ⟨r, o + (k + 1) * 13, none⟩) (s.O.length - (k + 1)) (oc - (k + 1))) B (s.O.drop (k + 1)) := fun B hB => by
      obtain ⟨_, _, _, _, _, h⟩ := hd2.mono hB
      exact h
    have hdo : ∀ (hy : nx = true ∨ (x.ask : Int) = t), True := fun _ => trivial
    clear hR h0 h1
    cases nx with
    | true =>
      have hfin := hfin (.inl rfl)
      by_cases hne : oc = k + 1
      · have hin1 := hin1 hne
        repeat' ((conv => whnf); (first | refine Branch.dt (by omega) ?_ | refine Branch.t rfl ?_ | refine SDraw.held (by kernel_rfl) [_] (.same (.head _) .nil) ?_ | with_reducible refine Val.to ((k + 1 : Nat) : Int) (by rw [wrap_i64 (by omega) (by omega)]; omega) ?_ | refine Idx.of k rfl (by omega) ?_ | refine Idx.of (k + 1) rfl (by omega) ?_ | refine hcopy _ _ _ _ _ _ rfl (fun q c j1 j2 => ?_) | refine hend _ _ _ _ _ _ _ _ (hin1 _ (fun z hz => .tail _ hz)) j1 j2 rfl (fun q3 c3 j5 j6 => ?_) | refine Branch.dt hne ?_ | refine Kept.mk (.same (.tail _ (.head _)) .nil) ?_ | exact hfin _ _ j5 j6 | refine New.mk (fun _ => ?_) | refine Look.at0 ?_ | refine Cell.row ?_ | refine Cell.buf ?_ | refine Cells.row rfl ?_ | refine Put.row rfl ?_ | refine Put.buf rfl ?_ | refine Look.at1 ?_ | refine Look.at2 ?_ | refine Look.at3 ?_ | refine Look.at4 ?_ | refine Look.at5 ?_ | refine Look.at6 ?_ | refine Look.at7 ?_ | refine Look.at8 ?_ | with_reducible refine Val.i64 (by omega) (by omega) ?_ | with_reducible refine Val.u8 (by omega) (by omega) ?_ | with_reducible refine Val.u32 (by omega) (by omega) ?_ | with_reducible refine Val.u64 (by omega) (by omega) ?_ | with_reducible refine Val.u8m ?_ | with_reducible refine Val.u32m ?_ | with_reducible refine Val.u64m ?_ | with_reducible refine Val.shr8 ?_ | with_reducible refine Val.shr16 (by decide) ?_ | with_reducible refine Val.shr24 (by decide) ?_ | with_reducible refine Val.raw ?_ | refine Branch.not ?_ | refine Branch.and ?_ | refine Branch.or ?_ | refine Branch.dt (by assumption) ?_ | refine Branch.df (by assumption) ?_ | refine Branch.dt rfl ?_ | refine Branch.dt (by omega) ?_ | refine Branch.df (by omega) ?_ | refine Branch.t rfl ?_ | refine Branch.f rfl ?_ | refine Branch.t (by assumption) ?_ | refine Branch.f (by assumption) ?_ | refine Branch.d (fun _ => ?_) (fun _ => ?_) | refine Branch.mk (fun _ => ?_) (fun _ => ?_) | refine Need.mk (by first | omega | decide | rfl) ?_ | refine Idx.nat (by omega) ?_ | refine Idx.auto (by first | omega | decide) (by first | omega | decide) ?_ | refine Cell.ro rfl ?_ | refine SDraw.all (by kernel_rfl) ?_ | refine Kept.k0 ?_ | refine Kept.k1 ?_ | refine Kept.k2 ?_ | refine Kept.k3 ?_ | refine Kept.k4 ?_))
      · repeat' ((conv => whnf); (first | refine Branch.dt (by omega) ?_ | refine Branch.t rfl ?_ | refine SDraw.held (by kernel_rfl) [_] (.same (.head _) .nil) ?_ | with_reducible refine Val.to ((k + 1 : Nat) : Int) (by rw [wrap_i64 (by omega) (by omega)]; omega) ?_ | refine Idx.of k rfl (by omega) ?_ | refine Idx.of (k + 1) rfl (by omega) ?_ | refine hcopy _ _ _ _ _ _ rfl (fun q c j1 j2 => ?_) | refine hend _ _ _ _ _ _ _ _ (hin2 _ (fun z hz => .tail _ hz)) j1 j2 rfl (fun q3 c3 j5 j6 => ?_) | refine Branch.df hne ?_ | refine Kept.mk (.same (.tail _ (.head _)) .nil) ?_ | exact hfin _ _ j5 j6 | refine New.mk (fun _ => ?_) | refine Look.at0 ?_ | refine Cell.row ?_ | refine Cell.buf ?_ | refine Cells.row rfl ?_ | refine Put.row rfl ?_ | refine Put.buf rfl ?_ | refine Look.at1 ?_ | refine Look.at2 ?_ | refine Look.at3 ?_ | refine Look.at4 ?_ | refine Look.at5 ?_ | refine Look.at6 ?_ | refine Look.at7 ?_ | refine Look.at8 ?_ | with_reducible refine Val.i64 (by omega) (by omega) ?_ | with_reducible refine Val.u8 (by omega) (by omega) ?_ | with_reducible refine Val.u32 (by omega) (by omega) ?_ | with_reducible refine Val.u64 (by omega) (by omega) ?_ | with_reducible refine Val.u8m ?_ | with_reducible refine Val.u32m ?_ | with_reducible refine Val.u64m ?_ | with_reducible refine Val.shr8 ?_ | with_reducible refine Val.shr16 (by decide) ?_ | with_reducible refine Val.shr24 (by decide) ?_ | with_reducible refine Val.raw ?_ | refine Branch.not ?_ | refine Branch.and ?_ | refine Branch.or ?_ | refine Branch.dt (by assumption) ?_ | refine Branch.df (by assumption) ?_ | refine Branch.dt rfl ?_ | refine Branch.dt (by omega) ?_ | refine Branch.df (by omega) ?_ | refine Branch.t rfl ?_ | refine Branch.f rfl ?_ | refine Branch.t (by assumption) ?_ | refine Branch.f (by assumption) ?_ | refine Branch.d (fun _ => ?_) (fun _ => ?_) | refine Branch.mk (fun _ => ?_) (fun _ => ?_) | refine Need.mk (by first | omega | decide | rfl) ?_ | refine Idx.nat (by omega) ?_ | refine Idx.auto (by first | omega | decide) (by first | omega | decide) ?_ | refine Cell.ro rfl ?_ | refine SDraw.all (by kernel_rfl) ?_ | refine Kept.k0 ?_ | refine Kept.k1 ?_ | refine Kept.k2 ?_ | refine Kept.k3 ?_ | refine Kept.k4 ?_))
    | false =>
      by_cases hyt : (x.ask : Int) = t
      · have hfin := hfin (.inr hyt)
        by_cases hne : oc = k + 1
        · have hin1 := hin1 hne
          repeat' ((conv => whnf); (first | refine Branch.dt hyt ?_ | refine Branch.dt (by omega) ?_ | refine Branch.f rfl ?_ | refine SDraw.held (by kernel_rfl) [_] (.same (.head _) .nil) ?_ | with_reducible refine Val.to ((k + 1 : Nat) : Int) (by rw [wrap_i64 (by omega) (by omega)]; omega) ?_ | refine Idx.of k rfl (by omega) ?_ | refine Idx.of (k + 1) rfl (by omega) ?_ | refine Look.cell (.tail _ hrb) ht12 ?_ | refine hcopy _ _ _ _ _ _ rfl (fun q c j1 j2 => ?_) | refine hend _ _ _ _ _ _ _ _ (hin1 _ (fun z hz => .tail _ hz)) j1 j2 rfl (fun q3 c3 j5 j6 => ?_) | refine Branch.dt hne ?_ | refine Kept.mk (.same (.tail _ (.head _)) .nil) ?_ | exact hfin _ _ j5 j6 | refine New.mk (fun _ => ?_) | refine Look.at0 ?_ | refine Cell.row ?_ | refine Cell.buf ?_ | refine Cells.row rfl ?_ | refine Put.row rfl ?_ | refine Put.buf rfl ?_ | refine Look.at1 ?_ | refine Look.at2 ?_ | refine Look.at3 ?_ | refine Look.at4 ?_ | refine Look.at5 ?_ | refine Look.at6 ?_ | refine Look.at7 ?_ | refine Look.at8 ?_ | with_reducible refine Val.i64 (by omega) (by omega) ?_ | with_reducible refine Val.u8 (by omega) (by omega) ?_ | with_reducible refine Val.u32 (by omega) (by omega) ?_ | with_reducible refine Val.u64 (by omega) (by omega) ?_ | with_reducible refine Val.u8m ?_ | with_reducible refine Val.u32m ?_ | with_reducible refine Val.u64m ?_ | with_reducible refine Val.shr8 ?_ | with_reducible refine Val.shr16 (by decide) ?_ | with_reducible refine Val.shr24 (by decide) ?_ | with_reducible refine Val.raw ?_ | refine Branch.not ?_ | refine Branch.and ?_ | refine Branch.or ?_ | refine Branch.dt (by assumption) ?_ | refine Branch.df (by assumption) ?_ | refine Branch.dt rfl ?_ | refine Branch.dt (by omega) ?_ | refine Branch.df (by omega) ?_ | refine Branch.t rfl ?_ | refine Branch.f rfl ?_ | refine Branch.t (by assumption) ?_ | refine Branch.f (by assumption) ?_ | refine Branch.d (fun _ => ?_) (fun _ => ?_) | refine Branch.mk (fun _ => ?_) (fun _ => ?_) | refine Need.mk (by first | omega | decide | rfl) ?_ | refine Idx.nat (by omega) ?_ | refine Idx.auto (by first | omega | decide) (by first | omega | decide) ?_ | refine Cell.ro rfl ?_ | refine SDraw.all (by kernel_rfl) ?_ | refine Kept.k0 ?_ | refine Kept.k1 ?_ | refine Kept.k2 ?_ | refine Kept.k3 ?_ | refine Kept.k4 ?_))
        · repeat' ((conv => whnf); (first | refine Branch.dt hyt ?_ | refine Branch.dt (by omega) ?_ | refine Branch.f rfl ?_ | refine SDraw.held (by kernel_rfl) [_] (.same (.head _) .nil) ?_ | with_reducible refine Val.to ((k + 1 : Nat) : Int) (by rw [wrap_i64 (by omega) (by omega)]; omega) ?_ | refine Idx.of k rfl (by omega) ?_ | refine Idx.of (k + 1) rfl (by omega) ?_ | refine Look.cell (.tail _ hrb) ht12 ?_ | refine hcopy _ _ _ _ _ _ rfl (fun q c j1 j2 => ?_) | refine hend _ _ _ _ _ _ _ _ (hin2 _ (fun z hz => .tail _ hz)) j1 j2 rfl (fun q3 c3 j5 j6 => ?_) | refine Branch.df hne ?_ | refine Kept.mk (.same (.tail _ (.head _)) .nil) ?_ | exact hfin _ _ j5 j6 | refine New.mk (fun _ => ?_) | refine Look.at0 ?_ | refine Cell.row ?_ | refine Cell.buf ?_ | refine Cells.row rfl ?_ | refine Put.row rfl ?_ | refine Put.buf rfl ?_ | refine Look.at1 ?_ | refine Look.at2 ?_ | refine Look.at3 ?_ | refine Look.at4 ?_ | refine Look.at5 ?_ | refine Look.at6 ?_ | refine Look.at7 ?_ | refine Look.at8 ?_ | with_reducible refine Val.i64 (by omega) (by omega) ?_ | with_reducible refine Val.u8 (by omega) (by omega) ?_ | with_reducible refine Val.u32 (by omega) (by omega) ?_ | with_reducible refine Val.u64 (by omega) (by omega) ?_ | with_reducible refine Val.u8m ?_ | with_reducible refine Val.u32m ?_ | with_reducible refine Val.u64m ?_ | with_reducible refine Val.shr8 ?_ | with_reducible refine Val.shr16 (by decide) ?_ | with_reducible refine Val.shr24 (by decide) ?_ | with_reducible refine Val.raw ?_ | refine Branch.not ?_ | refine Branch.and ?_ | refine Branch.or ?_ | refine Branch.dt (by assumption) ?_ | refine Branch.df (by assumption) ?_ | refine Branch.dt rfl ?_ | refine Branch.dt (by omega) ?_ | refine Branch.df (by omega) ?_ | refine Branch.t rfl ?_ | refine Branch.f rfl ?_ | refine Branch.t (by assumption) ?_ | refine Branch.f (by assumption) ?_ | refine Branch.d (fun _ => ?_) (fun _ => ?_) | refine Branch.mk (fun _ => ?_) (fun _ => ?_) | refine Need.mk (by first | omega | decide | rfl) ?_ | refine Idx.nat (by omega) ?_ | refine Idx.auto (by first | omega | decide) (by first | omega | decide) ?_ | refine Cell.ro rfl ?_ | refine SDraw.all (by kernel_rfl) ?_ | refine Kept.k0 ?_ | refine Kept.k1 ?_ | refine Kept.k2 ?_ | refine Kept.k3 ?_ | refine Kept.k4 ?_))
      · have hnext := hnext ⟨rfl, hyt⟩
        repeat' ((conv => whnf); (first | refine Branch.df hyt ?_ | refine Branch.dt (by omega) ?_ | refine Branch.f rfl ?_ | refine Idx.of k rfl (by omega) ?_ | refine Look.cell (.tail _ hrb) ht12 ?_ | exact hnext _ .mk | refine New.mk (fun _ => ?_) | refine Look.at0 ?_ | refine Cell.row ?_ | refine Cell.buf ?_ | refine Cells.row rfl ?_ | refine Put.row rfl ?_ | refine Put.buf rfl ?_ | refine Look.at1 ?_ | refine Look.at2 ?_ | refine Look.at3 ?_ | refine Look.at4 ?_ | refine Look.at5 ?_ | refine Look.at6 ?_ | refine Look.at7 ?_ | refine Look.at8 ?_ | with_reducible refine Val.i64 (by omega) (by omega) ?_ | with_reducible refine Val.u8 (by omega) (by omega) ?_ | with_reducible refine Val.u32 (by omega) (by omega) ?_ | with_reducible refine Val.u64 (by omega) (by omega) ?_ | with_reducible refine Val.u8m ?_ | with_reducible refine Val.u32m ?_ | with_reducible refine Val.u64m ?_ | with_reducible refine Val.shr8 ?_ | with_reducible refine Val.shr16 (by decide) ?_ | with_reducible refine Val.shr24 (by decide) ?_ | with_reducible refine Val.raw ?_ | refine Branch.not ?_ | refine Branch.and ?_ | refine Branch.or ?_ | refine Branch.dt (by assumption) ?_ | refine Branch.df (by assumption) ?_ | refine Branch.dt rfl ?_ | refine Branch.dt (by omega) ?_ | refine Branch.df (by omega) ?_ | refine Branch.t rfl ?_ | refine Branch.f rfl ?_ | refine Branch.t (by assumption) ?_ | refine Branch.f (by assumption) ?_ | refine Branch.d (fun _ => ?_) (fun _ => ?_) | refine Branch.mk (fun _ => ?_) (fun _ => ?_) | refine Need.mk (by first | omega | decide | rfl) ?_ | refine Idx.nat (by omega) ?_ | refine Idx.auto (by first | omega | decide) (by first | omega | decide) ?_ | refine Cell.ro rfl ?_ | refine SDraw.all (by kernel_rfl) ?_ | refine Kept.k0 ?_ | refine Kept.k1 ?_ | refine Kept.k2 ?_ | refine Kept.k3 ?_ | refine Kept.k4 ?_))
  · obtain rfl : k = s.O.length := by omega
    have hk := h0 fun x hx => by
      obtain ⟨i, hi, rfl⟩ := List.getElem_of_mem hx
      exact hno i _ hi (List.getElem?_eq_getElem hi)
    clear hR h0 h1
    repeat' ((conv => whnf); (first | refine Branch.df (by omega) ?_ | exact Keep.all hk | refine New.mk (fun _ => ?_) | refine Look.at0 ?_ | refine Cell.row ?_ | refine Cell.buf ?_ | refine Cells.row rfl ?_ | refine Put.row rfl ?_ | refine Put.buf rfl ?_ | refine Look.at1 ?_ | refine Look.at2 ?_ | refine Look.at3 ?_ | refine Look.at4 ?_ | refine Look.at5 ?_ | refine Look.at6 ?_ | refine Look.at7 ?_ | refine Look.at8 ?_ | with_reducible refine Val.i64 (by omega) (by omega) ?_ | with_reducible refine Val.u8 (by omega) (by omega) ?_ | with_reducible refine Val.u32 (by omega) (by omega) ?_ | with_reducible refine Val.u64 (by omega) (by omega) ?_ | with_reducible refine Val.u8m ?_ | with_reducible refine Val.u32m ?_ | with_reducible refine Val.u64m ?_ | with_reducible refine Val.shr8 ?_ | with_reducible refine Val.shr16 (by decide) ?_ | with_reducible refine Val.shr24 (by decide) ?_ | with_reducible refine Val.raw ?_ | refine Branch.not ?_ | refine Branch.and ?_ | refine Branch.or ?_ | refine Branch.dt (by assumption) ?_ | refine Branch.df (by assumption) ?_ | refine Branch.dt rfl ?_ | refine Branch.dt (by omega) ?_ | refine Branch.df (by omega) ?_ | refine Branch.t rfl ?_ | refine Branch.f rfl ?_ | refine Branch.t (by assumption) ?_ | refine Branch.f (by assumption) ?_ | refine Branch.d (fun _ => ?_) (fun _ => ?_) | refine Branch.mk (fun _ => ?_) (fun _ => ?_) | refine Need.mk (by first | omega | decide | rfl) ?_ | refine Idx.nat (by omega) ?_ | refine Idx.auto (by first | omega | decide) (by first | omega | decide) ?_ | refine Cell.ro rfl ?_ | refine SDraw.all (by kernel_rfl) ?_ | refine Kept.k0 ?_ | refine Kept.k1 ?_ | refine Kept.k2 ?_ | refine Kept.k3 ?_ | refine Kept.k4 ?_))
theorem c35 (hw : RfW s) (h : RfO g s Hb F) (hf : f.id < 4294967296) (hK : ∀ F', RfO g (takeR s f) Hb F' → K (.int .i64 (takeRE s f)) F') : SCalls Tryd.prog 35 [ptr g, frV f] F K := by
  have h36 := fun (K : Value → Heap → Prop) hk => c36 (K := K) hw h hf hk
  have h49 := fun H (K2 : Value → Heap → Prop) (hk : K2 (.int .i64 (erF f)) H) => c49 (H := H) (K := K2) hk
  have hsame := hK F
  unfold erF at h49
  unfold takeRE at hK hsame
  unfold takeR at hK hsame
  have hI := hw.I
  have hro := hw.room
  have hlo := hw.lost
  cases hg : okF f with
  | false =>
    rw [hg] at h49 hsame
    have hk := hsame h
    clear hK hsame h36
    obtain ⟨la, lc, oa, oc, ia, ic, M, rfl, _⟩ := h.look
    refine enter35 ?_
    repeat' ((conv => whnf); (first | refine h49 _ _ ?_ | refine Branch.t rfl ?_ | exact Keep.d1 hk | refine New.mk (fun _ => ?_) | refine Look.at0 ?_ | refine Cell.row ?_ | refine Cell.buf ?_ | refine Cells.row rfl ?_ | refine Put.row rfl ?_ | refine Put.buf rfl ?_ | refine Look.at1 ?_ | refine Look.at2 ?_ | refine Look.at3 ?_ | refine Look.at4 ?_ | refine Look.at5 ?_ | refine Look.at6 ?_ | refine Look.at7 ?_ | refine Look.at8 ?_ | with_reducible refine Val.i64 (by omega) (by omega) ?_ | with_reducible refine Val.u8 (by omega) (by omega) ?_ | with_reducible refine Val.u32 (by omega) (by omega) ?_ | with_reducible refine Val.u64 (by omega) (by omega) ?_ | with_reducible refine Val.u8m ?_ | with_reducible refine Val.u32m ?_ | with_reducible refine Val.u64m ?_ | with_reducible refine Val.shr8 ?_ | with_reducible refine Val.shr16 (by decide) ?_ | with_reducible refine Val.shr24 (by decide) ?_ | with_reducible refine Val.raw ?_ | refine Branch.not ?_ | refine Branch.and ?_ | refine Branch.or ?_ | refine Branch.dt (by assumption) ?_ | refine Branch.df (by assumption) ?_ | refine Branch.dt rfl ?_ | refine Branch.dt (by omega) ?_ | refine Branch.df (by omega) ?_ | refine Branch.t rfl ?_ | refine Branch.f rfl ?_ | refine Branch.t (by assumption) ?_ | refine Branch.f (by assumption) ?_ | refine Branch.d (fun _ => ?_) (fun _ => ?_) | refine Branch.mk (fun _ => ?_) (fun _ => ?_) | refine Need.mk (by first | omega | decide | rfl) ?_ | refine Idx.nat (by omega) ?_ | refine Idx.auto (by first | omega | decide) (by first | omega | decide) ?_ | refine Cell.ro rfl ?_ | refine SDraw.all (by kernel_rfl) ?_ | refine Kept.k0 ?_ | refine Kept.k1 ?_ | refine Kept.k2 ?_ | refine Kept.k3 ?_ | refine Kept.k4 ?_))
  | true =>
    rw [hg] at h49 hsame hK h36
    rw [Bool.true_and] at h36
    cases hp : pas s.L f with
    | false =>
      rw [hp] at h36 hsame
      have hk := hsame h
      clear hK hsame
      obtain ⟨la, lc, oa, oc, ia, ic, M, rfl, _⟩ := h.look
      refine enter35 ?_
      repeat' ((conv => whnf); (first | refine h49 _ _ ?_ | refine SCalls.under [_] (h36 _ ?_) | refine Branch.f rfl ?_ | refine Branch.t rfl ?_ | exact Keep.d1 hk | refine New.mk (fun _ => ?_) | refine Look.at0 ?_ | refine Cell.row ?_ | refine Cell.buf ?_ | refine Cells.row rfl ?_ | refine Put.row rfl ?_ | refine Put.buf rfl ?_ | refine Look.at1 ?_ | refine Look.at2 ?_ | refine Look.at3 ?_ | refine Look.at4 ?_ | refine Look.at5 ?_ | refine Look.at6 ?_ | refine Look.at7 ?_ | refine Look.at8 ?_ | with_reducible refine Val.i64 (by omega) (by omega) ?_ | with_reducible refine Val.u8 (by omega) (by omega) ?_ | with_reducible refine Val.u32 (by omega) (by omega) ?_ | with_reducible refine Val.u64 (by omega) (by omega) ?_ | with_reducible refine Val.u8m ?_ | with_reducible refine Val.u32m ?_ | with_reducible refine Val.u64m ?_ | with_reducible refine Val.shr8 ?_ | with_reducible refine Val.shr16 (by decide) ?_ | with_reducible refine Val.shr24 (by decide) ?_ | with_reducible refine Val.raw ?_ | refine Branch.not ?_ | refine Branch.and ?_ | refine Branch.or ?_ | refine Branch.dt (by assumption) ?_ | refine Branch.df (by assumption) ?_ | refine Branch.dt rfl ?_ | refine Branch.dt (by omega) ?_ | refine Branch.df (by omega) ?_ | refine Branch.t rfl ?_ | refine Branch.f rfl ?_ | refine Branch.t (by assumption) ?_ | refine Branch.f (by assumption) ?_ | refine Branch.d (fun _ => ?_) (fun _ => ?_) | refine Branch.mk (fun _ => ?_) (fun _ => ?_) | refine Need.mk (by first | omega | decide | rfl) ?_ | refine Idx.nat (by omega) ?_ | refine Idx.auto (by first | omega | decide) (by first | omega | decide) ?_ | refine Cell.ro rfl ?_ | refine SDraw.all (by kernel_rfl) ?_ | refine Kept.k0 ?_ | refine Kept.k1 ?_ | refine Kept.k2 ?_ | refine Kept.k3 ?_ | refine Kept.k4 ?_))
    | true =>
      rw [hp] at h36 hK
      simp only [if_true] at hK
      clear hsame
      obtain ⟨la, lc, oa, oc, ia, ic, M, rfl, hl, hO, hIs, hHb⟩ := h.look
      by_cases hfull : s.room ≤ s.I.length
      · rw [if_pos hfull, if_pos hfull] at hK
        have hk := hK _ (RfO.mk (s := { s with lost := s.lost + 1 }) hl hO hIs hHb)
        clear hK
        refine enter35 ?_
        repeat' ((conv => whnf); (first | refine h49 _ _ ?_ | refine SCalls.under [_] (h36 _ ?_) | refine Branch.f rfl ?_ | refine Branch.dt (by omega) ?_ | with_reducible refine Val.to ((s.lost + 1 : Nat) : Int) (by rw [wrap_i64 (by omega) (by omega)]; omega) ?_ | exact Keep.d1 hk | refine New.mk (fun _ => ?_) | refine Look.at0 ?_ | refine Cell.row ?_ | refine Cell.buf ?_ | refine Cells.row rfl ?_ | refine Put.row rfl ?_ | refine Put.buf rfl ?_ | refine Look.at1 ?_ | refine Look.at2 ?_ | refine Look.at3 ?_ | refine Look.at4 ?_ | refine Look.at5 ?_ | refine Look.at6 ?_ | refine Look.at7 ?_ | refine Look.at8 ?_ | with_reducible refine Val.i64 (by omega) (by omega) ?_ | with_reducible refine Val.u8 (by omega) (by omega) ?_ | with_reducible refine Val.u32 (by omega) (by omega) ?_ | with_reducible refine Val.u64 (by omega) (by omega) ?_ | with_reducible refine Val.u8m ?_ | with_reducible refine Val.u32m ?_ | with_reducible refine Val.u64m ?_ | with_reducible refine Val.shr8 ?_ | with_reducible refine Val.shr16 (by decide) ?_ | with_reducible refine Val.shr24 (by decide) ?_ | with_reducible refine Val.raw ?_ | refine Branch.not ?_ | refine Branch.and ?_ | refine Branch.or ?_ | refine Branch.dt (by assumption) ?_ | refine Branch.df (by assumption) ?_ | refine Branch.dt rfl ?_ | refine Branch.dt (by omega) ?_ | refine Branch.df (by omega) ?_ | refine Branch.t rfl ?_ | refine Branch.f rfl ?_ | refine Branch.t (by assumption) ?_ | refine Branch.f (by assumption) ?_ | refine Branch.d (fun _ => ?_) (fun _ => ?_) | refine Branch.mk (fun _ => ?_) (fun _ => ?_) | refine Need.mk (by first | omega | decide | rfl) ?_ | refine Idx.nat (by omega) ?_ | refine Idx.auto (by first | omega | decide) (by first | omega | decide) ?_ | refine Cell.ro rfl ?_ | refine SDraw.all (by kernel_rfl) ?_ | refine Kept.k0 ?_ | refine Kept.k1 ?_ | refine Kept.k2 ?_ | refine Kept.k3 ?_ | refine Kept.k4 ?_))
      · rw [if_neg hfull, if_neg hfull] at hK
        obtain ⟨hcap, hI1, hia⟩ := hIs.cases
        have hcopy : ∀ (t3 w : Nat × Blk) p (o' : Oper) (xs xx : Operand) (K2 : Value → Heap → Prop), o'.op = .call { callee := .builtin .append, args := #[xs, xx], argTypes := #[36, 36] } →
            (∀ q c, s.I.length ≤ c → c ≤ maxLen → K2 (.slice (some ⟨q, 0, none⟩) s.I.length c) ((q, .buf 26 (s.I.flatMap frC) (c * 12)) :: t3 :: w :: M)) → RawV Tryd.prog o' [.slice (some ⟨p, 0, none⟩) 0 0, .slice ia s.I.length ic] ((p, .row 26 [] (0, 0)) :: t3 :: w :: M) K2 :=
          fun t3 w p o' xs xx K2 ho hk => RawV.copyS (bytes := 24) (hI1.mono fun z hz => .tail _ (.tail _ hz)) ho (by kernel_rfl) (by decide) frC_len frC_one (by omega) hk
        have hone : ∀ (B : Heap) q c r (o : Oper) (xs xx : Operand) (K2 : Value → Heap → Prop), s.I.length ≤ c → c ≤ maxLen → o.op = .call { callee := .builtin .append, args := #[xs, xx], argTypes := #[36, 36] } →
            (∀ q' c', s.I.length + 1 ≤ c' → c' ≤ maxLen → K2 (.slice (some ⟨q', 0, none⟩) (s.I.length + 1) c') ((q', .buf 26 ((s.I ++ [plF f]).flatMap frC) (c' * 12)) :: (r, .row 26 (frC (plF f)) (0, 0)) :: B)) →
            RawV Tryd.prog o [.slice (some ⟨q, 0, none⟩) s.I.length c, .slice (some ⟨r, 0, none⟩) 1 1] ((r, .row 26 (frC (plF f)) (0, 0)) :: (q, .buf 26 (s.I.flatMap frC) (c * 12)) :: B) K2 := by
          intro B q c r o xs xx K2 k1 k2 ho hk
          exact RawV.grow1b (A := [(r, .row 26 (frC (plF f)) (0, 0))]) (B := B) (x := plF f) (bytes := 24) (Grow.buf (f := frC) (k := 12) (e := 26) (q := q) (c := c) (L := s.I) k1 k2) rfl (.head _) ho (by kernel_rfl) (by decide) frC_len (frC_one _) (by simp only [maxLen]; omega) (by omega) hk
        have hfin : ∀ (r t3 : Nat × Blk) q c, s.I.length + 1 ≤ c → c ≤ maxLen →
            Keep ((q, .buf 26 ((s.I ++ [plF f]).flatMap frC) (c * 12)) :: r :: t3 :: rRow g (i64 s.most) (i64 s.room) (.slice la s.L.length lc) (.slice oa s.O.length oc) (i64 s.tk) (.slice (some ⟨q, 0, none⟩) (s.I.length + 1) c) (i64 s.lost) :: M) fun H' => K (.int .i64 0) H' := by
          intro r t3 q c k1 k2
          refine Keep.glue [[(q, .buf 26 ((s.I ++ [plF f]).flatMap frC) (c * 12))], [r, t3], [rRow g (i64 s.most) (i64 s.room) (.slice la s.L.length lc) (.slice oa s.O.length oc) (i64 s.tk) (.slice (some ⟨q, 0, none⟩) (s.I.length + 1) c) (i64 s.lost)], M] [0, 1, 2, 3] [2, 0, 3] [1] (by decide) rfl ?_
          have hb := Sl.buf (f := frC) (k := 12) (e := 26) (q := q) (c := c) (N := c * 12) (L := s.I ++ [plF f]) (H := (q, .buf 26 ((s.I ++ [plF f]).flatMap frC) (c * 12)) :: M) frC_len (by simpa using k1) k2 (.head _)
          rw [List.length_append] at hb
          exact hK _ (RfO.mk (s := { s with I := s.I ++ [plF f] }) (hl.mono fun z hz => .tail _ hz) (hO.mono fun z hz => .tail _ hz) hb (fun z hz => .tail _ (hHb z hz)))
        clear hK
        refine enter35 ?_
        repeat' ((conv => whnf); (first | refine h49 _ _ ?_ | refine SCalls.under [_] (h36 _ ?_) | refine Branch.f rfl ?_ | refine Branch.df (by omega) ?_ | refine SDraw.held (by kernel_rfl) [_, _] (.same (.head _) (.same (.tail _ (.head _)) .nil)) ?_ | refine c13 ?_ | refine hcopy _ _ _ _ _ _ _ rfl (fun q c j1 j2 => ?_) | refine hone _ _ _ _ _ _ _ _ j1 j2 rfl (fun q2 c2 j3 j4 => ?_) | refine Kept.mk (.same (.tail _ (.head _)) (.same (.tail _ (.tail _ (.head _))) .nil)) ?_ | refine Kept.mk (.same (.tail _ (.tail _ (.head _))) (.same (.tail _ (.tail _ (.tail _ (.head _)))) .nil)) ?_ | exact hfin _ _ _ _ j3 j4 | refine New.mk (fun _ => ?_) | refine Look.at0 ?_ | refine Cell.row ?_ | refine Cell.buf ?_ | refine Cells.row rfl ?_ | refine Put.row rfl ?_ | refine Put.buf rfl ?_ | refine Look.at1 ?_ | refine Look.at2 ?_ | refine Look.at3 ?_ | refine Look.at4 ?_ | refine Look.at5 ?_ | refine Look.at6 ?_ | refine Look.at7 ?_ | refine Look.at8 ?_ | with_reducible refine Val.i64 (by omega) (by omega) ?_ | with_reducible refine Val.u8 (by omega) (by omega) ?_ | with_reducible refine Val.u32 (by omega) (by omega) ?_ | with_reducible refine Val.u64 (by omega) (by omega) ?_ | with_reducible refine Val.u8m ?_ | with_reducible refine Val.u32m ?_ | with_reducible refine Val.u64m ?_ | with_reducible refine Val.shr8 ?_ | with_reducible refine Val.shr16 (by decide) ?_ | with_reducible refine Val.shr24 (by decide) ?_ | with_reducible refine Val.raw ?_ | refine Branch.not ?_ | refine Branch.and ?_ | refine Branch.or ?_ | refine Branch.dt (by assumption) ?_ | refine Branch.df (by assumption) ?_ | refine Branch.dt rfl ?_ | refine Branch.dt (by omega) ?_ | refine Branch.df (by omega) ?_ | refine Branch.t rfl ?_ | refine Branch.f rfl ?_ | refine Branch.t (by assumption) ?_ | refine Branch.f (by assumption) ?_ | refine Branch.d (fun _ => ?_) (fun _ => ?_) | refine Branch.mk (fun _ => ?_) (fun _ => ?_) | refine Need.mk (by first | omega | decide | rfl) ?_ | refine Idx.nat (by omega) ?_ | refine Idx.auto (by first | omega | decide) (by first | omega | decide) ?_ | refine Cell.ro rfl ?_ | refine SDraw.all (by kernel_rfl) ?_ | refine Kept.k0 ?_ | refine Kept.k1 ?_ | refine Kept.k2 ?_ | refine Kept.k3 ?_ | refine Kept.k4 ?_))
theorem c37 (hw : RfW s) (h : RfO g s Hb F) (hK : ∀ F', RfO g { s with I := s.I.tail } Hb F' → K (.tuple ⟨[frV (hd1 s.I), .bool (decide (0 < s.I.length))]⟩) F') : SCalls Tryd.prog 37 [ptr g] F K := by
  have hI := hw.I
  have hro := hw.room
  obtain ⟨la, lc, oa, oc, ia, ic, M, rfl, hl, hO, hIs, hHb⟩ := h.look
  obtain ⟨hcap, hI1, hia⟩ := hIs.cases
  obtain hq | ⟨x, r, hq⟩ : s.I = [] ∨ ∃ x r, s.I = x :: r := by
    cases s.I with
    | nil => exact .inl rfl
    | cons x r => exact .inr ⟨x, r, rfl⟩
  · have h0 : decide ((s.I.length : Int) = 0) = true := by rw [hq]; rfl
    have hk := hK _ (RfO.mk (s := { s with I := s.I.tail }) hl hO (by show Sl frC 12 _ M s.I.tail; rw [show s.I.tail = s.I by rw [hq]; rfl]; exact hIs) hHb)
    have hk := show K (.tuple ⟨[.agg ⟨[.int .u32 0, .bool false, .bool false, .int .i64 0, .int .u8 0, .int .u8 0, .int .u8 0, .int .u8 0, .int .u8 0, .int .u8 0, .int .u8 0, .int .u8 0]⟩, .bool false]⟩) _ from by
      rw [show (decide (0 < s.I.length)) = false by rw [hq]; rfl, show hd1 s.I = zF by rw [hq]; rfl] at hk
      exact hk
    clear hK
    refine enter37 ?_
    repeat' ((conv => whnf); (first | refine Branch.t h0 ?_ | exact Keep.d1 hk | refine New.mk (fun _ => ?_) | refine Look.at0 ?_ | refine Cell.row ?_ | refine Cell.buf ?_ | refine Cells.row rfl ?_ | refine Put.row rfl ?_ | refine Put.buf rfl ?_ | refine Look.at1 ?_ | refine Look.at2 ?_ | refine Look.at3 ?_ | refine Look.at4 ?_ | refine Look.at5 ?_ | refine Look.at6 ?_ | refine Look.at7 ?_ | refine Look.at8 ?_ | with_reducible refine Val.i64 (by omega) (by omega) ?_ | with_reducible refine Val.u8 (by omega) (by omega) ?_ | with_reducible refine Val.u32 (by omega) (by omega) ?_ | with_reducible refine Val.u64 (by omega) (by omega) ?_ | with_reducible refine Val.u8m ?_ | with_reducible refine Val.u32m ?_ | with_reducible refine Val.u64m ?_ | with_reducible refine Val.shr8 ?_ | with_reducible refine Val.shr16 (by decide) ?_ | with_reducible refine Val.shr24 (by decide) ?_ | with_reducible refine Val.raw ?_ | refine Branch.not ?_ | refine Branch.and ?_ | refine Branch.or ?_ | refine Branch.dt (by assumption) ?_ | refine Branch.df (by assumption) ?_ | refine Branch.dt rfl ?_ | refine Branch.dt (by omega) ?_ | refine Branch.df (by omega) ?_ | refine Branch.t rfl ?_ | refine Branch.f rfl ?_ | refine Branch.t (by assumption) ?_ | refine Branch.f (by assumption) ?_ | refine Branch.d (fun _ => ?_) (fun _ => ?_) | refine Branch.mk (fun _ => ?_) (fun _ => ?_) | refine Need.mk (by first | omega | decide | rfl) ?_ | refine Idx.nat (by omega) ?_ | refine Idx.auto (by first | omega | decide) (by first | omega | decide) ?_ | refine Cell.ro rfl ?_ | refine SDraw.all (by kernel_rfl) ?_ | refine Kept.k0 ?_ | refine Kept.k1 ?_ | refine Kept.k2 ?_ | refine Kept.k3 ?_ | refine Kept.k4 ?_))
  · have hlen : s.I.length = r.length + 1 := by rw [hq]; rfl
    obtain ⟨rr, o, c1, b, e1, hrb, hcc⟩ := inS_at (j := 0) (x := x) hI1 frC_len (by rw [hq]; rfl)
    injection e1 with e1 _ e3
    subst e1
    have hc12 : ∀ (j : Nat) v, (frC x)[j]? = some v → b.cell (o + 0 * 12 + j) = some v := fun j v hj => hcc j v hj
    have h0 : decide ((s.I.length : Int) = 0) = false := decide_eq_false (by omega)
    obtain ⟨hd1', hd2⟩ := hIs.drop (show 1 ≤ s.I.length by omega)
    have hd2 := hd2 rr o rfl
    have htl : s.I.drop 1 = s.I.tail := by rw [hq]; rfl
    rw [htl] at hd1' hd2
    have hk : ∀ (t4 t2 : Nat × Blk) iv, Sl frC 12 iv M s.I.tail → Keep (t4 :: t2 :: rRow g (i64 s.most) (i64 s.room) (.slice la s.L.length lc) (.slice oa s.O.length oc) (i64 s.tk) iv (i64 s.lost) :: M) fun H' => K (.tuple ⟨[frV x, .bool true]⟩) H' := by
      intro t4 t2 iv hiv
      refine Keep.d2 ?_
      have := hK _ (RfO.mk (s := { s with I := s.I.tail }) hl hO hiv hHb)
      rw [decide_eq_true (show 0 < s.I.length by omega), show hd1 s.I = x by rw [hq]; rfl] at this
      exact this
    clear hK
    refine enter37 ?_
    by_cases hic : ic = 1
    · have hd1' := hd1' hic
      repeat' ((conv => whnf); (first | refine Branch.f h0 ?_ | refine Idx.of 0 rfl (by omega) ?_ | refine Idx.of 1 rfl (by omega) ?_ | refine Look.cells (.tail _ (.tail _ hrb)) rfl hc12 ?_ | refine Branch.dt hic ?_ | exact hk _ _ _ hd1' | refine New.mk (fun _ => ?_) | refine Look.at0 ?_ | refine Cell.row ?_ | refine Cell.buf ?_ | refine Cells.row rfl ?_ | refine Put.row rfl ?_ | refine Put.buf rfl ?_ | refine Look.at1 ?_ | refine Look.at2 ?_ | refine Look.at3 ?_ | refine Look.at4 ?_ | refine Look.at5 ?_ | refine Look.at6 ?_ | refine Look.at7 ?_ | refine Look.at8 ?_ | with_reducible refine Val.i64 (by omega) (by omega) ?_ | with_reducible refine Val.u8 (by omega) (by omega) ?_ | with_reducible refine Val.u32 (by omega) (by omega) ?_ | with_reducible refine Val.u64 (by omega) (by omega) ?_ | with_reducible refine Val.u8m ?_ | with_reducible refine Val.u32m ?_ | with_reducible refine Val.u64m ?_ | with_reducible refine Val.shr8 ?_ | with_reducible refine Val.shr16 (by decide) ?_ | with_reducible refine Val.shr24 (by decide) ?_ | with_reducible refine Val.raw ?_ | refine Branch.not ?_ | refine Branch.and ?_ | refine Branch.or ?_ | refine Branch.dt (by assumption) ?_ | refine Branch.df (by assumption) ?_ | refine Branch.dt rfl ?_ | refine Branch.dt (by omega) ?_ | refine Branch.df (by omega) ?_ | refine Branch.t rfl ?_ | refine Branch.f rfl ?_ | refine Branch.t (by assumption) ?_ | refine Branch.f (by assumption) ?_ | refine Branch.d (fun _ => ?_) (fun _ => ?_) | refine Branch.mk (fun _ => ?_) (fun _ => ?_) | refine Need.mk (by first | omega | decide | rfl) ?_ | refine Idx.nat (by omega) ?_ | refine Idx.auto (by first | omega | decide) (by first | omega | decide) ?_ | refine Cell.ro rfl ?_ | refine SDraw.all (by kernel_rfl) ?_ | refine Kept.k0 ?_ | refine Kept.k1 ?_ | refine Kept.k2 ?_ | refine Kept.k3 ?_ | refine Kept.k4 ?_))
    · repeat' ((conv => whnf); (first | refine Branch.f h0 ?_ | refine Idx.of 0 rfl (by omega) ?_ | refine Idx.of 1 rfl (by omega) ?_ | refine Look.cells (.tail _ (.tail _ hrb)) rfl hc12 ?_ | refine Branch.df hic ?_ | exact hk _ _ _ hd2 | refine New.mk (fun _ => ?_) | refine Look.at0 ?_ | refine Cell.row ?_ | refine Cell.buf ?_ | refine Cells.row rfl ?_ | refine Put.row rfl ?_ | refine Put.buf rfl ?_ | refine Look.at1 ?_ | refine Look.at2 ?_ | refine Look.at3 ?_ | refine Look.at4 ?_ | refine Look.at5 ?_ | refine Look.at6 ?_ | refine Look.at7 ?_ | refine Look.at8 ?_ | with_reducible refine Val.i64 (by omega) (by omega) ?_ | with_reducible refine Val.u8 (by omega) (by omega) ?_ | with_reducible refine Val.u32 (by omega) (by omega) ?_ | with_reducible refine Val.u64 (by omega) (by omega) ?_ | with_reducible refine Val.u8m ?_ | with_reducible refine Val.u32m ?_ | with_reducible refine Val.u64m ?_ | with_reducible refine Val.shr8 ?_ | with_reducible refine Val.shr16 (by decide) ?_ | with_reducible refine Val.shr24 (by decide) ?_ | with_reducible refine Val.raw ?_ | refine Branch.not ?_ | refine Branch.and ?_ | refine Branch.or ?_ | refine Branch.dt (by assumption) ?_ | refine Branch.df (by assumption) ?_ | refine Branch.dt rfl ?_ | refine Branch.dt (by omega) ?_ | refine Branch.df (by omega) ?_ | refine Branch.t rfl ?_ | refine Branch.f rfl ?_ | refine Branch.t (by assumption) ?_ | refine Branch.f (by assumption) ?_ | refine Branch.d (fun _ => ?_) (fun _ => ?_) | refine Branch.mk (fun _ => ?_) (fun _ => ?_) | refine Need.mk (by first | omega | decide | rfl) ?_ | refine Idx.nat (by omega) ?_ | refine Idx.auto (by first | omega | decide) (by first | omega | decide) ?_ | refine Cell.ro rfl ?_ | refine SDraw.all (by kernel_rfl) ?_ | refine Kept.k0 ?_ | refine Kept.k1 ?_ | refine Kept.k2 ?_ | refine Kept.k3 ?_ | refine Kept.k4 ?_))
end
end Go.Proofs.YthgpikgbhkcnbaaDoor

/- Layer 5: the program's heap and the document's list agree: in plain Lean. -/
set_option linter.unusedVariables false
set_option linter.unusedSimpArgs false
set_option maxRecDepth 100000
namespace Go.Proofs.YthgpikgbhkcnbaaDoor
open Sx
structure Agree (s : Dr) (t : Rf) : Prop where
  most : t.most = s.most
  room : t.room = s.room
  L : t.L = s.L
  tk : t.tk = s.tk
  lost : t.lost = s.lost
  I : t.I = s.I
  perm : s.q.Perm t.O
  ord : t.O.Pairwise fun a b => wlt a b = true
  ask : ∀ y ∈ t.O, y.ask ≤ t.tk
  uni : t.O.Pairwise fun a b => a.ask ≠ b.ask
theorem wlt_of {a b : Wn} (h : wlt a b = true) : tlt a.fl b.fl = true ∨ a.fl = b.fl ∧ a.ask < b.ask := by
  unfold wlt Hp.klt key at h
  simp only [Bool.or_eq_true, Bool.and_eq_true, decide_eq_true_eq] at h
  rcases h with h | ⟨h1, h2⟩
  · exact .inl h
  · exact .inr ⟨h1, by omega⟩
theorem wlt_mk {a b : Wn} (h : tlt a.fl b.fl = true ∨ a.fl = b.fl ∧ a.ask < b.ask) : wlt a b = true := by
  unfold wlt Hp.klt key
  simp only [Bool.or_eq_true, Bool.and_eq_true, decide_eq_true_eq]
  rcases h with h | ⟨h1, h2⟩
  · exact .inl h
  · exact .inr ⟨h1, by omega⟩
theorem Agree.next {s : Dr} {t : Rf} (h : Agree s t) (hw : DrW s) : hd1 (s.q.map Wn.f) = hd1 (t.O.map Wn.f) ∧ s.q.length = t.O.length := by
  refine ⟨?_, h.perm.length_eq⟩
  have hp := h.perm
  have ho := h.ord
  cases hq : s.q with
  | nil =>
    rw [hq] at hp
    rw [hp.nil_eq.symm]
  | cons x r =>
    have hm := hw.heap.min wlt_ord (Nat.le_refl _) (m := x) (by rw [hq]; rfl) (wlt_irr x)
    rw [hq] at hp hm
    cases hO : t.O with
    | nil =>
      rw [hO] at hp
      have := hp.length_eq
      simp at this
    | cons z r' =>
      rw [hO] at hp ho
      have hx : x ∈ z :: r' := hp.subset (.head _)
      rcases List.mem_cons.1 hx with rfl | hx
      · rfl
      · have h1 := (List.pairwise_cons.1 ho).1 x hx
        obtain ⟨k, hk, e⟩ := List.getElem_of_mem (hp.symm.subset (.head _) : z ∈ x :: r)
        have h2 := hm k z hk (by rw [List.getElem?_eq_getElem hk, e])
        rw [h1] at h2; cases h2
theorem Agree.sub {s : Dr} {t : Rf} (h : Agree s t) {q' O' : List Wn} (hp : q'.Perm O') (hs : O'.Sublist t.O) : Agree { s with q := q' } { t with O := O' } :=
  ⟨h.most, h.room, h.L, h.tk, h.lost, h.I, hp, h.ord.sublist hs, fun y hy => h.ask y (hs.subset hy), h.uni.sublist hs⟩
theorem Agree.done {s : Dr} {t : Rf} (h : Agree s t) {y : Wn} {q' : List Wn} (hp : s.q.Perm (y :: q')) (hm : ∀ x ∈ s.q, wlt x y = false) : t.O[0]? = some y ∧ Agree { s with q := q' } { t with O := t.O.eraseIdx 0 } := by
  have hpo := h.perm
  have ho := h.ord
  have hy : y ∈ t.O := hpo.subset (hp.symm.subset (.head _))
  cases hO : t.O with
  | nil => rw [hO] at hy; cases hy
  | cons z r =>
    have hz : z ∈ s.q := hpo.symm.subset (by rw [hO]; exact .head _)
    rw [hO] at ho hy hpo
    have hyz : y = z := by
      rcases List.mem_cons.1 hy with h1 | h1
      · exact h1
      · have h2 := (List.pairwise_cons.1 ho).1 y h1
        rw [hm z hz] at h2; cases h2
    subst hyz
    refine ⟨rfl, h.sub (List.Perm.cons_inv (hp.symm.trans hpo)) (by rw [hO]; exact List.sublist_cons_self _ _)⟩
theorem eraseP {α : Type} : ∀ {l : List α} {i : Nat} {x : α}, l[i]? = some x → l.Perm (x :: l.eraseIdx i)
  | y :: l, 0, x, h => by
    simp only [List.getElem?_cons_zero, Option.some.injEq] at h
    subst h
    exact .refl _
  | y :: l, i + 1, x, h => by
    have := eraseP (l := l) (i := i) (x := x) (by simpa using h)
    exact (List.Perm.cons y this).trans (.swap _ _ _)
theorem Agree.drop {s : Dr} {t : Rf} (h : Agree s t) {y z : Wn} {n : Nat} {q' : List Wn} (hp : s.q.Perm (y :: q')) (hz : t.O[n]? = some z) (he : y.ask = z.ask) : Agree { s with q := q' } { t with O := t.O.eraseIdx n } := by
  have hy : y ∈ t.O := h.perm.subset (hp.symm.subset (.head _))
  have hyz : y = z := by
    obtain ⟨i, hi, e⟩ := List.getElem_of_mem hy
    obtain ⟨hn, e2⟩ := List.getElem?_eq_some_iff.1 hz
    rcases Nat.lt_trichotomy i n with h1 | h1 | h1
    · have := List.pairwise_iff_getElem.1 h.uni i n hi hn h1
      rw [e, e2] at this
      exact absurd he this
    · subst h1
      rw [← e, e2]
    · have := List.pairwise_iff_getElem.1 h.uni n i hn hi h1
      rw [e, e2] at this
      exact absurd he.symm this
  subst hyz
  exact h.sub (List.Perm.cons_inv (hp.symm.trans (h.perm.trans (eraseP hz)))) (List.eraseIdx_sublist _ _)
theorem ahead_spec (fl : List UInt8) : ∀ (O : List Wn), (∀ y ∈ O.take (ahead fl O), tlt fl y.fl = false) ∧ ∀ y r, O.drop (ahead fl O) = y :: r → tlt fl y.fl = true
  | [] => ⟨fun y hy => by simp at hy, fun y r h => by simp at h⟩
  | y :: O => by
    obtain ⟨h1, h2⟩ := ahead_spec fl O
    unfold ahead at h1 h2 ⊢
    rw [List.takeWhile_cons]
    cases hy : tlt fl y.fl with
    | true =>
      refine ⟨fun z hz => by simp at hz, fun z r h => ?_⟩
      have h : y :: O = z :: r := h
      injection h with h _
      rw [← h]; exact hy
    | false =>
      refine ⟨fun z hz => ?_, h2⟩
      have hz : z ∈ y :: O.take (O.takeWhile fun y => !tlt fl y.fl).length := hz
      rcases List.mem_cons.1 hz with rfl | hz
      · exact hy
      · exact h1 z hz
theorem pw_ins {R : Wn → Wn → Prop} {O : List Wn} {x : Wn} {n : Nat} (ho : O.Pairwise R) (h1 : ∀ a ∈ O.take n, R a x) (h2 : ∀ b ∈ O.drop n, R x b) : ((O.take n ++ [x]) ++ O.drop n).Pairwise R := by
  have hO : (O.take n ++ O.drop n).Pairwise R := by rw [List.take_append_drop]; exact ho
  rw [List.pairwise_append] at hO
  rw [List.pairwise_append, List.pairwise_append]
  refine ⟨⟨hO.1, List.pairwise_singleton _ _, fun a ha b hb => ?_⟩, hO.2.1, fun a ha b hb => ?_⟩
  · obtain rfl := List.mem_singleton.1 hb
    exact h1 a ha
  · rcases List.mem_append.1 ha with ha | ha
    · exact hO.2.2 a ha b hb
    · obtain rfl := List.mem_singleton.1 ha
      exact h2 b hb
theorem Agree.send {s : Dr} {t : Rf} (h : Agree s t) {f : Fm} {q' : List Wn} (hp : q'.Perm (s.q ++ [mailW f (s.tk + 1)])) : Agree { s with tk := s.tk + 1, q := q' } { t with tk := t.tk + 1, O := insO (mailW f (t.tk + 1)) t.O } := by
  have htk := h.tk
  obtain ⟨h1, h2⟩ := ahead_spec (fld f) t.O
  have hins : (insO (mailW f (t.tk + 1)) t.O).Perm (mailW f (t.tk + 1) :: t.O) := by
    unfold insO
    conv => rhs; rw [← List.take_append_drop (ahead (mailW f (t.tk + 1)).fl t.O) t.O]
    rw [List.append_assoc]
    exact List.perm_middle
  refine ⟨h.most, h.room, h.L, by show t.tk + 1 = s.tk + 1; omega, h.lost, h.I, ?_, ?_, fun y hy => ?_, ?_⟩
  · show q'.Perm (insO (mailW f (t.tk + 1)) t.O)
    rw [htk]
    rw [htk] at hins
    exact hp.trans ((List.perm_append_comm.trans (List.Perm.cons _ h.perm)).trans hins.symm)
  · refine pw_ins h.ord (fun a ha => wlt_mk ?_) (fun b hb => wlt_mk (.inl ?_))
    · have hf := h1 a ha
      have hk := h.ask a (List.mem_of_mem_take ha)
      rcases Bool.eq_false_or_eq_true (tlt a.fl (fld f)) with hc | hc
      · exact .inl hc
      · exact .inr ⟨Hp.bl_tri _ _ hc hf, by show a.ask < t.tk + 1; omega⟩
    · show tlt (fld f) b.fl = true
      have hb : b ∈ t.O.drop (ahead (fld f) t.O) := hb
      cases hd : t.O.drop (ahead (fld f) t.O) with
      | nil => rw [hd] at hb; cases hb
      | cons z r =>
        have hz := h2 z r hd
        rw [hd] at hb
        rcases List.mem_cons.1 hb with rfl | hb
        · exact hz
        · have hpw : (t.O.drop (ahead (fld f) t.O)).Pairwise fun a b => wlt a b = true := h.ord.sublist (List.drop_sublist _ _)
          rw [hd] at hpw
          rcases wlt_of ((List.pairwise_cons.1 hpw).1 b hb) with h3 | ⟨h3, _⟩
          · exact Hp.bl_trans _ _ _ hz h3
          · rw [← h3]; exact hz
  · show y.ask ≤ t.tk + 1
    rcases List.mem_cons.1 (hins.subset hy) with rfl | hy
    · exact Nat.le_refl _
    · have := h.ask y hy
      omega
  · refine pw_ins h.uni (fun a ha => ?_) (fun b hb => ?_)
    · have := h.ask a (List.mem_of_mem_take ha)
      show a.ask ≠ t.tk + 1
      omega
    · have := h.ask b (List.mem_of_mem_drop hb)
      show t.tk + 1 ≠ b.ask
      omega
theorem take_agree {s : Dr} {t : Rf} (h : Agree s t) (f : Fm) : takeE s f = takeRE t f ∧ Agree (takeS s f) (takeR t f) := by
  unfold takeE takeRE takeS takeR
  rw [h.L, h.room, h.I]
  refine ⟨rfl, ?_⟩
  split
  · split
    · split
      · exact ⟨h.most, rfl, rfl, h.tk, by show t.lost + 1 = s.lost + 1; rw [h.lost], rfl, h.perm, h.ord, h.ask, h.uni⟩
      · exact ⟨h.most, rfl, rfl, h.tk, h.lost, rfl, h.perm, h.ord, h.ask, h.uni⟩
    · exact h
  · exact h
end Go.Proofs.YthgpikgbhkcnbaaDoor

/- Layer 5: whether anything is sent and taken; DriverFilters: by walks. -/
set_option linter.unusedVariables false
set_option linter.unusedSimpArgs false
set_option maxRecDepth 100000
set_option maxHeartbeats 4000000
namespace Go.Proofs.YthgpikgbhkcnbaaDoor
open Sx
theorem DrO.keep {p : Nat} {s : Dr} {H F : Heap} {K : Heap → Prop} (h : DrO p s H F) (hk : K H) : Keep F K := by
  obtain ⟨F0, rfl, _⟩ := h.split
  exact Keep.sub H (List.sublist_append_right F0 H) hk
theorem DrO.has {p : Nat} {s : Dr} {H F : Heap} (h : DrO p s H F) : ∀ z ∈ H, z ∈ F := by
  obtain ⟨F0, rfl, _⟩ := h.split
  exact fun z hz => List.mem_append_right _ hz
def f9 : Fm := ⟨9, false, false, 0, 0, 0, 0, 0, 0, 0, 0, 0⟩
def f5 : Fm := ⟨5, false, false, 0, 0, 0, 0, 0, 0, 0, 0, 0⟩
def f7 : Fm := ⟨7, false, false, 0, 0, 0, 0, 0, 0, 0, 0, 0⟩
theorem okN22 : okN 2 2 := by unfold okN; decide
abbrev s22 (n : Nat) (q : List Wn) : Dr := ⟨2, 2, [], n, 0, [], q⟩
theorem s22_ok {n : Nat} {q : List Wn} (h1 : n ≤ 2) (h2 : q.length ≤ 2) (h3 : Hp.HeapN wlt q q.length) : DrW (s22 n q) :=
  ⟨(show (2 : Nat) ≤ 64 by decide), (show (2 : Nat) ≤ 64 by decide), (show (0 : Nat) ≤ 32 by decide), (fun l hl => by cases hl), Nat.zero_le _, h2, by show n ≤ 140737488355328; omega, Nat.zero_le _, h3⟩
theorem heap_two {q : List Wn} {a b : Wn} (hp : q.Perm [a, b]) (hh : Hp.HeapN wlt q q.length) (hlt : wlt b a = true) : hd1 (q.map Wn.f) = b.f ∧ q.length = 2 := by
  have hl := hp.length_eq
  refine ⟨?_, hl⟩
  cases q with
  | nil => cases hl
  | cons x r =>
    have hm := hh.min wlt_ord (Nat.le_refl _) (m := x) rfl (wlt_irr x)
    have hx : x ∈ [a, b] := hp.subset (.head _)
    rcases List.mem_cons.1 hx with rfl | hx
    · obtain ⟨k, hk, e⟩ := List.getElem_of_mem (hp.symm.subset (.tail _ (.head _)) : b ∈ x :: r)
      have h2 := hm k b hk (by rw [List.getElem?_eq_getElem hk, e])
      rw [hlt] at h2; cases h2
    · obtain rfl := List.mem_singleton.1 hx
      rfl
section
variable {K : Value → Heap → Prop} {H : Heap}
theorem c7 (hD : Db H) (hK : K (.bool true) H) : SCalls Tryd.prog 7 [] H K := by
  have h8 : ∀ K2 : Value → Heap → Prop, (∀ p F, DrO p (s22 0 []) H F → K2 (.tuple ⟨[ptr p, .int .i64 0]⟩) F) → SCalls Tryd.prog 8 [.int .i64 2, .int .i64 2, .slice none 0 0] H K2 :=
    fun K2 hk => c8 (L := []) InS.nil (.inl ⟨rfl, rfl⟩) (fun h => absurd okN22 h) (fun _ h => absurd h (by decide)) (fun _ _ => hk)
  have hw0 : DrW (s22 0 []) := s22_ok (by decide) (by decide) (fun k x y k0 k1 => absurd k1 (Nat.not_lt_zero _))
  have h10a : ∀ p F (K2 : Value → Heap → Prop), DrO p (s22 0 []) H F → (∀ q' F', DrO p (s22 1 q') H F' → q'.Perm [mailW f9 1] → Hp.HeapN wlt q' q'.length → K2 (tup2 1 0) F') → SCalls Tryd.prog 10 [ptr p, .agg ⟨[.int .u32 9, .bool false, .bool false, .int .i64 0, .int .u8 0, .int .u8 0, .int .u8 0, .int .u8 0, .int .u8 0, .int .u8 0, .int .u8 0, .int .u8 0]⟩] F K2 :=
    fun p F K2 h hk => c10 (f := f9) hw0 h hD (by decide) (fun h => by cases h) (fun _ h => absurd h (by decide)) (fun _ _ q' F' k1 k2 k3 => hk q' F' k1 k2 k3)
  have h10b : ∀ p q F (K2 : Value → Heap → Prop), DrO p (s22 1 q) H F → q.Perm [mailW f9 1] → Hp.HeapN wlt q q.length → (∀ q' F', DrO p (s22 2 q') H F' → DrW (s22 2 q') → hd1 (q'.map Wn.f) = f5 → q'.length = 2 → K2 (tup2 2 0) F') → SCalls Tryd.prog 10 [ptr p, .agg ⟨[.int .u32 5, .bool false, .bool false, .int .i64 0, .int .u8 0, .int .u8 0, .int .u8 0, .int .u8 0, .int .u8 0, .int .u8 0, .int .u8 0, .int .u8 0]⟩] F K2 := by
    intro p q F K2 h hq hh hk
    have hl := hq.length_eq
    have hw1 : DrW (s22 1 q) := s22_ok (by decide) (by rw [hl]; decide) hh
    refine c10 (f := f5) hw1 h hD (by decide) (fun h => by cases h) (fun _ h => absurd h (by show ¬ 2 ≤ q.length; rw [hl]; decide)) (fun _ _ q' F' k1 k2 k3 => ?_)
    have hp : q'.Perm [mailW f9 1, mailW f5 2] := k2.trans (hq.append_right _)
    obtain ⟨e1, e2⟩ := heap_two hp k3 (by decide)
    exact hk q' F' k1 (s22_ok (by decide) (by omega) k3) e1 e2
  have h11 : ∀ p q F (K2 : Value → Heap → Prop), DrO p (s22 2 q) H F → hd1 (q.map Wn.f) = f5 → q.length = 2 → K2 (.tuple ⟨[frV f5, .bool true]⟩) F → SCalls Tryd.prog 11 [ptr p] F K2 := by
    intro p q F K2 h h1 h2 hk
    refine c11 h ?_
    show K2 (.tuple ⟨[frV (hd1 (q.map Wn.f)), .bool (decide (0 < q.length))]⟩) F
    rw [h1, h2]
    exact hk
  have h16 : ∀ p q F (K2 : Value → Heap → Prop), DrO p (s22 2 q) H F → DrW (s22 2 q) → (∀ s' F', DrO p s' H F' → K2 (.int .i64 0) F') → SCalls Tryd.prog 16 [ptr p, .agg ⟨[.int .u32 7, .bool false, .bool false, .int .i64 0, .int .u8 0, .int .u8 0, .int .u8 0, .int .u8 0, .int .u8 0, .int .u8 0, .int .u8 0, .int .u8 0]⟩] F K2 :=
    fun p q F K2 h hw hk => c16 (f := f7) hw h (by decide) (fun F' k => hk _ F' k)
  clear hw0
  refine enter7 (_u := undef) ?_
  repeat' ((conv => whnf); (first | refine h8 _ (fun p F g1 => ?_) | refine h10a _ _ _ g1 (fun q1 F1 g2 g3 g4 => ?_) | refine h10b _ _ _ _ g2 g3 g4 (fun q2 F2 g5 g6 g7 g8 => ?_) | refine h11 _ _ _ _ g5 g7 g8 ?_ | refine SCalls.under [_] (h16 _ _ _ _ g5 g6 (fun s3 F3 g9 => ?_)) | refine Branch.f rfl ?_ | refine Branch.t rfl ?_ | exact Keep.mk _ _ (.refl _) (List.Sublist.cons _ (List.sublist_append_right _ _)) hK | (obtain ⟨F0, rfl, _⟩ := g9.split; exact Keep.sub H ((List.sublist_append_right F0 H).trans (List.sublist_cons_self _ _)) hK) | refine New.mk (fun _ => ?_) | refine Look.at0 ?_ | refine Cell.row ?_ | refine Cell.buf ?_ | refine Cells.row rfl ?_ | refine Put.row rfl ?_ | refine Put.buf rfl ?_ | refine Look.at1 ?_ | refine Look.at2 ?_ | refine Look.at3 ?_ | refine Look.at4 ?_ | refine Look.at5 ?_ | refine Look.at6 ?_ | refine Look.at7 ?_ | refine Look.at8 ?_ | with_reducible refine Val.i64 (by omega) (by omega) ?_ | with_reducible refine Val.u8 (by omega) (by omega) ?_ | with_reducible refine Val.u32 (by omega) (by omega) ?_ | with_reducible refine Val.u64 (by omega) (by omega) ?_ | with_reducible refine Val.u8m ?_ | with_reducible refine Val.u32m ?_ | with_reducible refine Val.u64m ?_ | with_reducible refine Val.shr8 ?_ | with_reducible refine Val.shr16 (by decide) ?_ | with_reducible refine Val.shr24 (by decide) ?_ | with_reducible refine Val.raw ?_ | refine Branch.not ?_ | refine Branch.and ?_ | refine Branch.or ?_ | refine Branch.dt (by assumption) ?_ | refine Branch.df (by assumption) ?_ | refine Branch.dt rfl ?_ | refine Branch.dt (by omega) ?_ | refine Branch.df (by omega) ?_ | refine Branch.t rfl ?_ | refine Branch.f rfl ?_ | refine Branch.t (by assumption) ?_ | refine Branch.f (by assumption) ?_ | refine Branch.d (fun _ => ?_) (fun _ => ?_) | refine Branch.mk (fun _ => ?_) (fun _ => ?_) | refine Need.mk (by first | omega | decide | rfl) ?_ | refine Idx.nat (by omega) ?_ | refine Idx.auto (by first | omega | decide) (by first | omega | decide) ?_ | refine Cell.ro rfl ?_ | refine SDraw.all (by kernel_rfl) ?_ | refine Kept.k0 ?_ | refine Kept.k1 ?_ | refine Kept.k2 ?_ | refine Kept.k3 ?_ | refine Kept.k4 ?_))
def anyP (L : List Fl) (f : Fm) : Bool := L.any fun l => okF f && pas1 l f
theorem anyP_snoc (L : List Fl) (l : Fl) (f : Fm) : anyP (L ++ [l]) f = (anyP L f || (okF f && pas1 l f)) := by
  unfold anyP
  rw [List.any_append]; simp
theorem anyP_all {L : List Fl} (f : Fm) (h : L.length ≠ 0) : (okF f && pas L f) = anyP L f := by
  unfold pas anyP
  rw [decide_eq_false h, Bool.false_or]
  cases okF f with
  | true => rfl
  | false =>
    rw [Bool.false_and]
    exact (List.any_eq_false.2 fun x _ => by simp).symm
theorem okN11 : okN 1 1 := by unfold okN; decide
inductive S3 (A0 A3 A5 A7 A8 : Value) : List Value → Prop
  | mk {r1 r2 r4 r6 r9 r10 r11 r12 r13 r14 r15 r16 r17 r18 r19 r20 r21 r22 r23 r24 r25 r26 r27 r28 r29 r30 r31 r32 r33 r34 r35 r36 r37 r38 r39 r40 r41 r42 r43 r44 r45 r46 r47 r48 r49 r50 r51 r52 r53 r54 r55 r56 r57 r58 r59 r60 r61 r62 r63 r64 r65 r66 r67 : Value} : S3 A0 A3 A5 A7 A8 [A0, r1, r2, A3, r4, A5, r6, A7, A8, r9, r10, r11, r12, r13, r14, r15, r16, r17, r18, r19, r20, r21, r22, r23, r24, r25, r26, r27, r28, r29, r30, r31, r32, r33, r34, r35, r36, r37, r38, r39, r40, r41, r42, r43, r44, r45, r46, r47, r48, r49, r50, r51, r52, r53, r54, r55, r56, r57, r58, r59, r60, r61, r62, r63, r64, r65, r66, r67]
theorem filters_c {sv : Value} {L : List Fl} {f : Fm} (hD : Db H) (hin : InS fC 3 sv H L) (hw : ∀ l ∈ L, l.wf) (hb : L.length * 12 ≤ 140737488355328) (hf : f.id < 4294967296) (hK : K (.bool true) H) : SCalls Tryd.prog 3 [sv, frV f] H K := by
  obtain ⟨sa, sc, rfl, hml⟩ := hin.sv
  have hD' : ∀ q : Nat × Blk, Db (q :: H) := fun q => hD.mono fun p hp => .tail _ hp
  refine enter3 ?_
  by_cases h32 : 32 < L.length
  · repeat' ((conv => whnf); (first | refine Branch.dt (by omega) ?_ | refine Branch.t rfl ?_ | refine c7 (hD' _) ?_ | exact Keep.d1 hK | refine New.mk (fun _ => ?_) | refine Look.at0 ?_ | refine Cell.row ?_ | refine Cell.buf ?_ | refine Cells.row rfl ?_ | refine Put.row rfl ?_ | refine Put.buf rfl ?_ | refine Look.at1 ?_ | refine Look.at2 ?_ | refine Look.at3 ?_ | refine Look.at4 ?_ | refine Look.at5 ?_ | refine Look.at6 ?_ | refine Look.at7 ?_ | refine Look.at8 ?_ | with_reducible refine Val.i64 (by omega) (by omega) ?_ | with_reducible refine Val.u8 (by omega) (by omega) ?_ | with_reducible refine Val.u32 (by omega) (by omega) ?_ | with_reducible refine Val.u64 (by omega) (by omega) ?_ | with_reducible refine Val.u8m ?_ | with_reducible refine Val.u32m ?_ | with_reducible refine Val.u64m ?_ | with_reducible refine Val.shr8 ?_ | with_reducible refine Val.shr16 (by decide) ?_ | with_reducible refine Val.shr24 (by decide) ?_ | with_reducible refine Val.raw ?_ | refine Branch.not ?_ | refine Branch.and ?_ | refine Branch.or ?_ | refine Branch.dt (by assumption) ?_ | refine Branch.df (by assumption) ?_ | refine Branch.dt rfl ?_ | refine Branch.dt (by omega) ?_ | refine Branch.df (by omega) ?_ | refine Branch.t rfl ?_ | refine Branch.f rfl ?_ | refine Branch.t (by assumption) ?_ | refine Branch.f (by assumption) ?_ | refine Branch.d (fun _ => ?_) (fun _ => ?_) | refine Branch.mk (fun _ => ?_) (fun _ => ?_) | refine Need.mk (by first | omega | decide | rfl) ?_ | refine Idx.nat (by omega) ?_ | refine Idx.auto (by first | omega | decide) (by first | omega | decide) ?_ | refine Cell.ro rfl ?_ | refine SDraw.all (by kernel_rfl) ?_ | refine Kept.k0 ?_ | refine Kept.k1 ?_ | refine Kept.k2 ?_ | refine Kept.k3 ?_ | refine Kept.k4 ?_))
  · by_cases h0 : L.length = 0
    · repeat' ((conv => whnf); (first | refine Branch.df (by omega) ?_ | refine Branch.dt (by omega) ?_ | refine Branch.f rfl ?_ | refine Branch.t rfl ?_ | refine c7 (hD' _) ?_ | exact Keep.d1 hK | refine New.mk (fun _ => ?_) | refine Look.at0 ?_ | refine Cell.row ?_ | refine Cell.buf ?_ | refine Cells.row rfl ?_ | refine Put.row rfl ?_ | refine Put.buf rfl ?_ | refine Look.at1 ?_ | refine Look.at2 ?_ | refine Look.at3 ?_ | refine Look.at4 ?_ | refine Look.at5 ?_ | refine Look.at6 ?_ | refine Look.at7 ?_ | refine Look.at8 ?_ | with_reducible refine Val.i64 (by omega) (by omega) ?_ | with_reducible refine Val.u8 (by omega) (by omega) ?_ | with_reducible refine Val.u32 (by omega) (by omega) ?_ | with_reducible refine Val.u64 (by omega) (by omega) ?_ | with_reducible refine Val.u8m ?_ | with_reducible refine Val.u32m ?_ | with_reducible refine Val.u64m ?_ | with_reducible refine Val.shr8 ?_ | with_reducible refine Val.shr16 (by decide) ?_ | with_reducible refine Val.shr24 (by decide) ?_ | with_reducible refine Val.raw ?_ | refine Branch.not ?_ | refine Branch.and ?_ | refine Branch.or ?_ | refine Branch.dt (by assumption) ?_ | refine Branch.df (by assumption) ?_ | refine Branch.dt rfl ?_ | refine Branch.dt (by omega) ?_ | refine Branch.df (by omega) ?_ | refine Branch.t rfl ?_ | refine Branch.f rfl ?_ | refine Branch.t (by assumption) ?_ | refine Branch.f (by assumption) ?_ | refine Branch.d (fun _ => ?_) (fun _ => ?_) | refine Branch.mk (fun _ => ?_) (fun _ => ?_) | refine Need.mk (by first | omega | decide | rfl) ?_ | refine Idx.nat (by omega) ?_ | refine Idx.auto (by first | omega | decide) (by first | omega | decide) ?_ | refine Cell.ro rfl ?_ | refine SDraw.all (by kernel_rfl) ?_ | refine Kept.k0 ?_ | refine Kept.k1 ?_ | refine Kept.k2 ?_ | refine Kept.k3 ?_ | refine Kept.k4 ?_))
    · have hw0 := dr0_ok (L := L) okN11 (by omega) hw
      have h8 : ∀ (q c : Nat) (t3 : Nat × Blk) (K2 : Value → Heap → Prop), (∀ p F, DrO p (dr0 1 1 L) ((q, .buf 33 (L.flatMap fC) (c * 3)) :: t3 :: H) F → K2 (.tuple ⟨[ptr p, .int .i64 0]⟩) F) → SCalls Tryd.prog 8 [.int .i64 1, .int .i64 1, .slice (some ⟨q, 0, none⟩) L.length c] ((q, .buf 33 (L.flatMap fC) (c * 3)) :: t3 :: H) K2 :=
        fun q c t3 K2 hk => c8 (L := L) (InS.buf (.head _) rfl fC_len hml) (.inr ⟨_, _, rfl⟩) (fun h => absurd okN11 h) (fun _ h => absurd h (by omega)) (fun _ _ => hk)
      have hne1 : ¬ (32 : Int) < (L.length : Int) := by omega
      have hne0 : ¬ (L.length : Int) = 0 := by omega
      repeat' ((conv => whnf); (first | refine Branch.df hne1 ?_ | refine Branch.df hne0 ?_ | refine RawV.copyS (bytes := 12) (hin.mono fun z hz => .tail _ hz) rfl (by kernel_rfl) (by decide) fC_len fC_one (by omega) (fun q c k1 k2 => ?_) | refine h8 _ _ _ _ (fun p F g1 => ?_) | refine Branch.f rfl ?_ | refine New.mk (fun _ => ?_) | refine Look.at0 ?_ | refine Cell.row ?_ | refine Cell.buf ?_ | refine Cells.row rfl ?_ | refine Put.row rfl ?_ | refine Put.buf rfl ?_ | refine Look.at1 ?_ | refine Look.at2 ?_ | refine Look.at3 ?_ | refine Look.at4 ?_ | refine Look.at5 ?_ | refine Look.at6 ?_ | refine Look.at7 ?_ | refine Look.at8 ?_ | with_reducible refine Val.i64 (by omega) (by omega) ?_ | with_reducible refine Val.u8 (by omega) (by omega) ?_ | with_reducible refine Val.u32 (by omega) (by omega) ?_ | with_reducible refine Val.u64 (by omega) (by omega) ?_ | with_reducible refine Val.u8m ?_ | with_reducible refine Val.u32m ?_ | with_reducible refine Val.u64m ?_ | with_reducible refine Val.shr8 ?_ | with_reducible refine Val.shr16 (by decide) ?_ | with_reducible refine Val.shr24 (by decide) ?_ | with_reducible refine Val.raw ?_ | refine Branch.not ?_ | refine Branch.and ?_ | refine Branch.or ?_ | refine Branch.dt (by assumption) ?_ | refine Branch.df (by assumption) ?_ | refine Branch.dt rfl ?_ | refine Branch.dt (by omega) ?_ | refine Branch.df (by omega) ?_ | refine Branch.t rfl ?_ | refine Branch.f rfl ?_ | refine Branch.t (by assumption) ?_ | refine Branch.f (by assumption) ?_ | refine Branch.d (fun _ => ?_) (fun _ => ?_) | refine Branch.mk (fun _ => ?_) (fun _ => ?_) | refine Need.mk (by first | omega | decide | rfl) ?_ | refine Idx.nat (by omega) ?_ | refine Idx.auto (by first | omega | decide) (by first | omega | decide) ?_ | refine Cell.ro rfl ?_ | refine SDraw.all (by kernel_rfl) ?_ | refine Kept.k0 ?_ | refine Kept.k1 ?_ | refine Kept.k2 ?_ | refine Kept.k3 ?_ | refine Kept.k4 ?_))
      rename_i t3 t21
      have hF : ∀ z ∈ H, z ∈ F := fun z hz => g1.has z (.tail _ (.tail _ hz))
      have ht3 : (t3, Blk.row 26 (frC f) (0, 0)) ∈ F := g1.has _ (.tail _ (.head _))
      have hDF : Db F := hD.mono hF
      have hkF : Keep F fun H' => K (.bool true) H' := by
        obtain ⟨F0, rfl, _⟩ := g1.split
        exact Keep.sub H (((List.sublist_cons_self _ _).trans (List.sublist_cons_self _ _)).trans (List.sublist_append_right F0 _)) hK
      have h9 : ∀ K2 : Value → Heap → Prop, K2 (.bool (anyP L f)) F → SCalls Tryd.prog 9 [ptr p, frV f] F K2 := fun K2 hk => c9 hw0 g1 hf (by show K2 (.bool (okF f && pas L f)) F; rw [anyP_all f h0]; exact hk)
      have h7 : ∀ K2 : Value → Heap → Prop, K2 (.bool true) F → SCalls Tryd.prog 7 [] F K2 := fun K2 hk => c7 hDF hk
      clear g1 hw0 h8
      refine SLoop.invA (fun (k : Nat) S H' => k ≤ L.length ∧ S3 (.slice sa L.length sc) (ptr t3) (ptr p) (.bool (anyP (L.take k) f)) (.int .i64 (k : Int)) S ∧ H' = F) (fun k => L.length - k) 0 (Keep.all ⟨Nat.zero_le _, .mk, rfl⟩) ?_
      rintro k S H' ⟨hk, hS, rfl⟩ R hR
      cases hS
      by_cases hlt : k < L.length
      · obtain ⟨x, hx, hdrop, htake⟩ := list_at hlt
        obtain ⟨r, o, c1, b, e1, hrb, hcc⟩ := inS_at hin fC_len hx
        injection e1 with e1 _ e3
        subst e1
        have hxw := hw x (List.mem_of_getElem? hx)
        have hw1 := dr0_ok (L := [x]) okN11 (show (1 : Nat) ≤ 32 by decide) (fun l hl => by obtain rfl := List.mem_singleton.1 hl; exact hxw)
        have h8 : ∀ (w : Nat) (K2 : Value → Heap → Prop), (∀ y F1, DrO y (dr0 1 1 [x]) ((w, .row 33 (fC x) (0, 0)) :: H') F1 → K2 (.tuple ⟨[ptr y, .int .i64 0]⟩) F1) → SCalls Tryd.prog 8 [.int .i64 1, .int .i64 1, .slice (some ⟨w, 0, none⟩) 1 1] ((w, .row 33 (fC x) (0, 0)) :: H') K2 :=
          fun w K2 hk => c8 (L := [x]) (InS.row (L := [x]) (.head _) (by simp) fC_len (show (1 : Nat) ≤ maxLen by decide)) (.inr ⟨_, _, rfl⟩) (fun h => absurd okN11 h) (fun _ h => absurd h (show ¬ 32 < (1 : Nat) by decide)) (fun _ _ => hk)
        have h9x : ∀ y (w : Nat × Blk) F1 (K2 : Value → Heap → Prop), DrO y (dr0 1 1 [x]) (w :: H') F1 → K2 (.bool (okF f && pas1 x f)) F1 → SCalls Tryd.prog 9 [ptr y, frV f] F1 K2 := by
          intro y w F1 K2 h hk
          refine c9 hw1 h hf ?_
          have : pas [x] f = pas1 x f := by unfold pas; simp
          show K2 (.bool (okF f && pas [x] f)) F1
          rw [this]; exact hk
        have hnext : ∀ y (w : Nat × Blk) F1 b S, b = anyP (L.take (k + 1)) f → DrO y (dr0 1 1 [x]) (w :: H') F1 → S3 (.slice (some ⟨r, o, none⟩) L.length sc) (ptr t3) (ptr p) (.bool b) (.int .i64 ((k + 1 : Nat) : Int)) S → R S F1 := by
          intro y w F1 b S hb h hS
          subst hb
          obtain ⟨F0, rfl, _⟩ := h.split
          exact hR (k + 1) S _ (by omega) (Keep.sub H' ((List.sublist_cons_self _ _).trans (List.sublist_append_right F0 _)) ⟨hlt, hS, rfl⟩)
        have hsn : anyP (L.take (k + 1)) f = (anyP (L.take k) f || (okF f && pas1 x f)) := by rw [htake, anyP_snoc]
        rw [hsn] at hnext
        have hc26 : ∀ (j : Nat) v, (frC f)[j]? = some v → (Blk.row 26 (frC f) (0, 0)).cell (0 + j) = some v := fun j v hj => by rw [Nat.zero_add]; exact hj
        clear hR hkF h9 h7
        cases ha : anyP (L.take k) f with
        | true =>
          rw [ha] at hnext
          repeat' ((conv => whnf); (first | refine Look.cells (hF _ hrb) rfl hcc ?_ | refine h8 _ _ (fun y F1 g2 => ?_) | refine Branch.f rfl ?_ | refine Branch.t rfl ?_ | exact hnext _ _ _ _ _ rfl g2 .mk | refine New.mk (fun _ => ?_) | refine Look.at0 ?_ | refine Cell.row ?_ | refine Cell.buf ?_ | refine Cells.row rfl ?_ | refine Put.row rfl ?_ | refine Put.buf rfl ?_ | refine Look.at1 ?_ | refine Look.at2 ?_ | refine Look.at3 ?_ | refine Look.at4 ?_ | refine Look.at5 ?_ | refine Look.at6 ?_ | refine Look.at7 ?_ | refine Look.at8 ?_ | with_reducible refine Val.i64 (by omega) (by omega) ?_ | with_reducible refine Val.u8 (by omega) (by omega) ?_ | with_reducible refine Val.u32 (by omega) (by omega) ?_ | with_reducible refine Val.u64 (by omega) (by omega) ?_ | with_reducible refine Val.u8m ?_ | with_reducible refine Val.u32m ?_ | with_reducible refine Val.u64m ?_ | with_reducible refine Val.shr8 ?_ | with_reducible refine Val.shr16 (by decide) ?_ | with_reducible refine Val.shr24 (by decide) ?_ | with_reducible refine Val.raw ?_ | refine Branch.not ?_ | refine Branch.and ?_ | refine Branch.or ?_ | refine Branch.dt (by assumption) ?_ | refine Branch.df (by assumption) ?_ | refine Branch.dt rfl ?_ | refine Branch.dt (by omega) ?_ | refine Branch.df (by omega) ?_ | refine Branch.t rfl ?_ | refine Branch.f rfl ?_ | refine Branch.t (by assumption) ?_ | refine Branch.f (by assumption) ?_ | refine Branch.d (fun _ => ?_) (fun _ => ?_) | refine Branch.mk (fun _ => ?_) (fun _ => ?_) | refine Need.mk (by first | omega | decide | rfl) ?_ | refine Idx.nat (by omega) ?_ | refine Idx.auto (by first | omega | decide) (by first | omega | decide) ?_ | refine Cell.ro rfl ?_ | refine SDraw.all (by kernel_rfl) ?_ | refine Kept.k0 ?_ | refine Kept.k1 ?_ | refine Kept.k2 ?_ | refine Kept.k3 ?_ | refine Kept.k4 ?_))
        | false =>
          rw [ha] at hnext
          repeat' ((conv => whnf); (first | refine Look.cells (hF _ hrb) rfl hcc ?_ | refine h8 _ _ (fun y F1 g2 => ?_) | refine Branch.f rfl ?_ | refine Look.cells (g2.has _ (.tail _ ht3)) rfl hc26 ?_ | refine h9x _ _ _ _ g2 ?_ | exact hnext _ _ _ _ _ (by rw [Bool.false_or]) g2 .mk | refine New.mk (fun _ => ?_) | refine Look.at0 ?_ | refine Cell.row ?_ | refine Cell.buf ?_ | refine Cells.row rfl ?_ | refine Put.row rfl ?_ | refine Put.buf rfl ?_ | refine Look.at1 ?_ | refine Look.at2 ?_ | refine Look.at3 ?_ | refine Look.at4 ?_ | refine Look.at5 ?_ | refine Look.at6 ?_ | refine Look.at7 ?_ | refine Look.at8 ?_ | with_reducible refine Val.i64 (by omega) (by omega) ?_ | with_reducible refine Val.u8 (by omega) (by omega) ?_ | with_reducible refine Val.u32 (by omega) (by omega) ?_ | with_reducible refine Val.u64 (by omega) (by omega) ?_ | with_reducible refine Val.u8m ?_ | with_reducible refine Val.u32m ?_ | with_reducible refine Val.u64m ?_ | with_reducible refine Val.shr8 ?_ | with_reducible refine Val.shr16 (by decide) ?_ | with_reducible refine Val.shr24 (by decide) ?_ | with_reducible refine Val.raw ?_ | refine Branch.not ?_ | refine Branch.and ?_ | refine Branch.or ?_ | refine Branch.dt (by assumption) ?_ | refine Branch.df (by assumption) ?_ | refine Branch.dt rfl ?_ | refine Branch.dt (by omega) ?_ | refine Branch.df (by omega) ?_ | refine Branch.t rfl ?_ | refine Branch.f rfl ?_ | refine Branch.t (by assumption) ?_ | refine Branch.f (by assumption) ?_ | refine Branch.d (fun _ => ?_) (fun _ => ?_) | refine Branch.mk (fun _ => ?_) (fun _ => ?_) | refine Need.mk (by first | omega | decide | rfl) ?_ | refine Idx.nat (by omega) ?_ | refine Idx.auto (by first | omega | decide) (by first | omega | decide) ?_ | refine Cell.ro rfl ?_ | refine SDraw.all (by kernel_rfl) ?_ | refine Kept.k0 ?_ | refine Kept.k1 ?_ | refine Kept.k2 ?_ | refine Kept.k3 ?_ | refine Kept.k4 ?_))
      · obtain rfl : k = L.length := by omega
        rw [List.take_length]
        clear hR
        have hc26 : ∀ (j : Nat) v, (frC f)[j]? = some v → (Blk.row 26 (frC f) (0, 0)).cell (0 + j) = some v := fun j v hj => by rw [Nat.zero_add]; exact hj
        repeat' ((conv => whnf); (first | refine Branch.df (by omega) ?_ | refine Look.cells ht3 rfl hc26 ?_ | refine h9 _ ?_ | refine Branch.t (beq_self_eq_true _) ?_ | refine h7 _ ?_ | exact hkF | refine New.mk (fun _ => ?_) | refine Look.at0 ?_ | refine Cell.row ?_ | refine Cell.buf ?_ | refine Cells.row rfl ?_ | refine Put.row rfl ?_ | refine Put.buf rfl ?_ | refine Look.at1 ?_ | refine Look.at2 ?_ | refine Look.at3 ?_ | refine Look.at4 ?_ | refine Look.at5 ?_ | refine Look.at6 ?_ | refine Look.at7 ?_ | refine Look.at8 ?_ | with_reducible refine Val.i64 (by omega) (by omega) ?_ | with_reducible refine Val.u8 (by omega) (by omega) ?_ | with_reducible refine Val.u32 (by omega) (by omega) ?_ | with_reducible refine Val.u64 (by omega) (by omega) ?_ | with_reducible refine Val.u8m ?_ | with_reducible refine Val.u32m ?_ | with_reducible refine Val.u64m ?_ | with_reducible refine Val.shr8 ?_ | with_reducible refine Val.shr16 (by decide) ?_ | with_reducible refine Val.shr24 (by decide) ?_ | with_reducible refine Val.raw ?_ | refine Branch.not ?_ | refine Branch.and ?_ | refine Branch.or ?_ | refine Branch.dt (by assumption) ?_ | refine Branch.df (by assumption) ?_ | refine Branch.dt rfl ?_ | refine Branch.dt (by omega) ?_ | refine Branch.df (by omega) ?_ | refine Branch.t rfl ?_ | refine Branch.f rfl ?_ | refine Branch.t (by assumption) ?_ | refine Branch.f (by assumption) ?_ | refine Branch.d (fun _ => ?_) (fun _ => ?_) | refine Branch.mk (fun _ => ?_) (fun _ => ?_) | refine Need.mk (by first | omega | decide | rfl) ?_ | refine Idx.nat (by omega) ?_ | refine Idx.auto (by first | omega | decide) (by first | omega | decide) ?_ | refine Cell.ro rfl ?_ | refine SDraw.all (by kernel_rfl) ?_ | refine Kept.k0 ?_ | refine Kept.k1 ?_ | refine Kept.k2 ?_ | refine Kept.k3 ?_ | refine Kept.k4 ?_))
end
end Go.Proofs.YthgpikgbhkcnbaaDoor

/- Input slices: from what the row tells of one to what a walk knows of it. -/
set_option linter.unusedVariables false
set_option linter.unusedSimpArgs false
namespace Go.Proofs.YthgpikgbhkcnbaaDoor
open Sx
theorem inS_of {α : Type} {f : α → List Value} {k B : Nat} {R : World → List Value → Prop} {Good : α → Prop} {w : World} {a : Option Addr} {n c : Nat} (h : SliceAt k B R w a n c) (hk0 : 0 < k) (hk : ∀ x, (f x).length = k) (hR : ∀ cs, R w cs → ∃ x, cs = f x ∧ Good x) :
    ∃ H L, L.length = n ∧ InS f k (.slice a L.length c) H L ∧ (∀ x ∈ L, Good x) ∧ Holds w H ∧ ∀ p ∈ H, p.2.excl = false := by
  have hml : n ≤ maxLen := Nat.le_trans h.1 h.2.1
  by_cases hl : 0 < n
  · obtain ⟨b, o, rfl, hb, hc⟩ := h.plain hk0 hl
    obtain ⟨L, h1, h2⟩ := list_of (P := fun j (m : α) => Good m ∧ ∀ i v, (f m)[i]? = some v → w.cell? ⟨b, o + j * k + i, none⟩ = some v) n fun j hj => by
      obtain ⟨cs, hlc, hcell, hr⟩ := hc j hj
      obtain ⟨x, rfl, hg⟩ := hR cs hr
      refine ⟨x, hg, fun i v hi => ?_⟩
      have hik : i < k := by rw [← hk x]; exact (List.getElem?_eq_some_iff.1 hi).1
      exact (hcell i hik).trans hi
    refine ⟨[(b, .ro fun j => w.cell? ⟨b, j, none⟩)], L, h1, ⟨_, c, rfl, by omega, .inr ⟨b, o, _, rfl, .head _, fun j x i v hj hv hi => (h2 j x hj).2 i v hv⟩⟩, fun x hx => ?_, ⟨fun p hp => ?_, List.pairwise_singleton _ _⟩, fun p hp => ?_⟩
    · obtain ⟨j, hlt, rfl⟩ := List.getElem_of_mem hx
      exact (h2 j _ (List.getElem?_eq_getElem hlt)).1
    · obtain rfl := List.mem_singleton.1 hp
      exact ⟨hb, fun _ _ h => h⟩
    · obtain rfl := List.mem_singleton.1 hp
      rfl
  · obtain rfl : n = 0 := by omega
    exact ⟨[], [], rfl, ⟨a, c, rfl, by simp, .inl rfl⟩, fun x hx => (by cases hx), Holds.empty w, fun p hp => by cases hp⟩
/-- Two inputs, side by side. -/
theorem Holds.join {w : World} {H G : Heap} (h1 : Holds w H) (h2 : Holds w G) (x1 : ∀ p ∈ H, p.2.excl = false) (x2 : ∀ p ∈ G, p.2.excl = false) : Holds w (H ++ G) := by
  refine ⟨fun p hp => ?_, List.pairwise_append.2 ⟨h1.sep, h2.sep, fun p hp q hq hx => ?_⟩⟩
  · rcases List.mem_append.1 hp with hp | hp
    · exact h1.at_ p hp
    · exact h2.at_ p hp
  · rw [x1 p hp, x2 q hq] at hx
    rcases hx with hx | hx <;> cases hx
theorem excl_join {H G : Heap} (x1 : ∀ p ∈ H, p.2.excl = false) (x2 : ∀ p ∈ G, p.2.excl = false) : ∀ p ∈ H ++ G, p.2.excl = false := fun p hp => by
  rcases List.mem_append.1 hp with hp | hp
  · exact x1 p hp
  · exact x2 p hp
end Go.Proofs.YthgpikgbhkcnbaaDoor

/- Layer 5: what the row tells of the input; DriverFilters. -/
set_option linter.unusedVariables false
set_option linter.unusedSimpArgs false
set_option maxRecDepth 100000
set_option maxHeartbeats 4000000
namespace Go.Proofs.YthgpikgbhkcnbaaDoor
open Sx
theorem g3 : Tryd.prog.globalNamed "math/bits.deBruijn64tab" = some 3 := by kernel_rfl
theorem g3t : ∃ t, (Tryd.prog.globals[3]?).map (·.type) = some t ∧ Tryd.prog.underlying t = some (.array 64 5) ∧ Tryd.prog.cellsOf t = 64 := ⟨139, by kernel_rfl, by kernel_rfl, by kernel_rfl⟩
/-- What the row's list gives a walk. -/
theorem db_of {W : World} {d : DataW Unit} {rest : List (String × DataW Unit)} (h : laidMet Tryd.prog (("math/bits.deBruijn32tab", d) :: ("math/bits.deBruijn64tab", Rows.laid_math_bits_deBruijn64tab) :: rest) W) :
    Db [(3, .ro fun j => if j = 1 then some (.int .u8 1) else none)] ∧ Holds W [(3, .ro fun j => if j = 1 then some (.int .u8 1) else none)] ∧ ∀ p ∈ [((3 : Nat), Blk.ro fun j => if j = 1 then some (.int .u8 1) else none)], p.2.excl = false := by
  obtain ⟨t, h1, h2, h3⟩ := g3t
  have hT := Lib.tabIs_of_head (k := .u8) (zs := [0, 1, 56, 2, 57, 49, 28, 3, 61, 58, 42, 50, 38, 29, 17, 4, 62, 47, 59, 36, 45, 43, 51, 22, 53, 39, 33, 30, 24, 18, 12, 5, 63, 55, 48, 27, 60, 41, 37, 16, 46, 35, 44, 21, 52, 32, 23, 11, 54, 26, 40, 15, 34, 20, 31, 10, 25, 14, 19, 9, 13, 8, 7, 6]) g3 h1 h2 (show Tryd.prog.underlying 5 = some (.int .u8) by kernel_rfl) (by kernel_rfl) h3 h.tail
  have hc : W.cell? ⟨3, 1, none⟩ = some (.int .u8 1) := hT.cell g3 1 (by decide)
  refine ⟨⟨_, .head _, rfl⟩, ⟨fun p hp => ?_, List.pairwise_singleton _ _⟩, fun p hp => ?_⟩
  · obtain rfl := List.mem_singleton.1 hp
    refine ⟨World.block_lt_of_cell? W _ hc, fun j v hj => ?_⟩
    by_cases h : j = 1
    · subst h
      injection hj with hj
      subst hj
      exact hc
    · simp only [h, if_false] at hj
      cases hj
  · obtain rfl := List.mem_singleton.1 hp
    rfl
theorem u8_of {x : Int} (h : (Lit.int .u8 x).wf = true) : ∃ b : UInt8, Value.int .u8 x = b8 b := by
  have e := wf_u8 h
  refine ⟨UInt8.ofNat x.toNat, ?_⟩
  have : (UInt8.ofNat x.toNat).toNat = x.toNat := by
    rw [UInt8.toNat_ofNat']
    exact Nat.mod_eq_of_lt (by omega)
  show _ = Value.int .u8 (((UInt8.ofNat x.toNat).toNat : Nat) : Int)
  rw [this, Int.toNat_of_nonneg e.1]
/-- A frame that comes in. -/
theorem frame_of {id n y0 y1 y2 y3 y4 y5 y6 y7 : Int} {x r : Bool} (h0 : (Lit.int .u32 id).wf = true) (h1 : (Lit.int .i64 n).wf = true) (k0 : (Lit.int .u8 y0).wf = true) (k1 : (Lit.int .u8 y1).wf = true) (k2 : (Lit.int .u8 y2).wf = true) (k3 : (Lit.int .u8 y3).wf = true)
    (k4 : (Lit.int .u8 y4).wf = true) (k5 : (Lit.int .u8 y5).wf = true) (k6 : (Lit.int .u8 y6).wf = true) (k7 : (Lit.int .u8 y7).wf = true) :
    ∃ f : Fm, [Value.int .u32 id, .bool x, .bool r, .int .i64 n, .int .u8 y0, .int .u8 y1, .int .u8 y2, .int .u8 y3, .int .u8 y4, .int .u8 y5, .int .u8 y6, .int .u8 y7] = frC f ∧ f.wf := by
  have e0 := wf_u32 h0
  have e1 := wf_i64 h1
  obtain ⟨b0, q0⟩ := u8_of k0
  obtain ⟨b1, q1⟩ := u8_of k1
  obtain ⟨b2, q2⟩ := u8_of k2
  obtain ⟨b3, q3⟩ := u8_of k3
  obtain ⟨b4, q4⟩ := u8_of k4
  obtain ⟨b5, q5⟩ := u8_of k5
  obtain ⟨b6, q6⟩ := u8_of k6
  obtain ⟨b7, q7⟩ := u8_of k7
  obtain ⟨i, rfl⟩ : ∃ i : Nat, id = (i : Int) := ⟨id.toNat, by omega⟩
  refine ⟨⟨i, x, r, n, b0, b1, b2, b3, b4, b5, b6, b7⟩, by rw [q0, q1, q2, q3, q4, q5, q6, q7], (by show i < 4294967296; omega), e1.1, e1.2⟩
theorem frame_in {w : World} {cs : List Value} (h : R26 w cs) : ∃ f, cs = frC f ∧ f.wf := by
  obtain ⟨x0, x1, x2, x3, y0, y1, y2, y3, y4, y5, y6, y7, rfl, h0, h1, k0, k1, k2, k3, k4, k5, k6, k7⟩ := h
  exact frame_of h0 h1 k0 k1 k2 k3 k4 k5 k6 k7
theorem filter_in {w : World} {cs : List Value} (h : R33 w cs) : ∃ l, cs = fC l ∧ l.wf := by
  obtain ⟨x0, x1, x2, rfl, h0, h1⟩ := h
  have e0 := wf_u32 h0
  have e1 := wf_u32 h1
  obtain ⟨n0, rfl⟩ : ∃ n : Nat, x0 = (n : Int) := ⟨x0.toNat, by omega⟩
  obtain ⟨n1, rfl⟩ : ∃ n : Nat, x1 = (n : Int) := ⟨x1.toNat, by omega⟩
  exact ⟨⟨n0, n1, x2⟩, rfl, (by show n0 < 4294967296; omega), (by show n1 < 4294967296; omega)⟩
theorem filters_of {w : World} {a : Option Addr} {n c : Nat} (h : SliceAt 3 B33 R33 w a n c) : ∃ H L, L.length = n ∧ InS fC 3 (.slice a L.length c) H L ∧ (∀ x ∈ L, x.wf) ∧ Holds w H ∧ (∀ p ∈ H, p.2.excl = false) ∧ L.length * 12 ≤ 140737488355328 := by
  obtain ⟨H, L, e, hin, hwf, hw, hx⟩ := inS_of (f := fC) (Good := Fl.wf) h (by decide) fC_len (fun cs hc => filter_in hc)
  have hb := h.2.2.1
  simp only [reachBytes, B33] at hb
  exact ⟨H, L, e, hin, hwf, hw, hx, by omega⟩
theorem frames_of {w : World} {a : Option Addr} {n c : Nat} (h : SliceAt 12 B26 R26 w a n c) : ∃ H L, L.length = n ∧ InS frC 12 (.slice a L.length c) H L ∧ (∀ x ∈ L, x.wf) ∧ Holds w H ∧ (∀ p ∈ H, p.2.excl = false) ∧ L.length * 24 ≤ 140737488355328 := by
  obtain ⟨H, L, e, hin, hwf, hw, hx⟩ := inS_of (f := frC) (Good := Fm.wf) h (by decide) frC_len (fun cs hc => frame_in hc)
  have hb := h.2.2.1
  simp only [reachBytes, B26] at hb
  exact ⟨H, L, e, hin, hwf, hw, hx, by omega⟩
theorem DriverFiltersW (a0a : Option Addr) (a0l : Nat) (a0c : Nat) (a1x0 : Int) (a1x1 : Bool) (a1x2 : Bool) (a1x3 : Int) (a1x4_0 : Int) (a1x4_1 : Int) (a1x4_2 : Int) (a1x4_3 : Int) (a1x4_4 : Int) (a1x4_5 : Int) (a1x4_6 : Int) (a1x4_7 : Int) (w : World) (h0_0 : SliceAt 3 B33 R33 w a0a a0l a0c) (h1_0 : (Lit.int .u32 a1x0).wf = true) (h1_1 : (Lit.int .i64 a1x3).wf = true) (h1_2 : (Lit.int .u8 a1x4_0).wf = true) (h1_3 : (Lit.int .u8 a1x4_1).wf = true) (h1_4 : (Lit.int .u8 a1x4_2).wf = true) (h1_5 : (Lit.int .u8 a1x4_3).wf = true) (h1_6 : (Lit.int .u8 a1x4_4).wf = true) (h1_7 : (Lit.int .u8 a1x4_5).wf = true) (h1_8 : (Lit.int .u8 a1x4_6).wf = true) (h1_9 : (Lit.int .u8 a1x4_7).wf = true)
    (hL : laidMet Tryd.prog Rows.driverFiltersRow.laid w) :
    Calls Tryd.prog 3 #[.slice a0a a0l a0c, .agg #[.int .u32 a1x0, .bool a1x1, .bool a1x2, .int .i64 a1x3, .int .u8 a1x4_0, .int .u8 a1x4_1, .int .u8 a1x4_2, .int .u8 a1x4_3, .int .u8 a1x4_4, .int .u8 a1x4_5, .int .u8 a1x4_6, .int .u8 a1x4_7]] w fun e w' => e = .returned (.bool true) ∧ Go.RowKit.Below w.heap.size w w' := by
  obtain ⟨hD, hw, hx⟩ := db_of hL
  obtain ⟨H, L, rfl, hin, hwf, hw2, x2, hb⟩ := filters_of h0_0
  obtain ⟨f, hf, hfw⟩ := frame_of (x := a1x1) (r := a1x2) h1_0 h1_1 h1_2 h1_3 h1_4 h1_5 h1_6 h1_7 h1_8 h1_9
  have hf2 : Value.agg #[.int .u32 a1x0, .bool a1x1, .bool a1x2, .int .i64 a1x3, .int .u8 a1x4_0, .int .u8 a1x4_1, .int .u8 a1x4_2, .int .u8 a1x4_3, .int .u8 a1x4_4, .int .u8 a1x4_5, .int .u8 a1x4_6, .int .u8 a1x4_7] = frV f := congrArg (fun l => Value.agg ⟨l⟩) hf
  rw [hf2]
  exact (filters_c (hD.mono fun p hp => List.mem_append_left _ hp) (hin.mono fun p hp => List.mem_append_right _ hp) hwf hb hfw.1 rfl : SCalls Tryd.prog 3 _ _ fun v _ => v = .bool true).fin w (Holds.join hw hw2 hx x2) (excl_join hx x2)
end Go.Proofs.YthgpikgbhkcnbaaDoor

/- Layer 5: DriverOrder: by walks. -/
set_option linter.unusedVariables false
set_option linter.unusedSimpArgs false
set_option maxRecDepth 100000
set_option maxHeartbeats 4000000
namespace Go.Proofs.YthgpikgbhkcnbaaDoor
open Sx
theorem zs_zs (f : Fm) (m k : Nat) : zs (zs f m k) m k = zs f m k := by
  obtain ⟨id, x, rm, n, d0, d1, d2, d3, d4, d5, d6, d7⟩ := f
  unfold zs
  dsimp only
  congr 1 <;> (split <;> rfl)
theorem nb_plF (f : Fm) : nb (plF f) = nb f := rfl
theorem plF_plF (f : Fm) : plF (plF f) = plF f := by
  show zs (plF f) (nb f) 8 = _
  exact zs_zs f (nb f) 8
/-- What holds of a frame in a mailbox. -/
def Gd (x : Wn) : Prop := okF x.f = true ∧ x.fl = fld x.f ∧ plF x.f = x.f ∧ x.f.id < 4294967296
theorem gd_mail {f : Fm} (n : Nat) (h : okF f = true) (hid : f.id < 4294967296) : Gd (mailW f n) := ⟨h, rfl, plF_plF f, hid⟩
theorem okN641 : okN 64 1 := by unfold okN; decide
inductive S4a (A0 A3 A5 A6 : Value) : List Value → Prop
  | mk {r1 r2 r4 r7 r8 r9 r10 r11 r12 r13 r14 r15 r16 r17 r18 r19 r20 r21 r22 r23 r24 r25 r26 r27 r28 r29 r30 r31 r32 r33 r34 r35 r36 r37 r38 r39 r40 r41 r42 r43 r44 r45 r46 r47 r48 r49 r50 r51 r52 r53 r54 r55 r56 r57 r58 r59 r60 r61 r62 r63 r64 r65 r66 r67 r68 r69 r70 r71 r72 r73 r74 r75 r76 r77 r78 r79 r80 r81 r82 r83 r84 r85 r86 r87 : Value} : S4a A0 A3 A5 A6 [A0, r1, r2, A3, r4, A5, A6, r7, r8, r9, r10, r11, r12, r13, r14, r15, r16, r17, r18, r19, r20, r21, r22, r23, r24, r25, r26, r27, r28, r29, r30, r31, r32, r33, r34, r35, r36, r37, r38, r39, r40, r41, r42, r43, r44, r45, r46, r47, r48, r49, r50, r51, r52, r53, r54, r55, r56, r57, r58, r59, r60, r61, r62, r63, r64, r65, r66, r67, r68, r69, r70, r71, r72, r73, r74, r75, r76, r77, r78, r79, r80, r81, r82, r83, r84, r85, r86, r87]
inductive S4b (A3 A5 A9 A10 : Value) : List Value → Prop
  | mk {r0 r1 r2 r4 r6 r7 r8 r11 r12 r13 r14 r15 r16 r17 r18 r19 r20 r21 r22 r23 r24 r25 r26 r27 r28 r29 r30 r31 r32 r33 r34 r35 r36 r37 r38 r39 r40 r41 r42 r43 r44 r45 r46 r47 r48 r49 r50 r51 r52 r53 r54 r55 r56 r57 r58 r59 r60 r61 r62 r63 r64 r65 r66 r67 r68 r69 r70 r71 r72 r73 r74 r75 r76 r77 r78 r79 r80 r81 r82 r83 r84 r85 r86 r87 : Value} : S4b A3 A5 A9 A10 [r0, r1, r2, A3, r4, A5, r6, r7, r8, A9, A10, r11, r12, r13, r14, r15, r16, r17, r18, r19, r20, r21, r22, r23, r24, r25, r26, r27, r28, r29, r30, r31, r32, r33, r34, r35, r36, r37, r38, r39, r40, r41, r42, r43, r44, r45, r46, r47, r48, r49, r50, r51, r52, r53, r54, r55, r56, r57, r58, r59, r60, r61, r62, r63, r64, r65, r66, r67, r68, r69, r70, r71, r72, r73, r74, r75, r76, r77, r78, r79, r80, r81, r82, r83, r84, r85, r86, r87]
section
variable {K : Value → Heap → Prop} {H : Heap} {sv : Value} {L : List Fm}
def I4a (sv : Value) (p : Nat) (L : List Fm) (H : Heap) (y : Nat × Dr) (S : List Value) (H' : Heap) : Prop :=
  y.1 ≤ L.length ∧ DrO p y.2 H H' ∧ DrW y.2 ∧ (∀ x ∈ y.2.q, Gd x) ∧ y.2.tk ≤ y.1 ∧ S4a sv (ptr p) (i64 y.2.q.length) (i64 y.1) S
def I4b (p n : Nat) (H : Heap) (y : Nat × Dr × List UInt8) (S : List Value) (H' : Heap) : Prop :=
  y.1 + y.2.1.q.length = n ∧ DrO p y.2.1 H H' ∧ DrW y.2.1 ∧ (∀ x ∈ y.2.1.q, Gd x ∧ tlt x.fl y.2.2 = false) ∧ S4b (ptr p) (i64 n) (.string (strOf y.2.2)) (i64 y.1) S
theorem order_c (hD : Db H) (hin : InS frC 12 sv H L) (hw : ∀ f ∈ L, f.wf) (hb : L.length * 24 ≤ 140737488355328) : SCalls Tryd.prog 4 [sv] H fun v _ => v = .bool true := by
  obtain ⟨sa, sc, rfl, hml⟩ := hin.sv
  have hml2 : L.length ≤ 5864062014806 := by omega
  have h8 : ∀ K2 : Value → Heap → Prop, (∀ p F, DrO p (dr0 64 1 []) H F → K2 (.tuple ⟨[ptr p, .int .i64 0]⟩) F) → SCalls Tryd.prog 8 [.int .i64 64, .int .i64 1, .slice none 0 0] H K2 :=
    fun K2 hk => c8 (L := []) InS.nil (.inl ⟨rfl, rfl⟩) (fun h => absurd okN641 h) (fun _ h => absurd h (by decide)) (fun _ _ => hk)
  have hw0 := dr0_ok (L := []) okN641 (by decide) (fun l hl => by cases hl)
  refine enter4 ?_
  repeat' ((conv => whnf); (first | refine h8 _ (fun p F g1 => ?_) | refine Branch.f rfl ?_ | refine New.mk (fun _ => ?_) | refine Look.at0 ?_ | refine Cell.row ?_ | refine Cell.buf ?_ | refine Cells.row rfl ?_ | refine Put.row rfl ?_ | refine Put.buf rfl ?_ | refine Look.at1 ?_ | refine Look.at2 ?_ | refine Look.at3 ?_ | refine Look.at4 ?_ | refine Look.at5 ?_ | refine Look.at6 ?_ | refine Look.at7 ?_ | refine Look.at8 ?_ | with_reducible refine Val.i64 (by omega) (by omega) ?_ | with_reducible refine Val.u8 (by omega) (by omega) ?_ | with_reducible refine Val.u32 (by omega) (by omega) ?_ | with_reducible refine Val.u64 (by omega) (by omega) ?_ | with_reducible refine Val.u8m ?_ | with_reducible refine Val.u32m ?_ | with_reducible refine Val.u64m ?_ | with_reducible refine Val.shr8 ?_ | with_reducible refine Val.shr16 (by decide) ?_ | with_reducible refine Val.shr24 (by decide) ?_ | with_reducible refine Val.raw ?_ | refine Branch.not ?_ | refine Branch.and ?_ | refine Branch.or ?_ | refine Branch.dt (by assumption) ?_ | refine Branch.df (by assumption) ?_ | refine Branch.dt rfl ?_ | refine Branch.dt (by omega) ?_ | refine Branch.df (by omega) ?_ | refine Branch.t rfl ?_ | refine Branch.f rfl ?_ | refine Branch.t (by assumption) ?_ | refine Branch.f (by assumption) ?_ | refine Branch.d (fun _ => ?_) (fun _ => ?_) | refine Branch.mk (fun _ => ?_) (fun _ => ?_) | refine Need.mk (by first | omega | decide | rfl) ?_ | refine Idx.nat (by omega) ?_ | refine Idx.auto (by first | omega | decide) (by first | omega | decide) ?_ | refine Cell.ro rfl ?_ | refine SDraw.all (by kernel_rfl) ?_ | refine Kept.k0 ?_ | refine Kept.k1 ?_ | refine Kept.k2 ?_ | refine Kept.k3 ?_ | refine Kept.k4 ?_))
  refine SLoop.invA (I4a (.slice sa L.length sc) p L H) (fun y => L.length - y.1) (0, dr0 64 1 []) (Keep.all ⟨Nat.zero_le _, g1, hw0, fun x hx => (by cases hx), Nat.le_refl _, .mk⟩) ?_
  clear g1 h8
  rintro ⟨k, s⟩ S H' ⟨hk, hDr, hW, hgd, htk, hS⟩ R hR
  dsimp only at hk hDr hW hgd htk hS hR ⊢
  cases hS
  have hDF : Db H' := hD.mono hDr.has
  have hq64 : s.q.length ≤ 64 := Nat.le_trans hW.q hW.most
  by_cases hlt : k < L.length
  · obtain ⟨f, hx, hdrop, htake⟩ := list_at hlt
    obtain ⟨r, o, c1, b, e1, hrb, hcc⟩ := inS_at hin frC_len hx
    injection e1 with e1 _ e3
    subst e1
    have hfw := hw f (List.mem_of_getElem? hx)
    have hnext0 : ∀ S, S4a (.slice (some ⟨r, o, none⟩) L.length sc) (ptr p) (i64 s.q.length) (i64 (k + 1)) S → R S H' := fun S hS => hR (k + 1, s) S H' (by show L.length - (k + 1) < L.length - k; omega) (Keep.all ⟨hlt, hDr, hW, hgd, by show s.tk ≤ k + 1; omega, hS⟩)
    have hnext1 : ∀ S q' F', okF f = true → s.q.length < s.most → DrO p { s with tk := s.tk + 1, q := q' } H F' → q'.Perm (s.q ++ [mailW f (s.tk + 1)]) → Hp.HeapN wlt q' q'.length → S4a (.slice (some ⟨r, o, none⟩) L.length sc) (ptr p) (i64 (s.q.length + 1)) (i64 (k + 1)) S → R S F' := by
      intro S q' F' hok hroom k1 k2 k3 hS
      have hl : q'.length = s.q.length + 1 := by rw [k2.length_eq]; simp
      refine hR (k + 1, { s with tk := s.tk + 1, q := q' }) S F' (by show L.length - (k + 1) < L.length - k; omega) (Keep.all ⟨hlt, k1, ⟨hW.most, hW.room, hW.L, hW.Lw, hW.I, by show q'.length ≤ s.most; omega, by show s.tk + 1 ≤ _; omega, hW.lost, k3⟩, fun x hx => ?_, by show s.tk + 1 ≤ k + 1; omega, by rw [← hl] at hS; exact hS⟩)
      rcases List.mem_append.1 (k2.subset hx) with hx | hx
      · exact hgd x hx
      · obtain rfl := List.mem_singleton.1 hx
        exact gd_mail _ hok hfw.1
    have h10 := fun (K2 : Value → Heap → Prop) h0 h1 h2 => c10 (K := K2) hW hDr hD hfw.1 h0 h1 h2
    clear hR
    repeat' ((conv => whnf); (first | refine Look.cells (hDr.has _ hrb) rfl hcc ?_ | refine h10 _ (fun _ => ?_) (fun _ _ => ?_) (fun j1 j2 q' F' j3 j4 j5 => ?_) | refine Branch.f rfl ?_ | refine Branch.t rfl ?_ | with_reducible refine Val.to ((s.q.length + 1 : Nat) : Int) (by rw [wrap_i64 (by omega) (by omega)]; omega) ?_ | with_reducible refine Val.to ((k + 1 : Nat) : Int) (by rw [wrap_i64 (by omega) (by omega)]; omega) ?_ | exact hnext0 _ .mk | exact hnext1 _ _ _ j1 j2 j3 j4 j5 .mk | refine New.mk (fun _ => ?_) | refine Look.at0 ?_ | refine Cell.row ?_ | refine Cell.buf ?_ | refine Cells.row rfl ?_ | refine Put.row rfl ?_ | refine Put.buf rfl ?_ | refine Look.at1 ?_ | refine Look.at2 ?_ | refine Look.at3 ?_ | refine Look.at4 ?_ | refine Look.at5 ?_ | refine Look.at6 ?_ | refine Look.at7 ?_ | refine Look.at8 ?_ | with_reducible refine Val.i64 (by omega) (by omega) ?_ | with_reducible refine Val.u8 (by omega) (by omega) ?_ | with_reducible refine Val.u32 (by omega) (by omega) ?_ | with_reducible refine Val.u64 (by omega) (by omega) ?_ | with_reducible refine Val.u8m ?_ | with_reducible refine Val.u32m ?_ | with_reducible refine Val.u64m ?_ | with_reducible refine Val.shr8 ?_ | with_reducible refine Val.shr16 (by decide) ?_ | with_reducible refine Val.shr24 (by decide) ?_ | with_reducible refine Val.raw ?_ | refine Branch.not ?_ | refine Branch.and ?_ | refine Branch.or ?_ | refine Branch.dt (by assumption) ?_ | refine Branch.df (by assumption) ?_ | refine Branch.dt rfl ?_ | refine Branch.dt (by omega) ?_ | refine Branch.df (by omega) ?_ | refine Branch.t rfl ?_ | refine Branch.f rfl ?_ | refine Branch.t (by assumption) ?_ | refine Branch.f (by assumption) ?_ | refine Branch.d (fun _ => ?_) (fun _ => ?_) | refine Branch.mk (fun _ => ?_) (fun _ => ?_) | refine Need.mk (by first | omega | decide | rfl) ?_ | refine Idx.nat (by omega) ?_ | refine Idx.auto (by first | omega | decide) (by first | omega | decide) ?_ | refine Cell.ro rfl ?_ | refine SDraw.all (by kernel_rfl) ?_ | refine Kept.k0 ?_ | refine Kept.k1 ?_ | refine Kept.k2 ?_ | refine Kept.k3 ?_ | refine Kept.k4 ?_))
  · clear hR
    have hkl : k = L.length := by omega
    subst hkl
    repeat' ((conv => whnf); (first | refine Branch.df (by omega) ?_ | refine New.mk (fun _ => ?_) | refine Look.at0 ?_ | refine Cell.row ?_ | refine Cell.buf ?_ | refine Cells.row rfl ?_ | refine Put.row rfl ?_ | refine Put.buf rfl ?_ | refine Look.at1 ?_ | refine Look.at2 ?_ | refine Look.at3 ?_ | refine Look.at4 ?_ | refine Look.at5 ?_ | refine Look.at6 ?_ | refine Look.at7 ?_ | refine Look.at8 ?_ | with_reducible refine Val.i64 (by omega) (by omega) ?_ | with_reducible refine Val.u8 (by omega) (by omega) ?_ | with_reducible refine Val.u32 (by omega) (by omega) ?_ | with_reducible refine Val.u64 (by omega) (by omega) ?_ | with_reducible refine Val.u8m ?_ | with_reducible refine Val.u32m ?_ | with_reducible refine Val.u64m ?_ | with_reducible refine Val.shr8 ?_ | with_reducible refine Val.shr16 (by decide) ?_ | with_reducible refine Val.shr24 (by decide) ?_ | with_reducible refine Val.raw ?_ | refine Branch.not ?_ | refine Branch.and ?_ | refine Branch.or ?_ | refine Branch.dt (by assumption) ?_ | refine Branch.df (by assumption) ?_ | refine Branch.dt rfl ?_ | refine Branch.dt (by omega) ?_ | refine Branch.df (by omega) ?_ | refine Branch.t rfl ?_ | refine Branch.f rfl ?_ | refine Branch.t (by assumption) ?_ | refine Branch.f (by assumption) ?_ | refine Branch.d (fun _ => ?_) (fun _ => ?_) | refine Branch.mk (fun _ => ?_) (fun _ => ?_) | refine Need.mk (by first | omega | decide | rfl) ?_ | refine Idx.nat (by omega) ?_ | refine Idx.auto (by first | omega | decide) (by first | omega | decide) ?_ | refine Cell.ro rfl ?_ | refine SDraw.all (by kernel_rfl) ?_ | refine Kept.k0 ?_ | refine Kept.k1 ?_ | refine Kept.k2 ?_ | refine Kept.k3 ?_ | refine Kept.k4 ?_))
    refine SLoop.invA (I4b p s.q.length H) (fun y => s.q.length - y.1) (0, s, []) (Keep.all ⟨Nat.zero_add _, hDr, hW, fun x hx => ⟨hgd x hx, by show Op.bytesLess x.fl [] = false; cases x.fl <;> rfl⟩, .mk⟩) ?_
    generalize hn : s.q.length = n at *
    clear hDr hW hgd htk hDF hn s hw0
    rintro ⟨i, s, last⟩ S F ⟨hi, hDr, hW, hgd, hS⟩ R hR
    dsimp only at hi hDr hW hgd hS hR ⊢
    cases hS
    have hDF : Db F := hD.mono hDr.has
    by_cases hlt : i < n
    · obtain ⟨x, rq, hq⟩ : ∃ x rq, s.q = x :: rq := by
        cases hq : s.q with
        | nil => rw [hq] at hi; simp at hi; omega
        | cons x r => exact ⟨x, r, rfl⟩
      have hxq : x ∈ s.q := by rw [hq]; exact .head _
      obtain ⟨⟨gx1, gx2, gx3, gx4⟩, gx5⟩ := hgd x hxq
      have hmin := hW.heap.min wlt_ord (Nat.le_refl _) (m := x) (by rw [hq]; rfl) (wlt_irr x)
      have h11 : ∀ K2 : Value → Heap → Prop, K2 (.tuple ⟨[frV x.f, .bool true]⟩) F → SCalls Tryd.prog 11 [ptr p] F K2 := by
        intro K2 hk
        refine c11 hDr ?_
        rw [hq]
        exact hk
      have h12 : ∀ (t11 : Nat × Blk) (K2 : Value → Heap → Prop), K2 (.tuple ⟨[.string (strOf (fld x.f)), .int .i64 0]⟩) (t11 :: F) → SCalls Tryd.prog 12 [frV x.f] (t11 :: F) K2 := by
        intro t11 K2 hk
        refine c12 gx4 (hDF.mono fun z hz => .tail _ hz) ?_
        unfold fV
        rw [gx1]
        exact hk
      have h13 : ∀ H (K2 : Value → Heap → Prop), K2 (frV x.f) H → SCalls Tryd.prog 13 [frV x.f] H K2 := fun H K2 hk => c13 (by rw [gx3]; exact hk)
      have h14 : ∀ K2 : Value → Heap → Prop, (∀ q' F', DrO p { s with q := q' } H F' → DrW { s with q := q' } → i + 1 + q'.length = n → (∀ z ∈ q', Gd z ∧ tlt z.fl (fld x.f) = false) → K2 (.bool true) F') → SCalls Tryd.prog 14 [ptr p] F K2 := by
        intro K2 hk
        refine c14 hW hDr (fun h => by rw [hq] at h; cases h) (fun y q' F' k1 k2 k3 k4 => ?_)
        have hl : s.q.length = q'.length + 1 := by rw [k2.length_eq]; rfl
        have hsub : ∀ z ∈ q', z ∈ s.q := fun z hz => k2.symm.subset (.tail _ hz)
        refine hk q' F' k1 ⟨hW.most, hW.room, hW.L, hW.Lw, hW.I, by have := hW.q; show q'.length ≤ s.most; omega, hW.tk, hW.lost, k4⟩ (by omega) (fun z hz => ⟨(hgd z (hsub z hz)).1, ?_⟩)
        obtain ⟨j, hj, e⟩ := List.getElem_of_mem (hsub z hz)
        have h2 := hmin j z hj (by rw [List.getElem?_eq_getElem hj, e])
        rw [← gx2]
        unfold wlt Hp.klt key at h2
        simp only [Bool.or_eq_false_iff] at h2
        exact h2.1
      have hls : strLt (strOf (fld x.f)) (strOf last) = false := by rw [strLt_of, ← gx2]; exact gx5
      have hnext : ∀ S (t11 : Nat × Blk) q' F', DrO p { s with q := q' } H F' → DrW { s with q := q' } → i + 1 + q'.length = n → (∀ z ∈ q', Gd z ∧ tlt z.fl (fld x.f) = false) → S4b (ptr p) (i64 n) (.string (strOf (fld x.f))) (i64 (i + 1)) S → R S (t11 :: F') := fun S t11 q' F' k1 k2 k3 k4 hS => hR (i + 1, { s with q := q' }, fld x.f) S _ (by show n - (i + 1) < n - i; omega) (Keep.d1 ⟨k3, k1, k2, k4, hS⟩)
      have hi64 : i ≤ 64 := by
        have := hW.q
        have := hW.most
        omega
      clear hR hmin hgd
      generalize x.f = xf at *
      obtain ⟨id, xx, rm, nn, d0, d1, d2, d3, d4, d5, d6, d7⟩ := xf
      dsimp only [frV, frC] at h11 h12 h13
      repeat' ((conv => whnf); (first | refine h11 _ ?_ | refine h12 _ _ ?_ | refine h13 _ _ ?_ | refine SCalls.under [_] (h14 _ (fun q' F' j1 j2 j3 j4 => ?_)) | refine Branch.f hls ?_ | refine Branch.t (beq_self_eq_true _) ?_ | refine Branch.f rfl ?_ | refine Branch.t rfl ?_ | with_reducible refine Val.to ((i + 1 : Nat) : Int) (by rw [wrap_i64 (by omega) (by omega)]; omega) ?_ | exact hnext _ _ _ _ j1 j2 j3 j4 .mk | refine New.mk (fun _ => ?_) | refine Look.at0 ?_ | refine Cell.row ?_ | refine Cell.buf ?_ | refine Cells.row rfl ?_ | refine Put.row rfl ?_ | refine Put.buf rfl ?_ | refine Look.at1 ?_ | refine Look.at2 ?_ | refine Look.at3 ?_ | refine Look.at4 ?_ | refine Look.at5 ?_ | refine Look.at6 ?_ | refine Look.at7 ?_ | refine Look.at8 ?_ | with_reducible refine Val.i64 (by omega) (by omega) ?_ | with_reducible refine Val.u8 (by omega) (by omega) ?_ | with_reducible refine Val.u32 (by omega) (by omega) ?_ | with_reducible refine Val.u64 (by omega) (by omega) ?_ | with_reducible refine Val.u8m ?_ | with_reducible refine Val.u32m ?_ | with_reducible refine Val.u64m ?_ | with_reducible refine Val.shr8 ?_ | with_reducible refine Val.shr16 (by decide) ?_ | with_reducible refine Val.shr24 (by decide) ?_ | with_reducible refine Val.raw ?_ | refine Branch.not ?_ | refine Branch.and ?_ | refine Branch.or ?_ | refine Branch.dt (by assumption) ?_ | refine Branch.df (by assumption) ?_ | refine Branch.dt rfl ?_ | refine Branch.dt (by omega) ?_ | refine Branch.df (by omega) ?_ | refine Branch.t rfl ?_ | refine Branch.f rfl ?_ | refine Branch.t (by assumption) ?_ | refine Branch.f (by assumption) ?_ | refine Branch.d (fun _ => ?_) (fun _ => ?_) | refine Branch.mk (fun _ => ?_) (fun _ => ?_) | refine Need.mk (by first | omega | decide | rfl) ?_ | refine Idx.nat (by omega) ?_ | refine Idx.auto (by first | omega | decide) (by first | omega | decide) ?_ | refine Cell.ro rfl ?_ | refine SDraw.all (by kernel_rfl) ?_ | refine Kept.k0 ?_ | refine Kept.k1 ?_ | refine Kept.k2 ?_ | refine Kept.k3 ?_ | refine Kept.k4 ?_))
    · have hq : s.q = [] := List.length_eq_zero_iff.1 (by omega)
      have h14 : ∀ K2 : Value → Heap → Prop, K2 (.bool false) F → SCalls Tryd.prog 14 [ptr p] F K2 := fun K2 hk => c14 hW hDr (fun _ => hk) (fun y q' F' k1 k2 => by rw [hq] at k2; have := k2.length_eq; simp at this)
      have h7 : ∀ K2 : Value → Heap → Prop, K2 (.bool true) F → SCalls Tryd.prog 7 [] F K2 := fun K2 hk => c7 hDF hk
      clear hR
      repeat' ((conv => whnf); (first | refine h14 _ ?_ | refine h7 _ ?_ | refine Branch.df (by omega) ?_ | refine Branch.t rfl ?_ | exact Keep.all rfl | refine New.mk (fun _ => ?_) | refine Look.at0 ?_ | refine Cell.row ?_ | refine Cell.buf ?_ | refine Cells.row rfl ?_ | refine Put.row rfl ?_ | refine Put.buf rfl ?_ | refine Look.at1 ?_ | refine Look.at2 ?_ | refine Look.at3 ?_ | refine Look.at4 ?_ | refine Look.at5 ?_ | refine Look.at6 ?_ | refine Look.at7 ?_ | refine Look.at8 ?_ | with_reducible refine Val.i64 (by omega) (by omega) ?_ | with_reducible refine Val.u8 (by omega) (by omega) ?_ | with_reducible refine Val.u32 (by omega) (by omega) ?_ | with_reducible refine Val.u64 (by omega) (by omega) ?_ | with_reducible refine Val.u8m ?_ | with_reducible refine Val.u32m ?_ | with_reducible refine Val.u64m ?_ | with_reducible refine Val.shr8 ?_ | with_reducible refine Val.shr16 (by decide) ?_ | with_reducible refine Val.shr24 (by decide) ?_ | with_reducible refine Val.raw ?_ | refine Branch.not ?_ | refine Branch.and ?_ | refine Branch.or ?_ | refine Branch.dt (by assumption) ?_ | refine Branch.df (by assumption) ?_ | refine Branch.dt rfl ?_ | refine Branch.dt (by omega) ?_ | refine Branch.df (by omega) ?_ | refine Branch.t rfl ?_ | refine Branch.f rfl ?_ | refine Branch.t (by assumption) ?_ | refine Branch.f (by assumption) ?_ | refine Branch.d (fun _ => ?_) (fun _ => ?_) | refine Branch.mk (fun _ => ?_) (fun _ => ?_) | refine Need.mk (by first | omega | decide | rfl) ?_ | refine Idx.nat (by omega) ?_ | refine Idx.auto (by first | omega | decide) (by first | omega | decide) ?_ | refine Cell.ro rfl ?_ | refine SDraw.all (by kernel_rfl) ?_ | refine Kept.k0 ?_ | refine Kept.k1 ?_ | refine Kept.k2 ?_ | refine Kept.k3 ?_ | refine Kept.k4 ?_))
end
theorem DriverOrderW (a0a : Option Addr) (a0l : Nat) (a0c : Nat) (w : World) (h0_0 : SliceAt 12 B26 R26 w a0a a0l a0c) (hL : laidMet Tryd.prog Rows.driverOrderRow.laid w) :
    Calls Tryd.prog 4 #[.slice a0a a0l a0c] w fun e w' => e = .returned (.bool true) ∧ Go.RowKit.Below w.heap.size w w' := by
  obtain ⟨hD, hw, hx⟩ := db_of hL
  obtain ⟨H, L, rfl, hin, hwf, hw2, x2, hb⟩ := frames_of h0_0
  exact (order_c (hD.mono fun p hp => List.mem_append_left _ hp) (hin.mono fun p hp => List.mem_append_right _ hp) hwf hb).fin w (Holds.join hw hw2 hx x2) (excl_join hx x2)
end Go.Proofs.YthgpikgbhkcnbaaDoor

/- Layer 5: DriverRoom: by walks. -/
set_option linter.unusedVariables false
set_option linter.unusedSimpArgs false
set_option maxRecDepth 100000
set_option maxHeartbeats 4000000
namespace Go.Proofs.YthgpikgbhkcnbaaDoor
open Sx
/-- A call. -/
structure Act where
  (k t : Int) (f : Fm)
abbrev aC (a : Act) : List Value := [.int .i64 a.k, .int .i64 a.t, .int .u32 (a.f.id : Int), .bool a.f.x, .bool a.f.r, .int .i64 a.f.n, b8 a.f.d0, b8 a.f.d1, b8 a.f.d2, b8 a.f.d3, b8 a.f.d4, b8 a.f.d5, b8 a.f.d6, b8 a.f.d7]
theorem aC_len (a : Act) : (aC a).length = 14 := rfl
structure RoomI (mo ro : Int) (L : List Fl) (k l : Nat) (s : Dr) : Prop where
  W : DrW s
  most : (s.most : Int) = mo
  room : (s.room : Int) = ro
  L : s.L = L
  tk : s.tk ≤ k
  lost : s.lost = l
  lk : l ≤ k
inductive S5 (A1 A2 A5 A7 A8 : Value) : List Value → Prop
  | mk {r0 r3 r4 r6 r9 r10 r11 r12 r13 r14 r15 r16 r17 r18 r19 r20 r21 r22 r23 r24 r25 r26 r27 r28 r29 r30 r31 r32 r33 r34 r35 r36 r37 r38 r39 r40 r41 r42 r43 r44 r45 r46 r47 r48 r49 r50 r51 r52 r53 r54 r55 r56 r57 r58 r59 r60 r61 r62 r63 r64 r65 r66 r67 r68 r69 r70 r71 r72 r73 r74 r75 r76 r77 r78 r79 r80 r81 r82 r83 r84 r85 r86 r87 r88 r89 r90 r91 r92 r93 r94 r95 r96 r97 r98 r99 r100 r101 r102 r103 r104 r105 r106 r107 r108 r109 : Value} : S5 A1 A2 A5 A7 A8 [r0, A1, A2, r3, r4, A5, r6, A7, A8, r9, r10, r11, r12, r13, r14, r15, r16, r17, r18, r19, r20, r21, r22, r23, r24, r25, r26, r27, r28, r29, r30, r31, r32, r33, r34, r35, r36, r37, r38, r39, r40, r41, r42, r43, r44, r45, r46, r47, r48, r49, r50, r51, r52, r53, r54, r55, r56, r57, r58, r59, r60, r61, r62, r63, r64, r65, r66, r67, r68, r69, r70, r71, r72, r73, r74, r75, r76, r77, r78, r79, r80, r81, r82, r83, r84, r85, r86, r87, r88, r89, r90, r91, r92, r93, r94, r95, r96, r97, r98, r99, r100, r101, r102, r103, r104, r105, r106, r107, r108, r109]
abbrev fmR (t2 : Nat) (mo ro : Int) (fs : Value) : Nat × Blk := (t2, .row 46 [.int .i64 mo, .int .i64 ro, fs] (0, 0))
section
variable {K : Value → Heap → Prop} {H : Heap} {sv : Value}
def I5 (asv fs : Value) (p t2 : Nat) (mo ro : Int) (L : List Fl) (acts : List Act) (Hb : Heap) (y : Nat × Nat × Dr) (S : List Value) (H' : Heap) : Prop :=
  y.1 ≤ acts.length ∧ DrO p y.2.2 Hb H' ∧ RoomI mo ro L y.1 y.2.1 y.2.2 ∧ S5 asv (ptr t2) (ptr p) (i64 y.2.1) (i64 y.1) S
theorem takeE_50 {s : Dr} {f : Fm} : takeE s f = 50 ↔ (okF f && pas s.L f) = true ∧ s.room ≤ s.I.length := by
  unfold takeE
  cases okF f with
  | false => simp
  | true =>
    cases pas s.L f with
    | false => simp
    | true =>
      rw [if_pos rfl, if_pos rfl]
      by_cases h : s.room ≤ s.I.length
      · rw [if_pos h]; simp [h]
      · rw [if_neg h]; simp [h]
theorem takeS_ok {s : Dr} {f : Fm} (h : DrW s) (hl : s.lost < 140737488355328) : DrW (takeS s f) ∧ (takeS s f).most = s.most ∧ (takeS s f).room = s.room ∧ (takeS s f).L = s.L ∧ (takeS s f).tk = s.tk ∧ (takeS s f).lost = if takeE s f = 50 then s.lost + 1 else s.lost := by
  unfold takeS takeE
  cases okF f with
  | false => exact ⟨h, rfl, rfl, rfl, rfl, rfl⟩
  | true =>
    rw [if_pos rfl, if_pos rfl]
    cases pas s.L f with
    | false => exact ⟨h, rfl, rfl, rfl, rfl, rfl⟩
    | true =>
      rw [if_pos rfl, if_pos rfl]
      by_cases hr : s.room ≤ s.I.length
      · rw [if_pos hr, if_pos hr]
        exact ⟨⟨h.most, h.room, h.L, h.Lw, h.I, h.q, h.tk, by show s.lost + 1 ≤ _; omega, h.heap⟩, rfl, rfl, rfl, rfl, rfl⟩
      · rw [if_neg hr, if_neg hr]
        exact ⟨⟨h.most, h.room, h.L, h.Lw, by show (s.I ++ [plF f]).length ≤ s.room; rw [List.length_append, List.length_singleton]; omega, h.q, h.tk, h.lost, h.heap⟩, rfl, rfl, rfl, rfl, rfl⟩
theorem RoomI.up {mo ro : Int} {L : List Fl} {k l : Nat} {s : Dr} (h : RoomI mo ro L k l s) : RoomI mo ro L (k + 1) l s := ⟨h.W, h.most, h.room, h.L, Nat.le_succ_of_le h.tk, h.lost, Nat.le_succ_of_le h.lk⟩
theorem room_c {mo ro : Int} {fs asv : Value} {L : List Fl} {acts : List Act} (hD : Db H) (hin : InS fC 3 fs H L) (hLw : ∀ l ∈ L, l.wf) (hbL : L.length * 12 ≤ 140737488355328) (hac : InS aC 14 asv H acts) (haw : ∀ a ∈ acts, a.f.wf) (hba : acts.length * 40 ≤ 140737488355328) :
    SCalls Tryd.prog 5 [.agg ⟨[.int .i64 mo, .int .i64 ro, fs]⟩, asv] H fun v _ => v = .bool true := by
  obtain ⟨fa, fc, rfl, hfl⟩ := hin.sv
  obtain ⟨aa, ac, rfl, hal⟩ := hac.sv
  have h8 : ∀ (q c : Nat) (t2 : Nat × Blk) (K2 : Value → Heap → Prop), (∀ e, e ≠ 0 → K2 (.tuple ⟨[.pointer none, .int .i64 e]⟩) ((q, .buf 33 (L.flatMap fC) (c * 3)) :: t2 :: H)) → (okN mo ro → L.length ≤ 32 → ∀ p F, DrO p (dr0 mo ro L) ((q, .buf 33 (L.flatMap fC) (c * 3)) :: t2 :: H) F → K2 (.tuple ⟨[ptr p, .int .i64 0]⟩) F) →
      SCalls Tryd.prog 8 [.int .i64 mo, .int .i64 ro, .slice (some ⟨q, 0, none⟩) L.length c] ((q, .buf 33 (L.flatMap fC) (c * 3)) :: t2 :: H) K2 :=
    fun q c t2 K2 h0 h1 => c8 (L := L) (InS.buf (.head _) rfl fC_len hfl) (.inr ⟨_, _, rfl⟩) (fun _ => h0 1 (by decide)) (fun _ _ => h0 2 (by decide)) h1
  have hk0 : ∀ F', (∀ z ∈ H, z ∈ F') → Db F' := fun F' h => hD.mono h
  refine enter5 ?_
  repeat' ((conv => whnf); (first | refine SDraw.held (by kernel_rfl) [_] (.same (.head _) .nil) ?_ | refine RawV.copyS (bytes := 12) (hin.mono fun z hz => .tail _ hz) rfl (by kernel_rfl) (by decide) fC_len fC_one (by omega) (fun q c k1 k2 => ?_) | refine h8 _ _ _ _ (fun e he => ?_) (fun hok hL32 p F g1 => ?_) | refine Kept.mk (.same (.tail _ (.head _)) .nil) ?_ | refine Kept.mk (.same (g1.has _ (.tail _ (.head _))) .nil) ?_ | refine Branch.f rfl ?_ | refine Branch.t rfl ?_ | refine Branch.t (by simp only [he, decide_false, Bool.not_false]; done) ?_ | refine c7 (hk0 _ fun z hz => .tail _ (.tail _ hz)) ?_ | exact Keep.all rfl | refine New.mk (fun _ => ?_) | refine Look.at0 ?_ | refine Cell.row ?_ | refine Cell.buf ?_ | refine Cells.row rfl ?_ | refine Put.row rfl ?_ | refine Put.buf rfl ?_ | refine Look.at1 ?_ | refine Look.at2 ?_ | refine Look.at3 ?_ | refine Look.at4 ?_ | refine Look.at5 ?_ | refine Look.at6 ?_ | refine Look.at7 ?_ | refine Look.at8 ?_ | with_reducible refine Val.i64 (by omega) (by omega) ?_ | with_reducible refine Val.u8 (by omega) (by omega) ?_ | with_reducible refine Val.u32 (by omega) (by omega) ?_ | with_reducible refine Val.u64 (by omega) (by omega) ?_ | with_reducible refine Val.u8m ?_ | with_reducible refine Val.u32m ?_ | with_reducible refine Val.u64m ?_ | with_reducible refine Val.shr8 ?_ | with_reducible refine Val.shr16 (by decide) ?_ | with_reducible refine Val.shr24 (by decide) ?_ | with_reducible refine Val.raw ?_ | refine Branch.not ?_ | refine Branch.and ?_ | refine Branch.or ?_ | refine Branch.dt (by assumption) ?_ | refine Branch.df (by assumption) ?_ | refine Branch.dt rfl ?_ | refine Branch.dt (by omega) ?_ | refine Branch.df (by omega) ?_ | refine Branch.t rfl ?_ | refine Branch.f rfl ?_ | refine Branch.t (by assumption) ?_ | refine Branch.f (by assumption) ?_ | refine Branch.d (fun _ => ?_) (fun _ => ?_) | refine Branch.mk (fun _ => ?_) (fun _ => ?_) | refine Need.mk (by first | omega | decide | rfl) ?_ | refine Idx.nat (by omega) ?_ | refine Idx.auto (by first | omega | decide) (by first | omega | decide) ?_ | refine Cell.ro rfl ?_ | refine SDraw.all (by kernel_rfl) ?_ | refine Kept.k0 ?_ | refine Kept.k1 ?_ | refine Kept.k2 ?_ | refine Kept.k3 ?_ | refine Kept.k4 ?_))
  rename_i t2 _
  have hw0 : RoomI mo ro L 0 0 (dr0 mo ro L) := ⟨dr0_ok hok hL32 hLw, by
    obtain ⟨h1, _⟩ := hok
    show ((mo.toNat : Nat) : Int) = mo
    omega, by
    obtain ⟨_, h1, _⟩ := hok
    show ((ro.toNat : Nat) : Int) = ro
    omega, rfl, Nat.le_refl _, rfl, Nat.le_refl _⟩
  generalize hHb : (q, Blk.buf 33 (L.flatMap fC) (c * 3)) :: (t2, Blk.row 46 [Value.int .i64 mo, .int .i64 ro, .slice fa L.length fc] (0, 0)) :: H = Hb at *
  have hHbH : ∀ z ∈ H, z ∈ Hb := fun z hz => by rw [← hHb]; exact .tail _ (.tail _ hz)
  have ht2 : (t2, Blk.row 46 [Value.int .i64 mo, .int .i64 ro, .slice fa L.length fc] (0, 0)) ∈ Hb := by rw [← hHb]; exact .tail _ (.head _)
  have hDb : Db Hb := hD.mono hHbH
  clear h8 hk0 hHb
  refine SLoop.invA (I5 (.slice aa acts.length ac) (.slice fa L.length fc) p t2 mo ro L acts Hb) (fun y => acts.length - y.1) (0, 0, dr0 mo ro L) (Keep.all ⟨Nat.zero_le _, g1, hw0, .mk⟩) ?_
  clear g1 hw0 k1 k2
  rintro ⟨k, l, s⟩ S F ⟨hk, hDr, hI, hS⟩ R hR
  dsimp only at hk hDr hI hS hR ⊢
  cases hS
  by_cases hlt : k < acts.length
  · obtain ⟨a, hx, hdrop, htake⟩ := list_at hlt
    obtain ⟨r, o, c1, b, e1, hrb, hcc⟩ := inS_at hac aC_len hx
    injection e1 with e1 _ e3
    subst e1
    have hfw := haw a (List.mem_of_getElem? hx)
    obtain ⟨ak, at_, f⟩ := a
    dsimp only at hfw
    have hmF : ∀ (s' : Dr) (F' : Heap), DrO p s' Hb F' → ∀ z : Nat × Blk, (t2, Blk.row 46 [Value.int .i64 mo, .int .i64 ro, .slice fa L.length fc] (0, 0)) ∈ z :: F' := fun s' F' h z => .tail _ (h.has _ ht2)
    have hc0 : (Blk.row 46 [Value.int .i64 mo, .int .i64 ro, .slice fa L.length fc] (0, 0)).cell 0 = some (.int .i64 mo) := rfl
    have hc1 : (Blk.row 46 [Value.int .i64 mo, .int .i64 ro, .slice fa L.length fc] (0, 0)).cell 1 = some (.int .i64 ro) := rfl
    have h15 : ∀ s' F' (K2 : Value → Heap → Prop), DrO p s' Hb F' → K2 (.tuple ⟨[i64 s'.q.length, i64 s'.I.length]⟩) F' → SCalls Tryd.prog 15 [ptr p] F' K2 := fun s' F' K2 h hk => c15 h hk
    have h18 : ∀ s' F' l' (K2 : Value → Heap → Prop), DrO p s' Hb F' → s'.lost = l' → K2 (i64 l') F' → SCalls Tryd.prog 18 [ptr p] F' K2 := fun s' F' l' K2 h he hk => c18 h (by rw [he]; exact hk)
    have h10 : ∀ K2 : Value → Heap → Prop, (∀ a b s' F', DrO p s' Hb F' → RoomI mo ro L (k + 1) l s' → K2 (tup2 a b) F') → SCalls Tryd.prog 10 [ptr p, frV f] F K2 := fun K2 hk =>
      c10 hI.W hDr hDb hfw.1 (fun _ => hk _ _ _ _ hDr hI.up) (fun _ _ => hk _ _ _ _ hDr hI.up) (fun _ hroom q' F' j1 j2 j3 => hk _ _ _ _ j1 ⟨⟨hI.W.most, hI.W.room, hI.W.L, hI.W.Lw, hI.W.I, by
        have := j2.length_eq
        rw [List.length_append, List.length_singleton] at this
        show q'.length ≤ s.most
        omega, by
        have := hI.tk
        show s.tk + 1 ≤ _
        omega, hI.W.lost, j3⟩, hI.most, hI.room, hI.L, Nat.succ_le_succ hI.tk, hI.lost, Nat.le_succ_of_le hI.lk⟩)
    have h14 : ∀ K2 : Value → Heap → Prop, (∀ b s' F', DrO p s' Hb F' → RoomI mo ro L (k + 1) l s' → K2 (.bool b) F') → SCalls Tryd.prog 14 [ptr p] F K2 := fun K2 hk =>
      c14 hI.W hDr (fun _ => hk _ _ _ hDr hI.up) (fun y q' F' j1 j2 j3 j4 => hk _ _ _ j1 ⟨⟨hI.W.most, hI.W.room, hI.W.L, hI.W.Lw, hI.W.I, by
        have := j2.length_eq
        have := hI.W.q
        simp only [List.length_cons] at *
        show q'.length ≤ s.most
        omega, hI.W.tk, hI.W.lost, j4⟩, hI.most, hI.room, hI.L, Nat.le_succ_of_le hI.tk, hI.lost, Nat.le_succ_of_le hI.lk⟩)
    have h17 : ∀ K2 : Value → Heap → Prop, (∀ fr b s' F', DrO p s' Hb F' → RoomI mo ro L (k + 1) l s' → K2 (.tuple ⟨[frV fr, .bool b]⟩) F') → SCalls Tryd.prog 17 [ptr p] F K2 := fun K2 hk =>
      c17 hI.W hDr (fun F' j1 => hk _ _ _ _ j1 ⟨⟨hI.W.most, hI.W.room, hI.W.L, hI.W.Lw, by
        have := hI.W.I
        show s.I.tail.length ≤ s.room
        rw [List.length_tail]
        omega, hI.W.q, hI.W.tk, hI.W.lost, hI.W.heap⟩, hI.most, hI.room, hI.L, Nat.le_succ_of_le hI.tk, hI.lost, Nat.le_succ_of_le hI.lk⟩)
    obtain ⟨x, hxe⟩ : ∃ x, takeE s f = x := ⟨_, rfl⟩
    obtain ⟨ok, hoe⟩ : ∃ ok, (okF f && pas s.L f) = ok := ⟨_, rfl⟩
    have h50 := takeE_50 (s := s) (f := f)
    rw [hxe, hoe] at h50
    have h16 : ∀ K2 : Value → Heap → Prop, (∀ l' s' F', l' = (if x = 50 then l + 1 else l) → DrO p s' Hb F' → RoomI mo ro L (k + 1) l' s' → K2 (.int .i64 x) F') → SCalls Tryd.prog 16 [ptr p, frV f] F K2 := by
      intro K2 hk
      have hlk := hI.lk
      have hll := hI.lost
      refine c16 hI.W hDr hfw.1 (fun F' j1 => ?_)
      obtain ⟨g1, g2, g3, g4, g5, g6⟩ := takeS_ok (f := f) hI.W (by omega)
      rw [hxe] at g6 ⊢
      refine hk _ _ _ rfl j1 ⟨g1, by rw [g2]; exact hI.most, by rw [g3]; exact hI.room, by rw [g4]; exact hI.L, by rw [g5]; exact Nat.le_succ_of_le hI.tk, by rw [g6, hll], ?_⟩
      split <;> omega
    have h9 : ∀ s' l' F' (K2 : Value → Heap → Prop), DrO p s' Hb F' → RoomI mo ro L (k + 1) l' s' → K2 (.bool ok) F' → SCalls Tryd.prog 9 [ptr p, frV f] F' K2 := fun s' l' F' K2 h hi hk => c9 hi.W h hfw.1 (by rw [hi.L, ← hI.L, hoe]; exact hk)
    have hnext : ∀ S t9 l' s' F', DrO p s' Hb F' → RoomI mo ro L (k + 1) l' s' → S5 (.slice (some ⟨r, o, none⟩) acts.length ac) (ptr t2) (ptr p) (i64 l') (i64 (k + 1)) S → R S ((t9 : Nat × Blk) :: F') := fun S t9 l' s' F' j1 j2 hS => hR (k + 1, l', s') S _ (by show acts.length - (k + 1) < acts.length - k; omega) (Keep.d1 ⟨hlt, j1, j2, hS⟩)
    have hIr := hI.W.I
    have hIroom := hI.room
    have hrb' := hDr.has _ (hHbH _ hrb)
    have hll : (!decide ((l : Int) = (l : Int))) = false := by simp
    clear hR hac hin haw
    by_cases k0 : ak = 0
    · clear h14 h16 h17 h9
      repeat' ((conv => whnf); (first | refine Look.cells hrb' rfl hcc ?_ | refine Branch.dt k0 ?_ | refine SCalls.under [_] (h10 _ (fun a b s' F' j1 j2 => ?_)) | refine SCalls.under [_] (h15 _ _ _ j1 ?_) | refine SCalls.under [_] (h18 _ _ _ _ j1 j2.lost ?_) | refine Look.cell (hmF _ _ j1 _) hc0 ?_ | refine Look.cell (hmF _ _ j1 _) hc1 ?_ | refine Branch.df (by have := j2.W.q; have := j2.most; omega) ?_ | refine Branch.df (by have := j2.W.I; have := j2.room; omega) ?_ | refine Branch.f rfl ?_ | refine Branch.f hll ?_ | exact hnext _ _ _ _ _ j1 j2 .mk | refine New.mk (fun _ => ?_) | refine Look.at0 ?_ | refine Cell.row ?_ | refine Cell.buf ?_ | refine Cells.row rfl ?_ | refine Put.row rfl ?_ | refine Put.buf rfl ?_ | refine Look.at1 ?_ | refine Look.at2 ?_ | refine Look.at3 ?_ | refine Look.at4 ?_ | refine Look.at5 ?_ | refine Look.at6 ?_ | refine Look.at7 ?_ | refine Look.at8 ?_ | with_reducible refine Val.i64 (by omega) (by omega) ?_ | with_reducible refine Val.u8 (by omega) (by omega) ?_ | with_reducible refine Val.u32 (by omega) (by omega) ?_ | with_reducible refine Val.u64 (by omega) (by omega) ?_ | with_reducible refine Val.u8m ?_ | with_reducible refine Val.u32m ?_ | with_reducible refine Val.u64m ?_ | with_reducible refine Val.shr8 ?_ | with_reducible refine Val.shr16 (by decide) ?_ | with_reducible refine Val.shr24 (by decide) ?_ | with_reducible refine Val.raw ?_ | refine Branch.not ?_ | refine Branch.and ?_ | refine Branch.or ?_ | refine Branch.dt (by assumption) ?_ | refine Branch.df (by assumption) ?_ | refine Branch.dt rfl ?_ | refine Branch.dt (by omega) ?_ | refine Branch.df (by omega) ?_ | refine Branch.t rfl ?_ | refine Branch.f rfl ?_ | refine Branch.t (by assumption) ?_ | refine Branch.f (by assumption) ?_ | refine Branch.d (fun _ => ?_) (fun _ => ?_) | refine Branch.mk (fun _ => ?_) (fun _ => ?_) | refine Need.mk (by first | omega | decide | rfl) ?_ | refine Idx.nat (by omega) ?_ | refine Idx.auto (by first | omega | decide) (by first | omega | decide) ?_ | refine Cell.ro rfl ?_ | refine SDraw.all (by kernel_rfl) ?_ | refine Kept.k0 ?_ | refine Kept.k1 ?_ | refine Kept.k2 ?_ | refine Kept.k3 ?_ | refine Kept.k4 ?_))
    · by_cases k2 : ak = 2
      · clear h10 h16 h17 h9
        repeat' ((conv => whnf); (first | refine Look.cells hrb' rfl hcc ?_ | refine Branch.dt k2 ?_ | refine Branch.df k0 ?_ | refine SCalls.under [_] (h14 _ (fun b s' F' j1 j2 => ?_)) | refine SCalls.under [_] (h15 _ _ _ j1 ?_) | refine SCalls.under [_] (h18 _ _ _ _ j1 j2.lost ?_) | refine Look.cell (hmF _ _ j1 _) hc0 ?_ | refine Look.cell (hmF _ _ j1 _) hc1 ?_ | refine Branch.df (by have := j2.W.q; have := j2.most; omega) ?_ | refine Branch.df (by have := j2.W.I; have := j2.room; omega) ?_ | refine Branch.f rfl ?_ | refine Branch.f hll ?_ | exact hnext _ _ _ _ _ j1 j2 .mk | refine New.mk (fun _ => ?_) | refine Look.at0 ?_ | refine Cell.row ?_ | refine Cell.buf ?_ | refine Cells.row rfl ?_ | refine Put.row rfl ?_ | refine Put.buf rfl ?_ | refine Look.at1 ?_ | refine Look.at2 ?_ | refine Look.at3 ?_ | refine Look.at4 ?_ | refine Look.at5 ?_ | refine Look.at6 ?_ | refine Look.at7 ?_ | refine Look.at8 ?_ | with_reducible refine Val.i64 (by omega) (by omega) ?_ | with_reducible refine Val.u8 (by omega) (by omega) ?_ | with_reducible refine Val.u32 (by omega) (by omega) ?_ | with_reducible refine Val.u64 (by omega) (by omega) ?_ | with_reducible refine Val.u8m ?_ | with_reducible refine Val.u32m ?_ | with_reducible refine Val.u64m ?_ | with_reducible refine Val.shr8 ?_ | with_reducible refine Val.shr16 (by decide) ?_ | with_reducible refine Val.shr24 (by decide) ?_ | with_reducible refine Val.raw ?_ | refine Branch.not ?_ | refine Branch.and ?_ | refine Branch.or ?_ | refine Branch.dt (by assumption) ?_ | refine Branch.df (by assumption) ?_ | refine Branch.dt rfl ?_ | refine Branch.dt (by omega) ?_ | refine Branch.df (by omega) ?_ | refine Branch.t rfl ?_ | refine Branch.f rfl ?_ | refine Branch.t (by assumption) ?_ | refine Branch.f (by assumption) ?_ | refine Branch.d (fun _ => ?_) (fun _ => ?_) | refine Branch.mk (fun _ => ?_) (fun _ => ?_) | refine Need.mk (by first | omega | decide | rfl) ?_ | refine Idx.nat (by omega) ?_ | refine Idx.auto (by first | omega | decide) (by first | omega | decide) ?_ | refine Cell.ro rfl ?_ | refine SDraw.all (by kernel_rfl) ?_ | refine Kept.k0 ?_ | refine Kept.k1 ?_ | refine Kept.k2 ?_ | refine Kept.k3 ?_ | refine Kept.k4 ?_))
      · by_cases k4 : ak = 4
        · clear h10 h14 h17
          have hl2 : l ≤ k := hI.lk
          by_cases hx50 : x = 50
          · obtain ⟨hok1, hfull⟩ := h50.1 hx50
            subst hok1
            have hee : (s.I.length : Int) = ro := by omega
            subst hx50
            rw [if_pos rfl] at h16
            have h16 : ∀ K2 : Value → Heap → Prop, (∀ s' F', DrO p s' Hb F' → RoomI mo ro L (k + 1) (l + 1) s' → K2 (.int .i64 50) F') → SCalls Tryd.prog 16 [ptr p, frV f] F K2 := fun K2 hk => h16 K2 (fun l' s' F' e j1 j2 => by subst e; exact hk s' F' j1 j2)
            have hll1 : (!decide (((l + 1 : Nat) : Int) = ((l + 1 : Nat) : Int))) = false := by simp
            have hv : IntKind.i64.wrap ((l : Int) + 1) = ((l + 1 : Nat) : Int) := by rw [wrap_i64 (by omega) (by omega)]; omega
            repeat' ((conv => whnf); (first | refine Look.cells hrb' rfl hcc ?_ | refine Branch.dt k4 ?_ | refine Branch.df k0 ?_ | refine Branch.df k2 ?_ | refine SCalls.under [_] (h16 _ (fun s' F' j1 j2 => ?_)) | with_reducible refine Val.to _ hv ?_ | refine Branch.dt hee ?_ | refine SCalls.under [_] (h9 _ _ _ _ j1 j2 ?_) | refine SCalls.under [_] (h15 _ _ _ j1 ?_) | refine SCalls.under [_] (h15 _ _ _ hDr ?_) | refine SCalls.under [_] (h18 _ _ _ _ j1 j2.lost ?_) | refine Look.cell (hmF _ _ j1 _) hc0 ?_ | refine Look.cell (hmF _ _ j1 _) hc1 ?_ | refine Branch.df (by have := j2.W.q; have := j2.most; omega) ?_ | refine Branch.df (by have := j2.W.I; have := j2.room; omega) ?_ | refine Branch.f rfl ?_ | refine Branch.t rfl ?_ | refine Branch.f hll1 ?_ | exact hnext _ _ _ _ _ j1 j2 .mk | refine New.mk (fun _ => ?_) | refine Look.at0 ?_ | refine Cell.row ?_ | refine Cell.buf ?_ | refine Cells.row rfl ?_ | refine Put.row rfl ?_ | refine Put.buf rfl ?_ | refine Look.at1 ?_ | refine Look.at2 ?_ | refine Look.at3 ?_ | refine Look.at4 ?_ | refine Look.at5 ?_ | refine Look.at6 ?_ | refine Look.at7 ?_ | refine Look.at8 ?_ | with_reducible refine Val.i64 (by omega) (by omega) ?_ | with_reducible refine Val.u8 (by omega) (by omega) ?_ | with_reducible refine Val.u32 (by omega) (by omega) ?_ | with_reducible refine Val.u64 (by omega) (by omega) ?_ | with_reducible refine Val.u8m ?_ | with_reducible refine Val.u32m ?_ | with_reducible refine Val.u64m ?_ | with_reducible refine Val.shr8 ?_ | with_reducible refine Val.shr16 (by decide) ?_ | with_reducible refine Val.shr24 (by decide) ?_ | with_reducible refine Val.raw ?_ | refine Branch.not ?_ | refine Branch.and ?_ | refine Branch.or ?_ | refine Branch.dt (by assumption) ?_ | refine Branch.df (by assumption) ?_ | refine Branch.dt rfl ?_ | refine Branch.dt (by omega) ?_ | refine Branch.df (by omega) ?_ | refine Branch.t rfl ?_ | refine Branch.f rfl ?_ | refine Branch.t (by assumption) ?_ | refine Branch.f (by assumption) ?_ | refine Branch.d (fun _ => ?_) (fun _ => ?_) | refine Branch.mk (fun _ => ?_) (fun _ => ?_) | refine Need.mk (by first | omega | decide | rfl) ?_ | refine Idx.nat (by omega) ?_ | refine Idx.auto (by first | omega | decide) (by first | omega | decide) ?_ | refine Cell.ro rfl ?_ | refine SDraw.all (by kernel_rfl) ?_ | refine Kept.k0 ?_ | refine Kept.k1 ?_ | refine Kept.k2 ?_ | refine Kept.k3 ?_ | refine Kept.k4 ?_))
          · rw [if_neg hx50] at h16
            have h16 : ∀ K2 : Value → Heap → Prop, (∀ s' F', DrO p s' Hb F' → RoomI mo ro L (k + 1) l s' → K2 (.int .i64 x) F') → SCalls Tryd.prog 16 [ptr p, frV f] F K2 := fun K2 hk => h16 K2 (fun l' s' F' e j1 j2 => by subst e; exact hk s' F' j1 j2)
            have hxd : decide (x = 50) = false := decide_eq_false hx50
            by_cases hee : (s.I.length : Int) = ro
            · have hok1 : ok = false := by
                cases ok with
                | false => rfl
                | true => exact absurd (h50.2 ⟨rfl, by omega⟩) hx50
              subst hok1
              repeat' ((conv => whnf); (first | refine Look.cells hrb' rfl hcc ?_ | refine Branch.dt k4 ?_ | refine Branch.df k0 ?_ | refine Branch.df k2 ?_ | refine SCalls.under [_] (h16 _ (fun s' F' j1 j2 => ?_)) | refine Branch.dt hee ?_ | refine Branch.df hx50 ?_ | refine SCalls.under [_] (h9 _ _ _ _ j1 j2 ?_) | refine SCalls.under [_] (h15 _ _ _ j1 ?_) | refine SCalls.under [_] (h15 _ _ _ hDr ?_) | refine SCalls.under [_] (h18 _ _ _ _ j1 j2.lost ?_) | refine Look.cell (hmF _ _ j1 _) hc0 ?_ | refine Look.cell (hmF _ _ j1 _) hc1 ?_ | refine Branch.df (by have := j2.W.q; have := j2.most; omega) ?_ | refine Branch.df (by have := j2.W.I; have := j2.room; omega) ?_ | refine Branch.f (by rw [hxd]; rfl) ?_ | refine Branch.f hll ?_ | exact hnext _ _ _ _ _ j1 j2 .mk | refine New.mk (fun _ => ?_) | refine Look.at0 ?_ | refine Cell.row ?_ | refine Cell.buf ?_ | refine Cells.row rfl ?_ | refine Put.row rfl ?_ | refine Put.buf rfl ?_ | refine Look.at1 ?_ | refine Look.at2 ?_ | refine Look.at3 ?_ | refine Look.at4 ?_ | refine Look.at5 ?_ | refine Look.at6 ?_ | refine Look.at7 ?_ | refine Look.at8 ?_ | with_reducible refine Val.i64 (by omega) (by omega) ?_ | with_reducible refine Val.u8 (by omega) (by omega) ?_ | with_reducible refine Val.u32 (by omega) (by omega) ?_ | with_reducible refine Val.u64 (by omega) (by omega) ?_ | with_reducible refine Val.u8m ?_ | with_reducible refine Val.u32m ?_ | with_reducible refine Val.u64m ?_ | with_reducible refine Val.shr8 ?_ | with_reducible refine Val.shr16 (by decide) ?_ | with_reducible refine Val.shr24 (by decide) ?_ | with_reducible refine Val.raw ?_ | refine Branch.not ?_ | refine Branch.and ?_ | refine Branch.or ?_ | refine Branch.dt (by assumption) ?_ | refine Branch.df (by assumption) ?_ | refine Branch.dt rfl ?_ | refine Branch.dt (by omega) ?_ | refine Branch.df (by omega) ?_ | refine Branch.t rfl ?_ | refine Branch.f rfl ?_ | refine Branch.t (by assumption) ?_ | refine Branch.f (by assumption) ?_ | refine Branch.d (fun _ => ?_) (fun _ => ?_) | refine Branch.mk (fun _ => ?_) (fun _ => ?_) | refine Need.mk (by first | omega | decide | rfl) ?_ | refine Idx.nat (by omega) ?_ | refine Idx.auto (by first | omega | decide) (by first | omega | decide) ?_ | refine Cell.ro rfl ?_ | refine SDraw.all (by kernel_rfl) ?_ | refine Kept.k0 ?_ | refine Kept.k1 ?_ | refine Kept.k2 ?_ | refine Kept.k3 ?_ | refine Kept.k4 ?_))
            · repeat' ((conv => whnf); (first | refine Look.cells hrb' rfl hcc ?_ | refine Branch.dt k4 ?_ | refine Branch.df k0 ?_ | refine Branch.df k2 ?_ | refine SCalls.under [_] (h16 _ (fun s' F' j1 j2 => ?_)) | refine Branch.df hee ?_ | refine Branch.df hx50 ?_ | refine SCalls.under [_] (h15 _ _ _ j1 ?_) | refine SCalls.under [_] (h15 _ _ _ hDr ?_) | refine SCalls.under [_] (h18 _ _ _ _ j1 j2.lost ?_) | refine Look.cell (hmF _ _ j1 _) hc0 ?_ | refine Look.cell (hmF _ _ j1 _) hc1 ?_ | refine Branch.df (by have := j2.W.q; have := j2.most; omega) ?_ | refine Branch.df (by have := j2.W.I; have := j2.room; omega) ?_ | refine Branch.f (by rw [hxd]; rfl) ?_ | refine Branch.f hll ?_ | exact hnext _ _ _ _ _ j1 j2 .mk | refine New.mk (fun _ => ?_) | refine Look.at0 ?_ | refine Cell.row ?_ | refine Cell.buf ?_ | refine Cells.row rfl ?_ | refine Put.row rfl ?_ | refine Put.buf rfl ?_ | refine Look.at1 ?_ | refine Look.at2 ?_ | refine Look.at3 ?_ | refine Look.at4 ?_ | refine Look.at5 ?_ | refine Look.at6 ?_ | refine Look.at7 ?_ | refine Look.at8 ?_ | with_reducible refine Val.i64 (by omega) (by omega) ?_ | with_reducible refine Val.u8 (by omega) (by omega) ?_ | with_reducible refine Val.u32 (by omega) (by omega) ?_ | with_reducible refine Val.u64 (by omega) (by omega) ?_ | with_reducible refine Val.u8m ?_ | with_reducible refine Val.u32m ?_ | with_reducible refine Val.u64m ?_ | with_reducible refine Val.shr8 ?_ | with_reducible refine Val.shr16 (by decide) ?_ | with_reducible refine Val.shr24 (by decide) ?_ | with_reducible refine Val.raw ?_ | refine Branch.not ?_ | refine Branch.and ?_ | refine Branch.or ?_ | refine Branch.dt (by assumption) ?_ | refine Branch.df (by assumption) ?_ | refine Branch.dt rfl ?_ | refine Branch.dt (by omega) ?_ | refine Branch.df (by omega) ?_ | refine Branch.t rfl ?_ | refine Branch.f rfl ?_ | refine Branch.t (by assumption) ?_ | refine Branch.f (by assumption) ?_ | refine Branch.d (fun _ => ?_) (fun _ => ?_) | refine Branch.mk (fun _ => ?_) (fun _ => ?_) | refine Need.mk (by first | omega | decide | rfl) ?_ | refine Idx.nat (by omega) ?_ | refine Idx.auto (by first | omega | decide) (by first | omega | decide) ?_ | refine Cell.ro rfl ?_ | refine SDraw.all (by kernel_rfl) ?_ | refine Kept.k0 ?_ | refine Kept.k1 ?_ | refine Kept.k2 ?_ | refine Kept.k3 ?_ | refine Kept.k4 ?_))
        · by_cases k5 : ak = 5
          · clear h10 h16 h14 h9
            repeat' ((conv => whnf); (first | refine Look.cells hrb' rfl hcc ?_ | refine Branch.dt k5 ?_ | refine Branch.df k0 ?_ | refine Branch.df k2 ?_ | refine Branch.df k4 ?_ | refine SCalls.under [_] (h17 _ (fun fr b s' F' j1 j2 => ?_)) | refine SCalls.under [_] (h15 _ _ _ j1 ?_) | refine SCalls.under [_] (h18 _ _ _ _ j1 j2.lost ?_) | refine Look.cell (hmF _ _ j1 _) hc0 ?_ | refine Look.cell (hmF _ _ j1 _) hc1 ?_ | refine Branch.df (by have := j2.W.q; have := j2.most; omega) ?_ | refine Branch.df (by have := j2.W.I; have := j2.room; omega) ?_ | refine Branch.f rfl ?_ | refine Branch.f hll ?_ | exact hnext _ _ _ _ _ j1 j2 .mk | refine New.mk (fun _ => ?_) | refine Look.at0 ?_ | refine Cell.row ?_ | refine Cell.buf ?_ | refine Cells.row rfl ?_ | refine Put.row rfl ?_ | refine Put.buf rfl ?_ | refine Look.at1 ?_ | refine Look.at2 ?_ | refine Look.at3 ?_ | refine Look.at4 ?_ | refine Look.at5 ?_ | refine Look.at6 ?_ | refine Look.at7 ?_ | refine Look.at8 ?_ | with_reducible refine Val.i64 (by omega) (by omega) ?_ | with_reducible refine Val.u8 (by omega) (by omega) ?_ | with_reducible refine Val.u32 (by omega) (by omega) ?_ | with_reducible refine Val.u64 (by omega) (by omega) ?_ | with_reducible refine Val.u8m ?_ | with_reducible refine Val.u32m ?_ | with_reducible refine Val.u64m ?_ | with_reducible refine Val.shr8 ?_ | with_reducible refine Val.shr16 (by decide) ?_ | with_reducible refine Val.shr24 (by decide) ?_ | with_reducible refine Val.raw ?_ | refine Branch.not ?_ | refine Branch.and ?_ | refine Branch.or ?_ | refine Branch.dt (by assumption) ?_ | refine Branch.df (by assumption) ?_ | refine Branch.dt rfl ?_ | refine Branch.dt (by omega) ?_ | refine Branch.df (by omega) ?_ | refine Branch.t rfl ?_ | refine Branch.f rfl ?_ | refine Branch.t (by assumption) ?_ | refine Branch.f (by assumption) ?_ | refine Branch.d (fun _ => ?_) (fun _ => ?_) | refine Branch.mk (fun _ => ?_) (fun _ => ?_) | refine Need.mk (by first | omega | decide | rfl) ?_ | refine Idx.nat (by omega) ?_ | refine Idx.auto (by first | omega | decide) (by first | omega | decide) ?_ | refine Cell.ro rfl ?_ | refine SDraw.all (by kernel_rfl) ?_ | refine Kept.k0 ?_ | refine Kept.k1 ?_ | refine Kept.k2 ?_ | refine Kept.k3 ?_ | refine Kept.k4 ?_))
          · clear h10 h16 h14 h9 h17
            have j2 := hI.up
            repeat' ((conv => whnf); (first | refine Look.cells hrb' rfl hcc ?_ | refine Branch.df k5 ?_ | refine Branch.df k0 ?_ | refine Branch.df k2 ?_ | refine Branch.df k4 ?_ | refine SCalls.under [_] (h15 _ _ _ hDr ?_) | refine SCalls.under [_] (h18 _ _ _ _ hDr j2.lost ?_) | refine Look.cell (hmF _ _ hDr _) hc0 ?_ | refine Look.cell (hmF _ _ hDr _) hc1 ?_ | refine Branch.df (by have := j2.W.q; have := j2.most; omega) ?_ | refine Branch.df (by have := j2.W.I; have := j2.room; omega) ?_ | refine Branch.f rfl ?_ | refine Branch.f hll ?_ | exact hnext _ _ _ _ _ hDr j2 .mk | refine New.mk (fun _ => ?_) | refine Look.at0 ?_ | refine Cell.row ?_ | refine Cell.buf ?_ | refine Cells.row rfl ?_ | refine Put.row rfl ?_ | refine Put.buf rfl ?_ | refine Look.at1 ?_ | refine Look.at2 ?_ | refine Look.at3 ?_ | refine Look.at4 ?_ | refine Look.at5 ?_ | refine Look.at6 ?_ | refine Look.at7 ?_ | refine Look.at8 ?_ | with_reducible refine Val.i64 (by omega) (by omega) ?_ | with_reducible refine Val.u8 (by omega) (by omega) ?_ | with_reducible refine Val.u32 (by omega) (by omega) ?_ | with_reducible refine Val.u64 (by omega) (by omega) ?_ | with_reducible refine Val.u8m ?_ | with_reducible refine Val.u32m ?_ | with_reducible refine Val.u64m ?_ | with_reducible refine Val.shr8 ?_ | with_reducible refine Val.shr16 (by decide) ?_ | with_reducible refine Val.shr24 (by decide) ?_ | with_reducible refine Val.raw ?_ | refine Branch.not ?_ | refine Branch.and ?_ | refine Branch.or ?_ | refine Branch.dt (by assumption) ?_ | refine Branch.df (by assumption) ?_ | refine Branch.dt rfl ?_ | refine Branch.dt (by omega) ?_ | refine Branch.df (by omega) ?_ | refine Branch.t rfl ?_ | refine Branch.f rfl ?_ | refine Branch.t (by assumption) ?_ | refine Branch.f (by assumption) ?_ | refine Branch.d (fun _ => ?_) (fun _ => ?_) | refine Branch.mk (fun _ => ?_) (fun _ => ?_) | refine Need.mk (by first | omega | decide | rfl) ?_ | refine Idx.nat (by omega) ?_ | refine Idx.auto (by first | omega | decide) (by first | omega | decide) ?_ | refine Cell.ro rfl ?_ | refine SDraw.all (by kernel_rfl) ?_ | refine Kept.k0 ?_ | refine Kept.k1 ?_ | refine Kept.k2 ?_ | refine Kept.k3 ?_ | refine Kept.k4 ?_))
  · clear hR
    have hDF : Db F := hDb.mono hDr.has
    repeat' ((conv => whnf); (first | refine Branch.df (by omega) ?_ | refine c7 hDF ?_ | exact Keep.all rfl | refine New.mk (fun _ => ?_) | refine Look.at0 ?_ | refine Cell.row ?_ | refine Cell.buf ?_ | refine Cells.row rfl ?_ | refine Put.row rfl ?_ | refine Put.buf rfl ?_ | refine Look.at1 ?_ | refine Look.at2 ?_ | refine Look.at3 ?_ | refine Look.at4 ?_ | refine Look.at5 ?_ | refine Look.at6 ?_ | refine Look.at7 ?_ | refine Look.at8 ?_ | with_reducible refine Val.i64 (by omega) (by omega) ?_ | with_reducible refine Val.u8 (by omega) (by omega) ?_ | with_reducible refine Val.u32 (by omega) (by omega) ?_ | with_reducible refine Val.u64 (by omega) (by omega) ?_ | with_reducible refine Val.u8m ?_ | with_reducible refine Val.u32m ?_ | with_reducible refine Val.u64m ?_ | with_reducible refine Val.shr8 ?_ | with_reducible refine Val.shr16 (by decide) ?_ | with_reducible refine Val.shr24 (by decide) ?_ | with_reducible refine Val.raw ?_ | refine Branch.not ?_ | refine Branch.and ?_ | refine Branch.or ?_ | refine Branch.dt (by assumption) ?_ | refine Branch.df (by assumption) ?_ | refine Branch.dt rfl ?_ | refine Branch.dt (by omega) ?_ | refine Branch.df (by omega) ?_ | refine Branch.t rfl ?_ | refine Branch.f rfl ?_ | refine Branch.t (by assumption) ?_ | refine Branch.f (by assumption) ?_ | refine Branch.d (fun _ => ?_) (fun _ => ?_) | refine Branch.mk (fun _ => ?_) (fun _ => ?_) | refine Need.mk (by first | omega | decide | rfl) ?_ | refine Idx.nat (by omega) ?_ | refine Idx.auto (by first | omega | decide) (by first | omega | decide) ?_ | refine Cell.ro rfl ?_ | refine SDraw.all (by kernel_rfl) ?_ | refine Kept.k0 ?_ | refine Kept.k1 ?_ | refine Kept.k2 ?_ | refine Kept.k3 ?_ | refine Kept.k4 ?_))
end
theorem act_in {w : World} {cs : List Value} (h : R49 w cs) : ∃ a : Act, cs = aC a ∧ a.f.wf := by
  obtain ⟨k, t, x0, x1, x2, x3, y0, y1, y2, y3, y4, y5, y6, y7, rfl, g0, g1, h0, h1, k0, k1, k2, k3, k4, k5, k6, k7⟩ := h
  obtain ⟨f, e, hf⟩ := frame_of (x := x1) (r := x2) h0 h1 k0 k1 k2 k3 k4 k5 k6 k7
  exact ⟨⟨k, t, f⟩, congrArg (fun l => Value.int .i64 k :: Value.int .i64 t :: l) e, hf⟩
theorem acts_of {w : World} {a : Option Addr} {n c : Nat} (h : SliceAt 14 B49 R49 w a n c) : ∃ H L, L.length = n ∧ InS aC 14 (.slice a L.length c) H L ∧ (∀ x ∈ L, x.f.wf) ∧ Holds w H ∧ (∀ p ∈ H, p.2.excl = false) ∧ L.length * 40 ≤ 140737488355328 := by
  obtain ⟨H, L, e, hin, hwf, hw, hx⟩ := inS_of (f := aC) (Good := fun a => a.f.wf) h (by decide) aC_len (fun cs hc => act_in hc)
  have hb := h.2.2.1
  simp only [reachBytes, B49] at hb
  exact ⟨H, L, e, hin, hwf, hw, hx, by omega⟩
theorem DriverRoomW (a0x0 : Int) (a0x1 : Int) (a0x2a : Option Addr) (a0x2l : Nat) (a0x2c : Nat) (a1a : Option Addr) (a1l : Nat) (a1c : Nat) (w : World) (h0_0 : (Lit.int .i64 a0x0).wf = true) (h0_1 : (Lit.int .i64 a0x1).wf = true) (h0_2 : SliceAt 3 B33 R33 w a0x2a a0x2l a0x2c) (h1_0 : SliceAt 14 B49 R49 w a1a a1l a1c) (hL : laidMet Tryd.prog Rows.driverRoomRow.laid w) :
    Calls Tryd.prog 5 #[.agg #[.int .i64 a0x0, .int .i64 a0x1, .slice a0x2a a0x2l a0x2c], .slice a1a a1l a1c] w fun e w' => e = .returned (.bool true) ∧ Go.RowKit.Below w.heap.size w w' := by
  obtain ⟨hD, hw, hx⟩ := db_of hL
  obtain ⟨H, L, rfl, hin, hwf, hw2, x2, hb⟩ := filters_of h0_2
  obtain ⟨G, acts, rfl, hac, haw, hw3, x3, hb3⟩ := acts_of h1_0
  have hj := Holds.join (Holds.join hw hw2 hx x2) hw3 (excl_join hx x2) x3
  exact (room_c (mo := a0x0) (ro := a0x1) (hD.mono fun p hp => List.mem_append_left _ (List.mem_append_left _ hp)) (hin.mono fun p hp => List.mem_append_left _ (List.mem_append_right _ hp)) hwf hb (hac.mono fun p hp => List.mem_append_right _ hp) haw hb3).fin w hj (excl_join (excl_join hx x2) x3)
end Go.Proofs.YthgpikgbhkcnbaaDoor

