/- Layer 20: all slaves are found, and given numbers: by walks. -/
import Derived.Test.YtkegkhhfbfegoaaScJ
set_option linter.unusedVariables false
set_option linter.unusedSimpArgs false
set_option maxRecDepth 100000
set_option maxHeartbeats 4000000
namespace Go.Proofs.Ytkegkhhfbfegoaa
open Sx Ls
abbrev Sc.c4 (s : Sc) : List Value := [.int .u32 s.k0, .int .u32 s.k1, .int .u32 s.k2, .int .u32 s.k3]
/-- Addresses that were found, in memory. -/
def OutO (sv : Value) (N : Heap) (outs : List Sc) : Prop :=
  (sv = .slice none 0 0 ∧ outs = [] ∧ N = []) ∨ ∃ r c, sv = .slice (some ⟨r, 0, none⟩) outs.length c ∧ outs.length ≤ c ∧ c ≤ maxLen ∧ N = [(r, .buf 34 (outs.flatMap Sc.c4) (c * 4))]
theorem SlO.inS {tb : TypeId} {a : Option Addr} {cap : Nat} {Bh : Heap} {ad : List Nat} (h : SlO tb a cap Bh ad) : InS cP 1 (.slice a ad.length cap) Bh ad := by
  refine ⟨a, cap, rfl, by have := h.1; have := h.2.1; omega, ?_⟩
  rcases h.2.2 with ⟨h1, _⟩ | ⟨r, rfl, rfl⟩
  · exact .inl h1
  · refine .inr ⟨r, 0, _, rfl, .head _, fun j x i v hj hi hlt => ?_⟩
    obtain rfl : i = 0 := by omega
    show (ptrs ad)[0 + j * 1 + 0]? = _
    simp only [List.getElem?_cons_zero, Option.some.injEq] at hi
    subst hi
    simp [ptrs, hj]
def q17 (n : Int) : Q := ⟨17, n % 256, n / 256 % 256, n / 65536 % 256, n / 16777216, 0, 0, 0⟩
def q4 : Q := ⟨4, 0, 0, 0, 0, 0, 0, 0⟩
theorem q17_ok {n : Int} (h : 1 ≤ n ∧ n ≤ 127) : (q17 n).Ok := by unfold q17; constructor <;> (dsimp only; omega)
theorem q4_ok : q4.Ok := by constructor <;> decide
def giveL (id : Int) (ms : List PL) : List PL := (ms.map (tkL (q17 id))).map (tkL q4)
def allL : List Int → List PL → List Sc → List Sc × Int × List PL
  | [], ms, out => (out, if ms.any (anL Sc.new.q) = true then 4 else 0, ms.map (tkL Sc.new.q))
  | id :: r, ms, out => if (scanL ms).1.found = false then (out, 0, (scanL ms).2) else allL r (giveL id (scanL ms).2) (out ++ [(scanL ms).1])
def allP (xs : List Int) (ms : List PL) : List Sc × Int × List PL := if chk28 xs ms.length = 0 then allL xs ms [] else ([], chk28 xs ms.length, ms)
theorem runL_fst : ∀ (n : Nat) (s : Sc) (ms : List PL), (runL n s ms).2.map Prod.fst = ms.map Prod.fst
  | 0, _, _ => rfl
  | n + 1, s, ms => by
    rw [runL]
    split
    · rfl
    · rw [runL_fst n]; exact tkL_fst _ _
theorem runL_ok : ∀ (n : Nat) (s : Sc) (ms : List PL), s.Ok → (∀ x ∈ ms, x.2.Ok) → (∀ x ∈ (runL n s ms).2, x.2.Ok) ∧ (runL n s ms).1.Ok
  | 0, _, _, hs, h => ⟨h, hs⟩
  | n + 1, s, ms, hs, h => by
    rw [runL]
    split
    · exact ⟨h, hs⟩
    · rename_i h3
      exact runL_ok n _ _ ((hs.ask h3).ans _) (tkL_ok (hs.q_ok h3).1 h)
theorem bad_range : ∀ (xs seen : List Int), badIds seen xs = false → ∀ x ∈ xs, 1 ≤ x ∧ x ≤ 127
  | [], _, _, x, hx => by cases hx
  | y :: r, seen, h, x, hx => by
    unfold badIds at h
    split at h
    · cases h
    · split at h
      · cases h
      · split at h
        · cases h
        · rcases List.mem_cons.1 hx with rfl | hx
          · omega
          · exact bad_range r _ h x hx
theorem bad_nodup : ∀ (xs seen : List Int), badIds seen xs = false → xs.Nodup ∧ ∀ x ∈ xs, x ∉ seen
  | [], _, _ => ⟨List.nodup_nil, fun x hx => by cases hx⟩
  | y :: r, seen, h => by
    unfold badIds at h
    split at h
    · cases h
    · split at h
      · cases h
      · split at h
        · cases h
        · rename_i h3
          obtain ⟨h4, h5⟩ := bad_nodup r _ h
          refine ⟨List.nodup_cons.2 ⟨fun hy => h5 y hy (by simp), h4⟩, fun x hx => ?_⟩
          rcases List.mem_cons.1 hx with rfl | hx
          · exact h3
          · exact fun hs => h5 x hx (List.mem_append_left _ hs)
theorem pig : ∀ (n : Nat) (l : List Int), l.Nodup → (∀ x ∈ l, 1 ≤ x ∧ x ≤ (n : Int)) → l.length ≤ n
  | 0, l, _, h => by
    cases l with
    | nil => exact Nat.le_refl _
    | cons x r => have := h x (.head _); omega
  | n + 1, l, hd, h => by
    by_cases hm : ((n : Int) + 1) ∈ l
    · have h1 := List.length_erase_of_mem hm
      have h2 := pig n (l.erase ((n : Int) + 1)) (hd.erase _) (fun x hx => by
        have h3 := h x (List.mem_of_mem_erase hx)
        have h4 := (hd.mem_erase_iff.1 hx).1
        omega)
      omega
    · have := pig n l hd (fun x hx => by
        have h3 := h x hx
        have : x ≠ (n : Int) + 1 := fun e => hm (e ▸ hx)
        omega)
      omega
theorem chk_range {xs : List Int} {n : Nat} (h : chk28 xs n = 0) : (∀ x ∈ xs, 1 ≤ x ∧ x ≤ 127) ∧ n ≤ 127 ∧ xs.length ≤ 127 := by
  unfold chk28 at h
  split at h
  · cases h
  · rename_i hb
    have hb : badIds [] xs = false := by simpa using hb
    split at h
    · cases h
    · exact ⟨bad_range _ _ hb, by omega, pig 127 xs (bad_nodup _ _ hb).1 (bad_range _ _ hb)⟩
inductive S9 (A0 A1 A7 A20 A21 A22 : Value) : List Value → Prop
  | mk {r2 r3 r4 r5 r6 r8 r9 r10 r11 r12 r13 r14 r15 r16 r17 r18 r19 r23 r24 r25 r26 r27 r28 r29 r30 r31 r32 r33 r34 r35 r36 r37 r38 r39 r40 r41 r42 r43 r44 r45 r46 r47 r48 r49 r50 r51 r52 r53 r54 r55 r56 : Value} : S9 A0 A1 A7 A20 A21 A22 [A0, A1, r2, r3, r4, r5, r6, A7, r8, r9, r10, r11, r12, r13, r14, r15, r16, r17, r18, r19, A20, A21, A22, r23, r24, r25, r26, r27, r28, r29, r30, r31, r32, r33, r34, r35, r36, r37, r38, r39, r40, r41, r42, r43, r44, r45, r46, r47, r48, r49, r50, r51, r52, r53, r54, r55, r56]
structure T9 where
  (j : Nat) (outs : List Sc) (ms : List PL) (sv : Value) (N : Heap)
def I9 (a : Option Addr) (cap : Nat) (sx : Value) (G Bh : Heap) (ad : List Nat) (xs : List Int) (T : List Sc × Int × List PL) (x : T9) (S : List Value) (H : Heap) : Prop :=
  x.j ≤ xs.length ∧ x.ms.map Prod.fst = ad ∧ (∀ y ∈ x.ms, y.2.Ok) ∧ allL (xs.drop x.j) x.ms x.outs = T ∧ x.outs.length = x.j ∧ OutO x.sv x.N x.outs ∧
    S9 (.slice a ad.length cap) sx x.sv sx (.int .i64 (xs.length : Int)) (.int .i64 (x.j : Int)) S ∧ H = x.N ++ (G ++ (Bh ++ x.ms.map rwL))
section
variable {K : Value → Heap → Prop} {a : Option Addr} {cap : Nat} {Bh G : Heap} {ms : List PL} {sx : Value} {xs : List Int}
theorem c9 (hsl : SlO 38 a cap Bh (ms.map Prod.fst)) (hok : ∀ x ∈ ms, x.2.Ok) (hix : InS cI 1 sx G xs) (h : ∀ sv N, OutO sv N (allP xs ms).1 → K (.tuple ⟨[sv, .int .i64 (allP xs ms).2.1]⟩) (N ++ (G ++ (Bh ++ (allP xs ms).2.2.map rwL)))) :
    SCalls Try.prog 9 [.slice a ms.length cap, sx] (G ++ (Bh ++ ms.map rwL)) K := by
  have hin : InS cP 1 (.slice a ms.length cap) (G ++ (Bh ++ ms.map rwL)) (ms.map Prod.fst) := by
    have := hsl.inS
    rw [List.length_map] at this
    exact this.mono fun p hp => List.mem_append_right _ (List.mem_append_left _ hp)
  have hix2 : InS cI 1 sx (G ++ (Bh ++ ms.map rwL)) xs := hix.mono fun p hp => List.mem_append_left _ hp
  have hchk := chk_range (xs := xs) (n := ms.length)
  obtain ⟨sa, sc, rfl, hml⟩ := hix.sv
  have hml' : xs.length ≤ 9223372036854775807 := by simp only [maxLen] at hml; omega
  refine enter9 ?_
  unfold allP at h
  have hc28 := fun (K : Value → Heap → Prop) hk => c28 (K := K) (ad := ms.map Prod.fst) hin (by simp) hix2 hk
  generalize chk28 xs ms.length = e at hchk h hc28
  by_cases he : e = 0
  · subst he
    obtain ⟨hr, hn, hxl⟩ := hchk rfl
    rw [if_pos rfl] at h
    clear hchk
    repeat' ((conv => whnf); (first
        | refine hc28 _ ?_
        | refine New.mk (fun _ => ?_)
        | refine Look.at0 ?_
        | refine Cell.row ?_
        | refine Cell.buf ?_
        | refine Cells.row rfl ?_
        | refine Put.row rfl ?_
        | refine Put.buf rfl ?_
        | refine Look.at1 ?_
        | refine Look.at2 ?_
        | refine Look.at3 ?_
        | refine Look.at4 ?_
        | refine Look.at5 ?_
        | refine Look.at6 ?_
        | refine Look.at7 ?_
        | refine Look.at8 ?_
        | with_reducible refine Val.i64 (by omega) (by omega) ?_
        | with_reducible refine Val.u8 (by omega) (by omega) ?_
        | with_reducible refine Val.u32 (by omega) (by omega) ?_
        | with_reducible refine Val.u64 (by omega) (by omega) ?_
        | with_reducible refine Val.u8m ?_
        | with_reducible refine Val.u32m ?_
        | with_reducible refine Val.u64m ?_
        | with_reducible refine Val.shr8 ?_
        | with_reducible refine Val.shr16 (by decide) ?_
        | with_reducible refine Val.shr24 (by decide) ?_
        | with_reducible refine Val.raw ?_
        | refine Branch.not ?_
        | refine Branch.and ?_
        | refine Branch.or ?_
        | refine Branch.dt (by assumption) ?_
        | refine Branch.df (by assumption) ?_
        | refine Branch.dt rfl ?_
        | refine Branch.dt (by omega) ?_
        | refine Branch.df (by omega) ?_
        | refine Branch.t rfl ?_
        | refine Branch.f rfl ?_
        | refine Branch.t (by assumption) ?_
        | refine Branch.f (by assumption) ?_
        | refine Branch.d (fun _ => ?_) (fun _ => ?_)
        | refine Branch.mk (fun _ => ?_) (fun _ => ?_)
        | refine Need.mk (by first | omega | decide | rfl) ?_
        | refine Idx.nat (by omega) ?_
        | refine Idx.auto (by first | omega | decide) (by first | omega | decide) ?_
        | refine Cell.ro rfl ?_
        | refine SDraw.all (by kernel_rfl) ?_
        | refine Kept.k0 ?_
        | refine Kept.k1 ?_
        | refine Kept.k2 ?_
        | refine Kept.k3 ?_
        | refine Kept.k4 ?_))
    refine SLoop.invA (I9 a cap (.slice sa xs.length sc) G Bh (ms.map Prod.fst) xs (allL xs ms [])) (fun x => xs.length - x.j) ⟨0, [], ms, .slice none 0 0, []⟩ (Keep.all ⟨by simp, rfl, hok, rfl, rfl, .inl ⟨rfl, rfl, rfl⟩, by rw [List.length_map]; exact .mk, rfl⟩) ?_
    rintro ⟨j, outs, ms', sv, N⟩ S H ⟨hj, hfst, hok', hrun, hlo, hout, hS, rfl⟩ R hR
    dsimp only at hj hfst hok' hrun hlo hout hR hS ⊢
    have hlm : ms'.length = ms.length := by have := congrArg List.length hfst; simpa using this
    rw [List.length_map, ← hlm] at hS
    have hsl' : SlO 38 a cap Bh (ms'.map Prod.fst) := by rw [hfst]; exact hsl
    clear hc28
    cases hS
    by_cases hlt : j < xs.length
    · have hx := List.getElem?_eq_getElem hlt
      have hxm := List.getElem_mem hlt
      generalize xs[j] = x at hx hxm
      have hxr := hr x hxm
      obtain ⟨r, o, c', b, e1, hm, hc⟩ := hix.at1 hx rfl
      injection e1 with e1 _ e3
      subst e1
      have hdrop : xs.drop j = x :: xs.drop (j + 1) := by
        obtain ⟨h1, rfl⟩ := List.getElem?_eq_some_iff.1 hx
        exact List.drop_eq_getElem_cons hlt
      rw [hdrop, allL] at hrun
      have hfst2 : (scanL ms').2.map Prod.fst = ms.map Prod.fst := (runL_fst _ _ _).trans hfst
      have hlm2 : (scanL ms').2.length = ms'.length := by have := congrArg List.length (hfst2.trans hfst.symm); simpa using this
      have hok2 := (runL_ok 134 Sc.new ms' Sc.Ok.new hok').1
      have hsl2 : SlO 38 a cap Bh ((scanL ms').2.map Prod.fst) := by rw [hfst2]; exact hsl
      have hsl3 : SlO 38 a cap Bh (((scanL ms').2.map (tkL (q17 x))).map Prod.fst) := by rw [tkL_fst, hfst2]; exact hsl
      have hok3 : ∀ y ∈ (scanL ms').2.map (tkL (q17 x)), y.2.Ok := tkL_ok (q17_ok hxr) hok2
      have hc29 := fun (K : Value → Heap → Prop) hk => c29 (K := K) hsl' (by omega) hok' hk
      have hc17 := fun (K : Value → Heap → Prop) hk => c30 (K := K) (q := q17 x) hsl2 (by omega) hok2 (q17_ok hxr) (by show (17 : Int) ≠ 23; decide) hk
      have hc4 := fun (K : Value → Heap → Prop) hk => c30 (K := K) (q := q4) hsl3 (by rw [List.length_map]; omega) hok3 q4_ok (by show (4 : Int) ≠ 23; decide) hk
      have hok4 : ∀ y ∈ giveL x (scanL ms').2, y.2.Ok := tkL_ok q4_ok hok3
      have hfst4 : (giveL x (scanL ms').2).map Prod.fst = ms.map Prod.fst := by unfold giveL; rw [tkL_fst, tkL_fst, hfst2]
      rw [List.length_map] at hc4
      rw [hlm2] at hc17 hc4
      have hg : (((scanL ms').2.map (tkL (q17 x))).map (tkL q4)) = giveL x (scanL ms').2 := rfl
      rw [hg] at hc4
      generalize hsc : scanL ms' = SM at *
      obtain ⟨s, ms2⟩ := SM
      dsimp only at *
      have hlg : (giveL x ms2).length = ms.length := by have := congrArg List.length hfst4; simpa using this
      generalize giveL x ms2 = ms4 at *
      rcases hout with ⟨rfl, rfl, rfl⟩ | ⟨ro, co, rfl, hco1, hco2, rfl⟩
      · have fin : ∀ (S : List Value) (r' c2 : Nat), 1 ≤ c2 → c2 ≤ maxLen → s.found = true → S9 (.slice a ms'.length cap) (.slice (some ⟨r, o, none⟩) xs.length sc) (.slice (some ⟨r', 0, none⟩) 1 c2) (.slice (some ⟨r, o, none⟩) xs.length sc) (.int .i64 (xs.length : Int)) (.int .i64 ((j + 1 : Nat) : Int)) S → ∀ D : Heap, R S ((r', .buf 34 s.c4 (c2 * 4)) :: (D ++ (G ++ (Bh ++ ms4.map rwL)))) := by
          intro S r' c2 h1 h2 h3 h4 D
          rw [if_neg (by rw [h3]; decide)] at hrun
          refine hR ⟨j + 1, [s], ms4, .slice (some ⟨r', 0, none⟩) 1 c2, [(r', .buf 34 s.c4 (c2 * 4))]⟩ _ _ (by show xs.length - (j + 1) < xs.length - j; omega) (Keep.sub _ (List.Sublist.cons_cons _ (List.sublist_append_right D _)) ⟨by show j + 1 ≤ xs.length; omega, hfst4, hok4, hrun, by show 1 = j + 1; simp only [List.length_nil] at hlo; omega, .inr ⟨r', c2, rfl, h1, h2, ?_⟩, by rw [List.length_map, ← hlm]; exact h4, rfl⟩)
          simp
        rw [List.nil_append]
        repeat' ((conv => whnf); (first
            | refine Look.cell (List.mem_append_left _ hm) hc ?_
            | refine SCalls.under G (hc29 _ ?_)
            | refine Ls.c9 17 x (by omega) ?_
            | refine Ls.c9 4 0 (by decide) ?_
            | refine SCalls.under (_ :: G) (hc17 _ ?_)
            | refine SCalls.under (_ :: G) (hc4 _ ?_)
            | refine RawV.app0T (e := 34) (size := 4) (bytes := 16) (m := 1) (news := s.c4) rfl (by kernel_rfl) (by decide) (.head _) rfl (fun j v hj => by rw [Nat.zero_add]; exact hj) (by decide) (by unfold maxLen; omega) (by omega) (fun r' c2 h1 h2 => ?_)
            | refine New.mk (fun _ => ?_)
            | refine Look.at0 ?_
            | refine Cell.row ?_
            | refine Cell.buf ?_
            | refine Cells.row rfl ?_
            | refine Put.row rfl ?_
            | refine Put.buf rfl ?_
            | refine Look.at1 ?_
            | refine Look.at2 ?_
            | refine Look.at3 ?_
            | refine Look.at4 ?_
            | refine Look.at5 ?_
            | refine Look.at6 ?_
            | refine Look.at7 ?_
            | refine Look.at8 ?_
            | with_reducible refine Val.i64 (by omega) (by omega) ?_
            | with_reducible refine Val.u8 (by omega) (by omega) ?_
            | with_reducible refine Val.u32 (by omega) (by omega) ?_
            | with_reducible refine Val.u64 (by omega) (by omega) ?_
            | with_reducible refine Val.u8m ?_
            | with_reducible refine Val.u32m ?_
            | with_reducible refine Val.u64m ?_
            | with_reducible refine Val.shr8 ?_
            | with_reducible refine Val.shr16 (by decide) ?_
            | with_reducible refine Val.shr24 (by decide) ?_
            | with_reducible refine Val.raw ?_
            | refine Branch.not ?_
            | refine Branch.and ?_
            | refine Branch.or ?_
            | refine Branch.dt (by assumption) ?_
            | refine Branch.df (by assumption) ?_
            | refine Branch.dt rfl ?_
            | refine Branch.dt (by omega) ?_
            | refine Branch.df (by omega) ?_
            | refine Branch.t rfl ?_
            | refine Branch.f rfl ?_
            | refine Branch.t (by assumption) ?_
            | refine Branch.f (by assumption) ?_
            | refine Branch.d (fun _ => ?_) (fun _ => ?_)
            | refine Branch.mk (fun _ => ?_) (fun _ => ?_)
            | refine Need.mk (by first | omega | decide | rfl) ?_
            | refine Idx.nat (by omega) ?_
            | refine Idx.auto (by first | omega | decide) (by first | omega | decide) ?_
            | refine Cell.ro rfl ?_
            | refine SDraw.all (by kernel_rfl) ?_
            | refine Kept.k0 ?_
            | refine Kept.k1 ?_
            | refine Kept.k2 ?_
            | refine Kept.k3 ?_
            | refine Kept.k4 ?_))
        all_goals (conv => whnf)
        · exact fin _ _ _ h1 h2 (by assumption) .mk [_, _]
        · rename_i hf
          rw [if_pos hf] at hrun
          rw [← hrun] at h
          exact Keep.d1 (h _ _ (.inl ⟨rfl, rfl, rfl⟩))
      · have fin : ∀ (S : List Value) (r' c2 : Nat), outs.length + 1 ≤ c2 → c2 ≤ maxLen → s.found = true → S9 (.slice a ms'.length cap) (.slice (some ⟨r, o, none⟩) xs.length sc) (.slice (some ⟨r', 0, none⟩) (outs.length + 1) c2) (.slice (some ⟨r, o, none⟩) xs.length sc) (.int .i64 (xs.length : Int)) (.int .i64 ((j + 1 : Nat) : Int)) S → ∀ D : Heap, R S ((r', .buf 34 (outs.flatMap Sc.c4 ++ s.c4) (c2 * 4)) :: (D ++ (G ++ (Bh ++ ms4.map rwL)))) := by
          intro S r' c2 h1 h2 h3 h4 D
          rw [if_neg (by rw [h3]; decide)] at hrun
          refine hR ⟨j + 1, outs ++ [s], ms4, .slice (some ⟨r', 0, none⟩) (outs.length + 1) c2, [(r', .buf 34 (outs.flatMap Sc.c4 ++ s.c4) (c2 * 4))]⟩ _ _ (by show xs.length - (j + 1) < xs.length - j; omega) (Keep.sub _ (List.Sublist.cons_cons _ (List.sublist_append_right D _)) ⟨by show j + 1 ≤ xs.length; omega, hfst4, hok4, hrun, by show (outs ++ [s]).length = j + 1; rw [List.length_append, hlo]; rfl, .inr ⟨r', c2, ?_, ?_, h2, ?_⟩, by rw [List.length_map, ← hlm]; exact h4, rfl⟩)
          · show _ = Value.slice _ (outs ++ [s]).length _
            rw [List.length_append]; rfl
          · show (outs ++ [s]).length ≤ _
            rw [List.length_append]; exact h1
          · show _ = [(r', Blk.buf 34 ((outs ++ [s]).flatMap Sc.c4) (c2 * 4))]
            rw [List.flatMap_append]; rfl
        rw [List.singleton_append]
        repeat' ((conv => whnf); (first
            | refine Look.cell (.tail _ (List.mem_append_left _ hm)) hc ?_
            | refine SCalls.under (_ :: G) (hc29 _ ?_)
            | refine Ls.c9 17 x (by omega) ?_
            | refine Ls.c9 4 0 (by decide) ?_
            | refine SCalls.under (_ :: _ :: G) (hc17 _ ?_)
            | refine SCalls.under (_ :: _ :: G) (hc4 _ ?_)
            | refine RawV.appT (A := [_, _]) (e := 34) (size := 4) (bytes := 16) (m := 1) (news := s.c4) rfl (by kernel_rfl) (by decide) (flat_len (f := Sc.c4) (fun _ => rfl) outs) rfl hco1 hco2 (.head _) rfl (fun j v hj => by rw [Nat.zero_add]; exact hj) (by intro u hu; simp only [Sc.c4, List.mem_cons, List.not_mem_nil, or_false] at hu; rcases hu with rfl | rfl | rfl | rfl <;> rfl) (by unfold maxLen; omega) (by omega) (fun r' c2 h1 h2 => ?_)
            | refine New.mk (fun _ => ?_)
            | refine Look.at0 ?_
            | refine Cell.row ?_
            | refine Cell.buf ?_
            | refine Cells.row rfl ?_
            | refine Put.row rfl ?_
            | refine Put.buf rfl ?_
            | refine Look.at1 ?_
            | refine Look.at2 ?_
            | refine Look.at3 ?_
            | refine Look.at4 ?_
            | refine Look.at5 ?_
            | refine Look.at6 ?_
            | refine Look.at7 ?_
            | refine Look.at8 ?_
            | with_reducible refine Val.i64 (by omega) (by omega) ?_
            | with_reducible refine Val.u8 (by omega) (by omega) ?_
            | with_reducible refine Val.u32 (by omega) (by omega) ?_
            | with_reducible refine Val.u64 (by omega) (by omega) ?_
            | with_reducible refine Val.u8m ?_
            | with_reducible refine Val.u32m ?_
            | with_reducible refine Val.u64m ?_
            | with_reducible refine Val.shr8 ?_
            | with_reducible refine Val.shr16 (by decide) ?_
            | with_reducible refine Val.shr24 (by decide) ?_
            | with_reducible refine Val.raw ?_
            | refine Branch.not ?_
            | refine Branch.and ?_
            | refine Branch.or ?_
            | refine Branch.dt (by assumption) ?_
            | refine Branch.df (by assumption) ?_
            | refine Branch.dt rfl ?_
            | refine Branch.dt (by omega) ?_
            | refine Branch.df (by omega) ?_
            | refine Branch.t rfl ?_
            | refine Branch.f rfl ?_
            | refine Branch.t (by assumption) ?_
            | refine Branch.f (by assumption) ?_
            | refine Branch.d (fun _ => ?_) (fun _ => ?_)
            | refine Branch.mk (fun _ => ?_) (fun _ => ?_)
            | refine Need.mk (by first | omega | decide | rfl) ?_
            | refine Idx.nat (by omega) ?_
            | refine Idx.auto (by first | omega | decide) (by first | omega | decide) ?_
            | refine Cell.ro rfl ?_
            | refine SDraw.all (by kernel_rfl) ?_
            | refine Kept.k0 ?_
            | refine Kept.k1 ?_
            | refine Kept.k2 ?_
            | refine Kept.k3 ?_
            | refine Kept.k4 ?_))
        all_goals (conv => whnf)
        · exact fin _ _ _ h1 h2 (by assumption) .mk [_, _]
        · rename_i hf
          rw [if_pos hf] at hrun
          rw [← hrun] at h
          exact Keep.d1 (h _ _ (.inr ⟨ro, co, rfl, hco1, hco2, rfl⟩))
    · have e : j = xs.length := by omega
      subst e
      rw [List.drop_length, allL] at hrun
      rw [← hrun] at h
      dsimp only at h
      have hcl := fun (K : Value → Heap → Prop) hk => c30 (K := K) (q := Sc.new.q) hsl' (by omega) hok' (Sc.Ok.new.q_ok (by show (0 : Int) ≠ 3; decide)).1 (by show (81 : Int) ≠ 23; decide) hk
      rcases hout with ⟨rfl, rfl, rfl⟩ | ⟨ro, co, rfl, hco1, hco2, rfl⟩
      · rw [List.nil_append]
        repeat' ((conv => whnf); (first
            | refine c17 (fun gs => ?_)
            | refine SCalls.at0 (c20 Sc.Ok.new (fun h3 => by cases h3) (fun h3 => ?_))
            | refine SCalls.under (_ :: _ :: G) (hcl _ ?_)
            | refine New.mk (fun _ => ?_)
            | refine Look.at0 ?_
            | refine Cell.row ?_
            | refine Cell.buf ?_
            | refine Cells.row rfl ?_
            | refine Put.row rfl ?_
            | refine Put.buf rfl ?_
            | refine Look.at1 ?_
            | refine Look.at2 ?_
            | refine Look.at3 ?_
            | refine Look.at4 ?_
            | refine Look.at5 ?_
            | refine Look.at6 ?_
            | refine Look.at7 ?_
            | refine Look.at8 ?_
            | with_reducible refine Val.i64 (by omega) (by omega) ?_
            | with_reducible refine Val.u8 (by omega) (by omega) ?_
            | with_reducible refine Val.u32 (by omega) (by omega) ?_
            | with_reducible refine Val.u64 (by omega) (by omega) ?_
            | with_reducible refine Val.u8m ?_
            | with_reducible refine Val.u32m ?_
            | with_reducible refine Val.u64m ?_
            | with_reducible refine Val.shr8 ?_
            | with_reducible refine Val.shr16 (by decide) ?_
            | with_reducible refine Val.shr24 (by decide) ?_
            | with_reducible refine Val.raw ?_
            | refine Branch.not ?_
            | refine Branch.and ?_
            | refine Branch.or ?_
            | refine Branch.dt (by assumption) ?_
            | refine Branch.df (by assumption) ?_
            | refine Branch.dt rfl ?_
            | refine Branch.dt (by omega) ?_
            | refine Branch.df (by omega) ?_
            | refine Branch.t rfl ?_
            | refine Branch.f rfl ?_
            | refine Branch.t (by assumption) ?_
            | refine Branch.f (by assumption) ?_
            | refine Branch.d (fun _ => ?_) (fun _ => ?_)
            | refine Branch.mk (fun _ => ?_) (fun _ => ?_)
            | refine Need.mk (by first | omega | decide | rfl) ?_
            | refine Idx.nat (by omega) ?_
            | refine Idx.auto (by first | omega | decide) (by first | omega | decide) ?_
            | refine Cell.ro rfl ?_
            | refine SDraw.all (by kernel_rfl) ?_
            | refine Kept.k0 ?_
            | refine Kept.k1 ?_
            | refine Kept.k2 ?_
            | refine Kept.k3 ?_
            | refine Kept.k4 ?_))
        all_goals (conv => whnf)
        · rw [if_pos (by assumption)] at h
          exact Keep.d2 (h _ _ (.inl ⟨rfl, rfl, rfl⟩))
        · rw [if_neg (by rw [‹List.any _ _ = false›]; decide)] at h
          exact Keep.d2 (h _ _ (.inl ⟨rfl, rfl, rfl⟩))
      · rw [List.singleton_append]
        repeat' ((conv => whnf); (first
            | refine c17 (fun gs => ?_)
            | refine SCalls.at0 (c20 Sc.Ok.new (fun h3 => by cases h3) (fun h3 => ?_))
            | refine SCalls.under (_ :: _ :: _ :: G) (hcl _ ?_)
            | refine New.mk (fun _ => ?_)
            | refine Look.at0 ?_
            | refine Cell.row ?_
            | refine Cell.buf ?_
            | refine Cells.row rfl ?_
            | refine Put.row rfl ?_
            | refine Put.buf rfl ?_
            | refine Look.at1 ?_
            | refine Look.at2 ?_
            | refine Look.at3 ?_
            | refine Look.at4 ?_
            | refine Look.at5 ?_
            | refine Look.at6 ?_
            | refine Look.at7 ?_
            | refine Look.at8 ?_
            | with_reducible refine Val.i64 (by omega) (by omega) ?_
            | with_reducible refine Val.u8 (by omega) (by omega) ?_
            | with_reducible refine Val.u32 (by omega) (by omega) ?_
            | with_reducible refine Val.u64 (by omega) (by omega) ?_
            | with_reducible refine Val.u8m ?_
            | with_reducible refine Val.u32m ?_
            | with_reducible refine Val.u64m ?_
            | with_reducible refine Val.shr8 ?_
            | with_reducible refine Val.shr16 (by decide) ?_
            | with_reducible refine Val.shr24 (by decide) ?_
            | with_reducible refine Val.raw ?_
            | refine Branch.not ?_
            | refine Branch.and ?_
            | refine Branch.or ?_
            | refine Branch.dt (by assumption) ?_
            | refine Branch.df (by assumption) ?_
            | refine Branch.dt rfl ?_
            | refine Branch.dt (by omega) ?_
            | refine Branch.df (by omega) ?_
            | refine Branch.t rfl ?_
            | refine Branch.f rfl ?_
            | refine Branch.t (by assumption) ?_
            | refine Branch.f (by assumption) ?_
            | refine Branch.d (fun _ => ?_) (fun _ => ?_)
            | refine Branch.mk (fun _ => ?_) (fun _ => ?_)
            | refine Need.mk (by first | omega | decide | rfl) ?_
            | refine Idx.nat (by omega) ?_
            | refine Idx.auto (by first | omega | decide) (by first | omega | decide) ?_
            | refine Cell.ro rfl ?_
            | refine SDraw.all (by kernel_rfl) ?_
            | refine Kept.k0 ?_
            | refine Kept.k1 ?_
            | refine Kept.k2 ?_
            | refine Kept.k3 ?_
            | refine Kept.k4 ?_))
        all_goals (conv => whnf)
        · rw [if_pos (by assumption)] at h
          exact Keep.d2 (h _ _ (.inr ⟨ro, co, rfl, hco1, hco2, rfl⟩))
        · rw [if_neg (by rw [‹List.any _ _ = false›]; decide)] at h
          exact Keep.d2 (h _ _ (.inr ⟨ro, co, rfl, hco1, hco2, rfl⟩))
  · rw [if_neg he] at h
    repeat' ((conv => whnf); (first
        | refine hc28 _ ?_
        | refine New.mk (fun _ => ?_)
        | refine Look.at0 ?_
        | refine Cell.row ?_
        | refine Cell.buf ?_
        | refine Cells.row rfl ?_
        | refine Put.row rfl ?_
        | refine Put.buf rfl ?_
        | refine Look.at1 ?_
        | refine Look.at2 ?_
        | refine Look.at3 ?_
        | refine Look.at4 ?_
        | refine Look.at5 ?_
        | refine Look.at6 ?_
        | refine Look.at7 ?_
        | refine Look.at8 ?_
        | with_reducible refine Val.i64 (by omega) (by omega) ?_
        | with_reducible refine Val.u8 (by omega) (by omega) ?_
        | with_reducible refine Val.u32 (by omega) (by omega) ?_
        | with_reducible refine Val.u64 (by omega) (by omega) ?_
        | with_reducible refine Val.u8m ?_
        | with_reducible refine Val.u32m ?_
        | with_reducible refine Val.u64m ?_
        | with_reducible refine Val.shr8 ?_
        | with_reducible refine Val.shr16 (by decide) ?_
        | with_reducible refine Val.shr24 (by decide) ?_
        | with_reducible refine Val.raw ?_
        | refine Branch.not ?_
        | refine Branch.and ?_
        | refine Branch.or ?_
        | refine Branch.dt (by assumption) ?_
        | refine Branch.df (by assumption) ?_
        | refine Branch.dt rfl ?_
        | refine Branch.dt (by omega) ?_
        | refine Branch.df (by omega) ?_
        | refine Branch.t rfl ?_
        | refine Branch.f rfl ?_
        | refine Branch.t (by assumption) ?_
        | refine Branch.f (by assumption) ?_
        | refine Branch.d (fun _ => ?_) (fun _ => ?_)
        | refine Branch.mk (fun _ => ?_) (fun _ => ?_)
        | refine Need.mk (by first | omega | decide | rfl) ?_
        | refine Idx.nat (by omega) ?_
        | refine Idx.auto (by first | omega | decide) (by first | omega | decide) ?_
        | refine Cell.ro rfl ?_
        | refine SDraw.all (by kernel_rfl) ?_
        | refine Kept.k0 ?_
        | refine Kept.k1 ?_
        | refine Kept.k2 ?_
        | refine Kept.k3 ?_
        | refine Kept.k4 ?_))
    all_goals (conv => whnf)
    exact Keep.all (h _ _ (.inl ⟨rfl, rfl, rfl⟩))
end
end Go.Proofs.Ytkegkhhfbfegoaa
