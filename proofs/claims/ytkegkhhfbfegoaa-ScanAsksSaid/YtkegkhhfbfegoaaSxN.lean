/- Sx, part N: blocks that stand in a list of whatever length ('ms.map f'): looked up, and written, by their place; what is apart. -/
import Derived.Test.YtkegkhhfbfegoaaSxM
set_option linter.unusedVariables false
set_option linter.unusedSimpArgs false
namespace Go.Proofs.Ytkegkhhfbfegoaa.Sx
open Go.RowKit

section
variable {α : Type} {f : α → Nat × Blk} {ms : List α} {j : Nat} {x x' : α} {r : Nat} {b b' : Blk} {x0 : Nat × Blk} {H : Heap}
theorem list_split (hj : ms[j]? = some x) : ms = ms.take j ++ x :: ms.drop (j + 1) := by
  obtain ⟨hlt, e⟩ := List.getElem?_eq_some_iff.1 hj
  subst e
  rw [List.getElem_cons_drop, List.take_append_drop]
theorem list_set (hj : ms[j]? = some x) : ms.set j x' = ms.take j ++ x' :: ms.drop (j + 1) := by
  obtain ⟨hlt, e⟩ := List.getElem?_eq_some_iff.1 hj
  rw [List.set_eq_take_append_cons_drop, if_pos hlt]
theorem Look.skip {K : Heap → Blk → Heap → Prop} (h : Look r H fun A b B => K (x0 :: A) b B) : Look r (x0 :: H) K := by
  obtain ⟨A, b, B, rfl, h⟩ := h
  exact ⟨x0 :: A, b, B, rfl, h⟩
theorem Look.nth {K : Heap → Blk → Heap → Prop} (hj : ms[j]? = some x) (hx : f x = (r, b)) (h : K ((ms.take j).map f) b ((ms.drop (j + 1)).map f)) : Look r (ms.map f) K :=
  ⟨_, b, _, by rw [← hx, ← List.map_cons, ← List.map_append, ← list_split hj], h⟩
theorem appK_to {α : Type} {k l : List α} {K : List α → Prop} (h : K (k ++ l)) : appK k l K := by
  induction k generalizing K with
  | nil => exact h
  | cons a k ih => exact ih (K := fun l' => K (a :: l')) h
theorem appK_set {K : Heap → Prop} (x' : α) (hj : ms[j]? = some x) (hx : (r, b') = f x') (h : K ((ms.set j x').map f)) : appK ((ms.take j).map f) ((r, b') :: (ms.drop (j + 1)).map f) K := by
  refine appK_to ?_
  rw [hx, ← List.map_cons, ← List.map_append, ← list_set hj]
  exact h
theorem Cell.nth {g : α → Value} {t : TypeId} {N : Nat} {K : Value → Prop} (hj : ms[j]? = some x) (h : K (g x)) : Cell (.buf t (ms.map g) N) (0 + j * 1) K :=
  Cell.get (by show (ms.map g)[0 + j * 1]? = _; simp [hj]) h
theorem SLoop.sep {P : Program} {c : XCode} {Q : Post} {l : List Value} (h : Sep H → SLoop P c Q l H) : SLoop P c Q l H :=
  ⟨fun c hc w hw => (h hw.sep).run c hc w hw⟩
theorem SCalls.sep {P : Program} {g : FuncId} {args : List Value} {K : Value → Heap → Prop} (he : ∀ w, (callFunc g args.toArray).run P w = .ok (.enter g args.toArray) w) (h : Sep H → SCalls P g args H K) : SCalls P g args H K :=
  ⟨he, fun w hw => (h hw.sep).run w hw⟩
theorem SCalls.under {P : Program} {f : FuncId} {args : List Value} {H : Heap} {K : Value → Heap → Prop} (A : Heap) (h : SCalls P f args H fun v H' => K v (A ++ H')) : SCalls P f args (A ++ H) K := by
  have h1 := h.frame (R := A)
  refine (h1.perm List.perm_append_comm).mono ?_ |>.keep
  rintro v H' ⟨H1, rfl, hK⟩
  exact Keep.perm _ List.perm_append_comm hK
/-- Of a heap in another order. -/
theorem SCalls.turn {P : Program} {g : FuncId} {args : List Value} {H H2 : Heap} {K : Value → Heap → Prop} (hp : H.Perm H2) (h : SCalls P g args H2 K) : SCalls P g args H K := h.perm hp
end
/-- A contract that reads alone, where more is known. -/
theorem SCalls.seen {P : Program} {g : FuncId} {args : List Value} {H H1 R : Heap} {v : Value} {K : Value → Heap → Prop} (hp : H.Perm (H1 ++ R)) (h : ∀ K : Value → Heap → Prop, K v H1 → SCalls P g args H1 K) (hk : K v H) : SCalls P g args H K := by
  refine SCalls.keep (((h (fun u H' => u = v ∧ H' = H1) ⟨rfl, rfl⟩).frame (R := R) |>.perm hp).mono ?_)
  rintro u H' ⟨H2, rfl, rfl, rfl⟩
  exact Keep.perm _ hp.symm hk
theorem SCalls.seen1 {P : Program} {g : FuncId} {args : List Value} {H : Heap} {p : Nat × Blk} {v : Value} {K : Value → Heap → Prop} (hm : p ∈ H) (h : ∀ K : Value → Heap → Prop, K v [p] → SCalls P g args [p] K) (hk : K v H) : SCalls P g args H K := by
  obtain ⟨s, t, rfl⟩ := List.append_of_mem hm
  exact SCalls.seen (R := s ++ t) List.perm_middle h hk
theorem SCalls.seen2 {P : Program} {g : FuncId} {args : List Value} {H : Heap} {p q : Nat × Blk} {v : Value} {K : Value → Heap → Prop} (hm : q ∈ H) (h : ∀ K : Value → Heap → Prop, K v [p, q] → SCalls P g args [p, q] K) (hk : K v (p :: H)) : SCalls P g args (p :: H) K := by
  obtain ⟨s, t, rfl⟩ := List.append_of_mem hm
  exact SCalls.seen (R := s ++ t) (List.Perm.cons _ List.perm_middle) h hk
/-- A row is a buffer without room. -/
theorem Blk.At.buf {t : TypeId} {cs : List Value} {w : World} {r : Nat} (h : (Blk.row t cs (0, 0)).At w r) : (Blk.buf t cs cs.length).At w r := ⟨[], by simp, by rw [List.append_nil]; exact h⟩
theorem holds_buf {t : TypeId} {cs : List Value} {w : World} {r : Nat} {A B : Heap} (h : Holds w (A ++ (r, .row t cs (0, 0)) :: B)) :
    Holds w (A ++ (r, .buf t cs cs.length) :: B) ∧ Step w (A ++ (r, .row t cs (0, 0)) :: B) w (A ++ (r, .buf t cs cs.length) :: B) :=
  h.put rfl rfl rfl rfl rfl rfl (fun _ _ => rfl) (Blk.At.buf h.mid)
theorem SLoop.toBuf {P : Program} {c : XCode} {Q : Post} {l : List Value} {t : TypeId} {cs : List Value} {r : Nat} {A B : Heap} (h : SLoop P c Q l (A ++ (r, .buf t cs cs.length) :: B)) : SLoop P c Q l (A ++ (r, .row t cs (0, 0)) :: B) :=
  ⟨fun c hc w hw => (h.run c hc w (holds_buf hw).1).mono fun e a w2 h => h.trans (holds_buf hw).2⟩
theorem RawV.toBuf {P : Program} {o : Oper} {vs : List Value} {K : Value → Heap → Prop} {t : TypeId} {cs : List Value} {r : Nat} {A B : Heap} (h : RawV P o vs (A ++ (r, .buf t cs cs.length) :: B) K) : RawV P o vs (A ++ (r, .row t cs (0, 0)) :: B) K := by
  refine ⟨fun ρ w hm hw => ?_⟩
  obtain ⟨h1, h2⟩ := holds_buf hw
  rcases h.run ρ w hm h1 with ⟨v, w', H', hr, g1, g2, g3⟩ | ⟨f, args, hr, hc⟩
  · exact .inl ⟨v, w', H', hr, g1, h2.trans g2, g3⟩
  · refine .inr ⟨f, args, hr, hc.mono ?_⟩
    rintro e w' ⟨v, H', rfl, g1, g2, g3⟩
    exact ⟨v, H', rfl, g1, h2.trans g2, g3⟩
theorem Sep.ne {H : Heap} (h : Sep H) {i j : Nat} {p q : Nat × Blk} (hi : H[i]? = some p) (hj : H[j]? = some q) (hij : i < j) (hx : p.2.excl = true ∨ q.2.excl = true) : p.1 ≠ q.1 := by
  obtain ⟨hi1, rfl⟩ := List.getElem?_eq_some_iff.1 hi
  obtain ⟨hj1, rfl⟩ := List.getElem?_eq_some_iff.1 hj
  exact List.pairwise_iff_getElem.1 h i j hi1 hj1 hij hx
/-- A contract that changes a part, where more is known. -/
theorem SCalls.upd {P : Program} {g : FuncId} {args : List Value} {H H1 H1' H' R : Heap} {v : Value} {K : Value → Heap → Prop} (hp : H.Perm (H1 ++ R)) (hp' : (H1' ++ R).Perm H') (h : ∀ K : Value → Heap → Prop, K v H1' → SCalls P g args H1 K) (hk : K v H') : SCalls P g args H K := by
  refine SCalls.keep (((h (fun u H' => u = v ∧ H' = H1') ⟨rfl, rfl⟩).frame (R := R) |>.perm hp).mono ?_)
  rintro u H' ⟨H2, rfl, rfl, rfl⟩
  exact Keep.perm _ hp' hk
theorem perm_nth {α β : Type} {f : α → β} {ms : List α} {j : Nat} {x : α} (hj : ms[j]? = some x) : (ms.map f).Perm (f x :: (ms.take j ++ ms.drop (j + 1)).map f) := by
  conv => lhs; rw [list_split hj]
  rw [List.map_append, List.map_cons, List.map_append]
  exact List.perm_middle
theorem perm_set {α β : Type} {f : α → β} {ms : List α} {j : Nat} {x x' : α} (hj : ms[j]? = some x) : (f x' :: (ms.take j ++ ms.drop (j + 1)).map f).Perm ((ms.set j x').map f) := by
  rw [list_set hj, List.map_append, List.map_append, List.map_cons]
  exact List.perm_middle.symm
/-- A loop beside what it does not touch. -/
theorem SLoop.under {P : Program} {c : XCode} {Q : Post} {l : List Value} {H : Heap} (A : Heap) (h : SLoop P c (fun e l H => Q e l (A ++ H)) l H) : SLoop P c Q l (A ++ H) := by
  refine ⟨fun c hc w hw => ?_⟩
  have hw2 := hw.perm List.perm_append_comm
  refine (h.run c hc w (hw2.sub (List.sublist_append_left _ _))).mono ?_
  rintro e a w' ⟨l', H', rfl, h1, h2, h3⟩
  obtain ⟨g1, g2⟩ := hw2.frame h2 h1
  exact ⟨l', A ++ H', rfl, g1.perm List.perm_append_comm, (g2.permL List.perm_append_comm).permR List.perm_append_comm, h3⟩
theorem Keep.drop1 {x0 x1 : Nat × Blk} {H : Heap} {K : Heap → Prop} (h : K (x0 :: H)) : Keep (x0 :: x1 :: H) K := Keep.sub _ (List.Sublist.cons_cons _ (List.sublist_cons_self _ _)) h
/-- The first j elements are done. -/
def updTo {α : Type} (f : α → α) (j : Nat) (ms : List α) : List α := (ms.take j).map f ++ ms.drop j
section
variable {α : Type} {f : α → α} {ms : List α} {j : Nat} {x : α}
theorem updTo_zero : updTo f 0 ms = ms := by simp [updTo]
theorem updTo_all (h : ms.length ≤ j) : updTo f j ms = ms.map f := by simp [updTo, List.take_of_length_le h, List.drop_eq_nil_of_le h]
theorem updTo_length : (updTo f j ms).length = ms.length := by simp [updTo]; omega
theorem updTo_nth (hj : ms[j]? = some x) : (updTo f j ms)[j]? = some x := by
  have hlt := (List.getElem?_eq_some_iff.1 hj).1
  rw [updTo, List.getElem?_append_right (by simp; omega)]
  simp [List.getElem?_drop, hj, Nat.min_eq_left (Nat.le_of_lt hlt)]
theorem updTo_set (hj : ms[j]? = some x) : (updTo f j ms).set j (f x) = updTo f (j + 1) ms := by
  have hlt := (List.getElem?_eq_some_iff.1 hj).1
  have hl : ((ms.take j).map f).length = j := by simp; omega
  unfold updTo
  rw [List.set_append_right _ _ (by omega), hl, Nat.sub_self]
  obtain ⟨_, rfl⟩ := List.getElem?_eq_some_iff.1 hj
  rw [List.drop_eq_getElem_cons hlt, List.set_cons_zero, List.take_succ_eq_append_getElem hlt, List.map_append, List.append_assoc]
  rfl
theorem updTo_same (hj : ms[j]? = some x) (hf : f x = x) : updTo f j ms = updTo f (j + 1) ms := by
  have h := updTo_set (f := f) hj
  rw [hf] at h
  rw [← h]
  obtain ⟨hlt, e⟩ := List.getElem?_eq_some_iff.1 (updTo_nth (f := f) hj)
  conv => rhs; rw [← e]
  exact (List.set_getElem_self hlt).symm
end
/-- What append asks of a slice's type and its element's. -/
noncomputable def tyOk (P : Program) (t e : TypeId) (size bytes : Nat) : Bool :=
  match P.underlying t, P.info? e with
  | some (.slice e'), some i => Nat.beq e' e && Nat.beq i.size size && Nat.beq i.bytes bytes && (match i.zero with | some z => Nat.beq z.cells.size size | none => false)
  | _, _ => false
theorem tyOk_spec {P : Program} {t e : TypeId} {size bytes : Nat} (h : tyOk P t e size bytes = true) : P.underlying t = some (.slice e) ∧ ∃ i z, P.info? e = some i ∧ i.zero = some z ∧ z.cells.size = i.size ∧ i.size = size ∧ i.bytes = bytes := by
  unfold tyOk at h
  split at h
  · rename_i e' i h1 h2
    simp only [Bool.and_eq_true] at h
    obtain ⟨⟨⟨h3, h4⟩, h5⟩, h6⟩ := h
    have h3 := Nat.eq_of_beq_eq_true h3
    subst h3
    have h4 := Nat.eq_of_beq_eq_true h4
    have h5 := Nat.eq_of_beq_eq_true h5
    split at h6
    · rename_i z hz
      exact ⟨h1, i, z, h2, hz, by rw [h4]; exact Nat.eq_of_beq_eq_true h6, h4, h5⟩
    · cases h6
  · cases h
section
variable {P : Program} {o : Oper} {t e : TypeId} {xs xx : Operand} {A B H : Heap} {r n cap m c size bytes N : Nat} {cs news : List Value} {r2 o2 : Nat} {b2 : Blk} {K : Value → Heap → Prop}
theorem RawV.appT (ho : o.op = .call { callee := .builtin .append, args := #[xs, xx], argTypes := #[t, t] }) (ht : tyOk P t e size bytes = true) (hsz : 0 < size)
    (hcs : cs.length = n * size) (hN : N = cap * size) (hcap : n ≤ cap) (hcm : cap ≤ maxLen)
    (h2 : (r2, b2) ∈ A ++ (r, .buf e cs N) :: B) (hl : news.length = m * size) (hn : ∀ j v, news[j]? = some v → b2.cell (o2 + j) = some v) (h1 : ∀ u ∈ news, u.oneCell' = true)
    (h63 : n + m ≤ maxLen) (hb : (n + m) * bytes ≤ 140737488355328)
    (h : ∀ r' cap', n + m ≤ cap' → cap' ≤ maxLen → K (.slice (some ⟨r', 0, none⟩) (n + m) cap') ((r', .buf e (cs ++ news) (cap' * size)) :: (A ++ B))) :
    RawV P o [.slice (some ⟨r, 0, none⟩) n cap, .slice (some ⟨r2, o2, none⟩) m c] (A ++ (r, .buf e cs N) :: B) K := by
  obtain ⟨h3, i, z, h4, h5, h6, rfl, rfl⟩ := tyOk_spec ht
  subst hN
  exact RawV.app ho h3 h4 h5 h6 hsz hcs hcap hcm h2 hl hn h1 h63 hb h
theorem RawV.app0T (ho : o.op = .call { callee := .builtin .append, args := #[xs, xx], argTypes := #[t, t] }) (ht : tyOk P t e size bytes = true) (hsz : 0 < size)
    (h2 : (r2, b2) ∈ H) (hl : news.length = m * size) (hn : ∀ j v, news[j]? = some v → b2.cell (o2 + j) = some v) (h0 : 0 < m)
    (h63 : m ≤ maxLen) (hb : m * bytes ≤ 140737488355328)
    (h : ∀ r' cap', m ≤ cap' → cap' ≤ maxLen → K (.slice (some ⟨r', 0, none⟩) m cap') ((r', .buf e news (cap' * size)) :: H)) :
    RawV P o [.slice none 0 0, .slice (some ⟨r2, o2, none⟩) m c] H K := by
  obtain ⟨h3, i, z, h4, h5, h6, rfl, rfl⟩ := tyOk_spec ht
  exact RawV.app0 ho h3 h4 h5 h6 hsz h2 hl hn h0 h63 hb h
theorem RawV.appnT {a : Option Addr} (ho : o.op = .call { callee := .builtin .append, args := #[xs, xx], argTypes := #[t, t] }) (ht : tyOk P t e size bytes = true) (h : K (.slice none 0 0) H) :
    RawV P o [.slice none 0 0, .slice a 0 c] H K := by
  obtain ⟨h3, i, z, h4, h5, h6, rfl, rfl⟩ := tyOk_spec ht
  exact RawV.appn ho h3 h4 h
/-- One element of one cell, from a row of its own (which is then forgotten). -/
theorem RawV.app0one {u : Value} (ho : o.op = .call { callee := .builtin .append, args := #[xs, xx], argTypes := #[t, t] }) (ht : tyOk P t e 1 bytes = true) (hb : bytes ≤ 1000)
    (h : ∀ r' cap', 1 ≤ cap' → cap' ≤ maxLen → K (.slice (some ⟨r', 0, none⟩) 1 cap') ((r', .buf e [u] (cap' * 1)) :: (r2, .row e [u] (0, 0)) :: H)) :
    RawV P o [.slice none 0 0, .slice (some ⟨r2, 0, none⟩) 1 1] ((r2, .row e [u] (0, 0)) :: H) K :=
  RawV.app0T ho ht (by decide) (.head _) rfl (fun j v hj => by rw [Nat.zero_add]; exact hj) (by decide) (by unfold maxLen; omega) (by omega) h
end
/-- Kept, in another order: ls are the parts, p their order in H, q what is kept, d what is dropped. -/
theorem Keep.by {H : Heap} {K : Heap → Prop} (ls : List Heap) (p q d : List Nat) (hp : p.Perm (q ++ d)) (hH : H = p.flatMap fun i => ls.getD i []) (h : K (q.flatMap fun i => ls.getD i [])) : Keep H K := by
  subst hH
  refine ⟨(q ++ d).flatMap fun i => ls.getD i [], q.flatMap fun i => ls.getD i [], hp.flatMap_right _, ?_, h⟩
  rw [List.flatMap_append]
  exact List.sublist_append_left _ _
section
variable {P : Program} {o : Oper} {t e : TypeId} {xs xx : Operand} {H : Heap} {n cap c size bytes : Nat} {K : Value → Heap → Prop}
/-- Nothing, on a slice. -/
theorem RawV.appE {a a2 : Option Addr} (ho : o.op = .call { callee := .builtin .append, args := #[xs, xx], argTypes := #[t, t] }) (ht : tyOk P t e size bytes = true) (hcap : n ≤ cap)
    (h : K (.slice a n cap) H) : RawV P o [.slice a n cap, .slice a2 0 c] H K := by
  obtain ⟨h3, i, z, h4, h5, h6, rfl, rfl⟩ := tyOk_spec ht
  refine ⟨fun ρ w hm hw => .inl ?_⟩
  rw [run_append_op ρ ho hm]
  refine ⟨_, w, H, .inl ?_, hw, Step.refl _ _, h⟩
  have hr : (Builtin.append_ #[t, t] o.type #[.slice a n cap, .slice a2 0 c]).run P w = .ok (.slice a n cap) w := by
    cases a <;> cases a2 <;> simp [Builtin.append_, run_underlying h3, sizeOf, typeInfo, h4, Builtin.lenOf, Builtin.firstCells, loadCells, loadCellsFrom, hcap, storeCells]
  rw [Sem.run_bind, hr]; rfl
end
/-- Elements of k cells each, one behind the other. -/
theorem flat_len {α β : Type} {f : α → List β} {k : Nat} (hk : ∀ x, (f x).length = k) (L : List α) : (L.flatMap f).length = L.length * k := by
  induction L with
  | nil => simp
  | cons x L ih => simp [ih, hk, Nat.add_mul, Nat.add_comm]
theorem flat_nth {α β : Type} {f : α → List β} {k : Nat} (hk : ∀ x, (f x).length = k) : ∀ {L : List α} {j i : Nat} {x : α}, L[j]? = some x → i < k → (L.flatMap f)[j * k + i]? = (f x)[i]?
  | [], j, i, x, hj, _ => by simp at hj
  | y :: L, 0, i, x, hj, hi => by
    simp only [List.getElem?_cons_zero, Option.some.injEq] at hj
    subst hj
    rw [List.flatMap_cons, Nat.zero_mul, Nat.zero_add, List.getElem?_append_left (by rw [hk]; exact hi)]
  | y :: L, j + 1, i, x, hj, hi => by
    rw [List.flatMap_cons, List.getElem?_append_right (by rw [hk, Nat.add_mul]; omega), hk, show (j + 1) * k + i - k = j * k + i by rw [Nat.add_mul]; omega]
    exact flat_nth hk (by simpa using hj) hi
theorem flat_inv {α β : Type} {f : α → List β} {k : Nat} (hk : ∀ x, (f x).length = k) {L : List α} {n : Nat} {v : β} (h : (L.flatMap f)[n]? = some v) : ∃ j i x, n = j * k + i ∧ i < k ∧ L[j]? = some x ∧ (f x)[i]? = some v := by
  have hn := (List.getElem?_eq_some_iff.1 h).1
  rw [flat_len hk] at hn
  have hk0 : 0 < k := by
    cases k with
    | zero => simp at hn
    | succ k => omega
  have hj : n / k < L.length := Nat.div_lt_of_lt_mul (by rw [Nat.mul_comm]; exact hn)
  refine ⟨n / k, n % k, L[n / k], (Nat.div_add_mod' n k).symm, Nat.mod_lt _ hk0, List.getElem?_eq_getElem hj, ?_⟩
  rw [← flat_nth hk (List.getElem?_eq_getElem hj) (Nat.mod_lt _ hk0), Nat.div_add_mod']
  exact h
end Go.Proofs.Ytkegkhhfbfegoaa.Sx
