/- Sx, part G: an operation does what 'xop' says, memory and calls as well. -/
import Derived.Test.YtkegkhhfbfegoaaSxF
set_option linter.unusedVariables false
set_option linter.unusedSimpArgs false
namespace Go.Proofs.Ytkegkhhfbfegoaa.Sx
open Go.RowKit
section
variable {P : Program} {l : List Value} {H : Heap} {K : Value → Heap → Prop} {w : World}
theorem OpOk.val {r : Result Next} {v : Value} {w' : World} {H' : Heap} (hr : r = .ok (.value v) w') (h : Holds w' H') (hs : Step w H w' H') (hK : K v H') : OpOk P r w H K :=
  .inl ⟨v, w', H', .inl hr, h, hs, hK⟩

theorem cOp_raw {o o' : Oper} (h : cOp P o = .raw o') : o' = o := by
  obtain ⟨dst, op, type, pos, after, guard⟩ := o
  cases op <;> simp only [cOp, cBin, cCall, eqAggOf] at h <;> (repeat' (split at h)) <;> first | (cases h; rfl) | cases h

theorem run_storeCells_fz (P : Program) (g o : Nat) (t : TypeId) (fz : Nat × Nat) : ∀ (vs : List Value) (i : Nat) (cur : Array Value) (w : World), w.heap[g]? = some (.cells cur t fz) → o + i + vs.length ≤ cur.size → (fz = (0, 0) ∨ o + i + vs.length ≤ fz.1) → (∀ v ∈ vs, v.oneCell' = true) →
    (storeCells ⟨g, o, none⟩ vs i).run P w = .ok () (w.setRow g (cur.toList.take (o + i) ++ vs ++ cur.toList.drop (o + i + vs.length)).toArray)
  | [], i, cur, w, hg, _, _, _ => by
    simp only [storeCells, List.append_nil, List.length_nil, Nat.add_zero, List.take_append_drop, Array.toArray_toList]
    rw [setRow_self w g cur t fz hg]
    rfl
  | v :: rest, i, cur, w, hg, hl, hz, h1 => by
    have hi : o + i < cur.size := by simp at hl; omega
    have hadd : (⟨g, o, none⟩ : Addr).add i = ⟨g, o + i, none⟩ := addr_add g o i
    have hcell : w.cell? ⟨g, o + i, none⟩ = some cur[o + i] := by simp [World.cell?, hg, hi]
    have hfro : w.frozen? ⟨g, o + i, none⟩ = false := by
      simp only [World.frozen?, hg]
      rcases hz with rfl | hz
      · simp
      · have : ¬ fz.1 ≤ o + i := by simp at hz; omega
        simp [this]
    have hst : (store ((⟨g, o, none⟩ : Addr).add i) v).run P w = .ok () (w.setRow g (cur.setIfInBounds (o + i) v)) := by
      rw [hadd, run_store P w _ v _ (h1 v (by simp)), hcell]
      simp [hfro, setCell_eq_setRow w g (o + i) cur t fz v hg]
    have ih := run_storeCells_fz P g o t fz rest (i + 1) (cur.setIfInBounds (o + i) v) (w.setRow g (cur.setIfInBounds (o + i) v)) (setRow_heap w g cur _ t _ hg) (by simp at hl ⊢; omega) (by rcases hz with hz | hz; exact .inl hz; right; simp at hz; omega) (fun x hx => h1 x (by simp [hx]))
    simp only [storeCells, Sem.run_bind, hst, Result.andThen_ok, ih, setRow_setRow]
    congr 3
    have e := list_seg_step cur.toList (o + i) v rest (by simp at hl ⊢; omega)
    simpa [Array.toList_setIfInBounds, Nat.add_assoc] using e

theorem putOk_excl {b b' : Blk} {o : Nat} {vs : List Value} (h : PutOk b o vs b') : b.excl = true ∧ b'.excl = true := by
  cases b with
  | row t cs fz => obtain ⟨_, _, rfl⟩ := h; exact ⟨rfl, rfl⟩
  | buf t cs n => obtain ⟨_, rfl⟩ := h; exact ⟨rfl, rfl⟩
  | obj o => exact h.elim
  | ro f => exact h.elim
/-- A store into a block that is known. -/
theorem store_ok {A B : Heap} {r o : Nat} {b b' : Blk} {vs : List Value} (hw : Holds w (A ++ (r, b) :: B)) (hp : PutOk b o vs b') (h1 : ∀ v ∈ vs, v.oneCell' = true) :
    ∃ w', (storeCells ⟨r, o, none⟩ vs).run P w = .ok () w' ∧ Holds w' (A ++ (r, b') :: B) ∧ Step w (A ++ (r, b) :: B) w' (A ++ (r, b') :: B) := by
  have hm := hw.mid
  obtain ⟨e1, e2⟩ := putOk_excl hp
  cases b with
  | row t cs fz =>
    obtain ⟨hl, hz, rfl⟩ := hp
    have hm' : w.heap[r]? = some (.cells cs.toArray t fz) := hm
    have := run_storeCells_fz P r o t fz vs 0 cs.toArray w hm' (by simpa using hl) (by simpa using hz) h1
    refine ⟨_, this, ?_⟩
    simpa using hw.setRow (cs' := cs.take o ++ vs ++ cs.drop (o + vs.length))
  | buf t cs n =>
    obtain ⟨hl, rfl⟩ := hp
    obtain ⟨sl, hn, hm'⟩ := hm
    have := run_storeCells_fz P r o t (0, 0) vs 0 (cs ++ sl).toArray w hm' (by simp; omega) (.inl rfl) h1
    refine ⟨_, this, ?_⟩
    have e : (cs ++ sl).take o ++ vs ++ (cs ++ sl).drop (o + vs.length) = (cs.take o ++ vs ++ cs.drop (o + vs.length)) ++ sl := by
      rw [List.take_append_of_le_length (by omega), List.drop_append_of_le_length (by omega)]
      simp [List.append_assoc]
    refine hw.put rfl rfl (by simp) rfl rfl rfl (fun k hk => setRow_other w r k _ hk) ?_
    refine ⟨sl, by simp; omega, ?_⟩
    have := setRow_heap w r (cs ++ sl).toArray ((cs ++ sl).take o ++ vs ++ (cs ++ sl).drop (o + vs.length)).toArray t (0, 0) hm'
    simpa [e] using this
  | obj o => exact hp.elim
  | ro f => exact hp.elim

/-- A cell that is known. -/
theorem cell_at {b : Blk} {r j : Nat} {v : Value} (hb : b.At w r) (h : b.cell j = some v) : w.cell? ⟨r, j, none⟩ = some v := by
  cases b with
  | row t cs fz =>
    have hb' : w.heap[r]? = some (.cells cs.toArray t fz) := hb
    have h' : cs[j]? = some v := h
    simp [World.cell?, hb', h']
  | buf t cs n =>
    obtain ⟨sl, _, hb'⟩ := hb
    have h' : cs[j]? = some v := h
    have hj : j < cs.length := (List.getElem?_eq_some_iff.1 h').1
    simp [World.cell?, hb', List.getElem?_append_left hj, h']
  | obj o => cases h
  | ro f => exact hb.2 j v h
theorem load_ok {agg : Bool} {n : Nat} {v : Value} {K : Value → Prop} {t : TypeId} (ha : aggOf P t = some (agg, n)) (h : loadK agg n v H K) : ∃ u, (∀ w, (∀ p ∈ H, p.2.At w p.1) → (Instr.loadAt t v).run P w = .ok u w) ∧ K u := by
  unfold loadK at h
  split at h
  · rename_i r o
    obtain ⟨A, b, B, rfl, h⟩ := h
    obtain ⟨h1, h2⟩ := aggOf_spec ha
    cases agg with
    | true =>
      obtain ⟨vs, hl, hc, hK⟩ := h
      refine ⟨_, fun w hw => ?_, hK⟩
      have := run_loadCells_list (P := P) w ⟨r, o, none⟩ vs (fun j v hj => by rw [addr_add]; exact cell_at (hw (r, b) (mem_mid.2 (.inl rfl))) (hc j v hj))
      rw [hl] at this
      simp only [Instr.loadAt, Instr.sureAddr, Sem.run_bind, Sem.run_pure, Result.andThen_ok, loadVar, h1, if_true, h2, this]
    | false =>
      obtain ⟨u, hc, hK⟩ := h
      refine ⟨u, fun w hw => ?_, hK⟩
      have := cell_at (hw (r, b) (mem_mid.2 (.inl rfl))) hc
      simp only [Instr.loadAt, Instr.sureAddr, Sem.run_bind, Sem.run_pure, Result.andThen_ok, loadVar, h1, Bool.false_eq_true, if_false, run_load, this]
  · exact h.elim

theorem plain_frozen {a : Addr} (hw : Holds w H) (h : plainAt H a.block) : (∀ i s, w.frozen? ⟨a.block, i, s⟩ = false) ∧ (w.shape? a.block).isSome = true := by
  obtain ⟨b, hb, hp⟩ := h
  have := hw.at_ _ hb
  cases b with
  | row t cs fz =>
    simp only at hp
    subst hp
    have hb' : w.heap[a.block]? = some (.cells cs.toArray t (0, 0)) := this
    exact ⟨fun i s => by simp [World.frozen?, hb'], by simp [World.shape?, hb']⟩
  | buf t cs n =>
    obtain ⟨sl, _, hb'⟩ := this
    exact ⟨fun i s => by simp [World.frozen?, hb'], by simp [World.shape?, hb']⟩
  | obj o => exact hp.elim
  | ro f => exact hp.elim
theorem peq_ok {a b : Addr} {K : Bool → Prop} (h : PEq H a b K) : ∃ r, (∀ w, Holds w H → (sameAddr a b).run P w = .ok r w) ∧ K r := by
  rcases h with ⟨h1, h2⟩ | ⟨h1, h2, h3, h4⟩
  · refine ⟨_, fun w hw => ?_, h2⟩
    unfold sameAddr
    simp only [Sem.run_ite, beq_iff_eq, h1, if_true, Sem.run_pure]
    congr 1
  · refine ⟨_, fun w hw => ?_, h4⟩
    obtain ⟨fa, sa⟩ := plain_frozen hw h2
    obtain ⟨fb, sb⟩ := plain_frozen hw h3
    obtain ⟨x, hx⟩ := Option.isSome_iff_exists.1 sa
    obtain ⟨y, hy⟩ := Option.isSome_iff_exists.1 sb
    have fa' : w.frozen? a = false := fa _ _
    have fb' : w.frozen? b = false := fb _ _
    have fa2 : ∀ n, w.frozen? ⟨a.block, n, none⟩ = false := fun n => fa n none
    have fb2 : ∀ n, w.frozen? ⟨b.block, n, none⟩ = false := fun n => fb n none
    obtain ⟨x1, x2⟩ := x
    obtain ⟨y1, y2⟩ := y
    unfold sameAddr
    simp only [Sem.run_ite, beq_iff_eq, h1, if_false, Sem.run_bind, run_frozen, fa', fb', Result.andThen_ok, Bool.and_false, Bool.false_eq_true, noView, viewAt, run_shape, hx, hy, Option.isSome_some, if_true, Sem.run_pure, Option.isSome_none, mayBeOne, stringish, fa2, fb2, Bool.false_and, Bool.and_self, Bool.or_self]
theorem eqIn_ptrs {t e : TypeId} {i : TypeInfo} {a b : Addr} {r : Bool} (hu : P.underlying t = some (.pointer e)) (hi : P.info? e = some i) (hne : i.size ≠ 0) (d : Nat) (hr : (sameAddr a b).run P w = .ok r w) :
    (Op.equalIn (d + 1) t (.pointer (some a)) (.pointer (some b))).run P w = .ok r w := by
  simp only [Op.equalIn, Sem.run_bind, run_underlying hu, Result.andThen_ok, size_spec hi, Sem.run_ite, if_pos hne, hr]
theorem cBin_eqPtr {o : Oper} {op : BinOp} {t : TypeId} {x y a b : Operand} {neg : Bool} (hc : cBin P o op t x y = .eqPtr neg a b) : a = x ∧ b = y ∧ op = eqOp neg ∧ ∃ e i, P.underlying t = some (.pointer e) ∧ P.info? e = some i ∧ i.size ≠ 0 := by
  unfold cBin at hc
  split at hc
  · cases hc
  · cases hc
  · split at hc <;> cases hc
  · split at hc <;> cases hc
  · rename_i e hu
    split at hc
    · rename_i i hi
      split at hc
      · cases hc
      · rename_i hz _
        injection hc with h1 h2 h3
        subst h1; subst h2; subst h3
        exact ⟨rfl, rfl, rfl, e, i, hu, hi, Nat.ne_of_beq_eq_false hz⟩
      · cases hc
    · rename_i i hi
      split at hc
      · cases hc
      · rename_i hz _
        injection hc with h1 h2 h3
        subst h1; subst h2; subst h3
        exact ⟨rfl, rfl, rfl, e, i, hu, hi, Nat.ne_of_beq_eq_false hz⟩
      · cases hc
    · cases hc
  all_goals (try simp only [eqAggOf] at hc) <;> (repeat' (split at hc)) <;> cases hc

theorem run_value {s : Sem Value} {v : Value} {w w' : World} (h : s.run P w = .ok v w') : (do pure (Next.value (← s)) : Sem Next).run P w = .ok (.value v) w' := by simp [h]
theorem call_ok {f : FuncId} {args : List Value} {K : Value → Heap → Prop} {r : Result Next} (hr : r = (callFunc f args.toArray).run P w) (h : SCalls P f args H K) (hw : Holds w H) : OpOk P r w H K :=
  .inr ⟨f, args.toArray, by rw [hr, h.enter], h.run w hw⟩
theorem cCall_call {o : Oper} {c : Call} {f : FuncId} {args : List Operand} (hc : cCall P o c = .call f args) : c.callee = .value (.func f) ∧ args = c.args.toList := by
  obtain ⟨callee, as, ts⟩ := c
  unfold cCall at hc
  split at hc
  · rename_i g hg
    split at hc
    · cases hc
    · injection hc with h1 h2
      exact ⟨by rw [hg, h1], h2.symm⟩
  · cases hc
  · (repeat' (split at hc)) <;> cases hc
  · cases hc
theorem cCall_callV {o : Oper} {c : Call} {x : Operand} {args : List Operand} (hc : cCall P o c = .callV x args) : c.callee = .value x ∧ args = c.args.toList := by
  obtain ⟨callee, as, ts⟩ := c
  unfold cCall at hc
  split at hc
  · split at hc <;> cases hc
  · rename_i g _ hg
    injection hc with h1 h2
    exact ⟨by rw [hg, h1], h2.symm⟩
  · (repeat' (split at hc)) <;> cases hc
  · cases hc
theorem zerosOf_spec (z : Array Value) (n : Nat) (hz : n ≠ 0 → z.size ≠ 0) : (Array.range n).map (z[· % z.size]!) = (zerosOf z.toList n).toArray := by
  apply Array.ext'
  simp only [Array.toList_map, Array.toList_range, zerosOf]
  apply List.map_congr_left
  intro j hj
  have hn : n ≠ 0 := by rintro rfl; simp at hj
  have hlt : j % z.size < z.size := Nat.mod_lt _ (Nat.pos_of_ne_zero (hz hn))
  simp [getElem!_def, hlt, List.getD]

theorem xop_ok {o : Oper} {x : XOp} (hc : cOp P o = x) (h : xop P x l H K) (hw : Holds w H) : OpOk P ((execOp (act l).eval o).run P w) w H K := by
  cases x with
  | pure p =>
    obtain ⟨v, h1, h2⟩ := xpure_ok hc h
    exact .val (h1 w) hw (Step.refl _ _) h2
  | raw o' =>
    have := cOp_raw hc
    subst this
    have h' := evsK_ok l h
    exact h'.run (act l).eval w (by exact List.map_congr_left fun x _ => ev_eq l x) hw
  | alloc t zero =>
    obtain ⟨dst, op, type, pos, after, guard⟩ := o
    cases op <;> simp only [cOp, cBin, cCall, eqAggOf] at hc
    case alloc e =>
      split at hc
      · rename_i z hz
        injection hc with h1 h2
        subst h1; subst h2
        obtain ⟨h⟩ := h
        obtain ⟨h3, h4⟩ := hw.alloc (.cells z.cells e) (.row e z.cells.toList (0, 0)) (by show (w.heap.push _)[w.heap.size]? = _; simp)
        refine .val (run_value ?_) h3 h4 (h _)
        simp only [Instr.alloc, Sem.run_bind, zeroOf_spec hz, Result.andThen_ok, newVar, newRow, run_newObj, Sem.run_pure]
        rfl
      · cases hc
    all_goals ((repeat' (split at hc)) <;> cases hc)
  | box t x =>
    obtain ⟨dst, op, type, pos, after, guard⟩ := o
    cases op <;> simp only [cOp, cBin, cCall, eqAggOf] at hc
    case box e y =>
      injection hc with h1 h2
      subst h1; subst h2
      obtain ⟨h⟩ := cellsK_ok h
      obtain ⟨h3, h4⟩ := hw.alloc (.cells (ev l y).cells e) (.row e (ev l y).cells.toList (0, 0)) (by show (w.heap.push _)[w.heap.size]? = _; simp)
      refine .val (run_value ?_) h3 h4 (h _)
      simp only [Instr.box, ev_eq, newVar, newRow, Sem.run_bind, run_newObj, Result.andThen_ok, Sem.run_pure]
      rfl
    all_goals ((repeat' (split at hc)) <;> cases hc)
  | load agg n x =>
    obtain ⟨dst, op, type, pos, after, guard⟩ := o
    cases op <;> simp only [cOp, cBin, cCall, eqAggOf] at hc
    case load t y =>
      split at hc
      · rename_i b m ha
        injection hc with h1 h2 h3
        subst h1; subst h2; subst h3
        obtain ⟨u, h1, h2⟩ := load_ok (H := H) (K := fun u => K u H) ha h
        refine .val (run_value ?_) hw (Step.refl _ _) h2
        simp only [ev_eq, h1 w hw.at_]
      · cases hc
    all_goals ((repeat' (split at hc)) <;> cases hc)
  | store n x v =>
    obtain ⟨dst, op, type, pos, after, guard⟩ := o
    cases op <;> simp only [cOp, cBin, cCall, eqAggOf] at hc
    case store t y u =>
      split at hc
      · rename_i b m ha
        injection hc with h1 h2 h3
        subst h1; subst h2; subst h3
        simp only [xop] at h
        split at h
        · rename_i r off hx
          have h := cellsK_ok h
          split at h
          · rename_i hb
            simp only [Bool.and_eq_true] at hb
            have hn : (ev l u).cells.toList.length = m := Nat.eq_of_beq_eq_true hb.1
            obtain ⟨A, b, B, rfl, b', hp, hK⟩ := h
            have hK := appK_ok hK
            obtain ⟨w', hr, h3, h4⟩ := store_ok (P := P) hw hp (allOne_ok hb.2)
            obtain ⟨_, hs⟩ := aggOf_spec ha
            refine .inl ⟨undef, w', _, .inr ⟨?_, rfl⟩, h3, h4, hK⟩
            have hn' : (ev l u).cells.size = m := by simpa using hn
            simp only [execOp, ev_eq, hx, Instr.storeAt, Instr.sureAddr, Sem.run_bind, Sem.run_pure, Result.andThen_ok, storeVar, hs, Sem.run_ite]
            rw [if_neg (by simp [hn'])]
            simp only [hr, Result.andThen_ok]
          · exact h.elim
        · exact h.elim
      · cases hc
    all_goals ((repeat' (split at hc)) <;> cases hc)
  | buildSlice t len zeros parts =>
    obtain ⟨dst, op, type, pos, after, guard⟩ := o
    cases op <;> simp only [cOp, cBin, cCall, eqAggOf] at hc
    case buildSlice t' len' parts' =>
      split at hc
      · rename_i e hu
        split at hc
        · rename_i i z hi hz
          split at hc
          · rename_i ps hps hle hsz
            injection hc with h1 h2 h3 h4
            subst h1; subst h2; subst h3; subst h4
            have hsz : i.size = z.cells.size := Nat.eq_of_beq_eq_true hsz
            have hle : len' * i.size ≤ 16777216 := Nat.le_of_ble_eq_true hle
            obtain ⟨cs', h1, h⟩ := fill_ok (l := l) _ _ _ _ _ hps h
            obtain ⟨h⟩ := h
            obtain ⟨h3, h4⟩ := hw.alloc (.cells cs'.toArray e) (.row e cs' (0, 0)) (by show (w.heap.push _)[w.heap.size]? = _; simp)
            refine .val (run_value ?_) h3 h4 (h _)
            have hzz : ∀ zz : Array Value, (len' * i.size ≠ 0 → zz = z.cells) → (Array.range (len' * i.size)).map (zz[· % zz.size]!) = (zerosOf z.cells.toList (len' * i.size)).toArray := by
              intro zz hzz
              by_cases hn : len' * i.size = 0
              · rw [hn]; simp [zerosOf]
              · rw [hzz hn]
                exact zerosOf_spec z.cells _ fun _ h0 => hn (by rw [hsz, h0]; simp)
            have hfill : Instr.fill (fun j => some (j * i.size, i.size)) ((zerosOf z.cells.toList (len' * i.size)).toArray) (List.map (fun p => (p.1, ev l p.2)) parts'.toList) = some cs'.toArray := h1
            simp only [Instr.buildSlice, Sem.run_bind, run_underlying hu, size_spec hi, Result.andThen_ok, Sem.run_ite]
            rw [if_neg (by simpa using hle)]
            by_cases hn : len' * i.size = 0
            · rw [if_pos hn]
              simp only [Sem.run_pure, Result.andThen_ok]
              rw [hzz #[] (fun h => absurd hn h)]
              simp only [Array.toList_map, ev_eq]
              rw [hfill]
              simp only [newRow, Sem.run_bind, run_newObj, Result.andThen_ok, Sem.run_pure]
              rfl
            · rw [if_neg hn]
              simp only [Sem.run_bind, zeroOf_spec hz, Sem.run_pure, Result.andThen_ok]
              rw [hzz z.cells (fun h => rfl)]
              simp only [Array.toList_map, ev_eq]
              rw [hfill]
              simp only [newRow, Sem.run_bind, run_newObj, Result.andThen_ok, Sem.run_pure]
              rfl
          · cases hc
        · cases hc
      · cases hc
    all_goals ((repeat' (split at hc)) <;> cases hc)
  | eqPtr neg a b =>
    obtain ⟨dst, op, type, pos, after, guard⟩ := o
    cases op <;> simp only [cOp, cCall] at hc
    case binOp op t x y yt =>
      obtain ⟨rfl, rfl, ho, e, i, hu, hi, hne⟩ := cBin_eqPtr hc
      have fin : ∀ (p q : Option Addr) (r : Bool), ev l a = .pointer p → ev l b = .pointer q → (Op.equalIn (9999 + 1) t (.pointer p) (.pointer q)).run P w = .ok r w → negK neg r (fun v => K v H) → OpOk P ((execOp (act l).eval ⟨dst, .binOp op t a b yt, type, pos, after, guard⟩).run P w) w H K := by
        intro p q r hp hq hr hK
        refine .val (run_value ?_) hw (Step.refl _ _) (negK_ok hK)
        rw [ev_eq, ev_eq, hp, hq]
        exact eqPtr_ok neg a b p q r w w hr op ho
      simp only [xop] at h
      split at h
      · rename_i p hx hy
        exact fin _ _ _ hx hy (eqIn_ptrnil w hu _ _) h
      · rename_i p hx hy
        exact fin _ _ _ hx hy (eqIn_ptrsome w hu _ _) (by cases neg <;> exact h)
      · rename_i p q hx hy
        obtain ⟨r, hr, hK⟩ := peq_ok (P := P) h
        exact fin _ _ _ hx hy (eqIn_ptrs hu hi hne _ (hr w hw)) hK
      · exact h.elim
    all_goals ((repeat' (split at hc)) <;> cases hc)
  | call f args =>
    obtain ⟨dst, op, type, pos, after, guard⟩ := o
    cases op <;> simp only [cOp, cBin, eqAggOf] at hc
    case call c =>
      obtain ⟨h1, rfl⟩ := cCall_call hc
      have h := evsK_ok l h
      refine call_ok ?_ h hw
      have e : (act l).eval (.func f) = .func (.func f) #[] #[] := rfl
      simp only [execOp, resolve, h1, e, Deferred.ofValue, Sem.run_bind, Sem.run_pure, Result.andThen_ok, invoke, map_ev, Array.empty_append, Array.append_empty]
    all_goals ((repeat' (split at hc)) <;> cases hc)
  | callV y args =>
    obtain ⟨dst, op, type, pos, after, guard⟩ := o
    cases op <;> simp only [cOp, cBin, eqAggOf] at hc
    case call c =>
      obtain ⟨h1, rfl⟩ := cCall_callV hc
      simp only [xop] at h
      split at h
      · rename_i f fs cs hf
        have h := appK_ok (appK_ok (evsK_ok l h))
        refine call_ok ?_ h hw
        simp only [execOp, resolve, h1, ev_eq, hf, Deferred.ofValue, Sem.run_bind, Sem.run_pure, Result.andThen_ok, invoke, map_ev]
        simp
      · exact h.elim
    all_goals ((repeat' (split at hc)) <;> cases hc)
end
end Go.Proofs.Ytkegkhhfbfegoaa.Sx
