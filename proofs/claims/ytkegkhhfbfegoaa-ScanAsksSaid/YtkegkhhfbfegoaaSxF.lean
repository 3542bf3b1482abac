/- Sx, part F: an operation does what 'xop' says. -/
import Derived.Test.YtkegkhhfbfegoaaSxE
set_option linter.unusedVariables false
set_option linter.unusedSimpArgs false
namespace Go.Proofs.Ytkegkhhfbfegoaa.Sx
open Go.RowKit
section
variable {P : Program} {l : List Value} {K : Value → Prop}
theorem Yld.val {v : Value} (h : K v) : Yld P (pure v) K := ⟨v, fun _ => rfl, h⟩
theorem ev_map (o : Option Operand) : o.map (act l).eval = o.map (ev l) := by cases o <;> simp [ev_eq]

theorem cOp_pure_call {o : Oper} {c : Call} {p : PX} (hc : cCall P o c = .pure p) (ho : o.op = .call c) (h : xpure p l K) : Yields1 P (execOp (act l).eval o) K := by
  obtain ⟨callee, args, argTypes⟩ := c
  unfold cCall at hc
  split at hc
  · split at hc <;> cases hc
  · cases hc
  · rename_i hcal
    simp only at hcal
    subst hcal
    split at hc
    · rename_i x t hargs ht
      simp only at hargs ht
      have ha : args = #[x] := by apply Array.ext'; simpa using hargs
      subst ha
      have hrun : ∀ (v : Value) (w : World), (Builtin.len_ argTypes o.type #[ev l x]).run P w = .ok v w → (execOp (act l).eval o).run P w = .ok (.value v) w := by
        intro v w hv
        simp only [execOp, ho, resolve, Sem.run_bind, Sem.run_pure, Result.andThen_ok, invoke, builtin, map_ev, List.map_cons, List.map_nil]
        rw [hv]; rfl
      split at hc
      · rename_i hu
        injection hc with hc; subst hc
        simp only [xpure] at h
        split at h
        · rename_i s hx
          refine ⟨_, fun w => hrun _ w ?_, h⟩
          simp [Builtin.len_, ht, hx, run_underlying hu, goInt]
        · exact h.elim
      · rename_i hu
        injection hc with hc; subst hc
        simp only [xpure] at h
        split at h
        · rename_i s hx
          refine ⟨_, fun w => hrun _ w ?_, h⟩
          simp [Builtin.len_, ht, hx, run_underlying hu, goInt]
        · exact h.elim
      · rename_i hu
        injection hc with hc; subst hc
        refine ⟨_, fun w => hrun _ w ?_, h⟩
        simp [Builtin.len_, ht, run_underlying hu, goInt]
      · cases hc
    · cases hc
  · cases hc

theorem xpure_ok {o : Oper} {p : PX} (hc : cOp P o = .pure p) (h : xpure p l K) : Yields1 P (execOp (act l).eval o) K := by
  obtain ⟨dst, op, type, pos, after, guard⟩ := o
  cases op
  case move x =>
    simp only [cOp] at hc; injection hc with hc; subst hc
    exact ⟨_, fun w => by simp only [execOp, ev_eq]; rfl, forceV_ok h⟩
  case assign x =>
    simp only [cOp] at hc; injection hc with hc; subst hc
    exact ⟨_, fun w => by simp only [execOp, ev_eq]; rfl, forceV_ok h⟩
  case pick c a b =>
    simp only [cOp] at hc; injection hc with hc; subst hc
    simp only [xpure] at h
    split at h
    · rename_i t ht
      obtain ⟨h1, h2⟩ := h
      cases t
      · exact ⟨_, fun w => by simp only [execOp, ev_eq, ht, asBool]; rfl, forceV_ok (h2 rfl)⟩
      · exact ⟨_, fun w => by simp only [execOp, ev_eq, ht, asBool]; rfl, forceV_ok (h1 rfl)⟩
    · exact h.elim
  case build t parts =>
    simp only [cOp] at hc
    have goal : ∀ {z : Value} {ps}, zeroOf P t = some z → ∀ (place : Nat → Option (Nat × Nat)), partsAt place parts.toList = some ps → ((∃ fs : Array Field, ∃ pl, P.underlying t = some (.struct fs) ∧ placesOf P fs.toList = some pl ∧ place = (pl[·]?)) ∨ (∃ n e i, P.underlying t = some (.array n e) ∧ P.info? e = some i ∧ place = fun j => some (j * i.size, i.size))) →
        p = .build z.cells.toList ps → Yields1 P (execOp (act l).eval ⟨dst, .build t parts, type, pos, after, guard⟩) K := by
      intro z ps hz place hp hu e
      subst e
      have := (y_build (P := P) (l := l) (K := K) (t := t) hz place hp hu h).up
      simpa only [execOp, ev_eq] using this
    split at hc
    · rename_i z fs hz hu
      split at hc
      · rename_i pl hpl
        split at hc
        · rename_i ps hps
          injection hc with hc
          exact goal hz _ hps (.inl ⟨fs, pl, hu, hpl, rfl⟩) hc.symm
        · cases hc
      · cases hc
    · rename_i z n e hz hu
      split at hc
      · rename_i i hi
        split at hc
        · rename_i ps hps
          injection hc with hc
          exact goal hz _ hps (.inr ⟨n, e, i, hu, hi, rfl⟩) hc.symm
        · cases hc
      · cases hc
    · cases hc
  case nilCheck x =>
    simp only [cOp] at hc; injection hc with hc; subst hc
    simp only [xpure] at h
    split at h
    · rename_i a hx; exact ⟨_, fun w => by simp only [execOp, ev_eq, hx]; rfl, h⟩
    · rename_i f a b hx; exact ⟨_, fun w => by simp only [execOp, ev_eq, hx]; rfl, h⟩
    · rename_i t v hx; exact ⟨_, fun w => by simp only [execOp, ev_eq, hx]; rfl, h⟩
    · exact h.elim
  case binOp op t x y yt =>
    simp only [cOp] at hc
    have := (cBin_ok hc h).up
    simpa only [execOp, ev_eq] using this
  case unOp op t x =>
    simp only [cOp] at hc
    split at hc
    · injection hc with hc; subst hc
      simp only [xpure] at h
      split at h
      · rename_i b hx; exact ⟨_, fun w => by simp only [execOp, ev_eq, hx, Op.unary]; rfl, h⟩
      · exact h.elim
    · injection hc with hc; subst hc
      simp only [xpure] at h
      split at h
      · rename_i k n hx
        obtain ⟨m, rfl, hK⟩ := h
        exact ⟨_, fun w => by simp only [execOp, ev_eq, hx, Op.unary, Op.intArith]; rfl, hK⟩
      · exact h.elim
    · injection hc with hc; subst hc
      simp only [xpure] at h
      split at h
      · rename_i k n hx
        obtain ⟨m, rfl, hK⟩ := h
        refine ⟨_, fun w => ?_, hK⟩
        simp only [execOp, ev_eq, hx, Op.unary, Op.intBits, bitXor, Sem.run_bind, Sem.run_pure, Result.andThen_ok]
        cases k.signed <;> rfl
      · exact h.elim
    · cases hc
  case convert s d x =>
    simp only [cOp] at hc
    split at hc
    · rename_i k k' hs hd
      injection hc with hc; subst hc
      simp only [xpure] at h
      split at h
      · rename_i k2 n hx
        obtain ⟨m, rfl, hK⟩ := h
        refine ⟨_, fun w => ?_, hK⟩
        simp only [execOp, ev_eq, hx, convert, Sem.run_bind, run_underlying hs, run_underlying hd, Result.andThen_ok, Conv.intToInt, Sem.run_pure]
      · exact h.elim
    · cases hc
  case makeInterface t x =>
    simp only [cOp] at hc
    split at hc
    · cases hc
    · rename_i d hne hu
      injection hc with hc; subst hc
      refine ⟨_, fun w => ?_, forceV_ok (K := fun v => K (.iface t v)) h⟩
      simp only [execOp, ev_eq, Instr.makeInterface, Sem.run_bind, run_underlying hu, Result.andThen_ok]
      cases d <;> first | rfl | exact absurd rfl (hne _)
    · cases hc
  case makeFunc fn a b =>
    simp only [cOp] at hc; injection hc with hc; subst hc
    have := evsK_ok l (evsK_ok l h)
    refine ⟨_, fun w => ?_, this⟩
    simp only [execOp, Instr.makeFunc, map_ev]; rfl
  case fieldAddr s x f =>
    simp only [cOp] at hc
    split at hc
    · rename_i fs hu
      split at hc
      · rename_i fl hf
        split at hc
        · rename_i i hi
          split at hc
          · rename_i hz
            injection hc with hc; subst hc
            have := (y_fieldAddr (P := P) hu hf hi hz h).up
            simpa only [execOp, ev_eq] using this
          · cases hc
        · cases hc
      · cases hc
    · cases hc
  case field s x f =>
    simp only [cOp] at hc
    split at hc
    · rename_i fs hu
      split at hc
      · rename_i fl hf
        split at hc
        · rename_i n ha
          injection hc with hc; subst hc
          have := (y_field (P := P) (x := ev l x) hu hf ha h).up
          simpa only [execOp, ev_eq] using this
        · rename_i n ha
          injection hc with hc; subst hc
          have := (y_field (P := P) (x := ev l x) hu hf ha h).up
          simpa only [execOp, ev_eq] using this
        · cases hc
      · cases hc
    · cases hc
  case indexAddr t x i =>
    simp only [cOp] at hc
    split at hc
    · rename_i n e hu
      split at hc
      · rename_i inf hi
        injection hc with hc; subst hc
        have := (y_idxArr (P := P) (x := ev l x) (ix := ev l i) hu hi h).up
        simpa only [execOp, ev_eq] using this
      · cases hc
    · rename_i e hu
      split at hc
      · rename_i inf hi
        injection hc with hc; subst hc
        have := (y_idxSl (P := P) (x := ev l x) (ix := ev l i) hu hi h).up
        simpa only [execOp, ev_eq] using this
      · cases hc
    · cases hc
  case index t x i =>
    simp only [cOp] at hc
    split at hc
    · rename_i n e hu
      split at hc
      · rename_i b s ha
        injection hc with hc; subst hc
        have := (y_index (P := P) (x := ev l x) (ix := ev l i) (l := l) hu ha (by simpa only [xpure, ev] using h)).up
        simpa only [execOp, ev_eq] using this
      · cases hc
    · rename_i hu
      injection hc with hc; subst hc
      have := (y_idxStr (P := P) (x := ev l x) (ix := ev l i) hu h).up
      simpa only [execOp, ev_eq] using this
    · cases hc
  case extract x i =>
    simp only [cOp] at hc; injection hc with hc; subst hc
    simp only [xpure] at h
    split at h
    · rename_i vs hx
      obtain ⟨v, hv, hK⟩ := cellK_ok h
      refine ⟨v, fun w => ?_, hK⟩
      simp only [execOp, ev_eq, hx, Instr.extract, List.getElem?_toArray, hv]
      rfl
    · exact h.elim
  case slice t x lo hi mx =>
    cases mx with
    | some mx => simp [cOp] at hc
    | none =>
      simp only [cOp] at hc
      split at hc
      · rename_i hu
        injection hc with hc; subst hc
        have := (y_sliceStr (P := P) (x := ev l x) hu h).up
        obtain ⟨v, h1, h2⟩ := this
        refine ⟨v, fun w => ?_, h2⟩
        have h1 := h1 w
        simp only [execOp, ev_eq, ev_map, Option.map_none, Instr.sliceAt, Sem.run_bind, run_underlying hu, Result.andThen_ok] at h1 ⊢
        exact h1
      · rename_i e hu
        split at hc
        · rename_i inf hi'
          injection hc with hc; subst hc
          have := (y_sliceSl (P := P) (x := ev l x) hu hi' (by simpa only [xpure, ev] using h)).up
          obtain ⟨v, h1, h2⟩ := this
          refine ⟨v, fun w => ?_, h2⟩
          have h1 := h1 w
          simp only [execOp, ev_eq, ev_map, Option.map_none, Instr.sliceAt, Sem.run_bind, run_underlying hu, Result.andThen_ok] at h1 ⊢
          exact h1
        · cases hc
      · cases hc
  case typeAssert x xt t ok =>
    simp only [cOp] at hc
    split at hc
    · cases hc
    · rename_i d z hu hz hne
      injection hc with hc; subst hc
      simp only [xpure] at h
      have hrun : ∀ (w : World), (execOp (act l).eval ⟨dst, .typeAssert x xt t ok, type, pos, after, guard⟩).run P w = ((Instr.typeAssert (ev l x) xt t ok).run P w).andThen fun v w => .ok (.value v) w := fun w => by
        simp only [execOp, ev_eq]
        rw [Sem.run_bind]; rfl
      split at h
      · rename_i t' v hx
        split at h
        · rename_i hb
          have ht : t' = t := Nat.eq_of_beq_eq_true hb
          refine ⟨_, fun w => ?_, forceV_ok (K := fun v => K (.tuple ⟨[v, .bool true]⟩)) h⟩
          rw [hrun, hx]
          simp only [Instr.typeAssert, Sem.run_bind, run_underlying hz, Result.andThen_ok]
          cases d <;> first | (exact absurd rfl (hu _)) | (simp only [Sem.run_ite, if_pos ht]; rfl)
        · rename_i hb
          have ht : t' = t := Nat.eq_of_beq_eq_true hb
          refine ⟨_, fun w => ?_, forceV_ok h⟩
          rw [hrun, hx]
          simp only [Instr.typeAssert, Sem.run_bind, run_underlying hz, Result.andThen_ok]
          cases d <;> first | (exact absurd rfl (hu _)) | (simp only [Sem.run_ite, if_pos ht]; rfl)
        · rename_i hb
          have ht : t' ≠ t := Nat.ne_of_beq_eq_false hb
          refine ⟨_, fun w => ?_, h⟩
          rw [hrun, hx]
          simp only [Instr.typeAssert, Sem.run_bind, run_underlying hz, Result.andThen_ok]
          cases d <;> first | (exact absurd rfl (hu _)) | (simp [if_neg ht, zeroOf_spec hne])
        · exact h.elim
      · rename_i hx
        split at h
        · refine ⟨_, fun w => ?_, h⟩
          rw [hrun, hx]
          simp only [Instr.typeAssert, Sem.run_bind, run_underlying hz, Result.andThen_ok]
          cases d <;> first | (exact absurd rfl (hu _)) | (simp [zeroOf_spec hne])
        · exact h.elim
      · exact h.elim
    · cases hc
  case call c =>
    simp only [cOp] at hc
    exact cOp_pure_call hc rfl h
  all_goals (simp only [cOp] at hc; (repeat' (split at hc)) <;> cases hc)
end
end Go.Proofs.Ytkegkhhfbfegoaa.Sx
