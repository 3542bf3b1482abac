/- Sy, part A: an array's end as a slice; a part of a row is cleared. -/
import Derived.Test.YtiaginlnapiijaaGreatDoorBSx1
import Derived.Test.YtiaginlnapiijaaGreatDoorBSx
import Derived.Test.YtiaginlnapiijaaGreatDoorBX
import Derived.Recover

set_option linter.unusedVariables false
set_option linter.unusedSectionVars false
set_option linter.unusedSimpArgs false
namespace Go.Proofs.YtiaginlnapiijaaGreatDoor.Sx
open Go.RowKit
section
variable [Dies] {P : Program} {o : Oper} {t e : TypeId} {xx xl xh : Operand} {H : Heap} {K : Value → Heap → Prop} {r o1 n k h : Nat} {i : TypeInfo}
theorem RawV.sliceArrEnd (ho : o.op = .slice t xx (some xl) none none) (ht : P.underlying t = some (.array n e)) (he : ((P.info? e).map fun j => Nat.beq j.size 1) = some true)
    (hK : K (.slice (some ⟨r, o1, none⟩) 0 0) H) : RawV P o [.pointer (some ⟨r, o1, none⟩), .int .i64 (n : Int)] H K := by
  refine ⟨fun ρ w hmm hw => .inl ?_⟩
  rw [ho] at hmm
  have hmm : [ρ xx, ρ xl] = [.pointer (some ⟨r, o1, none⟩), .int .i64 (n : Int)] := hmm
  injection hmm with e1 hmm
  injection hmm with e2 hmm
  have hex : execOp ρ o = (Instr.sliceAt t (.pointer (some ⟨r, o1, none⟩)) (some (.int .i64 (n : Int))) none none >>= fun v => pure (.value v)) := by simp only [execOp, ho, e1, e2, Option.map]
  obtain ⟨j, hj, hj1⟩ := Option.map_eq_some_iff.1 he
  have hj1 : j.size = 1 := Nat.eq_of_beq_eq_true hj1
  have hr : (Instr.sliceAt t (.pointer (some ⟨r, o1, none⟩)) (some (.int .i64 (n : Int))) none none).run P w = .ok (.slice (some ⟨r, o1, none⟩) 0 0) w := by
    simp [Instr.sliceAt, run_underlying ht, Instr.sureAddr, Instr.sliceBounds, run_sliceBound, sizeOf, typeInfo, hj, hj1, addr_add]
  exact ⟨_, _, _, .inl (by rw [hex, Sem.run_bind, hr]; rfl), hw, Step.refl _ _, hK⟩
/-- Elements of one cell each, anywhere in a row, are cleared. -/
theorem RawV.clearRow {T : TypeId} {x : Operand} {A B : Heap} {c o' bytes : Nat} {cs : List Value} {zv : Value} (ho : o.op = .call { callee := .builtin .clear, args := #[x], argTypes := #[t] })
    (ht : tyOk P t e 1 bytes = true) (hz : (P.info? e).bind (·.zero) = some zv) (hc : zv.cells = #[zv]) (h1 : zv.oneCell' = true) (hl : o' + n ≤ cs.length)
    (h : K (.tuple ⟨[]⟩) (A ++ (r, .row T (cs.take o' ++ List.replicate n zv ++ cs.drop (o' + n)) (0, 0)) :: B)) :
    RawV P o [.slice (some ⟨r, o', none⟩) n c] (A ++ (r, .row T cs (0, 0)) :: B) K := by
  obtain ⟨h3, i, z, h4, h5, h6, h7, rfl⟩ := tyOk_spec ht
  rw [h4] at hz
  have hzz : z = zv := by
    have : i.zero = some zv := hz
    rw [h5] at this
    injection this
  subst hzz
  refine ⟨fun ρ w hm hw => .inl ?_⟩
  have hm' : [ρ x] = [.slice (some ⟨r, o', none⟩) n c] := by
    rw [ho] at hm
    exact hm
  have e1 : ρ x = .slice (some ⟨r, o', none⟩) n c := by injection hm'
  have hex : execOp ρ o = (Builtin.clear_ #[t] o.type #[.slice (some ⟨r, o', none⟩) n c] >>= fun v => pure (.value v)) := by
    simp only [execOp, ho, resolve, invoke, builtin, List.map_toArray, List.map_cons, List.map_nil, e1]
    rfl
  rw [hex]
  rcases Nat.eq_zero_or_pos n with rfl | hn
  · have hr : (Builtin.clear_ #[t] o.type #[.slice (some ⟨r, o', none⟩) 0 c]).run P w = .ok (.tuple #[]) w := by
      simp [Builtin.clear_, run_underlying h3]
    simp only [Nat.add_zero, List.replicate_zero, List.append_nil, List.take_append_drop] at h
    exact ⟨_, w, _, .inl (by rw [Sem.run_bind, hr]; rfl), hw, Step.refl _ _, h⟩
  · have hg : w.heap[r]? = some (.cells cs.toArray T (0, 0)) := hw.mid
    have hzc : Builtin.zeroCells z.cells n = (List.replicate n z).toArray := by
      have h0 : Builtin.zeroCells z.cells n = (zerosOf z.cells.toList (n * z.cells.size)).toArray := zerosOf_spec z.cells (n * z.cells.size) (fun _ => by rw [h6, h7]; omega)
      rw [h0, hc]
      congr 1
      refine List.eq_replicate_iff.2 ⟨by simp [zerosOf], fun u hu => ?_⟩
      simp only [zerosOf, List.mem_map] at hu
      obtain ⟨j, _, rfl⟩ := hu
      show ([z].getD (j % 1) undef) = z
      rw [Nat.mod_one]; rfl
    have hst := run_storeCells_fz P r o' T (0, 0) (List.replicate n z) 0 _ w hg (by simp; omega) (.inl rfl) (fun u hu => by rw [List.eq_of_mem_replicate hu]; exact h1)
    have hr : (Builtin.clear_ #[t] o.type #[.slice (some ⟨r, o', none⟩) n c]).run P w = .ok (.tuple #[]) (w.setRow r (cs.toArray.toList.take (o' + 0) ++ List.replicate n z ++ cs.toArray.toList.drop (o' + 0 + (List.replicate n z).length)).toArray) := by
      have hn0 : n ≠ 0 := by omega
      obtain ⟨m, rfl⟩ : ∃ m, n = m + 1 := ⟨n - 1, by omega⟩
      simp only [Builtin.clear_]
      simp [run_underlying h3, zeroValue, typeInfo, h4, h5, hzc, hst]
    have hcur : cs.toArray.toList.take (o' + 0) ++ List.replicate n z ++ cs.toArray.toList.drop (o' + 0 + (List.replicate n z).length) = cs.take o' ++ List.replicate n z ++ cs.drop (o' + n) := by simp
    rw [hcur] at hr
    have hput := hw.put (w' := w.setRow r (cs.take o' ++ List.replicate n z ++ cs.drop (o' + n)).toArray) (b' := .row T (cs.take o' ++ List.replicate n z ++ cs.drop (o' + n)) (0, 0)) rfl rfl (by simp) rfl rfl rfl (fun k hk => setRow_other w r k _ hk)
      (setRow_heap w r _ _ T (0, 0) hg)
    exact ⟨_, _, _, .inl (by rw [Sem.run_bind, hr]; rfl), hput.1, hput.2, h⟩
end
end Go.Proofs.YtiaginlnapiijaaGreatDoor.Sx


/- Sy, part B: what gives up, and where it is caught: a contract holds wherever more may be given up with; 'panic'; a deferred text that begins with 'recover'. -/
set_option linter.unusedVariables false
set_option linter.unusedSectionVars false
set_option linter.unusedSimpArgs false
namespace Go.Proofs.YtiaginlnapiijaaGreatDoor.Sx
open Go.RowKit
/-- A contract holds wherever more may be given up with. -/
theorem SCalls.lift {δ δ' : Dies} (hd : ∀ ch, δ.D ch → δ'.D ch) {P : Program} {f : FuncId} {args : List Value} {H : Heap} {K : Value → Heap → Prop} (h : @SCalls δ P f args H K) : @SCalls δ' P f args H K :=
  @SCalls.mk δ' P f args H K (@SCalls.enter δ P f args H K h) fun w hw => (@SCalls.run δ P f args H K h w hw).mono fun e w' he => by
    rcases he with he | ⟨ch, H', e1, g1, g2, g3⟩
    · exact .inl he
    · exact .inr ⟨ch, H', e1, g1, g2, hd _ g3⟩
theorem SCalls.calm [δ : Dies] {P : Program} {f : FuncId} {args : List Value} {H : Heap} {K : Value → Heap → Prop} (h : @SCalls noDies P f args H K) : SCalls P f args H K := SCalls.lift (δ := noDies) (fun _ h => h.elim) h
section
variable [Dies] {P : Program} {o : Oper} {xx : Operand} {H : Heap} {K : Value → Heap → Prop} {T : TypeId} {v : Value}
theorem RawV.panic (ho : o.op = .panic xx) (hd : Dies.D [{ v := .iface T v, recovered := false }]) : RawV P o [.iface T v] H K := by
  refine ⟨fun ρ w hm hw => .inr (.inr ⟨.iface T v, ?_, hd⟩)⟩
  rw [ho] at hm
  have hm : [ρ xx] = [.iface T v] := hm
  injection hm with e1 _
  simp only [execOp, ho, e1]
  rfl
end
section
variable [Dies] {P : Program} {ds : List Deferred} {fn : Func} {rs : List RV} {H : Heap} {K : Value → Heap → Prop}
/-- What is known at a function's end. -/
inductive EndsAt (P : Program) (fn : Func) (ds : List Deferred) (w : World) (H : Heap) (K : Value → Heap → Prop) : Exit → Act → World → Prop
  | normal {a w' v} : a.defers = ds → (results fn a.tmps).run P w' = .ok v w' → Back w H K (.returned v) w' → EndsAt P fn ds w H K .normal a w'
  | ret {a w' v} : a.defers = ds → (results fn a.tmps).run P w' = .ok v w' → Back w H K (.returned v) w' → EndsAt P fn ds w H K .ret a w'
  | panic {a w' ch} : a.defers = ds → Back w H K (.panicked ch) w' → EndsAt P fn ds w H K (.panic ch) a w'
theorem endsAt (hr : cRes P fn.results.toList = some rs) {w w' : World} {e : Exit} {a : Act} (h : After ds w H (retQ rs K) e a w') : EndsAt P fn ds w H K e a w' := by
  obtain ⟨l', H', rfl, h2, h3, h4⟩ := h
  have fin : (resK rs l' H' fun vs => oneK vs fun v => Keep H' fun H' => K v H') → ∃ v, (results fn l'.toArray).run P w' = .ok v w' ∧ Back w H K (.returned v) w' := by
    intro h4
    obtain ⟨vs, g1, g2, g3⟩ := resK_ok h2 hr h4
    have hres : (results fn l'.toArray).run P w' = .ok (if h : vs.toArray.size = 1 then vs.toArray[0] else .tuple vs.toArray) w' := by
      unfold results
      rw [Array.mapM_eq_mapM_toList]
      simp only [Sem.run_bind, Sem.run_map]
      erw [g1]
      simp only [Result.andThen_ok, Sem.run_pure]
    refine ⟨_, hres, ?_⟩
    have g4 : Keep H' fun H' => K (if h : vs.toArray.size = 1 then vs.toArray[0] else .tuple vs.toArray) H' := by
      match vs, g3 with
      | [v], g3 => exact g3
      | [], g3 => exact g3
      | a :: b :: r, g3 => simpa [oneK] using g3
    obtain ⟨H'', k1, k2, k3⟩ := g4.ok h2 h3
    exact .ret k1 k2 k3
  cases e with
  | normal =>
    obtain ⟨v, k1, k2⟩ := fin h4
    exact .normal rfl k1 k2
  | ret =>
    obtain ⟨v, k1, k2⟩ := fin h4
    exact .ret rfl k1 k2
  | panic ch => exact .panic rfl (.inr ⟨ch, H', rfl, h2, h3, h4⟩)
  | exit id => exact h4.elim
  | goto id => exact h4.elim
  | outgrown => exact h4.elim
end
section
variable {P : Program} {ops : Array Oper}
theorem upon_mono {o : Oper} {a : Act} {next next' : Act → World → Prop} {Q : Exit → Act → World → Prop} {r : Result Next} (h : o.upon P a next Q r) (hn : ∀ a w, next a w → next' a w) : o.upon P a next' Q r := by
  unfold Oper.upon at h ⊢
  split at h
  · exact hn _ _ h
  · exact hn _ _ h
  · exact hn _ _ h
  · refine h.mono fun e w' he => ?_
    cases e with
    | returned v => exact hn _ _ he
    | panicked ch => exact he
    | outgrown => exact he
  · exact h.mono fun v w' he => hn _ _ he
  · exact h
  · exact h.elim
theorem wpOpsS_of {Q : Exit → Act → List Frame → World → Prop} {cs : List Frame} (hno : ¬ LetsOut fun e a w => Q e a cs w) : ∀ (l : List Nat) (a : Act) (w : World), wpOps P ops (fun e a w => Q e a cs w) l a w → wpOpsS P ops Q l a cs w
  | [], a, w, h => h
  | i :: rest, a, w, h => by
    simp only [wpOps] at h
    simp only [wpOpsS]
    cases ho : ops[i]? with
    | none => simp only [ho] at h ⊢; exact wpOpsS_of hno rest a w h
    | some o =>
      simp only [ho] at h ⊢
      split at h
      · rename_i hw
        rw [if_pos hw]
        rcases h with h | ⟨_, h⟩
        · unfold Oper.wp at h
          generalize (execOp a.eval o).run P w = r at h ⊢
          split
          · exact h.elim
          · exact upon_mono h fun a w h => wpOpsS_of hno rest a w h
        · exact (hno h).elim
      · rename_i hw
        rw [if_neg hw]
        exact wpOpsS_of hno rest _ w h
/-- What a deferred text catches: nothing, or what was given up with. -/
inductive Caught : FrameMode → Value → FrameMode → Prop
  | calm : Caught .returning .nilIface .returning
  | gave (v : Value) : Caught (.panicking [{ v := v, recovered := false }]) v (.panicking [{ v := v, recovered := true }])
theorem Caught.run {u u' : FrameMode} {rv : Value} (h : Caught u rv u') : u ≠ .run := by cases h <;> exact fun h => nomatch h
end
/-- A deferred call whose text begins with 'recover'. -/
theorem callsD_recover [Dies] {P : Program} {f : FuncId} {fn : Func} {id : Nat} {ops : Array Oper} {rest : Code} {x0 : XO} {xs : List XO} {o0 : Oper} {ts : Array TypeId} {rs : List RV} {args : List Value} {H : Heap} {K : Value → Heap → Prop} {u u' : FrameMode} {rv : Value}
    (hf : P.funcs[f]? = some fn) (hb : fn.body = some (.seq (.region id ops false) rest)) (ho : ops[0]? = some o0) (ho0 : o0.op = .call { callee := .builtin .recover, args := #[], argTypes := ts }) (hg : o0.guard = none)
    (hxs : cOpers P ops ops.toList = some (x0 :: xs)) (hr : cRes P fn.results.toList = some rs) (hc : Caught u rv u')
    (h : dstK o0.dst (args ++ List.replicate (fn.ntmps - args.length) undef) rv fun l => xops P xs l H fun l H => xc P (compile P rest) (retQ rs K) l H) (w : World) (hw : Holds w H) :
    CallsD P f args.toArray u w fun e u2 w' => u2 = u' ∧ Back w H K e w' := by
  refine callsD_of_wpS hf hb fun c₀ cs hu => ?_
  have e : (actD [] (args ++ List.replicate (fn.ntmps - args.length) undef)) = { tmps := args.toArray ++ Array.replicate (fn.ntmps - args.toArray.size) undef, defers := [] } := by
    simp [actD]
  rw [← e]
  obtain ⟨l', hl', h⟩ := dstK_ok (ds := []) h
  have hsz : ops.size = xs.length + 1 := by
    have := cOpers_length hxs
    simpa using this.symm
  have hex : (execOp (actD [] (args ++ List.replicate (fn.ntmps - args.length) undef)).eval o0).run P w = .ok .recover w := by
    simp [execOp, ho0, resolve, invoke, builtin]
  have hno : ¬ LetsOut fun e a w' => Exit.thenS (rest.wpS P (bodyPostS P fn c₀ cs fun e u2 w' => u2 = u' ∧ Back w H K e w')) (bodyPostS P fn c₀ cs fun e u2 w' => u2 = u' ∧ Back w H K e w') e a ({ c₀ with mode := u' } :: cs) w' := by
    rintro ⟨a, w', u2, _, ⟨v, H', e1, _⟩ | ⟨ch, H', e1, _⟩⟩ <;> cases e1
  have go : wpOpsS P ops (Exit.thenS (rest.wpS P (bodyPostS P fn c₀ cs fun e u2 w' => u2 = u' ∧ Back w H K e w')) (bodyPostS P fn c₀ cs fun e u2 w' => u2 = u' ∧ Back w H K e w')) (List.range' 1 xs.length)
      ((actD [] (args ++ List.replicate (fn.ntmps - args.length) undef)).put o0.dst rv) ({ c₀ with mode := u' } :: cs) w := by
    rw [hl']
    refine wpOpsS_of hno _ _ _ (xops_ok (P := P) (ops := ops) (K := fun l H => xc P (compile P rest) (retQ rs K) l H) (w0 := w) (H0 := H) ?_ ?_ xs 1 l' H w (by omega) (fun i x hi => ?_) h hw (Step.refl _ _))
    · rintro a w1 ⟨l1, H1, rfl, g1, g2, g3⟩
      refine wpS_of_wp (wp_mono (xc_ok (ds := []) rest _ l1 H1 (fun ch l H g => g) g3 w1 g1) ?_)
      intro e a w' h
      rcases endsAt hr (h.trans g2) with ⟨q1, q2, q3⟩ | ⟨q1, q2, q3⟩ | ⟨q1, q3⟩
      · exact ⟨q1, u', rfl, _, q2, rfl, q3⟩
      · exact ⟨q1, u', rfl, _, q2, rfl, q3⟩
      · exact ⟨q1, u', rfl, rfl, q3⟩
    · intro ch l1 H1 w1 g1 g2 g3
      exact ⟨rfl, u', rfl, rfl, .inr ⟨ch, H1, rfl, g2, g3, g1⟩⟩
    · have hlt : i < xs.length := (List.getElem?_eq_some_iff.1 hi).1
      obtain ⟨x', h1, h2⟩ := cOpers_get hxs (i + 1) (ops.toList[i + 1]'(by simp; omega)) (List.getElem?_eq_getElem _)
      have h1 : xs[i]? = some x' := by simpa using h1
      rw [hi] at h1
      injection h1 with h1
      subst h1
      exact ⟨_, by rw [Nat.add_comm]; simp, h2⟩
  refine wpS_seq (wpS_region ?_)
  rw [hsz, List.range_eq_range', List.range'_succ]
  simp only [wpOpsS, ho]
  rw [if_pos (by simp [Region.wanted, hg]), hex]
  simp only
  cases hc with
  | calm =>
    have e1 : recoverD (c₀ :: cs) = none := by simp [recoverD, hu]
    rw [e1]
    have e2 : ({ c₀ with mode := .returning } : Frame) = c₀ := by rw [← hu]
    rw [e2] at go
    exact go
  | gave v =>
    have e1 : recoverD (c₀ :: cs) = some (rv, { c₀ with mode := .panicking [{ v := rv, recovered := true }] } :: cs) := by simp [recoverD, hu]
    rw [e1]
    exact go
section
variable [Dies] {ds : List Deferred} {P : Program} {ops : Array Oper} {l : List Value} {H : Heap} {w : World}
/-- Operations in the text's order, from number k on, ahead of others. -/
theorem xops_pre {w0 : World} {H0 : Heap} {K : List Value → Heap → Prop} {Qx : Exit → Act → World → Prop} {rest : List Nat} (hq : ∀ a w, Next1 ds w0 H0 K a w → wpOps P ops Qx rest a w) (hd : DeadOk ds w0 H0 Qx) :
    ∀ (xs : List XO) (k : Nat) (l : List Value) (H : Heap) (w : World), (∀ i x, xs[i]? = some x → ∃ o, ops[k + i]? = some o ∧ cOper P ops o = some x) →
      xops P xs l H K → Holds w H → Step w0 H0 w H → wpOps P ops Qx (List.range' k xs.length ++ rest) (actD ds l) w
  | [], k, l, H, w, hx, h, hw, hs => hq _ _ ⟨l, H, rfl, hw, hs, h⟩
  | x :: xs, k, l, H, w, hx, h, hw, hs => by
    obtain ⟨o, ho, hox⟩ := hx 0 x rfl
    simp only [List.length_cons, List.range'_succ, List.cons_append]
    rw [wpOps_cons]
    refine wpOp_mono ?_ (xo_ok (by simpa using ho) hox h hw Qx (hd.step hs))
    rintro a w' ⟨l', H', rfl, h1, h2, h3⟩
    refine xops_pre hq hd xs (k + 1) l' H' w' ?_ h3 h1 (hs.trans h2)
    intro i x' hi
    have := hx (i + 1) x' (by simpa using hi)
    rwa [show k + (i + 1) = k + 1 + i by omega] at this
/-- An operation that puts a call off. -/
theorem wp_putOff {o : Oper} {k : Nat} {rest : List Nat} {d : Deferred} {Qx : Exit → Act → World → Prop} (ho : ops[k]? = some o) (hg : o.guard = none) (hr : (execOp (act l).eval o).run P w = .ok (.defer d) w)
    (h : ∃ l', (actD (d :: ds) l).put o.dst undef = actD (d :: ds) l' ∧ wpOps P ops Qx rest (actD (d :: ds) l') w) : wpOps P ops Qx (k :: rest) (actD ds l) w := by
  obtain ⟨l', e, h⟩ := h
  simp only [wpOps, ho]
  rw [if_pos (by simp [Region.wanted, hg])]
  refine .inl ?_
  unfold Oper.wp
  have hr : (execOp (actD ds l).eval o).run P w = .ok (.defer d) w := hr
  rw [hr]
  have e : ({ actD ds l with defers := d :: (actD ds l).defers }).put o.dst undef = actD (d :: ds) l' := e
  show wpOps P ops Qx rest _ w
  rw [e]
  exact h
/-- An operation that calls what may give up: what is known beside it stays. -/
theorem wp_mayDie {o : Oper} {k : Nat} {rest : List Nat} {f : FuncId} {args : List Value} {R : Heap} {K : Value → Heap → Prop} {Qx : Exit → Act → World → Prop} (ho : ops[k]? = some o) (hg : o.guard = none)
    (hr : (execOp (act l).eval o).run P w = (callFunc f args.toArray).run P w) (hc : SCalls P f args H K) (hw : Holds w (H ++ R))
    (hret : ∀ v H' w', Holds w' (H' ++ R) → Step w (H ++ R) w' (H' ++ R) → K v H' → ∃ l', (actD ds l).put o.dst v = actD ds l' ∧ wpOps P ops Qx rest (actD ds l') w')
    (hdie : ∀ ch H' w', Holds w' (H' ++ R) → Step w (H ++ R) w' (H' ++ R) → Dies.D ch → Qx (.panic ch) (actD ds l) w') : wpOps P ops Qx (k :: rest) (actD ds l) w := by
  simp only [wpOps, ho]
  rw [if_pos (by simp [Region.wanted, hg])]
  refine .inl ?_
  unfold Oper.wp
  have hr : (execOp (actD ds l).eval o).run P w = (callFunc f args.toArray).run P w := hr
  rw [hr, hc.enter]
  refine (hc.run w (hw.sub (List.sublist_append_left _ _))).mono fun e w' he => ?_
  rcases he with ⟨v, H', rfl, h1, h2, h3⟩ | ⟨ch, H', rfl, h1, h2, h3⟩
  · obtain ⟨g1, g2⟩ := hw.frame h2 h1
    obtain ⟨l', e, h⟩ := hret v H' w' g1 g2 h3
    show wpOps P ops Qx rest _ w'
    rw [e]
    exact h
  · obtain ⟨g1, g2⟩ := hw.frame h2 h1
    exact hdie ch H' w' g1 g2 h3
end
end Go.Proofs.YtiaginlnapiijaaGreatDoor.Sx


/- Heaps in lists: what the steps of container/heap keep. Plain law, with no program in sight. -/
set_option linter.unusedVariables false
set_option linter.unusedSimpArgs false
namespace Go.Proofs.YtiaginlnapiijaaGreatDoor.Hp
/-- A strict order of what may be alike. -/
structure Ord {α : Type} (lt : α → α → Bool) : Prop where
  asym : ∀ a b, lt a b = true → lt b a = false
  nt : ∀ a b c, lt b a = false → lt c b = false → lt c a = false
variable {α : Type} {lt : α → α → Bool} {l : List α} {n i j : Nat}
/-- The first n are a heap; but for what stands at j (toward its parent); but for what stands at i (either way). -/
def HeapN (lt : α → α → Bool) (l : List α) (n : Nat) : Prop := ∀ k x y, 0 < k → k < n → l[k]? = some x → l[(k - 1) / 2]? = some y → lt x y = false
structure UpI (lt : α → α → Bool) (l : List α) (j n : Nat) : Prop where
  one : ∀ k x y, 0 < k → k < n → k ≠ j → l[k]? = some x → l[(k - 1) / 2]? = some y → lt x y = false
  two : ∀ k x y, 0 < k → k < n → (k - 1) / 2 = j → 0 < j → l[k]? = some x → l[(j - 1) / 2]? = some y → lt x y = false
structure BothI (lt : α → α → Bool) (l : List α) (i n : Nat) : Prop where
  one : ∀ k x y, 0 < k → k < n → k ≠ i → (k - 1) / 2 ≠ i → l[k]? = some x → l[(k - 1) / 2]? = some y → lt x y = false
  two : ∀ k x y, 0 < k → k < n → (k - 1) / 2 = i → 0 < i → l[k]? = some x → l[(i - 1) / 2]? = some y → lt x y = false
structure DownI (lt : α → α → Bool) (l : List α) (i n : Nat) : Prop where
  one : ∀ k x y, 0 < k → k < n → (k - 1) / 2 ≠ i → l[k]? = some x → l[(k - 1) / 2]? = some y → lt x y = false
  two : ∀ k x y, 0 < k → k < n → (k - 1) / 2 = i → 0 < i → l[k]? = some x → l[(i - 1) / 2]? = some y → lt x y = false
/-- Two places are changed about. -/
def sw (l : List α) (i j : Nat) (x y : α) : List α := (l.set i x).set j y
theorem sw_at {x y : α} (hi : i < l.length) (hj : j < l.length) (k : Nat) : (sw l i j x y)[k]? = if k = j then some y else if k = i then some x else l[k]? := by
  unfold sw
  rw [List.getElem?_set, List.getElem?_set]
  by_cases h1 : j = k
  · subst h1
    rw [if_pos rfl, if_pos rfl, List.length_set, if_pos hj]
  · rw [if_neg h1, if_neg (Ne.symm h1)]
    by_cases h2 : i = k
    · subst h2
      rw [if_pos rfl, if_pos rfl, if_pos hi]
    · rw [if_neg h2, if_neg (Ne.symm h2)]
theorem at_lt {x : α} {k : Nat} (h : l[k]? = some x) : k < l.length := (List.getElem?_eq_some_iff.1 h).1
theorem UpI.done (h : UpI lt l j n) (hd : j = 0 ∨ ∃ x y, l[j]? = some x ∧ l[(j - 1) / 2]? = some y ∧ lt x y = false) : HeapN lt l n := by
  intro k x y h1 h2 h3 h4
  by_cases hk : k = j
  · subst hk
    rcases hd with hd | ⟨x', y', e1, e2, e3⟩
    · omega
    · rw [h3] at e1
      rw [h4] at e2
      injection e1 with e1
      injection e2 with e2
      rw [e1, e2]; exact e3
  · exact h.one k x y h1 h2 hk h3 h4
theorem UpI.step (O : Ord lt) {x y : α} (h : UpI lt l j n) (hj0 : 0 < j) (hjn : j < n) (hj : l[j]? = some x) (hi : l[(j - 1) / 2]? = some y) (hlt : lt x y = true) : UpI lt (sw l ((j - 1) / 2) j x y) ((j - 1) / 2) n := by
  have g := sw_at (x := x) (y := y) (at_lt hi) (at_lt hj)
  have hij : (j - 1) / 2 < j := by omega
  refine ⟨fun k a b h1 h2 h3 h4 h5 => ?_, fun k a b h1 h2 h3 h4 h5 h6 => ?_⟩
  · rw [g] at h4 h5
    by_cases hk : k = j
    · subst hk
      rw [if_pos rfl] at h4
      rw [if_neg (by omega), if_pos rfl] at h5
      injection h4 with h4
      injection h5 with h5
      subst h4 h5
      exact O.asym _ _ hlt
    · rw [if_neg hk, if_neg h3] at h4
      by_cases hp : (k - 1) / 2 = j
      · rw [if_pos hp] at h5
        injection h5 with h5
        subst h5
        exact h.two k a y h1 h2 hp hj0 h4 hi
      · rw [if_neg hp] at h5
        by_cases hp2 : (k - 1) / 2 = (j - 1) / 2
        · rw [if_pos hp2] at h5
          injection h5 with h5
          subst h5
          exact O.nt x y a (O.asym _ _ hlt) (h.one k a y h1 h2 hk h4 (by rw [hp2]; exact hi))
        · rw [if_neg hp2] at h5
          exact h.one k a b h1 h2 hk h4 h5
  · rw [g] at h5 h6
    rw [if_neg (by omega), if_neg (by omega)] at h6
    by_cases hk : k = j
    · subst hk
      rw [if_pos rfl] at h5
      injection h5 with h5
      subst h5
      exact h.one ((k - 1) / 2) y b h4 (by omega) (by omega) hi h6
    · rw [if_neg hk, if_neg (by omega)] at h5
      exact O.nt b y a (h.one ((j - 1) / 2) y b h4 (by omega) (by omega) hi h6) (h.one k a y h1 h2 hk h5 (by rw [h3]; exact hi))
theorem DownI.done (h : DownI lt l i n) (hd : ∀ k x y, 0 < k → k < n → (k - 1) / 2 = i → l[k]? = some x → l[i]? = some y → lt x y = false) : HeapN lt l n := by
  intro k x y h1 h2 h3 h4
  by_cases hk : (k - 1) / 2 = i
  · exact hd k x y h1 h2 hk h3 (by rw [← hk]; exact h4)
  · exact h.one k x y h1 h2 hk h3 h4
theorem BothI.step (O : Ord lt) {x y : α} (h : BothI lt l i n) (hji : (j - 1) / 2 = i) (hj0 : 0 < j) (hjn : j < n) (hj : l[j]? = some x) (hi : l[i]? = some y) (hlt : lt x y = true)
    (hmin : ∀ k a, 0 < k → k < n → (k - 1) / 2 = i → l[k]? = some a → lt a x = false) : DownI lt (sw l i j x y) j n := by
  have g := sw_at (x := x) (y := y) (at_lt hi) (at_lt hj)
  have hij : i < j := by omega
  refine ⟨fun k a b h1 h2 h3 h4 h5 => ?_, fun k a b h1 h2 h3 h4 h5 h6 => ?_⟩
  · rw [g] at h4 h5
    rw [if_neg h3] at h5
    by_cases hk : k = j
    · subst hk
      rw [if_pos rfl] at h4
      rw [if_pos hji] at h5
      injection h4 with h4
      injection h5 with h5
      subst h4 h5
      exact O.asym _ _ hlt
    · rw [if_neg hk] at h4
      by_cases hki : k = i
      · subst hki
        rw [if_pos rfl] at h4
        rw [if_neg (by omega)] at h5
        injection h4 with h4
        subst h4
        exact h.two j x b hj0 hjn hji h1 hj h5
      · rw [if_neg hki] at h4
        by_cases hp : (k - 1) / 2 = i
        · rw [if_pos hp] at h5
          injection h5 with h5
          subst h5
          exact hmin k a h1 h2 hp h4
        · rw [if_neg hp] at h5
          exact h.one k a b h1 h2 hki hp h4 h5
  · rw [g] at h5 h6
    rw [if_neg (by omega), if_neg (by omega)] at h5
    rw [if_neg (by omega), if_pos hji] at h6
    injection h6 with h6
    subst h6
    exact h.one k a x h1 h2 (by omega) (by omega) h5 (by rw [h3]; exact hj)
/-- The first is the least. -/
theorem HeapN.min (O : Ord lt) (h : HeapN lt l n) (hn : n ≤ l.length) {m : α} (h0 : l[0]? = some m) (hmm : lt m m = false) : ∀ (k : Nat) (x : α), k < n → l[k]? = some x → lt x m = false := by
  intro k
  induction k using Nat.strongRecOn with
  | _ k ih =>
    intro x hk hx
    rcases Nat.eq_zero_or_pos k with rfl | hk0
    · rw [h0] at hx
      injection hx with hx
      subst hx; exact hmm
    · have hp : (k - 1) / 2 < l.length := by omega
      have hy := List.getElem?_eq_getElem hp
      exact O.nt _ _ _ (ih _ (by omega) _ (by omega) hy) (h k x _ hk0 hk hx hy)
theorem HeapN.push (h : HeapN lt l l.length) (x : α) : UpI lt (l ++ [x]) l.length (l.length + 1) := by
  refine ⟨fun k a b h1 h2 h3 h4 h5 => ?_, fun k a b h1 h2 h3 h4 h5 h6 => by omega⟩
  rw [List.getElem?_append_left (by omega)] at h4 h5
  exact h k a b h1 (by omega) h4 h5
theorem HeapN.cut (h : HeapN lt l n) : HeapN lt (l.take n) n := by
  intro k x y h1 h2 h3 h4
  rw [List.getElem?_take_of_lt h2] at h3
  rw [List.getElem?_take_of_lt (by omega)] at h4
  exact h k x y h1 h2 h3 h4
/-- Texts in their order. -/
theorem bl_irr : ∀ a : List UInt8, Op.bytesLess a a = false
  | [] => rfl
  | x :: a => by
    unfold Op.bytesLess
    rw [bl_irr a]
    simp
theorem bl_tri : ∀ a b : List UInt8, Op.bytesLess a b = false → Op.bytesLess b a = false → a = b
  | [], [], _, _ => rfl
  | [], _ :: _, h, _ => by simp [Op.bytesLess] at h
  | _ :: _, [], _, h => by simp [Op.bytesLess] at h
  | x :: a, y :: b, h1, h2 => by
    unfold Op.bytesLess at h1 h2
    simp only [Bool.or_eq_false_iff, Bool.and_eq_false_iff, decide_eq_false_iff_not, beq_eq_false_iff_ne, ne_eq] at h1 h2
    have hxy : x = y := by
      have h3 := h1.1
      have h4 := h2.1
      rw [UInt8.lt_iff_toNat_lt] at h3 h4
      exact UInt8.toNat_inj.1 (by omega)
    subst hxy
    have h5 : Op.bytesLess a b = false := by rcases h1.2 with h | h; exact absurd rfl h; exact h
    have h6 : Op.bytesLess b a = false := by rcases h2.2 with h | h; exact absurd rfl h; exact h
    rw [bl_tri a b h5 h6]
theorem bl_trans : ∀ a b c : List UInt8, Op.bytesLess a b = true → Op.bytesLess b c = true → Op.bytesLess a c = true
  | _, _, [], _, h => by simp [Op.bytesLess] at h
  | _, [], _ :: _, h, _ => by simp [Op.bytesLess] at h
  | [], _ :: _, _ :: _, _, _ => rfl
  | x :: a, y :: b, z :: c, h1, h2 => by
    unfold Op.bytesLess at h1 h2 ⊢
    simp only [Bool.or_eq_true, Bool.and_eq_true, decide_eq_true_eq, beq_iff_eq] at h1 h2 ⊢
    rw [UInt8.lt_iff_toNat_lt] at h1 h2 ⊢
    rcases h1 with h1 | ⟨rfl, h1⟩
    · rcases h2 with h2 | ⟨rfl, h2⟩
      · exact .inl (by omega)
      · exact .inl h1
    · rcases h2 with h2 | ⟨rfl, h2⟩
      · exact .inl h2
      · exact .inr ⟨rfl, bl_trans a b c h1 h2⟩
theorem bl_asym {a b : List UInt8} (h : Op.bytesLess a b = true) : Op.bytesLess b a = false := by
  cases hb : Op.bytesLess b a with
  | false => rfl
  | true =>
    have := bl_trans a b a h hb
    rw [bl_irr] at this
    cases this
end Go.Proofs.YtiaginlnapiijaaGreatDoor.Hp


/- Ported (port.py) from WrA. -/
set_option linter.unusedVariables false
set_option linter.unusedSimpArgs false
set_option maxRecDepth 100000
set_option maxHeartbeats 4000000
namespace Go.Proofs.YtiaginlnapiijaaGreatDoor
open Sx
abbrev ptr (r : Nat) : Value := .pointer (some ⟨r, 0, none⟩)
/-- A byte that is a bit. -/
def isB (b : UInt8) : Bool := Nat.beq b.toNat 48 || Nat.beq b.toNat 49
/-- The set of them. -/
def asc : List Value := (List.range 256).map fun n => .bool (Nat.beq n 48 || Nat.beq n 49)
theorem asc_at (b : UInt8) : asc[b.toNat]? = some (.bool (isB b)) := by
  have := b.toNat_lt
  rw [asc, List.getElem?_map, List.getElem?_range (by omega)]; rfl
section
variable {K : Value → Heap → Prop} {H : Heap}
theorem c106 {r : Nat} {b : UInt8} {t : TypeId} {fz : Nat × Nat} (hm : (r, Blk.row t asc fz) ∈ H) (hK : K (.bool (isB b)) H) : SCalls Tryz.prog 106 [ptr r, .int .u8 (b.toNat : Int)] H K := by
  have hb : b.toNat < 256 := by have := b.toNat_lt; omega
  have hc : (Blk.row t asc fz).cell (0 + b.toNat * 1) = some (.bool (isB b)) := by
    show asc[0 + b.toNat * 1]? = _
    rw [Nat.zero_add, Nat.mul_one]; exact asc_at b
  refine enter106 ?_
  repeat' ((conv => whnf); (first | refine Look.cell hm hc ?_ | with_reducible exact Keep.all hK | refine New.mk (fun _ => ?_) | refine Look.at0 ?_ | refine Cell.row ?_ | refine Cell.buf ?_ | refine Cells.row rfl ?_ | refine Put.row rfl ?_ | refine Put.buf rfl ?_ | refine Look.at1 ?_ | refine Look.at2 ?_ | refine Look.at3 ?_ | refine Look.at4 ?_ | refine Look.at5 ?_ | refine Look.at6 ?_ | refine Look.at7 ?_ | refine Look.at8 ?_ | with_reducible refine Val.i64 (by omega) (by omega) ?_ | with_reducible refine Val.u8 (by omega) (by omega) ?_ | with_reducible refine Val.u32 (by omega) (by omega) ?_ | with_reducible refine Val.u64 (by omega) (by omega) ?_ | with_reducible refine Val.u8m ?_ | with_reducible refine Val.u32m ?_ | with_reducible refine Val.u64m ?_ | with_reducible refine Val.shr8 ?_ | with_reducible refine Val.shr16 (by decide) ?_ | with_reducible refine Val.shr24 (by decide) ?_ | with_reducible refine Val.raw ?_ | refine Branch.not ?_ | refine Branch.and ?_ | refine Branch.or ?_ | refine Branch.dt (by assumption) ?_ | refine Branch.df (by assumption) ?_ | refine Branch.dt rfl ?_ | refine Branch.dt (by omega) ?_ | refine Branch.df (by omega) ?_ | refine Branch.t rfl ?_ | refine Branch.f rfl ?_ | refine Branch.t (by assumption) ?_ | refine Branch.f (by assumption) ?_ | refine Branch.d (fun _ => ?_) (fun _ => ?_) | refine Branch.mk (fun _ => ?_) (fun _ => ?_) | refine Need.mk (by first | omega | decide | rfl) ?_ | refine Idx.nat (by omega) ?_ | refine Idx.auto (by first | omega | decide) (by first | omega | decide) ?_ | refine Cell.ro rfl ?_ | refine SDraw.all (by kernel_rfl) ?_ | refine Kept.k0 ?_ | refine Kept.k1 ?_ | refine Kept.k2 ?_ | refine Kept.k3 ?_ | refine Kept.k4 ?_))
theorem c92 (hK : K (.tuple ⟨[.agg ⟨asc⟩, .bool true]⟩) H) : SCalls Tryz.prog 92 [.string ⟨#[48, 49]⟩] H K := by
  have e : ∀ (r : Nat) (b : Blk) cs, cs = asc → Keep ((r, b) :: H) fun H' => K (.tuple ⟨[.agg ⟨cs⟩, .bool true]⟩) H' := by rintro r b _ rfl; exact Keep.d1 hK
  refine enter92 ?_
  repeat' ((conv => whnf); (first | refine SLoop.round ?_ | with_reducible refine e _ _ _ ?_ | refine New.mk (fun _ => ?_) | refine Look.at0 ?_ | refine Cell.row ?_ | refine Cell.buf ?_ | refine Cells.row rfl ?_ | refine Put.row rfl ?_ | refine Put.buf rfl ?_ | refine Look.at1 ?_ | refine Look.at2 ?_ | refine Look.at3 ?_ | refine Look.at4 ?_ | refine Look.at5 ?_ | refine Look.at6 ?_ | refine Look.at7 ?_ | refine Look.at8 ?_ | with_reducible refine Val.i64 (by omega) (by omega) ?_ | with_reducible refine Val.u8 (by omega) (by omega) ?_ | with_reducible refine Val.u32 (by omega) (by omega) ?_ | with_reducible refine Val.u64 (by omega) (by omega) ?_ | with_reducible refine Val.u8m ?_ | with_reducible refine Val.u32m ?_ | with_reducible refine Val.u64m ?_ | with_reducible refine Val.shr8 ?_ | with_reducible refine Val.shr16 (by decide) ?_ | with_reducible refine Val.shr24 (by decide) ?_ | with_reducible refine Val.raw ?_ | refine Branch.not ?_ | refine Branch.and ?_ | refine Branch.or ?_ | refine Branch.dt (by assumption) ?_ | refine Branch.df (by assumption) ?_ | refine Branch.dt rfl ?_ | refine Branch.dt (by omega) ?_ | refine Branch.df (by omega) ?_ | refine Branch.t rfl ?_ | refine Branch.f rfl ?_ | refine Branch.t (by assumption) ?_ | refine Branch.f (by assumption) ?_ | refine Branch.d (fun _ => ?_) (fun _ => ?_) | refine Branch.mk (fun _ => ?_) (fun _ => ?_) | refine Need.mk (by first | omega | decide | rfl) ?_ | refine Idx.nat (by omega) ?_ | refine Idx.auto (by first | omega | decide) (by first | omega | decide) ?_ | refine Cell.ro rfl ?_ | refine SDraw.all (by kernel_rfl) ?_ | refine Kept.k0 ?_ | refine Kept.k1 ?_ | refine Kept.k2 ?_ | refine Kept.k3 ?_ | refine Kept.k4 ?_))
  all_goals kernel_rfl
/-- What is left, right and left. -/
inductive S94 (A0 A1 : Value) : List Value → Prop
  | mk {r2 r3 r4 r5 r6 r7 r8 r9 r10 r11 r12 r13 r14 r15 r16 r17 r18 r19 r20 r21 : Value} : S94 A0 A1 [A0, A1, r2, r3, r4, r5, r6, r7, r8, r9, r10, r11, r12, r13, r14, r15, r16, r17, r18, r19, r20, r21]
def rT (l : List UInt8) (m : List UInt8) : Prop := ∃ t, l = m ++ t ∧ ∀ b ∈ t, isB b = true
def lT (l : List UInt8) (m : List UInt8) : Prop := ∃ t, l = t ++ m ∧ ∀ b ∈ t, isB b = true
theorem c94 {r : Nat} {l : List UInt8} {t : TypeId} {fz : Nat × Nat} (hm : (r, Blk.row t asc fz) ∈ H) (hl : l.length ≤ 65536) (hK : ∀ m, rT l m → (m = [] ∨ ∃ a b, m = a ++ [b] ∧ isB b = false) → K (.string (strOf m)) H) : SCalls Tryz.prog 94 [.string (strOf l), ptr r] H K := by
  refine enter94 ?_
  repeat' ((conv => whnf); (first | refine New.mk (fun _ => ?_) | refine Look.at0 ?_ | refine Cell.row ?_ | refine Cell.buf ?_ | refine Cells.row rfl ?_ | refine Put.row rfl ?_ | refine Put.buf rfl ?_ | refine Look.at1 ?_ | refine Look.at2 ?_ | refine Look.at3 ?_ | refine Look.at4 ?_ | refine Look.at5 ?_ | refine Look.at6 ?_ | refine Look.at7 ?_ | refine Look.at8 ?_ | with_reducible refine Val.i64 (by omega) (by omega) ?_ | with_reducible refine Val.u8 (by omega) (by omega) ?_ | with_reducible refine Val.u32 (by omega) (by omega) ?_ | with_reducible refine Val.u64 (by omega) (by omega) ?_ | with_reducible refine Val.u8m ?_ | with_reducible refine Val.u32m ?_ | with_reducible refine Val.u64m ?_ | with_reducible refine Val.shr8 ?_ | with_reducible refine Val.shr16 (by decide) ?_ | with_reducible refine Val.shr24 (by decide) ?_ | with_reducible refine Val.raw ?_ | refine Branch.not ?_ | refine Branch.and ?_ | refine Branch.or ?_ | refine Branch.dt (by assumption) ?_ | refine Branch.df (by assumption) ?_ | refine Branch.dt rfl ?_ | refine Branch.dt (by omega) ?_ | refine Branch.df (by omega) ?_ | refine Branch.t rfl ?_ | refine Branch.f rfl ?_ | refine Branch.t (by assumption) ?_ | refine Branch.f (by assumption) ?_ | refine Branch.d (fun _ => ?_) (fun _ => ?_) | refine Branch.mk (fun _ => ?_) (fun _ => ?_) | refine Need.mk (by first | omega | decide | rfl) ?_ | refine Idx.nat (by omega) ?_ | refine Idx.auto (by first | omega | decide) (by first | omega | decide) ?_ | refine Cell.ro rfl ?_ | refine SDraw.all (by kernel_rfl) ?_ | refine Kept.k0 ?_ | refine Kept.k1 ?_ | refine Kept.k2 ?_ | refine Kept.k3 ?_ | refine Kept.k4 ?_))
  refine SLoop.invA (fun (m : List UInt8) S H' => rT l m ∧ S94 (.string (strOf m)) (ptr r) S ∧ H' = H) (fun m => m.length) l (Keep.all ⟨⟨[], by simp, fun b hb => by cases hb⟩, .mk, rfl⟩) ?_
  rintro m S H' ⟨hT, hS, rfl⟩ R hR
  cases hS
  have hml : m.length ≤ 65536 := by
    obtain ⟨t, h1, _⟩ := hT
    have := congrArg List.length h1
    rw [List.length_append] at this; omega
  by_cases h0 : m = []
  · have hk := hK m hT (.inl h0)
    subst h0
    clear hR hK
    repeat' ((conv => whnf); (first | refine Branch.f rfl ?_ | with_reducible exact Keep.all hk | refine New.mk (fun _ => ?_) | refine Look.at0 ?_ | refine Cell.row ?_ | refine Cell.buf ?_ | refine Cells.row rfl ?_ | refine Put.row rfl ?_ | refine Put.buf rfl ?_ | refine Look.at1 ?_ | refine Look.at2 ?_ | refine Look.at3 ?_ | refine Look.at4 ?_ | refine Look.at5 ?_ | refine Look.at6 ?_ | refine Look.at7 ?_ | refine Look.at8 ?_ | with_reducible refine Val.i64 (by omega) (by omega) ?_ | with_reducible refine Val.u8 (by omega) (by omega) ?_ | with_reducible refine Val.u32 (by omega) (by omega) ?_ | with_reducible refine Val.u64 (by omega) (by omega) ?_ | with_reducible refine Val.u8m ?_ | with_reducible refine Val.u32m ?_ | with_reducible refine Val.u64m ?_ | with_reducible refine Val.shr8 ?_ | with_reducible refine Val.shr16 (by decide) ?_ | with_reducible refine Val.shr24 (by decide) ?_ | with_reducible refine Val.raw ?_ | refine Branch.not ?_ | refine Branch.and ?_ | refine Branch.or ?_ | refine Branch.dt (by assumption) ?_ | refine Branch.df (by assumption) ?_ | refine Branch.dt rfl ?_ | refine Branch.dt (by omega) ?_ | refine Branch.df (by omega) ?_ | refine Branch.t rfl ?_ | refine Branch.f rfl ?_ | refine Branch.t (by assumption) ?_ | refine Branch.f (by assumption) ?_ | refine Branch.d (fun _ => ?_) (fun _ => ?_) | refine Branch.mk (fun _ => ?_) (fun _ => ?_) | refine Need.mk (by first | omega | decide | rfl) ?_ | refine Idx.nat (by omega) ?_ | refine Idx.auto (by first | omega | decide) (by first | omega | decide) ?_ | refine Cell.ro rfl ?_ | refine SDraw.all (by kernel_rfl) ?_ | refine Kept.k0 ?_ | refine Kept.k1 ?_ | refine Kept.k2 ?_ | refine Kept.k3 ?_ | refine Kept.k4 ?_))
  · obtain ⟨a, b, rfl⟩ : ∃ a b, m = a ++ [b] := ⟨m.dropLast, m.getLast h0, (List.dropLast_concat_getLast h0).symm⟩
    rw [List.length_append, List.length_singleton] at hml
    have hsz : ((strOf (a ++ [b])).size : Int) = (a.length : Int) + 1 := by rw [strOf_size]; simp
    have hat : byteAt (strOf (a ++ [b])) a.length = (b.toNat : Int) := byteAt_of (by simp)
    have hcut : (strOf (a ++ [b])).extract 0 a.length = strOf a := by rw [strOf_cut]; simp
    have h74 := fun (K : Value → Heap → Prop) (hk : K (.bool (isB b)) H') => c106 (b := b) hm hk
    have hsz2 : (strOf (a ++ [b])).size = a.length + 1 := by rw [strOf_size]; simp
    cases hb : isB b with
    | false =>
      have hk := hK _ hT (.inr ⟨a, b, rfl, hb⟩)
      rw [hb] at h74
      clear hR hK
      repeat' ((conv => whnf); (first | refine Branch.dt (by omega) ?_ | with_reducible refine Val.to (a.length : Int) (by rw [wrap_i64 (by omega) (by omega)]; omega) ?_ | refine Idx.of a.length rfl (by omega) ?_ | with_reducible rw [hat] | with_reducible refine h74 _ ?_ | with_reducible exact Keep.all hk | refine New.mk (fun _ => ?_) | refine Look.at0 ?_ | refine Cell.row ?_ | refine Cell.buf ?_ | refine Cells.row rfl ?_ | refine Put.row rfl ?_ | refine Put.buf rfl ?_ | refine Look.at1 ?_ | refine Look.at2 ?_ | refine Look.at3 ?_ | refine Look.at4 ?_ | refine Look.at5 ?_ | refine Look.at6 ?_ | refine Look.at7 ?_ | refine Look.at8 ?_ | with_reducible refine Val.i64 (by omega) (by omega) ?_ | with_reducible refine Val.u8 (by omega) (by omega) ?_ | with_reducible refine Val.u32 (by omega) (by omega) ?_ | with_reducible refine Val.u64 (by omega) (by omega) ?_ | with_reducible refine Val.u8m ?_ | with_reducible refine Val.u32m ?_ | with_reducible refine Val.u64m ?_ | with_reducible refine Val.shr8 ?_ | with_reducible refine Val.shr16 (by decide) ?_ | with_reducible refine Val.shr24 (by decide) ?_ | with_reducible refine Val.raw ?_ | refine Branch.not ?_ | refine Branch.and ?_ | refine Branch.or ?_ | refine Branch.dt (by assumption) ?_ | refine Branch.df (by assumption) ?_ | refine Branch.dt rfl ?_ | refine Branch.dt (by omega) ?_ | refine Branch.df (by omega) ?_ | refine Branch.t rfl ?_ | refine Branch.f rfl ?_ | refine Branch.t (by assumption) ?_ | refine Branch.f (by assumption) ?_ | refine Branch.d (fun _ => ?_) (fun _ => ?_) | refine Branch.mk (fun _ => ?_) (fun _ => ?_) | refine Need.mk (by first | omega | decide | rfl) ?_ | refine Idx.nat (by omega) ?_ | refine Idx.auto (by first | omega | decide) (by first | omega | decide) ?_ | refine Cell.ro rfl ?_ | refine SDraw.all (by kernel_rfl) ?_ | refine Kept.k0 ?_ | refine Kept.k1 ?_ | refine Kept.k2 ?_ | refine Kept.k3 ?_ | refine Kept.k4 ?_))
    | true =>
      have hk := fun S (hS : S94 (.string (strOf a)) (ptr r) S) => hR a S H' (by simp) (Keep.all ⟨by
        obtain ⟨t, h1, h2⟩ := hT
        exact ⟨b :: t, by rw [h1]; simp, fun x hx => by rcases List.mem_cons.1 hx with rfl | hx; exact hb; exact h2 x hx⟩, hS, rfl⟩)
      rw [hb] at h74
      clear hR hK
      repeat' ((conv => whnf); (first | refine Branch.dt (by omega) ?_ | with_reducible refine Val.to (a.length : Int) (by rw [wrap_i64 (by omega) (by omega)]; omega) ?_ | refine Idx.of a.length rfl (by omega) ?_ | with_reducible rw [hat] | with_reducible refine h74 _ ?_ | with_reducible rw [hcut] | with_reducible refine hk _ .mk | refine New.mk (fun _ => ?_) | refine Look.at0 ?_ | refine Cell.row ?_ | refine Cell.buf ?_ | refine Cells.row rfl ?_ | refine Put.row rfl ?_ | refine Put.buf rfl ?_ | refine Look.at1 ?_ | refine Look.at2 ?_ | refine Look.at3 ?_ | refine Look.at4 ?_ | refine Look.at5 ?_ | refine Look.at6 ?_ | refine Look.at7 ?_ | refine Look.at8 ?_ | with_reducible refine Val.i64 (by omega) (by omega) ?_ | with_reducible refine Val.u8 (by omega) (by omega) ?_ | with_reducible refine Val.u32 (by omega) (by omega) ?_ | with_reducible refine Val.u64 (by omega) (by omega) ?_ | with_reducible refine Val.u8m ?_ | with_reducible refine Val.u32m ?_ | with_reducible refine Val.u64m ?_ | with_reducible refine Val.shr8 ?_ | with_reducible refine Val.shr16 (by decide) ?_ | with_reducible refine Val.shr24 (by decide) ?_ | with_reducible refine Val.raw ?_ | refine Branch.not ?_ | refine Branch.and ?_ | refine Branch.or ?_ | refine Branch.dt (by assumption) ?_ | refine Branch.df (by assumption) ?_ | refine Branch.dt rfl ?_ | refine Branch.dt (by omega) ?_ | refine Branch.df (by omega) ?_ | refine Branch.t rfl ?_ | refine Branch.f rfl ?_ | refine Branch.t (by assumption) ?_ | refine Branch.f (by assumption) ?_ | refine Branch.d (fun _ => ?_) (fun _ => ?_) | refine Branch.mk (fun _ => ?_) (fun _ => ?_) | refine Need.mk (by first | omega | decide | rfl) ?_ | refine Idx.nat (by omega) ?_ | refine Idx.auto (by first | omega | decide) (by first | omega | decide) ?_ | refine Cell.ro rfl ?_ | refine SDraw.all (by kernel_rfl) ?_ | refine Kept.k0 ?_ | refine Kept.k1 ?_ | refine Kept.k2 ?_ | refine Kept.k3 ?_ | refine Kept.k4 ?_))
end
inductive S93 (A0 A1 : Value) : List Value → Prop
  | mk {r2 r3 r4 r5 r6 r7 r8 r9 r10 r11 r12 r13 r14 r15 : Value} : S93 A0 A1 [A0, A1, r2, r3, r4, r5, r6, r7, r8, r9, r10, r11, r12, r13, r14, r15]
/-- What is wrong with a text. -/
def chk (l : List UInt8) : Int := if 65536 < l.length then 2 else if l.all isB then 0 else 8
section
variable {K : Value → Heap → Prop} {H : Heap}
theorem c93 {r : Nat} {l : List UInt8} {t : TypeId} {fz : Nat × Nat} (hm : (r, Blk.row t asc fz) ∈ H) (hl : l.length ≤ 65536) (hK : ∀ m, lT l m → (m = [] ∨ ∃ a b, m = b :: a ∧ isB b = false) → K (.string (strOf m)) H) : SCalls Tryz.prog 93 [.string (strOf l), ptr r] H K := by
  refine enter93 ?_
  repeat' ((conv => whnf); (first | refine New.mk (fun _ => ?_) | refine Look.at0 ?_ | refine Cell.row ?_ | refine Cell.buf ?_ | refine Cells.row rfl ?_ | refine Put.row rfl ?_ | refine Put.buf rfl ?_ | refine Look.at1 ?_ | refine Look.at2 ?_ | refine Look.at3 ?_ | refine Look.at4 ?_ | refine Look.at5 ?_ | refine Look.at6 ?_ | refine Look.at7 ?_ | refine Look.at8 ?_ | with_reducible refine Val.i64 (by omega) (by omega) ?_ | with_reducible refine Val.u8 (by omega) (by omega) ?_ | with_reducible refine Val.u32 (by omega) (by omega) ?_ | with_reducible refine Val.u64 (by omega) (by omega) ?_ | with_reducible refine Val.u8m ?_ | with_reducible refine Val.u32m ?_ | with_reducible refine Val.u64m ?_ | with_reducible refine Val.shr8 ?_ | with_reducible refine Val.shr16 (by decide) ?_ | with_reducible refine Val.shr24 (by decide) ?_ | with_reducible refine Val.raw ?_ | refine Branch.not ?_ | refine Branch.and ?_ | refine Branch.or ?_ | refine Branch.dt (by assumption) ?_ | refine Branch.df (by assumption) ?_ | refine Branch.dt rfl ?_ | refine Branch.dt (by omega) ?_ | refine Branch.df (by omega) ?_ | refine Branch.t rfl ?_ | refine Branch.f rfl ?_ | refine Branch.t (by assumption) ?_ | refine Branch.f (by assumption) ?_ | refine Branch.d (fun _ => ?_) (fun _ => ?_) | refine Branch.mk (fun _ => ?_) (fun _ => ?_) | refine Need.mk (by first | omega | decide | rfl) ?_ | refine Idx.nat (by omega) ?_ | refine Idx.auto (by first | omega | decide) (by first | omega | decide) ?_ | refine Cell.ro rfl ?_ | refine SDraw.all (by kernel_rfl) ?_ | refine Kept.k0 ?_ | refine Kept.k1 ?_ | refine Kept.k2 ?_ | refine Kept.k3 ?_ | refine Kept.k4 ?_))
  refine SLoop.invA (fun (m : List UInt8) S H' => lT l m ∧ S93 (.string (strOf m)) (ptr r) S ∧ H' = H) (fun m => m.length) l (Keep.all ⟨⟨[], by simp, fun b hb => by cases hb⟩, .mk, rfl⟩) ?_
  rintro m S H' ⟨hT, hS, rfl⟩ R hR
  cases hS
  cases m with
  | nil =>
    have hk := hK [] hT (.inl rfl)
    clear hR hK
    repeat' ((conv => whnf); (first | refine Branch.f rfl ?_ | with_reducible exact Keep.all hk | refine New.mk (fun _ => ?_) | refine Look.at0 ?_ | refine Cell.row ?_ | refine Cell.buf ?_ | refine Cells.row rfl ?_ | refine Put.row rfl ?_ | refine Put.buf rfl ?_ | refine Look.at1 ?_ | refine Look.at2 ?_ | refine Look.at3 ?_ | refine Look.at4 ?_ | refine Look.at5 ?_ | refine Look.at6 ?_ | refine Look.at7 ?_ | refine Look.at8 ?_ | with_reducible refine Val.i64 (by omega) (by omega) ?_ | with_reducible refine Val.u8 (by omega) (by omega) ?_ | with_reducible refine Val.u32 (by omega) (by omega) ?_ | with_reducible refine Val.u64 (by omega) (by omega) ?_ | with_reducible refine Val.u8m ?_ | with_reducible refine Val.u32m ?_ | with_reducible refine Val.u64m ?_ | with_reducible refine Val.shr8 ?_ | with_reducible refine Val.shr16 (by decide) ?_ | with_reducible refine Val.shr24 (by decide) ?_ | with_reducible refine Val.raw ?_ | refine Branch.not ?_ | refine Branch.and ?_ | refine Branch.or ?_ | refine Branch.dt (by assumption) ?_ | refine Branch.df (by assumption) ?_ | refine Branch.dt rfl ?_ | refine Branch.dt (by omega) ?_ | refine Branch.df (by omega) ?_ | refine Branch.t rfl ?_ | refine Branch.f rfl ?_ | refine Branch.t (by assumption) ?_ | refine Branch.f (by assumption) ?_ | refine Branch.d (fun _ => ?_) (fun _ => ?_) | refine Branch.mk (fun _ => ?_) (fun _ => ?_) | refine Need.mk (by first | omega | decide | rfl) ?_ | refine Idx.nat (by omega) ?_ | refine Idx.auto (by first | omega | decide) (by first | omega | decide) ?_ | refine Cell.ro rfl ?_ | refine SDraw.all (by kernel_rfl) ?_ | refine Kept.k0 ?_ | refine Kept.k1 ?_ | refine Kept.k2 ?_ | refine Kept.k3 ?_ | refine Kept.k4 ?_))
  | cons b a =>
    have hsz2 : (strOf (b :: a)).size = a.length + 1 := by rw [strOf_size]; rfl
    have hat : byteAt (strOf (b :: a)) 0 = (b.toNat : Int) := byteAt_of rfl
    have hcut : (strOf (b :: a)).extract 1 (strOf (b :: a)).size = strOf a := by rw [strOf_cut, hsz2]; simp
    have h74 := fun (K : Value → Heap → Prop) (hk : K (.bool (isB b)) H') => c106 (b := b) hm hk
    cases hb : isB b with
    | false =>
      have hk := hK _ hT (.inr ⟨a, b, rfl, hb⟩)
      rw [hb] at h74
      clear hR hK
      repeat' ((conv => whnf); (first | refine Branch.dt (by omega) ?_ | refine Idx.of 0 rfl (by omega) ?_ | with_reducible rw [hat] | with_reducible refine h74 _ ?_ | with_reducible exact Keep.all hk | refine New.mk (fun _ => ?_) | refine Look.at0 ?_ | refine Cell.row ?_ | refine Cell.buf ?_ | refine Cells.row rfl ?_ | refine Put.row rfl ?_ | refine Put.buf rfl ?_ | refine Look.at1 ?_ | refine Look.at2 ?_ | refine Look.at3 ?_ | refine Look.at4 ?_ | refine Look.at5 ?_ | refine Look.at6 ?_ | refine Look.at7 ?_ | refine Look.at8 ?_ | with_reducible refine Val.i64 (by omega) (by omega) ?_ | with_reducible refine Val.u8 (by omega) (by omega) ?_ | with_reducible refine Val.u32 (by omega) (by omega) ?_ | with_reducible refine Val.u64 (by omega) (by omega) ?_ | with_reducible refine Val.u8m ?_ | with_reducible refine Val.u32m ?_ | with_reducible refine Val.u64m ?_ | with_reducible refine Val.shr8 ?_ | with_reducible refine Val.shr16 (by decide) ?_ | with_reducible refine Val.shr24 (by decide) ?_ | with_reducible refine Val.raw ?_ | refine Branch.not ?_ | refine Branch.and ?_ | refine Branch.or ?_ | refine Branch.dt (by assumption) ?_ | refine Branch.df (by assumption) ?_ | refine Branch.dt rfl ?_ | refine Branch.dt (by omega) ?_ | refine Branch.df (by omega) ?_ | refine Branch.t rfl ?_ | refine Branch.f rfl ?_ | refine Branch.t (by assumption) ?_ | refine Branch.f (by assumption) ?_ | refine Branch.d (fun _ => ?_) (fun _ => ?_) | refine Branch.mk (fun _ => ?_) (fun _ => ?_) | refine Need.mk (by first | omega | decide | rfl) ?_ | refine Idx.nat (by omega) ?_ | refine Idx.auto (by first | omega | decide) (by first | omega | decide) ?_ | refine Cell.ro rfl ?_ | refine SDraw.all (by kernel_rfl) ?_ | refine Kept.k0 ?_ | refine Kept.k1 ?_ | refine Kept.k2 ?_ | refine Kept.k3 ?_ | refine Kept.k4 ?_))
    | true =>
      have hk := fun S (hS : S93 (.string (strOf a)) (ptr r) S) => hR a S H' (by simp) (Keep.all ⟨by
        obtain ⟨t, h1, h2⟩ := hT
        exact ⟨t ++ [b], by rw [h1]; simp, fun x hx => by
          rcases List.mem_append.1 hx with hx | hx
          · exact h2 x hx
          · rw [List.mem_singleton.1 hx]; exact hb⟩, hS, rfl⟩)
      rw [hb] at h74
      clear hR hK
      repeat' ((conv => whnf); (first | refine Branch.dt (by omega) ?_ | refine Idx.of 0 rfl (by omega) ?_ | refine Idx.of 1 rfl (by omega) ?_ | with_reducible rw [hat] | with_reducible refine h74 _ ?_ | with_reducible rw [hcut] | with_reducible refine hk _ .mk | refine New.mk (fun _ => ?_) | refine Look.at0 ?_ | refine Cell.row ?_ | refine Cell.buf ?_ | refine Cells.row rfl ?_ | refine Put.row rfl ?_ | refine Put.buf rfl ?_ | refine Look.at1 ?_ | refine Look.at2 ?_ | refine Look.at3 ?_ | refine Look.at4 ?_ | refine Look.at5 ?_ | refine Look.at6 ?_ | refine Look.at7 ?_ | refine Look.at8 ?_ | with_reducible refine Val.i64 (by omega) (by omega) ?_ | with_reducible refine Val.u8 (by omega) (by omega) ?_ | with_reducible refine Val.u32 (by omega) (by omega) ?_ | with_reducible refine Val.u64 (by omega) (by omega) ?_ | with_reducible refine Val.u8m ?_ | with_reducible refine Val.u32m ?_ | with_reducible refine Val.u64m ?_ | with_reducible refine Val.shr8 ?_ | with_reducible refine Val.shr16 (by decide) ?_ | with_reducible refine Val.shr24 (by decide) ?_ | with_reducible refine Val.raw ?_ | refine Branch.not ?_ | refine Branch.and ?_ | refine Branch.or ?_ | refine Branch.dt (by assumption) ?_ | refine Branch.df (by assumption) ?_ | refine Branch.dt rfl ?_ | refine Branch.dt (by omega) ?_ | refine Branch.df (by omega) ?_ | refine Branch.t rfl ?_ | refine Branch.f rfl ?_ | refine Branch.t (by assumption) ?_ | refine Branch.f (by assumption) ?_ | refine Branch.d (fun _ => ?_) (fun _ => ?_) | refine Branch.mk (fun _ => ?_) (fun _ => ?_) | refine Need.mk (by first | omega | decide | rfl) ?_ | refine Idx.nat (by omega) ?_ | refine Idx.auto (by first | omega | decide) (by first | omega | decide) ?_ | refine Cell.ro rfl ?_ | refine SDraw.all (by kernel_rfl) ?_ | refine Kept.k0 ?_ | refine Kept.k1 ?_ | refine Kept.k2 ?_ | refine Kept.k3 ?_ | refine Kept.k4 ?_))
theorem emp : (⟨#[]⟩ : ByteArray) = strOf [] := rfl
/-- Behind Trim nothing is left of bits alone. -/
theorem c78 {l : List UInt8} (hl : l.length ≤ 65536) (hK : ∀ m, (m = [] ↔ l.all isB = true) → K (.string (strOf m)) H) : SCalls Tryz.prog 78 [.string (strOf l), .string ⟨#[48, 49]⟩] H K := by
  refine enter78 ?_
  by_cases h0 : l = []
  · subst h0
    have hk := hK [] (by simp)
    clear hK
    repeat' ((conv => whnf); (first | refine Branch.t rfl ?_ | refine Branch.f rfl ?_ | with_reducible exact Keep.all hk | refine New.mk (fun _ => ?_) | refine Look.at0 ?_ | refine Cell.row ?_ | refine Cell.buf ?_ | refine Cells.row rfl ?_ | refine Put.row rfl ?_ | refine Put.buf rfl ?_ | refine Look.at1 ?_ | refine Look.at2 ?_ | refine Look.at3 ?_ | refine Look.at4 ?_ | refine Look.at5 ?_ | refine Look.at6 ?_ | refine Look.at7 ?_ | refine Look.at8 ?_ | with_reducible refine Val.i64 (by omega) (by omega) ?_ | with_reducible refine Val.u8 (by omega) (by omega) ?_ | with_reducible refine Val.u32 (by omega) (by omega) ?_ | with_reducible refine Val.u64 (by omega) (by omega) ?_ | with_reducible refine Val.u8m ?_ | with_reducible refine Val.u32m ?_ | with_reducible refine Val.u64m ?_ | with_reducible refine Val.shr8 ?_ | with_reducible refine Val.shr16 (by decide) ?_ | with_reducible refine Val.shr24 (by decide) ?_ | with_reducible refine Val.raw ?_ | refine Branch.not ?_ | refine Branch.and ?_ | refine Branch.or ?_ | refine Branch.dt (by assumption) ?_ | refine Branch.df (by assumption) ?_ | refine Branch.dt rfl ?_ | refine Branch.dt (by omega) ?_ | refine Branch.df (by omega) ?_ | refine Branch.t rfl ?_ | refine Branch.f rfl ?_ | refine Branch.t (by assumption) ?_ | refine Branch.f (by assumption) ?_ | refine Branch.d (fun _ => ?_) (fun _ => ?_) | refine Branch.mk (fun _ => ?_) (fun _ => ?_) | refine Need.mk (by first | omega | decide | rfl) ?_ | refine Idx.nat (by omega) ?_ | refine Idx.auto (by first | omega | decide) (by first | omega | decide) ?_ | refine Cell.ro rfl ?_ | refine SDraw.all (by kernel_rfl) ?_ | refine Kept.k0 ?_ | refine Kept.k1 ?_ | refine Kept.k2 ?_ | refine Kept.k3 ?_ | refine Kept.k4 ?_))
  · have he : strOf l ≠ ⟨#[]⟩ := fun e => h0 (strOf_inj e)
    have h2 : ∀ (r : Nat) (b : Blk) m m', rT l m → (m = [] ∨ ∃ a b, m = a ++ [b] ∧ isB b = false) → lT m m' → (m' = [] ∨ ∃ a b, m' = b :: a ∧ isB b = false) → Keep ((r, b) :: H) fun H' => K (.string (strOf m')) H' := by
      intro r b m m' ⟨t, e1, e2⟩ e3 ⟨t', e4, e5⟩ e6
      refine Keep.d1 (hK m' ?_)
      rw [List.all_eq_true]
      constructor
      · rintro rfl
        rw [List.append_nil] at e4
        subst e4
        intro x hx
        rw [e1] at hx
        rcases List.mem_append.1 hx with hx | hx
        · exact e5 x hx
        · exact e2 x hx
      · intro hall
        rcases e6 with e6 | ⟨a, c, rfl, hc⟩
        · exact e6
        · have := hall c (by rw [e1, e4]; simp)
          rw [hc] at this; cases this
    have h55 := fun (r : Nat) (t : TypeId) (fz : Nat × Nat) (H : Heap) (K : Value → Heap → Prop) hk => c94 (K := K) (H := (r, Blk.row t asc fz) :: H) (.head _) hl hk
    have hlen : ∀ m, rT l m → m.length ≤ 65536 := by
      rintro m ⟨t, e1, _⟩
      have := congrArg List.length e1
      rw [List.length_append] at this; omega
    clear hK
    repeat' ((conv => whnf); (first | refine Branch.f (by first | (simp only [he, decide_false]; done)) ?_ | refine Branch.f rfl ?_ | refine Branch.t rfl ?_ | refine c92 ?_ | refine h55 _ _ _ _ _ (fun m hm1 hm2 => ?_) | refine c93 (.head _) (hlen m hm1) (fun m' hm3 hm4 => ?_) | with_reducible exact h2 _ _ _ _ hm1 hm2 hm3 hm4 | refine New.mk (fun _ => ?_) | refine Look.at0 ?_ | refine Cell.row ?_ | refine Cell.buf ?_ | refine Cells.row rfl ?_ | refine Put.row rfl ?_ | refine Put.buf rfl ?_ | refine Look.at1 ?_ | refine Look.at2 ?_ | refine Look.at3 ?_ | refine Look.at4 ?_ | refine Look.at5 ?_ | refine Look.at6 ?_ | refine Look.at7 ?_ | refine Look.at8 ?_ | with_reducible refine Val.i64 (by omega) (by omega) ?_ | with_reducible refine Val.u8 (by omega) (by omega) ?_ | with_reducible refine Val.u32 (by omega) (by omega) ?_ | with_reducible refine Val.u64 (by omega) (by omega) ?_ | with_reducible refine Val.u8m ?_ | with_reducible refine Val.u32m ?_ | with_reducible refine Val.u64m ?_ | with_reducible refine Val.shr8 ?_ | with_reducible refine Val.shr16 (by decide) ?_ | with_reducible refine Val.shr24 (by decide) ?_ | with_reducible refine Val.raw ?_ | refine Branch.not ?_ | refine Branch.and ?_ | refine Branch.or ?_ | refine Branch.dt (by assumption) ?_ | refine Branch.df (by assumption) ?_ | refine Branch.dt rfl ?_ | refine Branch.dt (by omega) ?_ | refine Branch.df (by omega) ?_ | refine Branch.t rfl ?_ | refine Branch.f rfl ?_ | refine Branch.t (by assumption) ?_ | refine Branch.f (by assumption) ?_ | refine Branch.d (fun _ => ?_) (fun _ => ?_) | refine Branch.mk (fun _ => ?_) (fun _ => ?_) | refine Need.mk (by first | omega | decide | rfl) ?_ | refine Idx.nat (by omega) ?_ | refine Idx.auto (by first | omega | decide) (by first | omega | decide) ?_ | refine Cell.ro rfl ?_ | refine SDraw.all (by kernel_rfl) ?_ | refine Kept.k0 ?_ | refine Kept.k1 ?_ | refine Kept.k2 ?_ | refine Kept.k3 ?_ | refine Kept.k4 ?_))
theorem c60 {l : List UInt8} (hK : K (.int .i64 (chk l)) H) : SCalls Tryz.prog 60 [.string (strOf l)] H K := by
  refine enter60 ?_
  unfold chk at hK
  by_cases h1 : 65536 < l.length
  · rw [if_pos h1] at hK
    have hsz : (65536 : Int) < ((strOf l).size : Int) := by rw [strOf_size]; omega
    repeat' ((conv => whnf); (first | refine Branch.dt hsz ?_ | with_reducible exact Keep.all hK | refine New.mk (fun _ => ?_) | refine Look.at0 ?_ | refine Cell.row ?_ | refine Cell.buf ?_ | refine Cells.row rfl ?_ | refine Put.row rfl ?_ | refine Put.buf rfl ?_ | refine Look.at1 ?_ | refine Look.at2 ?_ | refine Look.at3 ?_ | refine Look.at4 ?_ | refine Look.at5 ?_ | refine Look.at6 ?_ | refine Look.at7 ?_ | refine Look.at8 ?_ | with_reducible refine Val.i64 (by omega) (by omega) ?_ | with_reducible refine Val.u8 (by omega) (by omega) ?_ | with_reducible refine Val.u32 (by omega) (by omega) ?_ | with_reducible refine Val.u64 (by omega) (by omega) ?_ | with_reducible refine Val.u8m ?_ | with_reducible refine Val.u32m ?_ | with_reducible refine Val.u64m ?_ | with_reducible refine Val.shr8 ?_ | with_reducible refine Val.shr16 (by decide) ?_ | with_reducible refine Val.shr24 (by decide) ?_ | with_reducible refine Val.raw ?_ | refine Branch.not ?_ | refine Branch.and ?_ | refine Branch.or ?_ | refine Branch.dt (by assumption) ?_ | refine Branch.df (by assumption) ?_ | refine Branch.dt rfl ?_ | refine Branch.dt (by omega) ?_ | refine Branch.df (by omega) ?_ | refine Branch.t rfl ?_ | refine Branch.f rfl ?_ | refine Branch.t (by assumption) ?_ | refine Branch.f (by assumption) ?_ | refine Branch.d (fun _ => ?_) (fun _ => ?_) | refine Branch.mk (fun _ => ?_) (fun _ => ?_) | refine Need.mk (by first | omega | decide | rfl) ?_ | refine Idx.nat (by omega) ?_ | refine Idx.auto (by first | omega | decide) (by first | omega | decide) ?_ | refine Cell.ro rfl ?_ | refine SDraw.all (by kernel_rfl) ?_ | refine Kept.k0 ?_ | refine Kept.k1 ?_ | refine Kept.k2 ?_ | refine Kept.k3 ?_ | refine Kept.k4 ?_))
  · rw [if_neg h1] at hK
    have hsz : ¬ (65536 : Int) < ((strOf l).size : Int) := by rw [strOf_size]; omega
    have h2 : ∀ m, (m = [] ↔ l.all isB = true) → (strOf m = ⟨#[]⟩ ↔ l.all isB = true) := fun m hm => ⟨fun e => hm.1 (strOf_inj (e.trans emp)), fun e => by rw [hm.2 e]; rfl⟩
    cases hb : l.all isB with
    | true =>
      rw [hb, if_pos rfl] at hK
      rw [hb] at h2
      have h40 := fun (K : Value → Heap → Prop) hk => c78 (l := l) (K := K) (H := H) (by omega) hk
      repeat' ((conv => whnf); (first | refine Branch.df hsz ?_ | with_reducible refine h40 _ (fun m hm => ?_) | refine Branch.f (by have := (h2 m (by rw [hm, hb])).2 rfl; simp [this]) ?_ | with_reducible exact Keep.all hK | refine New.mk (fun _ => ?_) | refine Look.at0 ?_ | refine Cell.row ?_ | refine Cell.buf ?_ | refine Cells.row rfl ?_ | refine Put.row rfl ?_ | refine Put.buf rfl ?_ | refine Look.at1 ?_ | refine Look.at2 ?_ | refine Look.at3 ?_ | refine Look.at4 ?_ | refine Look.at5 ?_ | refine Look.at6 ?_ | refine Look.at7 ?_ | refine Look.at8 ?_ | with_reducible refine Val.i64 (by omega) (by omega) ?_ | with_reducible refine Val.u8 (by omega) (by omega) ?_ | with_reducible refine Val.u32 (by omega) (by omega) ?_ | with_reducible refine Val.u64 (by omega) (by omega) ?_ | with_reducible refine Val.u8m ?_ | with_reducible refine Val.u32m ?_ | with_reducible refine Val.u64m ?_ | with_reducible refine Val.shr8 ?_ | with_reducible refine Val.shr16 (by decide) ?_ | with_reducible refine Val.shr24 (by decide) ?_ | with_reducible refine Val.raw ?_ | refine Branch.not ?_ | refine Branch.and ?_ | refine Branch.or ?_ | refine Branch.dt (by assumption) ?_ | refine Branch.df (by assumption) ?_ | refine Branch.dt rfl ?_ | refine Branch.dt (by omega) ?_ | refine Branch.df (by omega) ?_ | refine Branch.t rfl ?_ | refine Branch.f rfl ?_ | refine Branch.t (by assumption) ?_ | refine Branch.f (by assumption) ?_ | refine Branch.d (fun _ => ?_) (fun _ => ?_) | refine Branch.mk (fun _ => ?_) (fun _ => ?_) | refine Need.mk (by first | omega | decide | rfl) ?_ | refine Idx.nat (by omega) ?_ | refine Idx.auto (by first | omega | decide) (by first | omega | decide) ?_ | refine Cell.ro rfl ?_ | refine SDraw.all (by kernel_rfl) ?_ | refine Kept.k0 ?_ | refine Kept.k1 ?_ | refine Kept.k2 ?_ | refine Kept.k3 ?_ | refine Kept.k4 ?_))
    | false =>
      rw [hb, if_neg (by decide)] at hK
      rw [hb] at h2
      have h40 := fun (K : Value → Heap → Prop) hk => c78 (l := l) (K := K) (H := H) (by omega) hk
      repeat' ((conv => whnf); (first | refine Branch.df hsz ?_ | with_reducible refine h40 _ (fun m hm => ?_) | refine Branch.t (by have : ¬ strOf m = ⟨#[]⟩ := (fun e => by have := (h2 m (by rw [hm, hb])).1 e; cases this); simp [this]) ?_ | with_reducible exact Keep.all hK | refine New.mk (fun _ => ?_) | refine Look.at0 ?_ | refine Cell.row ?_ | refine Cell.buf ?_ | refine Cells.row rfl ?_ | refine Put.row rfl ?_ | refine Put.buf rfl ?_ | refine Look.at1 ?_ | refine Look.at2 ?_ | refine Look.at3 ?_ | refine Look.at4 ?_ | refine Look.at5 ?_ | refine Look.at6 ?_ | refine Look.at7 ?_ | refine Look.at8 ?_ | with_reducible refine Val.i64 (by omega) (by omega) ?_ | with_reducible refine Val.u8 (by omega) (by omega) ?_ | with_reducible refine Val.u32 (by omega) (by omega) ?_ | with_reducible refine Val.u64 (by omega) (by omega) ?_ | with_reducible refine Val.u8m ?_ | with_reducible refine Val.u32m ?_ | with_reducible refine Val.u64m ?_ | with_reducible refine Val.shr8 ?_ | with_reducible refine Val.shr16 (by decide) ?_ | with_reducible refine Val.shr24 (by decide) ?_ | with_reducible refine Val.raw ?_ | refine Branch.not ?_ | refine Branch.and ?_ | refine Branch.or ?_ | refine Branch.dt (by assumption) ?_ | refine Branch.df (by assumption) ?_ | refine Branch.dt rfl ?_ | refine Branch.dt (by omega) ?_ | refine Branch.df (by omega) ?_ | refine Branch.t rfl ?_ | refine Branch.f rfl ?_ | refine Branch.t (by assumption) ?_ | refine Branch.f (by assumption) ?_ | refine Branch.d (fun _ => ?_) (fun _ => ?_) | refine Branch.mk (fun _ => ?_) (fun _ => ?_) | refine Need.mk (by first | omega | decide | rfl) ?_ | refine Idx.nat (by omega) ?_ | refine Idx.auto (by first | omega | decide) (by first | omega | decide) ?_ | refine Cell.ro rfl ?_ | refine SDraw.all (by kernel_rfl) ?_ | refine Kept.k0 ?_ | refine Kept.k1 ?_ | refine Kept.k2 ?_ | refine Kept.k3 ?_ | refine Kept.k4 ?_))
end
/-- A bit into the sum. -/
def cStep (r : Nat) (b : Bool) : Nat := if decide (r / 16384 = 1) = b then r * 2 % 32768 else (r * 2 % 32768) ^^^ 17817
def bitOf (b : UInt8) : Bool := Nat.beq b.toNat 49
def crc (l : List UInt8) : Nat := l.foldl (fun r b => cStep r (bitOf b)) 0
theorem cStep_lt (r : Nat) (b : Bool) : cStep r b < 32768 := by
  unfold cStep
  split
  · exact Nat.mod_lt _ (by decide)
  · exact Nat.xor_lt_two_pow (n := 15) (Nat.mod_lt _ (by decide)) (by decide)
theorem fold_lt (l : List UInt8) : ∀ r, r < 32768 → l.foldl (fun r b => cStep r (bitOf b)) r < 32768 := by
  induction l with
  | nil => exact fun r h => h
  | cons b l ih => exact fun r h => ih _ (cStep_lt _ _)
theorem crc_lt (l : List UInt8) : crc l < 32768 := fold_lt l 0 (by decide)
theorem crc_snoc (l : List UInt8) (b : UInt8) : crc (l ++ [b]) = cStep (crc l) (bitOf b) := by simp [crc]
theorem isB_cases {b : UInt8} (h : isB b = true) : (b.toNat = 48 ∧ bitOf b = false) ∨ (b.toNat = 49 ∧ bitOf b = true) := by
  unfold isB at h
  rcases Bool.or_eq_true_iff.1 h with h | h
  · have := Nat.eq_of_beq_eq_true h
    exact .inl ⟨this, by unfold bitOf; rw [this]; rfl⟩
  · have := Nat.eq_of_beq_eq_true h
    exact .inr ⟨this, by unfold bitOf; rw [this]; rfl⟩
/-- The numbers of a round. -/
theorem crc_nums {k : IntKind} (hk : k.signed = false) (h16 : 16 ≤ k.bits) (r : Nat) (hr : r < 32768) : ∃ q t : Nat, (q = 0 ∨ q = 1) ∧ t < 32768 ∧ shrI k (r : Int) 14 = (q : Int) ∧ bitAnd k (q : Int) 1 = (q : Int) ∧
    shlI k (r : Int) 1 = ((r * 2 : Nat) : Int) ∧ bitAnd k ((r * 2 : Nat) : Int) 32767 = (t : Int) ∧ bitXor k (t : Int) 17817 = ((t ^^^ 17817 : Nat) : Int) ∧ (∀ b, cStep r b = if decide (q = 1) = b then t else t ^^^ 17817) := by
  have hp : (65536 : Nat) ≤ 2 ^ k.bits := by
    have : (2 : Nat) ^ 16 ≤ 2 ^ k.bits := Nat.pow_le_pow_right (by decide) h16
    exact this
  have ht : r * 2 % 32768 < 32768 := Nat.mod_lt _ (by decide)
  refine ⟨r / 16384, r * 2 % 32768, by omega, ht, ?_, ?_, ?_, ?_, ?_, fun b => rfl⟩
  · exact shr_nat (k := k) (n := 14) (by omega)
  · have := bitMask_nat (k := k) hk (a := r / 16384) (n := 1) (by omega) (by omega)
    rw [show r / 16384 % 2 ^ 1 = r / 16384 by omega] at this
    exact this
  · have := shl_nat (k := k) hk (a := r) (n := 1) (by omega)
    rw [Nat.mod_eq_of_lt (show r * 2 ^ 1 < 2 ^ k.bits by omega)] at this
    exact this
  · exact bitMask_nat (k := k) hk (a := r * 2) (n := 15) (by omega) (by omega)
  · exact bitXor_nat hk (a := r * 2 % 32768) (b := 17817) (Nat.lt_of_lt_of_le ht (Nat.le_trans (by decide) hp)) (Nat.lt_of_lt_of_le (by decide) hp)
def crcV (l : List UInt8) : Int := if chk l = 0 then (crc l : Int) else 0
theorem chk_cases (l : List UInt8) : (chk l = 0 ∧ l.length ≤ 65536 ∧ ∀ b ∈ l, isB b = true) ∨ (chk l ≠ 0 ∧ (65536 < l.length ∨ l.all isB = false)) := by
  unfold chk
  split
  · exact .inr ⟨by decide, .inl (by omega)⟩
  · split
    · rename_i h1 h2
      exact .inl ⟨rfl, by omega, List.all_eq_true.1 h2⟩
    · rename_i h1 h2
      exact .inr ⟨by decide, .inr (by simpa using h2)⟩
theorem ascii {l : List UInt8} (h : ∀ b ∈ l, isB b = true) : ∀ b ∈ l, b.toNat < 128 := fun b hb => by
  rcases isB_cases (h b hb) with ⟨h, _⟩ | ⟨h, _⟩ <;> omega
inductive S33 (A4 A5 A15 : Value) : List Value → Prop
  | mk {r0 r1 r2 r3 r6 r7 r8 r9 r10 r11 r12 r13 r14 r16 r17 r18 r19 r20 r21 r22 r23 r24 r25 r26 r27 r28 r29 r30 r31 r32 : Value} : S33 A4 A5 A15 [r0, r1, r2, r3, A4, A5, r6, r7, r8, r9, r10, r11, r12, r13, r14, A15, r16, r17, r18, r19, r20, r21, r22, r23, r24, r25, r26, r27, r28, r29, r30, r31, r32]
section
variable {K : Value → Heap → Prop} {H : Heap}
theorem c33 {l : List UInt8} (hK : K (.tuple ⟨[.int .u16 (crcV l), .int .i64 (chk l)]⟩) H) : SCalls Tryz.prog 33 [.string (strOf l)] H K := by
  refine enter33 ?_
  unfold crcV at hK
  rcases chk_cases l with ⟨h0, hl, hB⟩ | ⟨h0, _⟩
  · rw [if_pos h0] at hK
    have h32 := fun (K : Value → Heap → Prop) (hk : K (.int .i64 0) H) => c60 (l := l) (K := K) (H := H) (by rw [h0]; exact hk)
    rw [h0] at hK
    repeat' ((conv => whnf); (first | with_reducible refine h32 _ ?_ | refine Branch.f rfl ?_ | refine RawV.rangeStr rfl (by kernel_rfl) (fun q => ?_) | refine New.mk (fun _ => ?_) | refine Look.at0 ?_ | refine Cell.row ?_ | refine Cell.buf ?_ | refine Cells.row rfl ?_ | refine Put.row rfl ?_ | refine Put.buf rfl ?_ | refine Look.at1 ?_ | refine Look.at2 ?_ | refine Look.at3 ?_ | refine Look.at4 ?_ | refine Look.at5 ?_ | refine Look.at6 ?_ | refine Look.at7 ?_ | refine Look.at8 ?_ | with_reducible refine Val.i64 (by omega) (by omega) ?_ | with_reducible refine Val.u8 (by omega) (by omega) ?_ | with_reducible refine Val.u32 (by omega) (by omega) ?_ | with_reducible refine Val.u64 (by omega) (by omega) ?_ | with_reducible refine Val.u8m ?_ | with_reducible refine Val.u32m ?_ | with_reducible refine Val.u64m ?_ | with_reducible refine Val.shr8 ?_ | with_reducible refine Val.shr16 (by decide) ?_ | with_reducible refine Val.shr24 (by decide) ?_ | with_reducible refine Val.raw ?_ | refine Branch.not ?_ | refine Branch.and ?_ | refine Branch.or ?_ | refine Branch.dt (by assumption) ?_ | refine Branch.df (by assumption) ?_ | refine Branch.dt rfl ?_ | refine Branch.dt (by omega) ?_ | refine Branch.df (by omega) ?_ | refine Branch.t rfl ?_ | refine Branch.f rfl ?_ | refine Branch.t (by assumption) ?_ | refine Branch.f (by assumption) ?_ | refine Branch.d (fun _ => ?_) (fun _ => ?_) | refine Branch.mk (fun _ => ?_) (fun _ => ?_) | refine Need.mk (by first | omega | decide | rfl) ?_ | refine Idx.nat (by omega) ?_ | refine Idx.auto (by first | omega | decide) (by first | omega | decide) ?_ | refine Cell.ro rfl ?_ | refine SDraw.all (by kernel_rfl) ?_ | refine Kept.k0 ?_ | refine Kept.k1 ?_ | refine Kept.k2 ?_ | refine Kept.k3 ?_ | refine Kept.k4 ?_))
    refine SLoop.invA (fun (j : Nat) S H' => j ≤ l.length ∧ S33 (.int .i64 0) (.int .u16 (crc (l.take j) : Int)) (ptr q) S ∧ H' = (q, sIter (strOf l) j) :: H) (fun j => l.length - j) 0 (Keep.all ⟨Nat.zero_le _, .mk, rfl⟩) ?_
    rintro j S H' ⟨hj, hS, rfl⟩ R hR
    cases hS
    by_cases hlt : j < l.length
    · have hx := List.getElem?_eq_getElem hlt
      generalize l[j] = b at hx
      have htk : l.take (j + 1) = l.take j ++ [b] := by rw [List.take_add_one, hx]; rfl
      obtain ⟨q2, t, hq, ht, e1, e2, e3, e4, e5, e6⟩ := crc_nums (k := .u16) rfl (by decide) (crc (l.take j)) (crc_lt _)
      have hnext : ∀ S, S33 (.int .i64 0) (.int .u16 (cStep (crc (l.take j)) (bitOf b) : Int)) (ptr q) S → R S ((q, sIter (strOf l) (j + 1)) :: H) := fun S hS => hR (j + 1) _ _ (by omega) (Keep.all ⟨hlt, by rw [htk, crc_snoc]; exact hS, rfl⟩)
      have hb := isB_cases (hB b (List.mem_of_getElem? hx))
      rw [e6] at hnext
      clear hR hK h32
      clear e6
      generalize crc (l.take j) = r at e1 e3 e4
      have hnx : ∀ (K2 : Value → Heap → Prop), K2 (.tuple ⟨[.bool true, .int .i64 (j : Int), .int .i32 (b.toNat : Int)]⟩) ((q, sIter (strOf l) (j + 1)) :: H) → ∀ o xm, Oper.op o = .next xm true → RawV Tryz.prog o [ptr q] ((q, sIter (strOf l) j) :: H) K2 := fun K2 hk o xm ho =>
        RawV.nextS0 ho (ascii hB) (fun h => by omega) (fun b2 hb2 => by rw [hx] at hb2; injection hb2 with hb2; subst hb2; exact hk)
      rcases hb with ⟨h1, h2⟩ | ⟨h1, h2⟩ <;> rw [h1] at hnx <;> rw [h2] at hnext <;> rcases hq with rfl | rfl
      · repeat' ((conv => whnf); (first | with_reducible refine hnx _ ?_ _ _ rfl | with_reducible refine Val.to _ e1 ?_ | with_reducible refine Val.to _ e2 ?_ | with_reducible refine Val.to _ e3 ?_ | with_reducible refine Val.to _ e4 ?_ | with_reducible refine Val.to _ e5 ?_ | with_reducible refine Val.i32 (by omega) (by omega) ?_ | with_reducible refine Val.u16 (by omega) (by omega) ?_ | refine Branch.f rfl ?_ | refine hnext _ .mk | refine New.mk (fun _ => ?_) | refine Look.at0 ?_ | refine Cell.row ?_ | refine Cell.buf ?_ | refine Cells.row rfl ?_ | refine Put.row rfl ?_ | refine Put.buf rfl ?_ | refine Look.at1 ?_ | refine Look.at2 ?_ | refine Look.at3 ?_ | refine Look.at4 ?_ | refine Look.at5 ?_ | refine Look.at6 ?_ | refine Look.at7 ?_ | refine Look.at8 ?_ | with_reducible refine Val.i64 (by omega) (by omega) ?_ | with_reducible refine Val.u8 (by omega) (by omega) ?_ | with_reducible refine Val.u32 (by omega) (by omega) ?_ | with_reducible refine Val.u64 (by omega) (by omega) ?_ | with_reducible refine Val.u8m ?_ | with_reducible refine Val.u32m ?_ | with_reducible refine Val.u64m ?_ | with_reducible refine Val.shr8 ?_ | with_reducible refine Val.shr16 (by decide) ?_ | with_reducible refine Val.shr24 (by decide) ?_ | with_reducible refine Val.raw ?_ | refine Branch.not ?_ | refine Branch.and ?_ | refine Branch.or ?_ | refine Branch.dt (by assumption) ?_ | refine Branch.df (by assumption) ?_ | refine Branch.dt rfl ?_ | refine Branch.dt (by omega) ?_ | refine Branch.df (by omega) ?_ | refine Branch.t rfl ?_ | refine Branch.f rfl ?_ | refine Branch.t (by assumption) ?_ | refine Branch.f (by assumption) ?_ | refine Branch.d (fun _ => ?_) (fun _ => ?_) | refine Branch.mk (fun _ => ?_) (fun _ => ?_) | refine Need.mk (by first | omega | decide | rfl) ?_ | refine Idx.nat (by omega) ?_ | refine Idx.auto (by first | omega | decide) (by first | omega | decide) ?_ | refine Cell.ro rfl ?_ | refine SDraw.all (by kernel_rfl) ?_ | refine Kept.k0 ?_ | refine Kept.k1 ?_ | refine Kept.k2 ?_ | refine Kept.k3 ?_ | refine Kept.k4 ?_))
      · repeat' ((conv => whnf); (first | with_reducible refine hnx _ ?_ _ _ rfl | with_reducible refine Val.to _ e1 ?_ | with_reducible refine Val.to _ e2 ?_ | with_reducible refine Val.to _ e3 ?_ | with_reducible refine Val.to _ e4 ?_ | with_reducible refine Val.to _ e5 ?_ | with_reducible refine Val.i32 (by omega) (by omega) ?_ | with_reducible refine Val.u16 (by omega) (by omega) ?_ | refine Branch.t rfl ?_ | refine hnext _ .mk | refine New.mk (fun _ => ?_) | refine Look.at0 ?_ | refine Cell.row ?_ | refine Cell.buf ?_ | refine Cells.row rfl ?_ | refine Put.row rfl ?_ | refine Put.buf rfl ?_ | refine Look.at1 ?_ | refine Look.at2 ?_ | refine Look.at3 ?_ | refine Look.at4 ?_ | refine Look.at5 ?_ | refine Look.at6 ?_ | refine Look.at7 ?_ | refine Look.at8 ?_ | with_reducible refine Val.i64 (by omega) (by omega) ?_ | with_reducible refine Val.u8 (by omega) (by omega) ?_ | with_reducible refine Val.u32 (by omega) (by omega) ?_ | with_reducible refine Val.u64 (by omega) (by omega) ?_ | with_reducible refine Val.u8m ?_ | with_reducible refine Val.u32m ?_ | with_reducible refine Val.u64m ?_ | with_reducible refine Val.shr8 ?_ | with_reducible refine Val.shr16 (by decide) ?_ | with_reducible refine Val.shr24 (by decide) ?_ | with_reducible refine Val.raw ?_ | refine Branch.not ?_ | refine Branch.and ?_ | refine Branch.or ?_ | refine Branch.dt (by assumption) ?_ | refine Branch.df (by assumption) ?_ | refine Branch.dt rfl ?_ | refine Branch.dt (by omega) ?_ | refine Branch.df (by omega) ?_ | refine Branch.t rfl ?_ | refine Branch.f rfl ?_ | refine Branch.t (by assumption) ?_ | refine Branch.f (by assumption) ?_ | refine Branch.d (fun _ => ?_) (fun _ => ?_) | refine Branch.mk (fun _ => ?_) (fun _ => ?_) | refine Need.mk (by first | omega | decide | rfl) ?_ | refine Idx.nat (by omega) ?_ | refine Idx.auto (by first | omega | decide) (by first | omega | decide) ?_ | refine Cell.ro rfl ?_ | refine SDraw.all (by kernel_rfl) ?_ | refine Kept.k0 ?_ | refine Kept.k1 ?_ | refine Kept.k2 ?_ | refine Kept.k3 ?_ | refine Kept.k4 ?_))
      · repeat' ((conv => whnf); (first | with_reducible refine hnx _ ?_ _ _ rfl | with_reducible refine Val.to _ e1 ?_ | with_reducible refine Val.to _ e2 ?_ | with_reducible refine Val.to _ e3 ?_ | with_reducible refine Val.to _ e4 ?_ | with_reducible refine Val.to _ e5 ?_ | with_reducible refine Val.i32 (by omega) (by omega) ?_ | with_reducible refine Val.u16 (by omega) (by omega) ?_ | refine Branch.t rfl ?_ | refine hnext _ .mk | refine New.mk (fun _ => ?_) | refine Look.at0 ?_ | refine Cell.row ?_ | refine Cell.buf ?_ | refine Cells.row rfl ?_ | refine Put.row rfl ?_ | refine Put.buf rfl ?_ | refine Look.at1 ?_ | refine Look.at2 ?_ | refine Look.at3 ?_ | refine Look.at4 ?_ | refine Look.at5 ?_ | refine Look.at6 ?_ | refine Look.at7 ?_ | refine Look.at8 ?_ | with_reducible refine Val.i64 (by omega) (by omega) ?_ | with_reducible refine Val.u8 (by omega) (by omega) ?_ | with_reducible refine Val.u32 (by omega) (by omega) ?_ | with_reducible refine Val.u64 (by omega) (by omega) ?_ | with_reducible refine Val.u8m ?_ | with_reducible refine Val.u32m ?_ | with_reducible refine Val.u64m ?_ | with_reducible refine Val.shr8 ?_ | with_reducible refine Val.shr16 (by decide) ?_ | with_reducible refine Val.shr24 (by decide) ?_ | with_reducible refine Val.raw ?_ | refine Branch.not ?_ | refine Branch.and ?_ | refine Branch.or ?_ | refine Branch.dt (by assumption) ?_ | refine Branch.df (by assumption) ?_ | refine Branch.dt rfl ?_ | refine Branch.dt (by omega) ?_ | refine Branch.df (by omega) ?_ | refine Branch.t rfl ?_ | refine Branch.f rfl ?_ | refine Branch.t (by assumption) ?_ | refine Branch.f (by assumption) ?_ | refine Branch.d (fun _ => ?_) (fun _ => ?_) | refine Branch.mk (fun _ => ?_) (fun _ => ?_) | refine Need.mk (by first | omega | decide | rfl) ?_ | refine Idx.nat (by omega) ?_ | refine Idx.auto (by first | omega | decide) (by first | omega | decide) ?_ | refine Cell.ro rfl ?_ | refine SDraw.all (by kernel_rfl) ?_ | refine Kept.k0 ?_ | refine Kept.k1 ?_ | refine Kept.k2 ?_ | refine Kept.k3 ?_ | refine Kept.k4 ?_))
      · repeat' ((conv => whnf); (first | with_reducible refine hnx _ ?_ _ _ rfl | with_reducible refine Val.to _ e1 ?_ | with_reducible refine Val.to _ e2 ?_ | with_reducible refine Val.to _ e3 ?_ | with_reducible refine Val.to _ e4 ?_ | with_reducible refine Val.to _ e5 ?_ | with_reducible refine Val.i32 (by omega) (by omega) ?_ | with_reducible refine Val.u16 (by omega) (by omega) ?_ | refine Branch.f rfl ?_ | refine hnext _ .mk | refine New.mk (fun _ => ?_) | refine Look.at0 ?_ | refine Cell.row ?_ | refine Cell.buf ?_ | refine Cells.row rfl ?_ | refine Put.row rfl ?_ | refine Put.buf rfl ?_ | refine Look.at1 ?_ | refine Look.at2 ?_ | refine Look.at3 ?_ | refine Look.at4 ?_ | refine Look.at5 ?_ | refine Look.at6 ?_ | refine Look.at7 ?_ | refine Look.at8 ?_ | with_reducible refine Val.i64 (by omega) (by omega) ?_ | with_reducible refine Val.u8 (by omega) (by omega) ?_ | with_reducible refine Val.u32 (by omega) (by omega) ?_ | with_reducible refine Val.u64 (by omega) (by omega) ?_ | with_reducible refine Val.u8m ?_ | with_reducible refine Val.u32m ?_ | with_reducible refine Val.u64m ?_ | with_reducible refine Val.shr8 ?_ | with_reducible refine Val.shr16 (by decide) ?_ | with_reducible refine Val.shr24 (by decide) ?_ | with_reducible refine Val.raw ?_ | refine Branch.not ?_ | refine Branch.and ?_ | refine Branch.or ?_ | refine Branch.dt (by assumption) ?_ | refine Branch.df (by assumption) ?_ | refine Branch.dt rfl ?_ | refine Branch.dt (by omega) ?_ | refine Branch.df (by omega) ?_ | refine Branch.t rfl ?_ | refine Branch.f rfl ?_ | refine Branch.t (by assumption) ?_ | refine Branch.f (by assumption) ?_ | refine Branch.d (fun _ => ?_) (fun _ => ?_) | refine Branch.mk (fun _ => ?_) (fun _ => ?_) | refine Need.mk (by first | omega | decide | rfl) ?_ | refine Idx.nat (by omega) ?_ | refine Idx.auto (by first | omega | decide) (by first | omega | decide) ?_ | refine Cell.ro rfl ?_ | refine SDraw.all (by kernel_rfl) ?_ | refine Kept.k0 ?_ | refine Kept.k1 ?_ | refine Kept.k2 ?_ | refine Kept.k3 ?_ | refine Kept.k4 ?_))
    · have e : j = l.length := by omega
      subst e
      rw [List.take_length]
      have hnx : ∀ (K2 : Value → Heap → Prop), K2 (.tuple ⟨[.bool false]⟩) ((q, sIter (strOf l) l.length) :: H) → ∀ o xm, Oper.op o = .next xm true → RawV Tryz.prog o [ptr q] ((q, sIter (strOf l) l.length) :: H) K2 := fun K2 hk o xm ho =>
        RawV.nextS0 ho (ascii hB) (fun h => hk) (fun b2 hb2 => by have := (List.getElem?_eq_some_iff.1 hb2).1; omega)
      clear hR h32
      repeat' ((conv => whnf); (first | with_reducible refine hnx _ ?_ _ _ rfl | refine Branch.f rfl ?_ | with_reducible exact Keep.d1 hK | refine New.mk (fun _ => ?_) | refine Look.at0 ?_ | refine Cell.row ?_ | refine Cell.buf ?_ | refine Cells.row rfl ?_ | refine Put.row rfl ?_ | refine Put.buf rfl ?_ | refine Look.at1 ?_ | refine Look.at2 ?_ | refine Look.at3 ?_ | refine Look.at4 ?_ | refine Look.at5 ?_ | refine Look.at6 ?_ | refine Look.at7 ?_ | refine Look.at8 ?_ | with_reducible refine Val.i64 (by omega) (by omega) ?_ | with_reducible refine Val.u8 (by omega) (by omega) ?_ | with_reducible refine Val.u32 (by omega) (by omega) ?_ | with_reducible refine Val.u64 (by omega) (by omega) ?_ | with_reducible refine Val.u8m ?_ | with_reducible refine Val.u32m ?_ | with_reducible refine Val.u64m ?_ | with_reducible refine Val.shr8 ?_ | with_reducible refine Val.shr16 (by decide) ?_ | with_reducible refine Val.shr24 (by decide) ?_ | with_reducible refine Val.raw ?_ | refine Branch.not ?_ | refine Branch.and ?_ | refine Branch.or ?_ | refine Branch.dt (by assumption) ?_ | refine Branch.df (by assumption) ?_ | refine Branch.dt rfl ?_ | refine Branch.dt (by omega) ?_ | refine Branch.df (by omega) ?_ | refine Branch.t rfl ?_ | refine Branch.f rfl ?_ | refine Branch.t (by assumption) ?_ | refine Branch.f (by assumption) ?_ | refine Branch.d (fun _ => ?_) (fun _ => ?_) | refine Branch.mk (fun _ => ?_) (fun _ => ?_) | refine Need.mk (by first | omega | decide | rfl) ?_ | refine Idx.nat (by omega) ?_ | refine Idx.auto (by first | omega | decide) (by first | omega | decide) ?_ | refine Cell.ro rfl ?_ | refine SDraw.all (by kernel_rfl) ?_ | refine Kept.k0 ?_ | refine Kept.k1 ?_ | refine Kept.k2 ?_ | refine Kept.k3 ?_ | refine Kept.k4 ?_))
  · rw [if_neg h0] at hK
    have h32 := fun (K : Value → Heap → Prop) hk => c60 (l := l) (K := K) (H := H) hk
    generalize chk l = v at h0 hK h32
    repeat' ((conv => whnf); (first | with_reducible refine h32 _ ?_ | refine Branch.t (by simp [h0]; done) ?_ | with_reducible exact Keep.all hK | refine New.mk (fun _ => ?_) | refine Look.at0 ?_ | refine Cell.row ?_ | refine Cell.buf ?_ | refine Cells.row rfl ?_ | refine Put.row rfl ?_ | refine Put.buf rfl ?_ | refine Look.at1 ?_ | refine Look.at2 ?_ | refine Look.at3 ?_ | refine Look.at4 ?_ | refine Look.at5 ?_ | refine Look.at6 ?_ | refine Look.at7 ?_ | refine Look.at8 ?_ | with_reducible refine Val.i64 (by omega) (by omega) ?_ | with_reducible refine Val.u8 (by omega) (by omega) ?_ | with_reducible refine Val.u32 (by omega) (by omega) ?_ | with_reducible refine Val.u64 (by omega) (by omega) ?_ | with_reducible refine Val.u8m ?_ | with_reducible refine Val.u32m ?_ | with_reducible refine Val.u64m ?_ | with_reducible refine Val.shr8 ?_ | with_reducible refine Val.shr16 (by decide) ?_ | with_reducible refine Val.shr24 (by decide) ?_ | with_reducible refine Val.raw ?_ | refine Branch.not ?_ | refine Branch.and ?_ | refine Branch.or ?_ | refine Branch.dt (by assumption) ?_ | refine Branch.df (by assumption) ?_ | refine Branch.dt rfl ?_ | refine Branch.dt (by omega) ?_ | refine Branch.df (by omega) ?_ | refine Branch.t rfl ?_ | refine Branch.f rfl ?_ | refine Branch.t (by assumption) ?_ | refine Branch.f (by assumption) ?_ | refine Branch.d (fun _ => ?_) (fun _ => ?_) | refine Branch.mk (fun _ => ?_) (fun _ => ?_) | refine Need.mk (by first | omega | decide | rfl) ?_ | refine Idx.nat (by omega) ?_ | refine Idx.auto (by first | omega | decide) (by first | omega | decide) ?_ | refine Cell.ro rfl ?_ | refine SDraw.all (by kernel_rfl) ?_ | refine Kept.k0 ?_ | refine Kept.k1 ?_ | refine Kept.k2 ?_ | refine Kept.k3 ?_ | refine Kept.k4 ?_))
end
/-- A builder may lie at place o of a row of type T. -/
def BT (T o : Nat) : Prop := liesAt Tryz.prog Tryz.prog.depth T ((o + 2) / Tryz.prog.cellsOf T) o 86 1 = true
theorem bt55 : BT 86 0 := by unfold BT; kernel_rfl
abbrev bRow (T r : Nat) (pre : List Value) (p sv : Value) : Nat × Blk := (r, .row T (pre ++ [p, sv]) (0, 0))
abbrev bPtr (r : Nat) (pre : List Value) : Value := .pointer (some ⟨r, pre.length, none⟩)
/-- A builder behind pre, with the bytes bs. -/
inductive Bld (T r : Nat) (pre : List Value) (bs : List UInt8) : Heap → Prop
  | mk {p sv : Value} {M : Heap} : (p = .pointer none ∨ p = bPtr r pre) → BufV 5 sv bs M → Bld T r pre bs (bRow T r pre p sv :: M)
theorem Bld.new {T r : Nat} {pre : List Value} : Bld T r pre [] [(r, .row T (pre ++ [.pointer none, .slice none 0 0]) (0, 0))] := .mk (.inl rfl) .nil
section
variable {K : Value → Heap → Prop} {H : Heap} {T r : Nat} {pre : List Value} {bs l : List UInt8} {N : Heap}
theorem pre0 (p sv : Value) : (pre ++ [p, sv])[pre.length + 0]? = some p := by simp
theorem pre1 (p sv : Value) : (pre ++ [p, sv])[pre.length + 1]? = some sv := by
  rw [List.getElem?_append_right (by omega)]; simp
theorem set0 (p sv p' : Value) : (pre ++ [p, sv]).take (pre.length + 0) ++ [p'] ++ (pre ++ [p, sv]).drop (pre.length + 0 + [p'].length) = pre ++ [p', sv] := by
  rw [Nat.add_zero, List.take_left, List.drop_append]; simp
theorem set1 (p sv sv' : Value) : (pre ++ [p, sv]).take (pre.length + 1) ++ [sv'] ++ (pre ++ [p, sv]).drop (pre.length + 1 + [sv'].length) = pre ++ [p, sv'] := by
  rw [List.take_append, List.drop_append, List.take_of_length_le (show pre.length ≤ pre.length + 1 by omega), List.drop_eq_nil_of_le (show pre.length ≤ pre.length + 1 + [sv'].length by omega), show pre.length + 1 - pre.length = 1 by omega, show pre.length + 1 + [sv'].length - pre.length = 2 by simp; omega]
  simp
theorem c75 (hT : BT T pre.length) (hN : Bld T r pre bs N) (hK : ∀ sv M, BufV 5 sv bs M → K (.tuple ⟨[]⟩) (bRow T r pre (bPtr r pre) sv :: M)) : SCalls Tryz.prog 75 [bPtr r pre] N K := by
  cases hN with
  | @mk p sv M hp hb =>
    have hk := hK sv M hb
    refine enter75 ?_
    have h0 : (Blk.row T (pre ++ [p, sv]) (0, 0)).cell (pre.length + 0) = some p := pre0 p sv
    have hput : PutOk (.row T (pre ++ [p, sv]) (0, 0)) (pre.length + 0) [bPtr r pre] (.row T (pre ++ [bPtr r pre, sv]) (0, 0)) := PutOk.row (by simp) (set0 p sv _)
    have hlt : pre.length < (pre ++ [p, sv]).length := by simp
    have hlies : liesAt Tryz.prog Tryz.prog.depth T ((pre ++ [p, sv]).length / Tryz.prog.cellsOf T) pre.length 86 1 = true := by
      rw [List.length_append]; exact hT
    rcases hp with rfl | rfl
    · repeat' ((conv => whnf); (first | refine Look.cell (.head _) h0 ?_ | refine Branch.t rfl ?_ | refine RawV.toUnsafe (src := 83) (dst := 155) (t := 86) rfl (by kernel_rfl) (by kernel_rfl) (by kernel_rfl) (.head _) hlt ?_ | refine RawV.extern rfl Tryz.func84 (by kernel_rfl) (by kernel_rfl) (by kernel_rfl) (e := Extern.AbiNoEscape.same) (v := bPtr r pre) (by kernel_rfl) (fun _ => rfl) ?_ | refine RawV.ofUnsafe (src := 155) (dst := 83) (t := 86) rfl (by kernel_rfl) (by kernel_rfl) (by kernel_rfl) (.head _) hlies ?_ | refine ⟨[], _, M, rfl, _, hput, appK_to ?_⟩ | exact Keep.all hk | refine New.mk (fun _ => ?_) | refine Look.at0 ?_ | refine Cell.row ?_ | refine Cell.buf ?_ | refine Cells.row rfl ?_ | refine Put.row rfl ?_ | refine Put.buf rfl ?_ | refine Look.at1 ?_ | refine Look.at2 ?_ | refine Look.at3 ?_ | refine Look.at4 ?_ | refine Look.at5 ?_ | refine Look.at6 ?_ | refine Look.at7 ?_ | refine Look.at8 ?_ | with_reducible refine Val.i64 (by omega) (by omega) ?_ | with_reducible refine Val.u8 (by omega) (by omega) ?_ | with_reducible refine Val.u32 (by omega) (by omega) ?_ | with_reducible refine Val.u64 (by omega) (by omega) ?_ | with_reducible refine Val.u8m ?_ | with_reducible refine Val.u32m ?_ | with_reducible refine Val.u64m ?_ | with_reducible refine Val.shr8 ?_ | with_reducible refine Val.shr16 (by decide) ?_ | with_reducible refine Val.shr24 (by decide) ?_ | with_reducible refine Val.raw ?_ | refine Branch.not ?_ | refine Branch.and ?_ | refine Branch.or ?_ | refine Branch.dt (by assumption) ?_ | refine Branch.df (by assumption) ?_ | refine Branch.dt rfl ?_ | refine Branch.dt (by omega) ?_ | refine Branch.df (by omega) ?_ | refine Branch.t rfl ?_ | refine Branch.f rfl ?_ | refine Branch.t (by assumption) ?_ | refine Branch.f (by assumption) ?_ | refine Branch.d (fun _ => ?_) (fun _ => ?_) | refine Branch.mk (fun _ => ?_) (fun _ => ?_) | refine Need.mk (by first | omega | decide | rfl) ?_ | refine Idx.nat (by omega) ?_ | refine Idx.auto (by first | omega | decide) (by first | omega | decide) ?_ | refine Cell.ro rfl ?_ | refine SDraw.all (by kernel_rfl) ?_ | refine Kept.k0 ?_ | refine Kept.k1 ?_ | refine Kept.k2 ?_ | refine Kept.k3 ?_ | refine Kept.k4 ?_))
    · repeat' ((conv => whnf); (first | refine Look.cell (.head _) h0 ?_ | refine Branch.f rfl ?_ | refine PEq.same rfl ?_ | refine Branch.f (by simp; done) ?_ | exact Keep.all hk | refine New.mk (fun _ => ?_) | refine Look.at0 ?_ | refine Cell.row ?_ | refine Cell.buf ?_ | refine Cells.row rfl ?_ | refine Put.row rfl ?_ | refine Put.buf rfl ?_ | refine Look.at1 ?_ | refine Look.at2 ?_ | refine Look.at3 ?_ | refine Look.at4 ?_ | refine Look.at5 ?_ | refine Look.at6 ?_ | refine Look.at7 ?_ | refine Look.at8 ?_ | with_reducible refine Val.i64 (by omega) (by omega) ?_ | with_reducible refine Val.u8 (by omega) (by omega) ?_ | with_reducible refine Val.u32 (by omega) (by omega) ?_ | with_reducible refine Val.u64 (by omega) (by omega) ?_ | with_reducible refine Val.u8m ?_ | with_reducible refine Val.u32m ?_ | with_reducible refine Val.u64m ?_ | with_reducible refine Val.shr8 ?_ | with_reducible refine Val.shr16 (by decide) ?_ | with_reducible refine Val.shr24 (by decide) ?_ | with_reducible refine Val.raw ?_ | refine Branch.not ?_ | refine Branch.and ?_ | refine Branch.or ?_ | refine Branch.dt (by assumption) ?_ | refine Branch.df (by assumption) ?_ | refine Branch.dt rfl ?_ | refine Branch.dt (by omega) ?_ | refine Branch.df (by omega) ?_ | refine Branch.t rfl ?_ | refine Branch.f rfl ?_ | refine Branch.t (by assumption) ?_ | refine Branch.f (by assumption) ?_ | refine Branch.d (fun _ => ?_) (fun _ => ?_) | refine Branch.mk (fun _ => ?_) (fun _ => ?_) | refine Need.mk (by first | omega | decide | rfl) ?_ | refine Idx.nat (by omega) ?_ | refine Idx.auto (by first | omega | decide) (by first | omega | decide) ?_ | refine Cell.ro rfl ?_ | refine SDraw.all (by kernel_rfl) ?_ | refine Kept.k0 ?_ | refine Kept.k1 ?_ | refine Kept.k2 ?_ | refine Kept.k3 ?_ | refine Kept.k4 ?_))
theorem c79 {M : Heap} {sv : Value} {b : UInt8} (hb : BufV 5 sv bs M) (h128 : b.toNat < 128) (hl : bs.length + 1 ≤ 140737488355328) (hK : ∀ sv' M', BufV 5 sv' (bs ++ [b]) M' → K sv' M') : SCalls Tryz.prog 79 [sv, .int .i32 (b.toNat : Int)] M K := by
  refine enter79 ?_
  have hc : ∀ (q : Nat) j x, [b][j]? = some x → (Blk.row 5 [.int .u8 (b.toNat : Int)] (0, 0)).cell (0 + j) = some (.int .u8 (x.toNat : Int)) := by
    intro q j x hj
    match j, hj with
    | 0, hj => injection hj with hj; subst hj; rfl
  have happ : ∀ (q : Nat) (o : Oper) (xs xx : Operand) (K2 : Value → Heap → Prop), o.op = .call { callee := .builtin .append, args := #[xs, xx], argTypes := #[84, 84] } → (∀ a' c' M', BufV 5 (.slice a' (bs ++ [b]).length c') (bs ++ [b]) M' → K2 (.slice a' (bs ++ [b]).length c') ((q, Blk.row 5 [.int .u8 (b.toNat : Int)] (0, 0)) :: M')) →
      RawV Tryz.prog o [sv, .slice (some ⟨q, 0, none⟩) 1 1] ((q, Blk.row 5 [.int .u8 (b.toNat : Int)] (0, 0)) :: M) K2 := by
    intro q o xs xx K2 ho hk
    have := RawV.appBytes (P := Tryz.prog) (c := 1) (A := [(q, Blk.row 5 [.int .u8 (b.toNat : Int)] (0, 0))]) (B := []) (l := [b]) (K := K2) ho (by kernel_rfl) (by kernel_rfl) hb (.head _) rfl Nat.one_pos (hc q) hl (fun sv' N' h => by rw [List.append_nil]; obtain ⟨a', c', rfl⟩ := h.len; exact hk a' c' N' h)
    rw [List.append_nil] at this
    exact this
  obtain ⟨a, c, rfl⟩ := hb.len
  repeat' ((conv => whnf); (first | with_reducible refine Val.u32 (by omega) (by omega) ?_ | refine Branch.dt (by omega) ?_ | with_reducible refine happ _ _ _ _ _ rfl (fun a' c' M' hb' => ?_) | exact Keep.d1 (hK _ _ hb') | refine New.mk (fun _ => ?_) | refine Look.at0 ?_ | refine Cell.row ?_ | refine Cell.buf ?_ | refine Cells.row rfl ?_ | refine Put.row rfl ?_ | refine Put.buf rfl ?_ | refine Look.at1 ?_ | refine Look.at2 ?_ | refine Look.at3 ?_ | refine Look.at4 ?_ | refine Look.at5 ?_ | refine Look.at6 ?_ | refine Look.at7 ?_ | refine Look.at8 ?_ | with_reducible refine Val.i64 (by omega) (by omega) ?_ | with_reducible refine Val.u8 (by omega) (by omega) ?_ | with_reducible refine Val.u32 (by omega) (by omega) ?_ | with_reducible refine Val.u64 (by omega) (by omega) ?_ | with_reducible refine Val.u8m ?_ | with_reducible refine Val.u32m ?_ | with_reducible refine Val.u64m ?_ | with_reducible refine Val.shr8 ?_ | with_reducible refine Val.shr16 (by decide) ?_ | with_reducible refine Val.shr24 (by decide) ?_ | with_reducible refine Val.raw ?_ | refine Branch.not ?_ | refine Branch.and ?_ | refine Branch.or ?_ | refine Branch.dt (by assumption) ?_ | refine Branch.df (by assumption) ?_ | refine Branch.dt rfl ?_ | refine Branch.dt (by omega) ?_ | refine Branch.df (by omega) ?_ | refine Branch.t rfl ?_ | refine Branch.f rfl ?_ | refine Branch.t (by assumption) ?_ | refine Branch.f (by assumption) ?_ | refine Branch.d (fun _ => ?_) (fun _ => ?_) | refine Branch.mk (fun _ => ?_) (fun _ => ?_) | refine Need.mk (by first | omega | decide | rfl) ?_ | refine Idx.nat (by omega) ?_ | refine Idx.auto (by first | omega | decide) (by first | omega | decide) ?_ | refine Cell.ro rfl ?_ | refine SDraw.all (by kernel_rfl) ?_ | refine Kept.k0 ?_ | refine Kept.k1 ?_ | refine Kept.k2 ?_ | refine Kept.k3 ?_ | refine Kept.k4 ?_))
theorem c61 {b : UInt8} (hT : BT T pre.length) (hN : Bld T r pre bs N) (h128 : b.toNat < 128) (hl : bs.length + 1 ≤ 140737488355328) (hK : ∀ N', Bld T r pre (bs ++ [b]) N' → K (.tuple ⟨[.int .i64 1, .nilIface]⟩) N') : SCalls Tryz.prog 61 [bPtr r pre, .int .i32 (b.toNat : Int)] N K := by
  refine enter61 ?_
  have h41 : ∀ (K2 : Value → Heap → Prop), (∀ a c M, BufV 5 (.slice a bs.length c) bs M → K2 (.tuple ⟨[]⟩) (bRow T r pre (bPtr r pre) (.slice a bs.length c) :: M)) → SCalls Tryz.prog 75 [bPtr r pre] N K2 := fun K2 hk => c75 hT hN (fun sv M hb => by
    obtain ⟨a, c, rfl⟩ := hb.len
    exact hk a c M hb)
  have h1 : ∀ sv, (Blk.row T (pre ++ [bPtr r pre, sv]) (0, 0)).cell (pre.length + 1) = some sv := fun sv => pre1 _ sv
  have hput : ∀ sv sv', PutOk (.row T (pre ++ [bPtr r pre, sv]) (0, 0)) (pre.length + 1) [sv'] (.row T (pre ++ [bPtr r pre, sv']) (0, 0)) := fun sv sv' => PutOk.row (by simp) (set1 _ sv sv')
  have h42 : ∀ a c M (K2 : Value → Heap → Prop), BufV 5 (.slice a bs.length c) bs M → (∀ a' c' M', BufV 5 (.slice a' (bs ++ [b]).length c') (bs ++ [b]) M' → K2 (.slice a' (bs ++ [b]).length c') (bRow T r pre (bPtr r pre) (.slice a bs.length c) :: M')) →
      SCalls Tryz.prog 79 [.slice a bs.length c, .int .i32 (b.toNat : Int)] (bRow T r pre (bPtr r pre) (.slice a bs.length c) :: M) K2 := by
    intro a c M K2 hb hk
    refine SCalls.under [_] (c79 hb h128 hl (fun sv' M' hb' => ?_))
    obtain ⟨a', c', rfl⟩ := hb'.len
    exact hk a' c' M' hb'
  have hlen : ((bs ++ [b]).length : Int) = (bs.length : Int) + 1 := by simp
  clear hN
  repeat' ((conv => whnf); (first | with_reducible refine h41 _ (fun a c M hb => ?_) | refine Look.cell (.head _) (h1 _) ?_ | with_reducible refine h42 _ _ _ _ hb (fun a' c' M' hb' => ?_) | refine ⟨[], _, M', rfl, _, hput _ _, appK_to ?_⟩ | with_reducible refine Val.to 1 (by rw [wrap_i64 (by omega) (by omega)]; omega) ?_ | exact Keep.all (hK _ (.mk (.inr rfl) hb')) | refine New.mk (fun _ => ?_) | refine Look.at0 ?_ | refine Cell.row ?_ | refine Cell.buf ?_ | refine Cells.row rfl ?_ | refine Put.row rfl ?_ | refine Put.buf rfl ?_ | refine Look.at1 ?_ | refine Look.at2 ?_ | refine Look.at3 ?_ | refine Look.at4 ?_ | refine Look.at5 ?_ | refine Look.at6 ?_ | refine Look.at7 ?_ | refine Look.at8 ?_ | with_reducible refine Val.i64 (by omega) (by omega) ?_ | with_reducible refine Val.u8 (by omega) (by omega) ?_ | with_reducible refine Val.u32 (by omega) (by omega) ?_ | with_reducible refine Val.u64 (by omega) (by omega) ?_ | with_reducible refine Val.u8m ?_ | with_reducible refine Val.u32m ?_ | with_reducible refine Val.u64m ?_ | with_reducible refine Val.shr8 ?_ | with_reducible refine Val.shr16 (by decide) ?_ | with_reducible refine Val.shr24 (by decide) ?_ | with_reducible refine Val.raw ?_ | refine Branch.not ?_ | refine Branch.and ?_ | refine Branch.or ?_ | refine Branch.dt (by assumption) ?_ | refine Branch.df (by assumption) ?_ | refine Branch.dt rfl ?_ | refine Branch.dt (by omega) ?_ | refine Branch.df (by omega) ?_ | refine Branch.t rfl ?_ | refine Branch.f rfl ?_ | refine Branch.t (by assumption) ?_ | refine Branch.f (by assumption) ?_ | refine Branch.d (fun _ => ?_) (fun _ => ?_) | refine Branch.mk (fun _ => ?_) (fun _ => ?_) | refine Need.mk (by first | omega | decide | rfl) ?_ | refine Idx.nat (by omega) ?_ | refine Idx.auto (by first | omega | decide) (by first | omega | decide) ?_ | refine Cell.ro rfl ?_ | refine SDraw.all (by kernel_rfl) ?_ | refine Kept.k0 ?_ | refine Kept.k1 ?_ | refine Kept.k2 ?_ | refine Kept.k3 ?_ | refine Kept.k4 ?_))
theorem c75s (hT : BT T pre.length) (hN : Bld T r pre bs N) (K2 : Value → Heap → Prop) (hk : ∀ a c M, BufV 5 (.slice a bs.length c) bs M → K2 (.tuple ⟨[]⟩) (bRow T r pre (bPtr r pre) (.slice a bs.length c) :: M)) : SCalls Tryz.prog 75 [bPtr r pre] N K2 :=
  c75 hT hN (fun sv M hb => by
    obtain ⟨a, c, rfl⟩ := hb.len
    exact hk a c M hb)
theorem c58 (hT : BT T pre.length) (hN : Bld T r pre bs N) (hl : bs.length + l.length ≤ 140737488355328) (hK : ∀ N', Bld T r pre (bs ++ l) N' → K (.tuple ⟨[.int .i64 (l.length : Int), .nilIface]⟩) N') : SCalls Tryz.prog 58 [bPtr r pre, .string (strOf l)] N K := by
  refine enter58 ?_
  have h41 := c75s hT hN
  have h1 : ∀ sv, (Blk.row T (pre ++ [bPtr r pre, sv]) (0, 0)).cell (pre.length + 1) = some sv := fun sv => pre1 _ sv
  have hput : ∀ sv sv', PutOk (.row T (pre ++ [bPtr r pre, sv]) (0, 0)) (pre.length + 1) [sv'] (.row T (pre ++ [bPtr r pre, sv']) (0, 0)) := fun sv sv' => PutOk.row (by simp) (set1 _ sv sv')
  have happ : ∀ a c M, BufV 5 (.slice a bs.length c) bs M → ∀ (o : Oper) (xs xx : Operand) (K2 : Value → Heap → Prop), o.op = .call { callee := .builtin .append, args := #[xs, xx], argTypes := #[84, 9] } →
      (∀ a' c' M', BufV 5 (.slice a' (bs ++ l).length c') (bs ++ l) M' → K2 (.slice a' (bs ++ l).length c') (bRow T r pre (bPtr r pre) (.slice a bs.length c) :: M')) →
      RawV Tryz.prog o [.slice a bs.length c, .string (strOf l)] (bRow T r pre (bPtr r pre) (.slice a bs.length c) :: M) K2 := by
    intro a c M hb o xs xx K2 ho hk
    have := RawV.appStr (P := Tryz.prog) (A := [bRow T r pre (bPtr r pre) (.slice a bs.length c)]) (B := []) (l := l) (K := K2) ho (by kernel_rfl) (by kernel_rfl) (by kernel_rfl) hb hl (fun sv' N' h => by rw [List.append_nil]; obtain ⟨a', c', rfl⟩ := h.len; exact hk a' c' N' h)
    rw [List.append_nil] at this
    exact this
  have hsz : ((strOf l).size : Int) = (l.length : Int) := by rw [strOf_size]
  clear hN
  repeat' ((conv => whnf); (first | with_reducible refine h41 _ (fun a c M hb => ?_) | refine Look.cell (.head _) (h1 _) ?_ | with_reducible refine happ _ _ _ hb _ _ _ _ rfl (fun a' c' M' hb' => ?_) | refine ⟨[], _, M', rfl, _, hput _ _, appK_to ?_⟩ | (rw [hsz]; exact Keep.all (hK _ (.mk (.inr rfl) hb'))) | refine New.mk (fun _ => ?_) | refine Look.at0 ?_ | refine Cell.row ?_ | refine Cell.buf ?_ | refine Cells.row rfl ?_ | refine Put.row rfl ?_ | refine Put.buf rfl ?_ | refine Look.at1 ?_ | refine Look.at2 ?_ | refine Look.at3 ?_ | refine Look.at4 ?_ | refine Look.at5 ?_ | refine Look.at6 ?_ | refine Look.at7 ?_ | refine Look.at8 ?_ | with_reducible refine Val.i64 (by omega) (by omega) ?_ | with_reducible refine Val.u8 (by omega) (by omega) ?_ | with_reducible refine Val.u32 (by omega) (by omega) ?_ | with_reducible refine Val.u64 (by omega) (by omega) ?_ | with_reducible refine Val.u8m ?_ | with_reducible refine Val.u32m ?_ | with_reducible refine Val.u64m ?_ | with_reducible refine Val.shr8 ?_ | with_reducible refine Val.shr16 (by decide) ?_ | with_reducible refine Val.shr24 (by decide) ?_ | with_reducible refine Val.raw ?_ | refine Branch.not ?_ | refine Branch.and ?_ | refine Branch.or ?_ | refine Branch.dt (by assumption) ?_ | refine Branch.df (by assumption) ?_ | refine Branch.dt rfl ?_ | refine Branch.dt (by omega) ?_ | refine Branch.df (by omega) ?_ | refine Branch.t rfl ?_ | refine Branch.f rfl ?_ | refine Branch.t (by assumption) ?_ | refine Branch.f (by assumption) ?_ | refine Branch.d (fun _ => ?_) (fun _ => ?_) | refine Branch.mk (fun _ => ?_) (fun _ => ?_) | refine Need.mk (by first | omega | decide | rfl) ?_ | refine Idx.nat (by omega) ?_ | refine Idx.auto (by first | omega | decide) (by first | omega | decide) ?_ | refine Cell.ro rfl ?_ | refine SDraw.all (by kernel_rfl) ?_ | refine Kept.k0 ?_ | refine Kept.k1 ?_ | refine Kept.k2 ?_ | refine Kept.k3 ?_ | refine Kept.k4 ?_))
theorem c34 (hN : Bld T r pre bs N) (hK : ∀ N', Bld T r pre bs N' → K (.string (strOf bs)) N') : SCalls Tryz.prog 34 [bPtr r pre] N K := by
  refine enter34 ?_
  cases hN with
  | @mk p sv M hp hb =>
    obtain ⟨a, c, rfl⟩ := hb.len
    have h1 : (Blk.row T (pre ++ [p, .slice a bs.length c]) (0, 0)).cell (pre.length + 1) = some (.slice a bs.length c) := pre1 _ _
    have hcn : a = none ∨ c ≠ 0 := by
      generalize hsv : Value.slice a bs.length c = sv at hb
      cases hb with
      | nil => injection hsv with e1 _ _; exact .inl e1
      | row _ _ _ h0 => injection hsv with _ _ e3; exact .inr (by omega)
    have hun : ∀ (o : Oper) (x y : Operand) (K2 : Value → Heap → Prop), o.op = .call { callee := .builtin .unsafeString, args := #[x, y], argTypes := #[134, 3] } → (∀ M', BufV 5 (.slice a bs.length c) bs M' → K2 (.string (strOf bs)) (bRow T r pre p (.slice a bs.length c) :: M')) →
        RawV Tryz.prog o [.pointer a, .int .i64 (bs.length : Int)] (bRow T r pre p (.slice a bs.length c) :: M) K2 := by
      intro o x y K2 ho hk
      have := RawV.unsafeStr (P := Tryz.prog) (A := [bRow T r pre p (.slice a bs.length c)]) (B := []) (K := K2) ho (by kernel_rfl) (by kernel_rfl) hb (fun N' h => by rw [List.append_nil]; exact hk N' h)
      rw [List.append_nil] at this
      exact this
    repeat' ((conv => whnf); (first | refine Look.cell (.head _) h1 ?_ | refine RawV.sliceData rfl hcn ?_ | with_reducible refine hun _ _ _ _ rfl (fun M' hb' => ?_) | exact Keep.all (hK _ (.mk hp hb')) | refine New.mk (fun _ => ?_) | refine Look.at0 ?_ | refine Cell.row ?_ | refine Cell.buf ?_ | refine Cells.row rfl ?_ | refine Put.row rfl ?_ | refine Put.buf rfl ?_ | refine Look.at1 ?_ | refine Look.at2 ?_ | refine Look.at3 ?_ | refine Look.at4 ?_ | refine Look.at5 ?_ | refine Look.at6 ?_ | refine Look.at7 ?_ | refine Look.at8 ?_ | with_reducible refine Val.i64 (by omega) (by omega) ?_ | with_reducible refine Val.u8 (by omega) (by omega) ?_ | with_reducible refine Val.u32 (by omega) (by omega) ?_ | with_reducible refine Val.u64 (by omega) (by omega) ?_ | with_reducible refine Val.u8m ?_ | with_reducible refine Val.u32m ?_ | with_reducible refine Val.u64m ?_ | with_reducible refine Val.shr8 ?_ | with_reducible refine Val.shr16 (by decide) ?_ | with_reducible refine Val.shr24 (by decide) ?_ | with_reducible refine Val.raw ?_ | refine Branch.not ?_ | refine Branch.and ?_ | refine Branch.or ?_ | refine Branch.dt (by assumption) ?_ | refine Branch.df (by assumption) ?_ | refine Branch.dt rfl ?_ | refine Branch.dt (by omega) ?_ | refine Branch.df (by omega) ?_ | refine Branch.t rfl ?_ | refine Branch.f rfl ?_ | refine Branch.t (by assumption) ?_ | refine Branch.f (by assumption) ?_ | refine Branch.d (fun _ => ?_) (fun _ => ?_) | refine Branch.mk (fun _ => ?_) (fun _ => ?_) | refine Need.mk (by first | omega | decide | rfl) ?_ | refine Idx.nat (by omega) ?_ | refine Idx.auto (by first | omega | decide) (by first | omega | decide) ?_ | refine Cell.ro rfl ?_ | refine SDraw.all (by kernel_rfl) ?_ | refine Kept.k0 ?_ | refine Kept.k1 ?_ | refine Kept.k2 ?_ | refine Kept.k3 ?_ | refine Kept.k4 ?_))
end
/-- The other bit. -/
def oth (b : UInt8) : UInt8 := if bitOf b then 48 else 49
/-- How many of one level there are, behind one more. -/
def tk (lv n c : Nat) : Nat := if c = lv then n + 1 else 1
structure St where
  out : List UInt8
  lv : Nat
  n : Nat
def St.step (s : St) (b : UInt8) : St := if tk s.lv s.n b.toNat = 5 then ⟨s.out ++ [b] ++ [oth b], (oth b).toNat, 1⟩ else ⟨s.out ++ [b], b.toNat, tk s.lv s.n b.toNat⟩
def stf (l : List UInt8) : St := l.foldl St.step ⟨[], 0, 0⟩
theorem stf_snoc (l : List UInt8) (b : UInt8) : stf (l ++ [b]) = (stf l).step b := by simp [stf]
theorem oth_n {b : UInt8} (h : isB b = true) : (oth b).toNat + b.toNat = 97 := by
  unfold oth
  rcases isB_cases h with ⟨h1, h2⟩ | ⟨h1, h2⟩ <;> rw [h2, h1] <;> rfl
theorem oth_b {b : UInt8} : isB (oth b) = true := by unfold oth; split <;> rfl
theorem snoc_ind {α : Type} {p : List α → Prop} (h0 : p []) (h1 : ∀ l b, p l → p (l ++ [b])) (l : List α) : p l := by
  have : ∀ r : List α, p r.reverse := by
    intro r
    induction r with
    | nil => exact h0
    | cons b r ih => rw [List.reverse_cons]; exact h1 _ _ ih
  have := this l.reverse
  rwa [List.reverse_reverse] at this
theorem St.ok : ∀ (l : List UInt8), (stf l).n ≤ 4 ∧ (stf l).out.length ≤ 2 * l.length ∧ (((stf l).out = [] ∧ (stf l).lv = 0 ∧ (stf l).n = 0 ∧ l = []) ∨ ∃ a b, (stf l).out = a ++ [b] ∧ (stf l).lv = b.toNat) := by
  intro l
  induction l using snoc_ind with
  | h0 => exact ⟨by decide, by decide, .inl ⟨rfl, rfl, rfl, rfl⟩⟩
  | h1 l b ih =>
    obtain ⟨h1, h2, h3⟩ := ih
    rw [stf_snoc]
    unfold St.step
    split
    · refine ⟨(by show (1 : Nat) ≤ 4; decide), ?_, .inr ⟨_, _, rfl, rfl⟩⟩
      simp; omega
    · rename_i hne
      refine ⟨?_, ?_, .inr ⟨_, _, rfl, rfl⟩⟩
      · show tk _ _ _ ≤ 4
        have h5 : tk (stf l).lv (stf l).n b.toNat ≤ (stf l).n + 1 := by unfold tk; split <;> omega
        omega
      · simp; omega
abbrev runB (q : Nat) (lv n : Nat) : Nat × Blk := (q, .row 136 [.int .i32 (lv : Int), .int .i64 (n : Int)] (0, 0))
inductive S35 (A4 A5 A6 A16 : Value) : List Value → Prop
  | mk {r0 r1 r2 r3 r7 r8 r9 r10 r11 r12 r13 r14 r15 r17 r18 r19 r20 r21 r22 r23 r24 r25 r26 r27 r28 r29 r30 r31 r32 r33 : Value} : S35 A4 A5 A6 A16 [r0, r1, r2, r3, A4, A5, A6, r7, r8, r9, r10, r11, r12, r13, r14, r15, A16, r17, r18, r19, r20, r21, r22, r23, r24, r25, r26, r27, r28, r29, r30, r31, r32, r33]
section
variable {K : Value → Heap → Prop} {H : Heap}
theorem c62 {q lv n c : Nat} (hn : n ≤ 100000) (hK : K (.tuple ⟨[]⟩) [runB q c (tk lv n c)]) : SCalls Tryz.prog 62 [ptr q, .int .i32 (c : Int)] [runB q lv n] K := by
  refine enter62 ?_
  unfold tk at hK
  by_cases h : c = lv
  · subst h
    rw [if_pos rfl] at hK
    have e : ((n + 1 : Nat) : Int) = (n : Int) + 1 := by omega
    simp only [runB, e] at hK
    repeat' ((conv => whnf); (first | refine Branch.f (by simp; done) ?_ | with_reducible exact Keep.all hK | refine New.mk (fun _ => ?_) | refine Look.at0 ?_ | refine Cell.row ?_ | refine Cell.buf ?_ | refine Cells.row rfl ?_ | refine Put.row rfl ?_ | refine Put.buf rfl ?_ | refine Look.at1 ?_ | refine Look.at2 ?_ | refine Look.at3 ?_ | refine Look.at4 ?_ | refine Look.at5 ?_ | refine Look.at6 ?_ | refine Look.at7 ?_ | refine Look.at8 ?_ | with_reducible refine Val.i64 (by omega) (by omega) ?_ | with_reducible refine Val.u8 (by omega) (by omega) ?_ | with_reducible refine Val.u32 (by omega) (by omega) ?_ | with_reducible refine Val.u64 (by omega) (by omega) ?_ | with_reducible refine Val.u8m ?_ | with_reducible refine Val.u32m ?_ | with_reducible refine Val.u64m ?_ | with_reducible refine Val.shr8 ?_ | with_reducible refine Val.shr16 (by decide) ?_ | with_reducible refine Val.shr24 (by decide) ?_ | with_reducible refine Val.raw ?_ | refine Branch.not ?_ | refine Branch.and ?_ | refine Branch.or ?_ | refine Branch.dt (by assumption) ?_ | refine Branch.df (by assumption) ?_ | refine Branch.dt rfl ?_ | refine Branch.dt (by omega) ?_ | refine Branch.df (by omega) ?_ | refine Branch.t rfl ?_ | refine Branch.f rfl ?_ | refine Branch.t (by assumption) ?_ | refine Branch.f (by assumption) ?_ | refine Branch.d (fun _ => ?_) (fun _ => ?_) | refine Branch.mk (fun _ => ?_) (fun _ => ?_) | refine Need.mk (by first | omega | decide | rfl) ?_ | refine Idx.nat (by omega) ?_ | refine Idx.auto (by first | omega | decide) (by first | omega | decide) ?_ | refine Cell.ro rfl ?_ | refine SDraw.all (by kernel_rfl) ?_ | refine Kept.k0 ?_ | refine Kept.k1 ?_ | refine Kept.k2 ?_ | refine Kept.k3 ?_ | refine Kept.k4 ?_))
  · rw [if_neg h] at hK
    have h' : ¬ (c : Int) = (lv : Int) := by omega
    repeat' ((conv => whnf); (first | refine Branch.t (by first | (simp [h']; done)) ?_ | with_reducible refine Val.to 1 rfl ?_ | exact Keep.all hK | refine New.mk (fun _ => ?_) | refine Look.at0 ?_ | refine Cell.row ?_ | refine Cell.buf ?_ | refine Cells.row rfl ?_ | refine Put.row rfl ?_ | refine Put.buf rfl ?_ | refine Look.at1 ?_ | refine Look.at2 ?_ | refine Look.at3 ?_ | refine Look.at4 ?_ | refine Look.at5 ?_ | refine Look.at6 ?_ | refine Look.at7 ?_ | refine Look.at8 ?_ | with_reducible refine Val.i64 (by omega) (by omega) ?_ | with_reducible refine Val.u8 (by omega) (by omega) ?_ | with_reducible refine Val.u32 (by omega) (by omega) ?_ | with_reducible refine Val.u64 (by omega) (by omega) ?_ | with_reducible refine Val.u8m ?_ | with_reducible refine Val.u32m ?_ | with_reducible refine Val.u64m ?_ | with_reducible refine Val.shr8 ?_ | with_reducible refine Val.shr16 (by decide) ?_ | with_reducible refine Val.shr24 (by decide) ?_ | with_reducible refine Val.raw ?_ | refine Branch.not ?_ | refine Branch.and ?_ | refine Branch.or ?_ | refine Branch.dt (by assumption) ?_ | refine Branch.df (by assumption) ?_ | refine Branch.dt rfl ?_ | refine Branch.dt (by omega) ?_ | refine Branch.df (by omega) ?_ | refine Branch.t rfl ?_ | refine Branch.f rfl ?_ | refine Branch.t (by assumption) ?_ | refine Branch.f (by assumption) ?_ | refine Branch.d (fun _ => ?_) (fun _ => ?_) | refine Branch.mk (fun _ => ?_) (fun _ => ?_) | refine Need.mk (by first | omega | decide | rfl) ?_ | refine Idx.nat (by omega) ?_ | refine Idx.auto (by first | omega | decide) (by first | omega | decide) ?_ | refine Cell.ro rfl ?_ | refine SDraw.all (by kernel_rfl) ?_ | refine Kept.k0 ?_ | refine Kept.k1 ?_ | refine Kept.k2 ?_ | refine Kept.k3 ?_ | refine Kept.k4 ?_))
theorem c63 {b : UInt8} (hb : isB b = true) (hK : K (.int .i32 ((oth b).toNat : Int)) H) : SCalls Tryz.prog 63 [.int .i32 (b.toNat : Int)] H K := by
  refine enter63 ?_
  have := oth_n hb
  repeat' ((conv => whnf); (first | with_reducible refine Val.to ((oth b).toNat : Int) (by rw [wrap_i32 (by omega) (by omega)]; omega) ?_ | with_reducible exact Keep.all hK | refine New.mk (fun _ => ?_) | refine Look.at0 ?_ | refine Cell.row ?_ | refine Cell.buf ?_ | refine Cells.row rfl ?_ | refine Put.row rfl ?_ | refine Put.buf rfl ?_ | refine Look.at1 ?_ | refine Look.at2 ?_ | refine Look.at3 ?_ | refine Look.at4 ?_ | refine Look.at5 ?_ | refine Look.at6 ?_ | refine Look.at7 ?_ | refine Look.at8 ?_ | with_reducible refine Val.i64 (by omega) (by omega) ?_ | with_reducible refine Val.u8 (by omega) (by omega) ?_ | with_reducible refine Val.u32 (by omega) (by omega) ?_ | with_reducible refine Val.u64 (by omega) (by omega) ?_ | with_reducible refine Val.u8m ?_ | with_reducible refine Val.u32m ?_ | with_reducible refine Val.u64m ?_ | with_reducible refine Val.shr8 ?_ | with_reducible refine Val.shr16 (by decide) ?_ | with_reducible refine Val.shr24 (by decide) ?_ | with_reducible refine Val.raw ?_ | refine Branch.not ?_ | refine Branch.and ?_ | refine Branch.or ?_ | refine Branch.dt (by assumption) ?_ | refine Branch.df (by assumption) ?_ | refine Branch.dt rfl ?_ | refine Branch.dt (by omega) ?_ | refine Branch.df (by omega) ?_ | refine Branch.t rfl ?_ | refine Branch.f rfl ?_ | refine Branch.t (by assumption) ?_ | refine Branch.f (by assumption) ?_ | refine Branch.d (fun _ => ?_) (fun _ => ?_) | refine Branch.mk (fun _ => ?_) (fun _ => ?_) | refine Need.mk (by first | omega | decide | rfl) ?_ | refine Idx.nat (by omega) ?_ | refine Idx.auto (by first | omega | decide) (by first | omega | decide) ?_ | refine Cell.ro rfl ?_ | refine SDraw.all (by kernel_rfl) ?_ | refine Kept.k0 ?_ | refine Kept.k1 ?_ | refine Kept.k2 ?_ | refine Kept.k3 ?_ | refine Kept.k4 ?_))
theorem c35 {l : List UInt8} (h0 : chk l = 0) (hK : K (.tuple ⟨[.string (strOf (stf l).out), .int .i64 0]⟩) H) : SCalls Tryz.prog 35 [.string (strOf l)] H K := by
  refine enter35 ?_
  rcases chk_cases l with ⟨_, hl, hB⟩ | ⟨h0', _⟩
  · have h32 := fun (K : Value → Heap → Prop) (hk : K (.int .i64 0) H) => c60 (l := l) (K := K) (H := H) (by rw [h0]; exact hk)
    repeat' ((conv => whnf); (first | with_reducible refine h32 _ ?_ | refine Branch.f rfl ?_ | refine RawV.rangeStr rfl (by kernel_rfl) (fun q => ?_) | refine New.mk (fun _ => ?_) | refine Look.at0 ?_ | refine Cell.row ?_ | refine Cell.buf ?_ | refine Cells.row rfl ?_ | refine Put.row rfl ?_ | refine Put.buf rfl ?_ | refine Look.at1 ?_ | refine Look.at2 ?_ | refine Look.at3 ?_ | refine Look.at4 ?_ | refine Look.at5 ?_ | refine Look.at6 ?_ | refine Look.at7 ?_ | refine Look.at8 ?_ | with_reducible refine Val.i64 (by omega) (by omega) ?_ | with_reducible refine Val.u8 (by omega) (by omega) ?_ | with_reducible refine Val.u32 (by omega) (by omega) ?_ | with_reducible refine Val.u64 (by omega) (by omega) ?_ | with_reducible refine Val.u8m ?_ | with_reducible refine Val.u32m ?_ | with_reducible refine Val.u64m ?_ | with_reducible refine Val.shr8 ?_ | with_reducible refine Val.shr16 (by decide) ?_ | with_reducible refine Val.shr24 (by decide) ?_ | with_reducible refine Val.raw ?_ | refine Branch.not ?_ | refine Branch.and ?_ | refine Branch.or ?_ | refine Branch.dt (by assumption) ?_ | refine Branch.df (by assumption) ?_ | refine Branch.dt rfl ?_ | refine Branch.dt (by omega) ?_ | refine Branch.df (by omega) ?_ | refine Branch.t rfl ?_ | refine Branch.f rfl ?_ | refine Branch.t (by assumption) ?_ | refine Branch.f (by assumption) ?_ | refine Branch.d (fun _ => ?_) (fun _ => ?_) | refine Branch.mk (fun _ => ?_) (fun _ => ?_) | refine Need.mk (by first | omega | decide | rfl) ?_ | refine Idx.nat (by omega) ?_ | refine Idx.auto (by first | omega | decide) (by first | omega | decide) ?_ | refine Cell.ro rfl ?_ | refine SDraw.all (by kernel_rfl) ?_ | refine Kept.k0 ?_ | refine Kept.k1 ?_ | refine Kept.k2 ?_ | refine Kept.k3 ?_ | refine Kept.k4 ?_))
    rename_i b q6
    refine SLoop.invA (fun (j : Nat) S H' => j ≤ l.length ∧ S35 (.int .i64 0) (ptr b) (ptr q6) (ptr q) S ∧ ∃ N, Bld 86 b [] (stf (l.take j)).out N ∧ H' = (q, sIter (strOf l) j) :: runB q6 (stf (l.take j)).lv (stf (l.take j)).n :: (N ++ H)) (fun j => l.length - j) 0 (Keep.all ⟨Nat.zero_le _, .mk, _, Bld.new, rfl⟩) ?_
    rintro j S H' ⟨hj, hS, N, hN, rfl⟩ R hR
    cases hS
    obtain ⟨k1, k2, k3⟩ := St.ok (l.take j)
    have k4 : (l.take j).length ≤ 65536 := by rw [List.length_take]; omega
    by_cases hlt : j < l.length
    · have hx := List.getElem?_eq_getElem hlt
      generalize l[j] = c at hx
      have htk : l.take (j + 1) = l.take j ++ [c] := by rw [List.take_add_one, hx]; rfl
      have hcB := hB c (List.mem_of_getElem? hx)
      have hnx : ∀ (H : Heap) (K2 : Value → Heap → Prop), K2 (.tuple ⟨[.bool true, .int .i64 (j : Int), .int .i32 (c.toNat : Int)]⟩) ((q, sIter (strOf l) (j + 1)) :: H) → ∀ o xm, Oper.op o = .next xm true → RawV Tryz.prog o [ptr q] ((q, sIter (strOf l) j) :: H) K2 := fun H K2 hk o xm ho =>
        RawV.nextS0 ho (ascii hB) (fun h => by omega) (fun b2 hb2 => by rw [hx] at hb2; injection hb2 with hb2; subst hb2; exact hk)
      have hnext : ∀ S N, S35 (.int .i64 0) (ptr b) (ptr q6) (ptr q) S → Bld 86 b [] (St.step ⟨(stf (l.take j)).out, (stf (l.take j)).lv, (stf (l.take j)).n⟩ c).out N → R S ((q, sIter (strOf l) (j + 1)) :: runB q6 (St.step ⟨(stf (l.take j)).out, (stf (l.take j)).lv, (stf (l.take j)).n⟩ c).lv (St.step ⟨(stf (l.take j)).out, (stf (l.take j)).lv, (stf (l.take j)).n⟩ c).n :: (N ++ H)) := fun S N hS hN => hR (j + 1) _ _ (by omega) (Keep.all ⟨hlt, hS, N, by rw [htk, stf_snoc]; exact hN, by rw [htk, stf_snoc]⟩)
      clear hR hK h32 htk k3
      generalize (stf (l.take j)).out = out at hN hnext k2
      generalize (stf (l.take j)).lv = lv at hnext
      generalize (stf (l.take j)).n = n at hnext k1
      have h33 : ∀ (x y : Nat × Blk) (c : UInt8) (out : List UInt8) (N : Heap) (K2 : Value → Heap → Prop), Bld 86 b [] out N → isB c = true → out.length ≤ 140737488355320 → (∀ N', Bld 86 b [] (out ++ [c]) N' → K2 (.tuple ⟨[.int .i64 1, .nilIface]⟩) (x :: y :: (N' ++ H))) → SCalls Tryz.prog 61 [ptr b, .int .i32 (c.toNat : Int)] (x :: y :: (N ++ H)) K2 := fun x y c out N K2 hN hc hl hk =>
        SCalls.midH [x, y] H (c61 (pre := []) bt55 hN (by rcases isB_cases hc with ⟨h, _⟩ | ⟨h, _⟩ <;> omega) (by omega) hk)
      have h34 : ∀ (x : Nat × Blk) (H : Heap) (lv n c : Nat) (K2 : Value → Heap → Prop), n ≤ 100000 → K2 (.tuple ⟨[]⟩) (x :: runB q6 c (tk lv n c) :: H) → SCalls Tryz.prog 62 [ptr q6, .int .i32 (c : Int)] (x :: runB q6 lv n :: H) K2 := fun x H lv n c K2 hn hk => SCalls.at1 (c62 hn hk)
      unfold St.step at hnext
      dsimp only at hnext
      by_cases h5 : tk lv n c.toNat = 5
      · rw [if_pos h5] at hnext
        have h1 : tk c.toNat 5 (oth c).toNat = 1 := by
          have := oth_n hcB
          unfold tk
          rw [if_neg (by omega)]
        repeat' ((conv => whnf); (first | with_reducible refine hnx _ _ ?_ _ _ rfl | with_reducible refine h33 _ _ _ _ _ _ hN hcB (by omega) (fun N' hN' => ?_) | with_reducible refine h33 _ _ _ _ _ _ hN' oth_b (by simp; omega) (fun N2 hN2 => ?_) | with_reducible refine h34 _ _ _ _ _ _ (by omega) ?_ | refine Branch.t (by rw [h5]; rfl) ?_ | with_reducible refine c63 hcB ?_ | (rw [h5, h1]; exact hnext _ _ .mk hN2) | refine New.mk (fun _ => ?_) | refine Look.at0 ?_ | refine Cell.row ?_ | refine Cell.buf ?_ | refine Cells.row rfl ?_ | refine Put.row rfl ?_ | refine Put.buf rfl ?_ | refine Look.at1 ?_ | refine Look.at2 ?_ | refine Look.at3 ?_ | refine Look.at4 ?_ | refine Look.at5 ?_ | refine Look.at6 ?_ | refine Look.at7 ?_ | refine Look.at8 ?_ | with_reducible refine Val.i64 (by omega) (by omega) ?_ | with_reducible refine Val.u8 (by omega) (by omega) ?_ | with_reducible refine Val.u32 (by omega) (by omega) ?_ | with_reducible refine Val.u64 (by omega) (by omega) ?_ | with_reducible refine Val.u8m ?_ | with_reducible refine Val.u32m ?_ | with_reducible refine Val.u64m ?_ | with_reducible refine Val.shr8 ?_ | with_reducible refine Val.shr16 (by decide) ?_ | with_reducible refine Val.shr24 (by decide) ?_ | with_reducible refine Val.raw ?_ | refine Branch.not ?_ | refine Branch.and ?_ | refine Branch.or ?_ | refine Branch.dt (by assumption) ?_ | refine Branch.df (by assumption) ?_ | refine Branch.dt rfl ?_ | refine Branch.dt (by omega) ?_ | refine Branch.df (by omega) ?_ | refine Branch.t rfl ?_ | refine Branch.f rfl ?_ | refine Branch.t (by assumption) ?_ | refine Branch.f (by assumption) ?_ | refine Branch.d (fun _ => ?_) (fun _ => ?_) | refine Branch.mk (fun _ => ?_) (fun _ => ?_) | refine Need.mk (by first | omega | decide | rfl) ?_ | refine Idx.nat (by omega) ?_ | refine Idx.auto (by first | omega | decide) (by first | omega | decide) ?_ | refine Cell.ro rfl ?_ | refine SDraw.all (by kernel_rfl) ?_ | refine Kept.k0 ?_ | refine Kept.k1 ?_ | refine Kept.k2 ?_ | refine Kept.k3 ?_ | refine Kept.k4 ?_))
      · rw [if_neg h5] at hnext
        repeat' ((conv => whnf); (first | with_reducible refine hnx _ _ ?_ _ _ rfl | with_reducible refine h33 _ _ _ _ _ _ hN hcB (by omega) (fun N' hN' => ?_) | with_reducible refine h34 _ _ _ _ _ _ (by omega) ?_ | refine Branch.df (by omega) ?_ | refine hnext _ _ .mk hN' | refine New.mk (fun _ => ?_) | refine Look.at0 ?_ | refine Cell.row ?_ | refine Cell.buf ?_ | refine Cells.row rfl ?_ | refine Put.row rfl ?_ | refine Put.buf rfl ?_ | refine Look.at1 ?_ | refine Look.at2 ?_ | refine Look.at3 ?_ | refine Look.at4 ?_ | refine Look.at5 ?_ | refine Look.at6 ?_ | refine Look.at7 ?_ | refine Look.at8 ?_ | with_reducible refine Val.i64 (by omega) (by omega) ?_ | with_reducible refine Val.u8 (by omega) (by omega) ?_ | with_reducible refine Val.u32 (by omega) (by omega) ?_ | with_reducible refine Val.u64 (by omega) (by omega) ?_ | with_reducible refine Val.u8m ?_ | with_reducible refine Val.u32m ?_ | with_reducible refine Val.u64m ?_ | with_reducible refine Val.shr8 ?_ | with_reducible refine Val.shr16 (by decide) ?_ | with_reducible refine Val.shr24 (by decide) ?_ | with_reducible refine Val.raw ?_ | refine Branch.not ?_ | refine Branch.and ?_ | refine Branch.or ?_ | refine Branch.dt (by assumption) ?_ | refine Branch.df (by assumption) ?_ | refine Branch.dt rfl ?_ | refine Branch.dt (by omega) ?_ | refine Branch.df (by omega) ?_ | refine Branch.t rfl ?_ | refine Branch.f rfl ?_ | refine Branch.t (by assumption) ?_ | refine Branch.f (by assumption) ?_ | refine Branch.d (fun _ => ?_) (fun _ => ?_) | refine Branch.mk (fun _ => ?_) (fun _ => ?_) | refine Need.mk (by first | omega | decide | rfl) ?_ | refine Idx.nat (by omega) ?_ | refine Idx.auto (by first | omega | decide) (by first | omega | decide) ?_ | refine Cell.ro rfl ?_ | refine SDraw.all (by kernel_rfl) ?_ | refine Kept.k0 ?_ | refine Kept.k1 ?_ | refine Kept.k2 ?_ | refine Kept.k3 ?_ | refine Kept.k4 ?_))
    · have e : j = l.length := by omega
      subst e
      rw [List.take_length] at hN ⊢
      have hnx : ∀ (H : Heap) (K2 : Value → Heap → Prop), K2 (.tuple ⟨[.bool false]⟩) ((q, sIter (strOf l) l.length) :: H) → ∀ o xm, Oper.op o = .next xm true → RawV Tryz.prog o [ptr q] ((q, sIter (strOf l) l.length) :: H) K2 := fun H K2 hk o xm ho =>
        RawV.nextS0 ho (ascii hB) (fun h => hk) (fun b2 hb2 => by have := (List.getElem?_eq_some_iff.1 hb2).1; omega)
      have h36 : ∀ (x y : Nat × Blk) (K2 : Value → Heap → Prop), (∀ N', K2 (.string (strOf (stf l).out)) (x :: y :: (N' ++ H))) → SCalls Tryz.prog 34 [ptr b] (x :: y :: (N ++ H)) K2 := fun x y K2 hk =>
        SCalls.midH [x, y] H (c34 (pre := []) hN fun N' _ => hk N')
      have hk2 : ∀ (x y : Nat × Blk) (N : Heap), Keep (x :: y :: (N ++ H)) fun H' => K (.tuple ⟨[.string (strOf (stf l).out), .int .i64 0]⟩) H' := fun x y N => Keep.sub H (List.sublist_append_right (x :: y :: N) H) hK
      clear hR h32 hK
      repeat' ((conv => whnf); (first | with_reducible refine hnx _ _ ?_ _ _ rfl | refine Branch.f rfl ?_ | with_reducible refine h36 _ _ _ (fun N' => ?_) | with_reducible exact hk2 _ _ _ | refine New.mk (fun _ => ?_) | refine Look.at0 ?_ | refine Cell.row ?_ | refine Cell.buf ?_ | refine Cells.row rfl ?_ | refine Put.row rfl ?_ | refine Put.buf rfl ?_ | refine Look.at1 ?_ | refine Look.at2 ?_ | refine Look.at3 ?_ | refine Look.at4 ?_ | refine Look.at5 ?_ | refine Look.at6 ?_ | refine Look.at7 ?_ | refine Look.at8 ?_ | with_reducible refine Val.i64 (by omega) (by omega) ?_ | with_reducible refine Val.u8 (by omega) (by omega) ?_ | with_reducible refine Val.u32 (by omega) (by omega) ?_ | with_reducible refine Val.u64 (by omega) (by omega) ?_ | with_reducible refine Val.u8m ?_ | with_reducible refine Val.u32m ?_ | with_reducible refine Val.u64m ?_ | with_reducible refine Val.shr8 ?_ | with_reducible refine Val.shr16 (by decide) ?_ | with_reducible refine Val.shr24 (by decide) ?_ | with_reducible refine Val.raw ?_ | refine Branch.not ?_ | refine Branch.and ?_ | refine Branch.or ?_ | refine Branch.dt (by assumption) ?_ | refine Branch.df (by assumption) ?_ | refine Branch.dt rfl ?_ | refine Branch.dt (by omega) ?_ | refine Branch.df (by omega) ?_ | refine Branch.t rfl ?_ | refine Branch.f rfl ?_ | refine Branch.t (by assumption) ?_ | refine Branch.f (by assumption) ?_ | refine Branch.d (fun _ => ?_) (fun _ => ?_) | refine Branch.mk (fun _ => ?_) (fun _ => ?_) | refine Need.mk (by first | omega | decide | rfl) ?_ | refine Idx.nat (by omega) ?_ | refine Idx.auto (by first | omega | decide) (by first | omega | decide) ?_ | refine Cell.ro rfl ?_ | refine SDraw.all (by kernel_rfl) ?_ | refine Kept.k0 ?_ | refine Kept.k1 ?_ | refine Kept.k2 ?_ | refine Kept.k3 ?_ | refine Kept.k4 ?_))
  · exact absurd h0 h0'
end
end Go.Proofs.YtiaginlnapiijaaGreatDoor


/- Ported (port.py) from WrB. -/
set_option linter.unusedVariables false
set_option linter.unusedSimpArgs false
set_option maxRecDepth 100000
set_option maxHeartbeats 4000000
namespace Go.Proofs.YtiaginlnapiijaaGreatDoor
open Sx
section
variable {K : Value → Heap → Prop} {H : Heap}
end
section
variable {K : Value → Heap → Prop} {H : Heap}
end
def bitB (q : Nat) : UInt8 := if q = 0 then 48 else 49
/-- A number's digits, at most so many. -/
def binF : Nat → Nat → List UInt8
  | 0, _ => []
  | n + 1, u => if u < 2 then [bitB u] else binF n (u / 2) ++ [bitB (u % 2)]
/-- Just so many bits of a number. -/
def numB : Nat → Nat → List UInt8
  | 0, _ => []
  | w + 1, n => numB w (n / 2) ++ [bitB (n % 2)]
theorem numB_len : ∀ w n, (numB w n).length = w
  | 0, _ => rfl
  | w + 1, n => by simp [numB, numB_len w]
theorem numB_zero : ∀ w, numB w 0 = List.replicate w 48
  | 0 => rfl
  | w + 1 => by
    show numB w 0 ++ [bitB 0] = _
    rw [numB_zero w, List.replicate_succ']; rfl
theorem bitB_ok (q : Nat) : isB (bitB q) = true := by unfold bitB; split <;> rfl
theorem numB_ok : ∀ w n, ∀ b ∈ numB w n, isB b = true
  | 0, _, b, h => by cases h
  | w + 1, n, b, h => by
    rcases List.mem_append.1 h with h | h
    · exact numB_ok w _ b h
    · rw [List.mem_singleton.1 h]; exact bitB_ok _
theorem pad : ∀ (k w n : Nat), n < 2 ^ k → n < 2 ^ w → 1 ≤ w → (binF k n).length ≤ w ∧ List.replicate (w - (binF k n).length) 48 ++ binF k n = numB w n
  | 0, w, n, h1, _, _ => by
    obtain rfl : n = 0 := by simpa using h1
    exact ⟨Nat.zero_le _, by rw [numB_zero]; simp [binF]⟩
  | k + 1, w + 1, n, h1, h2, _ => by
    by_cases h : n < 2
    · have e : binF (k + 1) n = [bitB n] := by unfold binF; rw [if_pos h]
      rw [e]
      refine ⟨by simp, ?_⟩
      show _ = numB w (n / 2) ++ [bitB (n % 2)]
      rw [show n / 2 = 0 by omega, show n % 2 = n by omega, numB_zero]; simp
    · have e : binF (k + 1) n = binF k (n / 2) ++ [bitB (n % 2)] := by
        show (if n < 2 then _ else _) = _
        rw [if_neg h]
      have hw : 1 ≤ w := by
        rcases Nat.eq_zero_or_pos w with rfl | hw
        · simp at h2; omega
        · exact hw
      obtain ⟨i1, i2⟩ := pad k w (n / 2) (by rw [Nat.pow_succ] at h1; omega) (by rw [Nat.pow_succ] at h2; omega) hw
      rw [e]
      refine ⟨by simp; omega, ?_⟩
      show _ = numB w (n / 2) ++ [bitB (n % 2)]
      rw [← i2, ← List.append_assoc]
      congr 3
      simp
theorem bitB_n {q : Nat} (h : q < 2) : ((bitB q).toNat : Int) = 48 + (q : Int) := by
  unfold bitB
  rcases (by omega : q = 0 ∨ q = 1) with rfl | rfl <;> rfl
/-- The table that tells where a number's lowest bit is. -/
def Db (H : Heap) : Prop := ∃ b, (5, b) ∈ H ∧ b.cell 1 = some (.int .u8 1)
theorem Db.mono {H H' : Heap} (h : Db H) (hs : ∀ p ∈ H, p ∈ H') : Db H' := by
  obtain ⟨b, h1, h2⟩ := h
  exact ⟨b, hs _ h1, h2⟩
abbrev zv : Value := .int .u8 0
abbrev digR (p n : Nat) (ds : List UInt8) : Nat × Blk := (p, .row 185 (List.replicate n zv ++ cel ds) (0, 0))
theorem dig_put {n : Nat} {ds : List UInt8} (b : UInt8) : PutOk (.row 185 (List.replicate (n + 1) zv ++ cel ds) (0, 0)) (0 + n * 1) [.int .u8 (b.toNat : Int)] (.row 185 (List.replicate n zv ++ cel (b :: ds)) (0, 0)) := by
  refine PutOk.row (by simp) ?_
  have e0 : List.replicate (n + 1) zv ++ cel ds = List.replicate n zv ++ ([zv] ++ cel ds) := by rw [List.replicate_succ', List.append_assoc]
  rw [e0, Nat.zero_add, Nat.mul_one]
  have e1 : (List.replicate n zv ++ ([zv] ++ cel ds)).take n = List.replicate n zv := by
    conv => lhs; rw [show n = (List.replicate n zv).length by simp]
    simp only [List.length_replicate]
    rw [List.take_append_of_le_length (by simp)]; simp
  have e2 : (List.replicate n zv ++ ([zv] ++ cel ds)).drop (n + [Value.int .u8 (b.toNat : Int)].length) = cel ds := by
    rw [List.drop_append]; simp
  rw [e1, e2, List.append_assoc]; rfl
inductive S101 (A1 A3 A4 A10 A12 A13 A14 A15 A16 : Value) : List Value → Prop
  | mk {r0 r2 r5 r6 r7 r8 r9 r11 r17 r18 r19 r20 r21 r22 r23 r24 r25 r26 r27 r28 r29 r30 r31 r32 r33 r34 r35 r36 r37 r38 r39 r40 r41 r42 r43 r44 r45 r46 r47 r48 r49 r50 r51 r52 r53 r54 r55 r56 r57 r58 r59 r60 r61 r62 r63 r64 r65 r66 r67 r68 r69 r70 r71 r72 r73 r74 r75 r76 r77 r78 r79 r80 r81 r82 r83 r84 r85 r86 r87 r88 r89 r90 r91 r92 r93 r94 r95 r96 r97 r98 r99 r100 r101 : Value} : S101 A1 A3 A4 A10 A12 A13 A14 A15 A16 [r0, A1, r2, A3, A4, r5, r6, r7, r8, r9, A10, r11, A12, A13, A14, A15, A16, r17, r18, r19, r20, r21, r22, r23, r24, r25, r26, r27, r28, r29, r30, r31, r32, r33, r34, r35, r36, r37, r38, r39, r40, r41, r42, r43, r44, r45, r46, r47, r48, r49, r50, r51, r52, r53, r54, r55, r56, r57, r58, r59, r60, r61, r62, r63, r64, r65, r66, r67, r68, r69, r70, r71, r72, r73, r74, r75, r76, r77, r78, r79, r80, r81, r82, r83, r84, r85, r86, r87, r88, r89, r90, r91, r92, r93, r94, r95, r96, r97, r98, r99, r100, r101]
section
variable {K : Value → Heap → Prop} {H : Heap}
theorem c113 (hK : K (.bool true) H) : SCalls Tryz.prog 113 [.int .i64 2] H K := by
  refine enter113 ?_
  repeat' ((conv => whnf); (first | refine Val.to 1 rfl ?_ | refine Val.to 0 (by decide) ?_ | exact Keep.all hK | refine New.mk (fun _ => ?_) | refine Look.at0 ?_ | refine Cell.row ?_ | refine Cell.buf ?_ | refine Cells.row rfl ?_ | refine Put.row rfl ?_ | refine Put.buf rfl ?_ | refine Look.at1 ?_ | refine Look.at2 ?_ | refine Look.at3 ?_ | refine Look.at4 ?_ | refine Look.at5 ?_ | refine Look.at6 ?_ | refine Look.at7 ?_ | refine Look.at8 ?_ | with_reducible refine Val.i64 (by omega) (by omega) ?_ | with_reducible refine Val.u8 (by omega) (by omega) ?_ | with_reducible refine Val.u32 (by omega) (by omega) ?_ | with_reducible refine Val.u64 (by omega) (by omega) ?_ | with_reducible refine Val.u8m ?_ | with_reducible refine Val.u32m ?_ | with_reducible refine Val.u64m ?_ | with_reducible refine Val.shr8 ?_ | with_reducible refine Val.shr16 (by decide) ?_ | with_reducible refine Val.shr24 (by decide) ?_ | with_reducible refine Val.raw ?_ | refine Branch.not ?_ | refine Branch.and ?_ | refine Branch.or ?_ | refine Branch.dt (by assumption) ?_ | refine Branch.df (by assumption) ?_ | refine Branch.dt rfl ?_ | refine Branch.dt (by omega) ?_ | refine Branch.df (by omega) ?_ | refine Branch.t rfl ?_ | refine Branch.f rfl ?_ | refine Branch.t (by assumption) ?_ | refine Branch.f (by assumption) ?_ | refine Branch.d (fun _ => ?_) (fun _ => ?_) | refine Branch.mk (fun _ => ?_) (fun _ => ?_) | refine Need.mk (by first | omega | decide | rfl) ?_ | refine Idx.nat (by omega) ?_ | refine Idx.auto (by first | omega | decide) (by first | omega | decide) ?_ | refine Cell.ro rfl ?_ | refine SDraw.all (by kernel_rfl) ?_ | refine Kept.k0 ?_ | refine Kept.k1 ?_ | refine Kept.k2 ?_ | refine Kept.k3 ?_ | refine Kept.k4 ?_))
theorem c120 (hD : Db H) (hK : K (.int .i64 1) H) : SCalls Tryz.prog 120 [.int .u64 2] H K := by
  refine enter120 ?_
  obtain ⟨b, hm, hc⟩ := hD
  repeat' ((conv => whnf); (first | refine Val.to 18446744073709551614 (by decide) ?_ | refine Val.to 2 (by decide) ?_ | refine Val.to 571740426102707730 (by decide) ?_ | refine Val.to 1 (by decide) ?_ | refine Branch.f rfl ?_ | refine Idx.of 1 rfl (by decide) ?_ | refine Look.cell hm hc ?_ | exact Keep.all hK | refine New.mk (fun _ => ?_) | refine Look.at0 ?_ | refine Cell.row ?_ | refine Cell.buf ?_ | refine Cells.row rfl ?_ | refine Put.row rfl ?_ | refine Put.buf rfl ?_ | refine Look.at1 ?_ | refine Look.at2 ?_ | refine Look.at3 ?_ | refine Look.at4 ?_ | refine Look.at5 ?_ | refine Look.at6 ?_ | refine Look.at7 ?_ | refine Look.at8 ?_ | with_reducible refine Val.i64 (by omega) (by omega) ?_ | with_reducible refine Val.u8 (by omega) (by omega) ?_ | with_reducible refine Val.u32 (by omega) (by omega) ?_ | with_reducible refine Val.u64 (by omega) (by omega) ?_ | with_reducible refine Val.u8m ?_ | with_reducible refine Val.u32m ?_ | with_reducible refine Val.u64m ?_ | with_reducible refine Val.shr8 ?_ | with_reducible refine Val.shr16 (by decide) ?_ | with_reducible refine Val.shr24 (by decide) ?_ | with_reducible refine Val.raw ?_ | refine Branch.not ?_ | refine Branch.and ?_ | refine Branch.or ?_ | refine Branch.dt (by assumption) ?_ | refine Branch.df (by assumption) ?_ | refine Branch.dt rfl ?_ | refine Branch.dt (by omega) ?_ | refine Branch.df (by omega) ?_ | refine Branch.t rfl ?_ | refine Branch.f rfl ?_ | refine Branch.t (by assumption) ?_ | refine Branch.f (by assumption) ?_ | refine Branch.d (fun _ => ?_) (fun _ => ?_) | refine Branch.mk (fun _ => ?_) (fun _ => ?_) | refine Need.mk (by first | omega | decide | rfl) ?_ | refine Idx.nat (by omega) ?_ | refine Idx.auto (by first | omega | decide) (by first | omega | decide) ?_ | refine Cell.ro rfl ?_ | refine SDraw.all (by kernel_rfl) ?_ | refine Kept.k0 ?_ | refine Kept.k1 ?_ | refine Kept.k2 ?_ | refine Kept.k3 ?_ | refine Kept.k4 ?_))
theorem c114 (hD : Db H) (hK : K (.int .i64 1) H) : SCalls Tryz.prog 114 [.int .u64 2] H K := by
  refine enter114 ?_
  repeat' ((conv => whnf); (first | refine c120 hD ?_ | refine Branch.f rfl ?_ | exact Keep.all hK | refine New.mk (fun _ => ?_) | refine Look.at0 ?_ | refine Cell.row ?_ | refine Cell.buf ?_ | refine Cells.row rfl ?_ | refine Put.row rfl ?_ | refine Put.buf rfl ?_ | refine Look.at1 ?_ | refine Look.at2 ?_ | refine Look.at3 ?_ | refine Look.at4 ?_ | refine Look.at5 ?_ | refine Look.at6 ?_ | refine Look.at7 ?_ | refine Look.at8 ?_ | with_reducible refine Val.i64 (by omega) (by omega) ?_ | with_reducible refine Val.u8 (by omega) (by omega) ?_ | with_reducible refine Val.u32 (by omega) (by omega) ?_ | with_reducible refine Val.u64 (by omega) (by omega) ?_ | with_reducible refine Val.u8m ?_ | with_reducible refine Val.u32m ?_ | with_reducible refine Val.u64m ?_ | with_reducible refine Val.shr8 ?_ | with_reducible refine Val.shr16 (by decide) ?_ | with_reducible refine Val.shr24 (by decide) ?_ | with_reducible refine Val.raw ?_ | refine Branch.not ?_ | refine Branch.and ?_ | refine Branch.or ?_ | refine Branch.dt (by assumption) ?_ | refine Branch.df (by assumption) ?_ | refine Branch.dt rfl ?_ | refine Branch.dt (by omega) ?_ | refine Branch.df (by omega) ?_ | refine Branch.t rfl ?_ | refine Branch.f rfl ?_ | refine Branch.t (by assumption) ?_ | refine Branch.f (by assumption) ?_ | refine Branch.d (fun _ => ?_) (fun _ => ?_) | refine Branch.mk (fun _ => ?_) (fun _ => ?_) | refine Need.mk (by first | omega | decide | rfl) ?_ | refine Idx.nat (by omega) ?_ | refine Idx.auto (by first | omega | decide) (by first | omega | decide) ?_ | refine Cell.ro rfl ?_ | refine SDraw.all (by kernel_rfl) ?_ | refine Kept.k0 ?_ | refine Kept.k1 ?_ | refine Kept.k2 ?_ | refine Kept.k3 ?_ | refine Kept.k4 ?_))
theorem c101 {u : Nat} (hD : Db H) (hu : u < 2 ^ 64) (hK : K (.tuple ⟨[.slice none 0 0, .string (strOf (binF 64 u))]⟩) H) : SCalls Tryz.prog 101 [.slice none 0 0, .int .u64 (u : Int), .int .i64 2, .bool false, .bool false] H K := by
  refine enter101 ?_
  have h83 := fun (p : Nat × Blk) (K : Value → Heap → Prop) hk => c114 (K := K) (H := p :: H) (hD.mono fun q hq => .tail _ hq) hk
  repeat' ((conv => whnf); (first | refine c113 ?_ | refine h83 _ _ ?_ | refine Branch.f rfl ?_ | refine Branch.t rfl ?_ | refine Val.to 1 rfl ?_ | refine New.mk (fun _ => ?_) | refine Look.at0 ?_ | refine Cell.row ?_ | refine Cell.buf ?_ | refine Cells.row rfl ?_ | refine Put.row rfl ?_ | refine Put.buf rfl ?_ | refine Look.at1 ?_ | refine Look.at2 ?_ | refine Look.at3 ?_ | refine Look.at4 ?_ | refine Look.at5 ?_ | refine Look.at6 ?_ | refine Look.at7 ?_ | refine Look.at8 ?_ | with_reducible refine Val.i64 (by omega) (by omega) ?_ | with_reducible refine Val.u8 (by omega) (by omega) ?_ | with_reducible refine Val.u32 (by omega) (by omega) ?_ | with_reducible refine Val.u64 (by omega) (by omega) ?_ | with_reducible refine Val.u8m ?_ | with_reducible refine Val.u32m ?_ | with_reducible refine Val.u64m ?_ | with_reducible refine Val.shr8 ?_ | with_reducible refine Val.shr16 (by decide) ?_ | with_reducible refine Val.shr24 (by decide) ?_ | with_reducible refine Val.raw ?_ | refine Branch.not ?_ | refine Branch.and ?_ | refine Branch.or ?_ | refine Branch.dt (by assumption) ?_ | refine Branch.df (by assumption) ?_ | refine Branch.dt rfl ?_ | refine Branch.dt (by omega) ?_ | refine Branch.df (by omega) ?_ | refine Branch.t rfl ?_ | refine Branch.f rfl ?_ | refine Branch.t (by assumption) ?_ | refine Branch.f (by assumption) ?_ | refine Branch.d (fun _ => ?_) (fun _ => ?_) | refine Branch.mk (fun _ => ?_) (fun _ => ?_) | refine Need.mk (by first | omega | decide | rfl) ?_ | refine Idx.nat (by omega) ?_ | refine Idx.auto (by first | omega | decide) (by first | omega | decide) ?_ | refine Cell.ro rfl ?_ | refine SDraw.all (by kernel_rfl) ?_ | refine Kept.k0 ?_ | refine Kept.k1 ?_ | refine Kept.k2 ?_ | refine Kept.k3 ?_ | refine Kept.k4 ?_))
  rename_i p
  refine SLoop.invA (fun (x : Nat × List UInt8) S H' => x.2.length ≤ 63 ∧ x.1 < 2 ^ (64 - x.2.length) ∧ binF 64 u = binF (64 - x.2.length) x.1 ++ x.2 ∧ S101 (.int .u64 (x.1 : Int)) (.bool false) (.bool false) (.slice none 0 0) (ptr p) (.int .i64 ((65 - x.2.length : Nat) : Int)) (.int .u64 1) (.int .u64 2) (.int .u64 1) S ∧ H' = digR p (65 - x.2.length) x.2 :: H) (fun x => x.1) (u, []) (Keep.all ⟨Nat.zero_le _, hu, by simp, .mk, rfl⟩) ?_
  rintro ⟨c, ds⟩ S H' ⟨h1, h2, h3, hS, rfl⟩ R hR
  dsimp only at h1 h2 h3 hS hR ⊢
  cases hS
  obtain ⟨n, hn⟩ : ∃ n, 64 - ds.length = n := ⟨_, rfl⟩
  have hn1 : 65 - ds.length = n + 1 := by omega
  rw [hn] at h2 h3
  rw [hn1]
  have hc64 : c < 2 ^ IntKind.u64.bits := Nat.lt_of_lt_of_le h2 (by show 2 ^ n ≤ 2 ^ 64; exact Nat.pow_le_pow_right (by decide) (by omega))
  have hc64' : (c : Int) ≤ 18446744073709551615 := by
    have : (2 : Nat) ^ IntKind.u64.bits = 18446744073709551616 := rfl
    omega
  have hi : ((n + 1 : Nat) : Int) - 1 = (n : Int) := by omega
  have hvn : ∀ K : Int → Prop, K (n : Int) → Val (IntKind.i64.wrap (((n + 1 : Nat) : Int) - 1)) K := fun K hk => Val.to _ (by rw [wrap_i64 (by omega) (by omega)]; omega) hk
  by_cases hc2 : c < 2
  · obtain ⟨m, rfl⟩ : ∃ m, n = m + 1 := ⟨n - 1, by omega⟩
    have e : binF (m + 1) c = [bitB c] := by unfold binF; rw [if_pos hc2]
    rw [e] at h3
    have hput := dig_put (n := m + 1) (ds := ds) (bitB c)
    rw [bitB_n hc2] at hput
    have hstr : ∀ (o : Oper) (xx : Operand) (K2 : Value → Heap → Prop), o.op = .convert 84 9 xx → K2 (.string (strOf (bitB c :: ds))) (digR p (m + 1) (bitB c :: ds) :: H) → RawV Tryz.prog o [.slice (some ⟨p, 0 + (m + 1), none⟩) (65 - (m + 1)) (65 - (m + 1))] (digR p (m + 1) (bitB c :: ds) :: H) K2 := fun o xx K2 ho hk =>
      RawV.toStr (e := 5) (l := bitB c :: ds) ho (by kernel_rfl) (by kernel_rfl) (by kernel_rfl) (.head _) (by rw [List.length_cons]; omega) (fun j x hj => by
        show (List.replicate (m + 1) zv ++ cel (bitB c :: ds))[0 + (m + 1) + j]? = _
        rw [List.getElem?_append_right (by rw [List.length_replicate]; omega), List.length_replicate, show 0 + (m + 1) + j - (m + 1) = j by omega]
        exact cel_at hj) hk
    have hK' : K (.tuple ⟨[.slice none 0 0, .string (strOf (bitB c :: ds))]⟩) H := by rw [h3] at hK; exact hK
    clear hR hK
    have hge : ¬ (2 : Int) ≤ (c : Int) := by omega
    rcases (by omega : c = 0 ∨ c = 1) with rfl | rfl
    · repeat' ((conv => whnf); (first | refine Branch.df hge ?_ | with_reducible refine hvn _ ?_ | refine Idx.of 0 rfl (by decide) ?_ | refine Idx.of (m + 1) rfl (by omega) ?_ | refine ⟨[], _, H, rfl, _, hput, appK_to ?_⟩ | refine Branch.f rfl ?_ | refine RawV.sliceArrFrom (e := 5) (n := 65) (k := m + 1) rfl (by kernel_rfl) (by kernel_rfl) (by omega) ?_ | refine hstr _ _ _ rfl ?_ | exact Keep.d1 hK' | refine New.mk (fun _ => ?_) | refine Look.at0 ?_ | refine Cell.row ?_ | refine Cell.buf ?_ | refine Cells.row rfl ?_ | refine Put.row rfl ?_ | refine Put.buf rfl ?_ | refine Look.at1 ?_ | refine Look.at2 ?_ | refine Look.at3 ?_ | refine Look.at4 ?_ | refine Look.at5 ?_ | refine Look.at6 ?_ | refine Look.at7 ?_ | refine Look.at8 ?_ | with_reducible refine Val.i64 (by omega) (by omega) ?_ | with_reducible refine Val.u8 (by omega) (by omega) ?_ | with_reducible refine Val.u32 (by omega) (by omega) ?_ | with_reducible refine Val.u64 (by omega) (by omega) ?_ | with_reducible refine Val.u8m ?_ | with_reducible refine Val.u32m ?_ | with_reducible refine Val.u64m ?_ | with_reducible refine Val.shr8 ?_ | with_reducible refine Val.shr16 (by decide) ?_ | with_reducible refine Val.shr24 (by decide) ?_ | with_reducible refine Val.raw ?_ | refine Branch.not ?_ | refine Branch.and ?_ | refine Branch.or ?_ | refine Branch.dt (by assumption) ?_ | refine Branch.df (by assumption) ?_ | refine Branch.dt rfl ?_ | refine Branch.dt (by omega) ?_ | refine Branch.df (by omega) ?_ | refine Branch.t rfl ?_ | refine Branch.f rfl ?_ | refine Branch.t (by assumption) ?_ | refine Branch.f (by assumption) ?_ | refine Branch.d (fun _ => ?_) (fun _ => ?_) | refine Branch.mk (fun _ => ?_) (fun _ => ?_) | refine Need.mk (by first | omega | decide | rfl) ?_ | refine Idx.nat (by omega) ?_ | refine Idx.auto (by first | omega | decide) (by first | omega | decide) ?_ | refine Cell.ro rfl ?_ | refine SDraw.all (by kernel_rfl) ?_ | refine Kept.k0 ?_ | refine Kept.k1 ?_ | refine Kept.k2 ?_ | refine Kept.k3 ?_ | refine Kept.k4 ?_))
    · repeat' ((conv => whnf); (first | refine Branch.df hge ?_ | with_reducible refine hvn _ ?_ | refine Idx.of 1 rfl (by decide) ?_ | refine Idx.of (m + 1) rfl (by omega) ?_ | refine ⟨[], _, H, rfl, _, hput, appK_to ?_⟩ | refine Branch.f rfl ?_ | refine RawV.sliceArrFrom (e := 5) (n := 65) (k := m + 1) rfl (by kernel_rfl) (by kernel_rfl) (by omega) ?_ | refine hstr _ _ _ rfl ?_ | exact Keep.d1 hK' | refine New.mk (fun _ => ?_) | refine Look.at0 ?_ | refine Cell.row ?_ | refine Cell.buf ?_ | refine Cells.row rfl ?_ | refine Put.row rfl ?_ | refine Put.buf rfl ?_ | refine Look.at1 ?_ | refine Look.at2 ?_ | refine Look.at3 ?_ | refine Look.at4 ?_ | refine Look.at5 ?_ | refine Look.at6 ?_ | refine Look.at7 ?_ | refine Look.at8 ?_ | with_reducible refine Val.i64 (by omega) (by omega) ?_ | with_reducible refine Val.u8 (by omega) (by omega) ?_ | with_reducible refine Val.u32 (by omega) (by omega) ?_ | with_reducible refine Val.u64 (by omega) (by omega) ?_ | with_reducible refine Val.u8m ?_ | with_reducible refine Val.u32m ?_ | with_reducible refine Val.u64m ?_ | with_reducible refine Val.shr8 ?_ | with_reducible refine Val.shr16 (by decide) ?_ | with_reducible refine Val.shr24 (by decide) ?_ | with_reducible refine Val.raw ?_ | refine Branch.not ?_ | refine Branch.and ?_ | refine Branch.or ?_ | refine Branch.dt (by assumption) ?_ | refine Branch.df (by assumption) ?_ | refine Branch.dt rfl ?_ | refine Branch.dt (by omega) ?_ | refine Branch.df (by omega) ?_ | refine Branch.t rfl ?_ | refine Branch.f rfl ?_ | refine Branch.t (by assumption) ?_ | refine Branch.f (by assumption) ?_ | refine Branch.d (fun _ => ?_) (fun _ => ?_) | refine Branch.mk (fun _ => ?_) (fun _ => ?_) | refine Need.mk (by first | omega | decide | rfl) ?_ | refine Idx.nat (by omega) ?_ | refine Idx.auto (by first | omega | decide) (by first | omega | decide) ?_ | refine Cell.ro rfl ?_ | refine SDraw.all (by kernel_rfl) ?_ | refine Kept.k0 ?_ | refine Kept.k1 ?_ | refine Kept.k2 ?_ | refine Kept.k3 ?_ | refine Kept.k4 ?_))
  · obtain ⟨m, rfl⟩ : ∃ m, n = m + 1 + 1 := ⟨n - 2, by
      rcases (by omega : n = 0 ∨ n = 1 ∨ 2 ≤ n) with rfl | rfl | h
      · simp at h2; omega
      · simp at h2; omega
      · omega⟩
    have e : binF (m + 1 + 1) c = binF (m + 1) (c / 2) ++ [bitB (c % 2)] := by
      show (if c < 2 then _ else _) = _
      rw [if_neg hc2]
    rw [e, List.append_assoc] at h3
    have hput := dig_put (n := m + 1 + 1) (ds := ds) (bitB (c % 2))
    rw [bitB_n (Nat.mod_lt _ (by decide))] at hput
    have hlen : (bitB (c % 2) :: ds).length = ds.length + 1 := rfl
    have hnext : ∀ S, S101 (.int .u64 ((c / 2 : Nat) : Int)) (.bool false) (.bool false) (.slice none 0 0) (ptr p) (.int .i64 ((m + 1 + 1 : Nat) : Int)) (.int .u64 1) (.int .u64 2) (.int .u64 1) S → R S (digR p (m + 1 + 1) (bitB (c % 2) :: ds) :: H) := fun S hS => hR (c / 2, bitB (c % 2) :: ds) _ _ (by show c / 2 < c; omega) (Keep.all ⟨by show (bitB (c % 2) :: ds).length ≤ 63; omega, by
      show c / 2 < 2 ^ (64 - (bitB (c % 2) :: ds).length)
      rw [hlen, show 64 - (ds.length + 1) = m + 1 by omega]
      rw [Nat.pow_succ] at h2; omega, by
      show _ = binF (64 - (bitB (c % 2) :: ds).length) (c / 2) ++ (bitB (c % 2) :: ds)
      rw [hlen, show 64 - (ds.length + 1) = m + 1 by omega]
      exact h3, by
      show S101 _ _ _ _ _ (.int .i64 ((65 - (bitB (c % 2) :: ds).length : Nat) : Int)) _ _ _ S
      rw [hlen, show 65 - (ds.length + 1) = m + 1 + 1 by omega]
      exact hS, by
      show _ = digR p (65 - (bitB (c % 2) :: ds).length) (bitB (c % 2) :: ds) :: H
      rw [hlen, show 65 - (ds.length + 1) = m + 1 + 1 by omega]⟩)
    clear hR hK
    have hge : (2 : Int) ≤ (c : Int) := by omega
    have hshr : ∀ K : Int → Prop, K ((c / 2 : Nat) : Int) → Val (shrI .u64 (c : Int) 1) K := fun K hk => Val.to _ (shr_nat (k := .u64) (n := 1) (by decide)) hk
    have hand : bitAnd .u64 (c : Int) 1 = ((c % 2 : Nat) : Int) := bitMask_nat (k := .u64) rfl (a := c) (n := 1) hc64 (by decide)
    rcases (by omega : c % 2 = 0 ∨ c % 2 = 1) with hq | hq <;> rw [hq] at hand hput hnext
    · repeat' ((conv => whnf); (first | refine Branch.dt hge ?_ | with_reducible refine hvn _ ?_ | with_reducible refine Val.to _ hand ?_ | refine Idx.of 0 rfl (by decide) ?_ | refine Idx.of (m + 1 + 1) rfl (by omega) ?_ | refine ⟨[], _, H, rfl, _, hput, appK_to ?_⟩ | with_reducible refine hshr _ ?_ | exact hnext _ .mk | refine New.mk (fun _ => ?_) | refine Look.at0 ?_ | refine Cell.row ?_ | refine Cell.buf ?_ | refine Cells.row rfl ?_ | refine Put.row rfl ?_ | refine Put.buf rfl ?_ | refine Look.at1 ?_ | refine Look.at2 ?_ | refine Look.at3 ?_ | refine Look.at4 ?_ | refine Look.at5 ?_ | refine Look.at6 ?_ | refine Look.at7 ?_ | refine Look.at8 ?_ | with_reducible refine Val.i64 (by omega) (by omega) ?_ | with_reducible refine Val.u8 (by omega) (by omega) ?_ | with_reducible refine Val.u32 (by omega) (by omega) ?_ | with_reducible refine Val.u64 (by omega) (by omega) ?_ | with_reducible refine Val.u8m ?_ | with_reducible refine Val.u32m ?_ | with_reducible refine Val.u64m ?_ | with_reducible refine Val.shr8 ?_ | with_reducible refine Val.shr16 (by decide) ?_ | with_reducible refine Val.shr24 (by decide) ?_ | with_reducible refine Val.raw ?_ | refine Branch.not ?_ | refine Branch.and ?_ | refine Branch.or ?_ | refine Branch.dt (by assumption) ?_ | refine Branch.df (by assumption) ?_ | refine Branch.dt rfl ?_ | refine Branch.dt (by omega) ?_ | refine Branch.df (by omega) ?_ | refine Branch.t rfl ?_ | refine Branch.f rfl ?_ | refine Branch.t (by assumption) ?_ | refine Branch.f (by assumption) ?_ | refine Branch.d (fun _ => ?_) (fun _ => ?_) | refine Branch.mk (fun _ => ?_) (fun _ => ?_) | refine Need.mk (by first | omega | decide | rfl) ?_ | refine Idx.nat (by omega) ?_ | refine Idx.auto (by first | omega | decide) (by first | omega | decide) ?_ | refine Cell.ro rfl ?_ | refine SDraw.all (by kernel_rfl) ?_ | refine Kept.k0 ?_ | refine Kept.k1 ?_ | refine Kept.k2 ?_ | refine Kept.k3 ?_ | refine Kept.k4 ?_))
    · repeat' ((conv => whnf); (first | refine Branch.dt hge ?_ | with_reducible refine hvn _ ?_ | with_reducible refine Val.to _ hand ?_ | refine Idx.of 1 rfl (by decide) ?_ | refine Idx.of (m + 1 + 1) rfl (by omega) ?_ | refine ⟨[], _, H, rfl, _, hput, appK_to ?_⟩ | with_reducible refine hshr _ ?_ | exact hnext _ .mk | refine New.mk (fun _ => ?_) | refine Look.at0 ?_ | refine Cell.row ?_ | refine Cell.buf ?_ | refine Cells.row rfl ?_ | refine Put.row rfl ?_ | refine Put.buf rfl ?_ | refine Look.at1 ?_ | refine Look.at2 ?_ | refine Look.at3 ?_ | refine Look.at4 ?_ | refine Look.at5 ?_ | refine Look.at6 ?_ | refine Look.at7 ?_ | refine Look.at8 ?_ | with_reducible refine Val.i64 (by omega) (by omega) ?_ | with_reducible refine Val.u8 (by omega) (by omega) ?_ | with_reducible refine Val.u32 (by omega) (by omega) ?_ | with_reducible refine Val.u64 (by omega) (by omega) ?_ | with_reducible refine Val.u8m ?_ | with_reducible refine Val.u32m ?_ | with_reducible refine Val.u64m ?_ | with_reducible refine Val.shr8 ?_ | with_reducible refine Val.shr16 (by decide) ?_ | with_reducible refine Val.shr24 (by decide) ?_ | with_reducible refine Val.raw ?_ | refine Branch.not ?_ | refine Branch.and ?_ | refine Branch.or ?_ | refine Branch.dt (by assumption) ?_ | refine Branch.df (by assumption) ?_ | refine Branch.dt rfl ?_ | refine Branch.dt (by omega) ?_ | refine Branch.df (by omega) ?_ | refine Branch.t rfl ?_ | refine Branch.f rfl ?_ | refine Branch.t (by assumption) ?_ | refine Branch.f (by assumption) ?_ | refine Branch.d (fun _ => ?_) (fun _ => ?_) | refine Branch.mk (fun _ => ?_) (fun _ => ?_) | refine Need.mk (by first | omega | decide | rfl) ?_ | refine Idx.nat (by omega) ?_ | refine Idx.auto (by first | omega | decide) (by first | omega | decide) ?_ | refine Cell.ro rfl ?_ | refine SDraw.all (by kernel_rfl) ?_ | refine Kept.k0 ?_ | refine Kept.k1 ?_ | refine Kept.k2 ?_ | refine Kept.k3 ?_ | refine Kept.k4 ?_))
theorem c85 {u : Nat} (hD : Db H) (hu : u < 2 ^ 64) (hK : K (.string (strOf (binF 64 u))) H) : SCalls Tryz.prog 85 [.int .u64 (u : Int), .int .i64 2] H K := by
  refine enter85 ?_
  repeat' ((conv => whnf); (first | refine c101 hD hu ?_ | refine Branch.f rfl ?_ | exact Keep.all hK | refine New.mk (fun _ => ?_) | refine Look.at0 ?_ | refine Cell.row ?_ | refine Cell.buf ?_ | refine Cells.row rfl ?_ | refine Put.row rfl ?_ | refine Put.buf rfl ?_ | refine Look.at1 ?_ | refine Look.at2 ?_ | refine Look.at3 ?_ | refine Look.at4 ?_ | refine Look.at5 ?_ | refine Look.at6 ?_ | refine Look.at7 ?_ | refine Look.at8 ?_ | with_reducible refine Val.i64 (by omega) (by omega) ?_ | with_reducible refine Val.u8 (by omega) (by omega) ?_ | with_reducible refine Val.u32 (by omega) (by omega) ?_ | with_reducible refine Val.u64 (by omega) (by omega) ?_ | with_reducible refine Val.u8m ?_ | with_reducible refine Val.u32m ?_ | with_reducible refine Val.u64m ?_ | with_reducible refine Val.shr8 ?_ | with_reducible refine Val.shr16 (by decide) ?_ | with_reducible refine Val.shr24 (by decide) ?_ | with_reducible refine Val.raw ?_ | refine Branch.not ?_ | refine Branch.and ?_ | refine Branch.or ?_ | refine Branch.dt (by assumption) ?_ | refine Branch.df (by assumption) ?_ | refine Branch.dt rfl ?_ | refine Branch.dt (by omega) ?_ | refine Branch.df (by omega) ?_ | refine Branch.t rfl ?_ | refine Branch.f rfl ?_ | refine Branch.t (by assumption) ?_ | refine Branch.f (by assumption) ?_ | refine Branch.d (fun _ => ?_) (fun _ => ?_) | refine Branch.mk (fun _ => ?_) (fun _ => ?_) | refine Need.mk (by first | omega | decide | rfl) ?_ | refine Idx.nat (by omega) ?_ | refine Idx.auto (by first | omega | decide) (by first | omega | decide) ?_ | refine Cell.ro rfl ?_ | refine SDraw.all (by kernel_rfl) ?_ | refine Kept.k0 ?_ | refine Kept.k1 ?_ | refine Kept.k2 ?_ | refine Kept.k3 ?_ | refine Kept.k4 ?_))
theorem c76 {u : Nat} (hD : Db H) (hu : u < 2 ^ 64) (hK : K (.string (strOf (binF 64 u))) H) : SCalls Tryz.prog 76 [.int .u64 (u : Int), .int .i64 2] H K := by
  refine enter76 ?_
  repeat' ((conv => whnf); (first | refine c85 hD hu ?_ | exact Keep.all hK | refine New.mk (fun _ => ?_) | refine Look.at0 ?_ | refine Cell.row ?_ | refine Cell.buf ?_ | refine Cells.row rfl ?_ | refine Put.row rfl ?_ | refine Put.buf rfl ?_ | refine Look.at1 ?_ | refine Look.at2 ?_ | refine Look.at3 ?_ | refine Look.at4 ?_ | refine Look.at5 ?_ | refine Look.at6 ?_ | refine Look.at7 ?_ | refine Look.at8 ?_ | with_reducible refine Val.i64 (by omega) (by omega) ?_ | with_reducible refine Val.u8 (by omega) (by omega) ?_ | with_reducible refine Val.u32 (by omega) (by omega) ?_ | with_reducible refine Val.u64 (by omega) (by omega) ?_ | with_reducible refine Val.u8m ?_ | with_reducible refine Val.u32m ?_ | with_reducible refine Val.u64m ?_ | with_reducible refine Val.shr8 ?_ | with_reducible refine Val.shr16 (by decide) ?_ | with_reducible refine Val.shr24 (by decide) ?_ | with_reducible refine Val.raw ?_ | refine Branch.not ?_ | refine Branch.and ?_ | refine Branch.or ?_ | refine Branch.dt (by assumption) ?_ | refine Branch.df (by assumption) ?_ | refine Branch.dt rfl ?_ | refine Branch.dt (by omega) ?_ | refine Branch.df (by omega) ?_ | refine Branch.t rfl ?_ | refine Branch.f rfl ?_ | refine Branch.t (by assumption) ?_ | refine Branch.f (by assumption) ?_ | refine Branch.d (fun _ => ?_) (fun _ => ?_) | refine Branch.mk (fun _ => ?_) (fun _ => ?_) | refine Need.mk (by first | omega | decide | rfl) ?_ | refine Idx.nat (by omega) ?_ | refine Idx.auto (by first | omega | decide) (by first | omega | decide) ?_ | refine Cell.ro rfl ?_ | refine SDraw.all (by kernel_rfl) ?_ | refine Kept.k0 ?_ | refine Kept.k1 ?_ | refine Kept.k2 ?_ | refine Kept.k3 ?_ | refine Kept.k4 ?_))
end
def numV (n : Nat) (w : Int) : List UInt8 × Int := if 0 ≤ w ∧ w ≤ 64 ∧ n < 2 ^ w.toNat then (numB w.toNat n, 0) else ([], 1)
section
variable {K : Value → Heap → Prop} {H : Heap}
theorem c103 {k : Nat} (hk : k ≤ 64) (hK : K (.tuple ⟨[.int .u64 0, .int .u64 (k : Int)]⟩) H) : SCalls Tryz.prog 103 [.int .u64 1, .int .u64 (k : Int)] H K := by
  refine enter103 ?_
  have h1 : bitAnd .u64 (k : Int) 4294967295 = (k : Int) := by
    have := bitMask_nat (k := .u64) rfl (a := k) (n := 32) (by show k < 18446744073709551616; omega) (by decide)
    rw [Nat.mod_eq_of_lt (show k < 2 ^ 32 by omega)] at this
    exact this
  have h2 : shrI .u64 (k : Int) 32 = 0 := by
    have := shr_nat (k := .u64) (a := k) (n := 32) (by decide)
    rw [Nat.div_eq_of_lt (show k < 2 ^ 32 by omega)] at this
    exact this
  repeat' ((conv => whnf); (first | with_reducible refine Val.to _ h1 ?_ | with_reducible refine Val.to _ h2 ?_ | refine Val.to 0 (by decide) ?_ | refine Val.to 1 (by decide) ?_ | refine Val.to (k : Int) (by rw [wrap_u64]; omega) ?_ | refine Val.to 0 (by rw [wrap_u64]; omega) ?_ | exact Keep.all hK | refine New.mk (fun _ => ?_) | refine Look.at0 ?_ | refine Cell.row ?_ | refine Cell.buf ?_ | refine Cells.row rfl ?_ | refine Put.row rfl ?_ | refine Put.buf rfl ?_ | refine Look.at1 ?_ | refine Look.at2 ?_ | refine Look.at3 ?_ | refine Look.at4 ?_ | refine Look.at5 ?_ | refine Look.at6 ?_ | refine Look.at7 ?_ | refine Look.at8 ?_ | with_reducible refine Val.i64 (by omega) (by omega) ?_ | with_reducible refine Val.u8 (by omega) (by omega) ?_ | with_reducible refine Val.u32 (by omega) (by omega) ?_ | with_reducible refine Val.u64 (by omega) (by omega) ?_ | with_reducible refine Val.u8m ?_ | with_reducible refine Val.u32m ?_ | with_reducible refine Val.u64m ?_ | with_reducible refine Val.shr8 ?_ | with_reducible refine Val.shr16 (by decide) ?_ | with_reducible refine Val.shr24 (by decide) ?_ | with_reducible refine Val.raw ?_ | refine Branch.not ?_ | refine Branch.and ?_ | refine Branch.or ?_ | refine Branch.dt (by assumption) ?_ | refine Branch.df (by assumption) ?_ | refine Branch.dt rfl ?_ | refine Branch.dt (by omega) ?_ | refine Branch.df (by omega) ?_ | refine Branch.t rfl ?_ | refine Branch.f rfl ?_ | refine Branch.t (by assumption) ?_ | refine Branch.f (by assumption) ?_ | refine Branch.d (fun _ => ?_) (fun _ => ?_) | refine Branch.mk (fun _ => ?_) (fun _ => ?_) | refine Need.mk (by first | omega | decide | rfl) ?_ | refine Idx.nat (by omega) ?_ | refine Idx.auto (by first | omega | decide) (by first | omega | decide) ?_ | refine Cell.ro rfl ?_ | refine SDraw.all (by kernel_rfl) ?_ | refine Kept.k0 ?_ | refine Kept.k1 ?_ | refine Kept.k2 ?_ | refine Kept.k3 ?_ | refine Kept.k4 ?_))
theorem c86 {k : Nat} (hk : k ≤ 64) (hK : K (.tuple ⟨[.int .u64 0, .int .u64 (k : Int)]⟩) H) : SCalls Tryz.prog 86 [.int .u64 1, .int .u64 (k : Int)] H K := by
  refine enter86 ?_
  repeat' ((conv => whnf); (first | refine c103 hk ?_ | refine Branch.f rfl ?_ | exact Keep.all hK | refine New.mk (fun _ => ?_) | refine Look.at0 ?_ | refine Cell.row ?_ | refine Cell.buf ?_ | refine Cells.row rfl ?_ | refine Put.row rfl ?_ | refine Put.buf rfl ?_ | refine Look.at1 ?_ | refine Look.at2 ?_ | refine Look.at3 ?_ | refine Look.at4 ?_ | refine Look.at5 ?_ | refine Look.at6 ?_ | refine Look.at7 ?_ | refine Look.at8 ?_ | with_reducible refine Val.i64 (by omega) (by omega) ?_ | with_reducible refine Val.u8 (by omega) (by omega) ?_ | with_reducible refine Val.u32 (by omega) (by omega) ?_ | with_reducible refine Val.u64 (by omega) (by omega) ?_ | with_reducible refine Val.u8m ?_ | with_reducible refine Val.u32m ?_ | with_reducible refine Val.u64m ?_ | with_reducible refine Val.shr8 ?_ | with_reducible refine Val.shr16 (by decide) ?_ | with_reducible refine Val.shr24 (by decide) ?_ | with_reducible refine Val.raw ?_ | refine Branch.not ?_ | refine Branch.and ?_ | refine Branch.or ?_ | refine Branch.dt (by assumption) ?_ | refine Branch.df (by assumption) ?_ | refine Branch.dt rfl ?_ | refine Branch.dt (by omega) ?_ | refine Branch.df (by omega) ?_ | refine Branch.t rfl ?_ | refine Branch.f rfl ?_ | refine Branch.t (by assumption) ?_ | refine Branch.f (by assumption) ?_ | refine Branch.d (fun _ => ?_) (fun _ => ?_) | refine Branch.mk (fun _ => ?_) (fun _ => ?_) | refine Need.mk (by first | omega | decide | rfl) ?_ | refine Idx.nat (by omega) ?_ | refine Idx.auto (by first | omega | decide) (by first | omega | decide) ?_ | refine Cell.ro rfl ?_ | refine SDraw.all (by kernel_rfl) ?_ | refine Kept.k0 ?_ | refine Kept.k1 ?_ | refine Kept.k2 ?_ | refine Kept.k3 ?_ | refine Kept.k4 ?_))
theorem c104 {l p : List UInt8} (hK : K (.bool (decide (p.length ≤ l.length) && decide (l.take p.length = p))) H) : SCalls Tryz.prog 104 [.string (strOf l), .string (strOf p)] H K := by
  refine enter104 ?_
  have hl : (strOf l).size = l.length := strOf_size l
  have hp : (strOf p).size = p.length := strOf_size p
  by_cases h : p.length ≤ l.length
  · have hcut : decide ((strOf l).extract 0 p.length = strOf p) = decide (l.take p.length = p) := by
      rw [strOf_cut, strOf_eq]; simp
    rw [decide_eq_true h, Bool.true_and, ← hcut] at hK
    repeat' ((conv => whnf); (first | refine Branch.dt (by omega) ?_ | refine Idx.of p.length (by omega) (by omega) ?_ | exact Keep.all hK | refine New.mk (fun _ => ?_) | refine Look.at0 ?_ | refine Cell.row ?_ | refine Cell.buf ?_ | refine Cells.row rfl ?_ | refine Put.row rfl ?_ | refine Put.buf rfl ?_ | refine Look.at1 ?_ | refine Look.at2 ?_ | refine Look.at3 ?_ | refine Look.at4 ?_ | refine Look.at5 ?_ | refine Look.at6 ?_ | refine Look.at7 ?_ | refine Look.at8 ?_ | with_reducible refine Val.i64 (by omega) (by omega) ?_ | with_reducible refine Val.u8 (by omega) (by omega) ?_ | with_reducible refine Val.u32 (by omega) (by omega) ?_ | with_reducible refine Val.u64 (by omega) (by omega) ?_ | with_reducible refine Val.u8m ?_ | with_reducible refine Val.u32m ?_ | with_reducible refine Val.u64m ?_ | with_reducible refine Val.shr8 ?_ | with_reducible refine Val.shr16 (by decide) ?_ | with_reducible refine Val.shr24 (by decide) ?_ | with_reducible refine Val.raw ?_ | refine Branch.not ?_ | refine Branch.and ?_ | refine Branch.or ?_ | refine Branch.dt (by assumption) ?_ | refine Branch.df (by assumption) ?_ | refine Branch.dt rfl ?_ | refine Branch.dt (by omega) ?_ | refine Branch.df (by omega) ?_ | refine Branch.t rfl ?_ | refine Branch.f rfl ?_ | refine Branch.t (by assumption) ?_ | refine Branch.f (by assumption) ?_ | refine Branch.d (fun _ => ?_) (fun _ => ?_) | refine Branch.mk (fun _ => ?_) (fun _ => ?_) | refine Need.mk (by first | omega | decide | rfl) ?_ | refine Idx.nat (by omega) ?_ | refine Idx.auto (by first | omega | decide) (by first | omega | decide) ?_ | refine Cell.ro rfl ?_ | refine SDraw.all (by kernel_rfl) ?_ | refine Kept.k0 ?_ | refine Kept.k1 ?_ | refine Kept.k2 ?_ | refine Kept.k3 ?_ | refine Kept.k4 ?_))
  · rw [decide_eq_false h, Bool.false_and] at hK
    repeat' ((conv => whnf); (first | refine Branch.df (by omega) ?_ | exact Keep.all hK | refine New.mk (fun _ => ?_) | refine Look.at0 ?_ | refine Cell.row ?_ | refine Cell.buf ?_ | refine Cells.row rfl ?_ | refine Put.row rfl ?_ | refine Put.buf rfl ?_ | refine Look.at1 ?_ | refine Look.at2 ?_ | refine Look.at3 ?_ | refine Look.at4 ?_ | refine Look.at5 ?_ | refine Look.at6 ?_ | refine Look.at7 ?_ | refine Look.at8 ?_ | with_reducible refine Val.i64 (by omega) (by omega) ?_ | with_reducible refine Val.u8 (by omega) (by omega) ?_ | with_reducible refine Val.u32 (by omega) (by omega) ?_ | with_reducible refine Val.u64 (by omega) (by omega) ?_ | with_reducible refine Val.u8m ?_ | with_reducible refine Val.u32m ?_ | with_reducible refine Val.u64m ?_ | with_reducible refine Val.shr8 ?_ | with_reducible refine Val.shr16 (by decide) ?_ | with_reducible refine Val.shr24 (by decide) ?_ | with_reducible refine Val.raw ?_ | refine Branch.not ?_ | refine Branch.and ?_ | refine Branch.or ?_ | refine Branch.dt (by assumption) ?_ | refine Branch.df (by assumption) ?_ | refine Branch.dt rfl ?_ | refine Branch.dt (by omega) ?_ | refine Branch.df (by omega) ?_ | refine Branch.t rfl ?_ | refine Branch.f rfl ?_ | refine Branch.t (by assumption) ?_ | refine Branch.f (by assumption) ?_ | refine Branch.d (fun _ => ?_) (fun _ => ?_) | refine Branch.mk (fun _ => ?_) (fun _ => ?_) | refine Need.mk (by first | omega | decide | rfl) ?_ | refine Idx.nat (by omega) ?_ | refine Idx.auto (by first | omega | decide) (by first | omega | decide) ?_ | refine Cell.ro rfl ?_ | refine SDraw.all (by kernel_rfl) ?_ | refine Kept.k0 ?_ | refine Kept.k1 ?_ | refine Kept.k2 ?_ | refine Kept.k3 ?_ | refine Kept.k4 ?_))
theorem c87 {l p : List UInt8} (hK : K (.bool (decide (p.length ≤ l.length) && decide (l.take p.length = p))) H) : SCalls Tryz.prog 87 [.string (strOf l), .string (strOf p)] H K := by
  refine enter87 ?_
  repeat' ((conv => whnf); (first | refine c104 ?_ | exact Keep.all hK | refine New.mk (fun _ => ?_) | refine Look.at0 ?_ | refine Cell.row ?_ | refine Cell.buf ?_ | refine Cells.row rfl ?_ | refine Put.row rfl ?_ | refine Put.buf rfl ?_ | refine Look.at1 ?_ | refine Look.at2 ?_ | refine Look.at3 ?_ | refine Look.at4 ?_ | refine Look.at5 ?_ | refine Look.at6 ?_ | refine Look.at7 ?_ | refine Look.at8 ?_ | with_reducible refine Val.i64 (by omega) (by omega) ?_ | with_reducible refine Val.u8 (by omega) (by omega) ?_ | with_reducible refine Val.u32 (by omega) (by omega) ?_ | with_reducible refine Val.u64 (by omega) (by omega) ?_ | with_reducible refine Val.u8m ?_ | with_reducible refine Val.u32m ?_ | with_reducible refine Val.u64m ?_ | with_reducible refine Val.shr8 ?_ | with_reducible refine Val.shr16 (by decide) ?_ | with_reducible refine Val.shr24 (by decide) ?_ | with_reducible refine Val.raw ?_ | refine Branch.not ?_ | refine Branch.and ?_ | refine Branch.or ?_ | refine Branch.dt (by assumption) ?_ | refine Branch.df (by assumption) ?_ | refine Branch.dt rfl ?_ | refine Branch.dt (by omega) ?_ | refine Branch.df (by omega) ?_ | refine Branch.t rfl ?_ | refine Branch.f rfl ?_ | refine Branch.t (by assumption) ?_ | refine Branch.f (by assumption) ?_ | refine Branch.d (fun _ => ?_) (fun _ => ?_) | refine Branch.mk (fun _ => ?_) (fun _ => ?_) | refine Need.mk (by first | omega | decide | rfl) ?_ | refine Idx.nat (by omega) ?_ | refine Idx.auto (by first | omega | decide) (by first | omega | decide) ?_ | refine Cell.ro rfl ?_ | refine SDraw.all (by kernel_rfl) ?_ | refine Kept.k0 ?_ | refine Kept.k1 ?_ | refine Kept.k2 ?_ | refine Kept.k3 ?_ | refine Kept.k4 ?_))
theorem c77z {k : Nat} (hk : k ≤ 64) (hK : K (.string (strOf (List.replicate k 48))) H) : SCalls Tryz.prog 77 [.string ⟨#[48]⟩, .int .i64 (k : Int)] H K := by
  refine enter77 ?_
  rcases (by omega : k = 0 ∨ k = 1 ∨ 2 ≤ k) with rfl | rfl | h2
  · repeat' ((conv => whnf); (first | refine Branch.t rfl ?_ | exact Keep.all hK | refine New.mk (fun _ => ?_) | refine Look.at0 ?_ | refine Cell.row ?_ | refine Cell.buf ?_ | refine Cells.row rfl ?_ | refine Put.row rfl ?_ | refine Put.buf rfl ?_ | refine Look.at1 ?_ | refine Look.at2 ?_ | refine Look.at3 ?_ | refine Look.at4 ?_ | refine Look.at5 ?_ | refine Look.at6 ?_ | refine Look.at7 ?_ | refine Look.at8 ?_ | with_reducible refine Val.i64 (by omega) (by omega) ?_ | with_reducible refine Val.u8 (by omega) (by omega) ?_ | with_reducible refine Val.u32 (by omega) (by omega) ?_ | with_reducible refine Val.u64 (by omega) (by omega) ?_ | with_reducible refine Val.u8m ?_ | with_reducible refine Val.u32m ?_ | with_reducible refine Val.u64m ?_ | with_reducible refine Val.shr8 ?_ | with_reducible refine Val.shr16 (by decide) ?_ | with_reducible refine Val.shr24 (by decide) ?_ | with_reducible refine Val.raw ?_ | refine Branch.not ?_ | refine Branch.and ?_ | refine Branch.or ?_ | refine Branch.dt (by assumption) ?_ | refine Branch.df (by assumption) ?_ | refine Branch.dt rfl ?_ | refine Branch.dt (by omega) ?_ | refine Branch.df (by omega) ?_ | refine Branch.t rfl ?_ | refine Branch.f rfl ?_ | refine Branch.t (by assumption) ?_ | refine Branch.f (by assumption) ?_ | refine Branch.d (fun _ => ?_) (fun _ => ?_) | refine Branch.mk (fun _ => ?_) (fun _ => ?_) | refine Need.mk (by first | omega | decide | rfl) ?_ | refine Idx.nat (by omega) ?_ | refine Idx.auto (by first | omega | decide) (by first | omega | decide) ?_ | refine Cell.ro rfl ?_ | refine SDraw.all (by kernel_rfl) ?_ | refine Kept.k0 ?_ | refine Kept.k1 ?_ | refine Kept.k2 ?_ | refine Kept.k3 ?_ | refine Kept.k4 ?_))
  · repeat' ((conv => whnf); (first | refine Branch.t rfl ?_ | refine Branch.f rfl ?_ | exact Keep.all hK | refine New.mk (fun _ => ?_) | refine Look.at0 ?_ | refine Cell.row ?_ | refine Cell.buf ?_ | refine Cells.row rfl ?_ | refine Put.row rfl ?_ | refine Put.buf rfl ?_ | refine Look.at1 ?_ | refine Look.at2 ?_ | refine Look.at3 ?_ | refine Look.at4 ?_ | refine Look.at5 ?_ | refine Look.at6 ?_ | refine Look.at7 ?_ | refine Look.at8 ?_ | with_reducible refine Val.i64 (by omega) (by omega) ?_ | with_reducible refine Val.u8 (by omega) (by omega) ?_ | with_reducible refine Val.u32 (by omega) (by omega) ?_ | with_reducible refine Val.u64 (by omega) (by omega) ?_ | with_reducible refine Val.u8m ?_ | with_reducible refine Val.u32m ?_ | with_reducible refine Val.u64m ?_ | with_reducible refine Val.shr8 ?_ | with_reducible refine Val.shr16 (by decide) ?_ | with_reducible refine Val.shr24 (by decide) ?_ | with_reducible refine Val.raw ?_ | refine Branch.not ?_ | refine Branch.and ?_ | refine Branch.or ?_ | refine Branch.dt (by assumption) ?_ | refine Branch.df (by assumption) ?_ | refine Branch.dt rfl ?_ | refine Branch.dt (by omega) ?_ | refine Branch.df (by omega) ?_ | refine Branch.t rfl ?_ | refine Branch.f rfl ?_ | refine Branch.t (by assumption) ?_ | refine Branch.f (by assumption) ?_ | refine Branch.d (fun _ => ?_) (fun _ => ?_) | refine Branch.mk (fun _ => ?_) (fun _ => ?_) | refine Need.mk (by first | omega | decide | rfl) ?_ | refine Idx.nat (by omega) ?_ | refine Idx.auto (by first | omega | decide) (by first | omega | decide) ?_ | refine Cell.ro rfl ?_ | refine SDraw.all (by kernel_rfl) ?_ | refine Kept.k0 ?_ | refine Kept.k1 ?_ | refine Kept.k2 ?_ | refine Kept.k3 ?_ | refine Kept.k4 ?_))
  · have e1 : ∀ (K : Value → Heap → Prop), K (.bool false) H → SCalls Tryz.prog 87 [.string (strOf (List.replicate 128 32)), .string (strOf [48])] H K := fun K hk => c87 hk
    have e2 : ∀ (K : Value → Heap → Prop), K (.bool false) H → SCalls Tryz.prog 87 [.string (strOf (List.replicate 128 45)), .string (strOf [48])] H K := fun K hk => c87 hk
    have e3 : ∀ (K : Value → Heap → Prop), K (.bool true) H → SCalls Tryz.prog 87 [.string (strOf (List.replicate 64 48)), .string (strOf [48])] H K := fun K hk => c87 hk
    have hz : (strOf (List.replicate 64 48)).extract 0 k = strOf (List.replicate k 48) := by
      rw [strOf_cut]
      congr 1
      rw [List.drop_zero, List.take_replicate]; congr 1; omega
    have hfin : ∀ s : ByteArray, s = strOf (List.replicate k 48) → Keep H fun H' => K (.string s) H' := fun s e => by rw [e]; exact Keep.all hK
    repeat' ((conv => whnf); (first | refine c86 hk ?_ | refine e1 _ ?_ | refine e2 _ ?_ | refine e3 _ ?_ | with_reducible refine Val.u64 (by omega) (by omega) ?_ | refine Branch.df (by omega) ?_ | refine Branch.dt (by omega) ?_ | refine Branch.t rfl ?_ | refine Branch.f rfl ?_ | refine Idx.of 0 rfl (by decide) ?_ | refine Idx.of k rfl (by first | decide | (show k < 65; omega)) ?_ | (refine hfin _ ?_; exact hz) | refine New.mk (fun _ => ?_) | refine Look.at0 ?_ | refine Cell.row ?_ | refine Cell.buf ?_ | refine Cells.row rfl ?_ | refine Put.row rfl ?_ | refine Put.buf rfl ?_ | refine Look.at1 ?_ | refine Look.at2 ?_ | refine Look.at3 ?_ | refine Look.at4 ?_ | refine Look.at5 ?_ | refine Look.at6 ?_ | refine Look.at7 ?_ | refine Look.at8 ?_ | with_reducible refine Val.i64 (by omega) (by omega) ?_ | with_reducible refine Val.u8 (by omega) (by omega) ?_ | with_reducible refine Val.u32 (by omega) (by omega) ?_ | with_reducible refine Val.u64 (by omega) (by omega) ?_ | with_reducible refine Val.u8m ?_ | with_reducible refine Val.u32m ?_ | with_reducible refine Val.u64m ?_ | with_reducible refine Val.shr8 ?_ | with_reducible refine Val.shr16 (by decide) ?_ | with_reducible refine Val.shr24 (by decide) ?_ | with_reducible refine Val.raw ?_ | refine Branch.not ?_ | refine Branch.and ?_ | refine Branch.or ?_ | refine Branch.dt (by assumption) ?_ | refine Branch.df (by assumption) ?_ | refine Branch.dt rfl ?_ | refine Branch.dt (by omega) ?_ | refine Branch.df (by omega) ?_ | refine Branch.t rfl ?_ | refine Branch.f rfl ?_ | refine Branch.t (by assumption) ?_ | refine Branch.f (by assumption) ?_ | refine Branch.d (fun _ => ?_) (fun _ => ?_) | refine Branch.mk (fun _ => ?_) (fun _ => ?_) | refine Need.mk (by first | omega | decide | rfl) ?_ | refine Idx.nat (by omega) ?_ | refine Idx.auto (by first | omega | decide) (by first | omega | decide) ?_ | refine Cell.ro rfl ?_ | refine SDraw.all (by kernel_rfl) ?_ | refine Kept.k0 ?_ | refine Kept.k1 ?_ | refine Kept.k2 ?_ | refine Kept.k3 ?_ | refine Kept.k4 ?_))
theorem c59 {n : Nat} {w : Int} (hD : Db H) (hn : n < 2 ^ 64) (hK : K (.tuple ⟨[.string (strOf (numV n w).1), .int .i64 (numV n w).2]⟩) H) : SCalls Tryz.prog 59 [.int .u64 (n : Int), .int .i64 w] H K := by
  refine enter59 ?_
  unfold numV at hK
  have h24 : (2 : Nat) ^ 64 = 18446744073709551616 := rfl
  by_cases h0 : 0 ≤ w
  · by_cases h64 : w ≤ 64
    · obtain ⟨k, rfl⟩ : ∃ k : Nat, w = (k : Int) := ⟨w.toNat, by omega⟩
      rw [Int.toNat_natCast] at hK
      have hk : k ≤ 64 := by omega
      have hshr : ∀ K : Int → Prop, K ((n / 2 ^ k : Nat) : Int) → Val (shrI .u64 (n : Int) (k : Int)) K := fun K hk2 => Val.to _ (shr_nat (k := .u64) (n := k) hk) hk2
      by_cases hlt : n < 2 ^ k
      · rw [if_pos ⟨h0, h64, hlt⟩] at hK
        have hz : n / 2 ^ k = 0 := Nat.div_eq_of_lt hlt
        rw [hz] at hshr
        rcases (by omega : k = 0 ∨ 1 ≤ k) with rfl | hk1
        · repeat' ((conv => whnf); (first | with_reducible refine hshr _ ?_ | refine Branch.df (by omega) ?_ | refine Branch.dt (by omega) ?_ | refine Branch.t rfl ?_ | refine Branch.f rfl ?_ | exact Keep.all hK | refine New.mk (fun _ => ?_) | refine Look.at0 ?_ | refine Cell.row ?_ | refine Cell.buf ?_ | refine Cells.row rfl ?_ | refine Put.row rfl ?_ | refine Put.buf rfl ?_ | refine Look.at1 ?_ | refine Look.at2 ?_ | refine Look.at3 ?_ | refine Look.at4 ?_ | refine Look.at5 ?_ | refine Look.at6 ?_ | refine Look.at7 ?_ | refine Look.at8 ?_ | with_reducible refine Val.i64 (by omega) (by omega) ?_ | with_reducible refine Val.u8 (by omega) (by omega) ?_ | with_reducible refine Val.u32 (by omega) (by omega) ?_ | with_reducible refine Val.u64 (by omega) (by omega) ?_ | with_reducible refine Val.u8m ?_ | with_reducible refine Val.u32m ?_ | with_reducible refine Val.u64m ?_ | with_reducible refine Val.shr8 ?_ | with_reducible refine Val.shr16 (by decide) ?_ | with_reducible refine Val.shr24 (by decide) ?_ | with_reducible refine Val.raw ?_ | refine Branch.not ?_ | refine Branch.and ?_ | refine Branch.or ?_ | refine Branch.dt (by assumption) ?_ | refine Branch.df (by assumption) ?_ | refine Branch.dt rfl ?_ | refine Branch.dt (by omega) ?_ | refine Branch.df (by omega) ?_ | refine Branch.t rfl ?_ | refine Branch.f rfl ?_ | refine Branch.t (by assumption) ?_ | refine Branch.f (by assumption) ?_ | refine Branch.d (fun _ => ?_) (fun _ => ?_) | refine Branch.mk (fun _ => ?_) (fun _ => ?_) | refine Need.mk (by first | omega | decide | rfl) ?_ | refine Idx.nat (by omega) ?_ | refine Idx.auto (by first | omega | decide) (by first | omega | decide) ?_ | refine Cell.ro rfl ?_ | refine SDraw.all (by kernel_rfl) ?_ | refine Kept.k0 ?_ | refine Kept.k1 ?_ | refine Kept.k2 ?_ | refine Kept.k3 ?_ | refine Kept.k4 ?_))
        · obtain ⟨hlen, hpad⟩ := pad 64 k n hn hlt hk1
          have hsz : (strOf (binF 64 n)).size = (binF 64 n).length := strOf_size _
          have hcat : ∀ s : ByteArray, s = strOf (numB k n) → Keep H fun H' => K (.tuple ⟨[.string s, .int .i64 0]⟩) H' := fun s e => by rw [e]; exact Keep.all hK
          have h37 := fun (K : Value → Heap → Prop) hk2 => c77z (K := K) (H := H) (k := k - (binF 64 n).length) (by omega) hk2
          have hrs : (strOf (List.replicate (k - (binF 64 n).length) 48)).size = k - (binF 64 n).length := by rw [strOf_size]; simp
          by_cases hk64 : k < 64
          · repeat' ((conv => whnf); (first | refine c76 hD hn ?_ | with_reducible refine h37 _ ?_ | with_reducible refine hshr _ ?_ | with_reducible refine Val.to ((k - (binF 64 n).length : Nat) : Int) (by rw [wrap_i64 (by omega) (by omega)]; omega) ?_ | refine Branch.df (by omega) ?_ | refine Branch.dt (by omega) ?_ | refine Branch.t rfl ?_ | refine Branch.f rfl ?_ | refine Need.mk (by omega) ?_ | (refine hcat _ ?_; rw [strOf_app, hpad]) | refine New.mk (fun _ => ?_) | refine Look.at0 ?_ | refine Cell.row ?_ | refine Cell.buf ?_ | refine Cells.row rfl ?_ | refine Put.row rfl ?_ | refine Put.buf rfl ?_ | refine Look.at1 ?_ | refine Look.at2 ?_ | refine Look.at3 ?_ | refine Look.at4 ?_ | refine Look.at5 ?_ | refine Look.at6 ?_ | refine Look.at7 ?_ | refine Look.at8 ?_ | with_reducible refine Val.i64 (by omega) (by omega) ?_ | with_reducible refine Val.u8 (by omega) (by omega) ?_ | with_reducible refine Val.u32 (by omega) (by omega) ?_ | with_reducible refine Val.u64 (by omega) (by omega) ?_ | with_reducible refine Val.u8m ?_ | with_reducible refine Val.u32m ?_ | with_reducible refine Val.u64m ?_ | with_reducible refine Val.shr8 ?_ | with_reducible refine Val.shr16 (by decide) ?_ | with_reducible refine Val.shr24 (by decide) ?_ | with_reducible refine Val.raw ?_ | refine Branch.not ?_ | refine Branch.and ?_ | refine Branch.or ?_ | refine Branch.dt (by assumption) ?_ | refine Branch.df (by assumption) ?_ | refine Branch.dt rfl ?_ | refine Branch.dt (by omega) ?_ | refine Branch.df (by omega) ?_ | refine Branch.t rfl ?_ | refine Branch.f rfl ?_ | refine Branch.t (by assumption) ?_ | refine Branch.f (by assumption) ?_ | refine Branch.d (fun _ => ?_) (fun _ => ?_) | refine Branch.mk (fun _ => ?_) (fun _ => ?_) | refine Need.mk (by first | omega | decide | rfl) ?_ | refine Idx.nat (by omega) ?_ | refine Idx.auto (by first | omega | decide) (by first | omega | decide) ?_ | refine Cell.ro rfl ?_ | refine SDraw.all (by kernel_rfl) ?_ | refine Kept.k0 ?_ | refine Kept.k1 ?_ | refine Kept.k2 ?_ | refine Kept.k3 ?_ | refine Kept.k4 ?_))
          · repeat' ((conv => whnf); (first | refine c76 hD hn ?_ | with_reducible refine h37 _ ?_ | with_reducible refine hshr _ ?_ | with_reducible refine Val.to ((k - (binF 64 n).length : Nat) : Int) (by rw [wrap_i64 (by omega) (by omega)]; omega) ?_ | refine Branch.df (by omega) ?_ | refine Branch.dt (by omega) ?_ | refine Branch.t rfl ?_ | refine Branch.f rfl ?_ | refine Need.mk (by omega) ?_ | (refine hcat _ ?_; rw [strOf_app, hpad]) | refine New.mk (fun _ => ?_) | refine Look.at0 ?_ | refine Cell.row ?_ | refine Cell.buf ?_ | refine Cells.row rfl ?_ | refine Put.row rfl ?_ | refine Put.buf rfl ?_ | refine Look.at1 ?_ | refine Look.at2 ?_ | refine Look.at3 ?_ | refine Look.at4 ?_ | refine Look.at5 ?_ | refine Look.at6 ?_ | refine Look.at7 ?_ | refine Look.at8 ?_ | with_reducible refine Val.i64 (by omega) (by omega) ?_ | with_reducible refine Val.u8 (by omega) (by omega) ?_ | with_reducible refine Val.u32 (by omega) (by omega) ?_ | with_reducible refine Val.u64 (by omega) (by omega) ?_ | with_reducible refine Val.u8m ?_ | with_reducible refine Val.u32m ?_ | with_reducible refine Val.u64m ?_ | with_reducible refine Val.shr8 ?_ | with_reducible refine Val.shr16 (by decide) ?_ | with_reducible refine Val.shr24 (by decide) ?_ | with_reducible refine Val.raw ?_ | refine Branch.not ?_ | refine Branch.and ?_ | refine Branch.or ?_ | refine Branch.dt (by assumption) ?_ | refine Branch.df (by assumption) ?_ | refine Branch.dt rfl ?_ | refine Branch.dt (by omega) ?_ | refine Branch.df (by omega) ?_ | refine Branch.t rfl ?_ | refine Branch.f rfl ?_ | refine Branch.t (by assumption) ?_ | refine Branch.f (by assumption) ?_ | refine Branch.d (fun _ => ?_) (fun _ => ?_) | refine Branch.mk (fun _ => ?_) (fun _ => ?_) | refine Need.mk (by first | omega | decide | rfl) ?_ | refine Idx.nat (by omega) ?_ | refine Idx.auto (by first | omega | decide) (by first | omega | decide) ?_ | refine Cell.ro rfl ?_ | refine SDraw.all (by kernel_rfl) ?_ | refine Kept.k0 ?_ | refine Kept.k1 ?_ | refine Kept.k2 ?_ | refine Kept.k3 ?_ | refine Kept.k4 ?_))
      · rw [if_neg (fun h => hlt h.2.2)] at hK
        have hk64 : k < 64 := by
          rcases Nat.lt_or_ge k 64 with h | h
          · exact h
          · obtain rfl : k = 64 := by omega
            exact absurd hn hlt
        have hz : 0 < n / 2 ^ k := Nat.div_pos (by omega) (Nat.two_pow_pos k)
        repeat' ((conv => whnf); (first | with_reducible refine hshr _ ?_ | refine Branch.df (by omega) ?_ | refine Branch.dt (by omega) ?_ | refine Branch.t rfl ?_ | refine Branch.f rfl ?_ | exact Keep.all hK | refine New.mk (fun _ => ?_) | refine Look.at0 ?_ | refine Cell.row ?_ | refine Cell.buf ?_ | refine Cells.row rfl ?_ | refine Put.row rfl ?_ | refine Put.buf rfl ?_ | refine Look.at1 ?_ | refine Look.at2 ?_ | refine Look.at3 ?_ | refine Look.at4 ?_ | refine Look.at5 ?_ | refine Look.at6 ?_ | refine Look.at7 ?_ | refine Look.at8 ?_ | with_reducible refine Val.i64 (by omega) (by omega) ?_ | with_reducible refine Val.u8 (by omega) (by omega) ?_ | with_reducible refine Val.u32 (by omega) (by omega) ?_ | with_reducible refine Val.u64 (by omega) (by omega) ?_ | with_reducible refine Val.u8m ?_ | with_reducible refine Val.u32m ?_ | with_reducible refine Val.u64m ?_ | with_reducible refine Val.shr8 ?_ | with_reducible refine Val.shr16 (by decide) ?_ | with_reducible refine Val.shr24 (by decide) ?_ | with_reducible refine Val.raw ?_ | refine Branch.not ?_ | refine Branch.and ?_ | refine Branch.or ?_ | refine Branch.dt (by assumption) ?_ | refine Branch.df (by assumption) ?_ | refine Branch.dt rfl ?_ | refine Branch.dt (by omega) ?_ | refine Branch.df (by omega) ?_ | refine Branch.t rfl ?_ | refine Branch.f rfl ?_ | refine Branch.t (by assumption) ?_ | refine Branch.f (by assumption) ?_ | refine Branch.d (fun _ => ?_) (fun _ => ?_) | refine Branch.mk (fun _ => ?_) (fun _ => ?_) | refine Need.mk (by first | omega | decide | rfl) ?_ | refine Idx.nat (by omega) ?_ | refine Idx.auto (by first | omega | decide) (by first | omega | decide) ?_ | refine Cell.ro rfl ?_ | refine SDraw.all (by kernel_rfl) ?_ | refine Kept.k0 ?_ | refine Kept.k1 ?_ | refine Kept.k2 ?_ | refine Kept.k3 ?_ | refine Kept.k4 ?_))
    · rw [if_neg (fun h => h64 h.2.1)] at hK
      repeat' ((conv => whnf); (first | refine Branch.df (by omega) ?_ | refine Branch.dt (by omega) ?_ | refine Branch.t rfl ?_ | exact Keep.all hK | refine New.mk (fun _ => ?_) | refine Look.at0 ?_ | refine Cell.row ?_ | refine Cell.buf ?_ | refine Cells.row rfl ?_ | refine Put.row rfl ?_ | refine Put.buf rfl ?_ | refine Look.at1 ?_ | refine Look.at2 ?_ | refine Look.at3 ?_ | refine Look.at4 ?_ | refine Look.at5 ?_ | refine Look.at6 ?_ | refine Look.at7 ?_ | refine Look.at8 ?_ | with_reducible refine Val.i64 (by omega) (by omega) ?_ | with_reducible refine Val.u8 (by omega) (by omega) ?_ | with_reducible refine Val.u32 (by omega) (by omega) ?_ | with_reducible refine Val.u64 (by omega) (by omega) ?_ | with_reducible refine Val.u8m ?_ | with_reducible refine Val.u32m ?_ | with_reducible refine Val.u64m ?_ | with_reducible refine Val.shr8 ?_ | with_reducible refine Val.shr16 (by decide) ?_ | with_reducible refine Val.shr24 (by decide) ?_ | with_reducible refine Val.raw ?_ | refine Branch.not ?_ | refine Branch.and ?_ | refine Branch.or ?_ | refine Branch.dt (by assumption) ?_ | refine Branch.df (by assumption) ?_ | refine Branch.dt rfl ?_ | refine Branch.dt (by omega) ?_ | refine Branch.df (by omega) ?_ | refine Branch.t rfl ?_ | refine Branch.f rfl ?_ | refine Branch.t (by assumption) ?_ | refine Branch.f (by assumption) ?_ | refine Branch.d (fun _ => ?_) (fun _ => ?_) | refine Branch.mk (fun _ => ?_) (fun _ => ?_) | refine Need.mk (by first | omega | decide | rfl) ?_ | refine Idx.nat (by omega) ?_ | refine Idx.auto (by first | omega | decide) (by first | omega | decide) ?_ | refine Cell.ro rfl ?_ | refine SDraw.all (by kernel_rfl) ?_ | refine Kept.k0 ?_ | refine Kept.k1 ?_ | refine Kept.k2 ?_ | refine Kept.k3 ?_ | refine Kept.k4 ?_))
  · rw [if_neg (fun h => h0 h.1)] at hK
    repeat' ((conv => whnf); (first | refine Branch.dt (by omega) ?_ | refine Branch.t rfl ?_ | exact Keep.all hK | refine New.mk (fun _ => ?_) | refine Look.at0 ?_ | refine Cell.row ?_ | refine Cell.buf ?_ | refine Cells.row rfl ?_ | refine Put.row rfl ?_ | refine Put.buf rfl ?_ | refine Look.at1 ?_ | refine Look.at2 ?_ | refine Look.at3 ?_ | refine Look.at4 ?_ | refine Look.at5 ?_ | refine Look.at6 ?_ | refine Look.at7 ?_ | refine Look.at8 ?_ | with_reducible refine Val.i64 (by omega) (by omega) ?_ | with_reducible refine Val.u8 (by omega) (by omega) ?_ | with_reducible refine Val.u32 (by omega) (by omega) ?_ | with_reducible refine Val.u64 (by omega) (by omega) ?_ | with_reducible refine Val.u8m ?_ | with_reducible refine Val.u32m ?_ | with_reducible refine Val.u64m ?_ | with_reducible refine Val.shr8 ?_ | with_reducible refine Val.shr16 (by decide) ?_ | with_reducible refine Val.shr24 (by decide) ?_ | with_reducible refine Val.raw ?_ | refine Branch.not ?_ | refine Branch.and ?_ | refine Branch.or ?_ | refine Branch.dt (by assumption) ?_ | refine Branch.df (by assumption) ?_ | refine Branch.dt rfl ?_ | refine Branch.dt (by omega) ?_ | refine Branch.df (by omega) ?_ | refine Branch.t rfl ?_ | refine Branch.f rfl ?_ | refine Branch.t (by assumption) ?_ | refine Branch.f (by assumption) ?_ | refine Branch.d (fun _ => ?_) (fun _ => ?_) | refine Branch.mk (fun _ => ?_) (fun _ => ?_) | refine Need.mk (by first | omega | decide | rfl) ?_ | refine Idx.nat (by omega) ?_ | refine Idx.auto (by first | omega | decide) (by first | omega | decide) ?_ | refine Cell.ro rfl ?_ | refine SDraw.all (by kernel_rfl) ?_ | refine Kept.k0 ?_ | refine Kept.k1 ?_ | refine Kept.k2 ?_ | refine Kept.k3 ?_ | refine Kept.k4 ?_))
end
end Go.Proofs.YtiaginlnapiijaaGreatDoor


