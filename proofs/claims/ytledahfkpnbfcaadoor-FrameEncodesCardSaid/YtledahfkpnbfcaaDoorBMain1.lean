/- Sy, part B: what gives up, and where it is caught: a contract holds wherever more may be given up with; 'panic'; a deferred text that begins with 'recover'. -/
import Derived.Test.YtledahfkpnbfcaaDoorBMain
import Derived.Test.YtledahfkpnbfcaaDoorBX1
import Derived.Test.YtledahfkpnbfcaaDoorBSx1
import Derived.Recover

set_option linter.unusedVariables false
set_option linter.unusedSectionVars false
set_option linter.unusedSimpArgs false
namespace Go.Proofs.YtledahfkpnbfcaaDoor.Sx
open Go.RowKit
/-- A contract holds wherever more may be given up with. -/
theorem SCalls.lift {δ δ' : Dies} (hd : ∀ ch, δ.D ch → δ'.D ch) {P : Program} {f : FuncId} {args : List Value} {H : Heap} {K : Value → Heap → Prop} (h : @SCalls δ P f args H K) : @SCalls δ' P f args H K :=
  @SCalls.mk δ' P f args H K (@SCalls.enter δ P f args H K h) fun w hw => (@SCalls.run δ P f args H K h w hw).mono fun e w' he => by
    rcases he with he | ⟨ch, H', e1, g1, g2, g3⟩
    · exact .inl he
    · exact .inr ⟨ch, H', e1, g1, g2, hd _ g3⟩
theorem SCalls.calm [δ : Dies] {P : Program} {f : FuncId} {args : List Value} {H : Heap} {K : Value → Heap → Prop} (h : @SCalls noDies P f args H K) : SCalls P f args H K := SCalls.lift (δ := noDies) (fun _ h => h.elim) h
section
variable [Dies] {P : Program} {o : Oper} {xx : Operand} {H : Heap} {K : Value → Heap → Prop} {T : TypeId} {v : Value}
theorem RawV.panic (ho : o.op = .panic xx) (hd : Dies.D [{ v := .iface T v, recovered := false }]) : RawV P o [.iface T v] H K := by
  refine ⟨fun ρ w hm hw => .inr (.inr ⟨.iface T v, ?_, hd⟩)⟩
  rw [ho] at hm
  have hm : [ρ xx] = [.iface T v] := hm
  injection hm with e1 _
  simp only [execOp, ho, e1]
  rfl
end
section
variable [Dies] {P : Program} {ds : List Deferred} {fn : Func} {rs : List RV} {H : Heap} {K : Value → Heap → Prop}
/-- What is known at a function's end. -/
inductive EndsAt (P : Program) (fn : Func) (ds : List Deferred) (w : World) (H : Heap) (K : Value → Heap → Prop) : Exit → Act → World → Prop
  | normal {a w' v} : a.defers = ds → (results fn a.tmps).run P w' = .ok v w' → Back w H K (.returned v) w' → EndsAt P fn ds w H K .normal a w'
  | ret {a w' v} : a.defers = ds → (results fn a.tmps).run P w' = .ok v w' → Back w H K (.returned v) w' → EndsAt P fn ds w H K .ret a w'
  | panic {a w' ch} : a.defers = ds → Back w H K (.panicked ch) w' → EndsAt P fn ds w H K (.panic ch) a w'
theorem endsAt (hr : cRes P fn.results.toList = some rs) {w w' : World} {e : Exit} {a : Act} (h : After ds w H (retQ rs K) e a w') : EndsAt P fn ds w H K e a w' := by
  obtain ⟨l', H', rfl, h2, h3, h4⟩ := h
  have fin : (resK rs l' H' fun vs => oneK vs fun v => Keep H' fun H' => K v H') → ∃ v, (results fn l'.toArray).run P w' = .ok v w' ∧ Back w H K (.returned v) w' := by
    intro h4
    obtain ⟨vs, g1, g2, g3⟩ := resK_ok h2 hr h4
    have hres : (results fn l'.toArray).run P w' = .ok (if h : vs.toArray.size = 1 then vs.toArray[0] else .tuple vs.toArray) w' := by
      unfold results
      rw [Array.mapM_eq_mapM_toList]
      simp only [Sem.run_bind, Sem.run_map]
      erw [g1]
      simp only [Result.andThen_ok, Sem.run_pure]
    refine ⟨_, hres, ?_⟩
    have g4 : Keep H' fun H' => K (if h : vs.toArray.size = 1 then vs.toArray[0] else .tuple vs.toArray) H' := by
      match vs, g3 with
      | [v], g3 => exact g3
      | [], g3 => exact g3
      | a :: b :: r, g3 => simpa [oneK] using g3
    obtain ⟨H'', k1, k2, k3⟩ := g4.ok h2 h3
    exact .ret k1 k2 k3
  cases e with
  | normal =>
    obtain ⟨v, k1, k2⟩ := fin h4
    exact .normal rfl k1 k2
  | ret =>
    obtain ⟨v, k1, k2⟩ := fin h4
    exact .ret rfl k1 k2
  | panic ch => exact .panic rfl (.inr ⟨ch, H', rfl, h2, h3, h4⟩)
  | exit id => exact h4.elim
  | goto id => exact h4.elim
  | outgrown => exact h4.elim
end
section
variable {P : Program} {ops : Array Oper}
theorem upon_mono {o : Oper} {a : Act} {next next' : Act → World → Prop} {Q : Exit → Act → World → Prop} {r : Result Next} (h : o.upon P a next Q r) (hn : ∀ a w, next a w → next' a w) : o.upon P a next' Q r := by
  unfold Oper.upon at h ⊢
  split at h
  · exact hn _ _ h
  · exact hn _ _ h
  · exact hn _ _ h
  · refine h.mono fun e w' he => ?_
    cases e with
    | returned v => exact hn _ _ he
    | panicked ch => exact he
    | outgrown => exact he
  · exact h.mono fun v w' he => hn _ _ he
  · exact h
  · exact h.elim
theorem wpOpsS_of {Q : Exit → Act → List Frame → World → Prop} {cs : List Frame} (hno : ¬ LetsOut fun e a w => Q e a cs w) : ∀ (l : List Nat) (a : Act) (w : World), wpOps P ops (fun e a w => Q e a cs w) l a w → wpOpsS P ops Q l a cs w
  | [], a, w, h => h
  | i :: rest, a, w, h => by
    simp only [wpOps] at h
    simp only [wpOpsS]
    cases ho : ops[i]? with
    | none => simp only [ho] at h ⊢; exact wpOpsS_of hno rest a w h
    | some o =>
      simp only [ho] at h ⊢
      split at h
      · rename_i hw
        rw [if_pos hw]
        rcases h with h | ⟨_, h⟩
        · unfold Oper.wp at h
          generalize (execOp a.eval o).run P w = r at h ⊢
          split
          · exact h.elim
          · exact upon_mono h fun a w h => wpOpsS_of hno rest a w h
        · exact (hno h).elim
      · rename_i hw
        rw [if_neg hw]
        exact wpOpsS_of hno rest _ w h
/-- What a deferred text catches: nothing, or what was given up with. -/
inductive Caught : FrameMode → Value → FrameMode → Prop
  | calm : Caught .returning .nilIface .returning
  | gave (v : Value) : Caught (.panicking [{ v := v, recovered := false }]) v (.panicking [{ v := v, recovered := true }])
theorem Caught.settle {u u' : FrameMode} {rv : Value} (h : Caught u rv u') : Go.settle u' = .returning := by cases h <;> rfl
theorem Caught.run {u u' : FrameMode} {rv : Value} (h : Caught u rv u') : u ≠ .run := by cases h <;> exact fun h => nomatch h
end
/-- A deferred call whose text begins with 'recover'. -/
theorem callsD_recover [Dies] {P : Program} {f : FuncId} {fn : Func} {id : Nat} {ops : Array Oper} {rest : Code} {x0 : XO} {xs : List XO} {o0 : Oper} {ts : Array TypeId} {rs : List RV} {args : List Value} {H : Heap} {K : Value → Heap → Prop} {u u' : FrameMode} {rv : Value}
    (hf : P.funcs[f]? = some fn) (hb : fn.body = some (.seq (.region id ops false) rest)) (ho : ops[0]? = some o0) (ho0 : o0.op = .call { callee := .builtin .recover, args := #[], argTypes := ts }) (hg : o0.guard = none)
    (hxs : cOpers P ops ops.toList = some (x0 :: xs)) (hr : cRes P fn.results.toList = some rs) (hc : Caught u rv u')
    (h : dstK o0.dst (args ++ List.replicate (fn.ntmps - args.length) undef) rv fun l => xops P xs l H fun l H => xc P (compile P rest) (retQ rs K) l H) (w : World) (hw : Holds w H) :
    CallsD P f args.toArray u w fun e u2 w' => u2 = u' ∧ Back w H K e w' := by
  refine callsD_of_wpS hf hb fun c₀ cs hu => ?_
  have e : (actD [] (args ++ List.replicate (fn.ntmps - args.length) undef)) = { tmps := args.toArray ++ Array.replicate (fn.ntmps - args.toArray.size) undef, defers := [] } := by
    simp [actD]
  rw [← e]
  obtain ⟨l', hl', h⟩ := dstK_ok (ds := []) h
  have hsz : ops.size = xs.length + 1 := by
    have := cOpers_length hxs
    simpa using this.symm
  have hex : (execOp (actD [] (args ++ List.replicate (fn.ntmps - args.length) undef)).eval o0).run P w = .ok .recover w := by
    simp [execOp, ho0, resolve, invoke, builtin]
  have hno : ¬ LetsOut fun e a w' => Exit.thenS (rest.wpS P (bodyPostS P fn c₀ cs fun e u2 w' => u2 = u' ∧ Back w H K e w')) (bodyPostS P fn c₀ cs fun e u2 w' => u2 = u' ∧ Back w H K e w') e a ({ c₀ with mode := u' } :: cs) w' := by
    rintro ⟨a, w', u2, _, ⟨v, H', e1, _⟩ | ⟨ch, H', e1, _⟩⟩ <;> cases e1
  have go : wpOpsS P ops (Exit.thenS (rest.wpS P (bodyPostS P fn c₀ cs fun e u2 w' => u2 = u' ∧ Back w H K e w')) (bodyPostS P fn c₀ cs fun e u2 w' => u2 = u' ∧ Back w H K e w')) (List.range' 1 xs.length)
      ((actD [] (args ++ List.replicate (fn.ntmps - args.length) undef)).put o0.dst rv) ({ c₀ with mode := u' } :: cs) w := by
    rw [hl']
    refine wpOpsS_of hno _ _ _ (xops_ok (P := P) (ops := ops) (K := fun l H => xc P (compile P rest) (retQ rs K) l H) (w0 := w) (H0 := H) ?_ ?_ xs 1 l' H w (by omega) (fun i x hi => ?_) h hw (Step.refl _ _))
    · rintro a w1 ⟨l1, H1, rfl, g1, g2, g3⟩
      refine wpS_of_wp (wp_mono (xc_ok (ds := []) rest _ l1 H1 (fun ch l H g => g) g3 w1 g1) ?_)
      intro e a w' h
      rcases endsAt hr (h.trans g2) with ⟨q1, q2, q3⟩ | ⟨q1, q2, q3⟩ | ⟨q1, q3⟩
      · exact ⟨q1, u', rfl, _, q2, rfl, q3⟩
      · exact ⟨q1, u', rfl, _, q2, rfl, q3⟩
      · exact ⟨q1, u', rfl, rfl, q3⟩
    · intro ch l1 H1 w1 g1 g2 g3
      exact ⟨rfl, u', rfl, rfl, .inr ⟨ch, H1, rfl, g2, g3, g1⟩⟩
    · have hlt : i < xs.length := (List.getElem?_eq_some_iff.1 hi).1
      obtain ⟨x', h1, h2⟩ := cOpers_get hxs (i + 1) (ops.toList[i + 1]'(by simp; omega)) (List.getElem?_eq_getElem _)
      have h1 : xs[i]? = some x' := by simpa using h1
      rw [hi] at h1
      injection h1 with h1
      subst h1
      exact ⟨_, by rw [Nat.add_comm]; simp, h2⟩
  refine wpS_seq (wpS_region ?_)
  rw [hsz, List.range_eq_range', List.range'_succ]
  simp only [wpOpsS, ho]
  rw [if_pos (by simp [Region.wanted, hg]), hex]
  simp only
  cases hc with
  | calm =>
    have e1 : recoverD (c₀ :: cs) = none := by simp [recoverD, hu]
    rw [e1]
    have e2 : ({ c₀ with mode := .returning } : Frame) = c₀ := by rw [← hu]
    rw [e2] at go
    exact go
  | gave v =>
    have e1 : recoverD (c₀ :: cs) = some (rv, { c₀ with mode := .panicking [{ v := rv, recovered := true }] } :: cs) := by simp [recoverD, hu]
    rw [e1]
    exact go
section
variable [Dies] {ds : List Deferred} {P : Program} {ops : Array Oper} {l : List Value} {H : Heap} {w : World}
/-- Operations in the text's order, from number k on, ahead of others. -/
theorem xops_pre {w0 : World} {H0 : Heap} {K : List Value → Heap → Prop} {Qx : Exit → Act → World → Prop} {rest : List Nat} (hq : ∀ a w, Next1 ds w0 H0 K a w → wpOps P ops Qx rest a w) (hd : DeadOk ds w0 H0 Qx) :
    ∀ (xs : List XO) (k : Nat) (l : List Value) (H : Heap) (w : World), (∀ i x, xs[i]? = some x → ∃ o, ops[k + i]? = some o ∧ cOper P ops o = some x) →
      xops P xs l H K → Holds w H → Step w0 H0 w H → wpOps P ops Qx (List.range' k xs.length ++ rest) (actD ds l) w
  | [], k, l, H, w, hx, h, hw, hs => hq _ _ ⟨l, H, rfl, hw, hs, h⟩
  | x :: xs, k, l, H, w, hx, h, hw, hs => by
    obtain ⟨o, ho, hox⟩ := hx 0 x rfl
    simp only [List.length_cons, List.range'_succ, List.cons_append]
    rw [wpOps_cons]
    refine wpOp_mono ?_ (xo_ok (by simpa using ho) hox h hw Qx (hd.step hs))
    rintro a w' ⟨l', H', rfl, h1, h2, h3⟩
    refine xops_pre hq hd xs (k + 1) l' H' w' ?_ h3 h1 (hs.trans h2)
    intro i x' hi
    have := hx (i + 1) x' (by simpa using hi)
    rwa [show k + (i + 1) = k + 1 + i by omega] at this
/-- An operation that puts a call off. -/
theorem wp_putOff {o : Oper} {k : Nat} {rest : List Nat} {d : Deferred} {Qx : Exit → Act → World → Prop} (ho : ops[k]? = some o) (hg : o.guard = none) (hr : (execOp (act l).eval o).run P w = .ok (.defer d) w)
    (h : ∃ l', (actD (d :: ds) l).put o.dst undef = actD (d :: ds) l' ∧ wpOps P ops Qx rest (actD (d :: ds) l') w) : wpOps P ops Qx (k :: rest) (actD ds l) w := by
  obtain ⟨l', e, h⟩ := h
  simp only [wpOps, ho]
  rw [if_pos (by simp [Region.wanted, hg])]
  refine .inl ?_
  unfold Oper.wp
  have hr : (execOp (actD ds l).eval o).run P w = .ok (.defer d) w := hr
  rw [hr]
  have e : ({ actD ds l with defers := d :: (actD ds l).defers }).put o.dst undef = actD (d :: ds) l' := e
  show wpOps P ops Qx rest _ w
  rw [e]
  exact h
/-- An operation that calls what may give up: what is known beside it stays. -/
theorem wp_mayDie {o : Oper} {k : Nat} {rest : List Nat} {f : FuncId} {args : List Value} {R : Heap} {K : Value → Heap → Prop} {Qx : Exit → Act → World → Prop} (ho : ops[k]? = some o) (hg : o.guard = none)
    (hr : (execOp (act l).eval o).run P w = (callFunc f args.toArray).run P w) (hc : SCalls P f args H K) (hw : Holds w (H ++ R))
    (hret : ∀ v H' w', Holds w' (H' ++ R) → Step w (H ++ R) w' (H' ++ R) → K v H' → ∃ l', (actD ds l).put o.dst v = actD ds l' ∧ wpOps P ops Qx rest (actD ds l') w')
    (hdie : ∀ ch H' w', Holds w' (H' ++ R) → Step w (H ++ R) w' (H' ++ R) → Dies.D ch → Qx (.panic ch) (actD ds l) w') : wpOps P ops Qx (k :: rest) (actD ds l) w := by
  simp only [wpOps, ho]
  rw [if_pos (by simp [Region.wanted, hg])]
  refine .inl ?_
  unfold Oper.wp
  have hr : (execOp (actD ds l).eval o).run P w = (callFunc f args.toArray).run P w := hr
  rw [hr, hc.enter]
  refine (hc.run w (hw.sub (List.sublist_append_left _ _))).mono fun e w' he => ?_
  rcases he with ⟨v, H', rfl, h1, h2, h3⟩ | ⟨ch, H', rfl, h1, h2, h3⟩
  · obtain ⟨g1, g2⟩ := hw.frame h2 h1
    obtain ⟨l', e, h⟩ := hret v H' w' g1 g2 h3
    show wpOps P ops Qx rest _ w'
    rw [e]
    exact h
  · obtain ⟨g1, g2⟩ := hw.frame h2 h1
    exact hdie ch H' w' g1 g2 h3
end
end Go.Proofs.YtledahfkpnbfcaaDoor.Sx

/- Layer 2: the reader of stuffed bits, by walks; it may give up. -/
set_option linter.unusedVariables false
set_option linter.unusedSimpArgs false
set_option maxRecDepth 100000
set_option maxHeartbeats 4000000
namespace Go.Proofs.YtledahfkpnbfcaaDoor
open Sx
section
variable {K : Value → Heap → Prop} {H : Heap} {T r : Nat} {pre : List Value} {bs : List UInt8} {N : Heap}
theorem c66 {b : UInt8} (hT : BT T pre.length) (hN : Bld T r pre bs N) (hl : bs.length + 1 ≤ 140737488355328) (hK : ∀ N', Bld T r pre (bs ++ [b]) N' → K .nilIface N') : SCalls Tryd.prog 66 [bPtr r pre, .int .u8 (b.toNat : Int)] N K := by
  refine enter66 ?_
  have h41 : ∀ (K2 : Value → Heap → Prop), (∀ a c M, BufV 5 (.slice a bs.length c) bs M → K2 (.tuple ⟨[]⟩) (bRow T r pre (bPtr r pre) (.slice a bs.length c) :: M)) → SCalls Tryd.prog 56 [bPtr r pre] N K2 := fun K2 hk => c56 hT hN (fun sv M hb => by
    obtain ⟨a, c, rfl⟩ := hb.len
    exact hk a c M hb)
  have h1 : ∀ sv, (Blk.row T (pre ++ [bPtr r pre, sv]) (0, 0)).cell (pre.length + 1) = some sv := fun sv => pre1 _ sv
  have hput : ∀ sv sv', PutOk (.row T (pre ++ [bPtr r pre, sv]) (0, 0)) (pre.length + 1) [sv'] (.row T (pre ++ [bPtr r pre, sv']) (0, 0)) := fun sv sv' => PutOk.row (by simp) (set1 _ sv sv')
  have hc : ∀ (q : Nat) j x, [b][j]? = some x → (Blk.row 5 [.int .u8 (b.toNat : Int)] (0, 0)).cell (0 + j) = some (.int .u8 (x.toNat : Int)) := by
    intro q j x hj
    match j, hj with
    | 0, hj => injection hj with hj; subst hj; rfl
  have happ : ∀ a c M, BufV 5 (.slice a bs.length c) bs M → ∀ (q : Nat) (o : Oper) (xs xx : Operand) (K2 : Value → Heap → Prop), o.op = .call { callee := .builtin .append, args := #[xs, xx], argTypes := #[48, 48] } →
      (∀ a' c' M', BufV 5 (.slice a' (bs ++ [b]).length c') (bs ++ [b]) M' → K2 (.slice a' (bs ++ [b]).length c') ((q, Blk.row 5 [.int .u8 (b.toNat : Int)] (0, 0)) :: bRow T r pre (bPtr r pre) (.slice a bs.length c) :: M')) →
      RawV Tryd.prog o [.slice a bs.length c, .slice (some ⟨q, 0, none⟩) 1 1] ((q, Blk.row 5 [.int .u8 (b.toNat : Int)] (0, 0)) :: bRow T r pre (bPtr r pre) (.slice a bs.length c) :: M) K2 := by
    intro a c M hb q o xs xx K2 ho hk
    have := RawV.appBytes (P := Tryd.prog) (c := 1) (A := [(q, Blk.row 5 [.int .u8 (b.toNat : Int)] (0, 0)), bRow T r pre (bPtr r pre) (.slice a bs.length c)]) (B := []) (l := [b]) (K := K2) ho (by kernel_rfl) (by kernel_rfl) hb (.head _) rfl Nat.one_pos (hc q) hl (fun sv' N' h => by rw [List.append_nil]; obtain ⟨a', c', rfl⟩ := h.len; exact hk a' c' N' h)
    rw [List.append_nil] at this
    exact this
  clear hN
  repeat' ((conv => whnf); (first | with_reducible refine h41 _ (fun a c M hb => ?_) | refine Look.cell (.head _) (h1 _) ?_ | with_reducible refine happ _ _ _ hb _ _ _ _ _ rfl (fun a' c' M' hb' => ?_) | refine ⟨[_], _, M', rfl, _, hput _ _, appK_to ?_⟩ | exact Keep.d1 (hK _ (.mk (.inr rfl) hb')) | refine New.mk (fun _ => ?_) | refine Look.at0 ?_ | refine Cell.row ?_ | refine Cell.buf ?_ | refine Cells.row rfl ?_ | refine Put.row rfl ?_ | refine Put.buf rfl ?_ | refine Look.at1 ?_ | refine Look.at2 ?_ | refine Look.at3 ?_ | refine Look.at4 ?_ | refine Look.at5 ?_ | refine Look.at6 ?_ | refine Look.at7 ?_ | refine Look.at8 ?_ | with_reducible refine Val.i64 (by omega) (by omega) ?_ | with_reducible refine Val.u8 (by omega) (by omega) ?_ | with_reducible refine Val.u32 (by omega) (by omega) ?_ | with_reducible refine Val.u64 (by omega) (by omega) ?_ | with_reducible refine Val.u8m ?_ | with_reducible refine Val.u32m ?_ | with_reducible refine Val.u64m ?_ | with_reducible refine Val.shr8 ?_ | with_reducible refine Val.shr16 (by decide) ?_ | with_reducible refine Val.shr24 (by decide) ?_ | with_reducible refine Val.raw ?_ | refine Branch.not ?_ | refine Branch.and ?_ | refine Branch.or ?_ | refine Branch.dt (by assumption) ?_ | refine Branch.df (by assumption) ?_ | refine Branch.dt rfl ?_ | refine Branch.dt (by omega) ?_ | refine Branch.df (by omega) ?_ | refine Branch.t rfl ?_ | refine Branch.f rfl ?_ | refine Branch.t (by assumption) ?_ | refine Branch.f (by assumption) ?_ | refine Branch.d (fun _ => ?_) (fun _ => ?_) | refine Branch.mk (fun _ => ?_) (fun _ => ?_) | refine Need.mk (by first | omega | decide | rfl) ?_ | refine Idx.nat (by omega) ?_ | refine Idx.auto (by first | omega | decide) (by first | omega | decide) ?_ | refine Cell.ro rfl ?_ | refine SDraw.all (by kernel_rfl) ?_ | refine Kept.k0 ?_ | refine Kept.k1 ?_ | refine Kept.k2 ?_ | refine Kept.k3 ?_ | refine Kept.k4 ?_))
end
/-- The reader's own cells. -/
abbrev rdC (s : List UInt8) (a lv n : Nat) : List Value := [.string (strOf s), .int .i64 (a : Int), .int .u8 (lv : Int), .int .i64 (n : Int)]
abbrev rdB (r : Nat) (s : List UInt8) (a lv n : Nat) (p sv : Value) : Nat × Blk := (r, .row 73 [.string (strOf s), .int .i64 (a : Int), .int .u8 (lv : Int), .int .i64 (n : Int), p, sv] (0, 0))
abbrev wrg (a e : Int) : List PanicEntry := [{ v := .iface 69 (.agg ⟨[.int .i64 a, .int .i64 e]⟩), recovered := false }]
theorem bt73 : BT 73 4 := by unfold BT; kernel_rfl
section
variable [Dies] {K : Value → Heap → Prop} {r : Nat} {s : List UInt8} {a lv n : Nat} {p sv : Value} {b : UInt8}
theorem c67 (ha : a ≤ s.length) (hl : s.length ≤ 65536) (hb : ∀ x, s[a]? = some x → x = b) (hD : a = s.length → Dies.D (wrg a 3)) (hK : a < s.length → K (.int .u8 (b.toNat : Int)) [rdB r s (a + 1) lv n p sv]) :
    SCalls Tryd.prog 67 [ptr r] [rdB r s a lv n p sv] K := by
  refine enter67 ?_
  have hsz : ((strOf s).size : Int) = (s.length : Int) := by rw [strOf_size]
  have hsz2 : (strOf s).size = s.length := strOf_size s
  by_cases hlt : a < s.length
  · have hx := List.getElem?_eq_getElem hlt
    have hxb := hb _ hx
    rw [hxb] at hx
    have hat := byteAt_of hx
    have hk := hK hlt
    have e : ((a + 1 : Nat) : Int) = (a : Int) + 1 := by omega
    simp only [rdB, e] at hk
    clear hK hD hb
    repeat' ((conv => whnf); (first | refine Branch.df (by omega) ?_ | refine Idx.nat (by omega) ?_ | with_reducible rw [hat] | with_reducible exact Keep.all hk | refine New.mk (fun _ => ?_) | refine Look.at0 ?_ | refine Cell.row ?_ | refine Cell.buf ?_ | refine Cells.row rfl ?_ | refine Put.row rfl ?_ | refine Put.buf rfl ?_ | refine Look.at1 ?_ | refine Look.at2 ?_ | refine Look.at3 ?_ | refine Look.at4 ?_ | refine Look.at5 ?_ | refine Look.at6 ?_ | refine Look.at7 ?_ | refine Look.at8 ?_ | with_reducible refine Val.i64 (by omega) (by omega) ?_ | with_reducible refine Val.u8 (by omega) (by omega) ?_ | with_reducible refine Val.u32 (by omega) (by omega) ?_ | with_reducible refine Val.u64 (by omega) (by omega) ?_ | with_reducible refine Val.u8m ?_ | with_reducible refine Val.u32m ?_ | with_reducible refine Val.u64m ?_ | with_reducible refine Val.shr8 ?_ | with_reducible refine Val.shr16 (by decide) ?_ | with_reducible refine Val.shr24 (by decide) ?_ | with_reducible refine Val.raw ?_ | refine Branch.not ?_ | refine Branch.and ?_ | refine Branch.or ?_ | refine Branch.dt (by assumption) ?_ | refine Branch.df (by assumption) ?_ | refine Branch.dt rfl ?_ | refine Branch.dt (by omega) ?_ | refine Branch.df (by omega) ?_ | refine Branch.t rfl ?_ | refine Branch.f rfl ?_ | refine Branch.t (by assumption) ?_ | refine Branch.f (by assumption) ?_ | refine Branch.d (fun _ => ?_) (fun _ => ?_) | refine Branch.mk (fun _ => ?_) (fun _ => ?_) | refine Need.mk (by first | omega | decide | rfl) ?_ | refine Idx.nat (by omega) ?_ | refine Idx.auto (by first | omega | decide) (by first | omega | decide) ?_ | refine Cell.ro rfl ?_ | refine SDraw.all (by kernel_rfl) ?_ | refine Kept.k0 ?_ | refine Kept.k1 ?_ | refine Kept.k2 ?_ | refine Kept.k3 ?_ | refine Kept.k4 ?_))
  · have hd := hD (by omega)
    clear hK hD
    repeat' ((conv => whnf); (first | refine Branch.dt (by omega) ?_ | refine RawV.panic rfl hd | refine New.mk (fun _ => ?_) | refine Look.at0 ?_ | refine Cell.row ?_ | refine Cell.buf ?_ | refine Cells.row rfl ?_ | refine Put.row rfl ?_ | refine Put.buf rfl ?_ | refine Look.at1 ?_ | refine Look.at2 ?_ | refine Look.at3 ?_ | refine Look.at4 ?_ | refine Look.at5 ?_ | refine Look.at6 ?_ | refine Look.at7 ?_ | refine Look.at8 ?_ | with_reducible refine Val.i64 (by omega) (by omega) ?_ | with_reducible refine Val.u8 (by omega) (by omega) ?_ | with_reducible refine Val.u32 (by omega) (by omega) ?_ | with_reducible refine Val.u64 (by omega) (by omega) ?_ | with_reducible refine Val.u8m ?_ | with_reducible refine Val.u32m ?_ | with_reducible refine Val.u64m ?_ | with_reducible refine Val.shr8 ?_ | with_reducible refine Val.shr16 (by decide) ?_ | with_reducible refine Val.shr24 (by decide) ?_ | with_reducible refine Val.raw ?_ | refine Branch.not ?_ | refine Branch.and ?_ | refine Branch.or ?_ | refine Branch.dt (by assumption) ?_ | refine Branch.df (by assumption) ?_ | refine Branch.dt rfl ?_ | refine Branch.dt (by omega) ?_ | refine Branch.df (by omega) ?_ | refine Branch.t rfl ?_ | refine Branch.f rfl ?_ | refine Branch.t (by assumption) ?_ | refine Branch.f (by assumption) ?_ | refine Branch.d (fun _ => ?_) (fun _ => ?_) | refine Branch.mk (fun _ => ?_) (fun _ => ?_) | refine Need.mk (by first | omega | decide | rfl) ?_ | refine Idx.nat (by omega) ?_ | refine Idx.auto (by first | omega | decide) (by first | omega | decide) ?_ | refine Cell.ro rfl ?_ | refine SDraw.all (by kernel_rfl) ?_ | refine Kept.k0 ?_ | refine Kept.k1 ?_ | refine Kept.k2 ?_ | refine Kept.k3 ?_ | refine Kept.k4 ?_))
theorem c65 (ha : a ≤ s.length) (hl : s.length ≤ 65536) (hn : n ≤ 100) (hb : ∀ x, s[a]? = some x → x = b) (hD : a = s.length → Dies.D (wrg a 3))
    (hK : a < s.length → K (.int .u8 (b.toNat : Int)) [rdB r s (a + 1) b.toNat (tk lv n b.toNat) p sv]) : SCalls Tryd.prog 65 [ptr r] [rdB r s a lv n p sv] K := by
  refine enter65 ?_
  have h67 : ∀ (K2 : Value → Heap → Prop), (a < s.length → K2 (.int .u8 (b.toNat : Int)) [rdB r s (a + 1) lv n p sv]) → SCalls Tryd.prog 67 [ptr r] [rdB r s a lv n p sv] K2 := fun K2 hk => c67 ha hl hb hD hk
  unfold tk at hK
  by_cases h : b.toNat = lv
  · subst h
    rw [if_pos rfl] at hK
    have e : ((n + 1 : Nat) : Int) = (n : Int) + 1 := by omega
    simp only [rdB, e] at hK
    repeat' ((conv => whnf); (first | with_reducible refine h67 _ (fun hlt => ?_) | refine Branch.dt rfl ?_ | exact Keep.all (hK hlt) | refine New.mk (fun _ => ?_) | refine Look.at0 ?_ | refine Cell.row ?_ | refine Cell.buf ?_ | refine Cells.row rfl ?_ | refine Put.row rfl ?_ | refine Put.buf rfl ?_ | refine Look.at1 ?_ | refine Look.at2 ?_ | refine Look.at3 ?_ | refine Look.at4 ?_ | refine Look.at5 ?_ | refine Look.at6 ?_ | refine Look.at7 ?_ | refine Look.at8 ?_ | with_reducible refine Val.i64 (by omega) (by omega) ?_ | with_reducible refine Val.u8 (by omega) (by omega) ?_ | with_reducible refine Val.u32 (by omega) (by omega) ?_ | with_reducible refine Val.u64 (by omega) (by omega) ?_ | with_reducible refine Val.u8m ?_ | with_reducible refine Val.u32m ?_ | with_reducible refine Val.u64m ?_ | with_reducible refine Val.shr8 ?_ | with_reducible refine Val.shr16 (by decide) ?_ | with_reducible refine Val.shr24 (by decide) ?_ | with_reducible refine Val.raw ?_ | refine Branch.not ?_ | refine Branch.and ?_ | refine Branch.or ?_ | refine Branch.dt (by assumption) ?_ | refine Branch.df (by assumption) ?_ | refine Branch.dt rfl ?_ | refine Branch.dt (by omega) ?_ | refine Branch.df (by omega) ?_ | refine Branch.t rfl ?_ | refine Branch.f rfl ?_ | refine Branch.t (by assumption) ?_ | refine Branch.f (by assumption) ?_ | refine Branch.d (fun _ => ?_) (fun _ => ?_) | refine Branch.mk (fun _ => ?_) (fun _ => ?_) | refine Need.mk (by first | omega | decide | rfl) ?_ | refine Idx.nat (by omega) ?_ | refine Idx.auto (by first | omega | decide) (by first | omega | decide) ?_ | refine Cell.ro rfl ?_ | refine SDraw.all (by kernel_rfl) ?_ | refine Kept.k0 ?_ | refine Kept.k1 ?_ | refine Kept.k2 ?_ | refine Kept.k3 ?_ | refine Kept.k4 ?_))
  · rw [if_neg h] at hK
    have h' : ¬ (b.toNat : Int) = (lv : Int) := by omega
    repeat' ((conv => whnf); (first | with_reducible refine h67 _ (fun hlt => ?_) | refine Branch.df h' ?_ | exact Keep.all (hK hlt) | refine New.mk (fun _ => ?_) | refine Look.at0 ?_ | refine Cell.row ?_ | refine Cell.buf ?_ | refine Cells.row rfl ?_ | refine Put.row rfl ?_ | refine Put.buf rfl ?_ | refine Look.at1 ?_ | refine Look.at2 ?_ | refine Look.at3 ?_ | refine Look.at4 ?_ | refine Look.at5 ?_ | refine Look.at6 ?_ | refine Look.at7 ?_ | refine Look.at8 ?_ | with_reducible refine Val.i64 (by omega) (by omega) ?_ | with_reducible refine Val.u8 (by omega) (by omega) ?_ | with_reducible refine Val.u32 (by omega) (by omega) ?_ | with_reducible refine Val.u64 (by omega) (by omega) ?_ | with_reducible refine Val.u8m ?_ | with_reducible refine Val.u32m ?_ | with_reducible refine Val.u64m ?_ | with_reducible refine Val.shr8 ?_ | with_reducible refine Val.shr16 (by decide) ?_ | with_reducible refine Val.shr24 (by decide) ?_ | with_reducible refine Val.raw ?_ | refine Branch.not ?_ | refine Branch.and ?_ | refine Branch.or ?_ | refine Branch.dt (by assumption) ?_ | refine Branch.df (by assumption) ?_ | refine Branch.dt rfl ?_ | refine Branch.dt (by omega) ?_ | refine Branch.df (by omega) ?_ | refine Branch.t rfl ?_ | refine Branch.f rfl ?_ | refine Branch.t (by assumption) ?_ | refine Branch.f (by assumption) ?_ | refine Branch.d (fun _ => ?_) (fun _ => ?_) | refine Branch.mk (fun _ => ?_) (fun _ => ?_) | refine Need.mk (by first | omega | decide | rfl) ?_ | refine Idx.nat (by omega) ?_ | refine Idx.auto (by first | omega | decide) (by first | omega | decide) ?_ | refine Cell.ro rfl ?_ | refine SDraw.all (by kernel_rfl) ?_ | refine Kept.k0 ?_ | refine Kept.k1 ?_ | refine Kept.k2 ?_ | refine Kept.k3 ?_ | refine Kept.k4 ?_))
theorem c54 {e : Int} {c : UInt8} (ha : a < s.length ∨ a = s.length) (hl : s.length ≤ 65536) (hb : ∀ x, s[a]? = some x → x = b) (hD : a = s.length → Dies.D (wrg a 3)) (hD2 : a < s.length → ¬ b = c → Dies.D (wrg a e))
    (hK : a < s.length → b = c → K (.tuple ⟨[]⟩) [rdB r s (a + 1) lv n p sv]) : SCalls Tryd.prog 54 [ptr r, .int .u8 (c.toNat : Int), .int .i64 e] [rdB r s a lv n p sv] K := by
  refine enter54 ?_
  have h67 : ∀ (K2 : Value → Heap → Prop), (a < s.length → K2 (.int .u8 (b.toNat : Int)) [rdB r s (a + 1) lv n p sv]) → SCalls Tryd.prog 67 [ptr r] [rdB r s a lv n p sv] K2 := fun K2 hk => c67 (by omega) hl hb hD hk
  by_cases h : b = c
  · subst h
    repeat' ((conv => whnf); (first | with_reducible refine h67 _ (fun hlt => ?_) | refine Branch.f (by simp; done) ?_ | exact Keep.all (hK hlt rfl) | refine New.mk (fun _ => ?_) | refine Look.at0 ?_ | refine Cell.row ?_ | refine Cell.buf ?_ | refine Cells.row rfl ?_ | refine Put.row rfl ?_ | refine Put.buf rfl ?_ | refine Look.at1 ?_ | refine Look.at2 ?_ | refine Look.at3 ?_ | refine Look.at4 ?_ | refine Look.at5 ?_ | refine Look.at6 ?_ | refine Look.at7 ?_ | refine Look.at8 ?_ | with_reducible refine Val.i64 (by omega) (by omega) ?_ | with_reducible refine Val.u8 (by omega) (by omega) ?_ | with_reducible refine Val.u32 (by omega) (by omega) ?_ | with_reducible refine Val.u64 (by omega) (by omega) ?_ | with_reducible refine Val.u8m ?_ | with_reducible refine Val.u32m ?_ | with_reducible refine Val.u64m ?_ | with_reducible refine Val.shr8 ?_ | with_reducible refine Val.shr16 (by decide) ?_ | with_reducible refine Val.shr24 (by decide) ?_ | with_reducible refine Val.raw ?_ | refine Branch.not ?_ | refine Branch.and ?_ | refine Branch.or ?_ | refine Branch.dt (by assumption) ?_ | refine Branch.df (by assumption) ?_ | refine Branch.dt rfl ?_ | refine Branch.dt (by omega) ?_ | refine Branch.df (by omega) ?_ | refine Branch.t rfl ?_ | refine Branch.f rfl ?_ | refine Branch.t (by assumption) ?_ | refine Branch.f (by assumption) ?_ | refine Branch.d (fun _ => ?_) (fun _ => ?_) | refine Branch.mk (fun _ => ?_) (fun _ => ?_) | refine Need.mk (by first | omega | decide | rfl) ?_ | refine Idx.nat (by omega) ?_ | refine Idx.auto (by first | omega | decide) (by first | omega | decide) ?_ | refine Cell.ro rfl ?_ | refine SDraw.all (by kernel_rfl) ?_ | refine Kept.k0 ?_ | refine Kept.k1 ?_ | refine Kept.k2 ?_ | refine Kept.k3 ?_ | refine Kept.k4 ?_))
  · have h' : ¬ (b.toNat : Int) = (c.toNat : Int) := fun e => h (UInt8.toNat_inj.1 (by omega))
    have e1 : ((a + 1 : Nat) : Int) - 1 = (a : Int) := by omega
    repeat' ((conv => whnf); (first | with_reducible refine h67 _ (fun hlt => ?_) | refine Branch.t (by simp [h']; done) ?_ | with_reducible refine Val.to (a : Int) (by rw [wrap_i64 (by omega) (by omega)]; exact e1) ?_ | exact RawV.panic rfl (hD2 hlt h) | refine New.mk (fun _ => ?_) | refine Look.at0 ?_ | refine Cell.row ?_ | refine Cell.buf ?_ | refine Cells.row rfl ?_ | refine Put.row rfl ?_ | refine Put.buf rfl ?_ | refine Look.at1 ?_ | refine Look.at2 ?_ | refine Look.at3 ?_ | refine Look.at4 ?_ | refine Look.at5 ?_ | refine Look.at6 ?_ | refine Look.at7 ?_ | refine Look.at8 ?_ | with_reducible refine Val.i64 (by omega) (by omega) ?_ | with_reducible refine Val.u8 (by omega) (by omega) ?_ | with_reducible refine Val.u32 (by omega) (by omega) ?_ | with_reducible refine Val.u64 (by omega) (by omega) ?_ | with_reducible refine Val.u8m ?_ | with_reducible refine Val.u32m ?_ | with_reducible refine Val.u64m ?_ | with_reducible refine Val.shr8 ?_ | with_reducible refine Val.shr16 (by decide) ?_ | with_reducible refine Val.shr24 (by decide) ?_ | with_reducible refine Val.raw ?_ | refine Branch.not ?_ | refine Branch.and ?_ | refine Branch.or ?_ | refine Branch.dt (by assumption) ?_ | refine Branch.df (by assumption) ?_ | refine Branch.dt rfl ?_ | refine Branch.dt (by omega) ?_ | refine Branch.df (by omega) ?_ | refine Branch.t rfl ?_ | refine Branch.f rfl ?_ | refine Branch.t (by assumption) ?_ | refine Branch.f (by assumption) ?_ | refine Branch.d (fun _ => ?_) (fun _ => ?_) | refine Branch.mk (fun _ => ?_) (fun _ => ?_) | refine Need.mk (by first | omega | decide | rfl) ?_ | refine Idx.nat (by omega) ?_ | refine Idx.auto (by first | omega | decide) (by first | omega | decide) ?_ | refine Cell.ro rfl ?_ | refine SDraw.all (by kernel_rfl) ?_ | refine Kept.k0 ?_ | refine Kept.k1 ?_ | refine Kept.k2 ?_ | refine Kept.k3 ?_ | refine Kept.k4 ?_))
end
end Go.Proofs.YtledahfkpnbfcaaDoor

/- Layer 2: the reader takes bits of a body, by walks. -/
set_option linter.unusedVariables false
set_option linter.unusedSimpArgs false
set_option maxRecDepth 100000
set_option maxHeartbeats 4000000
namespace Go.Proofs.YtledahfkpnbfcaaDoor
open Sx
/-- A text s that begins as t does, as far as it goes; where it is shorter a reader may give up at its end. -/
structure Src [Dies] (s t : List UInt8) : Prop where
  al : Alike s t
  sh : s.length < t.length → Dies.D (wrg s.length 3)
  lim : s.length ≤ 65536
theorem Src.same [Dies] {s t : List UInt8} (h : Src s t) {a : Nat} {b : UInt8} (hb : t[a]? = some b) : ∀ x, s[a]? = some x → x = b := fun x hx => h.al a x b hx hb
theorem Src.dies [Dies] {s t : List UInt8} (h : Src s t) {a : Nat} {b : UInt8} (hb : t[a]? = some b) (ha : a = s.length) : Dies.D (wrg a 3) := by
  subst ha
  exact h.sh (List.getElem?_eq_some_iff.1 hb).1
/-- A reader that has read the bits p. -/
inductive RdH (s : List UInt8) (r : Nat) (p : List UInt8) : Heap → Prop
  | mk {a lv n : Nat} {N : Heap} : RdAt p a lv n → a ≤ s.length → Bld 73 r (rdC s a lv n) p N → RdH s r p N
/-- A reader that has read the bits p, and what was put in behind them. -/
inductive RdD (s : List UInt8) (r : Nat) (p : List UInt8) (k : Nat) : Heap → Prop
  | mk {a lv n : Nat} {N : Heap} : a = (stf p).out.length + k → a ≤ s.length → Bld 73 r (rdC s a lv n) p N → RdD s r p k N
theorem RdAt.lev {p : List UInt8} {a lv n : Nat} (h : RdAt p a lv n) (h5 : n = 5) : ∃ c ∈ p, lv = c.toNat := by
  cases h with
  | done => have := (St.ok p).1; omega
  | pend q c e _ => exact ⟨c, by rw [e]; simp, rfl⟩
theorem oth_ne {b : UInt8} (h : isB b = true) : ¬ (oth b).toNat = b.toNat := by
  have := oth_n h
  omega
theorem getL_snoc (p : List UInt8) (b : UInt8) (z : List UInt8) : p ++ b :: z = p ++ [b] ++ z := by simp
section
variable [Dies] {K : Value → Heap → Prop} {r : Nat} {s p z u : List UInt8} {a lv n : Nat} {pp sv : Value} {b : UInt8}
theorem c53 (hs : Src s ((stf (p ++ z)).out ++ u)) (hp : ∀ b ∈ p, isB b = true) (hR : RdAt p a lv n) (ha : a ≤ s.length)
    (hK : (stf p).out.length ≤ s.length → K (.tuple ⟨[]⟩) [rdB r s (stf p).out.length (stf p).lv (stf p).n pp sv]) : SCalls Tryd.prog 53 [ptr r] [rdB r s a lv n pp sv] K := by
  refine enter53 ?_
  have hl := hs.lim
  rcases hR.cases with ⟨h1, rfl, rfl, rfl⟩ | ⟨b, rfl, rfl, h3, h4, h5, h6⟩
  · have hk := hK ha
    clear hK hR
    repeat' ((conv => whnf); (first | refine Branch.dt (by omega) ?_ | with_reducible exact Keep.all hk | refine New.mk (fun _ => ?_) | refine Look.at0 ?_ | refine Cell.row ?_ | refine Cell.buf ?_ | refine Cells.row rfl ?_ | refine Put.row rfl ?_ | refine Put.buf rfl ?_ | refine Look.at1 ?_ | refine Look.at2 ?_ | refine Look.at3 ?_ | refine Look.at4 ?_ | refine Look.at5 ?_ | refine Look.at6 ?_ | refine Look.at7 ?_ | refine Look.at8 ?_ | with_reducible refine Val.i64 (by omega) (by omega) ?_ | with_reducible refine Val.u8 (by omega) (by omega) ?_ | with_reducible refine Val.u32 (by omega) (by omega) ?_ | with_reducible refine Val.u64 (by omega) (by omega) ?_ | with_reducible refine Val.u8m ?_ | with_reducible refine Val.u32m ?_ | with_reducible refine Val.u64m ?_ | with_reducible refine Val.shr8 ?_ | with_reducible refine Val.shr16 (by decide) ?_ | with_reducible refine Val.shr24 (by decide) ?_ | with_reducible refine Val.raw ?_ | refine Branch.not ?_ | refine Branch.and ?_ | refine Branch.or ?_ | refine Branch.dt (by assumption) ?_ | refine Branch.df (by assumption) ?_ | refine Branch.dt rfl ?_ | refine Branch.dt (by omega) ?_ | refine Branch.df (by omega) ?_ | refine Branch.t rfl ?_ | refine Branch.f rfl ?_ | refine Branch.t (by assumption) ?_ | refine Branch.f (by assumption) ?_ | refine Branch.d (fun _ => ?_) (fun _ => ?_) | refine Branch.mk (fun _ => ?_) (fun _ => ?_) | refine Need.mk (by first | omega | decide | rfl) ?_ | refine Idx.nat (by omega) ?_ | refine Idx.auto (by first | omega | decide) (by first | omega | decide) ?_ | refine Cell.ro rfl ?_ | refine SDraw.all (by kernel_rfl) ?_ | refine Kept.k0 ?_ | refine Kept.k1 ?_ | refine Kept.k2 ?_ | refine Kept.k3 ?_ | refine Kept.k4 ?_))
  · have hat := put_at (z := z) (u := u) h3
    have hbb : isB b = true := by
      obtain ⟨c, hc, e⟩ := hR.lev rfl
      rw [UInt8.toNat_inj.1 e]
      exact hp c hc
    have hne := oth_ne hbb
    have htk : tk b.toNat 5 (oth b).toNat = 1 := by unfold tk; rw [if_neg hne]
    have h65 : ∀ (K2 : Value → Heap → Prop), (a < s.length → K2 (.int .u8 ((oth b).toNat : Int)) [rdB r s (a + 1) (oth b).toNat 1 pp sv]) → SCalls Tryd.prog 65 [ptr r] [rdB r s a b.toNat 5 pp sv] K2 := fun K2 hk =>
      c65 ha hl (by decide) (hs.same hat) (hs.dies hat) (fun h => by rw [htk]; exact hk h)
    have hk := fun h => hK (by omega)
    rw [h5, h6, ← h4] at hk
    have hne' : ¬ ((oth b).toNat : Int) = (b.toNat : Int) := by omega
    clear hK
    repeat' ((conv => whnf); (first | refine Branch.df (by decide) ?_ | with_reducible refine h65 _ (fun hlt => ?_) | refine Branch.df hne' ?_ | exact Keep.all (hk hlt) | refine New.mk (fun _ => ?_) | refine Look.at0 ?_ | refine Cell.row ?_ | refine Cell.buf ?_ | refine Cells.row rfl ?_ | refine Put.row rfl ?_ | refine Put.buf rfl ?_ | refine Look.at1 ?_ | refine Look.at2 ?_ | refine Look.at3 ?_ | refine Look.at4 ?_ | refine Look.at5 ?_ | refine Look.at6 ?_ | refine Look.at7 ?_ | refine Look.at8 ?_ | with_reducible refine Val.i64 (by omega) (by omega) ?_ | with_reducible refine Val.u8 (by omega) (by omega) ?_ | with_reducible refine Val.u32 (by omega) (by omega) ?_ | with_reducible refine Val.u64 (by omega) (by omega) ?_ | with_reducible refine Val.u8m ?_ | with_reducible refine Val.u32m ?_ | with_reducible refine Val.u64m ?_ | with_reducible refine Val.shr8 ?_ | with_reducible refine Val.shr16 (by decide) ?_ | with_reducible refine Val.shr24 (by decide) ?_ | with_reducible refine Val.raw ?_ | refine Branch.not ?_ | refine Branch.and ?_ | refine Branch.or ?_ | refine Branch.dt (by assumption) ?_ | refine Branch.df (by assumption) ?_ | refine Branch.dt rfl ?_ | refine Branch.dt (by omega) ?_ | refine Branch.df (by omega) ?_ | refine Branch.t rfl ?_ | refine Branch.f rfl ?_ | refine Branch.t (by assumption) ?_ | refine Branch.f (by assumption) ?_ | refine Branch.d (fun _ => ?_) (fun _ => ?_) | refine Branch.mk (fun _ => ?_) (fun _ => ?_) | refine Need.mk (by first | omega | decide | rfl) ?_ | refine Idx.nat (by omega) ?_ | refine Idx.auto (by first | omega | decide) (by first | omega | decide) ?_ | refine Cell.ro rfl ?_ | refine SDraw.all (by kernel_rfl) ?_ | refine Kept.k0 ?_ | refine Kept.k1 ?_ | refine Kept.k2 ?_ | refine Kept.k3 ?_ | refine Kept.k4 ?_))
end
inductive S52 (A0 A1 A5 A7 A8 : Value) : List Value → Prop
  | mk {r2 r3 r4 r6 r9 r10 r11 r12 r13 r14 r15 r16 r17 r18 r19 r20 r21 r22 r23 r24 r25 r26 : Value} : S52 A0 A1 A5 A7 A8 [A0, A1, r2, r3, r4, A5, r6, A7, A8, r9, r10, r11, r12, r13, r14, r15, r16, r17, r18, r19, r20, r21, r22, r23, r24, r25, r26]
theorem shl1 {v : Nat} (h : v < 2 ^ 32) : shlI .u64 (v : Int) 1 = ((v * 2 : Nat) : Int) := by
  have := shl_nat (k := .u64) rfl (a := v) (n := 1) (by decide)
  rw [Nat.mod_eq_of_lt (show v * 2 ^ 1 < 2 ^ IntKind.u64.bits by show v * 2 < 18446744073709551616; omega)] at this
  exact this
theorem or1 {v d : Nat} (h : v < 2 ^ 32) (hd : d < 2) : bitOr .u64 ((v * 2 : Nat) : Int) (d : Int) = ((v * 2 + d : Nat) : Int) := by
  rw [bitOr_nat rfl (by show v * 2 < 18446744073709551616; omega) (by show d < 18446744073709551616; omega)]
  congr 1
  have := Nat.two_pow_add_eq_or_of_lt (i := 1) (b := d) (by omega) v
  rw [show 2 ^ 1 * v = v * 2 by omega] at this
  omega
section
variable [Dies] {K : Value → Heap → Prop} {r : Nat} {s p q z u : List UInt8} {N : Heap}
theorem c52 {k : Nat} (hs : Src s ((stf (p ++ q ++ z)).out ++ u)) (hq : q.length = k) (hk : k ≤ 18) (hB : ∀ b ∈ p ++ q, isB b = true) (hl : p.length ≤ 200) (hN : RdH s r p N)
    (hK : ∀ N', RdH s r (p ++ q) N' → K (.int .u64 (vB q : Int)) N') : SCalls Tryd.prog 52 [ptr r, .int .i64 (k : Int)] N K := by
  refine enter52 ?_
  repeat' ((conv => whnf); (first | refine New.mk (fun _ => ?_) | refine Look.at0 ?_ | refine Cell.row ?_ | refine Cell.buf ?_ | refine Cells.row rfl ?_ | refine Put.row rfl ?_ | refine Put.buf rfl ?_ | refine Look.at1 ?_ | refine Look.at2 ?_ | refine Look.at3 ?_ | refine Look.at4 ?_ | refine Look.at5 ?_ | refine Look.at6 ?_ | refine Look.at7 ?_ | refine Look.at8 ?_ | with_reducible refine Val.i64 (by omega) (by omega) ?_ | with_reducible refine Val.u8 (by omega) (by omega) ?_ | with_reducible refine Val.u32 (by omega) (by omega) ?_ | with_reducible refine Val.u64 (by omega) (by omega) ?_ | with_reducible refine Val.u8m ?_ | with_reducible refine Val.u32m ?_ | with_reducible refine Val.u64m ?_ | with_reducible refine Val.shr8 ?_ | with_reducible refine Val.shr16 (by decide) ?_ | with_reducible refine Val.shr24 (by decide) ?_ | with_reducible refine Val.raw ?_ | refine Branch.not ?_ | refine Branch.and ?_ | refine Branch.or ?_ | refine Branch.dt (by assumption) ?_ | refine Branch.df (by assumption) ?_ | refine Branch.dt rfl ?_ | refine Branch.dt (by omega) ?_ | refine Branch.df (by omega) ?_ | refine Branch.t rfl ?_ | refine Branch.f rfl ?_ | refine Branch.t (by assumption) ?_ | refine Branch.f (by assumption) ?_ | refine Branch.d (fun _ => ?_) (fun _ => ?_) | refine Branch.mk (fun _ => ?_) (fun _ => ?_) | refine Need.mk (by first | omega | decide | rfl) ?_ | refine Idx.nat (by omega) ?_ | refine Idx.auto (by first | omega | decide) (by first | omega | decide) ?_ | refine Cell.ro rfl ?_ | refine SDraw.all (by kernel_rfl) ?_ | refine Kept.k0 ?_ | refine Kept.k1 ?_ | refine Kept.k2 ?_ | refine Kept.k3 ?_ | refine Kept.k4 ?_))
  refine SLoop.invA (fun (j : Nat) S H' => j ≤ k ∧ S52 (ptr r) (.int .i64 (k : Int)) (.int .u64 (vB (q.take j) : Int)) (.int .i64 (k : Int)) (.int .i64 (j : Int)) S ∧ RdH s r (p ++ q.take j) H') (fun j => k - j) 0 (Keep.all ⟨Nat.zero_le _, .mk, by simpa using hN⟩) ?_
  rintro j S H' ⟨hj, hS, hH⟩ R hR
  cases hS
  by_cases hlt : j < k
  · have hx := List.getElem?_eq_getElem (show j < q.length by omega)
    generalize q[j] = b at hx
    have htk : q.take (j + 1) = q.take j ++ [b] := by rw [List.take_add_one, hx]; rfl
    have hqs : q = q.take j ++ b :: q.drop (j + 1) := by
      have h1 := List.take_append_drop j q
      have h2 : q.drop j = b :: q.drop (j + 1) := by
        obtain ⟨h3, h4⟩ := List.getElem?_eq_some_iff.1 hx
        rw [List.drop_eq_getElem_cons h3, h4]
      rw [h2] at h1; exact h1.symm
    have hbB : isB b = true := hB b (List.mem_append_right _ (List.mem_of_getElem? hx))
    have hpB : ∀ c ∈ p ++ q.take j, isB c = true := fun c hc => hB c (by
      rcases List.mem_append.1 hc with h | h
      · exact List.mem_append_left _ h
      · exact List.mem_append_right _ (List.mem_of_mem_take h))
    have hvl : vB (q.take j) < 2 ^ 32 := by
      have h1 := vB_lt (q.take j) fun c hc => hB c (List.mem_append_right _ (List.mem_of_mem_take hc))
      have h2 : (q.take j).length ≤ 32 := by rw [List.length_take]; omega
      exact Nat.lt_of_lt_of_le h1 (Nat.pow_le_pow_right (by decide) h2)
    have hvn : vB (q.take (j + 1)) = vB (q.take j) * 2 + (b.toNat - 48) := by rw [htk, vB_snoc]; omega
    have hbl : (p ++ q.take j).length ≤ 300 := by rw [List.length_append, List.length_take]; omega
    have hsp : p ++ q ++ z = (p ++ q.take j) ++ b :: (q.drop (j + 1) ++ z) := by
      conv => lhs; rw [hqs]
      simp
    have hpn : p ++ q.take (j + 1) = p ++ q.take j ++ [b] := by rw [htk, List.append_assoc]
    have hnext : ∀ S H2, S52 (ptr r) (.int .i64 (k : Int)) (.int .u64 ((vB (q.take j) * 2 + (b.toNat - 48) : Nat) : Int)) (.int .i64 (k : Int)) (.int .i64 ((j + 1 : Nat) : Int)) S → RdH s r (p ++ q.take j ++ [b]) H2 → R S H2 := fun S H2 hS hH2 => hR (j + 1) S H2 (by omega) (Keep.all ⟨hlt, by rw [hvn]; exact hS, by rw [hpn]; exact hH2⟩)
    rw [hsp] at hs
    clear hR hK htk hqs hB hvn hsp hpn hN
    generalize p ++ q.take j = P at *
    generalize vB (q.take j) = v at *
    generalize q.drop (j + 1) ++ z = z2 at *
    cases hH with
    | @mk a lv n N hRA ha hBd =>
      cases hBd with
      | @mk pp sv M hpp hbuf =>
        have h53 : ∀ (K2 : Value → Heap → Prop), ((stf P).out.length ≤ s.length → K2 (.tuple ⟨[]⟩) (rdB r s (stf P).out.length (stf P).lv (stf P).n pp sv :: M)) → SCalls Tryd.prog 53 [ptr r] (rdB r s a lv n pp sv :: M) K2 := fun K2 hk => SCalls.at0 (c53 hs hpB hRA ha (fun h => hk h))
        have hbt := body_at (p := P) (z := z2) (b := b) (u := u)
        have h4 := (St.ok P).1
        have h65 : (stf P).out.length ≤ s.length → ∀ (K2 : Value → Heap → Prop), ((stf P).out.length < s.length → K2 (.int .u8 (b.toNat : Int)) (rdB r s ((stf P).out.length + 1) b.toNat (tk (stf P).lv (stf P).n b.toNat) pp sv :: M)) → SCalls Tryd.prog 65 [ptr r] (rdB r s (stf P).out.length (stf P).lv (stf P).n pp sv :: M) K2 :=
          fun ha K2 hk => SCalls.at0 (c65 ha hs.lim (by omega) (hs.same hbt) (hs.dies hbt) (fun h => hk h))
        have h66 : ∀ (K2 : Value → Heap → Prop), (∀ N', Bld 73 r (rdC s ((stf P).out.length + 1) b.toNat (tk (stf P).lv (stf P).n b.toNat)) (P ++ [b]) N' → K2 .nilIface N') → SCalls Tryd.prog 66 [.pointer (some ⟨r, 4, none⟩), .int .u8 (b.toNat : Int)] (rdB r s ((stf P).out.length + 1) b.toNat (tk (stf P).lv (stf P).n b.toNat) pp sv :: M) K2 :=
          fun K2 hk => SCalls.calm (c66 (T := 73) (pre := rdC s ((stf P).out.length + 1) b.toNat (tk (stf P).lv (stf P).n b.toNat)) bt73 (.mk hpp hbuf) (by omega) hk)
        have hnx : (stf P).out.length < s.length → ∀ N', Bld 73 r (rdC s ((stf P).out.length + 1) b.toNat (tk (stf P).lv (stf P).n b.toNat)) (P ++ [b]) N' → RdH s r (P ++ [b]) N' := fun h N' hb => .mk (RdAt.more P b) h hb
        have hb2 := isB_cases hbB
        have e1 := shl1 hvl
        have e2 : bitOr .u64 ((v * 2 : Nat) : Int) ((b.toNat : Int) - 48) = ((v * 2 + (b.toNat - 48) : Nat) : Int) := by
          have := or1 (d := b.toNat - 48) hvl (by omega)
          rw [show ((b.toNat - 48 : Nat) : Int) = (b.toNat : Int) - 48 by omega] at this
          exact this
        have ej : ((j + 1 : Nat) : Int) = (j : Int) + 1 := by omega
        rw [ej] at hnext
        clear hbuf hs
        repeat' ((conv => whnf); (first | refine Branch.dt (by omega) ?_ | refine h53 _ (fun hle => ?_) | with_reducible refine h65 hle _ (fun hlt2 => ?_) | with_reducible refine h66 _ (fun N' hN' => ?_) | with_reducible refine Val.to _ e1 ?_ | with_reducible refine Val.to _ e2 ?_ | exact hnext _ _ .mk (hnx hlt2 _ hN') | refine New.mk (fun _ => ?_) | refine Look.at0 ?_ | refine Cell.row ?_ | refine Cell.buf ?_ | refine Cells.row rfl ?_ | refine Put.row rfl ?_ | refine Put.buf rfl ?_ | refine Look.at1 ?_ | refine Look.at2 ?_ | refine Look.at3 ?_ | refine Look.at4 ?_ | refine Look.at5 ?_ | refine Look.at6 ?_ | refine Look.at7 ?_ | refine Look.at8 ?_ | with_reducible refine Val.i64 (by omega) (by omega) ?_ | with_reducible refine Val.u8 (by omega) (by omega) ?_ | with_reducible refine Val.u32 (by omega) (by omega) ?_ | with_reducible refine Val.u64 (by omega) (by omega) ?_ | with_reducible refine Val.u8m ?_ | with_reducible refine Val.u32m ?_ | with_reducible refine Val.u64m ?_ | with_reducible refine Val.shr8 ?_ | with_reducible refine Val.shr16 (by decide) ?_ | with_reducible refine Val.shr24 (by decide) ?_ | with_reducible refine Val.raw ?_ | refine Branch.not ?_ | refine Branch.and ?_ | refine Branch.or ?_ | refine Branch.dt (by assumption) ?_ | refine Branch.df (by assumption) ?_ | refine Branch.dt rfl ?_ | refine Branch.dt (by omega) ?_ | refine Branch.df (by omega) ?_ | refine Branch.t rfl ?_ | refine Branch.f rfl ?_ | refine Branch.t (by assumption) ?_ | refine Branch.f (by assumption) ?_ | refine Branch.d (fun _ => ?_) (fun _ => ?_) | refine Branch.mk (fun _ => ?_) (fun _ => ?_) | refine Need.mk (by first | omega | decide | rfl) ?_ | refine Idx.nat (by omega) ?_ | refine Idx.auto (by first | omega | decide) (by first | omega | decide) ?_ | refine Cell.ro rfl ?_ | refine SDraw.all (by kernel_rfl) ?_ | refine Kept.k0 ?_ | refine Kept.k1 ?_ | refine Kept.k2 ?_ | refine Kept.k3 ?_ | refine Kept.k4 ?_))
  · obtain rfl : j = k := by omega
    rw [List.take_of_length_le (by omega)] at hH
    have hk2 := hK _ hH
    rw [List.take_of_length_le (by omega)]
    clear hR hK
    repeat' ((conv => whnf); (first | refine Branch.df (by omega) ?_ | exact Keep.all hk2 | refine New.mk (fun _ => ?_) | refine Look.at0 ?_ | refine Cell.row ?_ | refine Cell.buf ?_ | refine Cells.row rfl ?_ | refine Put.row rfl ?_ | refine Put.buf rfl ?_ | refine Look.at1 ?_ | refine Look.at2 ?_ | refine Look.at3 ?_ | refine Look.at4 ?_ | refine Look.at5 ?_ | refine Look.at6 ?_ | refine Look.at7 ?_ | refine Look.at8 ?_ | with_reducible refine Val.i64 (by omega) (by omega) ?_ | with_reducible refine Val.u8 (by omega) (by omega) ?_ | with_reducible refine Val.u32 (by omega) (by omega) ?_ | with_reducible refine Val.u64 (by omega) (by omega) ?_ | with_reducible refine Val.u8m ?_ | with_reducible refine Val.u32m ?_ | with_reducible refine Val.u64m ?_ | with_reducible refine Val.shr8 ?_ | with_reducible refine Val.shr16 (by decide) ?_ | with_reducible refine Val.shr24 (by decide) ?_ | with_reducible refine Val.raw ?_ | refine Branch.not ?_ | refine Branch.and ?_ | refine Branch.or ?_ | refine Branch.dt (by assumption) ?_ | refine Branch.df (by assumption) ?_ | refine Branch.dt rfl ?_ | refine Branch.dt (by omega) ?_ | refine Branch.df (by omega) ?_ | refine Branch.t rfl ?_ | refine Branch.f rfl ?_ | refine Branch.t (by assumption) ?_ | refine Branch.f (by assumption) ?_ | refine Branch.d (fun _ => ?_) (fun _ => ?_) | refine Branch.mk (fun _ => ?_) (fun _ => ?_) | refine Need.mk (by first | omega | decide | rfl) ?_ | refine Idx.nat (by omega) ?_ | refine Idx.auto (by first | omega | decide) (by first | omega | decide) ?_ | refine Cell.ro rfl ?_ | refine SDraw.all (by kernel_rfl) ?_ | refine Kept.k0 ?_ | refine Kept.k1 ?_ | refine Kept.k2 ?_ | refine Kept.k3 ?_ | refine Kept.k4 ?_))
end
end Go.Proofs.YtledahfkpnbfcaaDoor

/- Layer 2: the reader reads a frame, its loops: by walks. -/
set_option linter.unusedVariables false
set_option linter.unusedSimpArgs false
set_option maxRecDepth 100000
set_option maxHeartbeats 4000000
namespace Go.Proofs.YtledahfkpnbfcaaDoor
open Sx
theorem bodyB_ok (f : Fm) : ∀ b ∈ bodyB f, isB b = true := by
  intro b hb
  rcases List.mem_append.1 hb with h | h
  · exact sumB_ok _ _ h
  · exact numB_ok _ _ _ h
section
variable [Dies] {K : Value → Heap → Prop} {r : Nat} {s p q z u body t : List UInt8} {N : Heap} {x y : Nat × Blk}
/-- Bits are taken from a body. -/
theorem m52 {k : Nat} (hs : Src s ((stf body).out ++ u)) (hsp : body = p ++ q ++ z) (hq : q.length = k) (hk : k ≤ 18) (hB : ∀ b ∈ body, isB b = true) (hl : body.length ≤ 118) (hN : RdH s r p N)
    (hK : ∀ N', RdH s r (p ++ q) N' → K (.int .u64 (vB q : Int)) (x :: y :: N')) : SCalls Tryd.prog 52 [ptr r, .int .i64 (k : Int)] (x :: y :: N) K := by
  rw [hsp] at hs
  refine SCalls.under [x, y] (c52 hs hq hk (fun b hb => hB b (by rw [hsp]; exact List.mem_append_left _ hb)) ?_ hN hK)
  rw [hsp] at hl
  simp only [List.length_append] at hl
  omega
/-- What was put in behind the body's last bit is left out. -/
theorem m53 (hs : Src s ((stf p).out ++ u)) (hB : ∀ b ∈ p, isB b = true) (hN : RdH s r p N) (hK : ∀ N', RdD s r p 0 N' → K (.tuple ⟨[]⟩) (x :: y :: N')) : SCalls Tryd.prog 53 [ptr r] (x :: y :: N) K := by
  have hs : Src s ((stf (p ++ [])).out ++ u) := by rwa [List.append_nil]
  refine SCalls.under [x, y] ?_
  cases hN with
  | @mk a lv n N hRA ha hBd =>
    cases hBd with
    | @mk pp sv M hpp hbuf =>
      exact SCalls.at0 (c53 hs hB hRA ha (fun h => hK _ (.mk (lv := (stf p).lv) (n := (stf p).n) rfl h (.mk hpp hbuf))))
/-- The reader's text. -/
theorem m34 (hN : RdH s r p N) (hK : ∀ N', RdH s r p N' → K (.string (strOf p)) (x :: y :: N')) : SCalls Tryd.prog 34 [.pointer (some ⟨r, 4, none⟩)] (x :: y :: N) K := by
  refine SCalls.under [x, y] ?_
  cases hN with
  | @mk a lv n N hRA ha hBd => exact SCalls.calm (c34 (T := 73) (pre := rdC s a lv n) hBd (fun N' h => hK _ (.mk hRA ha h)))
/-- A bit behind the body. -/
theorem m54 {k : Nat} {e : Int} {b c : UInt8} (hs : Src s t) (hN : RdD s r p k N) (hb : t[(stf p).out.length + k]? = some b) (hD2 : (stf p).out.length + k < s.length → ¬ b = c → Dies.D (wrg ((stf p).out.length + k : Nat) e))
    (hK : ∀ N', b = c → RdD s r p (k + 1) N' → K (.tuple ⟨[]⟩) N') : SCalls Tryd.prog 54 [ptr r, .int .u8 (c.toNat : Int), .int .i64 e] N K := by
  cases hN with
  | @mk a lv n N ha0 ha hBd =>
    subst ha0
    cases hBd with
    | @mk pp sv M hpp hbuf =>
      exact SCalls.at0 (c54 (by omega) hs.lim (hs.same hb) (hs.dies hb) hD2 (fun h e => hK _ e (.mk (lv := lv) (n := n) rfl h (.mk hpp hbuf))))
end
inductive S37 (A0 A2 A3 A54 A55 : Value) : List Value → Prop
  | mk {r1 r4 r5 r6 r7 r8 r9 r10 r11 r12 r13 r14 r15 r16 r17 r18 r19 r20 r21 r22 r23 r24 r25 r26 r27 r28 r29 r30 r31 r32 r33 r34 r35 r36 r37 r38 r39 r40 r41 r42 r43 r44 r45 r46 r47 r48 r49 r50 r51 r52 r53 r56 r57 r58 r59 r60 r61 r62 r63 r64 r65 r66 r67 r68 r69 r70 r71 r72 r73 r74 r75 r76 r77 r78 r79 r80 r81 r82 r83 r84 r85 r86 r87 r88 r89 r90 r91 r92 r93 r94 r95 r96 : Value} : S37 A0 A2 A3 A54 A55 [A0, r1, A2, A3, r4, r5, r6, r7, r8, r9, r10, r11, r12, r13, r14, r15, r16, r17, r18, r19, r20, r21, r22, r23, r24, r25, r26, r27, r28, r29, r30, r31, r32, r33, r34, r35, r36, r37, r38, r39, r40, r41, r42, r43, r44, r45, r46, r47, r48, r49, r50, r51, r52, r53, A54, A55, r56, r57, r58, r59, r60, r61, r62, r63, r64, r65, r66, r67, r68, r69, r70, r71, r72, r73, r74, r75, r76, r77, r78, r79, r80, r81, r82, r83, r84, r85, r86, r87, r88, r89, r90, r91, r92, r93, r94, r95, r96]
inductive T37 (A0 A2 A3 A91 : Value) : List Value → Prop
  | mk {r1 r4 r5 r6 r7 r8 r9 r10 r11 r12 r13 r14 r15 r16 r17 r18 r19 r20 r21 r22 r23 r24 r25 r26 r27 r28 r29 r30 r31 r32 r33 r34 r35 r36 r37 r38 r39 r40 r41 r42 r43 r44 r45 r46 r47 r48 r49 r50 r51 r52 r53 r54 r55 r56 r57 r58 r59 r60 r61 r62 r63 r64 r65 r66 r67 r68 r69 r70 r71 r72 r73 r74 r75 r76 r77 r78 r79 r80 r81 r82 r83 r84 r85 r86 r87 r88 r89 r90 r92 r93 r94 r95 r96 : Value} : T37 A0 A2 A3 A91 [A0, r1, A2, A3, r4, r5, r6, r7, r8, r9, r10, r11, r12, r13, r14, r15, r16, r17, r18, r19, r20, r21, r22, r23, r24, r25, r26, r27, r28, r29, r30, r31, r32, r33, r34, r35, r36, r37, r38, r39, r40, r41, r42, r43, r44, r45, r46, r47, r48, r49, r50, r51, r52, r53, r54, r55, r56, r57, r58, r59, r60, r61, r62, r63, r64, r65, r66, r67, r68, r69, r70, r71, r72, r73, r74, r75, r76, r77, r78, r79, r80, r81, r82, r83, r84, r85, r86, r87, r88, r89, r90, A91, r92, r93, r94, r95, r96]
abbrev zRow : Blk := .row 25 [.int .u32 0, .bool false, .bool false, .int .i64 0, .int .u8 0, .int .u8 0, .int .u8 0, .int .u8 0, .int .u8 0, .int .u8 0, .int .u8 0, .int .u8 0] (0, 0)
section
variable [Dies] {r q2 q3 : Nat} {s u : List UInt8} {f : Fm} {N0 : Heap} {S0 : List Value} {Q : Post}
theorem l37 (hs : Src s ((stf (bodyB f)).out ++ u)) (hN : RdH s r (hdB f) N0) (hS : S37 (ptr r) (ptr q2) (ptr q3) (.int .i64 (nb f : Int)) (.int .i64 0) S0)
    (hQ : ∀ S N, RdH s r (sumB f) N → S37 (ptr r) (ptr q2) (ptr q3) (.int .i64 (nb f : Int)) (.int .i64 (nb f : Int)) S → Q (.exit 0) S ((q3, .row 25 (frC (plF f)) (0, 0)) :: (q2, zRow) :: N)) :
    SLoop Tryd.prog X37_l1 Q S0 ((q3, .row 25 (frC (zs f 0 8)) (0, 0)) :: (q2, zRow) :: N0) := by
  have hnb := nb_le f
  refine SLoop.invA (fun (k : Nat) S H' => k ≤ nb f ∧ S37 (ptr r) (ptr q2) (ptr q3) (.int .i64 (nb f : Int)) (.int .i64 (k : Int)) S ∧ ∃ N, RdH s r (hdB f ++ datB f k) N ∧ H' = (q3, .row 25 (frC (zs f k 8)) (0, 0)) :: (q2, zRow) :: N) (fun k => nb f - k) 0 (Keep.all ⟨Nat.zero_le _, hS, N0, by simpa [datB] using hN, rfl⟩) ?_
  rintro k S H' ⟨hk, hS, N, hN, rfl⟩ R hR
  cases hS
  by_cases hlt : k < nb f
  · have h8 : k < 8 := by omega
    obtain ⟨z, hz⟩ := datB_split f hlt hnb
    have hsp : bodyB f = (hdB f ++ datB f k) ++ numB 8 ((dB f).getD k 0).toNat ++ (z ++ numB 15 (crc (sumB f))) := by
      unfold bodyB
      conv => lhs; lhs; unfold sumB; rw [hz]
      simp [List.append_assoc]
    have hst := datB_step f h8
    have h52 : ∀ (K2 : Value → Heap → Prop), (∀ N', RdH s r (hdB f ++ datB f (k + 1)) N' → K2 (.int .u64 (((dB f).getD k 0).toNat : Int)) ((q3, .row 25 (frC (zs f k 8)) (0, 0)) :: (q2, zRow) :: N')) →
        SCalls Tryd.prog 52 [ptr r, .int .i64 8] ((q3, .row 25 (frC (zs f k 8)) (0, 0)) :: (q2, zRow) :: N) K2 := fun K2 hk2 =>
      m52 (k := 8) hs hsp (numB_len _ _) (by decide) (bodyB_ok f) (bodyB_len f) hN (fun N' h => by
        rw [vB_byte]
        exact hk2 N' (by rw [hst, ← List.append_assoc]; exact h))
    have hput : PutOk (.row 25 (frC (zs f k 8)) (0, 0)) (4 + k * 1) [b8 ((dB f).getD k 0)] (.row 25 (frC (zs f (k + 1) 8)) (0, 0)) := PutOk.row (by show 4 + k * 1 + 1 ≤ 12; omega) (by
      rw [← zs_step f h8, ← set_cut (show 4 + k < 12 by omega), Nat.mul_one]; rfl)
    have hnext := fun S N' (h1 : RdH s r (hdB f ++ datB f (k + 1)) N') hS => hR (k + 1) S _ (by omega) (Keep.all ⟨hlt, hS, N', h1, rfl⟩)
    have h256 : ((dB f).getD k 0).toNat < 256 := u8_lt _
    generalize (dB f).getD k 0 = d at *
    have hu8 : IntKind.u8.wrap (d.toNat : Int) = (d.toNat : Int) := by rw [wrap_u8]; omega
    clear hR hQ hsp hz hs hst hN
    repeat' ((conv => whnf); (first | refine Branch.dt (by omega) ?_ | with_reducible refine h52 _ (fun N' hN' => ?_) | with_reducible refine Val.to _ hu8 ?_ | refine Idx.nat h8 ?_ | refine ⟨[], _, _, rfl, _, hput, appK_to ?_⟩ | exact hnext _ _ hN' .mk | refine New.mk (fun _ => ?_) | refine Look.at0 ?_ | refine Cell.row ?_ | refine Cell.buf ?_ | refine Cells.row rfl ?_ | refine Put.row rfl ?_ | refine Put.buf rfl ?_ | refine Look.at1 ?_ | refine Look.at2 ?_ | refine Look.at3 ?_ | refine Look.at4 ?_ | refine Look.at5 ?_ | refine Look.at6 ?_ | refine Look.at7 ?_ | refine Look.at8 ?_ | with_reducible refine Val.i64 (by omega) (by omega) ?_ | with_reducible refine Val.u8 (by omega) (by omega) ?_ | with_reducible refine Val.u32 (by omega) (by omega) ?_ | with_reducible refine Val.u64 (by omega) (by omega) ?_ | with_reducible refine Val.u8m ?_ | with_reducible refine Val.u32m ?_ | with_reducible refine Val.u64m ?_ | with_reducible refine Val.shr8 ?_ | with_reducible refine Val.shr16 (by decide) ?_ | with_reducible refine Val.shr24 (by decide) ?_ | with_reducible refine Val.raw ?_ | refine Branch.not ?_ | refine Branch.and ?_ | refine Branch.or ?_ | refine Branch.dt (by assumption) ?_ | refine Branch.df (by assumption) ?_ | refine Branch.dt rfl ?_ | refine Branch.dt (by omega) ?_ | refine Branch.df (by omega) ?_ | refine Branch.t rfl ?_ | refine Branch.f rfl ?_ | refine Branch.t (by assumption) ?_ | refine Branch.f (by assumption) ?_ | refine Branch.d (fun _ => ?_) (fun _ => ?_) | refine Branch.mk (fun _ => ?_) (fun _ => ?_) | refine Need.mk (by first | omega | decide | rfl) ?_ | refine Idx.nat (by omega) ?_ | refine Idx.auto (by first | omega | decide) (by first | omega | decide) ?_ | refine Cell.ro rfl ?_ | refine SDraw.all (by kernel_rfl) ?_ | refine Kept.k0 ?_ | refine Kept.k1 ?_ | refine Kept.k2 ?_ | refine Kept.k3 ?_ | refine Kept.k4 ?_))
  · obtain rfl : k = nb f := by omega
    have hq := fun S => hQ S N hN
    clear hR hQ
    repeat' ((conv => whnf); (first | refine Branch.df (by omega) ?_ | exact Keep.all (hq _ .mk) | exact hq _ .mk | refine New.mk (fun _ => ?_) | refine Look.at0 ?_ | refine Cell.row ?_ | refine Cell.buf ?_ | refine Cells.row rfl ?_ | refine Put.row rfl ?_ | refine Put.buf rfl ?_ | refine Look.at1 ?_ | refine Look.at2 ?_ | refine Look.at3 ?_ | refine Look.at4 ?_ | refine Look.at5 ?_ | refine Look.at6 ?_ | refine Look.at7 ?_ | refine Look.at8 ?_ | with_reducible refine Val.i64 (by omega) (by omega) ?_ | with_reducible refine Val.u8 (by omega) (by omega) ?_ | with_reducible refine Val.u32 (by omega) (by omega) ?_ | with_reducible refine Val.u64 (by omega) (by omega) ?_ | with_reducible refine Val.u8m ?_ | with_reducible refine Val.u32m ?_ | with_reducible refine Val.u64m ?_ | with_reducible refine Val.shr8 ?_ | with_reducible refine Val.shr16 (by decide) ?_ | with_reducible refine Val.shr24 (by decide) ?_ | with_reducible refine Val.raw ?_ | refine Branch.not ?_ | refine Branch.and ?_ | refine Branch.or ?_ | refine Branch.dt (by assumption) ?_ | refine Branch.df (by assumption) ?_ | refine Branch.dt rfl ?_ | refine Branch.dt (by omega) ?_ | refine Branch.df (by omega) ?_ | refine Branch.t rfl ?_ | refine Branch.f rfl ?_ | refine Branch.t (by assumption) ?_ | refine Branch.f (by assumption) ?_ | refine Branch.d (fun _ => ?_) (fun _ => ?_) | refine Branch.mk (fun _ => ?_) (fun _ => ?_) | refine Need.mk (by first | omega | decide | rfl) ?_ | refine Idx.nat (by omega) ?_ | refine Idx.auto (by first | omega | decide) (by first | omega | decide) ?_ | refine Cell.ro rfl ?_ | refine SDraw.all (by kernel_rfl) ?_ | refine Kept.k0 ?_ | refine Kept.k1 ?_ | refine Kept.k2 ?_ | refine Kept.k3 ?_ | refine Kept.k4 ?_))
theorem l37b {qi : Nat} {F : Nat × Blk} {t p : List UInt8} {S0 : List Value} (hs : Src s t) (hN : RdD s r p 2 N0) (ht : ∀ j, j < 8 → t[(stf p).out.length + (2 + j)]? = some 49) (hS : T37 (ptr r) (ptr q2) (ptr q3) (ptr qi) S0)
    (hQ : ∀ S N, RdD s r p 10 N → T37 (ptr r) (ptr q2) (ptr q3) (ptr qi) S → Q (.exit 2) S ((qi, sIter (strOf (List.replicate 8 49)) 8) :: F :: (q2, zRow) :: N)) :
    SLoop Tryd.prog X37_l0 Q S0 ((qi, sIter (strOf (List.replicate 8 49)) 0) :: F :: (q2, zRow) :: N0) := by
  refine SLoop.invA (fun (j : Nat) S H' => j ≤ 8 ∧ T37 (ptr r) (ptr q2) (ptr q3) (ptr qi) S ∧ ∃ N, RdD s r p (2 + j) N ∧ H' = (qi, sIter (strOf (List.replicate 8 49)) j) :: F :: (q2, zRow) :: N) (fun j => 8 - j) 0 (Keep.all ⟨Nat.zero_le _, hS, N0, hN, rfl⟩) ?_
  rintro j S H' ⟨hj, hS, N, hN, rfl⟩ R hR
  cases hS
  have h128 : ∀ b ∈ List.replicate 8 (49 : UInt8), b.toNat < 128 := by decide
  by_cases hlt : j < 8
  · have hx : (List.replicate 8 (49 : UInt8))[j]? = some 49 := by
      rw [List.getElem?_replicate, if_pos hlt]
    have hnx : ∀ (K2 : Value → Heap → Prop), K2 (.tuple ⟨[.bool true, .int .i64 (j : Int), .int .i32 49]⟩) ((qi, sIter (strOf (List.replicate 8 49)) (j + 1)) :: F :: (q2, zRow) :: N) → ∀ o xm, Oper.op o = .next xm true → RawV Tryd.prog o [ptr qi] ((qi, sIter (strOf (List.replicate 8 49)) j) :: F :: (q2, zRow) :: N) K2 := fun K2 hk o xm ho =>
      RawV.nextS0 ho h128 (fun h => by simp at h; omega) (fun b2 hb2 => by rw [hx] at hb2; injection hb2 with hb2; subst hb2; exact hk)
    have h54 : ∀ (A : Nat × Blk) (K2 : Value → Heap → Prop), (∀ N', RdD s r p (2 + (j + 1)) N' → K2 (.tuple ⟨[]⟩) (A :: F :: (q2, zRow) :: N')) → SCalls Tryd.prog 54 [ptr r, .int .u8 49, .int .i64 22] (A :: F :: (q2, zRow) :: N) K2 := fun A K2 hk =>
      SCalls.under [A, F, (q2, zRow)] (m54 (c := 49) hs hN (ht j hlt) (fun _ h => absurd rfl h) (fun N' _ h => hk N' h))
    have hnext := fun S N' (h1 : RdD s r p (2 + (j + 1)) N') hS => hR (j + 1) S _ (by omega) (Keep.all ⟨hlt, hS, N', h1, rfl⟩)
    clear hR hQ
    repeat' ((conv => whnf); (first | with_reducible refine hnx _ ?_ _ _ rfl | with_reducible refine h54 _ _ (fun N' hN' => ?_) | exact hnext _ _ hN' .mk | refine New.mk (fun _ => ?_) | refine Look.at0 ?_ | refine Cell.row ?_ | refine Cell.buf ?_ | refine Cells.row rfl ?_ | refine Put.row rfl ?_ | refine Put.buf rfl ?_ | refine Look.at1 ?_ | refine Look.at2 ?_ | refine Look.at3 ?_ | refine Look.at4 ?_ | refine Look.at5 ?_ | refine Look.at6 ?_ | refine Look.at7 ?_ | refine Look.at8 ?_ | with_reducible refine Val.i64 (by omega) (by omega) ?_ | with_reducible refine Val.u8 (by omega) (by omega) ?_ | with_reducible refine Val.u32 (by omega) (by omega) ?_ | with_reducible refine Val.u64 (by omega) (by omega) ?_ | with_reducible refine Val.u8m ?_ | with_reducible refine Val.u32m ?_ | with_reducible refine Val.u64m ?_ | with_reducible refine Val.shr8 ?_ | with_reducible refine Val.shr16 (by decide) ?_ | with_reducible refine Val.shr24 (by decide) ?_ | with_reducible refine Val.raw ?_ | refine Branch.not ?_ | refine Branch.and ?_ | refine Branch.or ?_ | refine Branch.dt (by assumption) ?_ | refine Branch.df (by assumption) ?_ | refine Branch.dt rfl ?_ | refine Branch.dt (by omega) ?_ | refine Branch.df (by omega) ?_ | refine Branch.t rfl ?_ | refine Branch.f rfl ?_ | refine Branch.t (by assumption) ?_ | refine Branch.f (by assumption) ?_ | refine Branch.d (fun _ => ?_) (fun _ => ?_) | refine Branch.mk (fun _ => ?_) (fun _ => ?_) | refine Need.mk (by first | omega | decide | rfl) ?_ | refine Idx.nat (by omega) ?_ | refine Idx.auto (by first | omega | decide) (by first | omega | decide) ?_ | refine Cell.ro rfl ?_ | refine SDraw.all (by kernel_rfl) ?_ | refine Kept.k0 ?_ | refine Kept.k1 ?_ | refine Kept.k2 ?_ | refine Kept.k3 ?_ | refine Kept.k4 ?_))
  · obtain rfl : j = 8 := by omega
    have hq := fun S => hQ S N hN
    have hnx : ∀ (K2 : Value → Heap → Prop), K2 (.tuple ⟨[.bool false]⟩) ((qi, sIter (strOf (List.replicate 8 49)) 8) :: F :: (q2, zRow) :: N) → ∀ o xm, Oper.op o = .next xm true → RawV Tryd.prog o [ptr qi] ((qi, sIter (strOf (List.replicate 8 49)) 8) :: F :: (q2, zRow) :: N) K2 := fun K2 hk o xm ho =>
      RawV.nextS0 ho h128 (fun h => hk) (fun b2 hb2 => by simp [List.getElem?_replicate] at hb2)
    clear hR hQ
    repeat' ((conv => whnf); (first | with_reducible refine hnx _ ?_ _ _ rfl | exact hq _ .mk | refine New.mk (fun _ => ?_) | refine Look.at0 ?_ | refine Cell.row ?_ | refine Cell.buf ?_ | refine Cells.row rfl ?_ | refine Put.row rfl ?_ | refine Put.buf rfl ?_ | refine Look.at1 ?_ | refine Look.at2 ?_ | refine Look.at3 ?_ | refine Look.at4 ?_ | refine Look.at5 ?_ | refine Look.at6 ?_ | refine Look.at7 ?_ | refine Look.at8 ?_ | with_reducible refine Val.i64 (by omega) (by omega) ?_ | with_reducible refine Val.u8 (by omega) (by omega) ?_ | with_reducible refine Val.u32 (by omega) (by omega) ?_ | with_reducible refine Val.u64 (by omega) (by omega) ?_ | with_reducible refine Val.u8m ?_ | with_reducible refine Val.u32m ?_ | with_reducible refine Val.u64m ?_ | with_reducible refine Val.shr8 ?_ | with_reducible refine Val.shr16 (by decide) ?_ | with_reducible refine Val.shr24 (by decide) ?_ | with_reducible refine Val.raw ?_ | refine Branch.not ?_ | refine Branch.and ?_ | refine Branch.or ?_ | refine Branch.dt (by assumption) ?_ | refine Branch.df (by assumption) ?_ | refine Branch.dt rfl ?_ | refine Branch.dt (by omega) ?_ | refine Branch.df (by omega) ?_ | refine Branch.t rfl ?_ | refine Branch.f rfl ?_ | refine Branch.t (by assumption) ?_ | refine Branch.f (by assumption) ?_ | refine Branch.d (fun _ => ?_) (fun _ => ?_) | refine Branch.mk (fun _ => ?_) (fun _ => ?_) | refine Need.mk (by first | omega | decide | rfl) ?_ | refine Idx.nat (by omega) ?_ | refine Idx.auto (by first | omega | decide) (by first | omega | decide) ?_ | refine Cell.ro rfl ?_ | refine SDraw.all (by kernel_rfl) ?_ | refine Kept.k0 ?_ | refine Kept.k1 ?_ | refine Kept.k2 ?_ | refine Kept.k3 ?_ | refine Kept.k4 ?_))
end
end Go.Proofs.YtledahfkpnbfcaaDoor

/- Layer 2: the reader reads a frame: by walks. -/
set_option linter.unusedVariables false
set_option linter.unusedSimpArgs false
set_option maxRecDepth 100000
set_option maxHeartbeats 4000000
namespace Go.Proofs.YtledahfkpnbfcaaDoor
open Sx
/-- A bit's number. -/
def bN (b : Bool) : Nat := if b then 1 else 0
theorem vB_fb (b : Bool) : vB [fb b] = bN b := by cases b <;> rfl
theorem bN_one (b : Bool) : decide ((bN b : Int) = 1) = b := by cases b <;> rfl
theorem bN_lt (b : Bool) : bN b < 2 := by cases b <;> decide
/-- What stands behind the head. -/
def restB (f : Fm) : List UInt8 := datB f (nb f) ++ numB 15 (crc (sumB f))
theorem body_rest (f : Fm) : bodyB f = hdB f ++ restB f := by
  unfold bodyB restB
  conv => lhs; lhs; unfold sumB
  simp [List.append_assoc]
theorem idOr {i1 i2 : Nat} (h1 : i1 < 2048) (h2 : i2 < 262144) : shlI .u32 (i1 : Int) 18 = ((i1 * 262144 : Nat) : Int) ∧ bitOr .u32 ((i1 * 262144 : Nat) : Int) (i2 : Int) = ((i1 * 262144 + i2 : Nat) : Int) := by
  constructor
  · have := shl_nat (k := .u32) rfl (a := i1) (n := 18) (by decide)
    rw [Nat.mod_eq_of_lt (show i1 * 2 ^ 18 < 2 ^ IntKind.u32.bits by show i1 * 262144 < 4294967296; omega)] at this
    exact this
  · rw [bitOr_nat rfl (by show i1 * 262144 < 4294967296; omega) (by show i2 < 4294967296; omega)]
    congr 1
    have := Nat.two_pow_add_eq_or_of_lt (i := 18) (b := i2) h2 i1
    rw [show 2 ^ 18 * i1 = i1 * 262144 by omega] at this
    omega
section
variable [Dies] {K : Value → Heap → Prop} {r : Nat} {s u : List UInt8} {f : Fm} {ack : Bool} {N0 : Heap}
theorem c37 (hok : okF f = true) (hs : Src s (encB f ack ++ u)) (hN : RdH s r [] N0) (hD2 : ack = false → (stf (bodyB f)).out.length + 1 < s.length → Dies.D (wrg ((stf (bodyB f)).out.length + 1 : Nat) 23))
    (hK : ack = true → ∀ N', RdD s r (bodyB f) 10 N' → K (frV (plF f)) N') : SCalls Tryd.prog 37 [ptr r] N0 K := by
  have hs' : Src s ((stf (bodyB f)).out ++ ([49, fb (!ack)] ++ List.replicate 8 49 ++ u)) := by
    have e : encB f ack ++ u = (stf (bodyB f)).out ++ ([49, fb (!ack)] ++ List.replicate 8 49 ++ u) := by unfold encB; simp [List.append_assoc]
    rwa [e] at hs
  have ht : ∀ k, (encB f ack ++ u)[(stf (bodyB f)).out.length + k]? = ([49, fb (!ack)] ++ List.replicate 8 49 ++ u)[k]? := fun k => by
    have e : encB f ack ++ u = (stf (bodyB f)).out ++ ([49, fb (!ack)] ++ List.replicate 8 49 ++ u) := by unfold encB; simp [List.append_assoc]
    rw [e, List.getElem?_append_right (by omega), Nat.add_sub_cancel_left]
  have ht0 : (encB f ack ++ u)[(stf (bodyB f)).out.length + 0]? = some 49 := by rw [ht]; rfl
  have ht1 : (encB f ack ++ u)[(stf (bodyB f)).out.length + (0 + 1)]? = some (fb (!ack)) := by rw [ht]; rfl
  have ht2 : ∀ j, j < 8 → (encB f ack ++ u)[(stf (bodyB f)).out.length + (2 + j)]? = some 49 := fun j hj => by
    rw [ht]
    rcases lt8 hj with rfl | rfl | rfl | rfl | rfl | rfl | rfl | rfl <;> rfl
  obtain ⟨hid, hn0, hn1⟩ := okF_bd hok
  have hnn : (f.n.toNat : Int) = f.n := Int.toNat_of_nonneg hn0
  have hn15 : f.n.toNat ≤ 15 := by omega
  have hn16 : vB (numB 4 f.n.toNat) = f.n.toNat := vB_numB 4 _ (by omega)
  have h52 : ∀ (k : Nat) (p q z : List UInt8) (x y : Nat × Blk) N (K2 : Value → Heap → Prop), RdH s r p N → bodyB f = p ++ q ++ z → q.length = k → k ≤ 18 → (∀ N', RdH s r (p ++ q) N' → K2 (.int .u64 (vB q : Int)) (x :: y :: N')) → SCalls Tryd.prog 52 [ptr r, .int .i64 (k : Int)] (x :: y :: N) K2 :=
    fun k p q z x y N K2 hN hsp hq hk hk2 => m52 hs' hsp hq hk (bodyB_ok f) (bodyB_len f) hN hk2
  have hcr := crc_lt (sumB f)
  have h27 : ∀ H (K2 : Value → Heap → Prop), K2 (.tuple ⟨[.int .u16 (crc (sumB f) : Int), .int .i64 0]⟩) H → SCalls Tryd.prog 27 [.string (strOf (sumB f))] H K2 := fun H K2 hk => SCalls.calm (c27 (by
    rw [sumB_chk]
    unfold crcV
    rw [if_pos (sumB_chk f)]; exact hk))
  have h34 : ∀ x y N (K2 : Value → Heap → Prop), RdH s r (sumB f) N → (∀ N', RdH s r (sumB f) N' → K2 (.string (strOf (sumB f))) (x :: y :: N')) → SCalls Tryd.prog 34 [.pointer (some ⟨r, 4, none⟩)] (x :: y :: N) K2 := fun x y N K2 h1 h2 => m34 h1 h2
  have h15 : ∀ x y N (K2 : Value → Heap → Prop), RdH s r (sumB f) N → (∀ N', RdH s r (bodyB f) N' → K2 (.int .u64 (crc (sumB f) : Int)) (x :: y :: N')) → SCalls Tryd.prog 52 [ptr r, .int .i64 15] (x :: y :: N) K2 := fun x y N K2 h1 h2 =>
    h52 15 (sumB f) (numB 15 (crc (sumB f))) [] x y N K2 h1 (by unfold bodyB; simp) (numB_len _ _) (by decide) (fun N' h => by rw [vB_numB 15 _ hcr]; exact h2 N' h)
  have h53 : ∀ x y N (K2 : Value → Heap → Prop), RdH s r (bodyB f) N → (∀ N', RdD s r (bodyB f) 0 N' → K2 (.tuple ⟨[]⟩) (x :: y :: N')) → SCalls Tryd.prog 53 [ptr r] (x :: y :: N) K2 := fun x y N K2 h1 h2 => m53 hs' (bodyB_ok f) h1 h2
  have h54 : ∀ x y N (K2 : Value → Heap → Prop), RdD s r (bodyB f) 0 N → (∀ N', RdD s r (bodyB f) 1 N' → K2 (.tuple ⟨[]⟩) (x :: y :: N')) → SCalls Tryd.prog 54 [ptr r, .int .u8 49, .int .i64 22] (x :: y :: N) K2 := fun x y N K2 h1 h2 =>
    SCalls.under [x, y] (m54 (c := 49) hs h1 ht0 (fun _ h => absurd rfl h) (fun N' _ h => h2 N' h))
  have h54b : ∀ x y N (K2 : Value → Heap → Prop), RdD s r (bodyB f) 1 N → (∀ N', ack = true → RdD s r (bodyB f) 2 N' → K2 (.tuple ⟨[]⟩) (x :: y :: N')) → SCalls Tryd.prog 54 [ptr r, .int .u8 48, .int .i64 23] (x :: y :: N) K2 := fun x y N K2 h1 h2 =>
    SCalls.under [x, y] (m54 (c := 48) hs h1 ht1 (fun hl hne => by
      cases ack with
      | true => exact absurd rfl hne
      | false => exact hD2 rfl hl) (fun N' e h => h2 N' (by
        cases ack with
        | true => rfl
        | false => exact absurd e (by decide)) h))
  have hz : ∀ (i m : Int) (b1 b2 : Bool), i = (f.id : Int) → b1 = f.x → b2 = f.r → m = f.n → Blk.row 25 [.int .u32 i, .bool b1, .bool b2, .int .i64 m, .int .u8 0, .int .u8 0, .int .u8 0, .int .u8 0, .int .u8 0, .int .u8 0, .int .u8 0, .int .u8 0] (0, 0) = .row 25 (frC (zs f 0 8)) (0, 0) := by
    rintro i m b1 b2 rfl rfl rfl rfl; rfl
  have h33 : ∀ (i m : Int) (b1 b2 : Bool) H (K2 : Value → Heap → Prop), i = (f.id : Int) → b1 = f.x → b2 = f.r → m = f.n → K2 (.int .i64 (nb f : Int)) H → SCalls Tryd.prog 33 [.agg ⟨[.int .u32 i, .bool b1, .bool b2, .int .i64 m, .int .u8 0, .int .u8 0, .int .u8 0, .int .u8 0, .int .u8 0, .int .u8 0, .int .u8 0, .int .u8 0]⟩] H K2 := by
    rintro i m b1 b2 H K2 rfl rfl rfl rfl hk
    exact SCalls.calm (c33 (f := ⟨f.id, f.x, f.r, f.n, 0, 0, 0, 0, 0, 0, 0, 0⟩) hk)
  have hl37 : ∀ (i m : Int) (b1 b2 : Bool) (q2 q3 : Nat) N S0 (Q : Post), RdH s r (hdB f) N → i = (f.id : Int) → b1 = f.x → b2 = f.r → m = f.n → S37 (ptr r) (ptr q2) (ptr q3) (.int .i64 (nb f : Int)) (.int .i64 0) S0 →
      (∀ S N, RdH s r (sumB f) N → S37 (ptr r) (ptr q2) (ptr q3) (.int .i64 (nb f : Int)) (.int .i64 (nb f : Int)) S → Q (.exit 0) S ((q3, .row 25 (frC (plF f)) (0, 0)) :: (q2, zRow) :: N)) →
      SLoop Tryd.prog X37_l1 Q S0 ((q3, .row 25 [.int .u32 i, .bool b1, .bool b2, .int .i64 m, .int .u8 0, .int .u8 0, .int .u8 0, .int .u8 0, .int .u8 0, .int .u8 0, .int .u8 0, .int .u8 0] (0, 0)) :: (q2, zRow) :: N) := by
    intro i m b1 b2 q2 q3 N S0 Q h1 e1 e2 e3 e4 hS hQ
    rw [hz i m b1 b2 e1 e2 e3 e4]
    exact l37 hs' h1 hS hQ
  have hfin : ack = true → ∀ (x y z : Nat × Blk) N', RdD s r (bodyB f) 10 N' → Keep (x :: y :: z :: N') fun H' => K (frV (plF f)) H' := fun h x y z N' h2 => Keep.d3 (hK h N' h2)
  have hb1 := bN_one f.r
  have hrl := bN_lt f.r
  have hhd := body_rest f
  have hhd2 : hdB f = [48] ++ fld f ++ [48] ++ (if f.x then [48] else []) ++ numB 4 f.n.toNat := rfl
  generalize restB f = rest at *
  clear hK hD2 ht hz hs'
  refine enter37 ?_
  have hokx := hok
  unfold okF at hokx
  simp only [Bool.and_eq_true, decide_eq_true_eq] at hokx
  have hidx := hokx.2
  clear hokx
  unfold fld fldB at hhd2
  cases hx : f.x with
  | true =>
    rw [hx] at hhd2 hidx
    simp only [if_true] at hhd2 hidx
    have hi1 : f.id / 2 ^ 18 < 2 ^ 11 := by omega
    have hi2 : f.id % 2 ^ 18 < 2 ^ 18 := Nat.mod_lt _ (by decide)
    have hi3 : (f.id / 2 ^ 18) * 262144 + f.id % 2 ^ 18 = f.id := by omega
    have hA := vB_numB 11 _ hi1
    have hB := vB_numB 18 _ hi2
    have hAl := numB_len 11 (f.id / 2 ^ 18)
    have hBl := numB_len 18 (f.id % 2 ^ 18)
    have hCl := numB_len 4 f.n.toNat
    have hio := idOr (i1 := f.id / 2 ^ 18) (i2 := f.id % 2 ^ 18) hi1 hi2
    obtain ⟨e1, e2⟩ := hio
    have e3 : bitOr .u32 ((f.id / 2 ^ 18 * 262144 : Nat) : Int) ((f.id % 2 ^ 18 : Nat) : Int) = (f.id : Int) := by rw [e2, hi3]
    clear e2 hi3
    rw [hhd2] at hhd
    generalize f.id / 2 ^ 18 = i1 at *
    generalize f.id % 2 ^ 18 = i2 at *
    generalize numB 11 i1 = A at *
    generalize numB 18 i2 = B at *
    generalize numB 4 f.n.toNat = C at *
    have t1 : ∀ x y N (K2 : Value → Heap → Prop), RdH s r [] N → (∀ N', RdH s r [48] N' → K2 (.int .u64 0) (x :: y :: N')) → SCalls Tryd.prog 52 [ptr r, .int .i64 1] (x :: y :: N) K2 := fun x y N K2 h1 h2 =>
      h52 1 [] [48] (A ++ [49] ++ [49] ++ B ++ [fb f.r] ++ [48] ++ [48] ++ C ++ rest) x y N K2 h1 (by rw [hhd]; simp) rfl (by decide) h2
    have t2 : ∀ x y N (K2 : Value → Heap → Prop), RdH s r [48] N → (∀ N', RdH s r ([48] ++ A) N' → K2 (.int .u64 (i1 : Int)) (x :: y :: N')) → SCalls Tryd.prog 52 [ptr r, .int .i64 11] (x :: y :: N) K2 := fun x y N K2 h1 h2 =>
      h52 11 [48] A ([49] ++ [49] ++ B ++ [fb f.r] ++ [48] ++ [48] ++ C ++ rest) x y N K2 h1 (by rw [hhd]; simp) hAl (by decide) (fun N' h => by rw [hA]; exact h2 N' h)
    have t3 : ∀ x y N (K2 : Value → Heap → Prop), RdH s r ([48] ++ A) N → (∀ N', RdH s r ([48] ++ A ++ [49]) N' → K2 (.int .u64 1) (x :: y :: N')) → SCalls Tryd.prog 52 [ptr r, .int .i64 1] (x :: y :: N) K2 := fun x y N K2 h1 h2 =>
      h52 1 ([48] ++ A) [49] ([49] ++ B ++ [fb f.r] ++ [48] ++ [48] ++ C ++ rest) x y N K2 h1 (by rw [hhd]; simp) rfl (by decide) h2
    have t4 : ∀ x y N (K2 : Value → Heap → Prop), RdH s r ([48] ++ A ++ [49]) N → (∀ N', RdH s r ([48] ++ A ++ [49] ++ [49]) N' → K2 (.int .u64 1) (x :: y :: N')) → SCalls Tryd.prog 52 [ptr r, .int .i64 1] (x :: y :: N) K2 := fun x y N K2 h1 h2 =>
      h52 1 ([48] ++ A ++ [49]) [49] (B ++ [fb f.r] ++ [48] ++ [48] ++ C ++ rest) x y N K2 h1 (by rw [hhd]; simp) rfl (by decide) h2
    have t5 : ∀ x y N (K2 : Value → Heap → Prop), RdH s r ([48] ++ A ++ [49] ++ [49]) N → (∀ N', RdH s r ([48] ++ A ++ [49] ++ [49] ++ B) N' → K2 (.int .u64 (i2 : Int)) (x :: y :: N')) → SCalls Tryd.prog 52 [ptr r, .int .i64 18] (x :: y :: N) K2 := fun x y N K2 h1 h2 =>
      h52 18 ([48] ++ A ++ [49] ++ [49]) B ([fb f.r] ++ [48] ++ [48] ++ C ++ rest) x y N K2 h1 (by rw [hhd]; simp) hBl (by decide) (fun N' h => by rw [hB]; exact h2 N' h)
    have t6 : ∀ x y N (K2 : Value → Heap → Prop), RdH s r ([48] ++ A ++ [49] ++ [49] ++ B) N → (∀ N', RdH s r ([48] ++ A ++ [49] ++ [49] ++ B ++ [fb f.r]) N' → K2 (.int .u64 (bN f.r : Int)) (x :: y :: N')) → SCalls Tryd.prog 52 [ptr r, .int .i64 1] (x :: y :: N) K2 := fun x y N K2 h1 h2 =>
      h52 1 ([48] ++ A ++ [49] ++ [49] ++ B) [fb f.r] ([48] ++ [48] ++ C ++ rest) x y N K2 h1 (by rw [hhd]; simp) rfl (by decide) (fun N' h => by rw [vB_fb]; exact h2 N' h)
    have t7 : ∀ x y N (K2 : Value → Heap → Prop), RdH s r ([48] ++ A ++ [49] ++ [49] ++ B ++ [fb f.r]) N → (∀ N', RdH s r ([48] ++ A ++ [49] ++ [49] ++ B ++ [fb f.r] ++ [48]) N' → K2 (.int .u64 0) (x :: y :: N')) → SCalls Tryd.prog 52 [ptr r, .int .i64 1] (x :: y :: N) K2 := fun x y N K2 h1 h2 =>
      h52 1 ([48] ++ A ++ [49] ++ [49] ++ B ++ [fb f.r]) [48] ([48] ++ C ++ rest) x y N K2 h1 (by rw [hhd]; simp) rfl (by decide) h2
    have t8 : ∀ x y N (K2 : Value → Heap → Prop), RdH s r ([48] ++ A ++ [49] ++ [49] ++ B ++ [fb f.r] ++ [48]) N → (∀ N', RdH s r ([48] ++ A ++ [49] ++ [49] ++ B ++ [fb f.r] ++ [48] ++ [48]) N' → K2 (.int .u64 0) (x :: y :: N')) → SCalls Tryd.prog 52 [ptr r, .int .i64 1] (x :: y :: N) K2 := fun x y N K2 h1 h2 =>
      h52 1 ([48] ++ A ++ [49] ++ [49] ++ B ++ [fb f.r] ++ [48]) [48] (C ++ rest) x y N K2 h1 (by rw [hhd]; simp) rfl (by decide) h2
    have t9 : ∀ x y N (K2 : Value → Heap → Prop), RdH s r ([48] ++ A ++ [49] ++ [49] ++ B ++ [fb f.r] ++ [48] ++ [48]) N → (∀ N', RdH s r (hdB f) N' → K2 (.int .u64 (f.n.toNat : Int)) (x :: y :: N')) → SCalls Tryd.prog 52 [ptr r, .int .i64 4] (x :: y :: N) K2 := fun x y N K2 h1 h2 =>
      h52 4 ([48] ++ A ++ [49] ++ [49] ++ B ++ [fb f.r] ++ [48] ++ [48]) C rest x y N K2 h1 (by rw [hhd]; simp) hCl (by decide) (fun N' h => by rw [hn16]; exact h2 N' (by rw [hhd2]; simpa using h))
    have hb0 : decide ((1 : Int) = 1) = f.x := by rw [hx]; rfl
    clear h52 hhd hhd2 hAl hBl hCl hA hB
    repeat' ((conv => whnf); (first | with_reducible refine t1 _ _ _ _ hN (fun N1 b1 => ?_) | with_reducible refine t2 _ _ _ _ b1 (fun N2 b2 => ?_) | with_reducible refine t3 _ _ _ _ b2 (fun N3 b3 => ?_) | with_reducible refine t4 _ _ _ _ b3 (fun N4 b4 => ?_) | with_reducible refine t5 _ _ _ _ b4 (fun N5 b5 => ?_) | with_reducible refine t6 _ _ _ _ b5 (fun N6 b6 => ?_) | with_reducible refine t7 _ _ _ _ b6 (fun N7 b7 => ?_) | with_reducible refine t8 _ _ _ _ b7 (fun N8 b8 => ?_) | with_reducible refine t9 _ _ _ _ b8 (fun N9 b9 => ?_) | refine SDraw.held (by kernel_rfl) [_] (.same (.head _) .nil) ?_ | refine Kept.sub (List.Sublist.cons_cons _ (List.nil_sublist _)) ?_ | with_reducible refine Val.to _ e1 ?_ | with_reducible refine Val.to _ e3 ?_ | with_reducible refine Val.u32 (by omega) (by omega) ?_ | with_reducible refine h33 _ _ _ _ _ _ rfl hb0 hb1 hnn ?_ | (refine hl37 _ _ _ _ _ _ _ _ _ b9 rfl hb0 hb1 hnn .mk (fun S Na ba hS => ?_); cases hS) | with_reducible refine h34 _ _ _ _ ba (fun Nb bb => ?_) | with_reducible refine h27 _ _ ?_ | with_reducible refine h15 _ _ _ _ bb (fun Nc bc => ?_) | with_reducible refine h53 _ _ _ _ bc (fun Nd bd => ?_) | with_reducible refine h54 _ _ _ _ bd (fun Ne be => ?_) | with_reducible refine h54b _ _ _ _ be (fun Nf hack bf => ?_) | refine RawV.rangeStr rfl (by kernel_rfl) (fun qi => ?_) | (refine l37b hs bf ht2 .mk (fun S Ng bg hS => ?_); cases hS) | exact hfin hack _ _ _ _ bg | refine New.mk (fun _ => ?_) | refine Look.at0 ?_ | refine Cell.row ?_ | refine Cell.buf ?_ | refine Cells.row rfl ?_ | refine Put.row rfl ?_ | refine Put.buf rfl ?_ | refine Look.at1 ?_ | refine Look.at2 ?_ | refine Look.at3 ?_ | refine Look.at4 ?_ | refine Look.at5 ?_ | refine Look.at6 ?_ | refine Look.at7 ?_ | refine Look.at8 ?_ | with_reducible refine Val.i64 (by omega) (by omega) ?_ | with_reducible refine Val.u8 (by omega) (by omega) ?_ | with_reducible refine Val.u32 (by omega) (by omega) ?_ | with_reducible refine Val.u64 (by omega) (by omega) ?_ | with_reducible refine Val.u8m ?_ | with_reducible refine Val.u32m ?_ | with_reducible refine Val.u64m ?_ | with_reducible refine Val.shr8 ?_ | with_reducible refine Val.shr16 (by decide) ?_ | with_reducible refine Val.shr24 (by decide) ?_ | with_reducible refine Val.raw ?_ | refine Branch.not ?_ | refine Branch.and ?_ | refine Branch.or ?_ | refine Branch.dt (by assumption) ?_ | refine Branch.df (by assumption) ?_ | refine Branch.dt rfl ?_ | refine Branch.dt (by omega) ?_ | refine Branch.df (by omega) ?_ | refine Branch.t rfl ?_ | refine Branch.f rfl ?_ | refine Branch.t (by assumption) ?_ | refine Branch.f (by assumption) ?_ | refine Branch.d (fun _ => ?_) (fun _ => ?_) | refine Branch.mk (fun _ => ?_) (fun _ => ?_) | refine Need.mk (by first | omega | decide | rfl) ?_ | refine Idx.nat (by omega) ?_ | refine Idx.auto (by first | omega | decide) (by first | omega | decide) ?_ | refine Cell.ro rfl ?_ | refine SDraw.all (by kernel_rfl) ?_ | refine Kept.k0 ?_ | refine Kept.k1 ?_ | refine Kept.k2 ?_ | refine Kept.k3 ?_ | refine Kept.k4 ?_))
  | false =>
    rw [hx] at hhd2 hidx
    simp only [Bool.false_eq_true, if_false] at hhd2 hidx
    have hA := vB_numB 11 f.id (by omega)
    have hAl := numB_len 11 f.id
    have hCl := numB_len 4 f.n.toNat
    rw [hhd2] at hhd
    generalize numB 11 f.id = A at *
    generalize numB 4 f.n.toNat = C at *
    have t1 : ∀ x y N (K2 : Value → Heap → Prop), RdH s r [] N → (∀ N', RdH s r [48] N' → K2 (.int .u64 0) (x :: y :: N')) → SCalls Tryd.prog 52 [ptr r, .int .i64 1] (x :: y :: N) K2 := fun x y N K2 h1 h2 =>
      h52 1 [] [48] (A ++ [fb f.r] ++ [48] ++ [48] ++ C ++ rest) x y N K2 h1 (by rw [hhd]; simp) rfl (by decide) h2
    have t2 : ∀ x y N (K2 : Value → Heap → Prop), RdH s r [48] N → (∀ N', RdH s r ([48] ++ A) N' → K2 (.int .u64 (f.id : Int)) (x :: y :: N')) → SCalls Tryd.prog 52 [ptr r, .int .i64 11] (x :: y :: N) K2 := fun x y N K2 h1 h2 =>
      h52 11 [48] A ([fb f.r] ++ [48] ++ [48] ++ C ++ rest) x y N K2 h1 (by rw [hhd]; simp) hAl (by decide) (fun N' h => by rw [hA]; exact h2 N' h)
    have t3 : ∀ x y N (K2 : Value → Heap → Prop), RdH s r ([48] ++ A) N → (∀ N', RdH s r ([48] ++ A ++ [fb f.r]) N' → K2 (.int .u64 (bN f.r : Int)) (x :: y :: N')) → SCalls Tryd.prog 52 [ptr r, .int .i64 1] (x :: y :: N) K2 := fun x y N K2 h1 h2 =>
      h52 1 ([48] ++ A) [fb f.r] ([48] ++ [48] ++ C ++ rest) x y N K2 h1 (by rw [hhd]; simp) rfl (by decide) (fun N' h => by rw [vB_fb]; exact h2 N' h)
    have t4 : ∀ x y N (K2 : Value → Heap → Prop), RdH s r ([48] ++ A ++ [fb f.r]) N → (∀ N', RdH s r ([48] ++ A ++ [fb f.r] ++ [48]) N' → K2 (.int .u64 0) (x :: y :: N')) → SCalls Tryd.prog 52 [ptr r, .int .i64 1] (x :: y :: N) K2 := fun x y N K2 h1 h2 =>
      h52 1 ([48] ++ A ++ [fb f.r]) [48] ([48] ++ C ++ rest) x y N K2 h1 (by rw [hhd]; simp) rfl (by decide) h2
    have t8 : ∀ x y N (K2 : Value → Heap → Prop), RdH s r ([48] ++ A ++ [fb f.r] ++ [48]) N → (∀ N', RdH s r ([48] ++ A ++ [fb f.r] ++ [48] ++ [48]) N' → K2 (.int .u64 0) (x :: y :: N')) → SCalls Tryd.prog 52 [ptr r, .int .i64 1] (x :: y :: N) K2 := fun x y N K2 h1 h2 =>
      h52 1 ([48] ++ A ++ [fb f.r] ++ [48]) [48] (C ++ rest) x y N K2 h1 (by rw [hhd]; simp) rfl (by decide) h2
    have t9 : ∀ x y N (K2 : Value → Heap → Prop), RdH s r ([48] ++ A ++ [fb f.r] ++ [48] ++ [48]) N → (∀ N', RdH s r (hdB f) N' → K2 (.int .u64 (f.n.toNat : Int)) (x :: y :: N')) → SCalls Tryd.prog 52 [ptr r, .int .i64 4] (x :: y :: N) K2 := fun x y N K2 h1 h2 =>
      h52 4 ([48] ++ A ++ [fb f.r] ++ [48] ++ [48]) C rest x y N K2 h1 (by rw [hhd]; simp) hCl (by decide) (fun N' h => by rw [hn16]; exact h2 N' (by rw [hhd2]; simpa using h))
    have hb0 : decide ((0 : Int) = 1) = f.x := by rw [hx]; rfl
    clear h52 hhd hhd2 hAl hCl hA
    repeat' ((conv => whnf); (first | with_reducible refine t1 _ _ _ _ hN (fun N1 b1 => ?_) | with_reducible refine t2 _ _ _ _ b1 (fun N2 b2 => ?_) | with_reducible refine t3 _ _ _ _ b2 (fun N3 b3 => ?_) | with_reducible refine t4 _ _ _ _ b3 (fun N4 b4 => ?_) | with_reducible refine t8 _ _ _ _ b4 (fun N8 b8 => ?_) | with_reducible refine t9 _ _ _ _ b8 (fun N9 b9 => ?_) | with_reducible refine Val.u32 (by omega) (by omega) ?_ | with_reducible refine h33 _ _ _ _ _ _ rfl hb0 hb1 hnn ?_ | (refine hl37 _ _ _ _ _ _ _ _ _ b9 rfl hb0 hb1 hnn .mk (fun S Na ba hS => ?_); cases hS) | with_reducible refine h34 _ _ _ _ ba (fun Nb bb => ?_) | with_reducible refine h27 _ _ ?_ | with_reducible refine h15 _ _ _ _ bb (fun Nc bc => ?_) | with_reducible refine h53 _ _ _ _ bc (fun Nd bd => ?_) | with_reducible refine h54 _ _ _ _ bd (fun Ne be => ?_) | with_reducible refine h54b _ _ _ _ be (fun Nf hack bf => ?_) | refine RawV.rangeStr rfl (by kernel_rfl) (fun qi => ?_) | (refine l37b hs bf ht2 .mk (fun S Ng bg hS => ?_); cases hS) | exact hfin hack _ _ _ _ bg | refine New.mk (fun _ => ?_) | refine Look.at0 ?_ | refine Cell.row ?_ | refine Cell.buf ?_ | refine Cells.row rfl ?_ | refine Put.row rfl ?_ | refine Put.buf rfl ?_ | refine Look.at1 ?_ | refine Look.at2 ?_ | refine Look.at3 ?_ | refine Look.at4 ?_ | refine Look.at5 ?_ | refine Look.at6 ?_ | refine Look.at7 ?_ | refine Look.at8 ?_ | with_reducible refine Val.i64 (by omega) (by omega) ?_ | with_reducible refine Val.u8 (by omega) (by omega) ?_ | with_reducible refine Val.u32 (by omega) (by omega) ?_ | with_reducible refine Val.u64 (by omega) (by omega) ?_ | with_reducible refine Val.u8m ?_ | with_reducible refine Val.u32m ?_ | with_reducible refine Val.u64m ?_ | with_reducible refine Val.shr8 ?_ | with_reducible refine Val.shr16 (by decide) ?_ | with_reducible refine Val.shr24 (by decide) ?_ | with_reducible refine Val.raw ?_ | refine Branch.not ?_ | refine Branch.and ?_ | refine Branch.or ?_ | refine Branch.dt (by assumption) ?_ | refine Branch.df (by assumption) ?_ | refine Branch.dt rfl ?_ | refine Branch.dt (by omega) ?_ | refine Branch.df (by omega) ?_ | refine Branch.t rfl ?_ | refine Branch.f rfl ?_ | refine Branch.t (by assumption) ?_ | refine Branch.f (by assumption) ?_ | refine Branch.d (fun _ => ?_) (fun _ => ?_) | refine Branch.mk (fun _ => ?_) (fun _ => ?_) | refine Need.mk (by first | omega | decide | rfl) ?_ | refine Idx.nat (by omega) ?_ | refine Idx.auto (by first | omega | decide) (by first | omega | decide) ?_ | refine Cell.ro rfl ?_ | refine SDraw.all (by kernel_rfl) ?_ | refine Kept.k0 ?_ | refine Kept.k1 ?_ | refine Kept.k2 ?_ | refine Kept.k3 ?_ | refine Kept.k4 ?_))
end
end Go.Proofs.YtledahfkpnbfcaaDoor

/- Layer 2: a text is read as a frame: what was put off, and what was given up with. -/
set_option linter.unusedVariables false
set_option linter.unusedSimpArgs false
set_option maxRecDepth 100000
set_option maxHeartbeats 4000000
namespace Go.Proofs.YtledahfkpnbfcaaDoor
open Sx
def D10_0 : XCode := (.region [⟨(some 2), none, (.alloc 25 [(.int .u32 0), (.bool false), (.bool false), (.int .i64 0), (.int .u8 0), (.int .u8 0), (.int .u8 0), (.int .u8 0), (.int .u8 0), (.int .u8 0), (.int .u8 0), (.int .u8 0)])⟩, ⟨(some 3), none, (.alloc 3 [(.int .i64 0)])⟩, ⟨(some 4), none, (.alloc 27 [(.int .i64 0)])⟩])
def D10_1 : XCode := (.seq (.region [⟨(some 6), none, (.pure (.mov (.tmp 0)))⟩, ⟨(some 7), none, (.call 35 [(.tmp 6)])⟩, ⟨(some 8), none, (.pure (.not (.tmp 7)))⟩]) (.cond (.tmp 8) (.seq (.seq (.region [⟨(some 9), none, (.pure (.mov (.tmp 0)))⟩, ⟨(some 10), none, (.pure (.lenStr (.tmp 9)))⟩, ⟨(some 11), none, (.pure (.bin .gtr (.tmp 10) (.const (.int .i64 65536))))⟩]) (.cond (.tmp 11) (.seq (.region [⟨(some 12), none, (.pure (.build [(.int .u32 0), (.bool false), (.bool false), (.int .i64 0), (.int .u8 0), (.int .u8 0), (.int .u8 0), (.int .u8 0), (.int .u8 0), (.int .u8 0), (.int .u8 0), (.int .u8 0)] []))⟩, ⟨none, none, (.store 12 (.tmp 2) (.tmp 12))⟩, ⟨none, none, (.store 1 (.tmp 3) (.const (.int .i64 0)))⟩, ⟨none, none, (.store 1 (.tmp 4) (.const (.int .i64 2)))⟩]) .ret) .skip)) (.seq (.region [⟨(some 13), none, (.pure (.build [(.int .u32 0), (.bool false), (.bool false), (.int .i64 0), (.int .u8 0), (.int .u8 0), (.int .u8 0), (.int .u8 0), (.int .u8 0), (.int .u8 0), (.int .u8 0), (.int .u8 0)] []))⟩, ⟨none, none, (.store 12 (.tmp 2) (.tmp 13))⟩, ⟨none, none, (.store 1 (.tmp 3) (.const (.int .i64 0)))⟩, ⟨none, none, (.store 1 (.tmp 4) (.const (.int .i64 8)))⟩]) .ret)) .skip))
def D10_3 : XCode := (.region [⟨(some 15), none, (.pure (.mov (.tmp 0)))⟩, ⟨(some 16), none, (.pure (.build [(.string ⟨#[]⟩), (.int .i64 0), (.int .u8 0), (.int .i64 0), (.pointer none), (.slice none 0 0)] [(0, (1, (.tmp 15)))]))⟩, ⟨(some 17), none, (.box 73 (.tmp 16))⟩, ⟨(some 5), none, (.pure (.mov (.tmp 17)))⟩])
def D10_5 : XCode := (.seq (.draw (.take ⟨(some 21), none, (.pure (.mov (.tmp 5)))⟩ (.take ⟨(some 22), none, (.pure (.nilCheck (.tmp 21)))⟩ (.take ⟨(some 23), none, (.pure (.fieldAddr 1 (.tmp 22)))⟩ (.alt ⟨(some 20), none, (.load true 12 (.tmp 2))⟩ (.alt ⟨(some 24), none, (.load false 1 (.tmp 23))⟩ (.alt ⟨none, none, (.store 12 (.tmp 2) (.tmp 20))⟩ .done .off) (.alt ⟨none, none, (.store 12 (.tmp 2) (.tmp 20))⟩ (.alt ⟨(some 24), none, (.load false 1 (.tmp 23))⟩ .done .off) .off)) (.alt ⟨(some 24), none, (.load false 1 (.tmp 23))⟩ (.alt ⟨(some 20), none, (.load true 12 (.tmp 2))⟩ (.alt ⟨none, none, (.store 12 (.tmp 2) (.tmp 20))⟩ .done .off) .off) .off))))) [⟨none, none, (.store 1 (.tmp 3) (.tmp 24))⟩, ⟨none, none, (.store 1 (.tmp 4) (.const (.int .i64 0)))⟩]) .ret)
def D36 : XCode := (.seq (.region [⟨(some 7), none, (.pure (.mov (.tmp 3)))⟩, ⟨(some 8), none, (.raw ⟨(some 8), (.binOp .neq 20 (.tmp 7) (.const .nilIface) 20), 4, "frame.go:223", #[⟨0, .data⟩], none⟩)⟩]) (.cond (.tmp 8) (.seq (.region [⟨(some 10), none, (.pure (.mov (.tmp 3)))⟩, ⟨(some 11), none, (.pure (.assertTo 69 true (.agg #[(.int .i64 0), (.int .i64 0)]) (.tmp 10)))⟩, ⟨(some 9), none, (.pure (.mov (.tmp 11)))⟩, ⟨(some 12), none, (.pure (.extract (.tmp 9) 0))⟩, ⟨(some 13), none, (.pure (.extract (.tmp 9) 1))⟩, ⟨(some 4), none, (.alloc 69 [(.int .i64 0), (.int .i64 0)])⟩, ⟨none, none, (.store 2 (.tmp 4) (.tmp 12))⟩, ⟨(some 5), none, (.pure (.mov (.tmp 13)))⟩]) (.seq (.seq (.region [⟨(some 14), none, (.pure (.mov (.tmp 5)))⟩, ⟨(some 15), none, (.pure (.not (.tmp 14)))⟩]) (.cond (.tmp 15) (.region [⟨(some 16), none, (.pure (.mov (.tmp 3)))⟩, ⟨none, none, (.raw ⟨none, (.panic (.tmp 16)), 0, "frame.go:226", #[⟨0, .data⟩], none⟩)⟩]) .skip)) (.draw (.take ⟨(some 17), none, (.pure (.build [(.int .u32 0), (.bool false), (.bool false), (.int .i64 0), (.int .u8 0), (.int .u8 0), (.int .u8 0), (.int .u8 0), (.int .u8 0), (.int .u8 0), (.int .u8 0), (.int .u8 0)] []))⟩ (.take ⟨(some 18), none, (.pure (.fieldAddr 0 (.tmp 4)))⟩ (.take ⟨(some 20), none, (.pure (.fieldAddr 1 (.tmp 4)))⟩ (.alt ⟨(some 19), none, (.load false 1 (.tmp 18))⟩ (.alt ⟨(some 21), none, (.load false 1 (.tmp 20))⟩ (.alt ⟨none, none, (.store 12 (.tmp 0) (.tmp 17))⟩ (.alt ⟨none, none, (.store 1 (.tmp 1) (.tmp 19))⟩ .done .off) .off) (.alt ⟨none, none, (.store 12 (.tmp 0) (.tmp 17))⟩ (.alt ⟨(some 21), none, (.load false 1 (.tmp 20))⟩ (.alt ⟨none, none, (.store 1 (.tmp 1) (.tmp 19))⟩ .done .off) (.alt ⟨none, none, (.store 1 (.tmp 1) (.tmp 19))⟩ (.alt ⟨(some 21), none, (.load false 1 (.tmp 20))⟩ .done .off) .off)) .off)) (.alt ⟨(some 21), none, (.load false 1 (.tmp 20))⟩ (.alt ⟨(some 19), none, (.load false 1 (.tmp 18))⟩ (.alt ⟨none, none, (.store 12 (.tmp 0) (.tmp 17))⟩ (.alt ⟨none, none, (.store 1 (.tmp 1) (.tmp 19))⟩ .done .off) .off) (.alt ⟨none, none, (.store 12 (.tmp 0) (.tmp 17))⟩ (.alt ⟨(some 19), none, (.load false 1 (.tmp 18))⟩ (.alt ⟨none, none, (.store 1 (.tmp 1) (.tmp 19))⟩ .done .off) .off) .off)) (.alt ⟨none, none, (.store 12 (.tmp 0) (.tmp 17))⟩ (.alt ⟨(some 19), none, (.load false 1 (.tmp 18))⟩ (.alt ⟨(some 21), none, (.load false 1 (.tmp 20))⟩ (.alt ⟨none, none, (.store 1 (.tmp 1) (.tmp 19))⟩ .done .off) (.alt ⟨none, none, (.store 1 (.tmp 1) (.tmp 19))⟩ (.alt ⟨(some 21), none, (.load false 1 (.tmp 20))⟩ .done .off) .off)) (.alt ⟨(some 21), none, (.load false 1 (.tmp 20))⟩ (.alt ⟨(some 19), none, (.load false 1 (.tmp 18))⟩ (.alt ⟨none, none, (.store 1 (.tmp 1) (.tmp 19))⟩ .done .off) .off) .off)) .off)))))) [⟨none, none, (.store 1 (.tmp 2) (.tmp 21))⟩]))) .skip))
/- The text's parts. -/
noncomputable def dC (n : Nat) : Code := match Tryd.f10.body with
  | some (.seq a (.seq b (.seq c (.seq d (.seq e f))))) => match n with
    | 0 => a
    | 1 => b
    | 2 => c
    | 3 => d
    | 4 => e
    | _ => f
  | _ => .skip
theorem dBody : Tryd.f10.body = some (.seq (dC 0) (.seq (dC 1) (.seq (dC 2) (.seq (dC 3) (.seq (dC 4) (dC 5)))))) := by kernel_rfl
theorem dC0 : compile Tryd.prog (dC 0) = D10_0 := by kernel_rfl
theorem dC1 : compile Tryd.prog (dC 1) = D10_1 := by kernel_rfl
theorem dC3 : compile Tryd.prog (dC 3) = D10_3 := by kernel_rfl
theorem dC5 : compile Tryd.prog (dC 5) = D10_5 := by kernel_rfl
noncomputable def ops5 : Array Oper := match dC 2 with
  | .region _ o _ => o
  | _ => #[]
theorem dC2 : dC 2 = .region 5 ops5 false := by kernel_rfl
noncomputable def ops7 : Array Oper := match dC 4 with
  | .region _ o _ => o
  | _ => #[]
theorem dC4 : dC 4 = .region 7 ops7 false := by kernel_rfl
noncomputable def k36 : Code := match Tryd.f36.body with
  | some (.seq _ b) => b
  | _ => .skip
noncomputable def o36 : Array Oper := match Tryd.f36.body with
  | some (.seq (.region _ o _) _) => o
  | _ => #[]
theorem body36 : Tryd.f36.body = some (.seq (.region 0 o36 false) k36) := by kernel_rfl
theorem K36 : compile Tryd.prog k36 = D36 := by kernel_rfl
def rs10 : List RV := [.cell 2 true 12, .cell 3 false 1, .cell 4 false 1]
theorem res10 : cRes Tryd.prog Tryd.f10.results.toList = some rs10 := by kernel_rfl
def onlyN (N : List Value → Heap → Prop) : Post := fun e l H => match e with
  | .normal => N l H
  | _ => False
theorem noD {Q : Post} : QD Q := fun _ _ _ h => h.elim
theorem noDead {ds : List Deferred} {w : World} {H : Heap} {Q : Exit → Act → World → Prop} : DeadOk ds w H Q := fun _ _ _ _ h => h.elim
theorem wp_part {P : Program} {ds : List Deferred} {c rest : Code} {Q : Exit → Act → World → Prop} {l : List Value} {H H0 : Heap} {w w0 : World} (N : List Value → Heap → Prop)
    (hx : xc P (compile P c) (onlyN N) l H) (hw : Holds w H) (hs : Step w0 H0 w H) (h : ∀ l' H' w', Holds w' H' → Step w0 H0 w' H' → N l' H' → rest.wp P Q (actD ds l') w') : (Code.seq c rest).wp P Q (actD ds l) w := by
  refine wp_seq (wp_mono (xc_ok (ds := ds) c (onlyN N) l H noD hx w hw) ?_)
  rintro e a' w' ⟨l', H', rfl, h1, h2, h3⟩
  cases e with
  | normal => exact h l' H' w' h1 (hs.trans h2) h3
  | exit i => exact h3.elim
  | goto i => exact h3.elim
  | ret => exact h3.elim
  | panic ch => exact h3.elim
  | outgrown => exact h3.elim
section
variable {K : Value → Heap → Prop} {H : Heap}
theorem leaves0 {w w' : World} {l : List Value} {H' : Heap} (hw' : Holds w' H') (hs : Step w H w' H') (h : resK rs10 l H' fun vs => oneK vs fun v => Keep H' fun H' => K v H') :
    Leaves Tryd.prog Tryd.f10 l.toArray (Back w H K) [] .returning w' := by
  have he := endsAt (ds := []) (P := Tryd.prog) (fn := Tryd.f10) (rs := rs10) (K := K) res10 (w := w) (H := H) (e := .ret) (a := actD [] l) (w' := w') ⟨l, H', rfl, hw', hs, h⟩
  cases he with
  | ret hd hres hb => exact ⟨_, hres, hb⟩
/-- Nothing was given up with. -/
theorem c36n {r2 r3 r4 : Nat} (w : World) (hw : Holds w H) : CallsD Tryd.prog 36 #[ptr r2, ptr r3, ptr r4] .returning w fun e u2 w' => u2 = .returning ∧ Back w H (fun _ H' => H' = H) e w' := by
  have := callsD_recover (P := Tryd.prog) (f := 36) (fn := Tryd.f36) (id := 0) (ops := o36) (rest := k36) (x0 := ⟨some 6, none, .raw ⟨some 6, .call ⟨.builtin .recover, #[], #[]⟩, 20, "frame.go:223", #[], none⟩⟩) (xs := [⟨some 3, none, .pure (.mov (.tmp 6))⟩])
    (o0 := ⟨some 6, .call ⟨.builtin .recover, #[], #[]⟩, 20, "frame.go:223", #[], none⟩) (ts := #[]) (rs := []) (args := [ptr r2, ptr r3, ptr r4]) (H := H) (K := fun _ H' => H' = H) Tryd.func36 body36 (by kernel_rfl) rfl rfl (by kernel_rfl) (by kernel_rfl) .calm ?_ w hw
  · exact this
  rw [K36]
  repeat' ((conv => whnf); (first | refine RawV.neqNil rfl (by kernel_rfl) false (.inl ⟨rfl, rfl⟩) ?_ | exact Keep.all rfl | refine New.mk (fun _ => ?_) | refine Look.at0 ?_ | refine Cell.row ?_ | refine Cell.buf ?_ | refine Cells.row rfl ?_ | refine Put.row rfl ?_ | refine Put.buf rfl ?_ | refine Look.at1 ?_ | refine Look.at2 ?_ | refine Look.at3 ?_ | refine Look.at4 ?_ | refine Look.at5 ?_ | refine Look.at6 ?_ | refine Look.at7 ?_ | refine Look.at8 ?_ | with_reducible refine Val.i64 (by omega) (by omega) ?_ | with_reducible refine Val.u8 (by omega) (by omega) ?_ | with_reducible refine Val.u32 (by omega) (by omega) ?_ | with_reducible refine Val.u64 (by omega) (by omega) ?_ | with_reducible refine Val.u8m ?_ | with_reducible refine Val.u32m ?_ | with_reducible refine Val.u64m ?_ | with_reducible refine Val.shr8 ?_ | with_reducible refine Val.shr16 (by decide) ?_ | with_reducible refine Val.shr24 (by decide) ?_ | with_reducible refine Val.raw ?_ | refine Branch.not ?_ | refine Branch.and ?_ | refine Branch.or ?_ | refine Branch.dt (by assumption) ?_ | refine Branch.df (by assumption) ?_ | refine Branch.dt rfl ?_ | refine Branch.dt (by omega) ?_ | refine Branch.df (by omega) ?_ | refine Branch.t rfl ?_ | refine Branch.f rfl ?_ | refine Branch.t (by assumption) ?_ | refine Branch.f (by assumption) ?_ | refine Branch.d (fun _ => ?_) (fun _ => ?_) | refine Branch.mk (fun _ => ?_) (fun _ => ?_) | refine Need.mk (by first | omega | decide | rfl) ?_ | refine Idx.nat (by omega) ?_ | refine Idx.auto (by first | omega | decide) (by first | omega | decide) ?_ | refine Cell.ro rfl ?_ | refine SDraw.all (by kernel_rfl) ?_ | refine Kept.k0 ?_ | refine Kept.k1 ?_ | refine Kept.k2 ?_ | refine Kept.k3 ?_ | refine Kept.k4 ?_))
/-- It was given up with what a reader gives up with. -/
theorem c36g {r2 r3 r4 : Nat} {p e : Int} (w : World) (hw : Holds w ((r4, .row 27 [.int .i64 0] (0, 0)) :: (r3, .row 3 [.int .i64 0] (0, 0)) :: (r2, .row 25 (frC z0) (0, 0)) :: H)) :
    CallsD Tryd.prog 36 #[ptr r2, ptr r3, ptr r4] (.panicking (wrg p e)) w fun en u2 w' => (∃ v, u2 = .panicking [{ v := v, recovered := true }]) ∧
      Back w ((r4, .row 27 [.int .i64 0] (0, 0)) :: (r3, .row 3 [.int .i64 0] (0, 0)) :: (r2, .row 25 (frC z0) (0, 0)) :: H) (fun _ H' => H' = (r4, .row 27 [.int .i64 e] (0, 0)) :: (r3, .row 3 [.int .i64 p] (0, 0)) :: (r2, .row 25 (frC z0) (0, 0)) :: H) en w' := by
  have := callsD_recover (P := Tryd.prog) (f := 36) (fn := Tryd.f36) (id := 0) (ops := o36) (rest := k36) (x0 := ⟨some 6, none, .raw ⟨some 6, .call ⟨.builtin .recover, #[], #[]⟩, 20, "frame.go:223", #[], none⟩⟩) (xs := [⟨some 3, none, .pure (.mov (.tmp 6))⟩])
    (o0 := ⟨some 6, .call ⟨.builtin .recover, #[], #[]⟩, 20, "frame.go:223", #[], none⟩) (ts := #[]) (rs := []) (args := [ptr r2, ptr r3, ptr r4]) (H := (r4, .row 27 [.int .i64 0] (0, 0)) :: (r3, .row 3 [.int .i64 0] (0, 0)) :: (r2, .row 25 (frC z0) (0, 0)) :: H)
    (K := fun _ H' => H' = (r4, .row 27 [.int .i64 e] (0, 0)) :: (r3, .row 3 [.int .i64 p] (0, 0)) :: (r2, .row 25 (frC z0) (0, 0)) :: H) Tryd.func36 body36 (by kernel_rfl) rfl rfl (by kernel_rfl) (by kernel_rfl) (.gave (.iface 69 (.agg ⟨[.int .i64 p, .int .i64 e]⟩))) ?_ w hw
  · exact this.mono fun en u2 w' h => ⟨⟨_, h.1⟩, h.2⟩
  rw [K36]
  repeat' ((conv => whnf); (first | refine RawV.neqNil rfl (by kernel_rfl) true (.inr ⟨_, _, rfl, rfl⟩) ?_ | refine SDraw.held (by kernel_rfl) [] .nil ?_ | refine Kept.sub (List.nil_sublist _) ?_ | refine And.intro ?_ ?_ | exact Keep.d1 rfl | refine New.mk (fun _ => ?_) | refine Look.at0 ?_ | refine Cell.row ?_ | refine Cell.buf ?_ | refine Cells.row rfl ?_ | refine Put.row rfl ?_ | refine Put.buf rfl ?_ | refine Look.at1 ?_ | refine Look.at2 ?_ | refine Look.at3 ?_ | refine Look.at4 ?_ | refine Look.at5 ?_ | refine Look.at6 ?_ | refine Look.at7 ?_ | refine Look.at8 ?_ | with_reducible refine Val.i64 (by omega) (by omega) ?_ | with_reducible refine Val.u8 (by omega) (by omega) ?_ | with_reducible refine Val.u32 (by omega) (by omega) ?_ | with_reducible refine Val.u64 (by omega) (by omega) ?_ | with_reducible refine Val.u8m ?_ | with_reducible refine Val.u32m ?_ | with_reducible refine Val.u64m ?_ | with_reducible refine Val.shr8 ?_ | with_reducible refine Val.shr16 (by decide) ?_ | with_reducible refine Val.shr24 (by decide) ?_ | with_reducible refine Val.raw ?_ | refine Branch.not ?_ | refine Branch.and ?_ | refine Branch.or ?_ | refine Branch.dt (by assumption) ?_ | refine Branch.df (by assumption) ?_ | refine Branch.dt rfl ?_ | refine Branch.dt (by omega) ?_ | refine Branch.df (by omega) ?_ | refine Branch.t rfl ?_ | refine Branch.f rfl ?_ | refine Branch.t (by assumption) ?_ | refine Branch.f (by assumption) ?_ | refine Branch.d (fun _ => ?_) (fun _ => ?_) | refine Branch.mk (fun _ => ?_) (fun _ => ?_) | refine Need.mk (by first | omega | decide | rfl) ?_ | refine Idx.nat (by omega) ?_ | refine Idx.auto (by first | omega | decide) (by first | omega | decide) ?_ | refine Cell.ro rfl ?_ | refine SDraw.all (by kernel_rfl) ?_ | refine Kept.k0 ?_ | refine Kept.k1 ?_ | refine Kept.k2 ?_ | refine Kept.k3 ?_ | refine Kept.k4 ?_))
end
end Go.Proofs.YtledahfkpnbfcaaDoor

/- Layer 2: a text is read as a frame: by hand. -/
set_option linter.unusedVariables false
set_option linter.unusedSimpArgs false
set_option maxRecDepth 100000
set_option maxHeartbeats 4000000
namespace Go.Proofs.YtledahfkpnbfcaaDoor
open Sx
inductive S10 (A0 A2 A3 A4 : Value) : List Value → Prop
  | mk {r1 r5 r6 r7 r8 r9 r10 r11 r12 r13 r14 r15 r16 r17 r18 r19 r20 r21 r22 r23 r24 : Value} : S10 A0 A2 A3 A4 [A0, r1, A2, A3, A4, r5, r6, r7, r8, r9, r10, r11, r12, r13, r14, r15, r16, r17, r18, r19, r20, r21, r22, r23, r24]
inductive S10f (A0 A2 A3 A4 A14 : Value) : List Value → Prop
  | mk {r1 r5 r6 r7 r8 r9 r10 r11 r12 r13 r15 r16 r17 r18 r19 r20 r21 r22 r23 r24 : Value} : S10f A0 A2 A3 A4 A14 [A0, r1, A2, A3, A4, r5, r6, r7, r8, r9, r10, r11, r12, r13, A14, r15, r16, r17, r18, r19, r20, r21, r22, r23, r24]
inductive S10r (A0 A2 A3 A4 A5 A14 : Value) : List Value → Prop
  | mk {r1 r6 r7 r8 r9 r10 r11 r12 r13 r15 r16 r17 r18 r19 r20 r21 r22 r23 r24 : Value} : S10r A0 A2 A3 A4 A5 A14 [A0, r1, A2, A3, A4, A5, r6, r7, r8, r9, r10, r11, r12, r13, A14, r15, r16, r17, r18, r19, r20, r21, r22, r23, r24]
inductive S10c (A0 A2 A3 A4 A5 A14 A18 : Value) : List Value → Prop
  | mk {r1 r6 r7 r8 r9 r10 r11 r12 r13 r15 r16 r17 r19 r20 r21 r22 r23 r24 : Value} : S10c A0 A2 A3 A4 A5 A14 A18 [A0, r1, A2, A3, A4, A5, r6, r7, r8, r9, r10, r11, r12, r13, A14, r15, r16, r17, A18, r19, r20, r21, r22, r23, r24]
abbrev clo (r2 r3 r4 : Nat) : Value := .func (.func 36) #[] #[ptr r2, ptr r3, ptr r4]
abbrev dfr (r2 r3 r4 : Nat) : Deferred := { target := .fn (.func 36) #[ptr r2, ptr r3, ptr r4], args := #[] }
abbrev cels (r2 r3 r4 : Nat) (f : List Value) (p e : Int) (H : Heap) : Heap := (r4, .row 27 [.int .i64 e] (0, 0)) :: (r3, .row 3 [.int .i64 p] (0, 0)) :: (r2, .row 25 f (0, 0)) :: H
section
variable {K : Value → Heap → Prop} {H : Heap}
theorem c35 {s : List UInt8} (h : chk s = 0) (hK : K (.bool true) H) : SCalls Tryd.prog 35 [.string (strOf s)] H K := by
  have h38 : ∀ H (K2 : Value → Heap → Prop), K2 (.int .i64 0) H → SCalls Tryd.prog 38 [.string (strOf s)] H K2 := fun H K2 hk => c38 (by rw [h]; exact hk)
  refine enter35 ?_
  repeat' ((conv => whnf); (first | with_reducible refine h38 _ _ ?_ | exact Keep.all hK | refine New.mk (fun _ => ?_) | refine Look.at0 ?_ | refine Cell.row ?_ | refine Cell.buf ?_ | refine Cells.row rfl ?_ | refine Put.row rfl ?_ | refine Put.buf rfl ?_ | refine Look.at1 ?_ | refine Look.at2 ?_ | refine Look.at3 ?_ | refine Look.at4 ?_ | refine Look.at5 ?_ | refine Look.at6 ?_ | refine Look.at7 ?_ | refine Look.at8 ?_ | with_reducible refine Val.i64 (by omega) (by omega) ?_ | with_reducible refine Val.u8 (by omega) (by omega) ?_ | with_reducible refine Val.u32 (by omega) (by omega) ?_ | with_reducible refine Val.u64 (by omega) (by omega) ?_ | with_reducible refine Val.u8m ?_ | with_reducible refine Val.u32m ?_ | with_reducible refine Val.u64m ?_ | with_reducible refine Val.shr8 ?_ | with_reducible refine Val.shr16 (by decide) ?_ | with_reducible refine Val.shr24 (by decide) ?_ | with_reducible refine Val.raw ?_ | refine Branch.not ?_ | refine Branch.and ?_ | refine Branch.or ?_ | refine Branch.dt (by assumption) ?_ | refine Branch.df (by assumption) ?_ | refine Branch.dt rfl ?_ | refine Branch.dt (by omega) ?_ | refine Branch.df (by omega) ?_ | refine Branch.t rfl ?_ | refine Branch.f rfl ?_ | refine Branch.t (by assumption) ?_ | refine Branch.f (by assumption) ?_ | refine Branch.d (fun _ => ?_) (fun _ => ?_) | refine Branch.mk (fun _ => ?_) (fun _ => ?_) | refine Need.mk (by first | omega | decide | rfl) ?_ | refine Idx.nat (by omega) ?_ | refine Idx.auto (by first | omega | decide) (by first | omega | decide) ?_ | refine Cell.ro rfl ?_ | refine SDraw.all (by kernel_rfl) ?_ | refine Kept.k0 ?_ | refine Kept.k1 ?_ | refine Kept.k2 ?_ | refine Kept.k3 ?_ | refine Kept.k4 ?_))
theorem leavesN {w w' : World} {l : List Value} {H' : Heap} {r2 r3 r4 : Nat} (hw' : Holds w' H') (hs : Step w H w' H') (h : resK rs10 l H' fun vs => oneK vs fun v => Keep H' fun H' => K v H') :
    Leaves Tryd.prog Tryd.f10 l.toArray (Back w H K) [dfr r2 r3 r4] .returning w' := by
  refine leaves_cons (f := 36) (args := #[ptr r2, ptr r3, ptr r4]) (fun h => nomatch h) (by rfl) ?_
  refine (c36n w' hw').mono ?_
  rintro e u2 w2 ⟨rfl, ⟨v, H2, rfl, h1, h2, rfl⟩ | ⟨ch, H2, rfl, h1, h2, h3⟩⟩
  · exact leaves0 h1 (hs.trans h2) h
  · exact h3.elim
theorem leavesG {w w' : World} {l : List Value} {r2 r3 r4 : Nat} {p e : Int} (hw' : Holds w' (cels r2 r3 r4 (frC z0) 0 0 H)) (hs : Step w H w' (cels r2 r3 r4 (frC z0) 0 0 H))
    (h : resK rs10 l (cels r2 r3 r4 (frC z0) p e H) fun vs => oneK vs fun v => Keep (cels r2 r3 r4 (frC z0) p e H) fun H' => K v H') :
    Leaves Tryd.prog Tryd.f10 l.toArray (Back w H K) [dfr r2 r3 r4] (.panicking (wrg p e)) w' := by
  refine leaves_cons (f := 36) (args := #[ptr r2, ptr r3, ptr r4]) (fun h => nomatch h) (by rfl) ?_
  refine (c36g w' hw').mono ?_
  rintro en u2 w2 ⟨⟨v, rfl⟩, ⟨v2, H2, rfl, h1, h2, rfl⟩ | ⟨ch, H2, rfl, h1, h2, h3⟩⟩
  · exact leaves0 h1 (hs.trans h2) h
  · exact h3.elim
theorem c10 {s : List UInt8} (hv : chk s = 0) (D : List PanicEntry → Prop) (G : Fm → Nat → Prop)
    (hf : ∀ r, @SCalls ⟨D⟩ Tryd.prog 37 [ptr r] [rdB r s 0 0 0 (.pointer none) (.slice none 0 0)] fun v H' => ∃ f p B H2, v = frV f ∧ G f p ∧ H' = (r, .row 73 (.string (strOf s) :: .int .i64 (p : Int) :: B) (0, 0)) :: H2)
    (hG : ∀ f p, G f p → K (.tuple ⟨[frV f, .int .i64 (p : Int), .int .i64 0]⟩) H)
    (hD : ∀ ch, D ch → ∃ p e : Int, ch = wrg p e ∧ K (.tuple ⟨[frV z0, .int .i64 p, .int .i64 e]⟩) H) : SCalls Tryd.prog 10 [.string (strOf s)] H K := by
  refine ⟨fun w => Tryd.call10 _ w, fun w hw => calls_of_wp_defers (fn := Tryd.f10) Tryd.func10 dBody ?_⟩
  have e0 : ({ tmps := [Value.string (strOf s)].toArray ++ Array.replicate (Tryd.f10.ntmps - [Value.string (strOf s)].toArray.size) undef, defers := [] } : Act) = actD [] ([.string (strOf s)] ++ List.replicate 24 undef) := by
    have : Tryd.f10.ntmps - [Value.string (strOf s)].toArray.size = 24 := by kernel_rfl
    rw [this]; simp [actD]
  rw [e0]
  refine wp_part (ds := []) (fun l H' => ∃ r2 r3 r4, S10 (.string (strOf s)) (ptr r2) (ptr r3) (ptr r4) l ∧ H' = cels r2 r3 r4 (frC z0) 0 0 H) ?_ hw (Step.refl _ _) ?_
  · rw [dC0]
    repeat' ((conv => whnf); (first | exact ⟨_, _, _, .mk, rfl⟩ | refine New.mk (fun _ => ?_) | refine Look.at0 ?_ | refine Cell.row ?_ | refine Cell.buf ?_ | refine Cells.row rfl ?_ | refine Put.row rfl ?_ | refine Put.buf rfl ?_ | refine Look.at1 ?_ | refine Look.at2 ?_ | refine Look.at3 ?_ | refine Look.at4 ?_ | refine Look.at5 ?_ | refine Look.at6 ?_ | refine Look.at7 ?_ | refine Look.at8 ?_ | with_reducible refine Val.i64 (by omega) (by omega) ?_ | with_reducible refine Val.u8 (by omega) (by omega) ?_ | with_reducible refine Val.u32 (by omega) (by omega) ?_ | with_reducible refine Val.u64 (by omega) (by omega) ?_ | with_reducible refine Val.u8m ?_ | with_reducible refine Val.u32m ?_ | with_reducible refine Val.u64m ?_ | with_reducible refine Val.shr8 ?_ | with_reducible refine Val.shr16 (by decide) ?_ | with_reducible refine Val.shr24 (by decide) ?_ | with_reducible refine Val.raw ?_ | refine Branch.not ?_ | refine Branch.and ?_ | refine Branch.or ?_ | refine Branch.dt (by assumption) ?_ | refine Branch.df (by assumption) ?_ | refine Branch.dt rfl ?_ | refine Branch.dt (by omega) ?_ | refine Branch.df (by omega) ?_ | refine Branch.t rfl ?_ | refine Branch.f rfl ?_ | refine Branch.t (by assumption) ?_ | refine Branch.f (by assumption) ?_ | refine Branch.d (fun _ => ?_) (fun _ => ?_) | refine Branch.mk (fun _ => ?_) (fun _ => ?_) | refine Need.mk (by first | omega | decide | rfl) ?_ | refine Idx.nat (by omega) ?_ | refine Idx.auto (by first | omega | decide) (by first | omega | decide) ?_ | refine Cell.ro rfl ?_ | refine SDraw.all (by kernel_rfl) ?_ | refine Kept.k0 ?_ | refine Kept.k1 ?_ | refine Kept.k2 ?_ | refine Kept.k3 ?_ | refine Kept.k4 ?_))
  rintro l1 H1 w1 hw1 hs1 ⟨r2, r3, r4, hS1, rfl⟩
  refine wp_part (ds := []) (fun l H' => S10 (.string (strOf s)) (ptr r2) (ptr r3) (ptr r4) l ∧ H' = cels r2 r3 r4 (frC z0) 0 0 H) ?_ hw1 hs1 ?_
  · rw [dC1]
    cases hS1
    have h35 := fun H (K2 : Value → Heap → Prop) hk => c35 (s := s) (H := H) (K := K2) hv hk
    repeat' ((conv => whnf); (first | with_reducible refine h35 _ _ ?_ | exact ⟨.mk, rfl⟩ | refine New.mk (fun _ => ?_) | refine Look.at0 ?_ | refine Cell.row ?_ | refine Cell.buf ?_ | refine Cells.row rfl ?_ | refine Put.row rfl ?_ | refine Put.buf rfl ?_ | refine Look.at1 ?_ | refine Look.at2 ?_ | refine Look.at3 ?_ | refine Look.at4 ?_ | refine Look.at5 ?_ | refine Look.at6 ?_ | refine Look.at7 ?_ | refine Look.at8 ?_ | with_reducible refine Val.i64 (by omega) (by omega) ?_ | with_reducible refine Val.u8 (by omega) (by omega) ?_ | with_reducible refine Val.u32 (by omega) (by omega) ?_ | with_reducible refine Val.u64 (by omega) (by omega) ?_ | with_reducible refine Val.u8m ?_ | with_reducible refine Val.u32m ?_ | with_reducible refine Val.u64m ?_ | with_reducible refine Val.shr8 ?_ | with_reducible refine Val.shr16 (by decide) ?_ | with_reducible refine Val.shr24 (by decide) ?_ | with_reducible refine Val.raw ?_ | refine Branch.not ?_ | refine Branch.and ?_ | refine Branch.or ?_ | refine Branch.dt (by assumption) ?_ | refine Branch.df (by assumption) ?_ | refine Branch.dt rfl ?_ | refine Branch.dt (by omega) ?_ | refine Branch.df (by omega) ?_ | refine Branch.t rfl ?_ | refine Branch.f rfl ?_ | refine Branch.t (by assumption) ?_ | refine Branch.f (by assumption) ?_ | refine Branch.d (fun _ => ?_) (fun _ => ?_) | refine Branch.mk (fun _ => ?_) (fun _ => ?_) | refine Need.mk (by first | omega | decide | rfl) ?_ | refine Idx.nat (by omega) ?_ | refine Idx.auto (by first | omega | decide) (by first | omega | decide) ?_ | refine Cell.ro rfl ?_ | refine SDraw.all (by kernel_rfl) ?_ | refine Kept.k0 ?_ | refine Kept.k1 ?_ | refine Kept.k2 ?_ | refine Kept.k3 ?_ | refine Kept.k4 ?_))
  rintro l2 H2 w2 hw2 hs2 ⟨hS2, rfl⟩
  -- the call is put off
  refine wp_seq ?_
  rw [dC2]
  refine wp_region ?_
  rw [show List.range ops5.size = List.range' 0 1 ++ [1] from rfl]
  refine xops_pre (ds := []) (w0 := w) (H0 := H) (K := fun l H' => S10f (.string (strOf s)) (ptr r2) (ptr r3) (ptr r4) (clo r2 r3 r4) l ∧ H' = cels r2 r3 r4 (frC z0) 0 0 H) ?_ noDead [⟨some 14, none, .pure (.mkfunc (.func 36) [] [.tmp 2, .tmp 3, .tmp 4])⟩] 0 l2 _ w2 ?_ ?_ hw2 hs2
  rotate_left
  · intro i x hi
    match i, hi with
    | 0, hi => injection hi with hi; subst hi; exact ⟨_, rfl, by kernel_rfl⟩
  · cases hS2
    repeat' ((conv => whnf); (first | exact ⟨.mk, rfl⟩ | refine New.mk (fun _ => ?_) | refine Look.at0 ?_ | refine Cell.row ?_ | refine Cell.buf ?_ | refine Cells.row rfl ?_ | refine Put.row rfl ?_ | refine Put.buf rfl ?_ | refine Look.at1 ?_ | refine Look.at2 ?_ | refine Look.at3 ?_ | refine Look.at4 ?_ | refine Look.at5 ?_ | refine Look.at6 ?_ | refine Look.at7 ?_ | refine Look.at8 ?_ | with_reducible refine Val.i64 (by omega) (by omega) ?_ | with_reducible refine Val.u8 (by omega) (by omega) ?_ | with_reducible refine Val.u32 (by omega) (by omega) ?_ | with_reducible refine Val.u64 (by omega) (by omega) ?_ | with_reducible refine Val.u8m ?_ | with_reducible refine Val.u32m ?_ | with_reducible refine Val.u64m ?_ | with_reducible refine Val.shr8 ?_ | with_reducible refine Val.shr16 (by decide) ?_ | with_reducible refine Val.shr24 (by decide) ?_ | with_reducible refine Val.raw ?_ | refine Branch.not ?_ | refine Branch.and ?_ | refine Branch.or ?_ | refine Branch.dt (by assumption) ?_ | refine Branch.df (by assumption) ?_ | refine Branch.dt rfl ?_ | refine Branch.dt (by omega) ?_ | refine Branch.df (by omega) ?_ | refine Branch.t rfl ?_ | refine Branch.f rfl ?_ | refine Branch.t (by assumption) ?_ | refine Branch.f (by assumption) ?_ | refine Branch.d (fun _ => ?_) (fun _ => ?_) | refine Branch.mk (fun _ => ?_) (fun _ => ?_) | refine Need.mk (by first | omega | decide | rfl) ?_ | refine Idx.nat (by omega) ?_ | refine Idx.auto (by first | omega | decide) (by first | omega | decide) ?_ | refine Cell.ro rfl ?_ | refine SDraw.all (by kernel_rfl) ?_ | refine Kept.k0 ?_ | refine Kept.k1 ?_ | refine Kept.k2 ?_ | refine Kept.k3 ?_ | refine Kept.k4 ?_))
  rintro a3 w3 ⟨l3, H3, rfl, hw3, hs3, hS3, rfl⟩
  cases hS3
  refine wp_putOff (ops := ops5) (o := ⟨none, .defer ⟨.value (.tmp 14), #[], #[]⟩, 0, "frame.go:222", #[⟨0, .data⟩], none⟩) (d := dfr r2 r3 r4) (by rfl) rfl (by
    simp only [execOp, resolve, ev_eq]
    show (Deferred.ofValue (clo r2 r3 r4) _ >>= fun d => pure (.defer d) : Sem Next).run Tryd.prog w3 = _
    simp [Deferred.ofValue]) ⟨_, rfl, ?_⟩
  -- the reader is made
  refine wp_part (ds := [dfr r2 r3 r4]) (fun l H' => ∃ r, S10r (.string (strOf s)) (ptr r2) (ptr r3) (ptr r4) (ptr r) (clo r2 r3 r4) l ∧ H' = rdB r s 0 0 0 (.pointer none) (.slice none 0 0) :: cels r2 r3 r4 (frC z0) 0 0 H) ?_ hw3 hs3 ?_
  · rw [dC3]
    repeat' ((conv => whnf); (first | exact ⟨_, .mk, rfl⟩ | refine New.mk (fun _ => ?_) | refine Look.at0 ?_ | refine Cell.row ?_ | refine Cell.buf ?_ | refine Cells.row rfl ?_ | refine Put.row rfl ?_ | refine Put.buf rfl ?_ | refine Look.at1 ?_ | refine Look.at2 ?_ | refine Look.at3 ?_ | refine Look.at4 ?_ | refine Look.at5 ?_ | refine Look.at6 ?_ | refine Look.at7 ?_ | refine Look.at8 ?_ | with_reducible refine Val.i64 (by omega) (by omega) ?_ | with_reducible refine Val.u8 (by omega) (by omega) ?_ | with_reducible refine Val.u32 (by omega) (by omega) ?_ | with_reducible refine Val.u64 (by omega) (by omega) ?_ | with_reducible refine Val.u8m ?_ | with_reducible refine Val.u32m ?_ | with_reducible refine Val.u64m ?_ | with_reducible refine Val.shr8 ?_ | with_reducible refine Val.shr16 (by decide) ?_ | with_reducible refine Val.shr24 (by decide) ?_ | with_reducible refine Val.raw ?_ | refine Branch.not ?_ | refine Branch.and ?_ | refine Branch.or ?_ | refine Branch.dt (by assumption) ?_ | refine Branch.df (by assumption) ?_ | refine Branch.dt rfl ?_ | refine Branch.dt (by omega) ?_ | refine Branch.df (by omega) ?_ | refine Branch.t rfl ?_ | refine Branch.f rfl ?_ | refine Branch.t (by assumption) ?_ | refine Branch.f (by assumption) ?_ | refine Branch.d (fun _ => ?_) (fun _ => ?_) | refine Branch.mk (fun _ => ?_) (fun _ => ?_) | refine Need.mk (by first | omega | decide | rfl) ?_ | refine Idx.nat (by omega) ?_ | refine Idx.auto (by first | omega | decide) (by first | omega | decide) ?_ | refine Cell.ro rfl ?_ | refine SDraw.all (by kernel_rfl) ?_ | refine Kept.k0 ?_ | refine Kept.k1 ?_ | refine Kept.k2 ?_ | refine Kept.k3 ?_ | refine Kept.k4 ?_))
  rintro l4 H4 w4 hw4 hs4 ⟨r, hS4, rfl⟩
  -- the frame is read
  refine wp_seq ?_
  rw [dC4]
  refine wp_region ?_
  rw [show List.range ops7.size = List.range' 0 1 ++ [1, 2] from rfl]
  refine xops_pre (ds := [dfr r2 r3 r4]) (w0 := w) (H0 := H) (K := fun l H' => S10c (.string (strOf s)) (ptr r2) (ptr r3) (ptr r4) (ptr r) (clo r2 r3 r4) (ptr r) l ∧ H' = rdB r s 0 0 0 (.pointer none) (.slice none 0 0) :: cels r2 r3 r4 (frC z0) 0 0 H) ?_ noDead [⟨some 18, none, .pure (.mov (.tmp 5))⟩] 0 l4 _ w4 ?_ ?_ hw4 hs4
  rotate_left
  · intro i x hi
    match i, hi with
    | 0, hi => injection hi with hi; subst hi; exact ⟨_, rfl, by kernel_rfl⟩
  · cases hS4
    repeat' ((conv => whnf); (first | exact ⟨.mk, rfl⟩ | refine New.mk (fun _ => ?_) | refine Look.at0 ?_ | refine Cell.row ?_ | refine Cell.buf ?_ | refine Cells.row rfl ?_ | refine Put.row rfl ?_ | refine Put.buf rfl ?_ | refine Look.at1 ?_ | refine Look.at2 ?_ | refine Look.at3 ?_ | refine Look.at4 ?_ | refine Look.at5 ?_ | refine Look.at6 ?_ | refine Look.at7 ?_ | refine Look.at8 ?_ | with_reducible refine Val.i64 (by omega) (by omega) ?_ | with_reducible refine Val.u8 (by omega) (by omega) ?_ | with_reducible refine Val.u32 (by omega) (by omega) ?_ | with_reducible refine Val.u64 (by omega) (by omega) ?_ | with_reducible refine Val.u8m ?_ | with_reducible refine Val.u32m ?_ | with_reducible refine Val.u64m ?_ | with_reducible refine Val.shr8 ?_ | with_reducible refine Val.shr16 (by decide) ?_ | with_reducible refine Val.shr24 (by decide) ?_ | with_reducible refine Val.raw ?_ | refine Branch.not ?_ | refine Branch.and ?_ | refine Branch.or ?_ | refine Branch.dt (by assumption) ?_ | refine Branch.df (by assumption) ?_ | refine Branch.dt rfl ?_ | refine Branch.dt (by omega) ?_ | refine Branch.df (by omega) ?_ | refine Branch.t rfl ?_ | refine Branch.f rfl ?_ | refine Branch.t (by assumption) ?_ | refine Branch.f (by assumption) ?_ | refine Branch.d (fun _ => ?_) (fun _ => ?_) | refine Branch.mk (fun _ => ?_) (fun _ => ?_) | refine Need.mk (by first | omega | decide | rfl) ?_ | refine Idx.nat (by omega) ?_ | refine Idx.auto (by first | omega | decide) (by first | omega | decide) ?_ | refine Cell.ro rfl ?_ | refine SDraw.all (by kernel_rfl) ?_ | refine Kept.k0 ?_ | refine Kept.k1 ?_ | refine Kept.k2 ?_ | refine Kept.k3 ?_ | refine Kept.k4 ?_))
  rintro a5 w5 ⟨l5, H5, rfl, hw5, hs5, hS5, rfl⟩
  cases hS5
  refine @wp_mayDie ⟨D⟩ _ _ ops7 _ _ w5 ⟨some 19, .call ⟨.value (.func 37), #[.tmp 18], #[71]⟩, 25, "frame.go:232", #[⟨0, .data⟩], none⟩ 1 [2] 37 [ptr r] (cels r2 r3 r4 (frC z0) 0 0 H) _ _ (by rfl) rfl (by
    have e : ∀ l, (act l).eval (.func 37) = .func (.func 37) #[] #[] := fun l => rfl
    have e2 : ∀ l, Array.map (act l).eval #[Operand.tmp 18] = #[ev l (.tmp 18)] := fun l => by simp [ev_eq]
    simp only [execOp, resolve, e, e2, Deferred.ofValue, Sem.run_bind, Sem.run_pure, Result.andThen_ok, invoke, Array.empty_append, Array.append_empty]
    rfl) (hf r) hw5 ?_ ?_
  · rintro v H6 w6 hw6 hst6 ⟨f, p, B, H2, rfl, hGf, rfl⟩
    refine ⟨_, rfl, ?_⟩
    -- what was read is laid down
    have hsub : ((r, Blk.row 73 (.string (strOf s) :: .int .i64 (p : Int) :: B) (0, 0)) :: cels r2 r3 r4 (frC z0) 0 0 H).Sublist (((r, Blk.row 73 (.string (strOf s) :: .int .i64 (p : Int) :: B) (0, 0)) :: H2) ++ cels r2 r3 r4 (frC z0) 0 0 H) :=
      List.Sublist.cons_cons _ (List.sublist_append_right _ _)
    have hw7 := hw6.sub hsub
    have hs7 : Step w H w6 ((r, Blk.row 73 (.string (strOf s) :: .int .i64 (p : Int) :: B) (0, 0)) :: cels r2 r3 r4 (frC z0) 0 0 H) := (hs5.trans hst6).fewer fun q hq => hsub.subset hq
    refine xops_pre (ds := [dfr r2 r3 r4]) (rest := []) (w0 := w) (H0 := H) (K := fun l H' => S10r (.string (strOf s)) (ptr r2) (ptr r3) (ptr r4) (ptr r) (clo r2 r3 r4) l ∧ H' = (r, Blk.row 73 (.string (strOf s) :: .int .i64 (p : Int) :: B) (0, 0)) :: cels r2 r3 r4 (frC f) 0 0 H) ?_ noDead [⟨none, none, .store 12 (.tmp 2) (.tmp 19)⟩] 2 _ _ w6 ?_ ?_ hw7 hs7
    rotate_left
    · intro i x hi
      match i, hi with
      | 0, hi => injection hi with hi; subst hi; exact ⟨_, rfl, by kernel_rfl⟩
    · repeat' ((conv => whnf); (first | exact ⟨.mk, rfl⟩ | refine New.mk (fun _ => ?_) | refine Look.at0 ?_ | refine Cell.row ?_ | refine Cell.buf ?_ | refine Cells.row rfl ?_ | refine Put.row rfl ?_ | refine Put.buf rfl ?_ | refine Look.at1 ?_ | refine Look.at2 ?_ | refine Look.at3 ?_ | refine Look.at4 ?_ | refine Look.at5 ?_ | refine Look.at6 ?_ | refine Look.at7 ?_ | refine Look.at8 ?_ | with_reducible refine Val.i64 (by omega) (by omega) ?_ | with_reducible refine Val.u8 (by omega) (by omega) ?_ | with_reducible refine Val.u32 (by omega) (by omega) ?_ | with_reducible refine Val.u64 (by omega) (by omega) ?_ | with_reducible refine Val.u8m ?_ | with_reducible refine Val.u32m ?_ | with_reducible refine Val.u64m ?_ | with_reducible refine Val.shr8 ?_ | with_reducible refine Val.shr16 (by decide) ?_ | with_reducible refine Val.shr24 (by decide) ?_ | with_reducible refine Val.raw ?_ | refine Branch.not ?_ | refine Branch.and ?_ | refine Branch.or ?_ | refine Branch.dt (by assumption) ?_ | refine Branch.df (by assumption) ?_ | refine Branch.dt rfl ?_ | refine Branch.dt (by omega) ?_ | refine Branch.df (by omega) ?_ | refine Branch.t rfl ?_ | refine Branch.f rfl ?_ | refine Branch.t (by assumption) ?_ | refine Branch.f (by assumption) ?_ | refine Branch.d (fun _ => ?_) (fun _ => ?_) | refine Branch.mk (fun _ => ?_) (fun _ => ?_) | refine Need.mk (by first | omega | decide | rfl) ?_ | refine Idx.nat (by omega) ?_ | refine Idx.auto (by first | omega | decide) (by first | omega | decide) ?_ | refine Cell.ro rfl ?_ | refine SDraw.all (by kernel_rfl) ?_ | refine Kept.k0 ?_ | refine Kept.k1 ?_ | refine Kept.k2 ?_ | refine Kept.k3 ?_ | refine Kept.k4 ?_))
    rintro a8 w8 ⟨l8, H8, rfl, hw8, hs8, hS8, rfl⟩
    show (dC 5).wp Tryd.prog _ _ _
    refine wp_mono (xc_ok (ds := [dfr r2 r3 r4]) (dC 5) (fun e l H' => match e with
      | .ret => resK rs10 l H' fun vs => oneK vs fun v => Keep H' fun H' => K v H'
      | _ => False) _ _ noD ?_ w8 hw8) ?_
    · rw [dC5]
      cases hS8
      have hk := hG f p hGf
      repeat' ((conv => whnf); (first | refine SDraw.held (by kernel_rfl) [] .nil ?_ | refine Kept.sub (List.nil_sublist _) ?_ | refine And.intro ?_ ?_ | exact Keep.d4 hk | refine New.mk (fun _ => ?_) | refine Look.at0 ?_ | refine Cell.row ?_ | refine Cell.buf ?_ | refine Cells.row rfl ?_ | refine Put.row rfl ?_ | refine Put.buf rfl ?_ | refine Look.at1 ?_ | refine Look.at2 ?_ | refine Look.at3 ?_ | refine Look.at4 ?_ | refine Look.at5 ?_ | refine Look.at6 ?_ | refine Look.at7 ?_ | refine Look.at8 ?_ | with_reducible refine Val.i64 (by omega) (by omega) ?_ | with_reducible refine Val.u8 (by omega) (by omega) ?_ | with_reducible refine Val.u32 (by omega) (by omega) ?_ | with_reducible refine Val.u64 (by omega) (by omega) ?_ | with_reducible refine Val.u8m ?_ | with_reducible refine Val.u32m ?_ | with_reducible refine Val.u64m ?_ | with_reducible refine Val.shr8 ?_ | with_reducible refine Val.shr16 (by decide) ?_ | with_reducible refine Val.shr24 (by decide) ?_ | with_reducible refine Val.raw ?_ | refine Branch.not ?_ | refine Branch.and ?_ | refine Branch.or ?_ | refine Branch.dt (by assumption) ?_ | refine Branch.df (by assumption) ?_ | refine Branch.dt rfl ?_ | refine Branch.dt (by omega) ?_ | refine Branch.df (by omega) ?_ | refine Branch.t rfl ?_ | refine Branch.f rfl ?_ | refine Branch.t (by assumption) ?_ | refine Branch.f (by assumption) ?_ | refine Branch.d (fun _ => ?_) (fun _ => ?_) | refine Branch.mk (fun _ => ?_) (fun _ => ?_) | refine Need.mk (by first | omega | decide | rfl) ?_ | refine Idx.nat (by omega) ?_ | refine Idx.auto (by first | omega | decide) (by first | omega | decide) ?_ | refine Cell.ro rfl ?_ | refine SDraw.all (by kernel_rfl) ?_ | refine Kept.k0 ?_ | refine Kept.k1 ?_ | refine Kept.k2 ?_ | refine Kept.k3 ?_ | refine Kept.k4 ?_))
    · rintro e a9 w9 ⟨l9, H9, rfl, hw9, hs9, hq⟩
      cases e with
      | ret => exact leavesN hw9 (hs8.trans hs9) hq
      | normal => exact hq.elim
      | exit i => exact hq.elim
      | goto i => exact hq.elim
      | panic ch => exact hq.elim
      | outgrown => exact hq.elim
  · intro ch H6 w6 hw6 hst6 hch
    obtain ⟨p, e, rfl, hk⟩ := hD ch hch
    have hsub : (cels r2 r3 r4 (frC z0) 0 0 H).Sublist (H6 ++ cels r2 r3 r4 (frC z0) 0 0 H) := List.sublist_append_right _ _
    refine leavesG (hw6.sub hsub) ((hs5.trans hst6).fewer fun q hq => hsub.subset hq) ?_
    repeat' ((conv => whnf); (first | exact Keep.d3 hk | refine New.mk (fun _ => ?_) | refine Look.at0 ?_ | refine Cell.row ?_ | refine Cell.buf ?_ | refine Cells.row rfl ?_ | refine Put.row rfl ?_ | refine Put.buf rfl ?_ | refine Look.at1 ?_ | refine Look.at2 ?_ | refine Look.at3 ?_ | refine Look.at4 ?_ | refine Look.at5 ?_ | refine Look.at6 ?_ | refine Look.at7 ?_ | refine Look.at8 ?_ | with_reducible refine Val.i64 (by omega) (by omega) ?_ | with_reducible refine Val.u8 (by omega) (by omega) ?_ | with_reducible refine Val.u32 (by omega) (by omega) ?_ | with_reducible refine Val.u64 (by omega) (by omega) ?_ | with_reducible refine Val.u8m ?_ | with_reducible refine Val.u32m ?_ | with_reducible refine Val.u64m ?_ | with_reducible refine Val.shr8 ?_ | with_reducible refine Val.shr16 (by decide) ?_ | with_reducible refine Val.shr24 (by decide) ?_ | with_reducible refine Val.raw ?_ | refine Branch.not ?_ | refine Branch.and ?_ | refine Branch.or ?_ | refine Branch.dt (by assumption) ?_ | refine Branch.df (by assumption) ?_ | refine Branch.dt rfl ?_ | refine Branch.dt (by omega) ?_ | refine Branch.df (by omega) ?_ | refine Branch.t rfl ?_ | refine Branch.f rfl ?_ | refine Branch.t (by assumption) ?_ | refine Branch.f (by assumption) ?_ | refine Branch.d (fun _ => ?_) (fun _ => ?_) | refine Branch.mk (fun _ => ?_) (fun _ => ?_) | refine Need.mk (by first | omega | decide | rfl) ?_ | refine Idx.nat (by omega) ?_ | refine Idx.auto (by first | omega | decide) (by first | omega | decide) ?_ | refine Cell.ro rfl ?_ | refine SDraw.all (by kernel_rfl) ?_ | refine Kept.k0 ?_ | refine Kept.k1 ?_ | refine Kept.k2 ?_ | refine Kept.k3 ?_ | refine Kept.k4 ?_))
end
end Go.Proofs.YtledahfkpnbfcaaDoor

/- Ported (port.py) from BtG BtK. -/
set_option linter.unusedVariables false
set_option linter.unusedSimpArgs false
set_option maxRecDepth 100000
set_option maxHeartbeats 4000000
namespace Go.Proofs.YtledahfkpnbfcaaDoor
open Sx
/-- What is left of the bits from place j on. -/
def unsR : St → Nat → List UInt8 → List UInt8 × Nat × Int
  | s, j, [] => if s.n = 5 then ([], j, 3) else (s.out, j, 0)
  | s, j, b :: r => if s.n = 5 ∧ b.toNat = s.lv then ([], j, 20) else unsR ⟨if s.n = 5 then s.out else s.out ++ [b], b.toNat, tk s.lv s.n b.toNat⟩ (j + 1) r
def uns (l : List UInt8) : List UInt8 × Nat × Int := unsR ⟨[], 0, 0⟩ 0 l
/-- Where the work is at place j. -/
structure At (l : List UInt8) (j : Nat) (out : List UInt8) (lv n : Nat) : Prop where
  le : j ≤ l.length
  eq : uns l = unsR ⟨out, lv, n⟩ j (l.drop j)
  n5 : n ≤ 5
  len : out.length ≤ j
  last : (j = 0 ∧ lv = 0 ∧ n = 0) ∨ (0 < j ∧ ∃ b, l[j - 1]? = some b ∧ lv = b.toNat)
theorem At.zero (l : List UInt8) : At l 0 [] 0 0 := ⟨Nat.zero_le _, rfl, by decide, Nat.le_refl _, .inl ⟨rfl, rfl, rfl⟩⟩
theorem drop_cons' {l : List UInt8} {j : Nat} {b : UInt8} (h : l[j]? = some b) : l.drop j = b :: l.drop (j + 1) := by
  obtain ⟨hlt, rfl⟩ := List.getElem?_eq_some_iff.1 h
  exact List.drop_eq_getElem_cons hlt
theorem At.stop {l out : List UInt8} {j lv n : Nat} {b : UInt8} (h : At l j out lv n) (hx : l[j]? = some b) (h5 : n = 5) (hb : b.toNat = lv) : uns l = ([], j, 20) := by
  rw [h.eq, drop_cons' hx]
  show (if n = 5 ∧ b.toNat = lv then _ else _) = _
  rw [if_pos ⟨h5, hb⟩]
theorem At.next {l out : List UInt8} {j lv n : Nat} {b : UInt8} (h : At l j out lv n) (hx : l[j]? = some b) (hn : ¬ (n = 5 ∧ b.toNat = lv)) : At l (j + 1) (if n = 5 then out else out ++ [b]) b.toNat (tk lv n b.toNat) := by
  refine ⟨(List.getElem?_eq_some_iff.1 hx).1, ?_, ?_, ?_, .inr ⟨by omega, b, hx, rfl⟩⟩
  · rw [h.eq, drop_cons' hx]
    show (if n = 5 ∧ b.toNat = lv then _ else _) = _
    rw [if_neg hn]
  · have := h.n5
    unfold tk
    split
    · rename_i e
      have : n ≠ 5 := fun e5 => hn ⟨e5, e⟩
      omega
    · omega
  · have := h.len
    split
    · omega
    · simp; omega
theorem At.fin {l out : List UInt8} {lv n : Nat} (h : At l l.length out lv n) : uns l = if n = 5 then ([], l.length, 3) else (out, l.length, 0) := by
  have := h.eq
  rw [List.drop_length] at this
  exact this
inductive S26 (A0 A5 A6 A7 A18 : Value) : List Value → Prop
  | mk {r1 r2 r3 r4 r8 r9 r10 r11 r12 r13 r14 r15 r16 r17 r19 r20 r21 r22 r23 r24 r25 r26 r27 r28 r29 r30 r31 r32 r33 r34 r35 r36 r37 r38 r39 r40 r41 r42 r43 r44 r45 r46 r47 : Value} : S26 A0 A5 A6 A7 A18 [A0, r1, r2, r3, r4, A5, A6, A7, r8, r9, r10, r11, r12, r13, r14, r15, r16, r17, A18, r19, r20, r21, r22, r23, r24, r25, r26, r27, r28, r29, r30, r31, r32, r33, r34, r35, r36, r37, r38, r39, r40, r41, r42, r43, r44, r45, r46, r47]
section
variable {K : Value → Heap → Prop} {H : Heap}
theorem c26 {l : List UInt8} (h0 : chk l = 0) (hK : K (.tuple ⟨[.string (strOf (uns l).1), .int .i64 ((uns l).2.1 : Int), .int .i64 (uns l).2.2]⟩) H) : SCalls Tryd.prog 26 [.string (strOf l)] H K := by
  refine enter26 ?_
  rcases chk_cases l with ⟨_, hl, hB⟩ | ⟨h0', _⟩
  · have h32 := fun (K : Value → Heap → Prop) (hk : K (.int .i64 0) H) => c38 (l := l) (K := K) (H := H) (by rw [h0]; exact hk)
    repeat' ((conv => whnf); (first | with_reducible refine h32 _ ?_ | refine Branch.f rfl ?_ | refine RawV.rangeStr rfl (by kernel_rfl) (fun q => ?_) | refine New.mk (fun _ => ?_) | refine Look.at0 ?_ | refine Cell.row ?_ | refine Cell.buf ?_ | refine Cells.row rfl ?_ | refine Put.row rfl ?_ | refine Put.buf rfl ?_ | refine Look.at1 ?_ | refine Look.at2 ?_ | refine Look.at3 ?_ | refine Look.at4 ?_ | refine Look.at5 ?_ | refine Look.at6 ?_ | refine Look.at7 ?_ | refine Look.at8 ?_ | with_reducible refine Val.i64 (by omega) (by omega) ?_ | with_reducible refine Val.u8 (by omega) (by omega) ?_ | with_reducible refine Val.u32 (by omega) (by omega) ?_ | with_reducible refine Val.u64 (by omega) (by omega) ?_ | with_reducible refine Val.u8m ?_ | with_reducible refine Val.u32m ?_ | with_reducible refine Val.u64m ?_ | with_reducible refine Val.shr8 ?_ | with_reducible refine Val.shr16 (by decide) ?_ | with_reducible refine Val.shr24 (by decide) ?_ | with_reducible refine Val.raw ?_ | refine Branch.not ?_ | refine Branch.and ?_ | refine Branch.or ?_ | refine Branch.dt (by assumption) ?_ | refine Branch.df (by assumption) ?_ | refine Branch.dt rfl ?_ | refine Branch.dt (by omega) ?_ | refine Branch.df (by omega) ?_ | refine Branch.t rfl ?_ | refine Branch.f rfl ?_ | refine Branch.t (by assumption) ?_ | refine Branch.f (by assumption) ?_ | refine Branch.d (fun _ => ?_) (fun _ => ?_) | refine Branch.mk (fun _ => ?_) (fun _ => ?_) | refine Need.mk (by first | omega | decide | rfl) ?_ | refine Idx.nat (by omega) ?_ | refine Idx.auto (by first | omega | decide) (by first | omega | decide) ?_ | refine Cell.ro rfl ?_ | refine SDraw.all (by kernel_rfl) ?_ | refine Kept.k0 ?_ | refine Kept.k1 ?_ | refine Kept.k2 ?_ | refine Kept.k3 ?_ | refine Kept.k4 ?_))
    rename_i b q6
    refine SLoop.invA (fun (j : Nat) S H' => S26 (.string (strOf l)) (.int .i64 0) (ptr b) (ptr q6) (ptr q) S ∧ ∃ out lv n N, At l j out lv n ∧ Bld 60 b [] out N ∧ H' = (q, sIter (strOf l) j) :: runB q6 lv n :: (N ++ H)) (fun j => l.length - j) 0 (Keep.all ⟨.mk, [], 0, 0, _, At.zero l, Bld.new, rfl⟩) ?_
    rintro j S H' ⟨hS, out, lv, n, N, hA, hN, rfl⟩ R hR
    cases hS
    have hj := hA.le
    have k1 := hA.n5
    have k2 := hA.len
    have hsz : (strOf l).size = l.length := strOf_size l
    have hk2 : ∀ (v : Value) (x y : Nat × Blk) (N : Heap), K v H → Keep (x :: y :: (N ++ H)) fun H' => K v H' := fun v x y N hk => Keep.sub H (List.sublist_append_right (x :: y :: N) H) hk
    by_cases hlt : j < l.length
    · have hx := List.getElem?_eq_getElem hlt
      generalize l[j] = c at hx
      have hcB := hB c (List.mem_of_getElem? hx)
      have hnx : ∀ (H : Heap) (K2 : Value → Heap → Prop), K2 (.tuple ⟨[.bool true, .int .i64 (j : Int), .int .i32 (c.toNat : Int)]⟩) ((q, sIter (strOf l) (j + 1)) :: H) → ∀ o xm, Oper.op o = .next xm true → RawV Tryd.prog o [ptr q] ((q, sIter (strOf l) j) :: H) K2 := fun H K2 hk o xm ho =>
        RawV.nextS0 ho (ascii hB) (fun h => by omega) (fun b2 hb2 => by rw [hx] at hb2; injection hb2 with hb2; subst hb2; exact hk)
      have h33 : ∀ (x y : Nat × Blk) (K2 : Value → Heap → Prop), (∀ N', Bld 60 b [] (out ++ [c]) N' → K2 (.tuple ⟨[.int .i64 1, .nilIface]⟩) (x :: y :: (N' ++ H))) → SCalls Tryd.prog 39 [ptr b, .int .i32 (c.toNat : Int)] (x :: y :: (N ++ H)) K2 := fun x y K2 hk =>
        SCalls.midH [x, y] H (c39 (pre := []) bt55 hN (by rcases isB_cases hcB with ⟨h, _⟩ | ⟨h, _⟩ <;> omega) (by omega) hk)
      have h34 : ∀ (x : Nat × Blk) (H : Heap) (K2 : Value → Heap → Prop), K2 (.tuple ⟨[]⟩) (x :: runB q6 c.toNat (tk lv n c.toNat) :: H) → SCalls Tryd.prog 40 [ptr q6, .int .i32 (c.toNat : Int)] (x :: runB q6 lv n :: H) K2 := fun x H K2 hk => SCalls.at1 (c40 (by omega) hk)
      by_cases h5 : n = 5
      · by_cases hlv : c.toNat = lv
        · have hst := hA.stop hx h5 hlv
          rw [hst] at hK
          clear hR h32
          subst h5 hlv
          repeat' ((conv => whnf); (first | with_reducible refine hnx _ _ ?_ _ _ rfl | refine Branch.t rfl ?_ | refine Branch.t (by first | (simp; done) | omega) ?_ | exact hk2 _ _ _ _ hK | refine New.mk (fun _ => ?_) | refine Look.at0 ?_ | refine Cell.row ?_ | refine Cell.buf ?_ | refine Cells.row rfl ?_ | refine Put.row rfl ?_ | refine Put.buf rfl ?_ | refine Look.at1 ?_ | refine Look.at2 ?_ | refine Look.at3 ?_ | refine Look.at4 ?_ | refine Look.at5 ?_ | refine Look.at6 ?_ | refine Look.at7 ?_ | refine Look.at8 ?_ | with_reducible refine Val.i64 (by omega) (by omega) ?_ | with_reducible refine Val.u8 (by omega) (by omega) ?_ | with_reducible refine Val.u32 (by omega) (by omega) ?_ | with_reducible refine Val.u64 (by omega) (by omega) ?_ | with_reducible refine Val.u8m ?_ | with_reducible refine Val.u32m ?_ | with_reducible refine Val.u64m ?_ | with_reducible refine Val.shr8 ?_ | with_reducible refine Val.shr16 (by decide) ?_ | with_reducible refine Val.shr24 (by decide) ?_ | with_reducible refine Val.raw ?_ | refine Branch.not ?_ | refine Branch.and ?_ | refine Branch.or ?_ | refine Branch.dt (by assumption) ?_ | refine Branch.df (by assumption) ?_ | refine Branch.dt rfl ?_ | refine Branch.dt (by omega) ?_ | refine Branch.df (by omega) ?_ | refine Branch.t rfl ?_ | refine Branch.f rfl ?_ | refine Branch.t (by assumption) ?_ | refine Branch.f (by assumption) ?_ | refine Branch.d (fun _ => ?_) (fun _ => ?_) | refine Branch.mk (fun _ => ?_) (fun _ => ?_) | refine Need.mk (by first | omega | decide | rfl) ?_ | refine Idx.nat (by omega) ?_ | refine Idx.auto (by first | omega | decide) (by first | omega | decide) ?_ | refine Cell.ro rfl ?_ | refine SDraw.all (by kernel_rfl) ?_ | refine Kept.k0 ?_ | refine Kept.k1 ?_ | refine Kept.k2 ?_ | refine Kept.k3 ?_ | refine Kept.k4 ?_))
        · have hnx2 := hA.next hx (fun h => hlv h.2)
          rw [if_pos h5] at hnx2
          have hne : ¬ (c.toNat : Int) = (lv : Int) := by omega
          have hnext := fun S hS => hR (j + 1) S ((q, sIter (strOf l) (j + 1)) :: runB q6 c.toNat (tk lv n c.toNat) :: (N ++ H)) (by omega) (Keep.all ⟨hS, _, _, _, N, hnx2, hN, rfl⟩)
          clear hR h32 hK
          subst h5
          repeat' ((conv => whnf); (first | with_reducible refine hnx _ _ ?_ _ _ rfl | with_reducible refine h34 _ _ _ ?_ | refine Branch.t rfl ?_ | refine Branch.f rfl ?_ | refine Branch.df hne ?_ | refine hnext _ .mk | refine New.mk (fun _ => ?_) | refine Look.at0 ?_ | refine Cell.row ?_ | refine Cell.buf ?_ | refine Cells.row rfl ?_ | refine Put.row rfl ?_ | refine Put.buf rfl ?_ | refine Look.at1 ?_ | refine Look.at2 ?_ | refine Look.at3 ?_ | refine Look.at4 ?_ | refine Look.at5 ?_ | refine Look.at6 ?_ | refine Look.at7 ?_ | refine Look.at8 ?_ | with_reducible refine Val.i64 (by omega) (by omega) ?_ | with_reducible refine Val.u8 (by omega) (by omega) ?_ | with_reducible refine Val.u32 (by omega) (by omega) ?_ | with_reducible refine Val.u64 (by omega) (by omega) ?_ | with_reducible refine Val.u8m ?_ | with_reducible refine Val.u32m ?_ | with_reducible refine Val.u64m ?_ | with_reducible refine Val.shr8 ?_ | with_reducible refine Val.shr16 (by decide) ?_ | with_reducible refine Val.shr24 (by decide) ?_ | with_reducible refine Val.raw ?_ | refine Branch.not ?_ | refine Branch.and ?_ | refine Branch.or ?_ | refine Branch.dt (by assumption) ?_ | refine Branch.df (by assumption) ?_ | refine Branch.dt rfl ?_ | refine Branch.dt (by omega) ?_ | refine Branch.df (by omega) ?_ | refine Branch.t rfl ?_ | refine Branch.f rfl ?_ | refine Branch.t (by assumption) ?_ | refine Branch.f (by assumption) ?_ | refine Branch.d (fun _ => ?_) (fun _ => ?_) | refine Branch.mk (fun _ => ?_) (fun _ => ?_) | refine Need.mk (by first | omega | decide | rfl) ?_ | refine Idx.nat (by omega) ?_ | refine Idx.auto (by first | omega | decide) (by first | omega | decide) ?_ | refine Cell.ro rfl ?_ | refine SDraw.all (by kernel_rfl) ?_ | refine Kept.k0 ?_ | refine Kept.k1 ?_ | refine Kept.k2 ?_ | refine Kept.k3 ?_ | refine Kept.k4 ?_))
      · have hnx2 := hA.next hx (fun h => h5 h.1)
        rw [if_neg h5] at hnx2
        have hne : ¬ (n : Int) = 5 := by omega
        have hnext := fun S N' hN' hS => hR (j + 1) S ((q, sIter (strOf l) (j + 1)) :: runB q6 c.toNat (tk lv n c.toNat) :: (N' ++ H)) (by omega) (Keep.all ⟨hS, _, _, _, N', hnx2, hN', rfl⟩)
        clear hR h32 hK
        repeat' ((conv => whnf); (first | with_reducible refine hnx _ _ ?_ _ _ rfl | with_reducible refine h34 _ _ _ ?_ | with_reducible refine h33 _ _ _ (fun N' hN' => ?_) | refine Branch.df hne ?_ | refine Branch.t (by first | (simp [hne]; done) | omega) ?_ | refine Branch.f rfl ?_ | refine hnext _ _ hN' .mk | refine New.mk (fun _ => ?_) | refine Look.at0 ?_ | refine Cell.row ?_ | refine Cell.buf ?_ | refine Cells.row rfl ?_ | refine Put.row rfl ?_ | refine Put.buf rfl ?_ | refine Look.at1 ?_ | refine Look.at2 ?_ | refine Look.at3 ?_ | refine Look.at4 ?_ | refine Look.at5 ?_ | refine Look.at6 ?_ | refine Look.at7 ?_ | refine Look.at8 ?_ | with_reducible refine Val.i64 (by omega) (by omega) ?_ | with_reducible refine Val.u8 (by omega) (by omega) ?_ | with_reducible refine Val.u32 (by omega) (by omega) ?_ | with_reducible refine Val.u64 (by omega) (by omega) ?_ | with_reducible refine Val.u8m ?_ | with_reducible refine Val.u32m ?_ | with_reducible refine Val.u64m ?_ | with_reducible refine Val.shr8 ?_ | with_reducible refine Val.shr16 (by decide) ?_ | with_reducible refine Val.shr24 (by decide) ?_ | with_reducible refine Val.raw ?_ | refine Branch.not ?_ | refine Branch.and ?_ | refine Branch.or ?_ | refine Branch.dt (by assumption) ?_ | refine Branch.df (by assumption) ?_ | refine Branch.dt rfl ?_ | refine Branch.dt (by omega) ?_ | refine Branch.df (by omega) ?_ | refine Branch.t rfl ?_ | refine Branch.f rfl ?_ | refine Branch.t (by assumption) ?_ | refine Branch.f (by assumption) ?_ | refine Branch.d (fun _ => ?_) (fun _ => ?_) | refine Branch.mk (fun _ => ?_) (fun _ => ?_) | refine Need.mk (by first | omega | decide | rfl) ?_ | refine Idx.nat (by omega) ?_ | refine Idx.auto (by first | omega | decide) (by first | omega | decide) ?_ | refine Cell.ro rfl ?_ | refine SDraw.all (by kernel_rfl) ?_ | refine Kept.k0 ?_ | refine Kept.k1 ?_ | refine Kept.k2 ?_ | refine Kept.k3 ?_ | refine Kept.k4 ?_))
    · have e : j = l.length := by omega
      subst e
      have hf := hA.fin
      have hnx : ∀ (H : Heap) (K2 : Value → Heap → Prop), K2 (.tuple ⟨[.bool false]⟩) ((q, sIter (strOf l) l.length) :: H) → ∀ o xm, Oper.op o = .next xm true → RawV Tryd.prog o [ptr q] ((q, sIter (strOf l) l.length) :: H) K2 := fun H K2 hk o xm ho =>
        RawV.nextS0 ho (ascii hB) (fun h => hk) (fun b2 hb2 => by have := (List.getElem?_eq_some_iff.1 hb2).1; omega)
      have h36 : ∀ (x y : Nat × Blk) (K2 : Value → Heap → Prop), (∀ N', K2 (.string (strOf out)) (x :: y :: (N' ++ H))) → SCalls Tryd.prog 34 [ptr b] (x :: y :: (N ++ H)) K2 := fun x y K2 hk =>
        SCalls.midH [x, y] H (c34 (pre := []) hN fun N' _ => hk N')
      rw [hf] at hK
      by_cases h5 : n = 5
      · rw [if_pos h5, ← hsz] at hK
        subst h5
        clear hR h32
        repeat' ((conv => whnf); (first | with_reducible refine hnx _ _ ?_ _ _ rfl | refine Branch.f rfl ?_ | refine Branch.t rfl ?_ | exact hk2 _ _ _ _ hK | refine New.mk (fun _ => ?_) | refine Look.at0 ?_ | refine Cell.row ?_ | refine Cell.buf ?_ | refine Cells.row rfl ?_ | refine Put.row rfl ?_ | refine Put.buf rfl ?_ | refine Look.at1 ?_ | refine Look.at2 ?_ | refine Look.at3 ?_ | refine Look.at4 ?_ | refine Look.at5 ?_ | refine Look.at6 ?_ | refine Look.at7 ?_ | refine Look.at8 ?_ | with_reducible refine Val.i64 (by omega) (by omega) ?_ | with_reducible refine Val.u8 (by omega) (by omega) ?_ | with_reducible refine Val.u32 (by omega) (by omega) ?_ | with_reducible refine Val.u64 (by omega) (by omega) ?_ | with_reducible refine Val.u8m ?_ | with_reducible refine Val.u32m ?_ | with_reducible refine Val.u64m ?_ | with_reducible refine Val.shr8 ?_ | with_reducible refine Val.shr16 (by decide) ?_ | with_reducible refine Val.shr24 (by decide) ?_ | with_reducible refine Val.raw ?_ | refine Branch.not ?_ | refine Branch.and ?_ | refine Branch.or ?_ | refine Branch.dt (by assumption) ?_ | refine Branch.df (by assumption) ?_ | refine Branch.dt rfl ?_ | refine Branch.dt (by omega) ?_ | refine Branch.df (by omega) ?_ | refine Branch.t rfl ?_ | refine Branch.f rfl ?_ | refine Branch.t (by assumption) ?_ | refine Branch.f (by assumption) ?_ | refine Branch.d (fun _ => ?_) (fun _ => ?_) | refine Branch.mk (fun _ => ?_) (fun _ => ?_) | refine Need.mk (by first | omega | decide | rfl) ?_ | refine Idx.nat (by omega) ?_ | refine Idx.auto (by first | omega | decide) (by first | omega | decide) ?_ | refine Cell.ro rfl ?_ | refine SDraw.all (by kernel_rfl) ?_ | refine Kept.k0 ?_ | refine Kept.k1 ?_ | refine Kept.k2 ?_ | refine Kept.k3 ?_ | refine Kept.k4 ?_))
      · rw [if_neg h5, ← hsz] at hK
        have hne : ¬ (n : Int) = 5 := by omega
        clear hR h32
        repeat' ((conv => whnf); (first | with_reducible refine hnx _ _ ?_ _ _ rfl | refine Branch.f rfl ?_ | refine Branch.df hne ?_ | with_reducible refine h36 _ _ _ (fun N' => ?_) | exact hk2 _ _ _ _ hK | refine New.mk (fun _ => ?_) | refine Look.at0 ?_ | refine Cell.row ?_ | refine Cell.buf ?_ | refine Cells.row rfl ?_ | refine Put.row rfl ?_ | refine Put.buf rfl ?_ | refine Look.at1 ?_ | refine Look.at2 ?_ | refine Look.at3 ?_ | refine Look.at4 ?_ | refine Look.at5 ?_ | refine Look.at6 ?_ | refine Look.at7 ?_ | refine Look.at8 ?_ | with_reducible refine Val.i64 (by omega) (by omega) ?_ | with_reducible refine Val.u8 (by omega) (by omega) ?_ | with_reducible refine Val.u32 (by omega) (by omega) ?_ | with_reducible refine Val.u64 (by omega) (by omega) ?_ | with_reducible refine Val.u8m ?_ | with_reducible refine Val.u32m ?_ | with_reducible refine Val.u64m ?_ | with_reducible refine Val.shr8 ?_ | with_reducible refine Val.shr16 (by decide) ?_ | with_reducible refine Val.shr24 (by decide) ?_ | with_reducible refine Val.raw ?_ | refine Branch.not ?_ | refine Branch.and ?_ | refine Branch.or ?_ | refine Branch.dt (by assumption) ?_ | refine Branch.df (by assumption) ?_ | refine Branch.dt rfl ?_ | refine Branch.dt (by omega) ?_ | refine Branch.df (by omega) ?_ | refine Branch.t rfl ?_ | refine Branch.f rfl ?_ | refine Branch.t (by assumption) ?_ | refine Branch.f (by assumption) ?_ | refine Branch.d (fun _ => ?_) (fun _ => ?_) | refine Branch.mk (fun _ => ?_) (fun _ => ?_) | refine Need.mk (by first | omega | decide | rfl) ?_ | refine Idx.nat (by omega) ?_ | refine Idx.auto (by first | omega | decide) (by first | omega | decide) ?_ | refine Cell.ro rfl ?_ | refine SDraw.all (by kernel_rfl) ?_ | refine Kept.k0 ?_ | refine Kept.k1 ?_ | refine Kept.k2 ?_ | refine Kept.k3 ?_ | refine Kept.k4 ?_))
  · exact absurd h0 h0'
theorem c26e {l : List UInt8} (h0 : chk l ≠ 0) (hK : K (.tuple ⟨[.string (strOf []), .int .i64 0, .int .i64 (chk l)]⟩) H) : SCalls Tryd.prog 26 [.string (strOf l)] H K := by
  refine enter26 ?_
  have h32 := fun (K : Value → Heap → Prop) hk => c38 (l := l) (K := K) (H := H) hk
  generalize chk l = v at h0 hK h32
  repeat' ((conv => whnf); (first | with_reducible refine h32 _ ?_ | refine Branch.t (by simp [h0]; done) ?_ | exact Keep.all hK | refine New.mk (fun _ => ?_) | refine Look.at0 ?_ | refine Cell.row ?_ | refine Cell.buf ?_ | refine Cells.row rfl ?_ | refine Put.row rfl ?_ | refine Put.buf rfl ?_ | refine Look.at1 ?_ | refine Look.at2 ?_ | refine Look.at3 ?_ | refine Look.at4 ?_ | refine Look.at5 ?_ | refine Look.at6 ?_ | refine Look.at7 ?_ | refine Look.at8 ?_ | with_reducible refine Val.i64 (by omega) (by omega) ?_ | with_reducible refine Val.u8 (by omega) (by omega) ?_ | with_reducible refine Val.u32 (by omega) (by omega) ?_ | with_reducible refine Val.u64 (by omega) (by omega) ?_ | with_reducible refine Val.u8m ?_ | with_reducible refine Val.u32m ?_ | with_reducible refine Val.u64m ?_ | with_reducible refine Val.shr8 ?_ | with_reducible refine Val.shr16 (by decide) ?_ | with_reducible refine Val.shr24 (by decide) ?_ | with_reducible refine Val.raw ?_ | refine Branch.not ?_ | refine Branch.and ?_ | refine Branch.or ?_ | refine Branch.dt (by assumption) ?_ | refine Branch.df (by assumption) ?_ | refine Branch.dt rfl ?_ | refine Branch.dt (by omega) ?_ | refine Branch.df (by omega) ?_ | refine Branch.t rfl ?_ | refine Branch.f rfl ?_ | refine Branch.t (by assumption) ?_ | refine Branch.f (by assumption) ?_ | refine Branch.d (fun _ => ?_) (fun _ => ?_) | refine Branch.mk (fun _ => ?_) (fun _ => ?_) | refine Need.mk (by first | omega | decide | rfl) ?_ | refine Idx.nat (by omega) ?_ | refine Idx.auto (by first | omega | decide) (by first | omega | decide) ?_ | refine Cell.ro rfl ?_ | refine SDraw.all (by kernel_rfl) ?_ | refine Kept.k0 ?_ | refine Kept.k1 ?_ | refine Kept.k2 ?_ | refine Kept.k3 ?_ | refine Kept.k4 ?_))
end
/-- Unstuffing, as long as it goes. -/
def uRun : St → List UInt8 → Option St
  | s, [] => some s
  | s, b :: r => if s.n = 5 ∧ b.toNat = s.lv then none else uRun ⟨if s.n = 5 then s.out else s.out ++ [b], b.toNat, tk s.lv s.n b.toNat⟩ r
theorem unsR_run : ∀ (x y : List UInt8) (s s' : St) (j : Nat), uRun s x = some s' → unsR s j (x ++ y) = unsR s' (j + x.length) y
  | [], y, s, s', j, h => by
    injection h with h
    subst h; rfl
  | b :: x, y, s, s', j, h => by
    show (if s.n = 5 ∧ b.toNat = s.lv then _ else _) = _
    unfold uRun at h
    by_cases hc : s.n = 5 ∧ b.toNat = s.lv
    · rw [if_pos hc] at h; cases h
    · rw [if_neg hc] at h ⊢
      show unsR _ (j + 1) (x ++ y) = _
      rw [unsR_run x y _ s' (j + 1) h, List.length_cons, show j + 1 + x.length = j + (x.length + 1) by omega]
theorem uRun_app : ∀ (x y : List UInt8) (s s' : St), uRun s x = some s' → uRun s (x ++ y) = uRun s' y
  | [], y, s, s', h => by
    injection h with h
    subst h; rfl
  | b :: x, y, s, s', h => by
    show (if s.n = 5 ∧ b.toNat = s.lv then _ else _) = _
    unfold uRun at h
    by_cases hc : s.n = 5 ∧ b.toNat = s.lv
    · rw [if_pos hc] at h; cases h
    · rw [if_neg hc] at h ⊢
      exact uRun_app x y _ s' h
theorem stf_run (l : List UInt8) : (∀ b ∈ l, isB b = true) → uRun ⟨[], 0, 0⟩ (stf l).out = some ⟨l, (stf l).lv, (stf l).n⟩ ∧ ∀ b ∈ (stf l).out, isB b = true := by
  induction l using snoc_ind with
  | h0 => exact fun _ => ⟨rfl, fun b hb => by cases hb⟩
  | h1 l b ih =>
    intro hB
    obtain ⟨ih, ihB⟩ := ih fun x hx => hB x (List.mem_append_left _ hx)
    have hb := hB b (List.mem_append_right _ (.head _))
    have hn := (St.ok l).1
    rw [stf_snoc]
    generalize stf l = s at ih ihB hn
    obtain ⟨out, lv, n⟩ := s
    dsimp only at ih ihB hn
    have hn5 : ¬ n = 5 := by omega
    unfold St.step
    dsimp only
    split
    · rename_i h5
      have ho := oth_n hb
      refine ⟨?_, fun x hx => ?_⟩
      · show uRun _ (out ++ [b] ++ [oth b]) = some ⟨l ++ [b], (oth b).toNat, 1⟩
        rw [List.append_assoc, uRun_app _ _ _ _ ih]
        show (if n = 5 ∧ b.toNat = lv then _ else _) = _
        rw [if_neg (fun h => hn5 h.1)]
        dsimp only
        rw [if_neg hn5, h5]
        show (if (5 : Nat) = 5 ∧ (oth b).toNat = b.toNat then _ else _) = _
        rw [if_neg (fun h => by omega)]
        show some _ = _
        have e : tk b.toNat 5 (oth b).toNat = 1 := by unfold tk; rw [if_neg (by omega)]
        rw [e]; rfl
      · simp only [List.mem_append, List.mem_singleton] at hx
        rcases hx with (hx | rfl) | rfl
        · exact ihB x hx
        · exact hb
        · exact oth_b
    · refine ⟨?_, fun x hx => ?_⟩
      · show uRun _ (out ++ [b]) = _
        rw [uRun_app _ _ _ _ ih]
        show (if n = 5 ∧ b.toNat = lv then _ else _) = _
        rw [if_neg (fun h => hn5 h.1)]
        dsimp only
        rw [if_neg hn5]; rfl
      · simp only [List.mem_append, List.mem_singleton] at hx
        rcases hx with hx | rfl
        · exact ihB x hx
        · exact hb
theorem uns_stf {l : List UInt8} (hB : ∀ b ∈ l, isB b = true) : uns (stf l).out = (l, (stf l).out.length, 0) := by
  have h := unsR_run (stf l).out [] _ _ 0 (stf_run l hB).1
  rw [List.append_nil, Nat.zero_add] at h
  show unsR _ 0 _ = _
  rw [h]
  have hn := (St.ok l).1
  show (if (stf l).n = 5 then _ else _) = _
  rw [if_neg (by omega)]
end Go.Proofs.YtledahfkpnbfcaaDoor

/- Ported (port.py) from BtO. -/
set_option linter.unusedVariables false
set_option linter.unusedSimpArgs false
set_option maxRecDepth 100000
set_option maxHeartbeats 4000000
namespace Go.Proofs.YtledahfkpnbfcaaDoor
open Sx
def val (l : List UInt8) : Nat := l.foldl (fun r b => r * 2 + (if bitOf b then 1 else 0)) 0
theorem val_snoc (l : List UInt8) (b : UInt8) : val (l ++ [b]) = val l * 2 + (if bitOf b then 1 else 0) := by simp [val]
theorem val_lt (l : List UInt8) : val l < 2 ^ l.length := by
  induction l using snoc_ind with
  | h0 => decide
  | h1 l b ih =>
    rw [val_snoc, List.length_append, List.length_singleton, Nat.pow_succ]
    split <;> omega
theorem val_zero (l : List UInt8) : val (48 :: l) = val l := rfl
theorem val_numB : ∀ w n, n < 2 ^ w → val (numB w n) = n
  | 0, n, h => by
    obtain rfl : n = 0 := by simpa using h
    rfl
  | w + 1, n, h => by
    rw [Nat.pow_succ] at h
    show val (numB w (n / 2) ++ [bitB (n % 2)]) = n
    rw [val_snoc, val_numB w (n / 2) (by omega)]
    have : (if bitOf (bitB (n % 2)) then 1 else 0) = n % 2 := by
      rcases (by omega : n % 2 = 0 ∨ n % 2 = 1) with h | h <;> rw [h] <;> rfl
    rw [this]; omega
def valV (l : List UInt8) : Nat × Int := if chk l = 0 then (if 64 < l.length then (0, 2) else (val l, 0)) else (0, chk l)
/-- A row of bytes that a text was turned into. -/
abbrev txtR (r : Nat) (l : List UInt8) (z : List Value) (cap : Nat) : Nat × Blk := (r, .row 5 (cel l ++ z) (cap, cap + 1))
inductive S62 (A1 A8 A10 A11 A12 A13 A99 A100 A101 : Value) : List Value → Prop
  | mk {r0 r2 r3 r4 r5 r6 r7 r9 r14 r15 r16 r17 r18 r19 r20 r21 r22 r23 r24 r25 r26 r27 r28 r29 r30 r31 r32 r33 r34 r35 r36 r37 r38 r39 r40 r41 r42 r43 r44 r45 r46 r47 r48 r49 r50 r51 r52 r53 r54 r55 r56 r57 r58 r59 r60 r61 r62 r63 r64 r65 r66 r67 r68 r69 r70 r71 r72 r73 r74 r75 r76 r77 r78 r79 r80 r81 r82 r83 r84 r85 r86 r87 r88 r89 r90 r91 r92 r93 r94 r95 r96 r97 r98 r102 r103 r104 r105 r106 r107 r108 r109 r110 r111 r112 r113 r114 r115 r116 r117 r118 r119 r120 r121 r122 r123 r124 r125 r126 r127 r128 r129 r130 r131 r132 r133 r134 r135 r136 r137 r138 r139 r140 r141 r142 r143 r144 r145 r146 r147 r148 r149 r150 r151 r152 r153 r154 r155 r156 r157 r158 r159 r160 r161 r162 r163 r164 r165 r166 r167 r168 r169 r170 r171 : Value} : S62 A1 A8 A10 A11 A12 A13 A99 A100 A101 [r0, A1, r2, r3, r4, r5, r6, r7, A8, r9, A10, A11, A12, A13, r14, r15, r16, r17, r18, r19, r20, r21, r22, r23, r24, r25, r26, r27, r28, r29, r30, r31, r32, r33, r34, r35, r36, r37, r38, r39, r40, r41, r42, r43, r44, r45, r46, r47, r48, r49, r50, r51, r52, r53, r54, r55, r56, r57, r58, r59, r60, r61, r62, r63, r64, r65, r66, r67, r68, r69, r70, r71, r72, r73, r74, r75, r76, r77, r78, r79, r80, r81, r82, r83, r84, r85, r86, r87, r88, r89, r90, r91, r92, r93, r94, r95, r96, r97, r98, A99, A100, A101, r102, r103, r104, r105, r106, r107, r108, r109, r110, r111, r112, r113, r114, r115, r116, r117, r118, r119, r120, r121, r122, r123, r124, r125, r126, r127, r128, r129, r130, r131, r132, r133, r134, r135, r136, r137, r138, r139, r140, r141, r142, r143, r144, r145, r146, r147, r148, r149, r150, r151, r152, r153, r154, r155, r156, r157, r158, r159, r160, r161, r162, r163, r164, r165, r166, r167, r168, r169, r170, r171]
section
variable {K : Value → Heap → Prop} {H : Heap}
theorem c62 {l : List UInt8} (hl : l.length ≤ 64) (hB : ∀ b ∈ l, isB b = true) (hK : K (.tuple ⟨[.int .u64 (val l : Int), .nilIface]⟩) H) : SCalls Tryd.prog 62 [.string (strOf (48 :: l)), .int .i64 2, .int .i64 64] H K := by
  refine enter62 ?_
  have hne : ¬ strOf (48 :: l) = (⟨#[]⟩ : ByteArray) := fun e => by have := strOf_inj (e.trans emp); cases this
  have hB' : ∀ b ∈ (48 :: l), isB b = true := fun b hb => by
    rcases List.mem_cons.1 hb with rfl | hb
    · rfl
    · exact hB b hb
  have hvl : val (48 :: l) = val l := val_zero l
  have hll : (48 :: l : List UInt8).length = l.length + 1 := rfl
  have hpre : ∀ j, j < (48 :: l : List UInt8).length → val ((48 :: l).take j) < 9223372036854775808 := fun j hj => by
    rcases j with _ | j
    · show (0 : Nat) < 9223372036854775808; decide
    · rw [List.take_succ_cons, val_zero]
      have h1 := val_lt (l.take j)
      have h2 : (l.take j).length ≤ 63 := by rw [List.length_take]; omega
      have h3 : (2 : Nat) ^ (l.take j).length ≤ 2 ^ 63 := Nat.pow_le_pow_right (by decide) h2
      exact Nat.lt_of_lt_of_le h1 h3
  generalize (48 :: l : List UInt8) = m at hne hB' hvl hll hpre
  rw [← hvl] at hK
  repeat' ((conv => whnf); (first | refine Branch.f (by first | (simp only [hne, decide_false]; done) | rfl) ?_ | refine Branch.t rfl ?_ | refine Branch.f rfl ?_ | refine Val.to 9223372036854775807 (by decide) ?_ | refine Val.to 9223372036854775808 (by decide) ?_ | refine Val.to 64 (by decide) ?_ | refine Val.to 0 (by decide) ?_ | refine Val.to 18446744073709551615 (by decide) ?_ | refine RawV.toBytes (e := 5) (l := m) rfl (by kernel_rfl) (by kernel_rfl) (by kernel_rfl) (by simp only [maxLen]; omega) (fun r cap z h1 h2 h3 => ?_) | refine New.mk (fun _ => ?_) | refine Look.at0 ?_ | refine Cell.row ?_ | refine Cell.buf ?_ | refine Cells.row rfl ?_ | refine Put.row rfl ?_ | refine Put.buf rfl ?_ | refine Look.at1 ?_ | refine Look.at2 ?_ | refine Look.at3 ?_ | refine Look.at4 ?_ | refine Look.at5 ?_ | refine Look.at6 ?_ | refine Look.at7 ?_ | refine Look.at8 ?_ | with_reducible refine Val.i64 (by omega) (by omega) ?_ | with_reducible refine Val.u8 (by omega) (by omega) ?_ | with_reducible refine Val.u32 (by omega) (by omega) ?_ | with_reducible refine Val.u64 (by omega) (by omega) ?_ | with_reducible refine Val.u8m ?_ | with_reducible refine Val.u32m ?_ | with_reducible refine Val.u64m ?_ | with_reducible refine Val.shr8 ?_ | with_reducible refine Val.shr16 (by decide) ?_ | with_reducible refine Val.shr24 (by decide) ?_ | with_reducible refine Val.raw ?_ | refine Branch.not ?_ | refine Branch.and ?_ | refine Branch.or ?_ | refine Branch.dt (by assumption) ?_ | refine Branch.df (by assumption) ?_ | refine Branch.dt rfl ?_ | refine Branch.dt (by omega) ?_ | refine Branch.df (by omega) ?_ | refine Branch.t rfl ?_ | refine Branch.f rfl ?_ | refine Branch.t (by assumption) ?_ | refine Branch.f (by assumption) ?_ | refine Branch.d (fun _ => ?_) (fun _ => ?_) | refine Branch.mk (fun _ => ?_) (fun _ => ?_) | refine Need.mk (by first | omega | decide | rfl) ?_ | refine Idx.nat (by omega) ?_ | refine Idx.auto (by first | omega | decide) (by first | omega | decide) ?_ | refine Cell.ro rfl ?_ | refine SDraw.all (by kernel_rfl) ?_ | refine Kept.k0 ?_ | refine Kept.k1 ?_ | refine Kept.k2 ?_ | refine Kept.k3 ?_ | refine Kept.k4 ?_))
  refine SLoop.invA (fun (j : Nat) S H' => j ≤ m.length ∧ S62 (.int .i64 2) (.bool false) (.int .u64 9223372036854775808) (.int .u64 18446744073709551615) (.bool false) (.int .u64 (val (m.take j) : Int)) (.slice (some ⟨r, 0, none⟩) m.length cap) (.int .i64 (m.length : Int)) (.int .i64 (j : Int)) S ∧ H' = txtR r m z cap :: H) (fun j => m.length - j) 0 (Keep.all ⟨Nat.zero_le _, .mk, rfl⟩) ?_
  rintro j S H' ⟨hj, hS, rfl⟩ R hR
  cases hS
  by_cases hlt : j < m.length
  · have hx := List.getElem?_eq_getElem hlt
    generalize m[j] = c at hx
    have hcc : (Blk.row 5 (cel m ++ z) (cap, cap + 1)).cell (0 + j * 1) = some (.int .u8 (c.toNat : Int)) := by
      have := cel_at hx
      show (cel m ++ z)[0 + j * 1]? = _
      rw [Nat.zero_add, Nat.mul_one, List.getElem?_append_left (List.getElem?_eq_some_iff.1 this).1, this]
    have htk : m.take (j + 1) = m.take j ++ [c] := by rw [List.take_add_one, hx]; rfl
    have hnext : ∀ S, S62 (.int .i64 2) (.bool false) (.int .u64 9223372036854775808) (.int .u64 18446744073709551615) (.bool false) (.int .u64 ((val (m.take j) * 2 + (if bitOf c then 1 else 0) : Nat) : Int)) (.slice (some ⟨r, 0, none⟩) m.length cap) (.int .i64 (m.length : Int)) (.int .i64 ((j + 1 : Nat) : Int)) S → R S (txtR r m z cap :: H) := fun S hS => hR (j + 1) _ _ (by omega) (Keep.all ⟨hlt, by rw [htk, val_snoc]; exact hS, rfl⟩)
    have hv := hpre j hlt
    have hcB := isB_cases (hB' c (List.mem_of_getElem? hx))
    clear hR hK htk hpre
    generalize val (m.take j) = v at hnext hv
    have hge : ¬ (9223372036854775808 : Int) ≤ (v : Int) := by omega
    have hmul : ∀ K : Int → Prop, K ((v * 2 : Nat) : Int) → Val (IntKind.u64.wrap ((v : Int) * 2)) K := fun K hk => Val.to _ (by rw [wrap_u64]; omega) hk
    rcases hcB with ⟨e1, e2⟩ | ⟨e1, e2⟩ <;> rw [e1] at hcc <;> rw [e2] at hnext
    · have hadd : ∀ K : Int → Prop, K ((v * 2 + 0 : Nat) : Int) → Val (IntKind.u64.wrap (((v * 2 : Nat) : Int) + 0)) K := fun K hk => Val.to _ (by rw [wrap_u64]; omega) hk
      repeat' ((conv => whnf); (first | refine Branch.dt (by omega) ?_ | refine Branch.df hge ?_ | refine Branch.t rfl ?_ | refine Branch.f rfl ?_ | refine Look.cell (.head _) hcc ?_ | refine Val.to 0 (by decide) ?_ | refine Val.to 2 (by decide) ?_ | with_reducible refine hmul _ ?_ | refine hadd _ ?_ | refine Branch.df (by omega) ?_ | exact hnext _ .mk | refine New.mk (fun _ => ?_) | refine Look.at0 ?_ | refine Cell.row ?_ | refine Cell.buf ?_ | refine Cells.row rfl ?_ | refine Put.row rfl ?_ | refine Put.buf rfl ?_ | refine Look.at1 ?_ | refine Look.at2 ?_ | refine Look.at3 ?_ | refine Look.at4 ?_ | refine Look.at5 ?_ | refine Look.at6 ?_ | refine Look.at7 ?_ | refine Look.at8 ?_ | with_reducible refine Val.i64 (by omega) (by omega) ?_ | with_reducible refine Val.u8 (by omega) (by omega) ?_ | with_reducible refine Val.u32 (by omega) (by omega) ?_ | with_reducible refine Val.u64 (by omega) (by omega) ?_ | with_reducible refine Val.u8m ?_ | with_reducible refine Val.u32m ?_ | with_reducible refine Val.u64m ?_ | with_reducible refine Val.shr8 ?_ | with_reducible refine Val.shr16 (by decide) ?_ | with_reducible refine Val.shr24 (by decide) ?_ | with_reducible refine Val.raw ?_ | refine Branch.not ?_ | refine Branch.and ?_ | refine Branch.or ?_ | refine Branch.dt (by assumption) ?_ | refine Branch.df (by assumption) ?_ | refine Branch.dt rfl ?_ | refine Branch.dt (by omega) ?_ | refine Branch.df (by omega) ?_ | refine Branch.t rfl ?_ | refine Branch.f rfl ?_ | refine Branch.t (by assumption) ?_ | refine Branch.f (by assumption) ?_ | refine Branch.d (fun _ => ?_) (fun _ => ?_) | refine Branch.mk (fun _ => ?_) (fun _ => ?_) | refine Need.mk (by first | omega | decide | rfl) ?_ | refine Idx.nat (by omega) ?_ | refine Idx.auto (by first | omega | decide) (by first | omega | decide) ?_ | refine Cell.ro rfl ?_ | refine SDraw.all (by kernel_rfl) ?_ | refine Kept.k0 ?_ | refine Kept.k1 ?_ | refine Kept.k2 ?_ | refine Kept.k3 ?_ | refine Kept.k4 ?_))
    · have hadd : ∀ K : Int → Prop, K ((v * 2 + 1 : Nat) : Int) → Val (IntKind.u64.wrap (((v * 2 : Nat) : Int) + 1)) K := fun K hk => Val.to _ (by rw [wrap_u64]; omega) hk
      repeat' ((conv => whnf); (first | refine Branch.dt (by omega) ?_ | refine Branch.df hge ?_ | refine Branch.t rfl ?_ | refine Branch.f rfl ?_ | refine Look.cell (.head _) hcc ?_ | refine Val.to 1 (by decide) ?_ | refine Val.to 2 (by decide) ?_ | with_reducible refine hmul _ ?_ | refine hadd _ ?_ | refine Branch.df (by omega) ?_ | exact hnext _ .mk | refine New.mk (fun _ => ?_) | refine Look.at0 ?_ | refine Cell.row ?_ | refine Cell.buf ?_ | refine Cells.row rfl ?_ | refine Put.row rfl ?_ | refine Put.buf rfl ?_ | refine Look.at1 ?_ | refine Look.at2 ?_ | refine Look.at3 ?_ | refine Look.at4 ?_ | refine Look.at5 ?_ | refine Look.at6 ?_ | refine Look.at7 ?_ | refine Look.at8 ?_ | with_reducible refine Val.i64 (by omega) (by omega) ?_ | with_reducible refine Val.u8 (by omega) (by omega) ?_ | with_reducible refine Val.u32 (by omega) (by omega) ?_ | with_reducible refine Val.u64 (by omega) (by omega) ?_ | with_reducible refine Val.u8m ?_ | with_reducible refine Val.u32m ?_ | with_reducible refine Val.u64m ?_ | with_reducible refine Val.shr8 ?_ | with_reducible refine Val.shr16 (by decide) ?_ | with_reducible refine Val.shr24 (by decide) ?_ | with_reducible refine Val.raw ?_ | refine Branch.not ?_ | refine Branch.and ?_ | refine Branch.or ?_ | refine Branch.dt (by assumption) ?_ | refine Branch.df (by assumption) ?_ | refine Branch.dt rfl ?_ | refine Branch.dt (by omega) ?_ | refine Branch.df (by omega) ?_ | refine Branch.t rfl ?_ | refine Branch.f rfl ?_ | refine Branch.t (by assumption) ?_ | refine Branch.f (by assumption) ?_ | refine Branch.d (fun _ => ?_) (fun _ => ?_) | refine Branch.mk (fun _ => ?_) (fun _ => ?_) | refine Need.mk (by first | omega | decide | rfl) ?_ | refine Idx.nat (by omega) ?_ | refine Idx.auto (by first | omega | decide) (by first | omega | decide) ?_ | refine Cell.ro rfl ?_ | refine SDraw.all (by kernel_rfl) ?_ | refine Kept.k0 ?_ | refine Kept.k1 ?_ | refine Kept.k2 ?_ | refine Kept.k3 ?_ | refine Kept.k4 ?_))
  · have e : j = m.length := by omega
    subst e
    rw [List.take_length]
    clear hR hpre
    repeat' ((conv => whnf); (first | refine Branch.df (by omega) ?_ | refine Branch.f rfl ?_ | exact Keep.d1 hK | refine New.mk (fun _ => ?_) | refine Look.at0 ?_ | refine Cell.row ?_ | refine Cell.buf ?_ | refine Cells.row rfl ?_ | refine Put.row rfl ?_ | refine Put.buf rfl ?_ | refine Look.at1 ?_ | refine Look.at2 ?_ | refine Look.at3 ?_ | refine Look.at4 ?_ | refine Look.at5 ?_ | refine Look.at6 ?_ | refine Look.at7 ?_ | refine Look.at8 ?_ | with_reducible refine Val.i64 (by omega) (by omega) ?_ | with_reducible refine Val.u8 (by omega) (by omega) ?_ | with_reducible refine Val.u32 (by omega) (by omega) ?_ | with_reducible refine Val.u64 (by omega) (by omega) ?_ | with_reducible refine Val.u8m ?_ | with_reducible refine Val.u32m ?_ | with_reducible refine Val.u64m ?_ | with_reducible refine Val.shr8 ?_ | with_reducible refine Val.shr16 (by decide) ?_ | with_reducible refine Val.shr24 (by decide) ?_ | with_reducible refine Val.raw ?_ | refine Branch.not ?_ | refine Branch.and ?_ | refine Branch.or ?_ | refine Branch.dt (by assumption) ?_ | refine Branch.df (by assumption) ?_ | refine Branch.dt rfl ?_ | refine Branch.dt (by omega) ?_ | refine Branch.df (by omega) ?_ | refine Branch.t rfl ?_ | refine Branch.f rfl ?_ | refine Branch.t (by assumption) ?_ | refine Branch.f (by assumption) ?_ | refine Branch.d (fun _ => ?_) (fun _ => ?_) | refine Branch.mk (fun _ => ?_) (fun _ => ?_) | refine Need.mk (by first | omega | decide | rfl) ?_ | refine Idx.nat (by omega) ?_ | refine Idx.auto (by first | omega | decide) (by first | omega | decide) ?_ | refine Cell.ro rfl ?_ | refine SDraw.all (by kernel_rfl) ?_ | refine Kept.k0 ?_ | refine Kept.k1 ?_ | refine Kept.k2 ?_ | refine Kept.k3 ?_ | refine Kept.k4 ?_))
theorem c49 {l : List UInt8} (hl : l.length ≤ 64) (hB : ∀ b ∈ l, isB b = true) (hK : K (.tuple ⟨[.int .u64 (val l : Int), .nilIface]⟩) H) : SCalls Tryd.prog 49 [.string (strOf (48 :: l)), .int .i64 2, .int .i64 64] H K := by
  refine enter49 ?_
  repeat' ((conv => whnf); (first | refine c62 hl hB ?_ | refine RawV.neqNil rfl (by kernel_rfl) false (.inl ⟨rfl, rfl⟩) ?_ | refine Branch.f rfl ?_ | exact Keep.all hK | refine New.mk (fun _ => ?_) | refine Look.at0 ?_ | refine Cell.row ?_ | refine Cell.buf ?_ | refine Cells.row rfl ?_ | refine Put.row rfl ?_ | refine Put.buf rfl ?_ | refine Look.at1 ?_ | refine Look.at2 ?_ | refine Look.at3 ?_ | refine Look.at4 ?_ | refine Look.at5 ?_ | refine Look.at6 ?_ | refine Look.at7 ?_ | refine Look.at8 ?_ | with_reducible refine Val.i64 (by omega) (by omega) ?_ | with_reducible refine Val.u8 (by omega) (by omega) ?_ | with_reducible refine Val.u32 (by omega) (by omega) ?_ | with_reducible refine Val.u64 (by omega) (by omega) ?_ | with_reducible refine Val.u8m ?_ | with_reducible refine Val.u32m ?_ | with_reducible refine Val.u64m ?_ | with_reducible refine Val.shr8 ?_ | with_reducible refine Val.shr16 (by decide) ?_ | with_reducible refine Val.shr24 (by decide) ?_ | with_reducible refine Val.raw ?_ | refine Branch.not ?_ | refine Branch.and ?_ | refine Branch.or ?_ | refine Branch.dt (by assumption) ?_ | refine Branch.df (by assumption) ?_ | refine Branch.dt rfl ?_ | refine Branch.dt (by omega) ?_ | refine Branch.df (by omega) ?_ | refine Branch.t rfl ?_ | refine Branch.f rfl ?_ | refine Branch.t (by assumption) ?_ | refine Branch.f (by assumption) ?_ | refine Branch.d (fun _ => ?_) (fun _ => ?_) | refine Branch.mk (fun _ => ?_) (fun _ => ?_) | refine Need.mk (by first | omega | decide | rfl) ?_ | refine Idx.nat (by omega) ?_ | refine Idx.auto (by first | omega | decide) (by first | omega | decide) ?_ | refine Cell.ro rfl ?_ | refine SDraw.all (by kernel_rfl) ?_ | refine Kept.k0 ?_ | refine Kept.k1 ?_ | refine Kept.k2 ?_ | refine Kept.k3 ?_ | refine Kept.k4 ?_))
theorem c28 {l : List UInt8} (hK : K (.tuple ⟨[.int .u64 ((valV l).1 : Int), .int .i64 (valV l).2]⟩) H) : SCalls Tryd.prog 28 [.string (strOf l)] H K := by
  refine enter28 ?_
  unfold valV at hK
  have hsz : (strOf l).size = l.length := strOf_size l
  rcases chk_cases l with ⟨h0, hl, hB⟩ | ⟨h0, _⟩
  · rw [if_pos h0] at hK
    have h32 := fun (K : Value → Heap → Prop) (hk : K (.int .i64 0) H) => c38 (l := l) (K := K) (H := H) (by rw [h0]; exact hk)
    by_cases h64 : 64 < l.length
    · rw [if_pos h64] at hK
      repeat' ((conv => whnf); (first | with_reducible refine h32 _ ?_ | refine Branch.f rfl ?_ | refine Branch.dt (by omega) ?_ | exact Keep.all hK | refine New.mk (fun _ => ?_) | refine Look.at0 ?_ | refine Cell.row ?_ | refine Cell.buf ?_ | refine Cells.row rfl ?_ | refine Put.row rfl ?_ | refine Put.buf rfl ?_ | refine Look.at1 ?_ | refine Look.at2 ?_ | refine Look.at3 ?_ | refine Look.at4 ?_ | refine Look.at5 ?_ | refine Look.at6 ?_ | refine Look.at7 ?_ | refine Look.at8 ?_ | with_reducible refine Val.i64 (by omega) (by omega) ?_ | with_reducible refine Val.u8 (by omega) (by omega) ?_ | with_reducible refine Val.u32 (by omega) (by omega) ?_ | with_reducible refine Val.u64 (by omega) (by omega) ?_ | with_reducible refine Val.u8m ?_ | with_reducible refine Val.u32m ?_ | with_reducible refine Val.u64m ?_ | with_reducible refine Val.shr8 ?_ | with_reducible refine Val.shr16 (by decide) ?_ | with_reducible refine Val.shr24 (by decide) ?_ | with_reducible refine Val.raw ?_ | refine Branch.not ?_ | refine Branch.and ?_ | refine Branch.or ?_ | refine Branch.dt (by assumption) ?_ | refine Branch.df (by assumption) ?_ | refine Branch.dt rfl ?_ | refine Branch.dt (by omega) ?_ | refine Branch.df (by omega) ?_ | refine Branch.t rfl ?_ | refine Branch.f rfl ?_ | refine Branch.t (by assumption) ?_ | refine Branch.f (by assumption) ?_ | refine Branch.d (fun _ => ?_) (fun _ => ?_) | refine Branch.mk (fun _ => ?_) (fun _ => ?_) | refine Need.mk (by first | omega | decide | rfl) ?_ | refine Idx.nat (by omega) ?_ | refine Idx.auto (by first | omega | decide) (by first | omega | decide) ?_ | refine Cell.ro rfl ?_ | refine SDraw.all (by kernel_rfl) ?_ | refine Kept.k0 ?_ | refine Kept.k1 ?_ | refine Kept.k2 ?_ | refine Kept.k3 ?_ | refine Kept.k4 ?_))
    · rw [if_neg h64] at hK
      have e : (⟨#[48]⟩ : ByteArray) ++ strOf l = strOf (48 :: l) := strOf_app [48] l
      have h39 : ∀ (K : Value → Heap → Prop), K (.tuple ⟨[.int .u64 (val l : Int), .nilIface]⟩) H → SCalls Tryd.prog 49 [.string ((⟨#[48]⟩ : ByteArray) ++ strOf l), .int .i64 2, .int .i64 64] H K := fun K hk => by rw [e]; exact c49 (by omega) hB hk
      have e48 : (⟨#[48]⟩ : ByteArray).size = 1 := rfl
      repeat' ((conv => whnf); (first | with_reducible refine h32 _ ?_ | refine Branch.f rfl ?_ | refine Branch.df (by omega) ?_ | refine Need.mk (by omega) ?_ | with_reducible refine h39 _ ?_ | exact Keep.all hK | refine New.mk (fun _ => ?_) | refine Look.at0 ?_ | refine Cell.row ?_ | refine Cell.buf ?_ | refine Cells.row rfl ?_ | refine Put.row rfl ?_ | refine Put.buf rfl ?_ | refine Look.at1 ?_ | refine Look.at2 ?_ | refine Look.at3 ?_ | refine Look.at4 ?_ | refine Look.at5 ?_ | refine Look.at6 ?_ | refine Look.at7 ?_ | refine Look.at8 ?_ | with_reducible refine Val.i64 (by omega) (by omega) ?_ | with_reducible refine Val.u8 (by omega) (by omega) ?_ | with_reducible refine Val.u32 (by omega) (by omega) ?_ | with_reducible refine Val.u64 (by omega) (by omega) ?_ | with_reducible refine Val.u8m ?_ | with_reducible refine Val.u32m ?_ | with_reducible refine Val.u64m ?_ | with_reducible refine Val.shr8 ?_ | with_reducible refine Val.shr16 (by decide) ?_ | with_reducible refine Val.shr24 (by decide) ?_ | with_reducible refine Val.raw ?_ | refine Branch.not ?_ | refine Branch.and ?_ | refine Branch.or ?_ | refine Branch.dt (by assumption) ?_ | refine Branch.df (by assumption) ?_ | refine Branch.dt rfl ?_ | refine Branch.dt (by omega) ?_ | refine Branch.df (by omega) ?_ | refine Branch.t rfl ?_ | refine Branch.f rfl ?_ | refine Branch.t (by assumption) ?_ | refine Branch.f (by assumption) ?_ | refine Branch.d (fun _ => ?_) (fun _ => ?_) | refine Branch.mk (fun _ => ?_) (fun _ => ?_) | refine Need.mk (by first | omega | decide | rfl) ?_ | refine Idx.nat (by omega) ?_ | refine Idx.auto (by first | omega | decide) (by first | omega | decide) ?_ | refine Cell.ro rfl ?_ | refine SDraw.all (by kernel_rfl) ?_ | refine Kept.k0 ?_ | refine Kept.k1 ?_ | refine Kept.k2 ?_ | refine Kept.k3 ?_ | refine Kept.k4 ?_))
  · rw [if_neg h0] at hK
    have h32 := fun (K : Value → Heap → Prop) hk => c38 (l := l) (K := K) (H := H) hk
    generalize chk l = v at h0 hK h32
    repeat' ((conv => whnf); (first | with_reducible refine h32 _ ?_ | refine Branch.t (by first | (simp [h0]; done) | omega) ?_ | exact Keep.all hK | refine New.mk (fun _ => ?_) | refine Look.at0 ?_ | refine Cell.row ?_ | refine Cell.buf ?_ | refine Cells.row rfl ?_ | refine Put.row rfl ?_ | refine Put.buf rfl ?_ | refine Look.at1 ?_ | refine Look.at2 ?_ | refine Look.at3 ?_ | refine Look.at4 ?_ | refine Look.at5 ?_ | refine Look.at6 ?_ | refine Look.at7 ?_ | refine Look.at8 ?_ | with_reducible refine Val.i64 (by omega) (by omega) ?_ | with_reducible refine Val.u8 (by omega) (by omega) ?_ | with_reducible refine Val.u32 (by omega) (by omega) ?_ | with_reducible refine Val.u64 (by omega) (by omega) ?_ | with_reducible refine Val.u8m ?_ | with_reducible refine Val.u32m ?_ | with_reducible refine Val.u64m ?_ | with_reducible refine Val.shr8 ?_ | with_reducible refine Val.shr16 (by decide) ?_ | with_reducible refine Val.shr24 (by decide) ?_ | with_reducible refine Val.raw ?_ | refine Branch.not ?_ | refine Branch.and ?_ | refine Branch.or ?_ | refine Branch.dt (by assumption) ?_ | refine Branch.df (by assumption) ?_ | refine Branch.dt rfl ?_ | refine Branch.dt (by omega) ?_ | refine Branch.df (by omega) ?_ | refine Branch.t rfl ?_ | refine Branch.f rfl ?_ | refine Branch.t (by assumption) ?_ | refine Branch.f (by assumption) ?_ | refine Branch.d (fun _ => ?_) (fun _ => ?_) | refine Branch.mk (fun _ => ?_) (fun _ => ?_) | refine Need.mk (by first | omega | decide | rfl) ?_ | refine Idx.nat (by omega) ?_ | refine Idx.auto (by first | omega | decide) (by first | omega | decide) ?_ | refine Cell.ro rfl ?_ | refine SDraw.all (by kernel_rfl) ?_ | refine Kept.k0 ?_ | refine Kept.k1 ?_ | refine Kept.k2 ?_ | refine Kept.k3 ?_ | refine Kept.k4 ?_))
end
end Go.Proofs.YtledahfkpnbfcaaDoor

/- Ported (port.py) from BtL BtP BtQ. -/
set_option linter.unusedVariables false
set_option linter.unusedSimpArgs false
set_option maxRecDepth 100000
set_option maxHeartbeats 4000000
namespace Go.Proofs.YtledahfkpnbfcaaDoor
open Sx
/-- Two bits put together. -/
def xorB (a b : UInt8) : UInt8 := if bitOf a == bitOf b then 48 else 49
theorem bitOf_xor (a b : UInt8) : bitOf (xorB a b) = (bitOf a != bitOf b) := by
  unfold xorB
  cases bitOf a <;> cases bitOf b <;> rfl
theorem isB_xor (a b : UInt8) : isB (xorB a b) = true := by unfold xorB; split <;> rfl
theorem dec_bit {r : Nat} (h : r < 32768) : decide (r / 16384 = 1) = r.testBit 14 := by
  rw [Nat.testBit_eq_decide_div_mod_eq, show r / 2 ^ 14 % 2 = r / 16384 by omega]
theorem dec_xor {r s : Nat} (h : r < 32768) (h' : s < 32768) : decide ((r ^^^ s) / 16384 = 1) = (decide (r / 16384 = 1) != decide (s / 16384 = 1)) := by
  rw [dec_bit h, dec_bit h', dec_bit (Nat.xor_lt_two_pow (n := 15) h h'), Nat.testBit_xor]
theorem dbl_bit (r i : Nat) : (r * 2 % 32768).testBit i = (decide (i < 15) && (decide (1 ≤ i) && r.testBit (i - 1))) := by
  rw [show r * 2 = r <<< 1 by rw [Nat.shiftLeft_eq], show (32768 : Nat) = 2 ^ 15 from rfl, Nat.testBit_mod_two_pow, Nat.testBit_shiftLeft]
theorem dbl_xor (r s : Nat) : (r ^^^ s) * 2 % 32768 = (r * 2 % 32768) ^^^ (s * 2 % 32768) := by
  apply Nat.eq_of_testBit_eq
  intro i
  rw [Nat.testBit_xor, dbl_bit, dbl_bit, dbl_bit, Nat.testBit_xor]
  cases decide (i < 15) <;> cases decide (1 ≤ i) <;> simp
theorem cStep_eq (r : Nat) (b : Bool) : cStep r b = (r * 2 % 32768) ^^^ (if (decide (r / 16384 = 1) != b) = true then 17817 else 0) := by
  unfold cStep
  generalize decide (r / 16384 = 1) = d
  cases d <;> cases b <;> simp
theorem xor4 (a b x y : Nat) : (a ^^^ x) ^^^ (b ^^^ y) = (a ^^^ b) ^^^ (x ^^^ y) := by
  rw [Nat.xor_assoc, Nat.xor_assoc, ← Nat.xor_assoc x, Nat.xor_comm x b, Nat.xor_assoc b]
theorem cStep_xor {r s : Nat} (h : r < 32768) (h' : s < 32768) (b c : Bool) : cStep (r ^^^ s) (b != c) = cStep r b ^^^ cStep s c := by
  rw [cStep_eq, cStep_eq, cStep_eq, dbl_xor, dec_xor h h', xor4]
  congr 1
  generalize decide (r / 16384 = 1) = d
  generalize decide (s / 16384 = 1) = e
  cases d <;> cases e <;> cases b <;> cases c <;> rfl
theorem fold_xor : ∀ (A B : List UInt8) (r s : Nat), A.length = B.length → r < 32768 → s < 32768 →
    (List.zipWith xorB A B).foldl (fun r b => cStep r (bitOf b)) (r ^^^ s) = A.foldl (fun r b => cStep r (bitOf b)) r ^^^ B.foldl (fun r b => cStep r (bitOf b)) s
  | [], [], r, s, _, _, _ => rfl
  | a :: A, b :: B, r, s, h, h1, h2 => by
    simp only [List.zipWith_cons_cons, List.foldl_cons, bitOf_xor]
    rw [cStep_xor h1 h2]
    exact fold_xor A B _ _ (by simpa using h) (cStep_lt _ _) (cStep_lt _ _)
  | [], _ :: _, _, _, h, _, _ => by simp at h
  | _ :: _, [], _, _, h, _, _ => by simp at h
theorem crc_xor {A B : List UInt8} (h : A.length = B.length) : crc (List.zipWith xorB A B) = crc A ^^^ crc B := fold_xor A B 0 0 h (by decide) (by decide)
section
variable {H : Heap} {A B : List UInt8}
abbrev zw (A B : List UInt8) (j : Nat) : List UInt8 := (List.zipWith xorB A B).take j
theorem zw_len (hAB : A.length = B.length) {j : Nat} (hj : j ≤ A.length) : (zw A B j).length = j := by simp [zw]; omega
end
theorem xor_zero {a b : Nat} (h : a ^^^ b = 0) : a = b := by
  have : (a ^^^ b) ^^^ b = b := by rw [h, Nat.zero_xor]
  rwa [Nat.xor_assoc, Nat.xor_self, Nat.xor_zero] at this
/-- The sum goes on by a bit that is 0; so often. -/
def dbl (r : Nat) : Nat := (r * 2 % 32768) ^^^ (if 16384 ≤ r then 17817 else 0)
def dl : Nat → Nat → Nat
  | 0, r => r
  | n + 1, r => dl n (dbl r)
theorem dbl_lt {r : Nat} : dbl r < 32768 := Nat.xor_lt_two_pow (n := 15) (Nat.mod_lt _ (by decide)) (by split <;> decide)
theorem dl_lt : ∀ (n : Nat) {r : Nat}, r < 32768 → dl n r < 32768
  | 0, _, h => h
  | n + 1, _, _ => dl_lt n dbl_lt
theorem cStep_f {r : Nat} (h : r < 32768) : cStep r false = dbl r := by
  rw [cStep_eq]
  unfold dbl
  by_cases h2 : 16384 ≤ r
  · rw [if_pos h2, decide_eq_true (show r / 16384 = 1 by omega)]; rfl
  · rw [if_neg h2, decide_eq_false (show ¬ r / 16384 = 1 by omega)]; rfl
theorem dbl_xor2 {r s : Nat} (h : r < 32768) (h' : s < 32768) : dbl (r ^^^ s) = dbl r ^^^ dbl s := by
  have := cStep_xor h h' false false
  rw [show (false != false) = false from rfl, cStep_f (Nat.xor_lt_two_pow (n := 15) h h'), cStep_f h, cStep_f h'] at this
  exact this
theorem dl_xor : ∀ (n : Nat) {r s : Nat}, r < 32768 → s < 32768 → dl n (r ^^^ s) = dl n r ^^^ dl n s
  | 0, _, _, _, _ => rfl
  | n + 1, r, s, h, h' => by
    show dl n (dbl (r ^^^ s)) = _
    rw [dbl_xor2 h h']
    exact dl_xor n dbl_lt dbl_lt
theorem dbl_zero {r : Nat} (h : r < 32768) (hz : dbl r = 0) : r = 0 := by
  unfold dbl at hz
  by_cases h2 : 16384 ≤ r
  · rw [if_pos h2] at hz
    have e : r * 2 % 32768 = 17817 := xor_zero hz
    omega
  · rw [if_neg h2, Nat.xor_zero] at hz
    omega
theorem dl_zero : ∀ (n : Nat) {r : Nat}, r < 32768 → dl n r = 0 → r = 0
  | 0, _, _, h => h
  | n + 1, _, h, hz => dbl_zero h (dl_zero n dbl_lt hz)
theorem dl_add : ∀ (m n r : Nat), dl n (dl m r) = dl (m + n) r
  | 0, n, r => by rw [Nat.zero_add]; rfl
  | m + 1, n, r => by
    rw [show m + 1 + n = (m + n) + 1 by omega]
    exact dl_add m n (dbl r)
/-- What a bit at the place i, from the end, adds. -/
def pw (i : Nat) : Nat := dl i 1
theorem pw_lt (i : Nat) : pw i < 32768 := dl_lt i (by decide)
def pwl : Nat → Nat → List Nat
  | 0, _ => []
  | n + 1, r => r :: pwl n (dbl r)
theorem pwl_at : ∀ (n r i : Nat), i < n → (pwl n r)[i]? = some (dl i r)
  | n + 1, r, 0, _ => rfl
  | n + 1, r, i + 1, h => by
    show (pwl n (dbl r))[i]? = _
    exact pwl_at n (dbl r) i (by omega)
/-- Which numbers they are, as a set. -/
def pset : Nat := (pwl 127 1).foldl (fun m r => m ||| (1 <<< r)) 0
def pairsOk (m : Nat) : List Nat → Bool
  | [] => true
  | r :: rs => (rs.all fun s => !(Nat.testBit m ((r ^^^ s) ^^^ 1))) && pairsOk m rs
/-- The parity of a number's bits. -/
def par (r : Nat) : Bool := (List.range 15).foldl (fun a i => a != r.testBit i) false
theorem par_xor (r s : Nat) : par (r ^^^ s) = (par r != par s) := by
  have key : ∀ (l : List Nat) (a b : Bool), l.foldl (fun a i => a != (r ^^^ s).testBit i) (a != b) = (l.foldl (fun a i => a != r.testBit i) a != l.foldl (fun a i => a != s.testBit i) b) := by
    intro l
    induction l with
    | nil => intro a b; rfl
    | cons i l ih =>
      intro a b
      simp only [List.foldl_cons]
      rw [Nat.testBit_xor, ← ih]
      congr 1
      cases a <;> cases b <;> cases r.testBit i <;> cases s.testBit i <;> rfl
  exact key _ false false
theorem fact_set : ((pwl 127 1).all fun r => Nat.testBit pset r) = true := by decide +kernel
theorem fact_pairs : pairsOk pset (pwl 127 1).tail = true := by decide +kernel
theorem fact_one : ((pwl 127 1).tail.all fun r => !(Nat.beq r 1)) = true := by decide +kernel
theorem fact_par : ((pwl 127 1).all par) = true := by decide +kernel
theorem pw_par {i : Nat} (h : i < 127) : par (pw i) = true := List.all_eq_true.1 fact_par _ (List.mem_of_getElem? (pwl_at 127 1 i h))
theorem pw_set {i : Nat} (h : i < 127) : Nat.testBit pset (pw i) = true := List.all_eq_true.1 fact_set _ (List.mem_of_getElem? (pwl_at 127 1 i h))
theorem tail_at {i : Nat} (h : i + 1 < 127) : (pwl 127 1).tail[i]? = some (pw (i + 1)) := by
  show (pwl 126 (dbl 1))[i]? = some (dl i (dbl 1))
  exact pwl_at 126 (dbl 1) i (by omega)
theorem pw_one {i : Nat} (h : i + 1 < 127) : pw (i + 1) ≠ 1 := by
  have := List.all_eq_true.1 fact_one _ (List.mem_of_getElem? (tail_at h))
  intro e
  rw [e] at this
  cases this
theorem pairs_at (m : Nat) : ∀ (l : List Nat), pairsOk m l = true → ∀ (i j : Nat) (r s : Nat), i < j → l[i]? = some r → l[j]? = some s → Nat.testBit m ((r ^^^ s) ^^^ 1) = false
  | x :: l, h, 0, j + 1, r, s, _, hi, hj => by
    injection hi with hi
    subst hi
    have := (Bool.and_eq_true_iff.1 h).1
    have := List.all_eq_true.1 this s (List.mem_of_getElem? (show l[j]? = some s from hj))
    simpa using this
  | x :: l, h, i + 1, j + 1, r, s, hij, hi, hj => pairs_at m l (Bool.and_eq_true_iff.1 h).2 i j r s (by omega) hi hj
  | [], _, i, j, r, s, _, hi, _ => by cases hi
theorem pw_pair {i j : Nat} (h : i < j) (hj : j + 1 < 127) : Nat.testBit pset ((pw (i + 1) ^^^ pw (j + 1)) ^^^ 1) = false :=
  pairs_at pset _ fact_pairs i j _ _ h (tail_at (by omega)) (tail_at hj)
theorem pw_split (m i : Nat) (h : m ≤ i) : pw i = dl m (pw (i - m)) := by
  unfold pw
  rw [dl_add, show i - m + m = i by omega]
theorem pw_ne {a b : Nat} (hab : a < b) (hb : b < 127) : pw a ^^^ pw b ≠ 0 := by
  intro h
  rw [pw_split a b (by omega), pw_split a a (Nat.le_refl _), Nat.sub_self, ← dl_xor a (pw_lt _) (pw_lt _)] at h
  have h0 := dl_zero a (Nat.xor_lt_two_pow (n := 15) (pw_lt _) (pw_lt _)) h
  have e : pw 0 = pw (b - a) := xor_zero h0
  exact pw_one (i := b - a - 1) (by omega) (by rw [show b - a - 1 + 1 = b - a by omega, ← e]; rfl)
/-- Four different ones, in order. -/
theorem pw_four {a b c d : Nat} (hab : a < b) (hbc : b < c) (hcd : c < d) (hd : d < 127) : pw a ^^^ (pw b ^^^ (pw c ^^^ pw d)) ≠ 0 := by
  intro h
  have l2 : ∀ x y : Nat, pw x ^^^ pw y < 32768 := fun x y => Nat.xor_lt_two_pow (n := 15) (pw_lt _) (pw_lt _)
  have l3 : ∀ x y z : Nat, pw x ^^^ (pw y ^^^ pw z) < 32768 := fun x y z => Nat.xor_lt_two_pow (n := 15) (pw_lt _) (l2 _ _)
  rw [pw_split a b (by omega), pw_split a c (by omega), pw_split a d (by omega), pw_split a a (Nat.le_refl _), Nat.sub_self, ← dl_xor a (pw_lt _) (pw_lt _), ← dl_xor a (pw_lt _) (l2 _ _), ← dl_xor a (pw_lt _) (l3 _ _ _)] at h
  have h0 := dl_zero a (Nat.xor_lt_two_pow (n := 15) (pw_lt _) (l3 _ _ _)) h
  have hp := pw_pair (i := c - a - 1) (j := d - a - 1) (by omega) (by omega)
  rw [show c - a - 1 + 1 = c - a by omega, show d - a - 1 + 1 = d - a by omega] at hp
  have hs := pw_set (i := b - a) (by omega)
  have e : pw (b - a) = (pw (c - a) ^^^ pw (d - a)) ^^^ 1 := by
    have e1 : pw 0 = 1 := rfl
    rw [e1] at h0
    generalize pw (b - a) = x at h0
    generalize pw (c - a) ^^^ pw (d - a) = y at h0
    have : x ^^^ (y ^^^ 1) = 0 := by
      rw [← h0, ← Nat.xor_assoc, ← Nat.xor_assoc, Nat.xor_comm (x ^^^ y) 1, ← Nat.xor_assoc]
    exact xor_zero this
  rw [e, hp] at hs
  cases hs
/-- All of them together. -/
def xs (l : List Nat) : Nat := l.foldr (fun i a => pw i ^^^ a) 0
theorem xs_perm {l k : List Nat} (h : l.Perm k) : xs l = xs k := by
  induction h with
  | nil => rfl
  | cons x _ ih => show pw x ^^^ xs _ = pw x ^^^ xs _; rw [ih]
  | swap x y l =>
    show pw y ^^^ (pw x ^^^ xs l) = pw x ^^^ (pw y ^^^ xs l)
    rw [← Nat.xor_assoc, Nat.xor_comm (pw y), Nat.xor_assoc]
  | trans _ _ h1 h2 => exact h1.trans h2
theorem xs_par : ∀ (l : List Nat), (∀ i ∈ l, i < 127) → par (xs l) = decide (l.length % 2 = 1)
  | [], _ => rfl
  | i :: l, h => by
    show par (pw i ^^^ xs l) = _
    rw [par_xor, pw_par (h i (.head _)), xs_par l fun j hj => h j (.tail _ hj), List.length_cons]
    by_cases hl : l.length % 2 = 1
    · rw [decide_eq_true hl, decide_eq_false (by omega)]; rfl
    · rw [decide_eq_false hl, decide_eq_true (by omega)]; rfl
/-- Up to five that are different leave something. -/
theorem xs_five {l : List Nat} (h : ∀ i ∈ l, i < 127) (hn : l.Nodup) (h0 : l ≠ []) (h5 : l.length ≤ 5) : xs l ≠ 0 := by
  by_cases hodd : l.length % 2 = 1
  · intro e
    have := xs_par l h
    rw [e, decide_eq_true hodd] at this
    cases this
  · have hpm := List.mergeSort_perm l (fun a b => decide (a ≤ b))
    have hpw : (l.mergeSort (fun a b => decide (a ≤ b))).Pairwise (fun a b => decide (a ≤ b) = true) := List.pairwise_mergeSort (by intro a b c h1 h2; simp at h1 h2 ⊢; omega) (by intro a b; simp; omega) l
    rw [← xs_perm hpm]
    have hlen := hpm.length_eq
    have hnd : (l.mergeSort (fun a b => decide (a ≤ b))).Nodup := hpm.nodup_iff.2 hn
    have hb : ∀ i ∈ l.mergeSort (fun a b => decide (a ≤ b)), i < 127 := fun i hi => h i (hpm.mem_iff.1 hi)
    generalize l.mergeSort (fun a b => decide (a ≤ b)) = k at hpw hlen hnd hb
    have hl0 : l.length ≠ 0 := by simpa using h0
    rw [← hlen] at hodd h5 hl0
    match k, hpw, hnd, hb, hodd, h5, hl0 with
    | [a, b], hpw, hnd, hb, _, _, _ =>
      simp at hpw hnd hb
      have := pw_ne (a := a) (b := b) (by omega) (by omega)
      simpa [xs] using this
    | [a, b, c, d], hpw, hnd, hb, _, _, _ =>
      simp at hpw hnd hb
      have := pw_four (a := a) (b := b) (c := c) (d := d) (by omega) (by omega) (by omega) (by omega)
      simpa [xs] using this
    | [], _, _, _, _, _, h => exact absurd rfl h
    | [a], _, _, _, h, _, _ => exact (h (by simp)).elim
    | [a, b, c], _, _, _, h, _, _ => exact (h (by simp)).elim
    | [a, b, c, d, e], _, _, _, h, _, _ => exact (h (by simp)).elim
    | a :: b :: c :: d :: e :: f :: k, _, _, _, _, h, _ => exact absurd h (by simp)
theorem pw_small : ∀ i, i < 15 → pw i = 2 ^ i := by decide +kernel
theorem xs_bits : ∀ (l : List Nat), (∀ i ∈ l, i < 15) → l.Nodup → ∀ j, (xs l).testBit j = decide (j ∈ l)
  | [], _, _, j => by simp [xs]
  | i :: l, h, hn, j => by
    have hi := h i (.head _)
    show (pw i ^^^ xs l).testBit j = _
    rw [Nat.testBit_xor, pw_small i hi, Nat.testBit_two_pow, xs_bits l (fun k hk => h k (.tail _ hk)) (List.nodup_cons.1 hn).2 j]
    have hni := (List.nodup_cons.1 hn).1
    by_cases h1 : i = j
    · subst h1
      simp [hni]
    · by_cases h2 : j ∈ l
      · simp [h1, h2]
      · simp [h1, h2, Ne.symm h1]
theorem xs_shift (m : Nat) : ∀ (l : List Nat), xs (l.map (· + m)) = dl m (xs l) ∧ xs l < 32768
  | [] => by
    refine ⟨?_, by decide⟩
    have : ∀ m, dl m 0 = 0 := fun m => by
      induction m with
      | zero => rfl
      | succ m ih => exact ih
    exact (this m).symm
  | i :: l => by
    obtain ⟨h1, h2⟩ := xs_shift m l
    refine ⟨?_, Nat.xor_lt_two_pow (n := 15) (pw_lt _) h2⟩
    show pw (i + m) ^^^ xs (l.map (· + m)) = dl m (pw i ^^^ xs l)
    rw [h1, dl_xor m (pw_lt _) h2]
    congr 1
    unfold pw
    rw [dl_add]
/-- Different ones within fifteen in a row leave something. -/
theorem xs_burst {l : List Nat} (m : Nat) (h : ∀ i ∈ l, i < 15) (hn : l.Nodup) (h0 : l ≠ []) : xs (l.map (· + m)) ≠ 0 := by
  obtain ⟨h1, h2⟩ := xs_shift m l
  rw [h1]
  intro hz
  have hz := dl_zero m h2 hz
  obtain ⟨i, hi⟩ : ∃ i, i ∈ l := by
    cases l with
    | nil => exact absurd rfl h0
    | cons i l => exact ⟨i, .head _⟩
  have := xs_bits l h hn i
  rw [hz, decide_eq_true hi] at this
  simp at this
theorem bitOf_oth (b : UInt8) : bitOf (oth b) = !bitOf b := by
  unfold oth
  cases bitOf b <;> rfl
theorem cStep_not (r : Nat) (b : Bool) : cStep r (!b) = cStep r b ^^^ 17817 := by
  rw [cStep_eq, cStep_eq, Nat.xor_assoc]
  congr 1
  generalize decide (r / 16384 = 1) = d
  cases d <;> cases b <;> rfl
theorem fold_d : ∀ (l : List UInt8) (r d : Nat), r < 32768 → d < 32768 → l.foldl (fun r b => cStep r (bitOf b)) (r ^^^ d) = l.foldl (fun r b => cStep r (bitOf b)) r ^^^ dl l.length d
  | [], _, _, _, _ => rfl
  | b :: l, r, d, h, h' => by
    simp only [List.foldl_cons]
    have := cStep_xor h h' (bitOf b) false
    rw [show (bitOf b != false) = bitOf b by cases bitOf b <;> rfl, cStep_f h'] at this
    rw [this, fold_d l _ _ (cStep_lt _ _) dbl_lt]
    rfl
theorem split_at {l : List UInt8} {p : Nat} {c : UInt8} (h : l[p]? = some c) : l = l.take p ++ c :: l.drop (p + 1) ∧ ∀ x, l.set p x = l.take p ++ x :: l.drop (p + 1) := by
  obtain ⟨hlt, rfl⟩ := List.getElem?_eq_some_iff.1 h
  refine ⟨?_, fun x => ?_⟩
  · conv => lhs; rw [← List.take_append_drop p l, List.drop_eq_getElem_cons hlt]
  · rw [List.set_eq_take_append_cons_drop, if_pos hlt]
theorem crc_flip {l : List UInt8} {p : Nat} {c : UInt8} (h : l[p]? = some c) : crc (l.set p (oth c)) = crc l ^^^ dl (l.length - 1 - p) 17817 := by
  obtain ⟨e1, e2⟩ := split_at h
  have hlt := (List.getElem?_eq_some_iff.1 h).1
  have hlen : (l.drop (p + 1)).length = l.length - 1 - p := by rw [List.length_drop]; omega
  rw [e2]
  conv => rhs; rw [e1]
  unfold crc
  rw [List.foldl_append, List.foldl_append, List.foldl_cons, List.foldl_cons, bitOf_oth, cStep_not, fold_d _ _ _ (cStep_lt _ _) (by decide), hlen]
  rw [← e1]
theorem dbl_add (x c : Nat) (h : c < 2) : x * 2 + c = (x * 2) ^^^ c := by
  have := Nat.two_pow_add_eq_or_of_lt (i := 1) (b := c) h x
  rw [show x * 2 + c = 2 ^ 1 * x + c by omega, this]
  apply Nat.eq_of_testBit_eq
  intro i
  rw [Nat.testBit_or, Nat.testBit_xor, show x * 2 = x <<< 1 by rw [Nat.shiftLeft_eq], show 2 ^ 1 * x = x <<< 1 by rw [Nat.shiftLeft_eq]; omega, Nat.testBit_shiftLeft]
  rcases i with _ | i
  · simp
  · have : c.testBit (i + 1) = false := by
      rw [Nat.testBit_succ, show c / 2 = 0 by omega]; simp
    rw [this]; simp
theorem dbl_x (x y : Nat) : (x ^^^ y) * 2 = (x * 2) ^^^ (y * 2) := by
  apply Nat.eq_of_testBit_eq
  intro i
  rw [Nat.testBit_xor, show x * 2 = x <<< 1 by rw [Nat.shiftLeft_eq], show y * 2 = y <<< 1 by rw [Nat.shiftLeft_eq], show (x ^^^ y) * 2 = (x ^^^ y) <<< 1 by rw [Nat.shiftLeft_eq], Nat.testBit_shiftLeft, Nat.testBit_shiftLeft, Nat.testBit_shiftLeft, Nat.testBit_xor]
  cases decide (i ≥ 1) <;> simp
theorem val_d : ∀ (l : List UInt8) (v d : Nat), l.foldl (fun r b => r * 2 + (if bitOf b then 1 else 0)) (v ^^^ d) = l.foldl (fun r b => r * 2 + (if bitOf b then 1 else 0)) v ^^^ (d * 2 ^ l.length)
  | [], _, _ => by simp
  | b :: l, v, d => by
    simp only [List.foldl_cons]
    have hc : (if bitOf b then 1 else 0) < 2 := by split <;> decide
    generalize (if bitOf b then 1 else 0) = c at hc
    rw [dbl_add _ _ hc, dbl_x, Nat.xor_assoc, Nat.xor_comm (d * 2), ← Nat.xor_assoc, ← dbl_add _ _ hc, val_d l, List.length_cons, Nat.pow_succ]
    congr 1
    rw [Nat.mul_assoc, Nat.mul_comm 2]
theorem val_flip {l : List UInt8} {p : Nat} {c : UInt8} (h : l[p]? = some c) : val (l.set p (oth c)) = val l ^^^ 2 ^ (l.length - 1 - p) := by
  obtain ⟨e1, e2⟩ := split_at h
  have hlt := (List.getElem?_eq_some_iff.1 h).1
  have hlen : (l.drop (p + 1)).length = l.length - 1 - p := by rw [List.length_drop]; omega
  rw [e2]
  conv => rhs; rw [e1]
  unfold val
  rw [List.foldl_append, List.foldl_append, List.foldl_cons, List.foldl_cons, bitOf_oth]
  generalize (l.take p).foldl _ 0 = v
  have e : v * 2 + (if (!bitOf c) = true then 1 else 0) = (v * 2 + (if bitOf c then 1 else 0)) ^^^ 1 := by
    cases bitOf c
    · show v * 2 + 1 = (v * 2 + 0) ^^^ 1
      rw [Nat.add_zero]; exact dbl_add v 1 (by decide)
    · show v * 2 + 0 = (v * 2 + 1) ^^^ 1
      rw [dbl_add v 1 (by decide), Nat.xor_assoc, Nat.xor_self, Nat.xor_zero, Nat.add_zero]
  rw [e, val_d, hlen, Nat.one_mul, ← e1]
/-- What the sum of a word tells. -/
def syn (y : List UInt8) : Nat := crc (y.take (y.length - 15)) ^^^ val (y.drop (y.length - 15))
theorem syn_flip {y : List UInt8} {p : Nat} {c : UInt8} (h : y[p]? = some c) (hl : 15 ≤ y.length) : syn (y.set p (oth c)) = syn y ^^^ pw (y.length - 1 - p) := by
  have hlt := (List.getElem?_eq_some_iff.1 h).1
  unfold syn
  rw [List.length_set]
  by_cases hp : p < y.length - 15
  · have e1 : (y.set p (oth c)).take (y.length - 15) = (y.take (y.length - 15)).set p (oth c) := by rw [List.take_set]
    have e2 : (y.set p (oth c)).drop (y.length - 15) = y.drop (y.length - 15) := by rw [List.drop_set, if_pos hp]
    have h2 : (y.take (y.length - 15))[p]? = some c := by rw [List.getElem?_take_of_lt hp, h]
    rw [e1, e2, crc_flip h2, Nat.xor_assoc, Nat.xor_comm (dl _ _), ← Nat.xor_assoc]
    congr 1
    have hlen : (y.take (y.length - 15)).length = y.length - 15 := by rw [List.length_take]; omega
    rw [hlen, show (17817 : Nat) = dl 15 1 by decide +kernel]
    unfold pw
    rw [dl_add, show 15 + (y.length - 15 - 1 - p) = y.length - 1 - p by omega]
  · have e1 : (y.set p (oth c)).take (y.length - 15) = y.take (y.length - 15) := by
      rw [List.take_set, List.set_eq_of_length_le (by rw [List.length_take]; omega)]
    have e2 : (y.set p (oth c)).drop (y.length - 15) = (y.drop (y.length - 15)).set (p - (y.length - 15)) (oth c) := by rw [List.drop_set, if_neg hp]
    have h2 : (y.drop (y.length - 15))[p - (y.length - 15)]? = some c := by
      rw [List.getElem?_drop, show y.length - 15 + (p - (y.length - 15)) = p by omega, h]
    rw [e1, e2, val_flip h2, ← Nat.xor_assoc]
    congr 1
    rw [List.length_drop, show y.length - (y.length - 15) - 1 - (p - (y.length - 15)) = y.length - 1 - p by omega, pw_small _ (by omega)]
/-- A word with the places ps turned about. -/
def fl (x : List UInt8) (ps : List Nat) : List UInt8 := x.mapIdx fun k c => if k ∈ ps then oth c else c
theorem fl_len (x : List UInt8) (ps : List Nat) : (fl x ps).length = x.length := by simp [fl]
theorem fl_nil (x : List UInt8) : fl x [] = x := by
  refine List.ext_getElem? fun i => ?_
  rw [fl, List.getElem?_mapIdx]
  cases x[i]? <;> simp
theorem fl_at {x : List UInt8} {ps : List Nat} {k : Nat} {c : UInt8} (h : x[k]? = some c) : (fl x ps)[k]? = some (if k ∈ ps then oth c else c) := by
  rw [fl, List.getElem?_mapIdx, h]; rfl
theorem fl_cons {x : List UInt8} {ps : List Nat} {k : Nat} {c : UInt8} (h : x[k]? = some c) : (fl x ps).set k (oth c) = fl x (k :: ps) := by
  refine List.ext_getElem? fun i => ?_
  have hlt := (List.getElem?_eq_some_iff.1 h).1
  rw [List.getElem?_set, fl_len]
  by_cases hik : k = i
  · subst hik
    rw [if_pos rfl, if_pos hlt, fl_at h, if_pos (.head _)]
  · rw [if_neg hik, fl, fl, List.getElem?_mapIdx, List.getElem?_mapIdx]
    cases x[i]? with
    | none => rfl
    | some y =>
      simp only [Option.map_some, List.mem_cons]
      by_cases hm : i ∈ ps
      · rw [if_pos hm, if_pos (.inr hm)]
      · rw [if_neg hm, if_neg (fun h => h.elim (fun e => hik e.symm) hm)]
theorem fl_ok {x : List UInt8} {ps : List Nat} (h : ∀ b ∈ x, isB b = true) : ∀ b ∈ fl x ps, isB b = true := by
  intro b hb
  obtain ⟨i, hi, rfl⟩ := List.getElem_of_mem hb
  rw [fl_len] at hi
  have := fl_at (ps := ps) (List.getElem?_eq_getElem hi)
  rw [List.getElem?_eq_getElem (by rw [fl_len]; exact hi)] at this
  injection this with this
  rw [this]
  split
  · exact oth_b
  · exact h _ (List.getElem_mem hi)
theorem syn_fl {x : List UInt8} (hl : 15 ≤ x.length) : ∀ (ps : List Nat), ps.Nodup → (∀ p ∈ ps, p < x.length) → syn (fl x ps) = syn x ^^^ xs (ps.map fun p => x.length - 1 - p)
  | [], _, _ => by rw [fl_nil]; simp [xs]
  | p :: ps, hn, hp => by
    have hx := List.getElem?_eq_getElem (hp p (.head _))
    generalize x[p]'(hp p (.head _)) = c at hx
    have hnp := (List.nodup_cons.1 hn).1
    have hfl := fl_at (ps := ps) hx
    rw [if_neg hnp] at hfl
    rw [← fl_cons hx, syn_flip hfl (by rw [fl_len]; exact hl), fl_len, syn_fl hl ps (List.nodup_cons.1 hn).2 fun q hq => hp q (.tail _ hq), Nat.xor_assoc, List.map_cons]
    congr 1
    show _ = pw (x.length - 1 - p) ^^^ xs _
    rw [Nat.xor_comm]
theorem syn_word (s : List UInt8) : syn (s ++ numB 15 (crc s)) = 0 := by
  unfold syn
  have e : (s ++ numB 15 (crc s)).length - 15 = s.length := by rw [List.length_append, numB_len]; omega
  rw [e, List.take_left, List.drop_left, val_numB 15 _ (crc_lt s), Nat.xor_self]
theorem nodup_map {f : Nat → Nat} : ∀ {l : List Nat}, l.Nodup → (∀ a ∈ l, ∀ b ∈ l, f a = f b → a = b) → (l.map f).Nodup
  | [], _, _ => List.nodup_nil
  | a :: l, hn, h => by
    obtain ⟨h1, h2⟩ := List.nodup_cons.1 hn
    refine List.nodup_cons.2 ⟨fun hm => ?_, nodup_map h2 fun x hx y hy => h x (.tail _ hx) y (.tail _ hy)⟩
    obtain ⟨b, hb, e⟩ := List.mem_map.1 hm
    have := h b (.tail _ hb) a (.head _) e
    exact h1 (this ▸ hb)
theorem five_told {x : List UInt8} {ps : List Nat} (hl : 15 ≤ x.length) (hl2 : x.length ≤ 127) (h0 : syn x = 0) (hn : ps.Nodup) (hp : ∀ p ∈ ps, p < x.length) (h5 : ps.length ≤ 5) : decide (syn (fl x ps) ≠ 0) = decide (0 < ps.length) := by
  rw [syn_fl hl ps hn hp, h0, Nat.zero_xor]
  cases ps with
  | nil => rfl
  | cons p ps =>
    have h1 : ∀ i ∈ (p :: ps).map (fun p => x.length - 1 - p), i < 127 := fun i hi => by
      obtain ⟨q, hq, rfl⟩ := List.mem_map.1 hi
      have := hp q hq
      omega
    have h2 : ((p :: ps).map fun p => x.length - 1 - p).Nodup := nodup_map hn fun a ha b hb e => by
      have := hp a ha
      have := hp b hb
      omega
    rw [decide_eq_true (xs_five h1 h2 (by simp) (by simpa using h5))]
    simp
theorem burst_told {x : List UInt8} {ps : List Nat} {f : Nat} (hl : 15 ≤ x.length) (h0 : syn x = 0) (hn : ps.Nodup) (hp : ∀ p ∈ ps, p < x.length ∧ f ≤ p ∧ p < f + 15) : decide (syn (fl x ps) ≠ 0) = !ps.isEmpty := by
  rw [syn_fl hl ps hn fun p h => (hp p h).1, h0, Nat.zero_xor]
  cases ps with
  | nil => rfl
  | cons p ps =>
    have e : (p :: ps).map (fun p => x.length - 1 - p) = ((p :: ps).map fun p => x.length - 1 - p - (x.length - 15 - f)).map (· + (x.length - 15 - f)) := by
      rw [List.map_map]
      refine List.map_congr_left fun q hq => ?_
      have := hp q hq
      show _ = x.length - 1 - q - (x.length - 15 - f) + (x.length - 15 - f)
      omega
    have h1 : ∀ i ∈ (p :: ps).map (fun p => x.length - 1 - p - (x.length - 15 - f)), i < 15 := fun i hi => by
      obtain ⟨q, hq, rfl⟩ := List.mem_map.1 hi
      have := hp q hq
      omega
    have h2 : ((p :: ps).map fun p => x.length - 1 - p - (x.length - 15 - f)).Nodup := nodup_map hn fun a ha b hb e => by
      have := hp a ha
      have := hp b hb
      omega
    rw [e, decide_eq_true (xs_burst _ h1 h2 (by simp))]
    rfl
theorem txt_put {l : List UInt8} {z : List Value} {cap k : Nat} {b : UInt8} (hk : k < l.length) (hc : (cel l ++ z).length = cap) : PutOk (.row 5 (cel l ++ z) (cap, cap + 1)) (0 + k * 1) [.int .u8 (b.toNat : Int)] (.row 5 (cel (l.set k b) ++ z) (cap, cap + 1)) := by
  have hcl := cel_len l
  rw [List.length_append, hcl] at hc
  refine ⟨?_, .inr ?_, ?_⟩
  · rw [List.length_append, hcl, List.length_singleton]; omega
  · show 0 + k * 1 + 1 ≤ cap; omega
  · congr 1
    rw [Nat.zero_add, Nat.mul_one, List.length_singleton, List.take_append_of_le_length (by omega), List.drop_append_of_le_length (by omega), ← List.append_assoc]
    congr 1
    unfold cel
    rw [List.map_set, List.set_eq_take_append_cons_drop, if_pos (by simpa using hk)]
    simp
section
variable {K : Value → Heap → Prop} {H : Heap}
end
end Go.Proofs.YtledahfkpnbfcaaDoor

/- Layer 2: the bits of a frame are read: whole, not acknowledged, cut off. -/
set_option linter.unusedVariables false
set_option linter.unusedSimpArgs false
set_option maxRecDepth 100000
set_option maxHeartbeats 4000000
namespace Go.Proofs.YtledahfkpnbfcaaDoor
open Sx
theorem encB_ok (f : Fm) (ack : Bool) : ∀ b ∈ encB f ack, isB b = true := by
  intro b hb
  unfold encB at hb
  rcases List.mem_append.1 hb with h | h
  · rcases List.mem_append.1 h with h | h
    · exact (stf_run (bodyB f) (bodyB_ok f)).2 b h
    · rcases List.mem_cons.1 h with rfl | h
      · rfl
      · rw [List.mem_singleton.1 h]; exact fb_ok _
  · rw [(List.mem_replicate.1 h).2]; rfl
theorem encB_lim (f : Fm) (ack : Bool) : (encB f ack).length ≤ 65536 := by
  have := encN_lt f
  rw [encB_len]; omega
section
variable {K : Value → Heap → Prop} {H : Heap} {f : Fm}
/-- A frame's bits, and any behind them. -/
theorem c10a {u : List UInt8} (hok : okF f = true) (hu : ∀ b ∈ u, isB b = true) (hl : (encB f true ++ u).length ≤ 65536) (hK : K (.tuple ⟨[frV (plF f), .int .i64 (encN f : Int), .int .i64 0]⟩) H) :
    SCalls Tryd.prog 10 [.string (strOf (encB f true ++ u))] H K := by
  have hv : chk (encB f true ++ u) = 0 := chk_ok hl (fun b hb => by
    rcases List.mem_append.1 hb with h | h
    · exact encB_ok _ _ _ h
    · exact hu b h)
  refine c10 hv (fun _ => False) (fun g p => g = plF f ∧ p = encN f) (fun r => ?_) (fun g p h => by obtain ⟨rfl, rfl⟩ := h; exact hK) (fun ch h => h.elim)
  refine @c37 ⟨fun _ => False⟩ _ r _ u f true _ hok ⟨fun i a b h1 h2 => by rw [h1] at h2; injection h2, fun h => absurd h (Nat.lt_irrefl _), hl⟩ (.mk .zero (Nat.zero_le _) (Bld.new (T := 73) (r := r) (pre := rdC _ 0 0 0))) (fun h => nomatch h) (fun _ N' hN => ?_)
  cases hN with
  | @mk a lv n N ha ha2 hBd =>
    cases hBd with
    | @mk pp sv M hpp hbuf =>
      have hae : a = encN f := by rw [ha]; rfl
      exact ⟨plF f, a, _, M, rfl, ⟨rfl, hae⟩, rfl⟩
/-- Not acknowledged. -/
theorem c10b (hok : okF f = true) (hK : ∀ p : Int, K (.tuple ⟨[frV z0, .int .i64 p, .int .i64 23]⟩) H) : SCalls Tryd.prog 10 [.string (strOf (encB f false))] H K := by
  have hv : chk (encB f false) = 0 := chk_ok (encB_lim f _) (encB_ok f _)
  refine c10 hv (fun ch => ch = wrg ((stf (bodyB f)).out.length + 1 : Nat) 23) (fun g p => False) (fun r => ?_) (fun g p h => h.elim) (fun ch h => ⟨_, _, h, hK _⟩)
  have hs : @Src ⟨fun ch => ch = wrg ((stf (bodyB f)).out.length + 1 : Nat) 23⟩ (encB f false) (encB f false ++ []) := by
    rw [List.append_nil]
    exact @Src.mk ⟨_⟩ _ _ (fun i a b h1 h2 => by rw [h1] at h2; injection h2) (fun h => absurd h (Nat.lt_irrefl _)) (encB_lim f _)
  refine @c37 ⟨fun ch => ch = wrg ((stf (bodyB f)).out.length + 1 : Nat) 23⟩ _ r _ [] f false _ hok hs (.mk .zero (Nat.zero_le _) (Bld.new (T := 73) (r := r) (pre := rdC _ 0 0 0))) (fun _ _ => rfl) (fun h => nomatch h)
/-- Cut off. -/
theorem c10c {k : Nat} (hok : okF f = true) (hk : k < encN f) (hK : K (.tuple ⟨[frV z0, .int .i64 (k : Int), .int .i64 3]⟩) H) : SCalls Tryd.prog 10 [.string (strOf ((encB f true).take k))] H K := by
  have hl := encB_lim f true
  have hel := encB_len f true
  have hkl : ((encB f true).take k).length = k := by rw [List.length_take]; omega
  have hv : chk ((encB f true).take k) = 0 := chk_ok (by omega) (fun b hb => encB_ok f _ b (List.mem_of_mem_take hb))
  refine c10 hv (fun ch => ch = wrg k 3) (fun g p => False) (fun r => ?_) (fun g p h => h.elim) (fun ch h => ⟨_, _, h, hK⟩)
  have hs : @Src ⟨fun ch => ch = wrg k 3⟩ ((encB f true).take k) (encB f true ++ []) := by
    rw [List.append_nil]
    refine @Src.mk ⟨_⟩ _ _ (fun i a b h1 h2 => ?_) (fun _ => by show wrg _ 3 = wrg _ 3; rw [hkl]) (by omega)
    rw [List.getElem?_take] at h1
    split at h1
    · rw [h1] at h2; injection h2
    · cases h1
  refine @c37 ⟨fun ch => ch = wrg k 3⟩ _ r _ [] f true _ hok hs (.mk .zero (Nat.zero_le _) (Bld.new (T := 73) (r := r) (pre := rdC _ 0 0 0))) (fun h => nomatch h) (fun _ N' hN => ?_)
  cases hN with
  | @mk a lv n N ha ha2 hBd =>
    have hae : a = encN f := by rw [ha]; rfl
    omega
end
end Go.Proofs.YtledahfkpnbfcaaDoor

/- Layer 2: whether two frames are one; how long one is at most; whether anything is written and read: by walks. -/
set_option linter.unusedVariables false
set_option linter.unusedSimpArgs false
set_option maxRecDepth 100000
set_option maxHeartbeats 4000000
namespace Go.Proofs.YtledahfkpnbfcaaDoor
open Sx
/-- Whether two frames are one, cell by cell. -/
def eqV (f g : Fm) : Bool := decide ((f.id : Int) = g.id) && (f.x == g.x && (f.r == g.r && (decide (f.n = g.n) && (decide ((f.d0.toNat : Int) = g.d0.toNat) && (decide ((f.d1.toNat : Int) = g.d1.toNat) && (decide ((f.d2.toNat : Int) = g.d2.toNat) &&
  (decide ((f.d3.toNat : Int) = g.d3.toNat) && (decide ((f.d4.toNat : Int) = g.d4.toNat) && (decide ((f.d5.toNat : Int) = g.d5.toNat) && (decide ((f.d6.toNat : Int) = g.d6.toNat) && decide ((f.d7.toNat : Int) = g.d7.toNat)))))))))))
theorem eqV_refl (f : Fm) : eqV f f = true := by simp [eqV]
theorem beqB (b : Bool) : (b == b) = true := by cases b <;> rfl
/-- How many bits a frame has at most. -/
def lonM (n : Nat) (x : Bool) : Nat := if x then 54 + 8 * n else 34 + 8 * n
def lonV (n : Int) (x : Bool) : Int × Int := if n < 0 ∨ 8 < n then (0, 1) else ((lonM n.toNat x + (lonM n.toNat x - 1) / 4 + 10 : Nat), 0)
theorem stf_put (l : List UInt8) : l ≠ [] → 1 ≤ (stf l).n ∧ 4 * (stf l).out.length + (stf l).n ≤ 5 * l.length := by
  induction l using snoc_ind with
  | h0 => exact fun h => absurd rfl h
  | h1 l b ih =>
    intro _
    rw [stf_snoc]
    by_cases h0 : l = []
    · subst h0
      unfold St.step tk
      show 1 ≤ (if (if b.toNat = (stf []).lv then (stf []).n + 1 else 1) = 5 then _ else _ : St).n ∧ _
      have : (stf []).n = 0 := rfl
      rw [this]
      have h1 : (if b.toNat = (stf []).lv then 0 + 1 else 1) = 1 := by split <;> rfl
      rw [h1, if_neg (by decide)]
      exact ⟨Nat.le_refl _, Nat.le_refl _⟩
    · obtain ⟨h1, h2⟩ := ih h0
      have h3 : tk (stf l).lv (stf l).n b.toNat ≤ (stf l).n + 1 := by unfold tk; split <;> omega
      have h4 : 1 ≤ tk (stf l).lv (stf l).n b.toNat := by unfold tk; split <;> omega
      unfold St.step
      split
      · rename_i h5
        refine ⟨Nat.le_refl _, ?_⟩
        simp only [List.length_append, List.length_singleton]
        omega
      · refine ⟨h4, ?_⟩
        simp only [List.length_append, List.length_singleton]
        omega
theorem body_len (f : Fm) : (bodyB f).length = lonM (nb f) f.x := by
  have h2 := datB_len f (nb_le f)
  have h3 := fld_lenX f
  unfold bodyB sumB hdB lonM
  simp only [List.length_append, numB_len, List.length_cons, List.length_nil, h2, h3]
  split <;> simp <;> omega
theorem encN_most (f : Fm) : (encN f : Int) ≤ (lonV (nb f : Int) f.x).1 + 10 ∧ (lonV (nb f : Int) f.x).2 = 0 := by
  have h1 := nb_le f
  have h2 := body_len f
  have hne : bodyB f ≠ [] := fun e => by
    rw [e] at h2
    unfold lonM at h2
    simp at h2
    split at h2 <;> omega
  obtain ⟨h3, h4⟩ := stf_put (bodyB f) hne
  unfold lonV encN
  rw [if_neg (by omega), Int.toNat_natCast]
  refine ⟨?_, rfl⟩
  dsimp only
  rw [h2] at h4
  omega
section
variable {K : Value → Heap → Prop} {H : Heap} {f g : Fm}
theorem c19 (hK : K (.bool (eqV (plF f) (plF g))) H) : SCalls Tryd.prog 19 [frV f, frV g] H K := by
  have h47 : ∀ (f : Fm) H (K2 : Value → Heap → Prop), K2 (frV (plF f)) H → SCalls Tryd.prog 47 [frV f] H K2 := fun f H K2 hk => c47 hk
  have hk : ∀ (x y : Nat × Blk), Keep (x :: y :: H) fun H' => K (.bool (eqV (plF f) (plF g))) H' := fun x y => Keep.d2 hK
  refine enter19 ?_
  repeat' ((conv => whnf); (first | refine h47 _ _ _ ?_ | exact hk _ _ | refine New.mk (fun _ => ?_) | refine Look.at0 ?_ | refine Cell.row ?_ | refine Cell.buf ?_ | refine Cells.row rfl ?_ | refine Put.row rfl ?_ | refine Put.buf rfl ?_ | refine Look.at1 ?_ | refine Look.at2 ?_ | refine Look.at3 ?_ | refine Look.at4 ?_ | refine Look.at5 ?_ | refine Look.at6 ?_ | refine Look.at7 ?_ | refine Look.at8 ?_ | with_reducible refine Val.i64 (by omega) (by omega) ?_ | with_reducible refine Val.u8 (by omega) (by omega) ?_ | with_reducible refine Val.u32 (by omega) (by omega) ?_ | with_reducible refine Val.u64 (by omega) (by omega) ?_ | with_reducible refine Val.u8m ?_ | with_reducible refine Val.u32m ?_ | with_reducible refine Val.u64m ?_ | with_reducible refine Val.shr8 ?_ | with_reducible refine Val.shr16 (by decide) ?_ | with_reducible refine Val.shr24 (by decide) ?_ | with_reducible refine Val.raw ?_ | refine Branch.not ?_ | refine Branch.and ?_ | refine Branch.or ?_ | refine Branch.dt (by assumption) ?_ | refine Branch.df (by assumption) ?_ | refine Branch.dt rfl ?_ | refine Branch.dt (by omega) ?_ | refine Branch.df (by omega) ?_ | refine Branch.t rfl ?_ | refine Branch.f rfl ?_ | refine Branch.t (by assumption) ?_ | refine Branch.f (by assumption) ?_ | refine Branch.d (fun _ => ?_) (fun _ => ?_) | refine Branch.mk (fun _ => ?_) (fun _ => ?_) | refine Need.mk (by first | omega | decide | rfl) ?_ | refine Idx.nat (by omega) ?_ | refine Idx.auto (by first | omega | decide) (by first | omega | decide) ?_ | refine Cell.ro rfl ?_ | refine SDraw.all (by kernel_rfl) ?_ | refine Kept.k0 ?_ | refine Kept.k1 ?_ | refine Kept.k2 ?_ | refine Kept.k3 ?_ | refine Kept.k4 ?_))
theorem c20 {n : Int} {x : Bool} (h1 : -9223372036854775808 ≤ n) (h2 : n ≤ 9223372036854775807) (hK : K (.tuple ⟨[.int .i64 (lonV n x).1, .int .i64 (lonV n x).2]⟩) H) : SCalls Tryd.prog 20 [.int .i64 n, .bool x] H K := by
  refine enter20 ?_
  unfold lonV at hK
  by_cases h : n < 0 ∨ 8 < n
  · rw [if_pos h] at hK
    rcases h with h | h
    · repeat' ((conv => whnf); (first | refine Branch.dt h ?_ | exact Keep.all hK | refine New.mk (fun _ => ?_) | refine Look.at0 ?_ | refine Cell.row ?_ | refine Cell.buf ?_ | refine Cells.row rfl ?_ | refine Put.row rfl ?_ | refine Put.buf rfl ?_ | refine Look.at1 ?_ | refine Look.at2 ?_ | refine Look.at3 ?_ | refine Look.at4 ?_ | refine Look.at5 ?_ | refine Look.at6 ?_ | refine Look.at7 ?_ | refine Look.at8 ?_ | with_reducible refine Val.i64 (by omega) (by omega) ?_ | with_reducible refine Val.u8 (by omega) (by omega) ?_ | with_reducible refine Val.u32 (by omega) (by omega) ?_ | with_reducible refine Val.u64 (by omega) (by omega) ?_ | with_reducible refine Val.u8m ?_ | with_reducible refine Val.u32m ?_ | with_reducible refine Val.u64m ?_ | with_reducible refine Val.shr8 ?_ | with_reducible refine Val.shr16 (by decide) ?_ | with_reducible refine Val.shr24 (by decide) ?_ | with_reducible refine Val.raw ?_ | refine Branch.not ?_ | refine Branch.and ?_ | refine Branch.or ?_ | refine Branch.dt (by assumption) ?_ | refine Branch.df (by assumption) ?_ | refine Branch.dt rfl ?_ | refine Branch.dt (by omega) ?_ | refine Branch.df (by omega) ?_ | refine Branch.t rfl ?_ | refine Branch.f rfl ?_ | refine Branch.t (by assumption) ?_ | refine Branch.f (by assumption) ?_ | refine Branch.d (fun _ => ?_) (fun _ => ?_) | refine Branch.mk (fun _ => ?_) (fun _ => ?_) | refine Need.mk (by first | omega | decide | rfl) ?_ | refine Idx.nat (by omega) ?_ | refine Idx.auto (by first | omega | decide) (by first | omega | decide) ?_ | refine Cell.ro rfl ?_ | refine SDraw.all (by kernel_rfl) ?_ | refine Kept.k0 ?_ | refine Kept.k1 ?_ | refine Kept.k2 ?_ | refine Kept.k3 ?_ | refine Kept.k4 ?_))
    · repeat' ((conv => whnf); (first | refine Branch.df (by omega) ?_ | refine Branch.dt h ?_ | exact Keep.all hK | refine New.mk (fun _ => ?_) | refine Look.at0 ?_ | refine Cell.row ?_ | refine Cell.buf ?_ | refine Cells.row rfl ?_ | refine Put.row rfl ?_ | refine Put.buf rfl ?_ | refine Look.at1 ?_ | refine Look.at2 ?_ | refine Look.at3 ?_ | refine Look.at4 ?_ | refine Look.at5 ?_ | refine Look.at6 ?_ | refine Look.at7 ?_ | refine Look.at8 ?_ | with_reducible refine Val.i64 (by omega) (by omega) ?_ | with_reducible refine Val.u8 (by omega) (by omega) ?_ | with_reducible refine Val.u32 (by omega) (by omega) ?_ | with_reducible refine Val.u64 (by omega) (by omega) ?_ | with_reducible refine Val.u8m ?_ | with_reducible refine Val.u32m ?_ | with_reducible refine Val.u64m ?_ | with_reducible refine Val.shr8 ?_ | with_reducible refine Val.shr16 (by decide) ?_ | with_reducible refine Val.shr24 (by decide) ?_ | with_reducible refine Val.raw ?_ | refine Branch.not ?_ | refine Branch.and ?_ | refine Branch.or ?_ | refine Branch.dt (by assumption) ?_ | refine Branch.df (by assumption) ?_ | refine Branch.dt rfl ?_ | refine Branch.dt (by omega) ?_ | refine Branch.df (by omega) ?_ | refine Branch.t rfl ?_ | refine Branch.f rfl ?_ | refine Branch.t (by assumption) ?_ | refine Branch.f (by assumption) ?_ | refine Branch.d (fun _ => ?_) (fun _ => ?_) | refine Branch.mk (fun _ => ?_) (fun _ => ?_) | refine Need.mk (by first | omega | decide | rfl) ?_ | refine Idx.nat (by omega) ?_ | refine Idx.auto (by first | omega | decide) (by first | omega | decide) ?_ | refine Cell.ro rfl ?_ | refine SDraw.all (by kernel_rfl) ?_ | refine Kept.k0 ?_ | refine Kept.k1 ?_ | refine Kept.k2 ?_ | refine Kept.k3 ?_ | refine Kept.k4 ?_))
  · rw [if_neg h] at hK
    obtain ⟨m, rfl⟩ : ∃ m : Nat, n = (m : Int) := ⟨n.toNat, by omega⟩
    have hm : m ≤ 8 := by omega
    clear h h1 h2
    rcases (show m = 0 ∨ m = 1 ∨ m = 2 ∨ m = 3 ∨ m = 4 ∨ m = 5 ∨ m = 6 ∨ m = 7 ∨ m = 8 by omega) with rfl | rfl | rfl | rfl | rfl | rfl | rfl | rfl | rfl <;> cases x
    all_goals
      repeat' ((conv => whnf); (first | refine Branch.df (by decide) ?_ | refine Need.mk (by decide) ?_ | refine Val.to _ rfl ?_ | exact Keep.all hK | refine New.mk (fun _ => ?_) | refine Look.at0 ?_ | refine Cell.row ?_ | refine Cell.buf ?_ | refine Cells.row rfl ?_ | refine Put.row rfl ?_ | refine Put.buf rfl ?_ | refine Look.at1 ?_ | refine Look.at2 ?_ | refine Look.at3 ?_ | refine Look.at4 ?_ | refine Look.at5 ?_ | refine Look.at6 ?_ | refine Look.at7 ?_ | refine Look.at8 ?_ | with_reducible refine Val.i64 (by omega) (by omega) ?_ | with_reducible refine Val.u8 (by omega) (by omega) ?_ | with_reducible refine Val.u32 (by omega) (by omega) ?_ | with_reducible refine Val.u64 (by omega) (by omega) ?_ | with_reducible refine Val.u8m ?_ | with_reducible refine Val.u32m ?_ | with_reducible refine Val.u64m ?_ | with_reducible refine Val.shr8 ?_ | with_reducible refine Val.shr16 (by decide) ?_ | with_reducible refine Val.shr24 (by decide) ?_ | with_reducible refine Val.raw ?_ | refine Branch.not ?_ | refine Branch.and ?_ | refine Branch.or ?_ | refine Branch.dt (by assumption) ?_ | refine Branch.df (by assumption) ?_ | refine Branch.dt rfl ?_ | refine Branch.dt (by omega) ?_ | refine Branch.df (by omega) ?_ | refine Branch.t rfl ?_ | refine Branch.f rfl ?_ | refine Branch.t (by assumption) ?_ | refine Branch.f (by assumption) ?_ | refine Branch.d (fun _ => ?_) (fun _ => ?_) | refine Branch.mk (fun _ => ?_) (fun _ => ?_) | refine Need.mk (by first | omega | decide | rfl) ?_ | refine Idx.nat (by omega) ?_ | refine Idx.auto (by first | omega | decide) (by first | omega | decide) ?_ | refine Cell.ro rfl ?_ | refine SDraw.all (by kernel_rfl) ?_ | refine Kept.k0 ?_ | refine Kept.k1 ?_ | refine Kept.k2 ?_ | refine Kept.k3 ?_ | refine Kept.k4 ?_))
theorem c24 {n : Int} {x : Bool} (h1 : -9223372036854775808 ≤ n) (h2 : n ≤ 9223372036854775807) (hK : K (.tuple ⟨[.int .i64 (lonV n x).1, .int .i64 (lonV n x).2]⟩) H) : SCalls Tryd.prog 24 [.int .i64 n, .bool x] H K := by
  refine enter24 ?_
  unfold lonV at hK
  by_cases h : n < 0 ∨ 8 < n
  · rw [if_pos h] at hK
    rcases h with h | h
    · repeat' ((conv => whnf); (first | refine Branch.dt h ?_ | exact Keep.all hK | refine New.mk (fun _ => ?_) | refine Look.at0 ?_ | refine Cell.row ?_ | refine Cell.buf ?_ | refine Cells.row rfl ?_ | refine Put.row rfl ?_ | refine Put.buf rfl ?_ | refine Look.at1 ?_ | refine Look.at2 ?_ | refine Look.at3 ?_ | refine Look.at4 ?_ | refine Look.at5 ?_ | refine Look.at6 ?_ | refine Look.at7 ?_ | refine Look.at8 ?_ | with_reducible refine Val.i64 (by omega) (by omega) ?_ | with_reducible refine Val.u8 (by omega) (by omega) ?_ | with_reducible refine Val.u32 (by omega) (by omega) ?_ | with_reducible refine Val.u64 (by omega) (by omega) ?_ | with_reducible refine Val.u8m ?_ | with_reducible refine Val.u32m ?_ | with_reducible refine Val.u64m ?_ | with_reducible refine Val.shr8 ?_ | with_reducible refine Val.shr16 (by decide) ?_ | with_reducible refine Val.shr24 (by decide) ?_ | with_reducible refine Val.raw ?_ | refine Branch.not ?_ | refine Branch.and ?_ | refine Branch.or ?_ | refine Branch.dt (by assumption) ?_ | refine Branch.df (by assumption) ?_ | refine Branch.dt rfl ?_ | refine Branch.dt (by omega) ?_ | refine Branch.df (by omega) ?_ | refine Branch.t rfl ?_ | refine Branch.f rfl ?_ | refine Branch.t (by assumption) ?_ | refine Branch.f (by assumption) ?_ | refine Branch.d (fun _ => ?_) (fun _ => ?_) | refine Branch.mk (fun _ => ?_) (fun _ => ?_) | refine Need.mk (by first | omega | decide | rfl) ?_ | refine Idx.nat (by omega) ?_ | refine Idx.auto (by first | omega | decide) (by first | omega | decide) ?_ | refine Cell.ro rfl ?_ | refine SDraw.all (by kernel_rfl) ?_ | refine Kept.k0 ?_ | refine Kept.k1 ?_ | refine Kept.k2 ?_ | refine Kept.k3 ?_ | refine Kept.k4 ?_))
    · repeat' ((conv => whnf); (first | refine Branch.df (by omega) ?_ | refine Branch.dt h ?_ | exact Keep.all hK | refine New.mk (fun _ => ?_) | refine Look.at0 ?_ | refine Cell.row ?_ | refine Cell.buf ?_ | refine Cells.row rfl ?_ | refine Put.row rfl ?_ | refine Put.buf rfl ?_ | refine Look.at1 ?_ | refine Look.at2 ?_ | refine Look.at3 ?_ | refine Look.at4 ?_ | refine Look.at5 ?_ | refine Look.at6 ?_ | refine Look.at7 ?_ | refine Look.at8 ?_ | with_reducible refine Val.i64 (by omega) (by omega) ?_ | with_reducible refine Val.u8 (by omega) (by omega) ?_ | with_reducible refine Val.u32 (by omega) (by omega) ?_ | with_reducible refine Val.u64 (by omega) (by omega) ?_ | with_reducible refine Val.u8m ?_ | with_reducible refine Val.u32m ?_ | with_reducible refine Val.u64m ?_ | with_reducible refine Val.shr8 ?_ | with_reducible refine Val.shr16 (by decide) ?_ | with_reducible refine Val.shr24 (by decide) ?_ | with_reducible refine Val.raw ?_ | refine Branch.not ?_ | refine Branch.and ?_ | refine Branch.or ?_ | refine Branch.dt (by assumption) ?_ | refine Branch.df (by assumption) ?_ | refine Branch.dt rfl ?_ | refine Branch.dt (by omega) ?_ | refine Branch.df (by omega) ?_ | refine Branch.t rfl ?_ | refine Branch.f rfl ?_ | refine Branch.t (by assumption) ?_ | refine Branch.f (by assumption) ?_ | refine Branch.d (fun _ => ?_) (fun _ => ?_) | refine Branch.mk (fun _ => ?_) (fun _ => ?_) | refine Need.mk (by first | omega | decide | rfl) ?_ | refine Idx.nat (by omega) ?_ | refine Idx.auto (by first | omega | decide) (by first | omega | decide) ?_ | refine Cell.ro rfl ?_ | refine SDraw.all (by kernel_rfl) ?_ | refine Kept.k0 ?_ | refine Kept.k1 ?_ | refine Kept.k2 ?_ | refine Kept.k3 ?_ | refine Kept.k4 ?_))
  · rw [if_neg h] at hK
    obtain ⟨m, rfl⟩ : ∃ m : Nat, n = (m : Int) := ⟨n.toNat, by omega⟩
    have hm : m ≤ 8 := by omega
    clear h h1 h2
    rcases (show m = 0 ∨ m = 1 ∨ m = 2 ∨ m = 3 ∨ m = 4 ∨ m = 5 ∨ m = 6 ∨ m = 7 ∨ m = 8 by omega) with rfl | rfl | rfl | rfl | rfl | rfl | rfl | rfl | rfl <;> cases x
    all_goals
      repeat' ((conv => whnf); (first | refine Branch.df (by decide) ?_ | refine Need.mk (by decide) ?_ | refine Val.to _ rfl ?_ | exact Keep.all hK | refine New.mk (fun _ => ?_) | refine Look.at0 ?_ | refine Cell.row ?_ | refine Cell.buf ?_ | refine Cells.row rfl ?_ | refine Put.row rfl ?_ | refine Put.buf rfl ?_ | refine Look.at1 ?_ | refine Look.at2 ?_ | refine Look.at3 ?_ | refine Look.at4 ?_ | refine Look.at5 ?_ | refine Look.at6 ?_ | refine Look.at7 ?_ | refine Look.at8 ?_ | with_reducible refine Val.i64 (by omega) (by omega) ?_ | with_reducible refine Val.u8 (by omega) (by omega) ?_ | with_reducible refine Val.u32 (by omega) (by omega) ?_ | with_reducible refine Val.u64 (by omega) (by omega) ?_ | with_reducible refine Val.u8m ?_ | with_reducible refine Val.u32m ?_ | with_reducible refine Val.u64m ?_ | with_reducible refine Val.shr8 ?_ | with_reducible refine Val.shr16 (by decide) ?_ | with_reducible refine Val.shr24 (by decide) ?_ | with_reducible refine Val.raw ?_ | refine Branch.not ?_ | refine Branch.and ?_ | refine Branch.or ?_ | refine Branch.dt (by assumption) ?_ | refine Branch.df (by assumption) ?_ | refine Branch.dt rfl ?_ | refine Branch.dt (by omega) ?_ | refine Branch.df (by omega) ?_ | refine Branch.t rfl ?_ | refine Branch.f rfl ?_ | refine Branch.t (by assumption) ?_ | refine Branch.f (by assumption) ?_ | refine Branch.d (fun _ => ?_) (fun _ => ?_) | refine Branch.mk (fun _ => ?_) (fun _ => ?_) | refine Need.mk (by first | omega | decide | rfl) ?_ | refine Idx.nat (by omega) ?_ | refine Idx.auto (by first | omega | decide) (by first | omega | decide) ?_ | refine Cell.ro rfl ?_ | refine SDraw.all (by kernel_rfl) ?_ | refine Kept.k0 ?_ | refine Kept.k1 ?_ | refine Kept.k2 ?_ | refine Kept.k3 ?_ | refine Kept.k4 ?_))
theorem c10t (hok : okF f = true) (hK : K (.tuple ⟨[frV (plF f), .int .i64 (encN f : Int), .int .i64 0]⟩) H) : SCalls Tryd.prog 10 [.string (strOf (encB f true))] H K := by
  have := c10a (f := f) (u := []) (K := K) (H := H) hok (fun b hb => by cases hb) (by rw [List.append_nil]; exact encB_lim f _) hK
  rwa [List.append_nil] at this
def f0 : Fm := ⟨291, false, false, 2, 1, 2, 0, 0, 0, 0, 0, 0⟩
theorem c9 (hD : Db H) (hK : K (.bool true) H) : SCalls Tryd.prog 9 [] H K := by
  have hD' : ∀ q : Nat × Blk, Db (q :: H) := fun q => hD.mono fun p hp => .tail _ hp
  have hl : ((strOf (encB f0 true)).size : Int) = (encN f0 : Int) := by rw [strOf_size, encB_len]
  have hn : (50 : Int) < (encN f0 : Int) := by
    have : (50 : Nat) < encN f0 := by decide
    omega
  have h8 : ∀ q (K2 : Value → Heap → Prop), K2 (.tuple ⟨[.string (strOf (encB f0 true)), .int .i64 0]⟩) (q :: H) → SCalls Tryd.prog 8 [.agg ⟨[.int .u32 291, .bool false, .bool false, .int .i64 2, .int .u8 1, .int .u8 2, .int .u8 0, .int .u8 0, .int .u8 0, .int .u8 0, .int .u8 0, .int .u8 0]⟩, .bool true] (q :: H) K2 :=
    fun q K2 hk => c8 (f := f0) rfl (hD' q) hk
  have h10 : ∀ H (K2 : Value → Heap → Prop), K2 (.tuple ⟨[.agg ⟨[.int .u32 291, .bool false, .bool false, .int .i64 2, .int .u8 1, .int .u8 2, .int .u8 0, .int .u8 0, .int .u8 0, .int .u8 0, .int .u8 0, .int .u8 0]⟩, .int .i64 (encN f0 : Int), .int .i64 0]⟩) H → SCalls Tryd.prog 10 [.string (strOf (encB f0 true))] H K2 :=
    fun H K2 hk => c10t (f := f0) rfl hk
  have h16 : ∀ H (K2 : Value → Heap → Prop), K2 (.int .i64 0) H → SCalls Tryd.prog 16 [.agg ⟨[.int .u32 291, .bool false, .bool false, .int .i64 2, .int .u8 1, .int .u8 2, .int .u8 0, .int .u8 0, .int .u8 0, .int .u8 0, .int .u8 0, .int .u8 0]⟩] H K2 :=
    fun H K2 hk => c16 (f := f0) (by decide) hk
  have h19 : ∀ H (K2 : Value → Heap → Prop), K2 (.bool true) H → SCalls Tryd.prog 19 [.agg ⟨[.int .u32 291, .bool false, .bool false, .int .i64 2, .int .u8 1, .int .u8 2, .int .u8 0, .int .u8 0, .int .u8 0, .int .u8 0, .int .u8 0, .int .u8 0]⟩, .agg ⟨[.int .u32 291, .bool false, .bool false, .int .i64 2, .int .u8 1, .int .u8 2, .int .u8 0, .int .u8 0, .int .u8 0, .int .u8 0, .int .u8 0, .int .u8 0]⟩] H K2 :=
    fun H K2 hk => c19 (f := f0) (g := f0) (by rw [eqV_refl]; exact hk)
  have hfin : ∀ x y : Nat × Blk, Keep (x :: y :: H) fun H' => K (.bool true) H' := fun x y => Keep.d2 hK
  generalize encB f0 true = s at *
  generalize encN f0 = n at *
  refine enter9 (_u := undef) ?_
  repeat' ((conv => whnf); (first | with_reducible refine h8 _ _ ?_ | with_reducible refine h10 _ _ ?_ | refine Branch.dt rfl ?_ | (rw [hl]) | refine Branch.dt hn ?_ | refine Branch.t (eqV_refl f0) ?_ | with_reducible refine h16 _ _ ?_ | with_reducible refine h19 _ _ ?_ | exact hfin _ _ | refine New.mk (fun _ => ?_) | refine Look.at0 ?_ | refine Cell.row ?_ | refine Cell.buf ?_ | refine Cells.row rfl ?_ | refine Put.row rfl ?_ | refine Put.buf rfl ?_ | refine Look.at1 ?_ | refine Look.at2 ?_ | refine Look.at3 ?_ | refine Look.at4 ?_ | refine Look.at5 ?_ | refine Look.at6 ?_ | refine Look.at7 ?_ | refine Look.at8 ?_ | with_reducible refine Val.i64 (by omega) (by omega) ?_ | with_reducible refine Val.u8 (by omega) (by omega) ?_ | with_reducible refine Val.u32 (by omega) (by omega) ?_ | with_reducible refine Val.u64 (by omega) (by omega) ?_ | with_reducible refine Val.u8m ?_ | with_reducible refine Val.u32m ?_ | with_reducible refine Val.u64m ?_ | with_reducible refine Val.shr8 ?_ | with_reducible refine Val.shr16 (by decide) ?_ | with_reducible refine Val.shr24 (by decide) ?_ | with_reducible refine Val.raw ?_ | refine Branch.not ?_ | refine Branch.and ?_ | refine Branch.or ?_ | refine Branch.dt (by assumption) ?_ | refine Branch.df (by assumption) ?_ | refine Branch.dt rfl ?_ | refine Branch.dt (by omega) ?_ | refine Branch.df (by omega) ?_ | refine Branch.t rfl ?_ | refine Branch.f rfl ?_ | refine Branch.t (by assumption) ?_ | refine Branch.f (by assumption) ?_ | refine Branch.d (fun _ => ?_) (fun _ => ?_) | refine Branch.mk (fun _ => ?_) (fun _ => ?_) | refine Need.mk (by first | omega | decide | rfl) ?_ | refine Idx.nat (by omega) ?_ | refine Idx.auto (by first | omega | decide) (by first | omega | decide) ?_ | refine Cell.ro rfl ?_ | refine SDraw.all (by kernel_rfl) ?_ | refine Kept.k0 ?_ | refine Kept.k1 ?_ | refine Kept.k2 ?_ | refine Kept.k3 ?_ | refine Kept.k4 ?_))
end
end Go.Proofs.YtledahfkpnbfcaaDoor

