/- Sx, part H: a function's text ('compile'), what is to be shown of it ('xc'), and that this is enough ('xc_ok', 'SCalls.enter'). -/
import Derived.Test.YtkegkhhfbfegoaaSxG
set_option linter.unusedVariables false
set_option linter.unusedSimpArgs false
namespace Go.Proofs.Ytkegkhhfbfegoaa.Sx
open Go.RowKit

abbrev Post := Exit → List Value → Heap → Prop
/-- What is known behind a piece of text. -/
def After (w : World) (H : Heap) (Q : Post) (e : Exit) (a : Act) (w' : World) : Prop := ∃ l' H', a = act l' ∧ Holds w' H' ∧ Step w H w' H' ∧ Q e l' H'
/-- Text c, begun with slots l in whatever world that holds H, ends as Q tells. -/
def SWp (P : Program) (c : Code) (Q : Post) (l : List Value) (H : Heap) : Prop := ∀ w, Holds w H → c.wp P (After w H Q) (act l) w

def cGuard (ops : Array Oper) : Option (Nat × Bool) → Option (Option (Nat × Bool))
  | none => some none
  | some (j, want) => match (ops[j]?).bind (·.dst) with
    | some g => some (some (g, want))
    | none => none
def cOper (P : Program) (ops : Array Oper) (o : Oper) : Option XO := match cGuard ops o.guard with
  | some g => some ⟨o.dst, g, cOp P o⟩
  | none => none
def cOpers (P : Program) (ops : Array Oper) : List Oper → Option (List XO)
  | [] => some []
  | o :: r => match cOper P ops o, cOpers P ops r with
    | some x, some xs => some (x :: xs)
    | _, _ => none
def directOf (o : Oper) : List Nat := (o.after.toList.filter (Region.binds .any)).map (·.on)
/-- Who waits for whom, also by way of others. -/
def beforeOf : List Oper → List (List Nat) → List (List Nat)
  | [], acc => acc
  | o :: r, acc => beforeOf r (acc ++ [((directOf o).flatMap fun j => j :: acc.getD j []).eraseDups])
/-- How many operations do not come behind all that stand ahead of them: from there on the order is fixed. -/
def floatN (ops : List Oper) : Nat :=
  let b := beforeOf ops []
  let n := ops.length
  (List.range n).foldr (fun j m => if m = j + 1 ∧ (List.range j).all (fun i => (b.getD j []).contains i) then j else m) n
def XOp.takes : XOp → Bool
  | .pure _ => true
  | .load .. => true
  | _ => false
def doneTo (m : Nat) (listed : Array Bool) : Bool := (List.range m).all (listed.getD · false)
/-- The first that may be taken: it only reads, and nobody else touches its slots. -/
def pickTake (ops : Array Oper) (xs : List XO) (listed : Array Bool) : List Nat → Option (Nat × XO)
  | [] => none
  | i :: r => match xs[i]? with
    | some x => match x.op.takes && Region.free .any ops listed i with
      | true => some (i, x)
      | false => pickTake ops xs listed r
    | none => pickTake ops xs listed r
def scrOf (ops : Array Oper) (xs : List XO) (m : Nat) : Nat → Array Bool → Scr
  | 0, listed => match doneTo m listed with
    | true => .done
    | false => .bad
  | fuel + 1, listed => match doneTo m listed with
    | true => .done
    | false => match pickTake ops xs listed (Region.ready .any ops listed) with
      | some (i, x) => .take x (scrOf ops xs m fuel (listed.setIfInBounds i true))
      | none => match Region.ready .any ops listed with
        | [] => .bad
        | j :: r => (j :: r).foldr (fun i rest => match xs[i]? with
          | some x => .alt x (scrOf ops xs m fuel (listed.setIfInBounds i true)) rest
          | none => rest) .off
def depsOk (ops : List Oper) : Bool := (List.range ops.length).all fun j => match ops[j]? with
  | some o => (directOf o).all (· < j)
  | none => true
def cDraw (P : Program) (ops : Array Oper) : Option (Scr × List XO) := match cOpers P ops ops.toList with
  | some xs => match Region.noSelect ops && depsOk ops.toList with
    | true => some (scrOf ops xs (floatN ops.toList) (floatN ops.toList) (Array.replicate ops.size false), xs.drop (floatN ops.toList))
    | false => none
  | none => none
def compile (P : Program) : Code → XCode
  | .skip => .skip
  | .region _ ops false => match cOpers P ops ops.toList with
    | some xs => .region xs
    | none => .bad
  | .region _ ops true => match cDraw P ops with
    | some (s, tail) => .draw s tail
    | none => .bad
  | .seq a b => .seq (compile P a) (compile P b)
  | .cond c x y => .cond c (compile P x) (compile P y)
  | .block id c => .block id (compile P c)
  | .loop c => .loop (compile P c)
  | .exit id => .exit id
  | .ret => .ret
  | .label _ => .skip
  | _ => .bad

/-- At the head of a round. -/
def LoopAt (P : Program) (c : Code) (Q : Exit → Act → World → Prop) (a : Act) (w : World) : Prop :=
  ∀ (b : Frame) (k : List Item) (cs : List Frame), ∃ e a' w', Q e a' w' ∧ Arrives P (lone (b.at a (.code c :: .inLoop c :: k)) cs w) b k cs e a' w'
theorem LoopAt.wp {P : Program} {c : Code} {Q : Exit → Act → World → Prop} {a : Act} {w : World} (h : LoopAt P c Q a w) : (Code.loop c).wp P Q a w :=
  fun b k cs => let ⟨e, a', w', hq, harr⟩ := h b k cs; ⟨e, a', w', hq, .of_steps (.one step_loop) harr⟩
theorem LoopAt.mono {P : Program} {c : Code} {Q Q' : Exit → Act → World → Prop} {a : Act} {w : World} (h : LoopAt P c Q a w) (hq : ∀ e a w, Q e a w → Q' e a w) : LoopAt P c Q' a w :=
  fun b k cs => let ⟨e, a', w', q, harr⟩ := h b k cs; ⟨e, a', w', hq _ _ _ q, harr⟩
theorem LoopAt.round {P : Program} {c : Code} {Q : Exit → Act → World → Prop} {a : Act} {w : World} (h : c.wp P (Exit.then (LoopAt P c Q) Q) a w) : LoopAt P c Q a w := by
  intro b k cs
  obtain ⟨e, a₁, w₁, hq, harr⟩ := h b (.inLoop c :: k) cs
  cases e with
  | normal =>
    obtain ⟨e₂, a₂, w₂, hq₂, harr₂⟩ := hq b k cs
    exact ⟨e₂, a₂, w₂, hq₂, .of_steps (Steps.trans harr (.one step_inLoop)) harr₂⟩
  | exit id => exact ⟨_, a₁, w₁, hq, .pass (x := .inLoop c) rfl (fun _ _ => .inl (by simp)) harr⟩
  | goto l => exact ⟨_, a₁, w₁, hq, .pass (x := .inLoop c) rfl (fun _ _ => .inl (by simp)) harr⟩
  | ret => exact ⟨_, a₁, w₁, hq, .pass (x := .inLoop c) rfl (fun _ _ => .inl (by simp)) harr⟩
  | panic ch => exact ⟨_, a₁, w₁, hq, .pass (x := .inLoop c) rfl (fun _ _ => .inl (by simp)) harr⟩
  | outgrown => exact ⟨_, a₁, w₁, hq, .pass (x := .inLoop c) rfl (fun _ _ => .inl (by simp)) harr⟩
/-- A loop, from here on. -/
structure SLoop (P : Program) (x : XCode) (Q : Post) (l : List Value) (H : Heap) : Prop where
  run : ∀ c, compile P c = x → ∀ w, Holds w H → LoopAt P c (After w H Q) (act l) w
/-- Operations in whatever order. -/
structure SDraw (P : Program) (s : Scr) (tail : List XO) (K : List Value → Heap → Prop) (l : List Value) (H : Heap) : Prop where
  run : ∀ (id : Nat) (ops : Array Oper) (Q : Post), cDraw P ops = some (s, tail) → (∀ l H, K l H → Q .normal l H) → SWp P (.region id ops true) Q l H

/-- What follows a piece of text that came to its end; a block's end. -/
def thenQ (K : List Value → Heap → Prop) (Q : Post) : Post := fun e l H => match e with
  | .normal => K l H
  | e => Q e l H
def blockQ (id : Nat) (Q : Post) : Post := fun e l H => match e with
  | .exit i => match Nat.beq i id with
    | true => Q .normal l H
    | false => Q (.exit i) l H
  | e => Q e l H
def condK (v : Value) (K1 K2 : Prop) : Prop := match v with
  | .bool t => Branch t K1 K2
  | _ => False
def xc (P : Program) (x : XCode) : Post → List Value → Heap → Prop :=
  XCode.rec (motive := fun _ => Post → List Value → Heap → Prop)
    (fun Q l H => Q .normal l H)
    (fun ops Q l H => xops P ops l H (Q .normal))
    (fun s tail Q l H => SDraw P s tail (Q .normal) l H)
    (fun _ _ iha ihb Q l H => iha (thenQ (ihb Q) Q) l H)
    (fun c _ _ iha ihb Q l H => condK (ev l c) (iha Q l H) (ihb Q l H))
    (fun id _ ih Q l H => ih (blockQ id Q) l H)
    (fun c _ Q l H => SLoop P c Q l H)
    (fun id Q l H => Q (.exit id) l H)
    (fun Q l H => Q .ret l H)
    (fun _ _ _ => False) x

section
variable {P : Program} {l : List Value} {H : Heap} {w : World} {Q : Post}
theorem act_put (l : List Value) (d : Option Nat) (v : Value) : (act l).put d v = act (match d with | none => l | some d => l.set d v) := by
  cases d <;> simp [Act.put, act]
theorem dstK_ok {d : Option Nat} {v : Value} {K : List Value → Prop} (h : dstK d l v K) : ∃ l', (act l).put d v = act l' ∧ K l' := by
  cases d with
  | none => exact ⟨l, rfl, h⟩
  | some d => exact ⟨_, act_put l (some d) v, setK_ok l d v K h⟩
theorem getL_bool {i : Nat} {b : Bool} (h : getL l i = .bool b) : l.toArray[i]? = some (.bool b) := by
  rw [← getL_eq] at h
  simp only [List.getElem?_toArray]
  cases hi : l[i]? with
  | none => simp [hi, undef] at h
  | some v => simpa [hi] using h
theorem getL_yield {ops : Array Oper} {j g : Nat} (hg : (ops[j]?).bind (·.dst) = some g) : yielded ops l.toArray j = match getL l g with | .bool b => some b | _ => none := by
  unfold yielded
  rw [hg]
  have := getL_eq l g
  simp only [Option.bind_some, List.getElem?_toArray]
  cases hi : l[g]? with
  | none =>
    have : getL l g = undef := by rw [← this]; simp [hi]
    rw [this]
    rfl
  | some v =>
    have : getL l g = v := by rw [← this]; simp [hi]
    rw [this]
    cases v <;> rfl

/-- What follows an operation. -/
def Next1 (w : World) (H : Heap) (K : List Value → Heap → Prop) (a : Act) (w' : World) : Prop := ∃ l' H', a = act l' ∧ Holds w' H' ∧ Step w H w' H' ∧ K l' H'
theorem op_wp {o : Oper} {x : XOp} (hc : cOp P o = x) {K : List Value → Heap → Prop} (h : xop P x l H fun v H' => dstK o.dst l v fun l' => K l' H') (hw : Holds w H) (Qx : Exit → Act → World → Prop) : o.wp P (act l) w (Next1 w H K) Qx := by
  have := xop_ok hc h hw
  unfold Oper.wp
  rcases this with ⟨v, w', H', hr, h1, h2, hK⟩ | ⟨f, args, hr, hcall⟩
  · rcases hr with hr | ⟨hr, rfl⟩
    · obtain ⟨l', e, hK⟩ := dstK_ok hK
      rw [hr]; exact ⟨l', H', e, h1, h2, hK⟩
    · obtain ⟨l', e, hK⟩ := dstK_ok hK
      rw [hr]; exact ⟨l', H', e, h1, h2, hK⟩
  · rw [hr]
    refine hcall.mono fun e w' he => ?_
    obtain ⟨v, H', rfl, h1, h2, hK⟩ := he
    obtain ⟨l', e, hK⟩ := dstK_ok hK
    exact ⟨l', H', e, h1, h2, hK⟩
theorem xo_ok {ops : Array Oper} {i : Nat} {o : Oper} {x : XO} (ho : ops[i]? = some o) (hx : cOper P ops o = some x) {K : List Value → Heap → Prop} (h : xo P x l H K) (hw : Holds w H) (Qx : Exit → Act → World → Prop) :
    wpOp P ops Qx i (Next1 w H K) (act l) w := by
  unfold cOper at hx
  cases hg : cGuard ops o.guard with
  | none => rw [hg] at hx; cases hx
  | some g =>
    rw [hg] at hx
    injection hx with hx
    subst hx
    unfold wpOp
    simp only [ho]
    have skip : (dstK o.dst l undef fun l' => K l' H) → Next1 w H K ((act l).put o.dst undef) w := fun h => by
      obtain ⟨l', e, hK⟩ := dstK_ok h
      exact ⟨l', H, e, hw, Step.refl _ _, hK⟩
    unfold xo at h
    cases hgo : o.guard with
    | none =>
      rw [hgo] at hg
      simp only [cGuard, Option.some.injEq] at hg
      subst hg
      have : Region.wanted o (yielded ops (act l).tmps) = true := by simp [Region.wanted, hgo]
      rw [if_pos this]
      exact .inl (op_wp rfl h hw Qx)
    | some jw =>
      obtain ⟨j, want⟩ := jw
      rw [hgo] at hg
      unfold cGuard at hg
      cases hd : (ops[j]?).bind (·.dst) with
      | none => simp [hd] at hg
      | some gs =>
        simp only [hd, Option.some.injEq] at hg
        subst hg
        have hy : yielded ops (act l).tmps j = _ := getL_yield hd
        simp only at h
        split at h
        · rename_i b hb
          rw [hb] at hy
          have hwant : Region.wanted o (yielded ops (act l).tmps) = (b == want) := by
            simp only [Region.wanted, hgo, hy]
            cases b <;> cases want <;> rfl
          rw [hwant]
          obtain ⟨h1, h2⟩ := h
          cases b <;> cases want <;> simp only [if_true, Bool.false_eq_true, if_false, beq_self_eq_true, reduceCtorEq, Bool.false_beq, Bool.true_beq, Bool.not_true, Bool.not_false]
          · exact .inl (op_wp rfl (h2 rfl) hw Qx)
          · exact skip (h2 rfl)
          · exact skip (h1 rfl)
          · exact .inl (op_wp rfl (h1 rfl) hw Qx)
        · rename_i hnb
          have hwant : Region.wanted o (yielded ops (act l).tmps) = false := by
            simp only [Region.wanted, hgo, hy]
            cases hv : getL l gs <;> first | rfl | exact absurd hv (hnb _)
          rw [hwant]
          simp only [Bool.false_eq_true, if_false]
          exact skip h
theorem cOpers_get {ops : Array Oper} : ∀ {os : List Oper} {xs : List XO}, cOpers P ops os = some xs → ∀ (i : Nat) (o : Oper), os[i]? = some o → ∃ x, xs[i]? = some x ∧ cOper P ops o = some x
  | [], xs, h, i, o, hi => by simp at hi
  | o' :: r, xs, h, i, o, hi => by
    unfold cOpers at h
    split at h
    · rename_i x xs' hx hxs
      injection h with h
      subst h
      cases i with
      | zero => simp at hi; subst hi; exact ⟨x, rfl, hx⟩
      | succ i => simpa using cOpers_get hxs i o (by simpa using hi)
    · cases h
theorem cOpers_length {ops : Array Oper} : ∀ {os : List Oper} {xs : List XO}, cOpers P ops os = some xs → xs.length = os.length
  | [], xs, h => by simp [cOpers] at h; subst h; rfl
  | o' :: r, xs, h => by
    unfold cOpers at h
    split at h
    · rename_i x xs' hx hxs
      injection h with h
      subst h
      simp [cOpers_length hxs]
    · cases h
/-- Operations in the text's order, from number k on. -/
theorem xops_ok {ops : Array Oper} {w0 : World} {H0 : Heap} {K : List Value → Heap → Prop} {Qx : Exit → Act → World → Prop} (hq : ∀ a w, Next1 w0 H0 K a w → Qx .normal a w) :
    ∀ (xs : List XO) (k : Nat) (l : List Value) (H : Heap) (w : World), k + xs.length = ops.size → (∀ i x, xs[i]? = some x → ∃ o, ops[k + i]? = some o ∧ cOper P ops o = some x) →
      xops P xs l H K → Holds w H → Step w0 H0 w H → wpOps P ops Qx (List.range' k xs.length) (act l) w
  | [], k, l, H, w, _, _, h, hw, hs => hq _ _ ⟨l, H, rfl, hw, hs, h⟩
  | x :: xs, k, l, H, w, hl, hx, h, hw, hs => by
    obtain ⟨o, ho, hox⟩ := hx 0 x rfl
    simp only [List.length_cons, List.range'_succ]
    rw [wpOps_cons]
    refine wpOp_mono ?_ (xo_ok (by simpa using ho) hox h hw Qx)
    rintro a w' ⟨l', H', rfl, h1, h2, h3⟩
    refine xops_ok hq xs (k + 1) l' H' w' (by simp at hl; omega) ?_ h3 h1 (hs.trans h2)
    intro i x' hi
    have := hx (i + 1) x' (by simpa using hi)
    rwa [show k + (i + 1) = k + 1 + i by omega] at this
theorem xops_all {ops : Array Oper} {xs : List XO} (hx : cOpers P ops ops.toList = some xs) {K : List Value → Heap → Prop} {Qx : Exit → Act → World → Prop} (hq : ∀ a w', Next1 w H K a w' → Qx .normal a w')
    (h : xops P xs l H K) (hw : Holds w H) : wpOps P ops Qx (List.range ops.size) (act l) w := by
  have hl := cOpers_length hx
  have := xops_ok (P := P) (ops := ops) hq xs 0 l H w (by simp [hl]) (fun i x hi => by
    have hlt : i < ops.toList.length := by rw [← hl]; exact (List.getElem?_eq_some_iff.1 hi).1
    obtain ⟨x', h1, h2⟩ := cOpers_get hx i ops.toList[i] (List.getElem?_eq_getElem hlt)
    rw [hi] at h1
    injection h1 with h1
    subst h1
    refine ⟨_, ?_, h2⟩
    simp at hlt
    simp [hlt]) h hw (Step.refl _ _)
  rw [hl] at this
  simpa [List.range_eq_range'] using this
theorem After.mono {Q' : Post} {e : Exit} {a : Act} {w' : World} (h : After w H Q e a w') (hq : ∀ e l H, Q e l H → Q' e l H) : After w H Q' e a w' := by
  obtain ⟨l', H', h1, h2, h3, h4⟩ := h
  exact ⟨l', H', h1, h2, h3, hq _ _ _ h4⟩

theorem xc_ok : ∀ (c : Code) (Q : Post) (l : List Value) (H : Heap), xc P (compile P c) Q l H → SWp P c Q l H
  | .skip, Q, l, H, h, w, hw => wp_skip ⟨l, H, rfl, hw, Step.refl _ _, h⟩
  | .label n, Q, l, H, h, w, hw => wp_label ⟨l, H, rfl, hw, Step.refl _ _, h⟩
  | .exit id, Q, l, H, h, w, hw => wp_exit ⟨l, H, rfl, hw, Step.refl _ _, h⟩
  | .ret, Q, l, H, h, w, hw => wp_ret ⟨l, H, rfl, hw, Step.refl _ _, h⟩
  | .goto _, Q, l, H, h, w, hw => False.elim h
  | .scope _, Q, l, H, h, w, hw => False.elim h
  | .rangeFunc .., Q, l, H, h, w, hw => False.elim h
  | .refuse _, Q, l, H, h, w, hw => False.elim h
  | .loop c, Q, l, H, h, w, hw => by
    have h : SLoop P (compile P c) Q l H := h
    exact (h.run c rfl w hw).wp
  | .cond c x y, Q, l, H, h, w, hw => by
    have h : condK (ev l c) (xc P (compile P x) Q l H) (xc P (compile P y) Q l H) := h
    unfold condK at h
    split at h
    · rename_i t ht
      obtain ⟨h1, h2⟩ := h
      refine wp_cond_split (t := t) (by rw [ev_eq]; exact ht) (fun e => xc_ok x Q l H (h1 e) w hw) (fun e => xc_ok y Q l H (h2 e) w hw)
    · exact h.elim
  | .seq a b, Q, l, H, h, w, hw => by
    have h : xc P (compile P a) (thenQ (xc P (compile P b) Q) Q) l H := h
    refine wp_seq (wp_mono (xc_ok a _ l H h w hw) ?_)
    rintro e a' w' ⟨l', H', rfl, h1, h2, h3⟩
    cases e with
    | normal =>
      refine wp_mono (xc_ok b Q l' H' h3 w' h1) ?_
      rintro e a2 w2 ⟨l2, H2, rfl, g1, g2, g3⟩
      exact ⟨l2, H2, rfl, g1, h2.trans g2, g3⟩
    | exit id => exact ⟨l', H', rfl, h1, h2, h3⟩
    | goto id => exact ⟨l', H', rfl, h1, h2, h3⟩
    | ret => exact ⟨l', H', rfl, h1, h2, h3⟩
    | panic id => exact ⟨l', H', rfl, h1, h2, h3⟩
    | outgrown => exact ⟨l', H', rfl, h1, h2, h3⟩
  | .block id c, Q, l, H, h, w, hw => by
    have h : xc P (compile P c) (blockQ id Q) l H := h
    refine wp_block (wp_mono (xc_ok c _ l H h w hw) ?_)
    rintro e a' w' ⟨l', H', rfl, h1, h2, h3⟩
    cases e with
    | exit i =>
      simp only [Exit.inBlock]
      simp only [blockQ] at h3
      split at h3
      · rename_i hb
        rw [if_pos (Nat.eq_of_beq_eq_true hb)]
        exact ⟨l', H', rfl, h1, h2, h3⟩
      · rename_i hb
        rw [if_neg (Nat.ne_of_beq_eq_false hb)]
        exact ⟨l', H', rfl, h1, h2, h3⟩
    | normal => exact ⟨l', H', rfl, h1, h2, h3⟩
    | goto id => exact ⟨l', H', rfl, h1, h2, h3⟩
    | ret => exact ⟨l', H', rfl, h1, h2, h3⟩
    | panic id => exact ⟨l', H', rfl, h1, h2, h3⟩
    | outgrown => exact ⟨l', H', rfl, h1, h2, h3⟩
  | .region id ops false, Q, l, H, h, w, hw => by
    simp only [compile] at h
    split at h
    · rename_i xs hxs
      exact wp_region (xops_all hxs (fun a w' h => h) h hw)
    · exact h.elim
  | .region id ops true, Q, l, H, h, w, hw => by
    simp only [compile] at h
    split at h
    · rename_i s tail hxs
      have h : SDraw P s tail (Q .normal) l H := h
      exact h.run id ops Q hxs (fun _ _ h => h) w hw
    · exact h.elim
end
end Go.Proofs.Ytkegkhhfbfegoaa.Sx
