/- Sx, part D: an operation that touches no memory yields what 'xpure' says, whatever the world. -/
import Derived.Test.YtkegkhhfbfegoaaSxC
set_option linter.unusedVariables false
set_option linter.unusedSimpArgs false
namespace Go.Proofs.Ytkegkhhfbfegoaa.Sx
open Go.RowKit

/-- It yields a value, and K holds of that. -/
def Yields1 (P : Program) (s : Sem Next) (K : Value → Prop) : Prop := ∃ v, (∀ w, s.run P w = .ok (.value v) w) ∧ K v
section
variable {P : Program} {l : List Value} {K : Value → Prop}
theorem placesOf_spec : ∀ {fs : List Field} {pl : List (Nat × Nat)} (h : placesOf P fs = some pl) (w : World),
    (fs.mapM (m := Sem) fun f => do pure (f.offset, ← sizeOf f.type)).run P w = .ok pl w
  | [], pl, h, w => by simp [placesOf] at h; subst h; simp
  | f :: r, pl, h, w => by
    unfold placesOf at h
    cases hi : P.info? f.type with
    | none => simp [hi] at h
    | some i =>
      cases hp : placesOf P r with
      | none => simp [hi, hp] at h
      | some l =>
        simp only [hi, hp, Option.some.injEq] at h
        subst h
        have ih := placesOf_spec hp w
        simp only [List.mapM_cons, Sem.run_bind, size_spec hi, Result.andThen_ok, Sem.run_pure, ih]
theorem fill_ok : ∀ (place : Nat → Option (Nat × Nat)) (parts : List (Nat × Operand)) (ps : List (Nat × Nat × Operand)) (cs : List Value) (K : List Value → Prop),
    partsAt place parts = some ps → buildK l ps cs K → ∃ cs', Instr.fill place cs.toArray (parts.map fun p => (p.1, ev l p.2)) = some cs'.toArray ∧ K cs'
  | place, [], ps, cs, K, h, hb => by
    simp [partsAt] at h; subst h
    exact ⟨cs, rfl, hb⟩
  | place, (i, x) :: r, ps, cs, K, h, hb => by
    unfold partsAt at h
    cases hp : place i with
    | none => simp [hp] at h
    | some os =>
      obtain ⟨o, s⟩ := os
      cases hr : partsAt place r with
      | none => simp [hp, hr] at h
      | some ps' =>
        simp only [hp, hr, Option.some.injEq] at h
        subst h
        have hb1 := cellsK_ok (v := ev l x) (K := fun vs => match Nat.beq vs.length s && Nat.ble (o + s) cs.length with
          | true => putsK cs o vs fun cs' => buildK l ps' cs' K
          | false => False) hb
        split at hb1
        · rename_i hc
          simp only [Bool.and_eq_true] at hc
          have h1 : (ev l x).cells.toList.length = s := Nat.eq_of_beq_eq_true hc.1
          have h2 : o + s ≤ cs.length := Nat.le_of_ble_eq_true hc.2
          have h3 := putsK_ok (by omega) hb1
          obtain ⟨cs', h4, h5⟩ := fill_ok place r ps' _ K hr h3
          refine ⟨cs', ?_, h5⟩
          have hsz : (ev l x).cells.size = s := by simpa using h1
          simp only [List.map_cons, Instr.fill, hp]
          have hc1 : (decide ((ev l x).cells.size ≠ s) || decide (o + (ev l x).cells.size > cs.toArray.size)) = false := by simp [hsz]; omega
          rw [if_neg (by simp [hsz]; omega)]
          rw [← h4]
          congr 1
          exact foldl_puts (ev l x).cells cs o (by omega)
        · exact hb1.elim
where
  foldl_puts (vs : Array Value) (cs : List Value) (o : Nat) (h : o + vs.size ≤ cs.length) :
      Array.foldl (fun (cs : Array Value) (c : Value × Nat) => cs.setIfInBounds (o + c.2) c.1) cs.toArray vs.zipIdx = (cs.take o ++ vs.toList ++ cs.drop (o + vs.toList.length)).toArray := by
    have key : ∀ (vs : List Value) (k : Nat) (cs : List Value), o + k + vs.length ≤ cs.length →
        List.foldl (fun (cs : Array Value) (c : Value × Nat) => cs.setIfInBounds (o + c.2) c.1) cs.toArray (vs.zipIdx k) = (cs.take (o + k) ++ vs ++ cs.drop (o + k + vs.length)).toArray := by
      intro vs
      induction vs with
      | nil => intro k cs _; simp
      | cons v r ih =>
        intro k cs hl
        simp only [List.zipIdx_cons, List.foldl_cons, List.setIfInBounds_toArray]
        rw [ih (k + 1) _ (by simp at hl ⊢; omega)]
        congr 1
        have := list_seg_step cs (o + k) v r (by simp at hl ⊢; omega)
        simpa [Nat.add_assoc] using this
    have := key vs.toList 0 cs (by simpa using h)
    rw [← Array.foldl_toList, Array.toList_zipIdx]
    simpa using this

theorem bnd_ok {y d : Nat} {x : Option Operand} {K : Nat → Prop} (code : BoundsCode) (h : bndK l y d x K) :
    ∃ n, (∀ w, (match x.map (ev l) with | some v => Instr.sliceBound v y code | none => pure d : Sem Nat).run P w = .ok n w) ∧ (∀ z, x = some z → n ≤ y) ∧ (x = none → n = d) ∧ K n := by
  cases x with
  | none => exact ⟨d, fun w => rfl, fun z hz => (by cases hz), fun _ => rfl, h⟩
  | some z =>
    simp only [bndK] at h
    split at h
    · rename_i k n hz
      obtain ⟨j, rfl, hj, hK⟩ := h
      refine ⟨j, fun w => ?_, fun _ _ => by omega, fun h => (by cases h), hK⟩
      simp only [Option.map_some, hz]
      simp only [Instr.sliceBound, asIntOf, Sem.run_bind, Sem.run_pure, Result.andThen_ok, Sem.run_ite]
      rw [if_pos ⟨by omega, by omega⟩]
      simp
    · exact h.elim

theorem Yld.up {s : Sem Value} (h : Yld P s K) : Yields1 P (do pure (Next.value (← s))) K := by
  obtain ⟨v, h1, h2⟩ := h
  exact ⟨v, fun w => by simp [h1], h2⟩
theorem eqGuard_int (op : BinOp) (t : TypeId) (x y : Operand) (k k' : IntKind) (a b : Int) (w : World) : (eqGuard op t x y (.int k a) (.int k' b)).run P w = .ok () w := by
  unfold eqGuard; split <;> rfl
theorem eqGuard_str (op : BinOp) (t : TypeId) (x y : Operand) (a b : ByteArray) (w : World) : (eqGuard op t x y (.string a) (.string b)).run P w = .ok () w := by
  unfold eqGuard; split <;> rfl
theorem eqGuard_bool (op : BinOp) (t : TypeId) (x y : Operand) (a b : Bool) (w : World) : (eqGuard op t x y (.bool a) (.bool b)).run P w = .ok () w := by
  unfold eqGuard; split <;> rfl
theorem eqGuard_sl (op : BinOp) (t : TypeId) (x y : Operand) (a b : Option Addr) (n m c d : Nat) (w : World) : (eqGuard op t x y (.slice a n c) (.slice b m d)).run P w = .ok () w := by
  unfold eqGuard; split <;> rfl
theorem eqGuard_ptr (op : BinOp) (t : TypeId) (x y : Operand) (a b : Option Addr) (w : World) : (eqGuard op t x y (.pointer a) (.pointer b)).run P w = .ok () w := by
  unfold eqGuard; split <;> rfl

section
variable (w : World) {t : TypeId}
theorem equal_run {x y : Value} {r : Result Bool} (h : (Op.equalIn (9999 + 1) t x y).run P w = r) : (Op.equal t x y).run P w = r := h
theorem eqIn_slnil {e : TypeId} (hu : P.underlying t = some (.slice e)) (d n c m k : Nat) (b : Option Addr) : (Op.equalIn (d + 1) t (.slice none n c) (.slice b m k)).run P w = .ok b.isNone w := by
  simp only [Op.equalIn, Sem.run_bind, run_underlying hu, Result.andThen_ok]; rfl
theorem eqIn_slsome {e : TypeId} (hu : P.underlying t = some (.slice e)) (d n c m k : Nat) (a : Addr) : (Op.equalIn (d + 1) t (.slice (some a) n c) (.slice none m k)).run P w = .ok false w := by
  simp only [Op.equalIn, Sem.run_bind, run_underlying hu, Result.andThen_ok]; rfl
theorem eqIn_ptrnil {e : TypeId} (hu : P.underlying t = some (.pointer e)) (d : Nat) (b : Option Addr) : (Op.equalIn (d + 1) t (.pointer none) (.pointer b)).run P w = .ok b.isNone w := by
  simp only [Op.equalIn, Sem.run_bind, run_underlying hu, Result.andThen_ok]; rfl
theorem eqIn_ptrsome {e : TypeId} (hu : P.underlying t = some (.pointer e)) (d : Nat) (a : Addr) : (Op.equalIn (d + 1) t (.pointer (some a)) (.pointer none)).run P w = .ok false w := by
  simp only [Op.equalIn, Sem.run_bind, run_underlying hu, Result.andThen_ok]; rfl
theorem eql_sl (a b : Option Addr) (n c m k : Nat) : binOp .eql t (.slice a n c) (.slice b m k) = (do pure (.bool (← Op.equal t (.slice a n c) (.slice b m k)))) := rfl
theorem neq_sl (a b : Option Addr) (n c m k : Nat) : binOp .neq t (.slice a n c) (.slice b m k) = (do pure (.bool (!(← Op.equal t (.slice a n c) (.slice b m k))))) := rfl
theorem eql_ptr (a b : Option Addr) : binOp .eql t (.pointer a) (.pointer b) = (do pure (.bool (← Op.equal t (.pointer a) (.pointer b)))) := rfl
theorem neq_ptr (a b : Option Addr) : binOp .neq t (.pointer a) (.pointer b) = (do pure (.bool (!(← Op.equal t (.pointer a) (.pointer b))))) := rfl
theorem eql_bool (a b : Bool) : binOp .eql t (.bool a) (.bool b) = (do pure (.bool (← Op.equal t (.bool a) (.bool b)))) := rfl
theorem neq_bool (a b : Bool) : binOp .neq t (.bool a) (.bool b) = (do pure (.bool (!(← Op.equal t (.bool a) (.bool b))))) := rfl
end

def eqOp (neg : Bool) : BinOp := match neg with | true => .neq | false => .eql
theorem negK_ok {neg b : Bool} (h : negK neg b K) : K (.bool (negB neg b)) := by cases neg <;> exact h
theorem yld_of {s : Sem Value} {v v' : Value} (h : ∀ w, s.run P w = .ok v' w) (e : v' = v) (hK : K v) : Yld P s K := ⟨v, fun w => by rw [h w, e], hK⟩
theorem eqBool_ok {t : TypeId} (hu : P.underlying t = some .bool) (neg : Bool) (x y : Operand) (a b : Bool) (h : negK neg (a == b) K) (op : BinOp) (ho : op = eqOp neg) :
    Yld P (do eqGuard op t x y (.bool a) (.bool b); binOp op t (.bool a) (.bool b)) K := by
  have hr : ∀ w, (Op.equal t (.bool a) (.bool b)).run P w = .ok (a == b) w := fun w => equal_run w (run_equalIn_bool' w 9999 t a b hu)
  refine ⟨_, fun w => ?_, negK_ok h⟩
  subst ho
  cases neg <;> simp only [eqOp, negB, Sem.run_bind, eqGuard_bool, Result.andThen_ok, eql_bool, neq_bool, hr, Sem.run_pure]
theorem eqSl_ok {t : TypeId} (neg : Bool) (x y : Operand) (a b : Option Addr) (n c m k : Nat) (r : Bool) (hr : ∀ w, (Op.equalIn (9999 + 1) t (.slice a n c) (.slice b m k)).run P w = .ok r w) (h : negK neg r K) (op : BinOp) (ho : op = eqOp neg) :
    Yld P (do eqGuard op t x y (.slice a n c) (.slice b m k); binOp op t (.slice a n c) (.slice b m k)) K := by
  have hr : ∀ w, (Op.equal t (.slice a n c) (.slice b m k)).run P w = .ok r w := hr
  refine ⟨_, fun w => ?_, negK_ok h⟩
  subst ho
  cases neg <;> simp only [eqOp, negB, Sem.run_bind, eqGuard_sl, Result.andThen_ok, eql_sl, neq_sl, hr, Sem.run_pure]
theorem eqPtr_ok {t : TypeId} (neg : Bool) (x y : Operand) (a b : Option Addr) (r : Bool) (w w' : World) (hr : (Op.equalIn (9999 + 1) t (.pointer a) (.pointer b)).run P w = .ok r w') (op : BinOp) (ho : op = eqOp neg) :
    (do eqGuard op t x y (.pointer a) (.pointer b); binOp op t (.pointer a) (.pointer b)).run P w = .ok (.bool (negB neg r)) w' := by
  have hr : (Op.equal t (.pointer a) (.pointer b)).run P w = .ok r w' := hr
  subst ho
  cases neg <;> simp only [eqOp, negB, Sem.run_bind, eqGuard_ptr, Result.andThen_ok, eql_ptr, neq_ptr, hr, Sem.run_pure]

/- STRUCTS AND ARRAYS, COMPARED -/
def leafB : Lf → Value → Value → Option Bool
  | .int, .int k a, .int k' b => if k = k' then some (decide (a = b)) else none
  | .bool, .bool a, .bool b => some (a == b)
  | .str, .string a, .string b => some (decide (a = b))
  | _, _, _ => none
theorem leafK_ok {k : Lf} {x y : Value} {K : Bool → Prop} (h : leafK k x y K) : ∃ b, leafB k x y = some b ∧ K b := by
  unfold leafK at h
  split at h
  · obtain ⟨rfl, h'⟩ := same_ok h; exact ⟨_, by simp [leafB], h'⟩
  · exact ⟨_, rfl, h⟩
  · exact ⟨_, rfl, h⟩
  · exact h.elim
noncomputable def eqTB : EqT → List Value → List Value → Option Bool
  | .nil, _, _ => some true
  | .leaf off k rest, xs, ys => match leafB k (getL xs off) (getL ys off), eqTB rest xs ys with
    | some a, some b => some (a && b)
    | _, _ => none
  | .sub off n inner rest, xs, ys => match eqTB inner ((xs.drop off).take n) ((ys.drop off).take n), eqTB rest xs ys with
    | some a, some b => some (a && b)
    | _, _ => none
theorem andK_ok {a : Bool} {rest : EqT} {xs ys : List Value} {K : Bool → Prop} (ih : ∀ {K : Bool → Prop}, eqTK rest xs ys K → ∃ b, eqTB rest xs ys = some b ∧ K b) (h : andK a rest (eqTK rest xs ys) K) : ∃ b, eqTB rest xs ys = some b ∧ K (a && b) := by
  unfold andK at h
  split at h
  · exact ⟨true, rfl, by simpa using h⟩
  · exact ih h
theorem eqTK_ok : ∀ (T : EqT) {xs ys : List Value} {K : Bool → Prop}, eqTK T xs ys K → ∃ b, eqTB T xs ys = some b ∧ K b
  | .nil, xs, ys, K, h => ⟨true, rfl, h⟩
  | .leaf off k rest, xs, ys, K, h => by
    obtain ⟨a, h1, h2⟩ := leafK_ok (show leafK k (getL xs off) (getL ys off) (fun a => andK a rest (eqTK rest xs ys) K) from h)
    obtain ⟨b, h3, h4⟩ := andK_ok (fun h => eqTK_ok rest h) h2
    exact ⟨a && b, by simp [eqTB, h1, h3], h4⟩
  | .sub off n inner rest, xs, ys, K, h => by
    have h := sliceK_ok (sliceK_ok (show sliceK xs off n (fun xs' => sliceK ys off n fun ys' => eqTK inner xs' ys' fun a => andK a rest (eqTK rest xs ys) K) from h))
    obtain ⟨a, h1, h2⟩ := eqTK_ok inner h
    obtain ⟨b, h3, h4⟩ := andK_ok (fun h => eqTK_ok rest h) h2
    exact ⟨a && b, by simp [eqTB, h1, h3], h4⟩
theorem getL_get {l : List Value} {i : Nat} (h : getL l i ≠ undef) : l[i]? = some (getL l i) := by
  have e := getL_eq l i
  cases hi : l[i]? with
  | some u => rw [← e]; simp [hi]
  | none => exact absurd (by rw [← e]; simp [hi]) h
theorem leafB_ne {k : Lf} {x y : Value} {b : Bool} (h : leafB k x y = some b) : x ≠ undef ∧ y ≠ undef := by
  constructor <;> (rintro rfl; cases k <;> (first | (cases x <;> cases h) | (cases y <;> cases h) | cases h))
theorem leafB_int {x y : Value} {a : Bool} (h : leafB .int x y = some a) : ∃ k p q, x = .int k p ∧ y = .int k q ∧ a = decide (p = q) := by
  cases x <;> cases y <;> first | (cases h; done) | skip
  rename_i k p k' q
  have h' : (if k = k' then some (decide (p = q)) else none) = some a := h
  split at h'
  · rename_i e
    subst e
    injection h' with h'
    exact ⟨k, p, q, rfl, rfl, h'.symm⟩
  · cases h'
theorem leafB_bool {x y : Value} {a : Bool} (h : leafB .bool x y = some a) : ∃ p q, x = .bool p ∧ y = .bool q ∧ a = (p == q) := by
  cases x <;> cases y <;> first | (cases h; done) | skip
  rename_i p q
  have h' : some (p == q) = some a := h
  injection h' with h'
  exact ⟨p, q, rfl, rfl, h'.symm⟩
theorem leafB_str {x y : Value} {a : Bool} (h : leafB .str x y = some a) : ∃ p q, x = .string p ∧ y = .string q ∧ a = decide (p = q) := by
  cases x <;> cases y <;> first | (cases h; done) | skip
  rename_i p q
  have h' : some (decide (p = q)) = some a := h
  injection h' with h'
  exact ⟨p, q, rfl, rfl, h'.symm⟩
/-- One step of a comparison. -/
theorem part_step {g : TypeId → Option EqT} {t : TypeId} {off d : Nat} {rest T : EqT} {xs ys : List Value} {r : Bool} (hp : partOf g P t off rest = some T) (hT : eqTB T xs ys = some r) (w : World)
    (hg : ∀ T0 xs ys b, g t = some T0 → eqTB T0 xs ys = some b → (Op.equalIn (d + 1) t (.agg xs.toArray) (.agg ys.toArray)).run P w = .ok b w) :
    ∃ x y a b, (part t xs.toArray off).run P w = .ok x w ∧ (part t ys.toArray off).run P w = .ok y w ∧ (Op.equalIn (d + 1) t x y).run P w = .ok a w ∧ eqTB rest xs ys = some b ∧ r = (a && b) := by
  have leaf : ∀ k, T = .leaf off k rest → (∃ n, aggOf P t = some (false, n)) → (∀ x y a, leafB k x y = some a → (Op.equalIn (d + 1) t x y).run P w = .ok a w) →
      ∃ x y a b, (part t xs.toArray off).run P w = .ok x w ∧ (part t ys.toArray off).run P w = .ok y w ∧ (Op.equalIn (d + 1) t x y).run P w = .ok a w ∧ eqTB rest xs ys = some b ∧ r = (a && b) := by
    rintro k rfl ⟨n, ha⟩ hl
    simp only [eqTB] at hT
    split at hT
    · rename_i a b h1 h2
      injection hT with hT
      obtain ⟨n1, n2⟩ := leafB_ne h1
      exact ⟨_, _, a, b, run_part_one ha xs off _ (getL_get n1) w, run_part_one ha ys off _ (getL_get n2) w, hl _ _ _ h1, h2, hT.symm⟩
    · cases hT
  unfold partOf at hp
  split at hp
  · rename_i k hu
    injection hp with hp
    refine leaf .int hp.symm ?_ ?_
    · have hi : ∃ i, P.info? t = some i := by
        unfold Program.underlying at hu
        cases hi : P.info? t with
        | some i => exact ⟨i, rfl⟩
        | none => rw [hi] at hu; cases hu
      obtain ⟨i, hi⟩ := hi
      exact ⟨i.size, by simp [aggOf, hu, hi]⟩
    · intro x y a hl
      obtain ⟨k1, p, q, rfl, rfl, rfl⟩ := leafB_int hl
      rw [run_equalIn_int w d t k1 k p q hu]
      rfl
  · rename_i hu
    injection hp with hp
    refine leaf .bool hp.symm ?_ ?_
    · have hi : ∃ i, P.info? t = some i := by
        unfold Program.underlying at hu
        cases hi : P.info? t with
        | some i => exact ⟨i, rfl⟩
        | none => rw [hi] at hu; cases hu
      obtain ⟨i, hi⟩ := hi
      exact ⟨i.size, by simp [aggOf, hu, hi]⟩
    · intro x y a hl
      obtain ⟨p, q, rfl, rfl, rfl⟩ := leafB_bool hl
      rw [run_equalIn_bool' w d t _ _ hu]
  · rename_i hu
    injection hp with hp
    refine leaf .str hp.symm ?_ ?_
    · have hi : ∃ i, P.info? t = some i := by
        unfold Program.underlying at hu
        cases hi : P.info? t with
        | some i => exact ⟨i, rfl⟩
        | none => rw [hi] at hu; cases hu
      obtain ⟨i, hi⟩ := hi
      exact ⟨i.size, by simp [aggOf, hu, hi]⟩
    · intro x y a hl
      obtain ⟨p, q, rfl, rfl, rfl⟩ := leafB_str hl
      rw [run_equalIn_string w d t _ _ hu, beq_lists]
  · rename_i n ha _ _ _
    split at hp
    · rename_i T0 hg0
      injection hp with hp
      subst hp
      simp only [eqTB] at hT
      split at hT
      · rename_i a b h1 h2
        injection hT with hT
        exact ⟨_, _, a, b, run_part_agg ha xs off w, run_part_agg ha ys off w, hg _ _ _ _ hg0 h1, h2, hT.symm⟩
      · cases hT
    · cases hp
  · cases hp
theorem eqTOf_ok : ∀ (d : Nat) (t : TypeId) (T : EqT) (xs ys : List Value) (b : Bool) (k : Nat) (w : World), eqTOf P d t = some T → eqTB T xs ys = some b → (Op.equalIn (d + k + 1) t (.agg xs.toArray) (.agg ys.toArray)).run P w = .ok b w
  | 0, t, T, xs, ys, b, k, w, h, hb => by cases h
  | d + 1, t, T, xs, ys, b, k, w, h, hb => by
    have ih := fun t T0 xs ys b => eqTOf_ok d t T0 xs ys b k w
    rw [show d + 1 + k + 1 = (d + k + 1) + 1 by omega]
    unfold eqTOf at h
    split at h
    · rename_i fs hu
      split at h
      · cases h
      · rename_i hst
        have hf : P.fieldsOf t = fs := by simp [Program.fieldsOf, hu]
        rw [run_equalIn_struct w (d + k + 1) t xs.toArray ys.toArray (by rw [hf]; exact hu) hst, hf]
        generalize fs.toList = l at h ⊢
        induction l generalizing T b with
        | nil =>
          simp only [fieldsT, Option.some.injEq] at h
          subst h
          simp only [eqTB, Option.some.injEq] at hb
          subst hb
          rfl
        | cons f r ih2 =>
          unfold fieldsT at h
          split at h
          · rename_i rest hrest
            split at h
            · rename_i hname
              obtain ⟨x, y, a, b', p1, p2, p3, p4, rfl⟩ := part_step h hb w (fun T0 xs ys b hg hb => ih f.type T0 xs ys b hg hb)
              have := ih2 rest b' p4 hrest
              simp only [Op.eqFields, if_pos hname, Sem.run_bind, p1, p2, p3, Result.andThen_ok, Sem.run_ite]
              cases a
              · simp
              · simpa using this
            · rename_i hname
              injection h with h
              subst h
              simp only [Op.eqFields, if_neg hname]
              exact ih2 rest b hb hrest
          · cases h
    · rename_i n e hu
      split at h
      · rename_i i hi
        rw [run_equalIn_array w (d + k + 1) xs.toArray ys.toArray hu hi]
        have hc : P.cellsOf e = i.size := by simp [Program.cellsOf, hi]
        rw [hc]
        generalize List.range n = l at h ⊢
        induction l generalizing T b with
        | nil =>
          simp only [itemsT, Option.some.injEq] at h
          subst h
          simp only [eqTB, Option.some.injEq] at hb
          subst hb
          rfl
        | cons j r ih2 =>
          unfold itemsT at h
          split at h
          · rename_i rest hrest
            obtain ⟨x, y, a, b', p1, p2, p3, p4, rfl⟩ := part_step h hb w (fun T0 xs ys b hg hb => ih e T0 xs ys b hg hb)
            have := ih2 rest b' p4 hrest
            simp only [Op.eqItems, Sem.run_bind, p1, p2, p3, Result.andThen_ok, Sem.run_ite]
            cases a
            · simp
            · simpa using this
          · cases h
      · cases h
    · cases h

/-- A binary operation that touches no memory. -/
theorem cBin_ok {o : Oper} {op : BinOp} {t : TypeId} {x y : Operand} {p : PX} (hc : cBin P o op t x y = .pure p) (h : xpure p l K) :
    Yld P (do eqGuard op t x y (ev l x) (ev l y); binOp op t (ev l x) (ev l y)) K := by
  have SL : ∀ (neg : Bool) (e : TypeId), P.underlying t = some (.slice e) → xpure (.eqSl neg x y) l K → op = eqOp neg → Yld P (do eqGuard op t x y (ev l x) (ev l y); binOp op t (ev l x) (ev l y)) K := by
    intro neg e hu h ho
    simp only [xpure] at h
    split at h
    · rename_i hx hy
      rw [hx, hy]
      exact eqSl_ok neg x y _ _ _ _ _ _ _ (fun w => eqIn_slnil w hu _ _ _ _ _ _) h op ho
    · rename_i hx hy
      rw [hx, hy]
      exact eqSl_ok neg x y _ _ _ _ _ _ _ (fun w => eqIn_slsome w hu _ _ _ _ _ _) (by cases neg <;> exact h) op ho
    · exact h.elim
  have PT : ∀ (neg : Bool) (e : TypeId), P.underlying t = some (.pointer e) → xpure (.eqNilPtr neg x y) l K → op = eqOp neg → Yld P (do eqGuard op t x y (ev l x) (ev l y); binOp op t (ev l x) (ev l y)) K := by
    intro neg e hu h ho
    simp only [xpure] at h
    split at h
    · rename_i hx hy
      rw [hx, hy]
      exact ⟨_, fun w => eqPtr_ok neg x y _ _ _ w w (eqIn_ptrnil w hu _ _) op ho, negK_ok h⟩
    · rename_i hx hy
      rw [hx, hy]
      exact ⟨_, fun w => eqPtr_ok neg x y _ _ _ w w (eqIn_ptrsome w hu _ _) op ho, by cases neg <;> exact h⟩
    · exact h.elim
  have BO : ∀ (neg : Bool), P.underlying t = some .bool → xpure (.eqBool neg x y) l K → op = eqOp neg → Yld P (do eqGuard op t x y (ev l x) (ev l y); binOp op t (ev l x) (ev l y)) K := by
    intro neg hu h ho
    simp only [xpure] at h
    split at h
    · rename_i hx hy
      rw [hx, hy]
      exact eqBool_ok hu neg x y _ _ h op ho
    · exact h.elim
  have AG : eqAggOf P o op t x y = .pure p → Yld P (do eqGuard op t x y (ev l x) (ev l y); binOp op t (ev l x) (ev l y)) K := by
    intro hc
    have go : ∀ (neg : Bool) (T : EqT), eqTOf P 20 t = some T → P.eqGuardType P.depth t = false → xpure (.eqAgg neg T x y) l K → op = eqOp neg → Yld P (do eqGuard op t x y (ev l x) (ev l y); binOp op t (ev l x) (ev l y)) K := by
      intro neg T hT hG h ho
      simp only [xpure] at h
      split at h
      · rename_i xs ys hx hy
        obtain ⟨b, h1, h2⟩ := eqTK_ok T h
        rw [hx, hy]
        refine ⟨_, fun w => ?_, negK_ok h2⟩
        have hr : (Op.equalIn 10000 t (.agg xs.toArray) (.agg ys.toArray)).run P w = .ok b w := eqTOf_ok (P := P) 20 t T xs ys b 9979 w hT h1
        subst ho
        cases neg
        · simp only [eqOp, negB, Sem.run_bind, run_eqGuard_agg w .eql t x y xs.toArray ys.toArray hG, Result.andThen_ok]
          rw [run_eql_struct w t, hr]; rfl
        · simp only [eqOp, negB, Sem.run_bind, run_eqGuard_agg w .neq t x y xs.toArray ys.toArray hG, Result.andThen_ok]
          rw [run_neq_struct w t, hr]; rfl
      · exact h.elim
    unfold eqAggOf at hc
    split at hc
    · rename_i T hT hG _
      injection hc with hc; subst hc; exact go false T hT hG h rfl
    · rename_i T hT hG _
      injection hc with hc; subst hc; exact go true T hT hG h rfl
    · cases hc
  unfold cBin at hc
  split at hc
  · injection hc with hc; subst hc
    simp only [xpure] at h
    split at h
    · rename_i k a k' b hx hy
      obtain ⟨v, h1, h2⟩ := bin_ok (P := P) t h
      exact ⟨v, fun w => by simp only [hx, hy, Sem.run_bind, eqGuard_int, Result.andThen_ok, h1], h2⟩
    · exact h.elim
  · injection hc with hc; subst hc
    simp only [xpure] at h
    split at h
    · rename_i a b hx hy
      obtain ⟨v, h1, h2⟩ := str_ok (P := P) t h
      exact ⟨v, fun w => by simp only [hx, hy, Sem.run_bind, eqGuard_str, Result.andThen_ok, h1], h2⟩
    · exact h.elim
  · rename_i hu
    split at hc
    · injection hc with hc; subst hc; exact BO false hu h rfl
    · injection hc with hc; subst hc; exact BO true hu h rfl
    · cases hc
  · rename_i e hu
    split at hc
    · injection hc with hc; subst hc; exact SL false e hu h rfl
    · injection hc with hc; subst hc; exact SL true e hu h rfl
    · cases hc
  · rename_i e hu
    split at hc
    · split at hc
      · injection hc with hc; subst hc; exact PT false e hu h rfl
      · cases hc
      · cases hc
    · split at hc
      · injection hc with hc; subst hc; exact PT true e hu h rfl
      · cases hc
      · cases hc
    · cases hc
  · exact AG hc
  · exact AG hc
  · cases hc
end
end Go.Proofs.Ytkegkhhfbfegoaa.Sx
