/- Sx, part R: maps: made, looked up, written. -/
import Derived.Test.YtkegkhhfbfegoaaSxQ
import Derived.MapKept
set_option linter.unusedVariables false
set_option linter.unusedSimpArgs false
namespace Go.Proofs.Ytkegkhhfbfegoaa.Sx
open Go.RowKit Go.MapKept
/-- One entry of a map: its key, its value, when it came. -/
structure Ent (κ : Type) where
  key : κ
  val : Value
  born : Nat
def Ent.of {κ : Type} (f : κ → Value) (x : Ent κ) : MapEntry := { key := f x.key, val := x.val, born := x.born }
/-- A map in memory. -/
def mapB {κ : Type} (f : κ → Value) (l : List (Ent κ)) (c : Nat) : Blk := .obj (.map (l.map (Ent.of f)).toArray c)
/-- Keys of a kind. -/
structure Keys {κ : Type} (d : TypeDesc) (f : κ → Value) : Prop where
  is : ∀ a, IsKey d (f a)
  inj : ∀ a b, f a = f b → a = b
/-- What a map's type says. -/
noncomputable def mapTy (P : Program) (t k e : TypeId) (d : TypeDesc) (zv : Value) : Prop :=
  P.underlying t = some (.map k e) ∧ P.underlying k = some d ∧ ∃ i, P.info? e = some i ∧ i.zero = some zv
theorem run_zero_of {P : Program} {w : World} {e : TypeId} {i : TypeInfo} {zv : Value} (hi : P.info? e = some i) (hz : i.zero = some zv) : (zeroValue e).run P w = .ok zv w := by
  simp [zeroValue, typeInfo, hi, hz, Result.andThen]
section
variable {P : Program} {o : Oper} {t k e : TypeId} {d : TypeDesc} {H A B : Heap} {K : Value → Heap → Prop} {zv : Value} {κ : Type} {f : κ → Value} {l : List (Ent κ)} {c r : Nat} {a : κ} {xm xk xv : Operand}
theorem mapTy.of {i : TypeInfo} (h1 : P.underlying t = some (.map k e)) (h2 : P.underlying k = some d) (h3 : (P.info? e).bind (·.zero) = some zv) : mapTy P t k e d zv := by
  refine ⟨h1, h2, ?_⟩
  cases hi : P.info? e with
  | none => rw [hi] at h3; cases h3
  | some i => rw [hi] at h3; exact ⟨i, rfl, h3⟩
theorem RawV.mkMap (f : κ → Value) (ho : o.op = .makeMap t none) (h : ∀ r, K (.map (some r)) ((r, mapB f [] 0) :: H)) : RawV P o [] H K := by
  refine ⟨fun ρ w hm hw => .inl ?_⟩
  have hex : execOp ρ o = (Instr.makeMap t none >>= fun v => pure (.value v)) := by
    simp only [execOp, ho, Option.map_none]
  have hr : (Instr.makeMap t none).run P w = .ok (.map (some w.heap.size)) (w.alloc (.map #[] 0)) := by
    simp [Instr.makeMap, Result.andThen]
  have hal := hw.alloc (.map #[] 0) (mapB f [] 0) ⟨by rw [heap_alloc_new]; rfl, rfl⟩
  exact ⟨_, _, _, .inl (by rw [hex, Sem.run_bind, hr]; rfl), hal.1, hal.2, h _⟩
theorem ents_keys (hk : Keys d f) (l : List (Ent κ)) : ∀ x ∈ l.map (Ent.of f), IsKey d x.key := by
  intro x hx
  obtain ⟨y, _, rfl⟩ := List.mem_map.1 hx
  exact hk.is y.key
/-- What a look-up finds. -/
theorem find_ents (hk : Keys d f) (l : List (Ent κ)) (a : κ) :
    (Instr.findNow d (f a) (l.map (Ent.of f)) 0 = some none ∧ ∀ x ∈ l, x.key ≠ a) ∨ ∃ j x, Instr.findNow d (f a) (l.map (Ent.of f)) 0 = some (some (j, x.val)) ∧ l[j]? = some x ∧ x.key = a := by
  rcases findNow_spec (hk.is a) (l.map (Ent.of f)) 0 (ents_keys hk l) with ⟨h1, h2⟩ | ⟨j, e', h1, h2, h3⟩
  · exact .inl ⟨h1, fun x hx e => h2 _ (List.mem_map_of_mem hx) (by show f x.key = f a; rw [e])⟩
  · rw [List.getElem?_map] at h2
    cases hx : l[j]? with
    | none => rw [hx] at h2; cases h2
    | some x =>
      rw [hx] at h2
      injection h2 with h2
      subst h2
      exact .inr ⟨j, x, by rw [h1, Nat.zero_add]; rfl, hx, hk.inj _ _ h3⟩
theorem map_at {w : World} (hw : Holds w H) (hm : (r, mapB f l c) ∈ H) : w.heap[r]? = some (.map (l.map (Ent.of f)).toArray c) := (hw.at_ _ hm).1
theorem RawV.look (ho : o.op = .lookup t xm xk false) (ht : mapTy P t k e d zv) (hk : Keys d f) (hm : (r, mapB f l c) ∈ H)
    (h0 : (∀ x ∈ l, x.key ≠ a) → K zv H) (h1 : ∀ (j : Nat) (x : Ent κ), l[j]? = some x → x.key = a → K x.val H) : RawV P o [.map (some r), f a] H K := by
  obtain ⟨t1, t2, i, t3, t4⟩ := ht
  refine ⟨fun ρ w hmm hw => .inl ?_⟩
  rw [ho] at hmm
  have hmm : [ρ xm, ρ xk] = [.map (some r), f a] := hmm
  injection hmm with e1 hmm
  injection hmm with e2 hmm
  have hb := map_at hw hm
  have hex : execOp ρ o = (Instr.lookup t (.map (some r)) (f a) false >>= fun v => pure (.value v)) := by
    simp only [execOp, ho, e1, e2]
  rcases find_ents hk l a with ⟨g1, g2⟩ | ⟨j, x, g1, g2, g3⟩
  · have hr : (Instr.lookup t (.map (some r)) (f a) false).run P w = .ok zv w := by
      simp [Instr.lookup, run_underlying t1, MapKept.run_getObj_map hb, run_checkKey t2 (hk.is a), run_findKey t2 g1, run_zero_of t3 t4, Result.andThen]
    exact ⟨_, _, _, .inl (by rw [hex, Sem.run_bind, hr]; rfl), hw, Step.refl _ _, h0 g2⟩
  · have hr : (Instr.lookup t (.map (some r)) (f a) false).run P w = .ok x.val w := by
      simp [Instr.lookup, run_underlying t1, MapKept.run_getObj_map hb, run_checkKey t2 (hk.is a), run_findKey t2 g1, Result.andThen]
    exact ⟨_, _, _, .inl (by rw [hex, Sem.run_bind, hr]; rfl), hw, Step.refl _ _, h1 j x g2 g3⟩
theorem RawV.look2 (ho : o.op = .lookup t xm xk true) (ht : mapTy P t k e d zv) (hk : Keys d f) (hm : (r, mapB f l c) ∈ H)
    (h0 : (∀ x ∈ l, x.key ≠ a) → K (.tuple ⟨[zv, .bool false]⟩) H) (h1 : ∀ (j : Nat) (x : Ent κ), l[j]? = some x → x.key = a → K (.tuple ⟨[x.val, .bool true]⟩) H) : RawV P o [.map (some r), f a] H K := by
  obtain ⟨t1, t2, i, t3, t4⟩ := ht
  refine ⟨fun ρ w hmm hw => .inl ?_⟩
  rw [ho] at hmm
  have hmm : [ρ xm, ρ xk] = [.map (some r), f a] := hmm
  injection hmm with e1 hmm
  injection hmm with e2 hmm
  have hb := map_at hw hm
  have hex : execOp ρ o = (Instr.lookup t (.map (some r)) (f a) true >>= fun v => pure (.value v)) := by
    simp only [execOp, ho, e1, e2]
  rcases find_ents hk l a with ⟨g1, g2⟩ | ⟨j, x, g1, g2, g3⟩
  · have hr : (Instr.lookup t (.map (some r)) (f a) true).run P w = .ok (.tuple #[zv, .bool false]) w := by
      simp [Instr.lookup, run_underlying t1, MapKept.run_getObj_map hb, run_checkKey t2 (hk.is a), run_findKey t2 g1, run_zero_of t3 t4, Result.andThen]
    exact ⟨_, _, _, .inl (by rw [hex, Sem.run_bind, hr]; rfl), hw, Step.refl _ _, h0 g2⟩
  · have hr : (Instr.lookup t (.map (some r)) (f a) true).run P w = .ok (.tuple #[x.val, .bool true]) w := by
      simp [Instr.lookup, run_underlying t1, MapKept.run_getObj_map hb, run_checkKey t2 (hk.is a), run_findKey t2 g1, Result.andThen]
    exact ⟨_, _, _, .inl (by rw [hex, Sem.run_bind, hr]; rfl), hw, Step.refl _ _, h1 j x g2 g3⟩
theorem Holds.mapPut {w : World} {l' : List (Ent κ)} {c' : Nat} (hw : Holds w (A ++ (r, mapB f l c) :: B)) :
    Holds { w with heap := w.heap.setIfInBounds r (.map (l'.map (Ent.of f)).toArray c') } (A ++ (r, mapB f l' c') :: B) ∧ Step w (A ++ (r, mapB f l c) :: B) { w with heap := w.heap.setIfInBounds r (.map (l'.map (Ent.of f)).toArray c') } (A ++ (r, mapB f l' c') :: B) := by
  have hb : w.heap[r]? = some (.map (l.map (Ent.of f)).toArray c) := hw.mid.1
  obtain ⟨g1, g2⟩ := heap_set (o' := .map (l'.map (Ent.of f)).toArray c') hb
  exact hw.put rfl rfl (by simp) rfl rfl rfl g2 ⟨g1, rfl⟩
theorem RawV.upd (ho : o.op = .mapUpdate t xm xk xv) (ht : mapTy P t k e d zv) (hk : Keys d f) {v : Value}
    (h0 : (∀ x ∈ l, x.key ≠ a) → K undef (A ++ (r, mapB f (l ++ [⟨a, v, c⟩]) (c + 1)) :: B)) (h1 : ∀ (j : Nat) (x : Ent κ), l[j]? = some x → x.key = a → K undef (A ++ (r, mapB f (l.set j ⟨a, v, x.born⟩) c) :: B)) :
    RawV P o [.map (some r), f a, v] (A ++ (r, mapB f l c) :: B) K := by
  obtain ⟨t1, t2, i, t3, t4⟩ := ht
  refine ⟨fun ρ w hmm hw => .inl ?_⟩
  rw [ho] at hmm
  have hmm : [ρ xm, ρ xk, ρ xv] = [.map (some r), f a, v] := hmm
  injection hmm with e1 hmm
  injection hmm with e2 hmm
  injection hmm with e3 hmm
  have hb : w.heap[r]? = some (.map (l.map (Ent.of f)).toArray c) := hw.mid.1
  have hex : execOp ρ o = (Instr.mapUpdate t (.map (some r)) (f a) v >>= fun _ => pure .skip) := by
    simp only [execOp, ho, e1, e2, e3]
  rcases find_ents hk l a with ⟨g1, g2⟩ | ⟨j, x, g1, g2, g3⟩
  · have hr : (Instr.mapUpdate t (.map (some r)) (f a) v).run P w = .ok () { w with heap := w.heap.setIfInBounds r (.map ((l ++ [(⟨a, v, c⟩ : Ent κ)]).map (Ent.of f)).toArray (c + 1)) } := by
      have e : (l.map (Ent.of f)).toArray.push { key := f a, val := v, born := c } = ((l ++ [(⟨a, v, c⟩ : Ent κ)]).map (Ent.of f)).toArray := by
        simp [Ent.of]
      simp only [Instr.mapUpdate, Sem.run_bind, run_underlying t1, MapKept.run_getObj_map hb, run_checkKey t2 (hk.is a), run_findKey t2 g1, Result.andThen]
      rw [e]
      exact MapKept.run_setObj_map _ hb
    obtain ⟨q1, q2⟩ := hw.mapPut (l' := l ++ [⟨a, v, c⟩]) (c' := c + 1)
    exact ⟨_, _, _, .inr ⟨by rw [hex, Sem.run_bind, hr]; rfl, rfl⟩, q1, q2, h0 g2⟩
  · have hr : (Instr.mapUpdate t (.map (some r)) (f a) v).run P w = .ok () { w with heap := w.heap.setIfInBounds r (.map ((l.set j (⟨a, v, x.born⟩ : Ent κ)).map (Ent.of f)).toArray c) } := by
      have hj : (l.map (Ent.of f)).toArray[j]? = some (Ent.of f x) := by simp [g2]
      have e : ((l.map (Ent.of f)).toArray.modify j fun e => { e with key := f a, val := v }) = ((l.set j (⟨a, v, x.born⟩ : Ent κ)).map (Ent.of f)).toArray := by
        apply Array.ext_getElem?
        intro m
        rw [Array.getElem?_modify]
        simp only [List.getElem?_toArray, List.getElem?_map, List.getElem?_set]
        by_cases hm : j = m
        · subst hm
          obtain ⟨hlt, hg⟩ := List.getElem?_eq_some_iff.1 g2
          simp [hlt, Ent.of, hg]
        · simp [hm]
      have hx : (Ent.of f x).key = f a := by show f x.key = f a; rw [g3]
      simp only [Instr.mapUpdate, Sem.run_bind, run_underlying t1, MapKept.run_getObj_map hb, run_checkKey t2 (hk.is a), run_findKey t2 g1, hj, Option.map_some, Option.getD_some, hx, run_keyThatStays (hk.is a), Result.andThen]
      rw [e]
      exact MapKept.run_setObj_map _ hb
    obtain ⟨q1, q2⟩ := hw.mapPut (l' := l.set j ⟨a, v, x.born⟩) (c' := c)
    exact ⟨_, _, _, .inr ⟨by rw [hex, Sem.run_bind, hr]; rfl, rfl⟩, q1, q2, h1 j x g2 g3⟩
end
theorem keysInt (q : IntKind) : Keys (.int q) (Value.int q) := ⟨fun a => by simp [IsKey], fun a b h => by injection h⟩
theorem keysStr : Keys .string Value.string := ⟨fun a => by simp [IsKey], fun a b h => by injection h⟩
end Go.Proofs.Ytkegkhhfbfegoaa.Sx
