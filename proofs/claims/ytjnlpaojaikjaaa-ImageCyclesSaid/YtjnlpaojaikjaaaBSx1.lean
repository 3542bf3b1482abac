/- Sx, part P: functions without a body; clear. -/
import Derived.Test.YtjnlpaojaikjaaaBSx
import Derived.Laws.Externs
import Derived.Laws.MakeOwn
import Derived.MapKept
import Derived.Laws.Small
import Derived.Laws.IdiomCopy

set_option linter.unusedVariables false
set_option linter.unusedSimpArgs false
namespace Go.Proofs.Ytjnlpaojaikjaaa.Sx
open Go.RowKit
section
variable {P : Program} {o : Oper} {H : Heap} {K : Value → Heap → Prop} {f : FuncId} {as : Array Operand} {ts : Array TypeId} {vs : List Value}
theorem map_tail {ρ : Operand → Value} {l : List Operand} {x : Operand} {u : Value} {vs : List Value} (h : (x :: l).map ρ = u :: vs) : l.map ρ = vs := by
  injection h
/-- A function without a body that answers at once. -/
theorem RawV.extern {fn : Func} {e : Array Value → Sem Value} {v : Value} (ho : o.op = .call { callee := .value (.func f), args := as, argTypes := ts }) (hf : P.funcs[f]? = some fn) (hname : (fn.name == "runtime.NumGoroutine") = false)
    (hb : fn.body.isNone = true) (hn : Extern.findNext fn = none) (he : Extern.find fn = some e) (hrun : ∀ w, (e vs.toArray).run P w = .ok v w) (h : K v H) : RawV P o (.func (.func f) ⟨[]⟩ ⟨[]⟩ :: vs) H K := by
  refine ⟨fun ρ w hm hw => .inl ⟨v, w, H, .inl ?_, hw, Step.refl _ _, h⟩⟩
  have hm : (.func f :: as.toList).map ρ = .func (.func f) ⟨[]⟩ ⟨[]⟩ :: vs := by
    rw [ho] at hm
    simpa [Op.operands, Call.operands] using hm
  have e1 : ρ (.func f) = .func (.func f) #[] #[] := by injection hm
  have e2 : as.toList.map ρ = vs := map_tail hm
  have e3 : as.map ρ = vs.toArray := Array.ext' (by simpa using e2)
  simp only [execOp, resolve, ho, e1, Deferred.ofValue, Sem.run_bind, Sem.run_pure, Result.andThen_ok, invoke, Array.empty_append, Array.append_empty, e3]
  rw [run_callFunc_extern hf hname hb hn he, hrun]
  rfl
/-- A type's zero value is of cells. -/
noncomputable def zOk (P : Program) (e : TypeId) : Bool := match P.info? e with
  | some i => (match i.zero with | some z => z.cells.toList.all Value.oneCell' | none => true)
  | none => true
theorem zOk_spec {P : Program} {e : TypeId} (h : zOk P e = true) : ∀ i z, P.info? e = some i → i.zero = some z → ∀ u ∈ z.cells.toList, u.oneCell' = true := by
  intro i z hi hz u hu
  unfold zOk at h
  rw [hi] at h
  dsimp only at h
  rw [hz] at h
  exact List.all_eq_true.1 h u hu
/-- A slice of the call's own is cleared (from cell o on). -/
theorem RawV.clear {t e : TypeId} {x : Operand} {A B : Heap} {r n c N o' size bytes : Nat} {cs : List Value} (ho : o.op = .call { callee := .builtin .clear, args := #[x], argTypes := #[t] })
    (ht : tyOk P t e size bytes = true) (h0 : ∀ i z, P.info? e = some i → i.zero = some z → ∀ u ∈ z.cells.toList, u.oneCell' = true) (hsz : 0 < size) (hl : o' + n * size ≤ cs.length)
    (h : ∀ ys : List Value, ys.length = n * size → K (.tuple ⟨[]⟩) (A ++ (r, .buf e (cs.take o' ++ ys ++ cs.drop (o' + n * size)) N) :: B)) :
    RawV P o [.slice (some ⟨r, o', none⟩) n c] (A ++ (r, .buf e cs N) :: B) K := by
  obtain ⟨h3, i, z, h4, h5, h6, rfl, rfl⟩ := tyOk_spec ht
  have hone := h0 i z h4 h5
  refine ⟨fun ρ w hm hw => .inl ?_⟩
  have hm' : [ρ x] = [.slice (some ⟨r, o', none⟩) n c] := by
    rw [ho] at hm
    exact hm
  have e1 : ρ x = .slice (some ⟨r, o', none⟩) n c := by injection hm'
  have hex : execOp ρ o = (Builtin.clear_ #[t] o.type #[.slice (some ⟨r, o', none⟩) n c] >>= fun v => pure (.value v)) := by
    simp only [execOp, ho, resolve, invoke, builtin, List.map_toArray, List.map_cons, List.map_nil, e1]
    rfl
  rw [hex]
  rcases Nat.eq_zero_or_pos n with rfl | hn
  · have hr : (Builtin.clear_ #[t] o.type #[.slice (some ⟨r, o', none⟩) 0 c]).run P w = .ok (.tuple #[]) w := by
      simp [Builtin.clear_, run_underlying h3]
    have h := h [] (by simp)
    simp only [Nat.zero_mul, Nat.add_zero, List.append_nil, List.take_append_drop] at h
    exact ⟨_, w, _, .inl (by rw [Sem.run_bind, hr]; rfl), hw, Step.refl _ _, h⟩
  · obtain ⟨sl, hsl, hg⟩ := (hw.mid : (Blk.buf e cs N).At w r)
    have hz : Builtin.zeroCells z.cells n = (zerosOf z.cells.toList (n * z.cells.size)).toArray := zerosOf_spec z.cells (n * z.cells.size) (fun _ => by omega)
    have hzl : (zerosOf z.cells.toList (n * z.cells.size)).length = n * i.size := by simp [zerosOf, h6]
    have hz1 : ∀ u ∈ zerosOf z.cells.toList (n * z.cells.size), u.oneCell' = true := by
      intro u hu
      simp only [zerosOf, List.mem_map, List.mem_range] at hu
      obtain ⟨j, hj, rfl⟩ := hu
      have hlt : j % z.cells.toList.length < z.cells.toList.length := Nat.mod_lt _ (by simp; omega)
      refine hone _ ?_
      rw [List.getD_eq_getElem?_getD, List.getElem?_eq_getElem hlt]
      exact List.getElem_mem hlt
    generalize zerosOf z.cells.toList (n * z.cells.size) = ys at hz hzl hz1
    have hst := run_storeCells_fz P r o' e (0, 0) ys 0 _ w hg (by simp; omega) (.inl rfl) hz1
    have hr : (Builtin.clear_ #[t] o.type #[.slice (some ⟨r, o', none⟩) n c]).run P w = .ok (.tuple #[]) (w.setRow r ((cs ++ sl).toArray.toList.take (o' + 0) ++ ys ++ (cs ++ sl).toArray.toList.drop (o' + 0 + ys.length)).toArray) := by
      have hn0 : n ≠ 0 := by omega
      obtain ⟨m, rfl⟩ : ∃ m, n = m + 1 := ⟨n - 1, by omega⟩
      simp [Builtin.clear_, run_underlying h3, zeroValue, typeInfo, h4, h5, hz, hst]
    have hcur : (cs ++ sl).toArray.toList.take (o' + 0) ++ ys ++ (cs ++ sl).toArray.toList.drop (o' + 0 + ys.length) = (cs.take o' ++ ys ++ cs.drop (o' + n * i.size)) ++ sl := by
      rw [Nat.add_zero, hzl]
      have : o' ≤ cs.length := by omega
      rw [List.take_append_of_le_length (by omega), List.drop_append_of_le_length hl]
      simp [List.append_assoc]
    rw [hcur] at hr
    have hput := hw.put (w' := w.setRow r ((cs.take o' ++ ys ++ cs.drop (o' + n * i.size)) ++ sl).toArray) (b' := .buf e (cs.take o' ++ ys ++ cs.drop (o' + n * i.size)) N) rfl rfl (by simp) rfl rfl rfl (fun k hk => setRow_other w r k _ hk)
      ⟨sl, by simp only [List.length_append, List.length_take, List.length_drop, hzl]; omega, setRow_heap w r _ _ e (0, 0) hg⟩
    exact ⟨_, _, _, .inl (by rw [Sem.run_bind, hr]; rfl), hput.1, hput.2, h ys hzl⟩
end
/-- All cells of one element are written. -/
theorem Put.flatAll {α : Type} {f : α → List Value} {k : Nat} (hk : ∀ x, (f x).length = k) {L : List α} {j N o : Nat} {x : α} {t : TypeId} {K : Blk → Prop} (x' : α) (hj : L[j]? = some x) (ho : o = j * k)
    (h : K (.buf t ((L.set j x').flatMap f) N)) : Put (.buf t (L.flatMap f) N) o (f x') K := by
  subst ho
  have hlt := (List.getElem?_eq_some_iff.1 hj).1
  have hle : j * k + k ≤ (L.flatMap f).length := by
    rw [flat_len hk]
    have : (j + 1) * k ≤ L.length * k := Nat.mul_le_mul_right _ hlt
    rw [Nat.add_mul] at this; omega
  refine ⟨_, ⟨by rw [hk]; exact hle, rfl⟩, ?_⟩
  have e : (L.flatMap f).take (j * k) ++ f x' ++ (L.flatMap f).drop (j * k + (f x').length) = (L.set j x').flatMap f := by
    have hl : ((L.take j).flatMap f).length = j * k := by rw [flat_len hk]; simp [Nat.min_eq_left (Nat.le_of_lt hlt)]
    rw [list_set hj, List.flatMap_append, List.flatMap_cons]
    conv => lhs; rw [list_split hj]
    rw [List.flatMap_append, List.flatMap_cons, hk, ← hl, List.take_left', ← hk x, ← List.length_append, ← List.append_assoc, List.drop_left', List.append_assoc]
    · rfl
    · rfl
  rw [e]
  exact h
end Go.Proofs.Ytjnlpaojaikjaaa.Sx

/- Sx, part Q: make; lists of whole numbers in a buffer. -/
set_option linter.unusedVariables false
set_option linter.unusedSimpArgs false
namespace Go.Proofs.Ytjnlpaojaikjaaa.Sx
open Go.RowKit
section
variable {P : Program} {o : Oper} {t e : TypeId} {xl xc : Operand} {H : Heap} {n bytes : Nat} {K : Value → Heap → Prop} {zv : Value}
theorem made_one (n : Nat) : madeCells #[zv] n = (List.replicate n zv).toArray := by
  apply Array.ext'
  simp only [madeCells, Array.toList_map, Array.toList_range]
  refine List.ext_getElem (by simp) fun i h1 h2 => ?_
  simp [Nat.mod_one]
/-- A slice of n elements of one cell each. -/
theorem RawV.make1 {k : IntKind} (ho : o.op = .makeSlice t xl xc) (ht : tyOk P t e 1 bytes = true) (hz : (P.info? e).bind (·.zero) = some zv) (hc : zv.cells = #[zv]) (hb : bytes * n ≤ 281474976710656) (hn : n ≤ maxLen)
    (h : ∀ r, K (.slice (some ⟨r, 0, none⟩) n n) ((r, .buf e (List.replicate n zv) n) :: H)) : RawV P o [.int k (n : Int), .int k (n : Int)] H K := by
  obtain ⟨h3, i, z, h4, h5, h6, h7, rfl⟩ := tyOk_spec ht
  rw [h4] at hz
  simp only [Option.bind_some] at hz
  rw [h5] at hz
  injection hz with hz
  subst hz
  refine ⟨fun ρ w hm hw => .inl ?_⟩
  rw [ho] at hm
  have hm : [ρ xl, ρ xc] = [.int k (n : Int), .int k (n : Int)] := hm
  injection hm with e1 hm
  injection hm with e2 hm
  have hex : execOp ρ o = (Instr.makeSlice t (.int k (n : Int)) (.int k (n : Int)) >>= fun v => pure (.value v)) := by
    simp only [execOp, ho, e1, e2]
  have hn63 : (n : Int) ≤ 9223372036854775807 := by simp only [maxLen] at hn; omega
  have hb' : (i.bytes : Int) * (n : Int) ≤ 281474976710656 := by
    have h : ((i.bytes * n : Nat) : Int) ≤ 281474976710656 := by omega
    rwa [Int.natCast_mul] at h
  have hr := run_make (P := P) w t e i z h3 h4 h5 k k (n : Int) (n : Int) (by omega) (Int.le_refl _) hb' hn63
  rw [hc, h7, Int.toNat_natCast, Nat.mul_one, made_one] at hr
  have hal := hw.alloc (.cells (List.replicate n z).toArray e) (.buf e (List.replicate n z) n) ⟨[], by simp, by rw [heap_alloc_new, List.append_nil]⟩
  exact ⟨_, _, _, .inl (by rw [hex, Sem.run_bind, hr]; rfl), hal.1, hal.2, h _⟩
end
section
variable {t : TypeId} {N j : Nat} {xs : List Int} {k : IntKind} {v : Int}
theorem Cell.nthI {K : Value → Prop} (hj : xs[j]? = some v) (h : K (.int k v)) : Cell (.buf t (xs.map (Value.int k)) N) (0 + j * 1) K :=
  Cell.get (by show (xs.map (Value.int k))[0 + j * 1]? = _; simp [hj]) h
theorem Put.nthI {K : Blk → Prop} (hj : j < xs.length) (h : K (.buf t ((xs.set j v).map (Value.int k)) N)) : Put (.buf t (xs.map (Value.int k)) N) (0 + j * 1) [.int k v] K := by
  refine ⟨_, ⟨?_, rfl⟩, ?_⟩
  · simp; omega
  · have e : (xs.map (Value.int k)).take (0 + j * 1) ++ [.int k v] ++ (xs.map (Value.int k)).drop (0 + j * 1 + [Value.int k v].length) = (xs.set j v).map (Value.int k) := by
      rw [Nat.zero_add, Nat.mul_one, List.map_set, List.set_eq_take_append_cons_drop, if_pos (by simpa using hj)]
      simp
    rw [e]; exact h
theorem map_set_same {α β : Type} {f : α → β} {l : List α} {i : Nat} {x x' : α} (hj : l[i]? = some x) (hf : f x' = f x) : (l.set i x').map f = l.map f := by
  rw [List.map_set, hf]
  obtain ⟨hlt, rfl⟩ := List.getElem?_eq_some_iff.1 hj
  conv => rhs; rw [← List.set_getElem_self (as := l.map f) (i := i) (by simpa using hlt)]
  simp
end
end Go.Proofs.Ytjnlpaojaikjaaa.Sx

/- Sx, part R: maps: made, looked up, written. -/
set_option linter.unusedVariables false
set_option linter.unusedSimpArgs false
namespace Go.Proofs.Ytjnlpaojaikjaaa.Sx
open Go.RowKit Go.MapKept
/-- One entry of a map: its key, its value, when it came. -/
structure Ent (κ : Type) where
  key : κ
  val : Value
  born : Nat
def Ent.of {κ : Type} (f : κ → Value) (x : Ent κ) : MapEntry := { key := f x.key, val := x.val, born := x.born }
/-- A map in memory. -/
def mapB {κ : Type} (f : κ → Value) (l : List (Ent κ)) (c : Nat) : Blk := .obj (.map (l.map (Ent.of f)).toArray c)
/-- Keys of a kind. -/
structure Keys {κ : Type} (d : TypeDesc) (f : κ → Value) : Prop where
  is : ∀ a, IsKey d (f a)
  inj : ∀ a b, f a = f b → a = b
/-- What a map's type says. -/
noncomputable def mapTy (P : Program) (t k e : TypeId) (d : TypeDesc) (zv : Value) : Prop :=
  P.underlying t = some (.map k e) ∧ P.underlying k = some d ∧ ∃ i, P.info? e = some i ∧ i.zero = some zv
theorem run_zero_of {P : Program} {w : World} {e : TypeId} {i : TypeInfo} {zv : Value} (hi : P.info? e = some i) (hz : i.zero = some zv) : (zeroValue e).run P w = .ok zv w := by
  simp [zeroValue, typeInfo, hi, hz, Result.andThen]
section
variable {P : Program} {o : Oper} {t k e : TypeId} {d : TypeDesc} {H A B : Heap} {K : Value → Heap → Prop} {zv : Value} {κ : Type} {f : κ → Value} {l : List (Ent κ)} {c r : Nat} {a : κ} {xm xk xv : Operand}
theorem mapTy.of {i : TypeInfo} (h1 : P.underlying t = some (.map k e)) (h2 : P.underlying k = some d) (h3 : (P.info? e).bind (·.zero) = some zv) : mapTy P t k e d zv := by
  refine ⟨h1, h2, ?_⟩
  cases hi : P.info? e with
  | none => rw [hi] at h3; cases h3
  | some i => rw [hi] at h3; exact ⟨i, rfl, h3⟩
theorem RawV.mkMap (f : κ → Value) (ho : o.op = .makeMap t none) (h : ∀ r, K (.map (some r)) ((r, mapB f [] 0) :: H)) : RawV P o [] H K := by
  refine ⟨fun ρ w hm hw => .inl ?_⟩
  have hex : execOp ρ o = (Instr.makeMap t none >>= fun v => pure (.value v)) := by
    simp only [execOp, ho, Option.map_none]
  have hr : (Instr.makeMap t none).run P w = .ok (.map (some w.heap.size)) (w.alloc (.map #[] 0)) := by
    simp [Instr.makeMap, Result.andThen]
  have hal := hw.alloc (.map #[] 0) (mapB f [] 0) ⟨by rw [heap_alloc_new]; rfl, rfl⟩
  exact ⟨_, _, _, .inl (by rw [hex, Sem.run_bind, hr]; rfl), hal.1, hal.2, h _⟩
theorem ents_keys (hk : Keys d f) (l : List (Ent κ)) : ∀ x ∈ l.map (Ent.of f), IsKey d x.key := by
  intro x hx
  obtain ⟨y, _, rfl⟩ := List.mem_map.1 hx
  exact hk.is y.key
/-- What a look-up finds. -/
theorem find_ents (hk : Keys d f) (l : List (Ent κ)) (a : κ) :
    (Instr.findNow d (f a) (l.map (Ent.of f)) 0 = some none ∧ ∀ x ∈ l, x.key ≠ a) ∨ ∃ j x, Instr.findNow d (f a) (l.map (Ent.of f)) 0 = some (some (j, x.val)) ∧ l[j]? = some x ∧ x.key = a := by
  rcases findNow_spec (hk.is a) (l.map (Ent.of f)) 0 (ents_keys hk l) with ⟨h1, h2⟩ | ⟨j, e', h1, h2, h3⟩
  · exact .inl ⟨h1, fun x hx e => h2 _ (List.mem_map_of_mem hx) (by show f x.key = f a; rw [e])⟩
  · rw [List.getElem?_map] at h2
    cases hx : l[j]? with
    | none => rw [hx] at h2; cases h2
    | some x =>
      rw [hx] at h2
      injection h2 with h2
      subst h2
      exact .inr ⟨j, x, by rw [h1, Nat.zero_add]; rfl, hx, hk.inj _ _ h3⟩
theorem map_at {w : World} (hw : Holds w H) (hm : (r, mapB f l c) ∈ H) : w.heap[r]? = some (.map (l.map (Ent.of f)).toArray c) := (hw.at_ _ hm).1
theorem RawV.look (ho : o.op = .lookup t xm xk false) (ht : mapTy P t k e d zv) (hk : Keys d f) (hm : (r, mapB f l c) ∈ H)
    (h0 : (∀ x ∈ l, x.key ≠ a) → K zv H) (h1 : ∀ (j : Nat) (x : Ent κ), l[j]? = some x → x.key = a → K x.val H) : RawV P o [.map (some r), f a] H K := by
  obtain ⟨t1, t2, i, t3, t4⟩ := ht
  refine ⟨fun ρ w hmm hw => .inl ?_⟩
  rw [ho] at hmm
  have hmm : [ρ xm, ρ xk] = [.map (some r), f a] := hmm
  injection hmm with e1 hmm
  injection hmm with e2 hmm
  have hb := map_at hw hm
  have hex : execOp ρ o = (Instr.lookup t (.map (some r)) (f a) false >>= fun v => pure (.value v)) := by
    simp only [execOp, ho, e1, e2]
  rcases find_ents hk l a with ⟨g1, g2⟩ | ⟨j, x, g1, g2, g3⟩
  · have hr : (Instr.lookup t (.map (some r)) (f a) false).run P w = .ok zv w := by
      simp [Instr.lookup, run_underlying t1, MapKept.run_getObj_map hb, run_checkKey t2 (hk.is a), run_findKey t2 g1, run_zero_of t3 t4, Result.andThen]
    exact ⟨_, _, _, .inl (by rw [hex, Sem.run_bind, hr]; rfl), hw, Step.refl _ _, h0 g2⟩
  · have hr : (Instr.lookup t (.map (some r)) (f a) false).run P w = .ok x.val w := by
      simp [Instr.lookup, run_underlying t1, MapKept.run_getObj_map hb, run_checkKey t2 (hk.is a), run_findKey t2 g1, Result.andThen]
    exact ⟨_, _, _, .inl (by rw [hex, Sem.run_bind, hr]; rfl), hw, Step.refl _ _, h1 j x g2 g3⟩
theorem RawV.look2 (ho : o.op = .lookup t xm xk true) (ht : mapTy P t k e d zv) (hk : Keys d f) (hm : (r, mapB f l c) ∈ H)
    (h0 : (∀ x ∈ l, x.key ≠ a) → K (.tuple ⟨[zv, .bool false]⟩) H) (h1 : ∀ (j : Nat) (x : Ent κ), l[j]? = some x → x.key = a → K (.tuple ⟨[x.val, .bool true]⟩) H) : RawV P o [.map (some r), f a] H K := by
  obtain ⟨t1, t2, i, t3, t4⟩ := ht
  refine ⟨fun ρ w hmm hw => .inl ?_⟩
  rw [ho] at hmm
  have hmm : [ρ xm, ρ xk] = [.map (some r), f a] := hmm
  injection hmm with e1 hmm
  injection hmm with e2 hmm
  have hb := map_at hw hm
  have hex : execOp ρ o = (Instr.lookup t (.map (some r)) (f a) true >>= fun v => pure (.value v)) := by
    simp only [execOp, ho, e1, e2]
  rcases find_ents hk l a with ⟨g1, g2⟩ | ⟨j, x, g1, g2, g3⟩
  · have hr : (Instr.lookup t (.map (some r)) (f a) true).run P w = .ok (.tuple #[zv, .bool false]) w := by
      simp [Instr.lookup, run_underlying t1, MapKept.run_getObj_map hb, run_checkKey t2 (hk.is a), run_findKey t2 g1, run_zero_of t3 t4, Result.andThen]
    exact ⟨_, _, _, .inl (by rw [hex, Sem.run_bind, hr]; rfl), hw, Step.refl _ _, h0 g2⟩
  · have hr : (Instr.lookup t (.map (some r)) (f a) true).run P w = .ok (.tuple #[x.val, .bool true]) w := by
      simp [Instr.lookup, run_underlying t1, MapKept.run_getObj_map hb, run_checkKey t2 (hk.is a), run_findKey t2 g1, Result.andThen]
    exact ⟨_, _, _, .inl (by rw [hex, Sem.run_bind, hr]; rfl), hw, Step.refl _ _, h1 j x g2 g3⟩
theorem Holds.mapPut {w : World} {l' : List (Ent κ)} {c' : Nat} (hw : Holds w (A ++ (r, mapB f l c) :: B)) :
    Holds { w with heap := w.heap.setIfInBounds r (.map (l'.map (Ent.of f)).toArray c') } (A ++ (r, mapB f l' c') :: B) ∧ Step w (A ++ (r, mapB f l c) :: B) { w with heap := w.heap.setIfInBounds r (.map (l'.map (Ent.of f)).toArray c') } (A ++ (r, mapB f l' c') :: B) := by
  have hb : w.heap[r]? = some (.map (l.map (Ent.of f)).toArray c) := hw.mid.1
  obtain ⟨g1, g2⟩ := heap_set (o' := .map (l'.map (Ent.of f)).toArray c') hb
  exact hw.put rfl rfl (by simp) rfl rfl rfl g2 ⟨g1, rfl⟩
theorem RawV.upd (ho : o.op = .mapUpdate t xm xk xv) (ht : mapTy P t k e d zv) (hk : Keys d f) {v : Value}
    (h0 : (∀ x ∈ l, x.key ≠ a) → K undef (A ++ (r, mapB f (l ++ [⟨a, v, c⟩]) (c + 1)) :: B)) (h1 : ∀ (j : Nat) (x : Ent κ), l[j]? = some x → x.key = a → K undef (A ++ (r, mapB f (l.set j ⟨a, v, x.born⟩) c) :: B)) :
    RawV P o [.map (some r), f a, v] (A ++ (r, mapB f l c) :: B) K := by
  obtain ⟨t1, t2, i, t3, t4⟩ := ht
  refine ⟨fun ρ w hmm hw => .inl ?_⟩
  rw [ho] at hmm
  have hmm : [ρ xm, ρ xk, ρ xv] = [.map (some r), f a, v] := hmm
  injection hmm with e1 hmm
  injection hmm with e2 hmm
  injection hmm with e3 hmm
  have hb : w.heap[r]? = some (.map (l.map (Ent.of f)).toArray c) := hw.mid.1
  have hex : execOp ρ o = (Instr.mapUpdate t (.map (some r)) (f a) v >>= fun _ => pure .skip) := by
    simp only [execOp, ho, e1, e2, e3]
  rcases find_ents hk l a with ⟨g1, g2⟩ | ⟨j, x, g1, g2, g3⟩
  · have hr : (Instr.mapUpdate t (.map (some r)) (f a) v).run P w = .ok () { w with heap := w.heap.setIfInBounds r (.map ((l ++ [(⟨a, v, c⟩ : Ent κ)]).map (Ent.of f)).toArray (c + 1)) } := by
      have e : (l.map (Ent.of f)).toArray.push { key := f a, val := v, born := c } = ((l ++ [(⟨a, v, c⟩ : Ent κ)]).map (Ent.of f)).toArray := by
        simp [Ent.of]
      simp only [Instr.mapUpdate, Sem.run_bind, run_underlying t1, MapKept.run_getObj_map hb, run_checkKey t2 (hk.is a), run_findKey t2 g1, Result.andThen]
      rw [e]
      exact MapKept.run_setObj_map _ hb
    obtain ⟨q1, q2⟩ := hw.mapPut (l' := l ++ [⟨a, v, c⟩]) (c' := c + 1)
    exact ⟨_, _, _, .inr ⟨by rw [hex, Sem.run_bind, hr]; rfl, rfl⟩, q1, q2, h0 g2⟩
  · have hr : (Instr.mapUpdate t (.map (some r)) (f a) v).run P w = .ok () { w with heap := w.heap.setIfInBounds r (.map ((l.set j (⟨a, v, x.born⟩ : Ent κ)).map (Ent.of f)).toArray c) } := by
      have hj : (l.map (Ent.of f)).toArray[j]? = some (Ent.of f x) := by simp [g2]
      have e : ((l.map (Ent.of f)).toArray.modify j fun e => { e with key := f a, val := v }) = ((l.set j (⟨a, v, x.born⟩ : Ent κ)).map (Ent.of f)).toArray := by
        apply Array.ext_getElem?
        intro m
        rw [Array.getElem?_modify]
        simp only [List.getElem?_toArray, List.getElem?_map, List.getElem?_set]
        by_cases hm : j = m
        · subst hm
          obtain ⟨hlt, hg⟩ := List.getElem?_eq_some_iff.1 g2
          simp [hlt, Ent.of, hg]
        · simp [hm]
      have hx : (Ent.of f x).key = f a := by show f x.key = f a; rw [g3]
      simp only [Instr.mapUpdate, Sem.run_bind, run_underlying t1, MapKept.run_getObj_map hb, run_checkKey t2 (hk.is a), run_findKey t2 g1, hj, Option.map_some, Option.getD_some, hx, run_keyThatStays (hk.is a), Result.andThen]
      rw [e]
      exact MapKept.run_setObj_map _ hb
    obtain ⟨q1, q2⟩ := hw.mapPut (l' := l.set j ⟨a, v, x.born⟩) (c' := c)
    exact ⟨_, _, _, .inr ⟨by rw [hex, Sem.run_bind, hr]; rfl, rfl⟩, q1, q2, h1 j x g2 g3⟩
end
theorem keysInt (q : IntKind) : Keys (.int q) (Value.int q) := ⟨fun a => by simp [IsKey], fun a b h => by injection h⟩
theorem keysStr : Keys .string Value.string := ⟨fun a => by simp [IsKey], fun a b h => by injection h⟩
end Go.Proofs.Ytjnlpaojaikjaaa.Sx

/- Sx, part S: ranging over a map. -/
set_option linter.unusedVariables false
set_option linter.unusedSimpArgs false
namespace Go.Proofs.Ytjnlpaojaikjaaa.Sx
open Go.RowKit Go.MapKept
section
variable {P : Program} {o : Oper} {t k e : TypeId} {d : TypeDesc} {H A B : Heap} {K : Value → Heap → Prop} {κ : Type} {f : κ → Value} {l : List (Ent κ)} {c r q : Nat} {xm : Operand} {since last : Nat} {seen : List Nat}
/-- An iterator in memory: over the map at r, what it saw. -/
def iterB (r since : Nat) (seen : List Nat) (last : Nat) : Blk := .obj (.mapIter (some r) since seen.toArray last)
theorem RawV.range (ho : o.op = .range t xm) (ht : P.underlying t = some (.map k e)) (hm : (r, mapB f l c) ∈ H) (h : ∀ q, K (.pointer (some ⟨q, 0, none⟩)) ((q, iterB r c [] c) :: H)) : RawV P o [.map (some r)] H K := by
  refine ⟨fun ρ w hmm hw => .inl ?_⟩
  rw [ho] at hmm
  have hmm : [ρ xm] = [.map (some r)] := hmm
  injection hmm with e1 hmm
  have hb := map_at hw hm
  have hex : execOp ρ o = (Instr.range t (.map (some r)) >>= fun v => pure (.value v)) := by
    simp only [execOp, ho, e1]
  have hr : (Instr.range t (.map (some r))).run P w = .ok (.pointer (some ⟨w.heap.size, 0, none⟩)) (w.alloc (.mapIter (some r) c #[] c)) := by
    simp [Instr.range, run_underlying ht, MapKept.run_getObj_map hb, Result.andThen]
  have hal := hw.alloc (.mapIter (some r) c #[] c) (iterB r c [] c) ⟨by rw [heap_alloc_new], rfl⟩
  exact ⟨_, _, _, .inl (by rw [hex, Sem.run_bind, hr]; rfl), hal.1, hal.2, h _⟩
theorem RawV.next (ho : o.op = .next xm false) (hm : (r, mapB f l c) ∈ A ++ (q, iterB r since seen last) :: B) (hold : ∀ x ∈ l, x.born < since) (hs : since ≤ last)
    (h0 : (∀ x ∈ l, x.born ∈ seen) → K (.tuple ⟨[.bool false]⟩) (A ++ (q, iterB r since seen last) :: B))
    (h1 : ∀ x ∈ l, x.born ∉ seen → K (.tuple ⟨[.bool true, f x.key, x.val]⟩) (A ++ (q, iterB r since (seen ++ [x.born]) c) :: B)) :
    RawV P o [.pointer (some ⟨q, 0, none⟩)] (A ++ (q, iterB r since seen last) :: B) K := by
  refine ⟨fun ρ w hmm hw => .inl ?_⟩
  rw [ho] at hmm
  have hmm : [ρ xm] = [.pointer (some ⟨q, 0, none⟩)] := hmm
  injection hmm with e1 hmm
  have hb := map_at hw hm
  have hq : w.heap[q]? = some (.mapIter (some r) since seen.toArray last) := hw.mid.1
  have hex : execOp ρ o = (Instr.next (.pointer (some ⟨q, 0, none⟩)) false o.type >>= fun v => pure (.value v)) := by
    simp only [execOp, ho, e1]
  -- what is left
  have htest : (!seen.toArray.isEmpty && !(l.map (Ent.of f)).toArray.isEmpty && (l.map (Ent.of f)).toArray.all (fun x => decide (x.born ≥ last))) = false := by
    cases l with
    | nil => simp
    | cons x l =>
      have : ¬ x.born ≥ last := by have := hold x (.head _); omega
      simp [Ent.of, this]
  have hold2 : ∀ x ∈ (l.map (Ent.of f)).filter (fun e => !seen.toArray.contains e.born), x.born < since := fun x hx => by
    obtain ⟨hx, _⟩ := List.mem_filter.1 hx
    obtain ⟨y, hy, rfl⟩ := List.mem_map.1 hx
    exact hold y hy
  obtain ⟨Lf, hLf⟩ : ∃ Lf, Lf = (l.map (Ent.of f)).filter (fun e => !seen.toArray.contains e.born) := ⟨_, rfl⟩
  rw [← hLf] at hold2
  have f1 : Lf.toArray.filter (fun x => decide (x.born < since)) = Lf.toArray := by
    rw [List.filter_toArray, List.filter_eq_self.2 fun x hx => by simpa using hold2 x hx]
  have f2 : Lf.toArray.filter (fun x => decide (x.born ≥ since)) = #[] := by
    rw [List.filter_toArray, List.filter_eq_nil_iff.2 fun x hx => by have := hold2 x hx; simp; omega]
  have hmemL : ∀ x, x ∈ Lf → ∃ y ∈ l, x = Ent.of f y ∧ y.born ∉ seen := fun x hx => by
    rw [hLf] at hx
    obtain ⟨hx, hn⟩ := List.mem_filter.1 hx
    obtain ⟨y, hy, rfl⟩ := List.mem_map.1 hx
    exact ⟨y, hy, rfl, by simpa [Ent.of] using hn⟩
  have hrun : ∀ (cand : Array (Option MapEntry)), cand = (if Lf.toArray.isEmpty then #[none] else #[]) ++ Lf.toArray.map some →
      (Instr.next (.pointer (some ⟨q, 0, none⟩)) false o.type).run P w = ((choose (.mapNext cand.size)).run P w).andThen fun i w' => (match cand[i]? with
        | some (some e) => (do setObj q (.mapIter (some r) since (seen.toArray.push e.born) c); pure (.tuple #[.bool true, e.key, e.val]) : Sem Value)
        | some none => pure (.tuple #[.bool false])
        | none => stuck "Next: no such candidate").run P w' := by
    rintro cand rfl
    simp only [Instr.next, Sem.run_bind, getObj, Sem.run, hq, hb, Result.andThen]
    rw [htest]
    simp only [Bool.false_eq_true, if_false, List.filter_toArray, ← hLf]
    rw [show List.filter (fun x => decide (x.born < since)) Lf = Lf from List.filter_eq_self.2 fun x hx => by simpa using hold2 x hx,
      show List.filter (fun x => decide (x.born ≥ since)) Lf = [] from List.filter_eq_nil_iff.2 fun x hx => by have := hold2 x hx; simp; omega]
    simp only [Array.append_empty, List.append_toArray, List.append_nil]
    rw [Sem.run_bind]
    rfl
  cases hcase : Lf with
  | nil =>
    have hr := hrun _ rfl
    rw [hcase] at hr
    have hr2 : (Instr.next (.pointer (some ⟨q, 0, none⟩)) false o.type).run P w = .ok (.tuple #[.bool false]) w := by
      rw [hr]
      simp [choose, Sem.run, Question.forced, Result.andThen]
    refine ⟨_, _, _, .inl (by rw [hex, Sem.run_bind, hr2]; rfl), hw, Step.refl _ _, h0 fun x hx => ?_⟩
    rw [hLf, List.filter_eq_nil_iff] at hcase
    have := hcase _ (List.mem_map_of_mem hx)
    simpa [Ent.of] using this
  | cons y ys =>
    have hr := hrun _ rfl
    have hne : Lf.toArray.isEmpty = false := by rw [hcase]; rfl
    rw [hne] at hr
    simp only [Bool.false_eq_true, if_false, Array.empty_append, Array.size_map] at hr
    have hch : ∃ (j : Nat) (w1 : World), j < Lf.length ∧ (w1 = w ∨ w1 = { w with drawn := w.drawn + 1 }) ∧ (choose (Question.mapNext Lf.toArray.size)).run P w = .ok j w1 := by
      by_cases hf : Lf.length ≤ 1
      · exact ⟨0, w, by rw [hcase]; simp, .inl rfl, by simp [choose, Sem.run, Question.forced, hf]⟩
      · exact ⟨_, _, Nat.mod_lt (w.tape w.drawn (Question.mapNext Lf.length)) (by omega), .inr rfl, by
          simp only [choose, Sem.run, Question.forced, List.size_toArray, decide_eq_true_eq, hf, if_false, Question.cut]⟩
    obtain ⟨j, w1, hj, hw1, hchr⟩ := hch
    rw [hchr] at hr
    obtain ⟨x, hxl, hxe, hxs⟩ := hmemL Lf[j] (List.getElem_mem hj)
    have hq1 : w1.heap = w.heap := by rcases hw1 with rfl | rfl <;> rfl
    have hqq : w1.heap[q]? = some (.mapIter (some r) since seen.toArray last) := by rw [hq1]; exact hq
    have hset : (setObj q (.mapIter (some r) since ((seen ++ [x.born]).toArray) c)).run P w1 = .ok () { w1 with heap := w1.heap.setIfInBounds q (.mapIter (some r) since ((seen ++ [x.born]).toArray) c) } := by
      simp [setObj, Sem.run, hqq]
    have hr2 : (Instr.next (.pointer (some ⟨q, 0, none⟩)) false o.type).run P w = .ok (.tuple #[.bool true, f x.key, x.val]) { w1 with heap := w1.heap.setIfInBounds q (.mapIter (some r) since ((seen ++ [x.born]).toArray) c) } := by
      rw [hr]
      simp only [Result.andThen, Array.getElem?_map, List.getElem?_toArray, List.getElem?_eq_getElem hj, Option.map_some, Sem.run_bind, hxe]
      have e2 : seen.toArray.push (Ent.of f x).born = (seen ++ [x.born]).toArray := by simp [Ent.of]
      rw [e2, hset]
      rfl
    obtain ⟨g1, g2⟩ := heap_set (o' := .mapIter (some r) since ((seen ++ [x.born]).toArray) c) hqq
    have hp := hw.put (b' := iterB r since (seen ++ [x.born]) c) (w' := { w1 with heap := w1.heap.setIfInBounds q (.mapIter (some r) since ((seen ++ [x.born]).toArray) c) }) rfl rfl (by simp [hq1]) (by rcases hw1 with rfl | rfl <;> rfl) (by rcases hw1 with rfl | rfl <;> rfl) (by rcases hw1 with rfl | rfl <;> rfl)
      (fun k hk => by show (w1.heap.setIfInBounds q _)[k]? = _; rw [g2 k hk, hq1]) ⟨g1, rfl⟩
    exact ⟨_, _, _, .inl (by rw [hex, Sem.run_bind, hr2]; rfl), hp.1, hp.2, h1 x hxl hxs⟩
end
end Go.Proofs.Ytjnlpaojaikjaaa.Sx

/- Sx, part T: the smaller of two; a call on one of a list of objects. -/
set_option linter.unusedVariables false
set_option linter.unusedSimpArgs false
namespace Go.Proofs.Ytjnlpaojaikjaaa.Sx
open Go.RowKit
section
variable {P : Program} {o : Oper} {t t1 t2 : TypeId} {H A B : Heap} {K : Value → Heap → Prop} {xs xx : Operand} {k k' : IntKind} {a b m : Int}
theorem RawV.min2 (ho : o.op = .call { callee := .builtin .min, args := #[xs, xx], argTypes := #[t1, t2] }) (hmin : (if b < a then b else a) = m) (h : K (.int k m) H) : RawV P o [.int k a, .int k' b] H K := by
  subst hmin
  refine ⟨fun ρ w hm hw => .inl ?_⟩
  rw [ho] at hm
  have hm : [ρ xs, ρ xx] = [.int k a, .int k' b] := hm
  injection hm with e1 hm
  injection hm with e2 hm
  have hex : execOp ρ o = (Builtin.min_ #[t1, t2] o.type #[.int k a, .int k' b] >>= fun v => pure (.value v)) := by
    simp only [execOp, ho, resolve, invoke, builtin, List.map_toArray, List.map_cons, List.map_nil, e1, e2]
    rfl
  have hr := run_min_int2 (P := P) (w := w) #[t1, t2] o.type k k' a b
  exact ⟨_, _, _, .inl (by rw [hex, Sem.run_bind, hr]; rfl), hw, Step.refl _ _, h⟩
/-- A call on one of a list's objects. -/
theorem SCalls.elem {α : Type} {rw : α → Nat × Blk} {ms : List α} {j : Nat} {x x' : α} {f : FuncId} {args : List Value} {v : Value} (hj : ms[j]? = some x) (hc : ∀ K : Value → Heap → Prop, K v [rw x'] → SCalls P f args [rw x] K) (A : Heap) (hk : K v (A ++ (ms.set j x').map rw)) : SCalls P f args (A ++ ms.map rw) K := by
  obtain ⟨hlt, rfl⟩ := List.getElem?_eq_some_iff.1 hj
  have e1 : ms.map rw = (ms.take j).map rw ++ rw ms[j] :: (ms.drop (j + 1)).map rw := by
    conv => lhs; rw [← List.take_append_drop j ms, List.drop_eq_getElem_cons hlt, List.map_append, List.map_cons]
  have e2 : (ms.set j x').map rw = (ms.take j).map rw ++ rw x' :: (ms.drop (j + 1)).map rw := by
    rw [List.set_eq_take_append_cons_drop, if_pos hlt, List.map_append, List.map_cons]
  rw [e1]
  rw [e2] at hk
  refine SCalls.upd (H1 := [rw ms[j]]) (H1' := [rw x']) (R := A ++ ((ms.take j).map rw ++ (ms.drop (j + 1)).map rw)) (H' := A ++ ((ms.take j).map rw ++ rw x' :: (ms.drop (j + 1)).map rw)) ?_ ?_ hc hk
  · rw [← List.append_assoc]
    refine List.perm_middle.trans ?_
    rw [List.append_assoc]; exact .refl _
  · rw [← List.append_assoc A, ← List.append_assoc A]
    show List.Perm (rw x' :: (A ++ (ms.take j).map rw ++ (ms.drop (j + 1)).map rw)) _
    exact List.perm_middle.symm
end
end Go.Proofs.Ytjnlpaojaikjaaa.Sx

/- Sx, part U: loops by a state of their own; slices that are only read, wherever they lie. -/
set_option linter.unusedVariables false
set_option linter.unusedSimpArgs false
namespace Go.Proofs.Ytjnlpaojaikjaaa.Sx
open Go.RowKit
section
variable {P : Program} {x : XCode} {Q : Post} {l : List Value} {H : Heap}
/-- A loop by what holds at the head of each round of a state (I), and a number that each round makes less. -/
theorem SLoop.invA {α : Type} (I : α → List Value → Heap → Prop) (μ : α → Nat) (a0 : α) (h0 : Keep H fun H' => I a0 l H')
    (round : ∀ a l H, I a l H → ∀ R : List Value → Heap → Prop, (∀ a' l' H', μ a' < μ a → Keep H' (fun H'' => I a' l' H'') → R l' H') → xc P x (thenQ R Q) l H) : SLoop P x Q l H := by
  refine SLoop.keep (h0.mono ?_)
  intro H' hI
  have key : ∀ n a l H, μ a = n → I a l H → SLoop P x Q l H := by
    intro n
    induction n using Nat.strongRecOn with
    | _ n ih =>
      intro a l H hn hI
      refine SLoop.round (round a l H hI _ fun a' l' H' hm hk => SLoop.keep (hk.mono ?_))
      intro H'' h1
      exact ih _ (hn ▸ hm) a' l' H'' rfl h1
  exact key _ a0 l H' rfl hI
end
/-- A slice's elements, of k cells each (f), as they lie in what is known. -/
def InS {α : Type} (f : α → List Value) (k : Nat) (sv : Value) (H : Heap) (L : List α) : Prop :=
  ∃ a c, sv = .slice a L.length c ∧ L.length ≤ maxLen ∧ (L = [] ∨ ∃ r o b, a = some ⟨r, o, none⟩ ∧ (r, b) ∈ H ∧ ∀ j x i v, L[j]? = some x → (f x)[i]? = some v → i < k → b.cell (o + j * k + i) = some v)
theorem InS.mono {α : Type} {f : α → List Value} {k : Nat} {sv : Value} {H H' : Heap} {L : List α} (h : InS f k sv H L) (hs : ∀ p ∈ H, p ∈ H') : InS f k sv H' L := by
  obtain ⟨a, c, rfl, h1, h2⟩ := h
  refine ⟨a, c, rfl, h1, ?_⟩
  rcases h2 with rfl | ⟨r, o, b, rfl, hm, hc⟩
  · exact .inl rfl
  · exact .inr ⟨r, o, b, rfl, hs _ hm, hc⟩
theorem InS.nil {α : Type} {f : α → List Value} {k : Nat} {H : Heap} {a : Option Addr} {c : Nat} : InS f k (.slice a 0 c) H ([] : List α) := ⟨a, c, rfl, Nat.zero_le _, .inl rfl⟩
/-- What is looked up, wherever it lies. -/
theorem Look.mem {r : Nat} {b : Blk} {H : Heap} {K : Heap → Blk → Heap → Prop} (hm : (r, b) ∈ H) (h : ∀ A B, H = A ++ (r, b) :: B → K A b B) : Look r H K := by
  obtain ⟨A, B, rfl⟩ := List.append_of_mem hm
  exact ⟨A, b, B, rfl, h A B rfl⟩
/-- A load of one cell of what is known. -/
theorem Look.cell {r o : Nat} {b : Blk} {H : Heap} {K : Value → Prop} {v : Value} (hm : (r, b) ∈ H) (hc : b.cell o = some v) (h : K v) : Look r H fun _ b _ => Cell b o K :=
  Look.mem hm fun _ _ _ => Cell.get hc h
theorem Look.cells {r o n : Nat} {b : Blk} {H : Heap} {K : List Value → Prop} {vs : List Value} (hm : (r, b) ∈ H) (hl : vs.length = n) (hc : ∀ j v, vs[j]? = some v → b.cell (o + j) = some v) (h : K vs) : Look r H fun _ b _ => Cells b o n K :=
  Look.mem hm fun _ _ _ => Cells.get vs hl hc h
theorem InS.at1 {α : Type} {f : α → List Value} {sv : Value} {H : Heap} {L : List α} (h : InS f 1 sv H L) {j : Nat} {x : α} {v : Value} (hj : L[j]? = some x) (hv : f x = [v]) :
    ∃ r o c b, sv = .slice (some ⟨r, o, none⟩) L.length c ∧ (r, b) ∈ H ∧ b.cell (o + j * 1) = some v := by
  obtain ⟨a, c, rfl, h1, h2⟩ := h
  rcases h2 with rfl | ⟨r, o, b, rfl, hm, hc⟩
  · simp at hj
  · exact ⟨r, o, c, b, rfl, hm, hc j x 0 v hj (by rw [hv]; rfl) (by decide)⟩
theorem InS.sv {α : Type} {f : α → List Value} {k : Nat} {sv : Value} {H : Heap} {L : List α} (h : InS f k sv H L) : ∃ a c, sv = .slice a L.length c ∧ L.length ≤ maxLen := by
  obtain ⟨a, c, rfl, h1, h2⟩ := h
  exact ⟨a, c, rfl, h1⟩
theorem InS.row {α : Type} {f : α → List Value} {k p c : Nat} {t : TypeId} {fz : Nat × Nat} {cs : List Value} {H : Heap} {L : List α} (hm : (p, .row t cs fz) ∈ H) (hcs : cs = L.flatMap f) (hk : ∀ x, (f x).length = k) (hl : L.length ≤ maxLen) : InS f k (.slice (some ⟨p, 0, none⟩) L.length c) H L := by
  subst hcs
  refine ⟨_, c, rfl, hl, .inr ⟨p, 0, _, rfl, hm, fun j x i v hj hv hi => ?_⟩⟩
  show (L.flatMap f)[0 + j * k + i]? = some v
  rw [Nat.zero_add, flat_nth hk hj hi]; exact hv
theorem InS.buf {α : Type} {f : α → List Value} {k p c N : Nat} {t : TypeId} {cs : List Value} {H : Heap} {L : List α} (hm : (p, .buf t cs N) ∈ H) (hcs : cs = L.flatMap f) (hk : ∀ x, (f x).length = k) (hl : L.length ≤ maxLen) : InS f k (.slice (some ⟨p, 0, none⟩) L.length c) H L := by
  subst hcs
  refine ⟨_, c, rfl, hl, .inr ⟨p, 0, _, rfl, hm, fun j x i v hj hv hi => ?_⟩⟩
  show (L.flatMap f)[0 + j * k + i]? = some v
  rw [Nat.zero_add, flat_nth hk hj hi]; exact hv
/-- Pointers in a slice, and what they point to. -/
structure PtrS {α : Type} (row : α → Nat × Blk) (sv : Value) (H : Heap) (ms : List α) : Prop where
  sl : InS (fun r => [.pointer (some ⟨r, 0, none⟩)]) 1 sv H (ms.map fun x => (row x).1)
  at_ : ∀ x ∈ ms, row x ∈ H
theorem PtrS.get {α : Type} {row : α → Nat × Blk} {sv : Value} {H : Heap} {ms : List α} (h : PtrS row sv H ms) {j : Nat} (hj : j < ms.length) : ∃ x r o c b, ms[j]? = some x ∧ sv = .slice (some ⟨r, o, none⟩) ms.length c ∧ (r, b) ∈ H ∧ b.cell (o + j * 1) = some (.pointer (some ⟨(row x).1, 0, none⟩)) ∧ row x ∈ H := by
  have hx := List.getElem?_eq_getElem hj
  generalize ms[j] = x at hx
  obtain ⟨r, o, c, b, e, hm, hc⟩ := h.sl.at1 (j := j) (x := (row x).1) (by rw [List.getElem?_map, hx]; rfl) rfl
  rw [List.length_map] at e
  exact ⟨x, r, o, c, b, hx, e, hm, hc, h.at_ x (List.mem_of_getElem? hx)⟩
theorem PtrS.sv {α : Type} {row : α → Nat × Blk} {sv : Value} {H : Heap} {ms : List α} (h : PtrS row sv H ms) : ∃ a c, sv = .slice a ms.length c ∧ ms.length ≤ maxLen := by
  obtain ⟨a, c, h1, h2⟩ := h.sl.sv
  rw [List.length_map] at h1 h2
  exact ⟨a, c, h1, h2⟩
/-- A slice is copied: appended to an empty one. -/
theorem RawV.copyS {α : Type} {f : α → List Value} {k bytes p : Nat} {P : Program} {o : Oper} {t e : TypeId} {xs xx : Operand} {sv : Value} {H : Heap} {L : List α} {K : Value → Heap → Prop} (hin : InS f k sv H L) (ho : o.op = .call { callee := .builtin .append, args := #[xs, xx], argTypes := #[t, t] }) (ht : tyOk P t e k bytes = true) (hk0 : 0 < k)
    (hk : ∀ x, (f x).length = k) (h1 : ∀ x, ∀ u ∈ f x, u.oneCell' = true) (hb : L.length * bytes ≤ 140737488355328) (h : ∀ q c, L.length ≤ c → c ≤ maxLen → K (.slice (some ⟨q, 0, none⟩) L.length c) ((q, .buf e (L.flatMap f) (c * k)) :: H)) :
    RawV P o [.slice (some ⟨p, 0, none⟩) 0 0, sv] ((p, .row e [] (0, 0)) :: H) K := by
  obtain ⟨a, c, rfl, hml, hc⟩ := hin
  rcases hc with rfl | ⟨r, o2, b, rfl, hm, hc⟩
  · refine RawV.toBuf (A := []) (RawV.appE (bytes := bytes) (size := k) (e := e) ho ht (Nat.le_refl 0) ?_)
    have := h p 0 (Nat.le_refl 0) (Nat.zero_le _)
    rw [Nat.zero_mul] at this
    exact this
  · have hn : ∀ j v, (L.flatMap f)[j]? = some v → b.cell (o2 + j) = some v := by
      intro j v hj
      obtain ⟨j', i, x, rfl, hi, hx, hv⟩ := flat_inv hk hj
      have := hc j' x i v hx hv hi
      rw [← Nat.add_assoc]; exact this
    have h1' : ∀ u ∈ L.flatMap f, u.oneCell' = true := by
      intro u hu
      obtain ⟨x, _, hx⟩ := List.mem_flatMap.1 hu
      exact h1 x u hx
    refine RawV.toBuf (A := []) (RawV.appT (A := []) (B := H) (n := 0) (cap := 0) (m := L.length) (cs := []) (news := L.flatMap f) (r2 := r) (o2 := o2) (b2 := b) (size := k) (bytes := bytes) (e := e) ho ht hk0 (by simp) (by simp) (Nat.le_refl 0) (Nat.zero_le _) (.tail _ hm) (flat_len hk _) hn h1' (by omega) (by rw [Nat.zero_add]; exact hb) (fun r' cap' g1 g2 => ?_))
    rw [Nat.zero_add]
    exact h _ _ (by omega) g2
theorem perm_glue {ls : List Heap} {p q : List Nat} (hp : p.Perm q) : (glue ls p).Perm (glue ls q) := by
  rw [glue_flat, glue_flat]; exact hp.flatMap_right _
/-- Of a heap in another order: ls are the parts, p their order, q the order that is wanted. -/
theorem SCalls.glue {P : Program} {g : FuncId} {args : List Value} {H : Heap} {K : Value → Heap → Prop} (ls : List Heap) (p q : List Nat) (hp : p.Perm q) (hH : H = Sx.glue ls p) (h : SCalls P g args (Sx.glue ls q) K) : SCalls P g args H K := by
  subst hH
  exact h.perm (perm_glue hp)
theorem mapTy.mk' {P : Program} {t k e : TypeId} {d : TypeDesc} {zv : Value} (h1 : P.underlying t = some (.map k e)) (h2 : P.underlying k = some d) (h3 : (P.info? e).bind (·.zero) = some zv) : mapTy P t k e d zv := by
  refine ⟨h1, h2, ?_⟩
  cases hi : P.info? e with
  | none => rw [hi] at h3; cases h3
  | some i => rw [hi] at h3; exact ⟨i, rfl, h3⟩
end Go.Proofs.Ytjnlpaojaikjaaa.Sx

/- Sx, part V: what is written, by membership: no places to count; maps, iterators, copies. -/
set_option linter.unusedVariables false
set_option linter.unusedSimpArgs false
namespace Go.Proofs.Ytjnlpaojaikjaaa.Sx
open Go.RowKit Go.MapKept
/-- H' is H, but for one block. -/
def PutH (H : Heap) (r : Nat) (b b' : Blk) (H' : Heap) : Prop := ∃ A B, H = A ++ (r, b) :: B ∧ H' = A ++ (r, b') :: B
section
variable {H H' : Heap} {r : Nat} {b b' : Blk}
theorem PutH.new (h : PutH H r b b' H') : (r, b') ∈ H' := by obtain ⟨A, B, rfl, rfl⟩ := h; exact List.mem_append_right _ (.head _)
theorem PutH.old (h : PutH H r b b' H') {p : Nat × Blk} (hp : p ∈ H) (hn : p ≠ (r, b)) : p ∈ H' := by
  obtain ⟨A, B, rfl, rfl⟩ := h
  rcases List.mem_append.1 hp with hp | hp
  · exact List.mem_append_left _ hp
  · rcases List.mem_cons.1 hp with rfl | hp
    · exact absurd rfl hn
    · exact List.mem_append_right _ (.tail _ hp)
theorem PutH.id (h : PutH H r b b' H') {p : Nat × Blk} (hp : p ∈ H) (hn : p.1 ≠ r) : p ∈ H' := h.old hp fun e => hn (by rw [e])
theorem PutH.blk (h : PutH H r b b' H') {p : Nat × Blk} (hp : p ∈ H) (hn : p.2 ≠ b) : p ∈ H' := h.old hp fun e => hn (by rw [e])
theorem Look.put {o : Nat} {vs : List Value} {K : Heap → Prop} (b' : Blk) (hm : (r, b) ∈ H) (hp : PutOk b o vs b') (h : ∀ H', PutH H r b b' H' → K H') : Look r H fun A b B => Put b o vs fun b' => appK A ((r, b') :: B) fun H' => K H' := by
  obtain ⟨A, B, rfl⟩ := List.append_of_mem hm
  exact ⟨A, b, B, rfl, b', hp, appK_to (h _ ⟨A, B, rfl, rfl⟩)⟩
/-- A cell of a row is written. -/
theorem PutOk.row {t : TypeId} {cs cs' vs : List Value} {o : Nat} (hl : o + vs.length ≤ cs.length) (he : cs.take o ++ vs ++ cs.drop (o + vs.length) = cs') : PutOk (.row t cs (0, 0)) o vs (.row t cs' (0, 0)) := by
  subst he; exact ⟨hl, .inl rfl, rfl⟩
theorem PutOk.rowb {t : TypeId} {cs cs' vs : List Value} {o : Nat} (hl : Nat.ble (o + vs.length) cs.length = true) (he : cs.take o ++ vs ++ cs.drop (o + vs.length) = cs') : PutOk (.row t cs (0, 0)) o vs (.row t cs' (0, 0)) := PutOk.row (Nat.le_of_ble_eq_true hl) he
theorem PutOk.buf {t : TypeId} {cs cs' vs : List Value} {o N : Nat} (hl : o + vs.length ≤ cs.length) (he : cs.take o ++ vs ++ cs.drop (o + vs.length) = cs') : PutOk (.buf t cs N) o vs (.buf t cs' N) := by
  subst he; exact ⟨hl, rfl⟩
theorem put_set {α : Type} {l : List α} {j : Nat} {v : α} (hj : j < l.length) : l.take (0 + j * 1) ++ [v] ++ l.drop (0 + j * 1 + [v].length) = l.set j v := by
  rw [Nat.zero_add, Nat.mul_one, List.set_eq_take_append_cons_drop, if_pos hj]; simp
end
section
variable {P : Program} {o : Oper} {t k e : TypeId} {d : TypeDesc} {H : Heap} {K : Value → Heap → Prop} {zv : Value} {κ : Type} {f : κ → Value} {l : List (Ent κ)} {c r q since last : Nat} {seen : List Nat} {a : κ} {xm xk xv : Operand}
theorem RawV.updM (ho : o.op = .mapUpdate t xm xk xv) (ht : mapTy P t k e d zv) (hk : Keys d f) {v : Value} (hm : (r, mapB f l c) ∈ H)
    (h0 : (∀ x ∈ l, x.key ≠ a) → ∀ H', PutH H r (mapB f l c) (mapB f (l ++ [⟨a, v, c⟩]) (c + 1)) H' → K undef H')
    (h1 : ∀ (j : Nat) (x : Ent κ), l[j]? = some x → x.key = a → ∀ H', PutH H r (mapB f l c) (mapB f (l.set j ⟨a, v, x.born⟩) c) H' → K undef H') :
    RawV P o [.map (some r), f a, v] H K := by
  obtain ⟨A, B, rfl⟩ := List.append_of_mem hm
  exact RawV.upd ho ht hk (fun h => h0 h _ ⟨A, B, rfl, rfl⟩) (fun j x hj hx => h1 j x hj hx _ ⟨A, B, rfl, rfl⟩)
theorem RawV.nextM (ho : o.op = .next xm false) (hm : (r, mapB f l c) ∈ H) (hq : (q, iterB r since seen last) ∈ H) (hold : ∀ x ∈ l, x.born < since) (hs : since ≤ last)
    (h0 : (∀ x ∈ l, x.born ∈ seen) → K (.tuple ⟨[.bool false]⟩) H)
    (h1 : ∀ x ∈ l, x.born ∉ seen → ∀ H', PutH H q (iterB r since seen last) (iterB r since (seen ++ [x.born]) c) H' → K (.tuple ⟨[.bool true, f x.key, x.val]⟩) H') :
    RawV P o [.pointer (some ⟨q, 0, none⟩)] H K := by
  obtain ⟨A, B, rfl⟩ := List.append_of_mem hq
  exact RawV.next ho hm hold hs h0 (fun x hx hn => h1 x hx hn _ ⟨A, B, rfl, rfl⟩)
/-- The entry that an iterator stands at. -/
theorem RawV.entryM {x : Ent κ} (ho : o.op = .entry xm) (hm : (r, mapB f l c) ∈ H) (hq : (q, iterB r since (seen ++ [x.born]) c) ∈ H) (hx : x ∈ l) (hu : ∀ y ∈ l, y.born = x.born → y = x)
    (h : K (.tuple ⟨[f x.key, x.val]⟩) H) : RawV P o [.pointer (some ⟨q, 0, none⟩)] H K := by
  refine ⟨fun ρ w hmm hw => .inl ?_⟩
  rw [ho] at hmm
  have hmm : [ρ xm] = [.pointer (some ⟨q, 0, none⟩)] := hmm
  injection hmm with e1 hmm
  have hb : w.heap[r]? = some (.map (l.map (Ent.of f)).toArray c) := map_at hw hm
  have hq : w.heap[q]? = some (.mapIter (some r) since (seen ++ [x.born]).toArray c) := (hw.at_ _ hq).1
  have hex : execOp ρ o = (Instr.entry (.pointer (some ⟨q, 0, none⟩)) >>= fun v => pure (.value v)) := by
    simp only [execOp, ho, e1]
  have hf : (l.map (Ent.of f)).find? (fun e => e.born == x.born) = some (Ent.of f x) := by
    have : ∀ l : List (Ent κ), x ∈ l → (∀ y ∈ l, y.born = x.born → y = x) → (l.map (Ent.of f)).find? (fun e => e.born == x.born) = some (Ent.of f x) := by
      intro l
      induction l with
      | nil => intro h; cases h
      | cons y l ih =>
        intro h hu
        rw [List.map_cons, List.find?_cons]
        by_cases hy : y.born = x.born
        · have := hu y (.head _) hy
          subst this
          simp [Ent.of]
        · have : ((Ent.of f y).born == x.born) = false := by simpa [Ent.of] using hy
          rw [this]
          rcases List.mem_cons.1 h with rfl | h
          · exact absurd rfl hy
          · exact ih h fun z hz => hu z (.tail _ hz)
    exact this l hx hu
  have hr : (Instr.entry (.pointer (some ⟨q, 0, none⟩))).run P w = .ok (.tuple #[f x.key, x.val]) w := by
    have hg1 : (getObj q).run P w = .ok (.mapIter (some r) since (seen ++ [x.born]).toArray c) w := by simp [getObj, Sem.run, hq]
    simp [Instr.entry, hg1, MapKept.run_getObj_map hb, Result.andThen, hf]
    simp [Ent.of]
  exact ⟨_, _, _, .inl (by rw [hex, Sem.run_bind, hr]; rfl), hw, Step.refl _ _, h⟩
end
section
variable {P : Program} {o : Oper} {t t2 e : TypeId} {xs xx : Operand} {H : Heap} {r n cap m c bytes : Nat} {cs news : List Value} {r2 o1 o2 N : Nat} {b2 : Blk} {K : Value → Heap → Prop}
/-- Cells are copied into a slice of the call's own (elements of one cell each). -/
theorem RawV.copyP {A B : Heap} (ho : o.op = .call { callee := .builtin .copy, args := #[xs, xx], argTypes := #[t, t2] }) (ht : tyOk P t e 1 bytes = true) (h2 : (r2, b2) ∈ A ++ (r, .buf e cs N) :: B) (hl : news.length = min m n)
    (hn : ∀ j v, news[j]? = some v → b2.cell (o2 + j) = some v) (hfit : o1 + news.length ≤ cs.length) (h1 : ∀ u ∈ news, u.oneCell' = true)
    (h : K (.int .i64 (news.length : Int)) (A ++ (r, .buf e (cs.take o1 ++ news ++ cs.drop (o1 + news.length)) N) :: B)) :
    RawV P o [.slice (some ⟨r, o1, none⟩) n cap, .slice (some ⟨r2, o2, none⟩) m c] (A ++ (r, .buf e cs N) :: B) K := by
  obtain ⟨h3, i, z, h4, h5, h6, h7, rfl⟩ := tyOk_spec ht
  refine ⟨fun ρ w hmm hw => .inl ?_⟩
  have hmm : [ρ xs, ρ xx] = [.slice (some ⟨r, o1, none⟩) n cap, .slice (some ⟨r2, o2, none⟩) m c] := by
    rw [ho] at hmm; exact hmm
  injection hmm with e1 hmm
  injection hmm with e2 hmm
  have hex : execOp ρ o = (Builtin.copy_ #[t, t2] o.type #[.slice (some ⟨r, o1, none⟩) n cap, .slice (some ⟨r2, o2, none⟩) m c] >>= fun v => pure (.value v)) := by
    simp only [execOp, ho, resolve, invoke, builtin, List.map_toArray, List.map_cons, List.map_nil, e1, e2]
    rfl
  obtain ⟨sl, hsl, hg⟩ := (hw.mid : (Blk.buf e cs N).At w r)
  have hsrc : ∀ j v, news[j]? = some v → w.cell? ((⟨r2, o2, none⟩ : Addr).add j) = some v := fun j u hj => by
    rw [addr_add]; exact cell_at (hw.at_ _ h2) (hn j u hj)
  have hr := run_copy_row (P := P) w t t2 o.type e r o1 n cap ⟨r2, o2, none⟩ m c _ e news h3 (by rw [h4]; simpa using h7) hg hl hsrc (by simp; omega) h1
  have hcur : (cs ++ sl).toArray.toList.take o1 ++ news ++ (cs ++ sl).toArray.toList.drop (o1 + news.length) = (cs.take o1 ++ news ++ cs.drop (o1 + news.length)) ++ sl := by
    show (cs ++ sl).take o1 ++ news ++ (cs ++ sl).drop (o1 + news.length) = _
    rw [List.take_append_of_le_length (by omega), List.drop_append_of_le_length hfit]
    simp [List.append_assoc]
  rw [hcur] at hr
  have hput := hw.put (w' := w.setRow r ((cs.take o1 ++ news ++ cs.drop (o1 + news.length)) ++ sl).toArray) (b' := .buf e (cs.take o1 ++ news ++ cs.drop (o1 + news.length)) N) rfl rfl (by simp) rfl rfl rfl (fun k hk => setRow_other w r k _ hk)
    ⟨sl, by simp only [List.length_append, List.length_take, List.length_drop]; omega, setRow_heap w r _ _ e (0, 0) hg⟩
  exact ⟨_, _, _, .inl (by rw [hex, Sem.run_bind, hr]; rfl), hput.1, hput.2, h⟩
/-- The same, by membership. -/
theorem RawV.copyM (ho : o.op = .call { callee := .builtin .copy, args := #[xs, xx], argTypes := #[t, t2] }) (ht : tyOk P t e 1 bytes = true) (hm : (r, .buf e cs N) ∈ H) (h2 : (r2, b2) ∈ H) (hl : news.length = min m n)
    (hn : ∀ j v, news[j]? = some v → b2.cell (o2 + j) = some v) (hfit : o1 + news.length ≤ cs.length) (h1 : ∀ u ∈ news, u.oneCell' = true)
    (h : ∀ H', PutH H r (.buf e cs N) (.buf e (cs.take o1 ++ news ++ cs.drop (o1 + news.length)) N) H' → K (.int .i64 (news.length : Int)) H') :
    RawV P o [.slice (some ⟨r, o1, none⟩) n cap, .slice (some ⟨r2, o2, none⟩) m c] H K := by
  obtain ⟨A, B, rfl⟩ := List.append_of_mem hm
  exact RawV.copyP ho ht h2 hl hn hfit h1 (h _ ⟨A, B, rfl, rfl⟩)
end
section
variable {P : Program} {o : Oper} {t e : TypeId} {xs xx : Operand} {H : Heap} {r n cap m c size bytes : Nat} {cs news : List Value} {r2 o2 N : Nat} {b2 : Blk} {K : Value → Heap → Prop}
/-- append, by membership: the old buffer is gone. -/
theorem RawV.appM (ho : o.op = .call { callee := .builtin .append, args := #[xs, xx], argTypes := #[t, t] }) (ht : tyOk P t e size bytes = true) (hsz : 0 < size)
    (hm : (r, .buf e cs N) ∈ H) (hcs : cs.length = n * size) (hN : N = cap * size) (hcap : n ≤ cap) (hcm : cap ≤ maxLen)
    (h2 : (r2, b2) ∈ H) (hl : news.length = m * size) (hn : ∀ j v, news[j]? = some v → b2.cell (o2 + j) = some v) (h1 : ∀ u ∈ news, u.oneCell' = true)
    (h63 : n + m ≤ maxLen) (hb : (n + m) * bytes ≤ 140737488355328)
    (h : ∀ r' cap' H', n + m ≤ cap' → cap' ≤ maxLen → (∀ p ∈ H, p ≠ (r, .buf e cs N) → p ∈ H') → K (.slice (some ⟨r', 0, none⟩) (n + m) cap') ((r', .buf e (cs ++ news) (cap' * size)) :: H')) :
    RawV P o [.slice (some ⟨r, 0, none⟩) n cap, .slice (some ⟨r2, o2, none⟩) m c] H K := by
  obtain ⟨A, B, rfl⟩ := List.append_of_mem hm
  refine RawV.appT ho ht hsz hcs hN hcap hcm h2 hl hn h1 h63 hb (fun r' cap' g1 g2 => h r' cap' (A ++ B) g1 g2 fun p hp hne => ?_)
  rcases List.mem_append.1 hp with hp | hp
  · exact List.mem_append_left _ hp
  · rcases List.mem_cons.1 hp with rfl | hp
    · exact absurd rfl hne
    · exact List.mem_append_right _ hp
end
theorem Sep.fresh {H : Heap} {r : Nat} {b : Blk} (h : Sep ((r, b) :: H)) (hb : b.excl = true) : ∀ p ∈ H, p.1 ≠ r := fun p hp e => (List.pairwise_cons.1 h).1 p hp (.inl hb) e.symm
/-- A contract for a part of the heap, in its midst. -/
theorem SCalls.midH {P : Program} {f : FuncId} {args : List Value} {N : Heap} {K : Value → Heap → Prop} (A B : Heap) (h : SCalls P f args N fun v N' => K v (A ++ (N' ++ B))) : SCalls P f args (A ++ (N ++ B)) K := by
  refine SCalls.under A (h.frame.mono ?_)
  rintro v H' ⟨H1, rfl, hK⟩
  exact hK
end Go.Proofs.Ytjnlpaojaikjaaa.Sx

