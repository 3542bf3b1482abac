/- How arguments read: from the form's own reading of a value down to its cells, with the bound on what one string or slice takes. Plain lemmas over any program. -/
import Derived.Deep.Slices
import Derived.ChangeSame
import Derived.ChangeShapes
import Derived.OpenShut
import Derived.SizedLaws
import Derived.ProofKit
set_option linter.unusedVariables false
set_option linter.unusedSimpArgs false
namespace Go.Proofs.YtkajoepgebfjoaaDoor
open Go.ChangeShapes Go.WideShapes Go.Deep

/-- No string and no slice in it takes more than the reach. -/
def Wt {H : Type} (P : Program) (t : TypeId) (d : DataW H) : Prop := ∀ n ∈ DataW.weights P t d, n ≤ reachBytes

/-- What is told of a slice: its length, and of each element that its cells, s of them, read so. -/
def SliceAt (s B : Nat) (R : World → List Value → Prop) (w : World) (a : Option Addr) (len cap : Nat) : Prop :=
  len ≤ cap ∧ cap ≤ maxLen ∧ len * B ≤ reachBytes ∧ (0 < len → ∃ ad, a = some ad ∧ ∀ i, i < len → ∃ c : List Value, c.length = s ∧ (∀ j, j < s → w.cell? (ad.add (i * s + j)) = c[j]?) ∧ R w c)

/-- The same, the address written out. -/
theorem SliceAt.plain {s B : Nat} {R : World → List Value → Prop} {w : World} {a : Option Addr} {len cap : Nat} (h : SliceAt s B R w a len cap) (hs : 0 < s) (hl : 0 < len) :
    ∃ b off, a = some ⟨b, off, none⟩ ∧ b < w.heap.size ∧ ∀ i, i < len → ∃ c : List Value, c.length = s ∧ (∀ j, j < s → w.cell? ⟨b, off + i * s + j, none⟩ = c[j]?) ∧ R w c := by
  obtain ⟨_, _, _, hel⟩ := h
  obtain ⟨ad, rfl, hc⟩ := hel hl
  obtain ⟨c0, hc0, hcell, _⟩ := hc 0 hl
  have h0 := hcell 0 hs
  rw [List.getElem?_eq_getElem (by omega)] at h0
  obtain ⟨b, off, spot⟩ := ad
  have hb := World.block_lt_of_cell? w _ h0
  have hspot : spot = none := by
    have := World.cell?_spot h0
    simpa [Addr.add] using this
  subst hspot
  have hb' : b < w.heap.size := by
    have e : (Addr.add ⟨b, off, none⟩ (0 * s + 0)).block = b := by rw [add_plain]
    rw [e] at hb
    exact hb
  refine ⟨b, off, rfl, hb', fun i hi => ?_⟩
  obtain ⟨c, h1, h2, h3⟩ := hc i hi
  refine ⟨c, h1, fun j hj => ?_, h3⟩
  have := h2 j hj
  rw [add_plain] at this
  rw [Nat.add_assoc]
  exact this

section
variable {H : Type} {enc : TypeId × Value → H} {P : Program} {w : World} {base : Nat} {spare : Nat → Bool} {held : Bool} {fuel : Nat} {t : TypeId} {cs : List Value} {x : DataW H × List MemPlace}

theorem rd_int {k : IntKind} (ht : P.underlying t = some (.int k)) (h : DataW.trod enc P w base spare held fuel t cs = some x) : ∃ n : Int, cs = [.int k n] ∧ (Lit.int k n).wf = true := by
  obtain ⟨n, h1, _, h2⟩ := DataW.trod_int ht h
  exact ⟨n, h1, h2⟩
theorem rd_bool (ht : P.underlying t = some .bool) (h : DataW.trod enc P w base spare held fuel t cs = some x) : ∃ b : Bool, cs = [.bool b] := by
  obtain ⟨n, h1, _⟩ := DataW.trod_bool ht h
  exact ⟨n, h1⟩
theorem rd_string (ht : P.underlying t = some .string) (h : DataW.trod enc P w base spare held fuel t cs = some x) (hw : Wt P t x.1) : ∃ s : ByteArray, cs = [.string s] ∧ s.size ≤ reachBytes := by
  obtain ⟨s, h1, h2, _⟩ := DataW.trod_string ht h
  subst h2
  refine ⟨s, h1, ?_⟩
  have := hw s.data.toList.length (by simp [DataW.weights])
  simpa using this

theorem wt_all {e : TypeId} : ∀ (l : List (DataW H)), (∀ n ∈ DataW.weightsAll P e l, n ≤ reachBytes) → ∀ d ∈ l, Wt P e d
  | [], _, _, hd => by simp at hd
  | d :: r, h, d', hd => by
    simp only [DataW.weightsAll, List.mem_append] at h
    rcases List.mem_cons.1 hd with rfl | hd
    · exact fun n hn => h n (.inl hn)
    · exact wt_all r (fun n hn => h n (.inr hn)) d' hd
theorem wt_each : ∀ (ts : List TypeId) (l : List (DataW H)), (∀ n ∈ DataW.weightsEach P ts l, n ≤ reachBytes) → ∀ (i : Nat) (t : TypeId) (d : DataW H), ts[i]? = some t → l[i]? = some d → Wt P t d
  | [], _, _, i, t, d, ht, _ => by simp at ht
  | _ :: _, [], _, i, t, d, _, hd => by simp at hd
  | t0 :: ts, d0 :: l, h, i, t, d, ht, hd => by
    simp only [DataW.weightsEach, List.mem_append] at h
    cases i with
    | zero =>
      simp at ht hd
      subst ht; subst hd
      exact fun n hn => h n (.inl hn)
    | succ i => exact wt_each ts l (fun n hn => h n (.inr hn)) i t d (by simpa using ht) (by simpa using hd)

theorem rd_slice {e : TypeId} {s B : Nat} {R : World → List Value → Prop} (ht : P.underlying t = some (.slice e)) (hC : P.cellsOf e = s) (hBy : P.bytesOf e = B)
    (hR : ∀ (n : Nat) (cs : List Value) (y : DataW H × List MemPlace), DataW.trod enc P w base spare held n e cs = some y → Wt P e y.1 → R w cs)
    (h : DataW.trod enc P w base spare held fuel t cs = some x) (hw : Wt P t x.1) : ∃ (a : Option Addr) (len cap : Nat), cs = [.slice a len cap] ∧ SliceAt s B R w a len cap := by
  rcases open_slice ht h with ⟨rfl, rfl⟩ | ⟨a, len, cap, m, n, D, Pl, rfl, hb, hl, hm, hmm, rfl, hi⟩
  · exact ⟨none, 0, 0, rfl, by omega, by simp [maxLen], by simp, fun h => by omega⟩
  · have hlm : len ≤ m := by rw [hmm]; split <;> omega
    refine ⟨some a, len, cap, rfl, hl, hm, ?_, fun _ => ⟨a, rfl, fun i hil => ?_⟩⟩
    · have := hw ((((List.range len).map D).length + ((List.range (m - len)).map fun j => D (len + j)).length) * P.bytesOf e) (by simp [DataW.weights, ht])
      rw [hBy] at this
      simp only [List.length_map, List.length_range] at this
      exact Nat.le_trans (Nat.mul_le_mul_right _ (by omega)) this
    · obtain ⟨c, hc, htr⟩ := hi i (by omega)
      obtain ⟨_, hcl, hcell⟩ := World.cells?_some hc
      rw [hC] at hcl hcell
      refine ⟨c, hcl, fun j hj => ?_, hR n c _ htr ?_⟩
      · rw [← add_add]; exact hcell j hj
      · refine wt_all (P := P) (e := e) ((List.range len).map D) (fun n hn => hw n ?_) (D i) (List.mem_map.2 ⟨i, List.mem_range.2 hil, rfl⟩)
        simp only [DataW.weights, ht, List.mem_cons, List.mem_append]
        exact .inr (.inl hn)

theorem rd_struct {fs : Array Field} (ht : P.underlying t = some (.struct fs)) (h : DataW.trod enc P w base spare held fuel t cs = some x) (hw : Wt P t x.1) :
    cs.length = P.cellsOf t ∧ ∀ (i : Nat) (f : Field), fs[i]? = some f → ∃ (n : Nat) (y : DataW H × List MemPlace), DataW.trod enc P w base spare held n f.type ((cs.drop f.offset).take (P.cellsOf f.type)) = some y ∧ Wt P f.type y.1 := by
  obtain ⟨xs, n, _, rfl, hl, hxl, hf⟩ := DataW.trod_struct ht h
  refine ⟨hl, fun i f hi => ?_⟩
  have hlt : i < xs.length := by rw [hxl]; exact (Array.getElem?_eq_some_iff.1 hi).1
  have hx : xs[i]? = some xs[i] := List.getElem?_eq_getElem hlt
  refine ⟨n, xs[i], (hf i f hi).trans hx, ?_⟩
  refine wt_each (P := P) (fs.toList.map (·.type)) (xs.map (·.1)) (fun n hn => hw n (by simpa only [DataW.weights, ht] using hn)) i f.type _ ?_ ?_
  · simp [hi]
  · simp [hx]

theorem rd_array {N : Nat} {e : TypeId} (ht : P.underlying t = some (.array N e)) (h : DataW.trod enc P w base spare held fuel t cs = some x) (hw : Wt P t x.1) :
    cs.length = P.cellsOf t ∧ ∀ (i : Nat), i < N → ∃ (n : Nat) (y : DataW H × List MemPlace), DataW.trod enc P w base spare held n e ((cs.drop (i * P.cellsOf e)).take (P.cellsOf e)) = some y ∧ Wt P e y.1 := by
  obtain ⟨xs, n, _, rfl, hl, hxl, hf⟩ := DataW.trod_array ht h
  refine ⟨hl, fun i hi => ?_⟩
  have hx : xs[i]? = some xs[i] := List.getElem?_eq_getElem (by omega)
  refine ⟨n, xs[i], (hf i hi).trans hx, ?_⟩
  refine wt_all (P := P) (e := e) (xs.map (·.1)) (fun n hn => hw n (by simpa only [DataW.weights, ht] using hn)) _ ?_
  exact List.mem_map.2 ⟨xs[i], List.getElem_mem _, rfl⟩

/-- Of each argument. -/
theorem wt_arg {ts : List TypeId} {ds : List (DataW H)} (h : (DataW.weightsEach P ts ds).all (· ≤ reachBytes) = true) {j : Nat} {d : DataW H} (ht : ts[j]? = some t) (hd : ds[j]? = some d) : Wt P t d :=
  wt_each ts ds (fun n hn => by simpa using List.all_eq_true.1 h n hn) j t d ht hd
end
theorem okWide_array {P : Program} {w : World} {r : Reach} {base : Nat} {t : TypeId} {v : Value} {n : Nat} {e : TypeId} (ht : P.underlying t = some (.array n e)) (h : Value.okWide P w r base t v) : ∃ cs, v = .agg cs ∧ cs.size = P.cellsOf t := by
  unfold Value.okWide at h
  rw [ht] at h
  obtain ⟨cs, h1, h2, _⟩ := h
  exact ⟨cs, h1, h2⟩
end Go.Proofs.YtkajoepgebfjoaaDoor
