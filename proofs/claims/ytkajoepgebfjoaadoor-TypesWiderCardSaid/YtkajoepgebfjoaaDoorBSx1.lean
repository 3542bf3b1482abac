/- Sx, part U: loops by a state of their own; slices that are only read, wherever they lie. -/
import Derived.Test.YtkajoepgebfjoaaDoorBSx
import Derived.Laws.IdiomCopy
import Derived.Laws.RangeString
import Derived.Laws.BytesString
import Derived.Laws.IdiomStrings
import Derived.Lib.FrozenHead
import Derived.Laws.AppendOwn
import Derived.Lib.UnsafeStr
import Derived.Lib.Builder
import Derived.Laws.Small

set_option linter.unusedVariables false
set_option linter.unusedSectionVars false
set_option linter.unusedSimpArgs false
namespace Go.Proofs.YtkajoepgebfjoaaDoor.Sx
open Go.RowKit
section
variable [Dies] {P : Program} {x : XCode} {Q : Post} {l : List Value} {H : Heap}
/-- A loop by what holds at the head of each round of a state (I), and a number that each round makes less. -/
theorem SLoop.invA {α : Type} (I : α → List Value → Heap → Prop) (μ : α → Nat) (a0 : α) (h0 : Keep H fun H' => I a0 l H')
    (round : ∀ a l H, I a l H → ∀ R : List Value → Heap → Prop, (∀ a' l' H', μ a' < μ a → Keep H' (fun H'' => I a' l' H'') → R l' H') → xc P x (thenQ R Q) l H) : SLoop P x Q l H := by
  refine SLoop.keep (h0.mono ?_)
  intro H' hI
  have key : ∀ n a l H, μ a = n → I a l H → SLoop P x Q l H := by
    intro n
    induction n using Nat.strongRecOn with
    | _ n ih =>
      intro a l H hn hI
      refine SLoop.round (round a l H hI _ fun a' l' H' hm hk => SLoop.keep (hk.mono ?_))
      intro H'' h1
      exact ih _ (hn ▸ hm) a' l' H'' rfl h1
  exact key _ a0 l H' rfl hI
end
/-- A slice's elements, of k cells each (f), as they lie in what is known. -/
def InS {α : Type} (f : α → List Value) (k : Nat) (sv : Value) (H : Heap) (L : List α) : Prop :=
  ∃ a c, sv = .slice a L.length c ∧ L.length ≤ maxLen ∧ (L = [] ∨ ∃ r o b, a = some ⟨r, o, none⟩ ∧ (r, b) ∈ H ∧ ∀ j x i v, L[j]? = some x → (f x)[i]? = some v → i < k → b.cell (o + j * k + i) = some v)
theorem InS.mono {α : Type} {f : α → List Value} {k : Nat} {sv : Value} {H H' : Heap} {L : List α} (h : InS f k sv H L) (hs : ∀ p ∈ H, p ∈ H') : InS f k sv H' L := by
  obtain ⟨a, c, rfl, h1, h2⟩ := h
  refine ⟨a, c, rfl, h1, ?_⟩
  rcases h2 with rfl | ⟨r, o, b, rfl, hm, hc⟩
  · exact .inl rfl
  · exact .inr ⟨r, o, b, rfl, hs _ hm, hc⟩
theorem InS.nil {α : Type} {f : α → List Value} {k : Nat} {H : Heap} {a : Option Addr} {c : Nat} : InS f k (.slice a 0 c) H ([] : List α) := ⟨a, c, rfl, Nat.zero_le _, .inl rfl⟩
/-- What is looked up, wherever it lies. -/
theorem Look.mem {r : Nat} {b : Blk} {H : Heap} {K : Heap → Blk → Heap → Prop} (hm : (r, b) ∈ H) (h : ∀ A B, H = A ++ (r, b) :: B → K A b B) : Look r H K := by
  obtain ⟨A, B, rfl⟩ := List.append_of_mem hm
  exact ⟨A, b, B, rfl, h A B rfl⟩
/-- A load of one cell of what is known. -/
theorem Look.cell {r o : Nat} {b : Blk} {H : Heap} {K : Value → Prop} {v : Value} (hm : (r, b) ∈ H) (hc : b.cell o = some v) (h : K v) : Look r H fun _ b _ => Cell b o K :=
  Look.mem hm fun _ _ _ => Cell.get hc h
theorem Look.cells {r o n : Nat} {b : Blk} {H : Heap} {K : List Value → Prop} {vs : List Value} (hm : (r, b) ∈ H) (hl : vs.length = n) (hc : ∀ j v, vs[j]? = some v → b.cell (o + j) = some v) (h : K vs) : Look r H fun _ b _ => Cells b o n K :=
  Look.mem hm fun _ _ _ => Cells.get vs hl hc h
theorem InS.at1 {α : Type} {f : α → List Value} {sv : Value} {H : Heap} {L : List α} (h : InS f 1 sv H L) {j : Nat} {x : α} {v : Value} (hj : L[j]? = some x) (hv : f x = [v]) :
    ∃ r o c b, sv = .slice (some ⟨r, o, none⟩) L.length c ∧ (r, b) ∈ H ∧ b.cell (o + j * 1) = some v := by
  obtain ⟨a, c, rfl, h1, h2⟩ := h
  rcases h2 with rfl | ⟨r, o, b, rfl, hm, hc⟩
  · simp at hj
  · exact ⟨r, o, c, b, rfl, hm, hc j x 0 v hj (by rw [hv]; rfl) (by decide)⟩
theorem InS.sv {α : Type} {f : α → List Value} {k : Nat} {sv : Value} {H : Heap} {L : List α} (h : InS f k sv H L) : ∃ a c, sv = .slice a L.length c ∧ L.length ≤ maxLen := by
  obtain ⟨a, c, rfl, h1, h2⟩ := h
  exact ⟨a, c, rfl, h1⟩
theorem InS.row {α : Type} {f : α → List Value} {k p c : Nat} {t : TypeId} {fz : Nat × Nat} {cs : List Value} {H : Heap} {L : List α} (hm : (p, .row t cs fz) ∈ H) (hcs : cs = L.flatMap f) (hk : ∀ x, (f x).length = k) (hl : L.length ≤ maxLen) : InS f k (.slice (some ⟨p, 0, none⟩) L.length c) H L := by
  subst hcs
  refine ⟨_, c, rfl, hl, .inr ⟨p, 0, _, rfl, hm, fun j x i v hj hv hi => ?_⟩⟩
  show (L.flatMap f)[0 + j * k + i]? = some v
  rw [Nat.zero_add, flat_nth hk hj hi]; exact hv
theorem InS.buf {α : Type} {f : α → List Value} {k p c N : Nat} {t : TypeId} {cs : List Value} {H : Heap} {L : List α} (hm : (p, .buf t cs N) ∈ H) (hcs : cs = L.flatMap f) (hk : ∀ x, (f x).length = k) (hl : L.length ≤ maxLen) : InS f k (.slice (some ⟨p, 0, none⟩) L.length c) H L := by
  subst hcs
  refine ⟨_, c, rfl, hl, .inr ⟨p, 0, _, rfl, hm, fun j x i v hj hv hi => ?_⟩⟩
  show (L.flatMap f)[0 + j * k + i]? = some v
  rw [Nat.zero_add, flat_nth hk hj hi]; exact hv
/-- Pointers in a slice, and what they point to. -/
structure PtrS {α : Type} (row : α → Nat × Blk) (sv : Value) (H : Heap) (ms : List α) : Prop where
  sl : InS (fun r => [.pointer (some ⟨r, 0, none⟩)]) 1 sv H (ms.map fun x => (row x).1)
  at_ : ∀ x ∈ ms, row x ∈ H
theorem PtrS.get {α : Type} {row : α → Nat × Blk} {sv : Value} {H : Heap} {ms : List α} (h : PtrS row sv H ms) {j : Nat} (hj : j < ms.length) : ∃ x r o c b, ms[j]? = some x ∧ sv = .slice (some ⟨r, o, none⟩) ms.length c ∧ (r, b) ∈ H ∧ b.cell (o + j * 1) = some (.pointer (some ⟨(row x).1, 0, none⟩)) ∧ row x ∈ H := by
  have hx := List.getElem?_eq_getElem hj
  generalize ms[j] = x at hx
  obtain ⟨r, o, c, b, e, hm, hc⟩ := h.sl.at1 (j := j) (x := (row x).1) (by rw [List.getElem?_map, hx]; rfl) rfl
  rw [List.length_map] at e
  exact ⟨x, r, o, c, b, hx, e, hm, hc, h.at_ x (List.mem_of_getElem? hx)⟩
theorem PtrS.sv {α : Type} {row : α → Nat × Blk} {sv : Value} {H : Heap} {ms : List α} (h : PtrS row sv H ms) : ∃ a c, sv = .slice a ms.length c ∧ ms.length ≤ maxLen := by
  obtain ⟨a, c, h1, h2⟩ := h.sl.sv
  rw [List.length_map] at h1 h2
  exact ⟨a, c, h1, h2⟩
end Go.Proofs.YtkajoepgebfjoaaDoor.Sx


/- Sx, part V: what is written, by membership: no places to count; maps, iterators, copies. -/
set_option linter.unusedVariables false
set_option linter.unusedSectionVars false
set_option linter.unusedSimpArgs false
namespace Go.Proofs.YtkajoepgebfjoaaDoor.Sx
open Go.RowKit Go.MapKept
/-- H' is H, but for one block. -/
def PutH (H : Heap) (r : Nat) (b b' : Blk) (H' : Heap) : Prop := ∃ A B, H = A ++ (r, b) :: B ∧ H' = A ++ (r, b') :: B
section
variable {H H' : Heap} {r : Nat} {b b' : Blk}
theorem PutH.new (h : PutH H r b b' H') : (r, b') ∈ H' := by obtain ⟨A, B, rfl, rfl⟩ := h; exact List.mem_append_right _ (.head _)
theorem PutH.old (h : PutH H r b b' H') {p : Nat × Blk} (hp : p ∈ H) (hn : p ≠ (r, b)) : p ∈ H' := by
  obtain ⟨A, B, rfl, rfl⟩ := h
  rcases List.mem_append.1 hp with hp | hp
  · exact List.mem_append_left _ hp
  · rcases List.mem_cons.1 hp with rfl | hp
    · exact absurd rfl hn
    · exact List.mem_append_right _ (.tail _ hp)
theorem PutH.id (h : PutH H r b b' H') {p : Nat × Blk} (hp : p ∈ H) (hn : p.1 ≠ r) : p ∈ H' := h.old hp fun e => hn (by rw [e])
theorem PutH.blk (h : PutH H r b b' H') {p : Nat × Blk} (hp : p ∈ H) (hn : p.2 ≠ b) : p ∈ H' := h.old hp fun e => hn (by rw [e])
theorem Look.put {o : Nat} {vs : List Value} {K : Heap → Prop} (b' : Blk) (hm : (r, b) ∈ H) (hp : PutOk b o vs b') (h : ∀ H', PutH H r b b' H' → K H') : Look r H fun A b B => Put b o vs fun b' => appK A ((r, b') :: B) fun H' => K H' := by
  obtain ⟨A, B, rfl⟩ := List.append_of_mem hm
  exact ⟨A, b, B, rfl, b', hp, appK_to (h _ ⟨A, B, rfl, rfl⟩)⟩
/-- A cell of a row is written. -/
theorem PutOk.row {t : TypeId} {cs cs' vs : List Value} {o : Nat} (hl : o + vs.length ≤ cs.length) (he : cs.take o ++ vs ++ cs.drop (o + vs.length) = cs') : PutOk (.row t cs (0, 0)) o vs (.row t cs' (0, 0)) := by
  subst he; exact ⟨hl, .inl rfl, rfl⟩
theorem PutOk.buf {t : TypeId} {cs cs' vs : List Value} {o N : Nat} (hl : o + vs.length ≤ cs.length) (he : cs.take o ++ vs ++ cs.drop (o + vs.length) = cs') : PutOk (.buf t cs N) o vs (.buf t cs' N) := by
  subst he; exact ⟨hl, rfl⟩
end
section
variable [Dies] {P : Program} {o : Oper} {t k e : TypeId} {d : TypeDesc} {H : Heap} {K : Value → Heap → Prop} {zv : Value} {κ : Type} {f : κ → Value} {l : List (Ent κ)} {c r q since last : Nat} {seen : List Nat} {a : κ} {xm xk xv : Operand}
end
section
variable [Dies] {P : Program} {o : Oper} {t t2 e : TypeId} {xs xx : Operand} {H : Heap} {r n cap m c bytes : Nat} {cs news : List Value} {r2 o1 o2 N : Nat} {b2 : Blk} {K : Value → Heap → Prop}
end
section
variable [Dies] {P : Program} {o : Oper} {t e : TypeId} {xs xx : Operand} {H : Heap} {r n cap m c size bytes : Nat} {cs news : List Value} {r2 o2 N : Nat} {b2 : Blk} {K : Value → Heap → Prop}
end
end Go.Proofs.YtkajoepgebfjoaaDoor.Sx


/- Sx, part W: texts: bytes as cells; iterators over a text; a text to bytes and back; bytes that a call collects and then reads as a text. -/
set_option linter.unusedVariables false
set_option linter.unusedSectionVars false
set_option linter.unusedSimpArgs false
namespace Go.Proofs.YtkajoepgebfjoaaDoor.Sx
open Go.RowKit

/-- Bytes as cells; bytes as a text. -/
def cel (l : List UInt8) : List Value := l.map fun b => .int .u8 (b.toNat : Int)
def strOf (l : List UInt8) : ByteArray := ⟨l.toArray⟩
/- BITS OF WHOLE NUMBERS -/
/- ITERATORS -/
section
variable [Dies] {P : Program} {o : Oper} {t : TypeId} {xm : Operand} {H : Heap} {K : Value → Heap → Prop} {s : ByteArray} {q pos : Nat}
end

/- A TEXT TO BYTES, AND BACK -/
section
variable [Dies] {P : Program} {o : Oper} {src dst e : TypeId} {xx : Operand} {H : Heap} {K : Value → Heap → Prop} {l : List UInt8} {r o1 n cap : Nat} {b : Blk}
theorem RawV.toStr (ho : o.op = .convert src dst xx) (hs : P.underlying src = some (.slice e)) (he : P.underlying e = some (.int .u8)) (hd : P.underlying dst = some .string) (hm : (r, b) ∈ H) (hn : l.length = n)
    (hc : ∀ j x, l[j]? = some x → b.cell (o1 + j) = some (.int .u8 (x.toNat : Int))) (h : K (.string (strOf l)) H) : RawV P o [.slice (some ⟨r, o1, none⟩) n cap] H K := by
  subst hn
  refine ⟨fun ρ w hmm hw => .inl ?_⟩
  rw [ho] at hmm
  have hmm : [ρ xx] = [.slice (some ⟨r, o1, none⟩) l.length cap] := hmm
  injection hmm with e1 hmm
  have hex : execOp ρ o = (convert src dst (.slice (some ⟨r, o1, none⟩) l.length cap) >>= fun v => pure (.value v)) := by simp only [execOp, ho, e1]
  have hr := run_convert_bytes_back (P := P) w src dst e ⟨r, o1, none⟩ cap l hs he hd (fun j hj => by
    rw [addr_add]; exact cell_at (hw.at_ _ hm) (hc j _ (List.getElem?_eq_getElem hj)))
  exact ⟨_, _, _, .inl (by rw [hex, Sem.run_bind, hr]; rfl), hw, Step.refl _ _, h⟩
end

/- BYTES THAT A CALL COLLECTS -/
/-- A slice of the call's own bytes; the first of them may be a text's too. -/
inductive BufV (e : TypeId) : Value → List UInt8 → Heap → Prop
  | nil : BufV e (.slice none 0 0) [] []
  | row {q cap : Nat} {fz : Nat × Nat} {sl : List Value} {bs : List UInt8} (hl : (cel bs ++ sl).length = cap) (hf : fz.2 ≤ bs.length) (hcm : cap ≤ maxLen) (h0 : 0 < cap) : BufV e (.slice (some ⟨q, 0, none⟩) bs.length cap) bs [(q, .row e (cel bs ++ sl) fz)]
section
variable [Dies] {P : Program} {o : Oper} {t u e : TypeId} {xs xx : Operand} {A B N : Heap} {sv : Value} {bs l : List UInt8} {K : Value → Heap → Prop}
theorem BufV.len (h : BufV e sv bs N) : ∃ a c, sv = .slice a bs.length c := by
  cases h with
  | nil => exact ⟨_, _, rfl⟩
  | row => exact ⟨_, _, rfl⟩
/- A TEXT OF THEM -/
theorem builtin_op1 {bi : Builtin} {x : Operand} {v : Value} {ts : Array TypeId} (ρ : Operand → Value) (ho : o.op = .call { callee := .builtin bi, args := #[x], argTypes := ts }) (hm : o.op.operands.toList.map ρ = [v]) : ρ x = v := by
  rw [ho] at hm
  have hm : [ρ x] = [v] := hm
  injection hm
end

/- ADDRESSES AS PLACES OF ANY TYPE -/
section
variable [Dies] {P : Program} {o : Oper} {src dst t T : TypeId} {xx : Operand} {H : Heap} {K : Value → Heap → Prop} {r o1 : Nat} {cs : List Value} {fz : Nat × Nat}
end
end Go.Proofs.YtkajoepgebfjoaaDoor.Sx


/- Sx, part X: a part of an array in memory; an interface's value against nil. -/
set_option linter.unusedVariables false
set_option linter.unusedSectionVars false
set_option linter.unusedSimpArgs false
namespace Go.Proofs.YtkajoepgebfjoaaDoor.Sx
open Go.RowKit
section
variable [Dies] {P : Program} {o : Oper} {t e : TypeId} {xx xl xh : Operand} {H : Heap} {K : Value → Heap → Prop} {r o1 n k h : Nat} {i : TypeInfo}
end
end Go.Proofs.YtkajoepgebfjoaaDoor.Sx


/- Sx, part Y: a method that is called by way of an interface. -/
set_option linter.unusedVariables false
set_option linter.unusedSectionVars false
set_option linter.unusedSimpArgs false
namespace Go.Proofs.YtkajoepgebfjoaaDoor.Sx
open Go.RowKit
section
variable [Dies] {P : Program} {o : Oper} {H : Heap} {K : Value → Heap → Prop} {f : FuncId} {as : Array Operand} {ts : Array TypeId} {T E : TypeId} {name : String} {xr : Operand} {rv v : Value} {vs : List Value}
/-- The method of a value behind an interface. -/
theorem RawV.invoke (ho : o.op = .call { callee := .invoke xr name, args := as, argTypes := ts }) (hcall : ∀ w, Holds w H → (callMethod (.iface T rv) name vs.toArray).run P w = .ok (.enter f (v :: vs).toArray) w) (h : SCalls P f (v :: vs) H K) : RawV P o (.iface T rv :: vs) H K := by
  refine ⟨fun ρ w hm hw => .inr (.inl ⟨f, (v :: vs).toArray, ?_, h.run w hw⟩)⟩
  have hm : (xr :: as.toList).map ρ = .iface T rv :: vs := by
    rw [ho] at hm
    simpa [Op.operands, Call.operands] using hm
  have e1 : ρ xr = .iface T rv := by injection hm
  have e2 : as.toList.map ρ = vs := map_tail hm
  have e3 : as.map ρ = vs.toArray := Array.ext' (by simpa using e2)
  have hx : (#[Value.iface T rv] ++ vs.toArray).extract 1 (#[Value.iface T rv] ++ vs.toArray).size = vs.toArray := by
    apply Array.ext'
    simp
  have hg : (#[Value.iface T rv] ++ vs.toArray)[0]? = some (.iface T rv) := by simp
  have hex : (execOp ρ o).run P w = (callMethod (.iface T rv) name vs.toArray).run P w := by
    simp only [execOp, resolve, ho, e1, e3, Sem.run_bind, Sem.run_pure, Result.andThen_ok, Go.invoke, hg, hx]
  rw [hex, hcall w hw]
end
end Go.Proofs.YtkajoepgebfjoaaDoor.Sx


/- Sx, part Z: the greater of two; a slice that grows by one element at a time, of any size. -/
set_option linter.unusedVariables false
set_option linter.unusedSectionVars false
set_option linter.unusedSimpArgs false
namespace Go.Proofs.YtkajoepgebfjoaaDoor.Sx
open Go.RowKit
section
variable [Dies] {P : Program} {o : Oper} {t t1 t2 : TypeId} {H A B : Heap} {K : Value → Heap → Prop} {xs xx : Operand} {k k' : IntKind} {a b m : Int}
end
/-- A slice of the call's own that grows. -/
inductive Grow {α : Type} (f : α → List Value) (k : Nat) (e : TypeId) : Value → List α → Heap → Prop
  | nil : Grow f k e (.slice none 0 0) [] []
  | buf {q c : Nat} {L : List α} : L.length ≤ c → c ≤ maxLen → Grow f k e (.slice (some ⟨q, 0, none⟩) L.length c) L [(q, .buf e (L.flatMap f) (c * k))]
section
variable {α : Type} {f : α → List Value} {k e : Nat} {v0 : Value} {L : List α} {M : Heap}
theorem Grow.sv (h : Grow f k e v0 L M) : ∃ a c, v0 = .slice a L.length c ∧ L.length ≤ maxLen := by
  cases h with
  | nil => exact ⟨_, _, rfl, Nat.zero_le _⟩
  | buf h1 h2 => exact ⟨_, _, rfl, Nat.le_trans h1 h2⟩
theorem Grow.zero {q : Nat} : Grow f k e (.slice (some ⟨q, 0, none⟩) 0 0) [] [(q, .buf e [] (0 * k))] := .buf (L := []) (c := 0) (Nat.le_refl _) (Nat.zero_le _)
end
/-- A queue of the call's own: a buffer, maybe with old elements behind what is in it. -/
inductive Que {α : Type} (f : α → List Value) (k : Nat) (e : TypeId) : Value → List α → Heap → Prop
  | nil : Que f k e (.slice none 0 0) [] []
  | buf {q c : Nat} {L st : List α} : L.length ≤ c → c ≤ maxLen → Que f k e (.slice (some ⟨q, 0, none⟩) L.length c) L [(q, .buf e ((L ++ st).flatMap f) (c * k))]
section
variable {α : Type} {f : α → List Value} {k e : Nat} {v0 : Value} {L : List α} {M : Heap}
theorem Que.len (h : Que f k e v0 L M) : ∃ a c, v0 = .slice a L.length c ∧ L.length ≤ maxLen := by
  cases h with
  | nil => exact ⟨_, _, rfl, Nat.zero_le _⟩
  | buf h1 h2 => exact ⟨_, _, rfl, Nat.le_trans h1 h2⟩
end
end Go.Proofs.YtkajoepgebfjoaaDoor.Sx


