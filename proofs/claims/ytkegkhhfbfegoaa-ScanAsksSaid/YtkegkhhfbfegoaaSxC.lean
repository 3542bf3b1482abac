/- Sx, part C: the types looked up ('cOp'), and that an operation that touches no memory does what 'xpure' says. -/
import Derived.Test.YtkegkhhfbfegoaaSxB
set_option linter.unusedVariables false
set_option linter.unusedSimpArgs false
namespace Go.Proofs.Ytkegkhhfbfegoaa.Sx
open Go.RowKit

/-- Whether a variable of a type is several cells; how many. -/
def aggOf (P : Program) (t : TypeId) : Option (Bool × Nat) :=
  match P.underlying t, P.info? t with
  | some (.struct _), some i => some (true, i.size)
  | some (.array _ _), some i => some (true, i.size)
  | some _, some i => some (false, i.size)
  | _, _ => none
def zeroOf (P : Program) (t : TypeId) : Option Value := (P.info? t).bind (·.zero)
/-- Where the fields lie, if all have sizes. -/
def placesOf (P : Program) (fs : List Field) : Option (List (Nat × Nat)) :=
  match fs with
  | [] => some []
  | f :: r => match P.info? f.type, placesOf P r with
    | some i, some l => some ((f.offset, i.size) :: l)
    | _, _ => none
def partsAt (places : Nat → Option (Nat × Nat)) : List (Nat × Operand) → Option (List (Nat × Nat × Operand))
  | [] => some []
  | (i, x) :: r => match places i, partsAt places r with
    | some (o, s), some l => some ((o, s, x) :: l)
    | _, _ => none
/-- So many cells of zero values. -/
def zerosOf (z : List Value) (n : Nat) : List Value := (List.range n).map fun j => z.getD (j % z.length) undef
def isNilPtr : Operand → Bool
  | .const (.pointer none) => true
  | _ => false

/-- Functions without a body (of this seat): a call of one is left as it is. -/
def bodyless (P : Program) (f : FuncId) : Bool := ([] : List Nat).any (Nat.beq f)
def cCall (P : Program) (o : Oper) (c : Call) : XOp :=
  match c.callee with
  | .value (.func f) => match bodyless P f with
    | true => .raw o
    | false => .call f c.args.toList
  | .value x => .callV x c.args.toList
  | .builtin .len => match c.args.toList, c.argTypes[0]? with
    | [x], some t => match P.underlying t with
      | some .string => .pure (.lenStr x)
      | some (.slice _) => .pure (.lenSl x)
      | some (.array n _) => .pure (.lenArr n)
      | _ => .raw o
    | _, _ => .raw o
  | _ => .raw o
def partOf (g : TypeId → Option EqT) (P : Program) (t : TypeId) (off : Nat) (rest : EqT) : Option EqT :=
  match P.underlying t, aggOf P t with
  | some (.int _), _ => some (.leaf off .int rest)
  | some .bool, _ => some (.leaf off .bool rest)
  | some .string, _ => some (.leaf off .str rest)
  | _, some (true, n) => match g t with
    | some T => some (.sub off n T rest)
    | none => none
  | _, _ => none
def fieldsT (g : TypeId → Option EqT) (P : Program) : List Field → Option EqT
  | [] => some .nil
  | f :: r => match fieldsT g P r with
    | some rest => if f.name ≠ "_" then partOf g P f.type f.offset rest else some rest
    | none => none
def itemsT (g : TypeId → Option EqT) (P : Program) (e : TypeId) (size : Nat) : List Nat → Option EqT
  | [] => some .nil
  | j :: r => match itemsT g P e size r with
    | some rest => partOf g P e (j * size) rest
    | none => none
def eqTOf (P : Program) : Nat → TypeId → Option EqT
  | 0, _ => none
  | d + 1, t => match P.underlying t with
    | some (.struct fs) => match P.stoodInHeld t with
      | true => none
      | false => fieldsT (eqTOf P d) P fs.toList
    | some (.array n e) => match P.info? e with
      | some i => itemsT (eqTOf P d) P e i.size (List.range n)
      | none => none
    | _ => none
def eqAggOf (P : Program) (o : Oper) (op : BinOp) (t : TypeId) (x y : Operand) : XOp :=
  match eqTOf P 20 t, P.eqGuardType P.depth t, op with
  | some ls, false, .eql => .pure (.eqAgg false ls x y)
  | some ls, false, .neq => .pure (.eqAgg true ls x y)
  | _, _, _ => .raw o
def cBin (P : Program) (o : Oper) (op : BinOp) (t : TypeId) (x y : Operand) : XOp :=
  match P.underlying t with
  | some (.int _) => .pure (.bin op x y)
  | some .string => .pure (.str op x y)
  | some .bool => match op with
    | .eql => .pure (.eqBool false x y)
    | .neq => .pure (.eqBool true x y)
    | _ => .raw o
  | some (.slice _) => match op with
    | .eql => .pure (.eqSl false x y)
    | .neq => .pure (.eqSl true x y)
    | _ => .raw o
  | some (.pointer e) => match P.info? e, op with
    | some i, .eql => match Nat.beq i.size 0, isNilPtr x || isNilPtr y with
      | false, true => .pure (.eqNilPtr false x y)
      | false, false => .eqPtr false x y
      | _, _ => .raw o
    | some i, .neq => match Nat.beq i.size 0, isNilPtr x || isNilPtr y with
      | false, true => .pure (.eqNilPtr true x y)
      | false, false => .eqPtr true x y
      | _, _ => .raw o
    | _, _ => .raw o
  | some (.struct _) => eqAggOf P o op t x y
  | some (.array _ _) => eqAggOf P o op t x y
  | _ => .raw o
def cOp (P : Program) (o : Oper) : XOp :=
  match o.op with
  | .move x => .pure (.mov x)
  | .assign x => .pure (.mov x)
  | .pick c a b => .pure (.pick c a b)
  | .alloc e => match zeroOf P e with
    | some z => .alloc e z.cells.toList
    | none => .raw o
  | .box e x => .box e x
  | .build t parts => match zeroOf P t, P.underlying t with
    | some z, some (.struct fs) => match placesOf P fs.toList with
      | some pl => match partsAt (pl[·]?) parts.toList with
        | some ps => .pure (.build z.cells.toList ps)
        | none => .raw o
      | none => .raw o
    | some z, some (.array _ e) => match P.info? e with
      | some i => match partsAt (fun j => some (j * i.size, i.size)) parts.toList with
        | some ps => .pure (.build z.cells.toList ps)
        | none => .raw o
      | none => .raw o
    | _, _ => .raw o
  | .buildSlice t len parts => match P.underlying t with
    | some (.slice e) => match P.info? e, zeroOf P e with
      | some i, some z => match partsAt (fun j => some (j * i.size, i.size)) parts.toList, Nat.ble (len * i.size) 16777216, Nat.beq i.size z.cells.size with
        | some ps, true, true => .buildSlice e len (zerosOf z.cells.toList (len * i.size)) ps
        | _, _, _ => .raw o
      | _, _ => .raw o
    | _ => .raw o
  | .load t a => match aggOf P t with
    | some (b, n) => .load b n a
    | none => .raw o
  | .store t a v => match aggOf P t with
    | some (_, n) => .store n a v
    | none => .raw o
  | .nilCheck x => .pure (.nilCheck x)
  | .binOp op t x y _ => cBin P o op t x y
  | .unOp op _ x => match op with
    | .not => .pure (.not x)
    | .neg => .pure (.neg x)
    | .xor => .pure (.compl x)
    | _ => .raw o
  | .convert s d x => match P.underlying s, P.underlying d with
    | some (.int _), some (.int k) => .pure (.conv k x)
    | _, _ => .raw o
  | .makeInterface t x => match P.underlying t with
    | some (.interface _) => .raw o
    | some _ => .pure (.iface t x)
    | none => .raw o
  | .makeFunc fn a b => .pure (.mkfunc fn a.toList b.toList)
  | .fieldAddr s x f => match P.underlying s with
    | some (.struct fs) => match fs[f]? with
      | some fl => match P.info? fl.type with
        | some i => match Nat.beq i.size 0 with
          | false => .pure (.fieldAddr fl.offset x)
          | true => .raw o
        | none => .raw o
      | none => .raw o
    | _ => .raw o
  | .field s x f => match P.underlying s with
    | some (.struct fs) => match fs[f]? with
      | some fl => match aggOf P fl.type with
        | some (true, n) => .pure (.field fl.offset (some n) x)
        | some (false, _) => .pure (.field fl.offset none x)
        | none => .raw o
      | none => .raw o
    | _ => .raw o
  | .indexAddr t x i => match P.underlying t with
    | some (.array n e) => match P.info? e with
      | some inf => .pure (.idxAddrArr n inf.size x i)
      | none => .raw o
    | some (.slice e) => match P.info? e with
      | some inf => .pure (.idxAddrSl inf.size x i)
      | none => .raw o
    | _ => .raw o
  | .index t x i => match P.underlying t with
    | some (.array n e) => match aggOf P e with
      | some (b, s) => .pure (.idxArr n s b x i)
      | none => .raw o
    | some .string => .pure (.idxStr x i)
    | _ => .raw o
  | .extract x i => .pure (.extract x i)
  | .slice t x lo hi mx => match mx with
    | some _ => .raw o
    | none => match P.underlying t with
      | some .string => .pure (.sliceStr x lo hi)
      | some (.slice e) => match P.info? e with
        | some inf => .pure (.sliceSl inf.size x lo hi)
        | none => .raw o
      | _ => .raw o
  | .typeAssert x _ t ok => match P.underlying t, zeroOf P t with
    | some (.interface _), _ => .raw o
    | some _, some z => .pure (.assertTo t ok z x)
    | _, _ => .raw o
  | .call c => cCall P o c
  | _ => .raw o

abbrev act (l : List Value) : Act := ⟨l.toArray, []⟩
theorem getL_eq : ∀ (l : List Value) (i : Nat), l.toArray.getD i undef = getL l i
  | [], i => by simp [show getL [] i = undef from rfl]
  | x :: l, 0 => by simp [show getL (x :: l) 0 = x from rfl]
  | x :: l, i + 1 => by
    have := getL_eq l i
    rw [show getL (x :: l) (i + 1) = getL l i from rfl, ← this]
    simp
theorem ev_eq (l : List Value) (x : Operand) : (act l).eval x = ev l x := by
  cases x with
  | tmp t => exact getL_eq l t
  | _ => rfl
theorem setK_ok : ∀ (l : List Value) (i : Nat) (v : Value) (K : List Value → Prop), setK l i v K → K (l.set i v)
  | [], i, v, K, h => h
  | x :: l, 0, v, K, h => h
  | x :: l, i + 1, v, K, h => by simpa using setK_ok l i v _ h
theorem forceV_ok {v : Value} {K : Value → Prop} (h : forceV v K) : K v := by cases v <;> exact h
theorem cellK_ok : ∀ {l : List Value} {i : Nat} {K : Value → Prop}, cellK l i K → ∃ v, l[i]? = some v ∧ K v
  | [], _, _, h => False.elim h
  | x :: l, 0, K, h => ⟨x, rfl, forceV_ok h⟩
  | x :: l, i + 1, K, h => by simpa using cellK_ok (l := l) (i := i) h
theorem takeK_ok : ∀ {l : List Value} {n : Nat} {K : List Value → Prop}, takeK l n K → K (l.take n)
  | [], n, K, h => by have h' : K [] := h; simpa using h'
  | x :: l, 0, K, h => by have h' : K [] := h; simpa using h'
  | x :: l, n + 1, K, h => by simpa using takeK_ok (l := l) (n := n) h
theorem sliceK_ok : ∀ {l : List Value} {o n : Nat} {K : List Value → Prop}, sliceK l o n K → K ((l.drop o).take n)
  | [], o, n, K, h => by have h' : K [] := h; simpa using h'
  | x :: l, 0, n, K, h => by simpa using takeK_ok (l := x :: l) (n := n) h
  | x :: l, o + 1, n, K, h => by simpa using sliceK_ok (l := l) (o := o) h
theorem overK_ok : ∀ {vs l : List Value} {K : List Value → Prop}, overK vs l K → vs.length ≤ l.length ∧ K (vs ++ l.drop vs.length)
  | [], l, K, h => by have h' : K l := h; simpa using h'
  | _ :: _, [], _, h => False.elim h
  | v :: vs, x :: l, K, h => by simpa using overK_ok (vs := vs) (l := l) h
theorem putsK_ok : ∀ {l : List Value} {o : Nat} {vs : List Value} {K : List Value → Prop}, o + vs.length ≤ l.length → putsK l o vs K → K (l.take o ++ vs ++ l.drop (o + vs.length))
  | [], 0, vs, K, _, h => by
    have := (overK_ok (show overK vs [] K from h)).2
    simpa using this
  | x :: l, 0, vs, K, _, h => by
    have := (overK_ok (show overK vs (x :: l) K from h)).2
    simpa using this
  | [], o + 1, vs, K, hl, h => by simp at hl
  | x :: l, o + 1, vs, K, hl, h => by
    have := putsK_ok (l := l) (o := o) (vs := vs) (by simp at hl; omega) h
    have e : o + 1 + vs.length = (o + vs.length) + 1 := by omega
    rw [e]
    simpa using this
theorem appK_ok {α : Type} : ∀ {k l : List α} {K : List α → Prop}, appK k l K → K (k ++ l)
  | [], l, K, h => h
  | x :: k, l, K, h => by simpa using appK_ok (k := k) (l := l) h
theorem cellsK_ok {v : Value} {K : List Value → Prop} (h : cellsK v K) : K v.cells.toList := by
  cases v <;> exact h
theorem allOne_ok : ∀ {l : List Value}, allOne l = true → ∀ v ∈ l, v.oneCell' = true
  | [], _, v, hv => by cases hv
  | x :: l, h, v, hv => by
    have h0 : (Bool.casesOn (motive := fun _ => Bool) (oneB x) false (allOne l)) = true := h
    have h2 : x.oneCell' = true ∧ allOne l = true := by cases x <;> simp_all [oneB, Value.oneCell']
    rcases List.mem_cons.1 hv with rfl | hv
    · exact h2.1
    · exact allOne_ok h2.2 v hv
theorem evsK_ok (l : List Value) : ∀ {xs : List Operand} {K : List Value → Prop}, evsK l xs K → K (xs.map (ev l))
  | [], K, h => h
  | x :: r, K, h => by simpa using evsK_ok l (xs := r) (forceV_ok (K := fun v => evsK l r fun vs => K (v :: vs)) h)
theorem keq_ok {k k' : IntKind} (h : keq k k' = true) : k = k' := by cases k <;> cases k' <;> first | rfl | (exact absurd h (by decide))
theorem same_ok {k k' : IntKind} {K : Prop} (h : same k k' K) : k = k' ∧ K := by
  unfold same at h
  split at h
  · rename_i e; exact ⟨keq_ok e, h⟩
  · exact h.elim
theorem map_ev (l : List Value) (xs : Array Operand) : xs.map (act l).eval = (xs.toList.map (ev l)).toArray := by
  apply Array.ext'
  simp only [Array.toList_map]
  exact List.map_congr_left fun x _ => ev_eq l x

section
variable {P : Program} {w : World}
theorem aggOf_spec {t : TypeId} {b : Bool} {n : Nat} (h : aggOf P t = some (b, n)) : (∀ w, (isAgg t).run P w = .ok b w) ∧ (∀ w, (sizeOf t).run P w = .ok n w) := by
  unfold aggOf at h
  cases hu : P.underlying t with
  | none => simp [hu] at h
  | some d =>
    cases hi : P.info? t with
    | none => rw [hu, hi] at h; cases d <;> simp at h
    | some i =>
      rw [hu, hi] at h
      have h1 : ∀ w, (sizeOf t).run P w = .ok i.size w := fun w => by simp [sizeOf, typeInfo, hi]
      cases d <;> simp only [Option.some.injEq, Prod.mk.injEq] at h <;> obtain ⟨rfl, rfl⟩ := h <;> exact ⟨fun w => by simp [isAgg, run_underlying hu], h1⟩
theorem zeroOf_spec {t : TypeId} {z : Value} (h : zeroOf P t = some z) (w : World) : (zeroValue t).run P w = .ok z w := by
  unfold zeroOf at h
  cases hi : P.info? t with
  | none => simp [hi] at h
  | some i =>
    have hz : i.zero = some z := by simpa [hi] using h
    simp [zeroValue, typeInfo, hi, hz]
theorem size_spec {t : TypeId} {i : TypeInfo} (hi : P.info? t = some i) (w : World) : (sizeOf t).run P w = .ok i.size w := by simp [sizeOf, typeInfo, hi]
theorem run_part_agg {t : TypeId} {n : Nat} (h : aggOf P t = some (true, n)) (cs : List Value) (off : Nat) (w : World) :
    (part t cs.toArray off).run P w = .ok (.agg ((cs.drop off).take n).toArray) w := by
  obtain ⟨h1, h2⟩ := aggOf_spec h
  simp only [part, Sem.run_bind, h1, Result.andThen_ok, if_true, h2, Sem.run_pure]
  congr 2
  apply Array.ext'
  simp [List.extract_eq_take_drop]
theorem run_part_one {t : TypeId} {n : Nat} (h : aggOf P t = some (false, n)) (cs : List Value) (off : Nat) (v : Value) (hv : cs[off]? = some v) (w : World) :
    (part t cs.toArray off).run P w = .ok v w := by
  obtain ⟨h1, h2⟩ := aggOf_spec h
  simp [part, Sem.run_bind, h1, hv]
theorem addr_add (r o n : Nat) : (⟨r, o, none⟩ : Addr).add n = ⟨r, o + n, none⟩ := by
  unfold Addr.add; split <;> simp_all

/-- What an operation yields that touches no memory. -/
abbrev Yld (P : Program) (s : Sem Value) (K : Value → Prop) : Prop := ∃ v, (∀ w, s.run P w = .ok v w) ∧ K v

theorem bin_ok {op : BinOp} {k k' : IntKind} {a b : Int} {K : Value → Prop} (t : TypeId) (h : binK op k k' a b K) : Yld P (binOp op t (.int k a) (.int k' b)) K := by
  cases op <;> simp only [binK] at h
  case add => obtain ⟨rfl, m, rfl, hK⟩ := same_ok h; exact ⟨_, fun w => by simp [binOp, Op.intArith], hK⟩
  case sub => obtain ⟨rfl, m, rfl, hK⟩ := same_ok h; exact ⟨_, fun w => by simp [binOp, Op.intArith], hK⟩
  case mul => obtain ⟨rfl, m, rfl, hK⟩ := same_ok h; exact ⟨_, fun w => by simp [binOp, Op.intArith], hK⟩
  case quo => obtain ⟨rfl, hb, m, rfl, hK⟩ := same_ok h; exact ⟨_, fun w => by simp [binOp, Op.intDiv, hb], hK⟩
  case rem => obtain ⟨rfl, hb, m, rfl, hK⟩ := same_ok h; exact ⟨_, fun w => by simp [binOp, Op.intDiv, hb], hK⟩
  case and => obtain ⟨rfl, m, rfl, hK⟩ := same_ok h; exact ⟨_, fun w => by simp [binOp, Op.intBits, bitAnd], hK⟩
  case or => obtain ⟨rfl, m, rfl, hK⟩ := same_ok h; exact ⟨_, fun w => by simp [binOp, Op.intBits, bitOr], hK⟩
  case xor => obtain ⟨rfl, m, rfl, hK⟩ := same_ok h; exact ⟨_, fun w => by simp [binOp, Op.intBits, bitXor], hK⟩
  case andNot => obtain ⟨rfl, m, rfl, hK⟩ := same_ok h; exact ⟨_, fun w => by simp [binOp, Op.intBits, bitNot], hK⟩
  case shl => obtain ⟨hb, m, rfl, hK⟩ := h; exact ⟨_, fun w => by simp [binOp, Op.shift, shlI, show ¬ b < 0 by omega], hK⟩
  case shr => obtain ⟨hb, m, rfl, hK⟩ := h; exact ⟨_, fun w => by simp [binOp, Op.shift, shrI, show ¬ b < 0 by omega], hK⟩
  case eql => obtain ⟨rfl, hK⟩ := same_ok h; exact ⟨_, fun w => by simp [binOp, Op.intCmp]; rfl, hK⟩
  case neq => obtain ⟨rfl, hK⟩ := same_ok h; exact ⟨_, fun w => by simp [binOp, Op.intCmp]; rfl, hK⟩
  case lss => obtain ⟨rfl, hK⟩ := same_ok h; exact ⟨_, fun w => by simp [binOp, Op.intCmp], hK⟩
  case leq => obtain ⟨rfl, hK⟩ := same_ok h; exact ⟨_, fun w => by simp [binOp, Op.intCmp], hK⟩
  case gtr => obtain ⟨rfl, hK⟩ := same_ok h; exact ⟨_, fun w => by simp [binOp, Op.intCmp], hK⟩
  case geq => obtain ⟨rfl, hK⟩ := same_ok h; exact ⟨_, fun w => by simp [binOp, Op.intCmp], hK⟩
theorem beq_lists (a b : ByteArray) : (a.toList == b.toList) = decide (a = b) := by
  rw [ByteArray.toList_eq, ByteArray.toList_eq]
  by_cases h : a = b
  · subst h; simp
  · have : ¬ a.data = b.data := fun e => h (by cases a; cases b; simp_all)
    simp [h, this]
theorem str_ok {op : BinOp} {a b : ByteArray} {K : Value → Prop} (t : TypeId) (h : strK op a b K) : Yld P (binOp op t (.string a) (.string b)) K := by
  cases op <;> simp only [strK] at h
  case add => obtain ⟨hb, hK⟩ := h; exact ⟨_, fun w => by simp [binOp, Op.stringOp, IntKind.max, IntKind.signed, IntKind.bits]; omega, hK⟩
  case eql => exact ⟨_, fun w => by simp only [binOp, Op.stringOp, beq_lists, Sem.run_pure], h⟩
  case neq => exact ⟨_, fun w => by simp only [binOp, Op.stringOp, beq_lists, Sem.run_pure], h⟩
  case lss => exact ⟨_, fun w => by simp only [binOp, Op.stringOp, beq_lists, Sem.run_pure]; rfl, h⟩
  case leq => exact ⟨_, fun w => by simp only [binOp, Op.stringOp, beq_lists, Sem.run_pure]; rfl, h⟩
  case gtr => exact ⟨_, fun w => by simp only [binOp, Op.stringOp, beq_lists, Sem.run_pure]; rfl, h⟩
  case geq => exact ⟨_, fun w => by simp only [binOp, Op.stringOp, beq_lists, Sem.run_pure]; rfl, h⟩
  all_goals exact h.elim
end
end Go.Proofs.Ytkegkhhfbfegoaa.Sx
