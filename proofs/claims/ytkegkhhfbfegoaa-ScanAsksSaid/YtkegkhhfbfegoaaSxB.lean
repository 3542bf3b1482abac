/- Sx, part B: a function's text with its types looked up ('XCode', made by 'compile'), and what is to be shown so that it runs as wanted ('xc'): reckoned by Lean itself, step by step, from the slots and the known blocks; it stops at the words below (Need, Val, Branch, Idx, Look, Cells, Put, New, SCalls ..). -/
import Derived.Test.YtkegkhhfbfegoaaSxA
set_option linter.unusedVariables false
set_option linter.unusedSimpArgs false
namespace Go.Proofs.Ytkegkhhfbfegoaa.Sx
open Go.RowKit

/- WHAT A WALK STOPS AT -/
inductive Need (p K : Prop) : Prop
  | mk : p → K → Need p K
inductive Val (n : Int) (K : Int → Prop) : Prop
  | mk (m : Int) : n = m → K m → Val n K
inductive Branch (b : Bool) (K1 K2 : Prop) : Prop
  | mk : (b = true → K1) → (b = false → K2) → Branch b K1 K2
inductive Idx (i : Int) (n : Nat) (K : Nat → Prop) : Prop
  | mk (j : Nat) : i = (j : Int) → j < n → K j → Idx i n K
inductive Look (r : Nat) (H : Heap) (K : Heap → Blk → Heap → Prop) : Prop
  | mk (A : Heap) (b : Blk) (B : Heap) : H = A ++ (r, b) :: B → K A b B → Look r H K
inductive New (K : Nat → Prop) : Prop
  | mk : (∀ r, K r) → New K
def Blk.cell : Blk → Nat → Option Value
  | .row _ cs _, i | .buf _ cs _, i => cs[i]?
  | .ro f, i => f i
  | .obj _, _ => none
inductive Cell (b : Blk) (o : Nat) (K : Value → Prop) : Prop
  | mk (v : Value) : b.cell o = some v → K v → Cell b o K
inductive Cells (b : Blk) (o n : Nat) (K : List Value → Prop) : Prop
  | mk (vs : List Value) : vs.length = n → (∀ j v, vs[j]? = some v → b.cell (o + j) = some v) → K vs → Cells b o n K
/-- b' is b with vs written from o on. -/
def PutOk (b : Blk) (o : Nat) (vs : List Value) (b' : Blk) : Prop :=
  match b with
  | .row t cs fz => o + vs.length ≤ cs.length ∧ (fz = (0, 0) ∨ o + vs.length ≤ fz.1) ∧ b' = .row t (cs.take o ++ vs ++ cs.drop (o + vs.length)) fz
  | .buf t cs n => o + vs.length ≤ cs.length ∧ b' = .buf t (cs.take o ++ vs ++ cs.drop (o + vs.length)) n
  | _ => False
inductive Put (b : Blk) (o : Nat) (vs : List Value) (K : Blk → Prop) : Prop
  | mk (b' : Blk) : PutOk b o vs b' → K b' → Put b o vs K
/-- A block that is a row of variables, none of them frozen. -/
def plainAt (H : Heap) (r : Nat) : Prop := ∃ b, (r, b) ∈ H ∧ match b with | .row _ _ fz => fz = (0, 0) | .buf .. => True | _ => False
inductive PEq (H : Heap) (a b : Addr) (K : Bool → Prop) : Prop
  | same : a.block = b.block → K (decide (a = b)) → PEq H a b K
  | other : a.block ≠ b.block → plainAt H a.block → plainAt H b.block → K false → PEq H a b K

/- CALLS -/
/-- A call of function f comes back, whatever else memory holds: with v, and H' known, as K tells. -/
structure SCalls (P : Program) (f : FuncId) (args : List Value) (H : Heap) (K : Value → Heap → Prop) : Prop where
  enter : ∀ w, (callFunc f args.toArray).run P w = .ok (.enter f args.toArray) w
  run : ∀ w, Holds w H → Calls P f args.toArray w fun e w' => ∃ v H', e = .returned v ∧ Holds w' H' ∧ Step w H w' H' ∧ K v H'
/-- What one operation comes to. -/
def OpOk (P : Program) (r : Result Next) (w : World) (H : Heap) (K : Value → Heap → Prop) : Prop :=
  (∃ v w' H', (r = .ok (.value v) w' ∨ (r = .ok .skip w' ∧ v = undef)) ∧ Holds w' H' ∧ Step w H w' H' ∧ K v H') ∨
  (∃ f args, r = .ok (.enter f args) w ∧ Calls P f args w fun e w' => ∃ v H', e = .returned v ∧ Holds w' H' ∧ Step w H w' H' ∧ K v H')
/-- An operation that 'compile' leaves as it is, its operands' values told. -/
structure RawV (P : Program) (o : Oper) (vs : List Value) (H : Heap) (K : Value → Heap → Prop) : Prop where
  run : ∀ (ρ : Operand → Value) (w : World), o.op.operands.toList.map ρ = vs → Holds w H → OpOk P ((execOp ρ o).run P w) w H K

/- LISTS, ONE AFTER THE OTHER -/
noncomputable def getL (l : List Value) : Nat → Value :=
  List.rec (motive := fun _ => Nat → Value) (fun _ => undef) (fun x _ ih i => Nat.casesOn (motive := fun _ => Value) i x fun i => ih i) l
def setK (l : List Value) : Nat → Value → (List Value → Prop) → Prop :=
  List.rec (motive := fun _ => Nat → Value → (List Value → Prop) → Prop) (fun _ _ K => K [])
    (fun x l ih i => Nat.casesOn (motive := fun _ => Value → (List Value → Prop) → Prop) i (fun v K => K (v :: l)) fun i v K => ih i v fun l' => K (x :: l')) l
def forceV (v : Value) (K : Value → Prop) : Prop :=
  match v with
  | .bool b => K (.bool b)
  | .int k n => K (.int k n)
  | .float k b => K (.float k b)
  | .complex k a b => K (.complex k a b)
  | .string s => K (.string s)
  | .pointer a => K (.pointer a)
  | .slice a n c => K (.slice a n c)
  | .map r => K (.map r)
  | .chan r => K (.chan r)
  | .func f x y => K (.func f x y)
  | .nilFunc => K .nilFunc
  | .iface t v => K (.iface t v)
  | .nilIface => K .nilIface
  | .agg cs => K (.agg cs)
  | .tuple vs => K (.tuple vs)
def cellK (l : List Value) : Nat → (Value → Prop) → Prop :=
  List.rec (motive := fun _ => Nat → (Value → Prop) → Prop) (fun _ _ => False)
    (fun x _ ih i => Nat.casesOn (motive := fun _ => (Value → Prop) → Prop) i (fun K => forceV x K) fun i K => ih i K) l
def takeK (l : List Value) : Nat → (List Value → Prop) → Prop :=
  List.rec (motive := fun _ => Nat → (List Value → Prop) → Prop) (fun _ K => K [])
    (fun x _ ih n => Nat.casesOn (motive := fun _ => (List Value → Prop) → Prop) n (fun K => K []) fun n K => ih n fun l' => K (x :: l')) l
def sliceK (l : List Value) : Nat → Nat → (List Value → Prop) → Prop :=
  List.rec (motive := fun _ => Nat → Nat → (List Value → Prop) → Prop) (fun _ _ K => K [])
    (fun x l ih o => Nat.casesOn (motive := fun _ => Nat → (List Value → Prop) → Prop) o (fun n K => takeK (x :: l) n K) fun o n K => ih o n K) l
/-- vs over l, from the head on. -/
def overK (vs : List Value) : List Value → (List Value → Prop) → Prop :=
  List.rec (motive := fun _ => List Value → (List Value → Prop) → Prop) (fun l K => K l)
    (fun v _ ih l => List.casesOn (motive := fun _ => (List Value → Prop) → Prop) l (fun _ => False) fun _ l K => ih l fun l' => K (v :: l')) vs
def putsK (l : List Value) : Nat → List Value → (List Value → Prop) → Prop :=
  List.rec (motive := fun _ => Nat → List Value → (List Value → Prop) → Prop)
    (fun o vs K => Nat.casesOn (motive := fun _ => Prop) o (overK vs [] K) fun _ => List.casesOn (motive := fun _ => Prop) vs (K []) fun _ _ => False)
    (fun x l ih o => Nat.casesOn (motive := fun _ => List Value → (List Value → Prop) → Prop) o (fun vs K => overK vs (x :: l) K) fun o vs K => ih o vs fun l' => K (x :: l')) l
def appK {α : Type} (k : List α) : List α → (List α → Prop) → Prop :=
  List.rec (motive := fun _ => List α → (List α → Prop) → Prop) (fun l K => K l) (fun x _ ih l K => ih l fun l' => K (x :: l')) k
def cellsK (v : Value) (K : List Value → Prop) : Prop :=
  match v with
  | .agg ⟨cs⟩ => K cs
  | v => forceV v fun v => K [v]
def oneB : Value → Bool
  | .agg _ => false
  | .tuple _ => false
  | _ => true
noncomputable def allOne (l : List Value) : Bool :=
  List.rec (motive := fun _ => Bool) true (fun v _ ih => Bool.casesOn (motive := fun _ => Bool) (oneB v) false ih) l
noncomputable def ev (l : List Value) : Operand → Value
  | .tmp i => getL l i
  | .const v => v
  | .global g => .pointer (some ⟨g, 0, none⟩)
  | .func f => .func (.func f) #[] #[]
def evsK (l : List Value) (xs : List Operand) : (List Value → Prop) → Prop :=
  List.rec (motive := fun _ => (List Value → Prop) → Prop) (fun K => K []) (fun x _ ih K => forceV (ev l x) fun v => ih fun vs => K (v :: vs)) xs
def keq : IntKind → IntKind → Bool
  | .i8, .i8 | .i16, .i16 | .i32, .i32 | .i64, .i64 | .u8, .u8 | .u16, .u16 | .u32, .u32 | .u64, .u64 => true
  | _, _ => false
def same (k k' : IntKind) (K : Prop) : Prop := match keq k k' with | true => K | false => False
def bitAnd (k : IntKind) (a b : Int) : Int := k.wrap ((BitVec.ofInt k.bits a &&& BitVec.ofInt k.bits b).toNat)
def bitOr (k : IntKind) (a b : Int) : Int := k.wrap ((BitVec.ofInt k.bits a ||| BitVec.ofInt k.bits b).toNat)
def bitXor (k : IntKind) (a b : Int) : Int := k.wrap ((BitVec.ofInt k.bits a ^^^ BitVec.ofInt k.bits b).toNat)
def bitNot (k : IntKind) (a b : Int) : Int := k.wrap ((BitVec.ofInt k.bits a &&& ~~~(BitVec.ofInt k.bits b)).toNat)
def shlI (k : IntKind) (a b : Int) : Int := k.wrap (a * 2 ^ (min b.toNat k.bits))
def shrI (k : IntKind) (a b : Int) : Int := a.fdiv (2 ^ (min b.toNat k.bits))
def strLt (a b : ByteArray) : Bool := Op.bytesLess a.toList b.toList
def byteAt (s : ByteArray) (i : Nat) : Int := ((s.data.toList.getD i 0).toNat : Int)

def binK (op : BinOp) (k k' : IntKind) (a b : Int) (K : Value → Prop) : Prop :=
  match op with
  | .add => same k k' (Val (k.wrap (a + b)) fun n => K (.int k n))
  | .sub => same k k' (Val (k.wrap (a - b)) fun n => K (.int k n))
  | .mul => same k k' (Val (k.wrap (a * b)) fun n => K (.int k n))
  | .quo => same k k' (Need (b ≠ 0) (Val (k.wrap (a.tdiv b)) fun n => K (.int k n)))
  | .rem => same k k' (Need (b ≠ 0) (Val (a.tmod b) fun n => K (.int k n)))
  | .and => same k k' (Val (bitAnd k a b) fun n => K (.int k n))
  | .or => same k k' (Val (bitOr k a b) fun n => K (.int k n))
  | .xor => same k k' (Val (bitXor k a b) fun n => K (.int k n))
  | .andNot => same k k' (Val (bitNot k a b) fun n => K (.int k n))
  | .shl => Need (0 ≤ b) (Val (shlI k a b) fun n => K (.int k n))
  | .shr => Need (0 ≤ b) (Val (shrI k a b) fun n => K (.int k n))
  | .eql => same k k' (K (.bool (decide (a = b))))
  | .neq => same k k' (K (.bool (!decide (a = b))))
  | .lss => same k k' (K (.bool (decide (a < b))))
  | .leq => same k k' (K (.bool (decide (a ≤ b))))
  | .gtr => same k k' (K (.bool (decide (b < a))))
  | .geq => same k k' (K (.bool (decide (b ≤ a))))
def strK (op : BinOp) (a b : ByteArray) (K : Value → Prop) : Prop :=
  match op with
  | .add => Need (a.size + b.size ≤ 9223372036854775807) (K (.string (a ++ b)))
  | .eql => K (.bool (decide (a = b)))
  | .neq => K (.bool (!decide (a = b)))
  | .lss => K (.bool (strLt a b))
  | .leq => K (.bool (strLt a b || decide (a = b)))
  | .gtr => K (.bool (!(strLt a b || decide (a = b))))
  | .geq => K (.bool (!strLt a b))
  | _ => False

def negB (neg b : Bool) : Bool := match neg with | true => !b | false => b
/-- Whether, or not. -/
def negK (neg b : Bool) (K : Value → Prop) : Prop := match neg with | true => K (.bool (!b)) | false => K (.bool b)

inductive Lf where
  | int
  | bool
  | str
/-- Two cells, compared. -/
def leafK (k : Lf) (x y : Value) (K : Bool → Prop) : Prop :=
  match k, x, y with
  | .int, .int k a, .int k' b => same k k' (K (decide (a = b)))
  | .bool, .bool a, .bool b => K (a == b)
  | .str, .string a, .string b => K (decide (a = b))
  | _, _, _ => False
/-- What a comparison of two structs or arrays compares, one after the other. -/
inductive EqT where
  | nil
  | leaf (off : Nat) (k : Lf) (rest : EqT)
  | sub (off n : Nat) (inner rest : EqT)
def andK (a : Bool) (rest : EqT) (f : (Bool → Prop) → Prop) (K : Bool → Prop) : Prop :=
  match rest with
  | .nil => K a
  | _ => f fun b => K (a && b)
def eqTK (T : EqT) : List Value → List Value → (Bool → Prop) → Prop :=
  EqT.rec (motive := fun _ => List Value → List Value → (Bool → Prop) → Prop) (fun _ _ K => K true)
    (fun off k rest ih xs ys K => leafK k (getL xs off) (getL ys off) fun a => andK a rest (ih xs ys) K)
    (fun off n _ rest ih1 ih2 xs ys K => sliceK xs off n fun xs' => sliceK ys off n fun ys' => ih1 xs' ys' fun a => andK a rest (ih2 xs ys) K) T
/- OPERATIONS THAT TOUCH NO MEMORY -/
inductive PX where
  | mov (x : Operand)
  | pick (c a b : Operand)
  | build (zero : List Value) (parts : List (Nat × Nat × Operand))
  | nilCheck (x : Operand)
  | bin (op : BinOp) (x y : Operand)
  | str (op : BinOp) (x y : Operand)
  | eqBool (neg : Bool) (x y : Operand)
  | eqSl (neg : Bool) (x y : Operand)
  | eqNilPtr (neg : Bool) (x y : Operand)
  | eqAgg (neg : Bool) (T : EqT) (x y : Operand)
  | not (x : Operand)
  | neg (x : Operand)
  | compl (x : Operand)
  | conv (k : IntKind) (x : Operand)
  | iface (t : TypeId) (x : Operand)
  | mkfunc (fn : Fn) (first captured : List Operand)
  | fieldAddr (off : Nat) (x : Operand)
  | field (off : Nat) (agg : Option Nat) (x : Operand)
  | idxAddrArr (len size : Nat) (x i : Operand)
  | idxAddrSl (size : Nat) (x i : Operand)
  | idxArr (len size : Nat) (agg : Bool) (x i : Operand)
  | idxStr (x i : Operand)
  | extract (x : Operand) (i : Nat)
  | lenStr (x : Operand)
  | lenSl (x : Operand)
  | capSl (x : Operand)
  | lenArr (n : Nat)
  | sliceStr (x : Operand) (lo hi : Option Operand)
  | sliceSl (size : Nat) (x : Operand) (lo hi : Option Operand)
  | assertTo (t : TypeId) (ok : Bool) (zero : Value) (x : Operand)

def buildK (l : List Value) (ps : List (Nat × Nat × Operand)) : List Value → (List Value → Prop) → Prop :=
  List.rec (motive := fun _ => List Value → (List Value → Prop) → Prop) (fun cs K => K cs)
    (fun p _ ih cs K => cellsK (ev l p.2.2) fun vs =>
      match Nat.beq vs.length p.2.1 && Nat.ble (p.1 + p.2.1) cs.length with
      | true => putsK cs p.1 vs fun cs' => ih cs' K
      | false => False) ps
/-- A bound of a slice expression: at most y. -/
def bndK (l : List Value) (y : Nat) (d : Nat) : Option Operand → (Nat → Prop) → Prop
  | none, K => K d
  | some x, K => match ev l x with
    | .int _ n => Idx n (y + 1) K
    | _ => False
def xpure : PX → List Value → (Value → Prop) → Prop
  | .mov x, l, K => forceV (ev l x) K
  | .pick c a b, l, K => match ev l c with
    | .bool t => Branch t (forceV (ev l a) K) (forceV (ev l b) K)
    | _ => False
  | .build zero parts, l, K => buildK l parts zero fun cs => K (.agg ⟨cs⟩)
  | .nilCheck x, l, K => match ev l x with
    | .pointer (some a) => K (.pointer (some a))
    | .func (.func f) a b => K (.func (.func f) a b)
    | .iface t v => K (.iface t v)
    | _ => False
  | .bin op x y, l, K => match ev l x, ev l y with
    | .int k a, .int k' b => binK op k k' a b K
    | _, _ => False
  | .str op x y, l, K => match ev l x, ev l y with
    | .string a, .string b => strK op a b K
    | _, _ => False
  | .eqBool neg x y, l, K => match ev l x, ev l y with
    | .bool a, .bool b => negK neg (a == b) K
    | _, _ => False
  | .eqSl neg x y, l, K => match ev l x, ev l y with
    | .slice none _ _, .slice b _ _ => negK neg b.isNone K
    | .slice (some _) _ _, .slice none _ _ => K (.bool neg)
    | _, _ => False
  | .eqNilPtr neg x y, l, K => match ev l x, ev l y with
    | .pointer none, .pointer b => negK neg b.isNone K
    | .pointer (some _), .pointer none => K (.bool neg)
    | _, _ => False
  | .eqAgg neg T x y, l, K => match ev l x, ev l y with
    | .agg ⟨xs⟩, .agg ⟨ys⟩ => eqTK T xs ys fun b => negK neg b K
    | _, _ => False
  | .not x, l, K => match ev l x with
    | .bool b => K (.bool (!b))
    | _ => False
  | .neg x, l, K => match ev l x with
    | .int k n => Val (k.wrap (0 - n)) fun m => K (.int k m)
    | _ => False
  | .compl x, l, K => match ev l x with
    | .int k n => Val (bitXor k (match k.signed with | true => -1 | false => k.max) n) fun m => K (.int k m)
    | _ => False
  | .conv k x, l, K => match ev l x with
    | .int _ n => Val (k.wrap n) fun m => K (.int k m)
    | _ => False
  | .iface t x, l, K => forceV (ev l x) fun v => K (.iface t v)
  | .mkfunc fn first captured, l, K => evsK l first fun a => evsK l captured fun b => K (.func fn ⟨a⟩ ⟨b⟩)
  | .fieldAddr off x, l, K => match ev l x with
    | .pointer (some ⟨r, o, none⟩) => K (.pointer (some ⟨r, o + off, none⟩))
    | _ => False
  | .field off agg x, l, K => match ev l x with
    | .agg ⟨cs⟩ => match agg with
      | some n => sliceK cs off n fun vs => K (.agg ⟨vs⟩)
      | none => cellK cs off K
    | _ => False
  | .idxAddrArr len size x i, l, K => match ev l x, ev l i with
    | .pointer (some ⟨r, o, none⟩), .int _ n => Idx n len fun j => K (.pointer (some ⟨r, o + j * size, none⟩))
    | _, _ => False
  | .idxAddrSl size x i, l, K => match ev l x, ev l i with
    | .slice (some ⟨r, o, none⟩) len _, .int _ n => Idx n len fun j => K (.pointer (some ⟨r, o + j * size, none⟩))
    | _, _ => False
  | .idxArr len size agg x i, l, K => match ev l x, ev l i with
    | .agg ⟨cs⟩, .int _ n => Idx n len fun j => match agg with
      | true => sliceK cs (j * size) size fun vs => K (.agg ⟨vs⟩)
      | false => cellK cs (j * size) K
    | _, _ => False
  | .idxStr x i, l, K => match ev l x, ev l i with
    | .string s, .int _ n => Idx n s.size fun j => K (.int .u8 (byteAt s j))
    | _, _ => False
  | .extract x i, l, K => match ev l x with
    | .tuple ⟨vs⟩ => cellK vs i K
    | _ => False
  | .lenStr x, l, K => match ev l x with
    | .string s => K (.int .i64 (s.size : Int))
    | _ => False
  | .lenSl x, l, K => match ev l x with
    | .slice _ n _ => K (.int .i64 (n : Int))
    | _ => False
  | .capSl x, l, K => match ev l x with
    | .slice _ _ c => K (.int .i64 (c : Int))
    | _ => False
  | .lenArr n, l, K => K (.int .i64 (n : Int))
  | .sliceStr x lo hi, l, K => match ev l x with
    | .string s => bndK l s.size s.size hi fun h => bndK l h 0 lo fun k => K (.string (s.extract k h))
    | _ => False
  | .sliceSl size x lo hi, l, K => match ev l x with
    | .slice a len cap => bndK l cap len hi fun h => match lo with
      | none => K (.slice a h cap)
      | some _ => bndK l h 0 lo fun k => Branch (decide (cap = k)) (K (.slice a (h - k) (cap - k)))
        (match a with
          | some ⟨r, o, none⟩ => K (.slice (some ⟨r, o + k * size, none⟩) (h - k) (cap - k))
          | some ⟨_, _, some _⟩ => False
          | none => K (.slice none (h - k) (cap - k)))
    | _ => False
  | .assertTo t ok zero x, l, K => match ev l x with
    | .iface t' v => match Nat.beq t' t, ok with
      | true, true => forceV v fun v => K (.tuple ⟨[v, .bool true]⟩)
      | true, false => forceV v K
      | false, true => K (.tuple ⟨[zero, .bool false]⟩)
      | false, false => False
    | .nilIface => match ok with
      | true => K (.tuple ⟨[zero, .bool false]⟩)
      | false => False
    | _ => False

/- ALL OPERATIONS -/
inductive XOp where
  | pure (p : PX)
  | alloc (t : TypeId) (zero : List Value)
  | box (t : TypeId) (x : Operand)
  | load (agg : Bool) (n : Nat) (x : Operand)
  | store (n : Nat) (x v : Operand)
  | buildSlice (t : TypeId) (len : Nat) (zeros : List Value) (parts : List (Nat × Nat × Operand))
  | eqPtr (neg : Bool) (x y : Operand)
  | call (f : FuncId) (args : List Operand)
  | callV (x : Operand) (args : List Operand)
  | raw (o : Oper)
structure XO where
  dst : Option Nat
  guard : Option (Nat × Bool)
  op : XOp

/-- What a load reads. -/
def loadK (agg : Bool) (n : Nat) (v : Value) (H : Heap) (K : Value → Prop) : Prop :=
  match v with
  | .pointer (some ⟨r, o, none⟩) => Look r H fun _ b _ => match agg with
    | true => Cells b o n fun vs => K (.agg ⟨vs⟩)
    | false => Cell b o K
  | _ => False
def xop (P : Program) : XOp → List Value → Heap → (Value → Heap → Prop) → Prop
  | .pure p, l, H, K => xpure p l fun v => K v H
  | .alloc t zero, l, H, K => New fun r => K (.pointer (some ⟨r, 0, none⟩)) ((r, .row t zero (0, 0)) :: H)
  | .box t x, l, H, K => cellsK (ev l x) fun cs => New fun r => K (.pointer (some ⟨r, 0, none⟩)) ((r, .row t cs (0, 0)) :: H)
  | .load agg n x, l, H, K => loadK agg n (ev l x) H fun v => K v H
  | .store n x v, l, H, K => match ev l x with
    | .pointer (some ⟨r, o, none⟩) => cellsK (ev l v) fun vs => match Nat.beq vs.length n && allOne vs with
      | true => Look r H fun A b B => Put b o vs fun b' => appK A ((r, b') :: B) fun H' => K undef H'
      | false => False
    | _ => False
  | .buildSlice t len zeros parts, l, H, K => buildK l parts zeros fun cs => New fun r => K (.slice (some ⟨r, 0, none⟩) len len) ((r, .row t cs (0, 0)) :: H)
  | .eqPtr neg x y, l, H, K => match ev l x, ev l y with
    | .pointer none, .pointer b => negK neg b.isNone fun v => K v H
    | .pointer (some _), .pointer none => K (.bool neg) H
    | .pointer (some a), .pointer (some b) => PEq H a b fun t => negK neg t fun v => K v H
    | _, _ => False
  | .call f args, l, H, K => evsK l args fun vs => SCalls P f vs H K
  | .callV x args, l, H, K => match ev l x with
    | .func (.func f) ⟨fs⟩ ⟨cs⟩ => evsK l args fun vs => appK vs cs fun vs => appK fs vs fun vs => SCalls P f vs H K
    | _ => False
  | .raw o, l, H, K => evsK l o.op.operands.toList fun vs => RawV P o vs H K
def dstK (d : Option Nat) (l : List Value) (v : Value) (K : List Value → Prop) : Prop :=
  match d with
  | none => K l
  | some d => setK l d v K
/-- An operation, if it is wanted. -/
def xo (P : Program) (x : XO) (l : List Value) (H : Heap) (K : List Value → Heap → Prop) : Prop :=
  match x.guard with
  | none => xop P x.op l H fun v H' => dstK x.dst l v fun l' => K l' H'
  | some (g, want) => match getL l g with
    | .bool b => Branch b
      (match want with | true => xop P x.op l H fun v H' => dstK x.dst l v fun l' => K l' H' | false => dstK x.dst l undef fun l' => K l' H)
      (match want with | false => xop P x.op l H fun v H' => dstK x.dst l v fun l' => K l' H' | true => dstK x.dst l undef fun l' => K l' H)
    | _ => dstK x.dst l undef fun l' => K l' H
def xops (P : Program) (xs : List XO) : List Value → Heap → (List Value → Heap → Prop) → Prop :=
  List.rec (motive := fun _ => List Value → Heap → (List Value → Heap → Prop) → Prop) (fun l H K => K l H)
    (fun x _ ih l H K => xo P x l H fun l' H' => ih l' H' K) xs
/-- Operations whose order is open: one that is taken first; those of which any may come up. -/
inductive Scr where
  | done
  | take (x : XO) (r : Scr)
  | alt (x : XO) (r rest : Scr)
  | off
  | bad
inductive XCode where
  | skip
  | region (ops : List XO)
  | draw (s : Scr) (tail : List XO)
  | seq (a b : XCode)
  | cond (c : Operand) (a b : XCode)
  | block (id : Nat) (c : XCode)
  | loop (c : XCode)
  | exit (id : Nat)
  | ret
  | bad
end Go.Proofs.Ytkegkhhfbfegoaa.Sx
