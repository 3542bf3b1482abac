/- Layer 1: the builder of a text: by walks. -/
import Derived.Test.YthgpikgbhkcnbaaDoorBX
import Derived.Test.YthgpikgbhkcnbaaDoorBX1
import Derived.Test.YthgpikgbhkcnbaaDoorBSx1
import Derived.Test.YthgpikgbhkcnbaaDoorBSx

set_option linter.unusedVariables false
set_option linter.unusedSimpArgs false
set_option maxRecDepth 100000
set_option maxHeartbeats 4000000
namespace Go.Proofs.YthgpikgbhkcnbaaDoor
open Sx
abbrev ptr (r : Nat) : Value := .pointer (some ⟨r, 0, none⟩)
/-- A byte that is a bit. -/
def isB (b : UInt8) : Bool := Nat.beq b.toNat 48 || Nat.beq b.toNat 49
/-- A builder may lie at place o of a row of type T. -/
def BT (T o : Nat) : Prop := liesAt Tryd.prog Tryd.prog.depth T ((o + 2) / Tryd.prog.cellsOf T) o 87 1 = true
theorem bt55 : BT 87 0 := by unfold BT; kernel_rfl
abbrev bRow (T r : Nat) (pre : List Value) (p sv : Value) : Nat × Blk := (r, .row T (pre ++ [p, sv]) (0, 0))
abbrev bPtr (r : Nat) (pre : List Value) : Value := .pointer (some ⟨r, pre.length, none⟩)
/-- A builder behind pre, with the bytes bs. -/
inductive Bld (T r : Nat) (pre : List Value) (bs : List UInt8) : Heap → Prop
  | mk {p sv : Value} {M : Heap} : (p = .pointer none ∨ p = bPtr r pre) → BufV 5 sv bs M → Bld T r pre bs (bRow T r pre p sv :: M)
theorem Bld.new {T r : Nat} {pre : List Value} : Bld T r pre [] [(r, .row T (pre ++ [.pointer none, .slice none 0 0]) (0, 0))] := .mk (.inl rfl) .nil
section
variable {K : Value → Heap → Prop} {H : Heap} {T r : Nat} {pre : List Value} {bs l : List UInt8} {N : Heap}
theorem pre0 (p sv : Value) : (pre ++ [p, sv])[pre.length + 0]? = some p := by simp
theorem pre1 (p sv : Value) : (pre ++ [p, sv])[pre.length + 1]? = some sv := by
  rw [List.getElem?_append_right (by omega)]; simp
theorem set0 (p sv p' : Value) : (pre ++ [p, sv]).take (pre.length + 0) ++ [p'] ++ (pre ++ [p, sv]).drop (pre.length + 0 + [p'].length) = pre ++ [p', sv] := by
  rw [Nat.add_zero, List.take_left, List.drop_append]; simp
theorem set1 (p sv sv' : Value) : (pre ++ [p, sv]).take (pre.length + 1) ++ [sv'] ++ (pre ++ [p, sv]).drop (pre.length + 1 + [sv'].length) = pre ++ [p, sv'] := by
  rw [List.take_append, List.drop_append, List.take_of_length_le (show pre.length ≤ pre.length + 1 by omega), List.drop_eq_nil_of_le (show pre.length ≤ pre.length + 1 + [sv'].length by omega), show pre.length + 1 - pre.length = 1 by omega, show pre.length + 1 + [sv'].length - pre.length = 2 by simp; omega]
  simp
theorem c57 (hT : BT T pre.length) (hN : Bld T r pre bs N) (hK : ∀ sv M, BufV 5 sv bs M → K (.tuple ⟨[]⟩) (bRow T r pre (bPtr r pre) sv :: M)) : SCalls Tryd.prog 57 [bPtr r pre] N K := by
  cases hN with
  | @mk p sv M hp hb =>
    have hk := hK sv M hb
    refine enter57 ?_
    have h0 : (Blk.row T (pre ++ [p, sv]) (0, 0)).cell (pre.length + 0) = some p := pre0 p sv
    have hput : PutOk (.row T (pre ++ [p, sv]) (0, 0)) (pre.length + 0) [bPtr r pre] (.row T (pre ++ [bPtr r pre, sv]) (0, 0)) := PutOk.row (by simp) (set0 p sv _)
    have hlt : pre.length < (pre ++ [p, sv]).length := by simp
    have hlies : liesAt Tryd.prog Tryd.prog.depth T ((pre ++ [p, sv]).length / Tryd.prog.cellsOf T) pre.length 87 1 = true := by
      rw [List.length_append]; exact hT
    rcases hp with rfl | rfl
    · repeat' ((conv => whnf); (first | refine Look.cell (.head _) h0 ?_ | refine Branch.t rfl ?_ | refine RawV.toUnsafe (src := 84) (dst := 115) (t := 87) rfl (by kernel_rfl) (by kernel_rfl) (by kernel_rfl) (.head _) hlt ?_ | refine RawV.extern rfl Tryd.func62 (by kernel_rfl) (by kernel_rfl) (by kernel_rfl) (e := Extern.AbiNoEscape.same) (v := bPtr r pre) (by kernel_rfl) (fun _ => rfl) ?_ | refine RawV.ofUnsafe (src := 115) (dst := 84) (t := 87) rfl (by kernel_rfl) (by kernel_rfl) (by kernel_rfl) (.head _) hlies ?_ | refine ⟨[], _, M, rfl, _, hput, appK_to ?_⟩ | exact Keep.all hk | refine New.mk (fun _ => ?_) | refine Look.at0 ?_ | refine Cell.row ?_ | refine Cell.buf ?_ | refine Cells.row rfl ?_ | refine Put.row rfl ?_ | refine Put.buf rfl ?_ | refine Look.at1 ?_ | refine Look.at2 ?_ | refine Look.at3 ?_ | refine Look.at4 ?_ | refine Look.at5 ?_ | refine Look.at6 ?_ | refine Look.at7 ?_ | refine Look.at8 ?_ | with_reducible refine Val.i64 (by omega) (by omega) ?_ | with_reducible refine Val.u8 (by omega) (by omega) ?_ | with_reducible refine Val.u32 (by omega) (by omega) ?_ | with_reducible refine Val.u64 (by omega) (by omega) ?_ | with_reducible refine Val.u8m ?_ | with_reducible refine Val.u32m ?_ | with_reducible refine Val.u64m ?_ | with_reducible refine Val.shr8 ?_ | with_reducible refine Val.shr16 (by decide) ?_ | with_reducible refine Val.shr24 (by decide) ?_ | with_reducible refine Val.raw ?_ | refine Branch.not ?_ | refine Branch.and ?_ | refine Branch.or ?_ | refine Branch.dt (by assumption) ?_ | refine Branch.df (by assumption) ?_ | refine Branch.dt rfl ?_ | refine Branch.dt (by omega) ?_ | refine Branch.df (by omega) ?_ | refine Branch.t rfl ?_ | refine Branch.f rfl ?_ | refine Branch.t (by assumption) ?_ | refine Branch.f (by assumption) ?_ | refine Branch.d (fun _ => ?_) (fun _ => ?_) | refine Branch.mk (fun _ => ?_) (fun _ => ?_) | refine Need.mk (by first | omega | decide | rfl) ?_ | refine Idx.nat (by omega) ?_ | refine Idx.auto (by first | omega | decide) (by first | omega | decide) ?_ | refine Cell.ro rfl ?_ | refine SDraw.all (by kernel_rfl) ?_ | refine Kept.k0 ?_ | refine Kept.k1 ?_ | refine Kept.k2 ?_ | refine Kept.k3 ?_ | refine Kept.k4 ?_))
    · repeat' ((conv => whnf); (first | refine Look.cell (.head _) h0 ?_ | refine Branch.f rfl ?_ | refine PEq.same rfl ?_ | refine Branch.f (by simp; done) ?_ | exact Keep.all hk | refine New.mk (fun _ => ?_) | refine Look.at0 ?_ | refine Cell.row ?_ | refine Cell.buf ?_ | refine Cells.row rfl ?_ | refine Put.row rfl ?_ | refine Put.buf rfl ?_ | refine Look.at1 ?_ | refine Look.at2 ?_ | refine Look.at3 ?_ | refine Look.at4 ?_ | refine Look.at5 ?_ | refine Look.at6 ?_ | refine Look.at7 ?_ | refine Look.at8 ?_ | with_reducible refine Val.i64 (by omega) (by omega) ?_ | with_reducible refine Val.u8 (by omega) (by omega) ?_ | with_reducible refine Val.u32 (by omega) (by omega) ?_ | with_reducible refine Val.u64 (by omega) (by omega) ?_ | with_reducible refine Val.u8m ?_ | with_reducible refine Val.u32m ?_ | with_reducible refine Val.u64m ?_ | with_reducible refine Val.shr8 ?_ | with_reducible refine Val.shr16 (by decide) ?_ | with_reducible refine Val.shr24 (by decide) ?_ | with_reducible refine Val.raw ?_ | refine Branch.not ?_ | refine Branch.and ?_ | refine Branch.or ?_ | refine Branch.dt (by assumption) ?_ | refine Branch.df (by assumption) ?_ | refine Branch.dt rfl ?_ | refine Branch.dt (by omega) ?_ | refine Branch.df (by omega) ?_ | refine Branch.t rfl ?_ | refine Branch.f rfl ?_ | refine Branch.t (by assumption) ?_ | refine Branch.f (by assumption) ?_ | refine Branch.d (fun _ => ?_) (fun _ => ?_) | refine Branch.mk (fun _ => ?_) (fun _ => ?_) | refine Need.mk (by first | omega | decide | rfl) ?_ | refine Idx.nat (by omega) ?_ | refine Idx.auto (by first | omega | decide) (by first | omega | decide) ?_ | refine Cell.ro rfl ?_ | refine SDraw.all (by kernel_rfl) ?_ | refine Kept.k0 ?_ | refine Kept.k1 ?_ | refine Kept.k2 ?_ | refine Kept.k3 ?_ | refine Kept.k4 ?_))
theorem c57s (hT : BT T pre.length) (hN : Bld T r pre bs N) (K2 : Value → Heap → Prop) (hk : ∀ a c M, BufV 5 (.slice a bs.length c) bs M → K2 (.tuple ⟨[]⟩) (bRow T r pre (bPtr r pre) (.slice a bs.length c) :: M)) : SCalls Tryd.prog 57 [bPtr r pre] N K2 :=
  c57 hT hN (fun sv M hb => by
    obtain ⟨a, c, rfl⟩ := hb.len
    exact hk a c M hb)
theorem c53 (hT : BT T pre.length) (hN : Bld T r pre bs N) (hl : bs.length + l.length ≤ 140737488355328) (hK : ∀ N', Bld T r pre (bs ++ l) N' → K (.tuple ⟨[.int .i64 (l.length : Int), .nilIface]⟩) N') : SCalls Tryd.prog 53 [bPtr r pre, .string (strOf l)] N K := by
  refine enter53 ?_
  have h_41 := c57s hT hN
  have h1 : ∀ sv, (Blk.row T (pre ++ [bPtr r pre, sv]) (0, 0)).cell (pre.length + 1) = some sv := fun sv => pre1 _ sv
  have hput : ∀ sv sv', PutOk (.row T (pre ++ [bPtr r pre, sv]) (0, 0)) (pre.length + 1) [sv'] (.row T (pre ++ [bPtr r pre, sv']) (0, 0)) := fun sv sv' => PutOk.row (by simp) (set1 _ sv sv')
  have happ : ∀ a c M, BufV 5 (.slice a bs.length c) bs M → ∀ (o : Oper) (xs xx : Operand) (K2 : Value → Heap → Prop), o.op = .call { callee := .builtin .append, args := #[xs, xx], argTypes := #[85, 9] } →
      (∀ a' c' M', BufV 5 (.slice a' (bs ++ l).length c') (bs ++ l) M' → K2 (.slice a' (bs ++ l).length c') (bRow T r pre (bPtr r pre) (.slice a bs.length c) :: M')) →
      RawV Tryd.prog o [.slice a bs.length c, .string (strOf l)] (bRow T r pre (bPtr r pre) (.slice a bs.length c) :: M) K2 := by
    intro a c M hb o xs xx K2 ho hk
    have := RawV.appStr (P := Tryd.prog) (A := [bRow T r pre (bPtr r pre) (.slice a bs.length c)]) (B := []) (l := l) (K := K2) ho (by kernel_rfl) (by kernel_rfl) (by kernel_rfl) hb hl (fun sv' N' h => by rw [List.append_nil]; obtain ⟨a', c', rfl⟩ := h.len; exact hk a' c' N' h)
    rw [List.append_nil] at this
    exact this
  have hsz : ((strOf l).size : Int) = (l.length : Int) := by rw [strOf_size]
  clear hN
  repeat' ((conv => whnf); (first | with_reducible refine h_41 _ (fun a c M hb => ?_) | refine Look.cell (.head _) (h1 _) ?_ | with_reducible refine happ _ _ _ hb _ _ _ _ rfl (fun a' c' M' hb' => ?_) | refine ⟨[], _, M', rfl, _, hput _ _, appK_to ?_⟩ | (rw [hsz]; exact Keep.all (hK _ (.mk (.inr rfl) hb'))) | refine New.mk (fun _ => ?_) | refine Look.at0 ?_ | refine Cell.row ?_ | refine Cell.buf ?_ | refine Cells.row rfl ?_ | refine Put.row rfl ?_ | refine Put.buf rfl ?_ | refine Look.at1 ?_ | refine Look.at2 ?_ | refine Look.at3 ?_ | refine Look.at4 ?_ | refine Look.at5 ?_ | refine Look.at6 ?_ | refine Look.at7 ?_ | refine Look.at8 ?_ | with_reducible refine Val.i64 (by omega) (by omega) ?_ | with_reducible refine Val.u8 (by omega) (by omega) ?_ | with_reducible refine Val.u32 (by omega) (by omega) ?_ | with_reducible refine Val.u64 (by omega) (by omega) ?_ | with_reducible refine Val.u8m ?_ | with_reducible refine Val.u32m ?_ | with_reducible refine Val.u64m ?_ | with_reducible refine Val.shr8 ?_ | with_reducible refine Val.shr16 (by decide) ?_ | with_reducible refine Val.shr24 (by decide) ?_ | with_reducible refine Val.raw ?_ | refine Branch.not ?_ | refine Branch.and ?_ | refine Branch.or ?_ | refine Branch.dt (by assumption) ?_ | refine Branch.df (by assumption) ?_ | refine Branch.dt rfl ?_ | refine Branch.dt (by omega) ?_ | refine Branch.df (by omega) ?_ | refine Branch.t rfl ?_ | refine Branch.f rfl ?_ | refine Branch.t (by assumption) ?_ | refine Branch.f (by assumption) ?_ | refine Branch.d (fun _ => ?_) (fun _ => ?_) | refine Branch.mk (fun _ => ?_) (fun _ => ?_) | refine Need.mk (by first | omega | decide | rfl) ?_ | refine Idx.nat (by omega) ?_ | refine Idx.auto (by first | omega | decide) (by first | omega | decide) ?_ | refine Cell.ro rfl ?_ | refine SDraw.all (by kernel_rfl) ?_ | refine Kept.k0 ?_ | refine Kept.k1 ?_ | refine Kept.k2 ?_ | refine Kept.k3 ?_ | refine Kept.k4 ?_))
theorem c43 (hN : Bld T r pre bs N) (hK : ∀ N', Bld T r pre bs N' → K (.string (strOf bs)) N') : SCalls Tryd.prog 43 [bPtr r pre] N K := by
  refine enter43 ?_
  cases hN with
  | @mk p sv M hp hb =>
    obtain ⟨a, c, rfl⟩ := hb.len
    have h1 : (Blk.row T (pre ++ [p, .slice a bs.length c]) (0, 0)).cell (pre.length + 1) = some (.slice a bs.length c) := pre1 _ _
    have hcn : a = none ∨ c ≠ 0 := by
      generalize hsv : Value.slice a bs.length c = sv at hb
      cases hb with
      | nil => injection hsv with e1 _ _; exact .inl e1
      | row _ _ _ h0 => injection hsv with _ _ e3; exact .inr (by omega)
    have hun : ∀ (o : Oper) (x y : Operand) (K2 : Value → Heap → Prop), o.op = .call { callee := .builtin .unsafeString, args := #[x, y], argTypes := #[110, 3] } → (∀ M', BufV 5 (.slice a bs.length c) bs M' → K2 (.string (strOf bs)) (bRow T r pre p (.slice a bs.length c) :: M')) →
        RawV Tryd.prog o [.pointer a, .int .i64 (bs.length : Int)] (bRow T r pre p (.slice a bs.length c) :: M) K2 := by
      intro o x y K2 ho hk
      have := RawV.unsafeStr (P := Tryd.prog) (A := [bRow T r pre p (.slice a bs.length c)]) (B := []) (K := K2) ho (by kernel_rfl) (by kernel_rfl) hb (fun N' h => by rw [List.append_nil]; exact hk N' h)
      rw [List.append_nil] at this
      exact this
    repeat' ((conv => whnf); (first | refine Look.cell (.head _) h1 ?_ | refine RawV.sliceData rfl hcn ?_ | with_reducible refine hun _ _ _ _ rfl (fun M' hb' => ?_) | exact Keep.all (hK _ (.mk hp hb')) | refine New.mk (fun _ => ?_) | refine Look.at0 ?_ | refine Cell.row ?_ | refine Cell.buf ?_ | refine Cells.row rfl ?_ | refine Put.row rfl ?_ | refine Put.buf rfl ?_ | refine Look.at1 ?_ | refine Look.at2 ?_ | refine Look.at3 ?_ | refine Look.at4 ?_ | refine Look.at5 ?_ | refine Look.at6 ?_ | refine Look.at7 ?_ | refine Look.at8 ?_ | with_reducible refine Val.i64 (by omega) (by omega) ?_ | with_reducible refine Val.u8 (by omega) (by omega) ?_ | with_reducible refine Val.u32 (by omega) (by omega) ?_ | with_reducible refine Val.u64 (by omega) (by omega) ?_ | with_reducible refine Val.u8m ?_ | with_reducible refine Val.u32m ?_ | with_reducible refine Val.u64m ?_ | with_reducible refine Val.shr8 ?_ | with_reducible refine Val.shr16 (by decide) ?_ | with_reducible refine Val.shr24 (by decide) ?_ | with_reducible refine Val.raw ?_ | refine Branch.not ?_ | refine Branch.and ?_ | refine Branch.or ?_ | refine Branch.dt (by assumption) ?_ | refine Branch.df (by assumption) ?_ | refine Branch.dt rfl ?_ | refine Branch.dt (by omega) ?_ | refine Branch.df (by omega) ?_ | refine Branch.t rfl ?_ | refine Branch.f rfl ?_ | refine Branch.t (by assumption) ?_ | refine Branch.f (by assumption) ?_ | refine Branch.d (fun _ => ?_) (fun _ => ?_) | refine Branch.mk (fun _ => ?_) (fun _ => ?_) | refine Need.mk (by first | omega | decide | rfl) ?_ | refine Idx.nat (by omega) ?_ | refine Idx.auto (by first | omega | decide) (by first | omega | decide) ?_ | refine Cell.ro rfl ?_ | refine SDraw.all (by kernel_rfl) ?_ | refine Kept.k0 ?_ | refine Kept.k1 ?_ | refine Kept.k2 ?_ | refine Kept.k3 ?_ | refine Kept.k4 ?_))
end
end Go.Proofs.YthgpikgbhkcnbaaDoor

/- Layer 1: numbers become bits: by walks. -/
set_option linter.unusedVariables false
set_option linter.unusedSimpArgs false
set_option maxRecDepth 100000
set_option maxHeartbeats 4000000
namespace Go.Proofs.YthgpikgbhkcnbaaDoor
open Sx
def bitB (q : Nat) : UInt8 := if q = 0 then 48 else 49
/-- A number's digits, at most so many. -/
def binF : Nat → Nat → List UInt8
  | 0, _ => []
  | n + 1, u => if u < 2 then [bitB u] else binF n (u / 2) ++ [bitB (u % 2)]
/-- Just so many bits of a number. -/
def numB : Nat → Nat → List UInt8
  | 0, _ => []
  | w + 1, n => numB w (n / 2) ++ [bitB (n % 2)]
theorem numB_len : ∀ w n, (numB w n).length = w
  | 0, _ => rfl
  | w + 1, n => by simp [numB, numB_len w]
theorem numB_zero : ∀ w, numB w 0 = List.replicate w 48
  | 0 => rfl
  | w + 1 => by
    show numB w 0 ++ [bitB 0] = _
    rw [numB_zero w, List.replicate_succ']; rfl
theorem bitB_ok (q : Nat) : isB (bitB q) = true := by unfold bitB; split <;> rfl
theorem numB_ok : ∀ w n, ∀ b ∈ numB w n, isB b = true
  | 0, _, b, h => by cases h
  | w + 1, n, b, h => by
    rcases List.mem_append.1 h with h | h
    · exact numB_ok w _ b h
    · rw [List.mem_singleton.1 h]; exact bitB_ok _
theorem pad : ∀ (k w n : Nat), n < 2 ^ k → n < 2 ^ w → 1 ≤ w → (binF k n).length ≤ w ∧ List.replicate (w - (binF k n).length) 48 ++ binF k n = numB w n
  | 0, w, n, h1, _, _ => by
    obtain rfl : n = 0 := by simpa using h1
    exact ⟨Nat.zero_le _, by rw [numB_zero]; simp [binF]⟩
  | k + 1, w + 1, n, h1, h2, _ => by
    by_cases h : n < 2
    · have e : binF (k + 1) n = [bitB n] := by unfold binF; rw [if_pos h]
      rw [e]
      refine ⟨by simp, ?_⟩
      show _ = numB w (n / 2) ++ [bitB (n % 2)]
      rw [show n / 2 = 0 by omega, show n % 2 = n by omega, numB_zero]; simp
    · have e : binF (k + 1) n = binF k (n / 2) ++ [bitB (n % 2)] := by
        show (if n < 2 then _ else _) = _
        rw [if_neg h]
      have hw : 1 ≤ w := by
        rcases Nat.eq_zero_or_pos w with rfl | hw
        · simp at h2; omega
        · exact hw
      obtain ⟨i1, i2⟩ := pad k w (n / 2) (by rw [Nat.pow_succ] at h1; omega) (by rw [Nat.pow_succ] at h2; omega) hw
      rw [e]
      refine ⟨by simp; omega, ?_⟩
      show _ = numB w (n / 2) ++ [bitB (n % 2)]
      rw [← i2, ← List.append_assoc]
      congr 3
      simp
theorem bitB_n {q : Nat} (h : q < 2) : ((bitB q).toNat : Int) = 48 + (q : Int) := by
  unfold bitB
  rcases (by omega : q = 0 ∨ q = 1) with rfl | rfl <;> rfl
/-- The table that tells where a number's lowest bit is. -/
def Db (H : Heap) : Prop := ∃ b, (3, b) ∈ H ∧ b.cell 1 = some (.int .u8 1)
theorem Db.mono {H H' : Heap} (h : Db H) (hs : ∀ p ∈ H, p ∈ H') : Db H' := by
  obtain ⟨b, h1, h2⟩ := h
  exact ⟨b, hs _ h1, h2⟩
abbrev zv : Value := .int .u8 0
abbrev digR (p n : Nat) (ds : List UInt8) : Nat × Blk := (p, .row 134 (List.replicate n zv ++ cel ds) (0, 0))
theorem dig_put {n : Nat} {ds : List UInt8} (b : UInt8) : PutOk (.row 134 (List.replicate (n + 1) zv ++ cel ds) (0, 0)) (0 + n * 1) [.int .u8 (b.toNat : Int)] (.row 134 (List.replicate n zv ++ cel (b :: ds)) (0, 0)) := by
  refine PutOk.row (by simp) ?_
  have e0 : List.replicate (n + 1) zv ++ cel ds = List.replicate n zv ++ ([zv] ++ cel ds) := by rw [List.replicate_succ', List.append_assoc]
  rw [e0, Nat.zero_add, Nat.mul_one]
  have e1 : (List.replicate n zv ++ ([zv] ++ cel ds)).take n = List.replicate n zv := by
    conv => lhs; rw [show n = (List.replicate n zv).length by simp]
    simp only [List.length_replicate]
    rw [List.take_append_of_le_length (by simp)]; simp
  have e2 : (List.replicate n zv ++ ([zv] ++ cel ds)).drop (n + [Value.int .u8 (b.toNat : Int)].length) = cel ds := by
    rw [List.drop_append]; simp
  rw [e1, e2, List.append_assoc]; rfl
inductive S72 (A1 A3 A4 A10 A12 A13 A14 A15 A16 : Value) : List Value → Prop
  | mk {r0 r2 r5 r6 r7 r8 r9 r11 r17 r18 r19 r20 r21 r22 r23 r24 r25 r26 r27 r28 r29 r30 r31 r32 r33 r34 r35 r36 r37 r38 r39 r40 r41 r42 r43 r44 r45 r46 r47 r48 r49 r50 r51 r52 r53 r54 r55 r56 r57 r58 r59 r60 r61 r62 r63 r64 r65 r66 r67 r68 r69 r70 r71 r72 r73 r74 r75 r76 r77 r78 r79 r80 r81 r82 r83 r84 r85 r86 r87 r88 r89 r90 r91 r92 r93 r94 r95 r96 r97 r98 r99 r100 r101 : Value} : S72 A1 A3 A4 A10 A12 A13 A14 A15 A16 [r0, A1, r2, A3, A4, r5, r6, r7, r8, r9, A10, r11, A12, A13, A14, A15, A16, r17, r18, r19, r20, r21, r22, r23, r24, r25, r26, r27, r28, r29, r30, r31, r32, r33, r34, r35, r36, r37, r38, r39, r40, r41, r42, r43, r44, r45, r46, r47, r48, r49, r50, r51, r52, r53, r54, r55, r56, r57, r58, r59, r60, r61, r62, r63, r64, r65, r66, r67, r68, r69, r70, r71, r72, r73, r74, r75, r76, r77, r78, r79, r80, r81, r82, r83, r84, r85, r86, r87, r88, r89, r90, r91, r92, r93, r94, r95, r96, r97, r98, r99, r100, r101]
section
variable {K : Value → Heap → Prop} {H : Heap}
theorem c80 (hK : K (.bool true) H) : SCalls Tryd.prog 80 [.int .i64 2] H K := by
  refine enter80 ?_
  repeat' ((conv => whnf); (first | refine Val.to 1 rfl ?_ | refine Val.to 0 (by decide) ?_ | exact Keep.all hK | refine New.mk (fun _ => ?_) | refine Look.at0 ?_ | refine Cell.row ?_ | refine Cell.buf ?_ | refine Cells.row rfl ?_ | refine Put.row rfl ?_ | refine Put.buf rfl ?_ | refine Look.at1 ?_ | refine Look.at2 ?_ | refine Look.at3 ?_ | refine Look.at4 ?_ | refine Look.at5 ?_ | refine Look.at6 ?_ | refine Look.at7 ?_ | refine Look.at8 ?_ | with_reducible refine Val.i64 (by omega) (by omega) ?_ | with_reducible refine Val.u8 (by omega) (by omega) ?_ | with_reducible refine Val.u32 (by omega) (by omega) ?_ | with_reducible refine Val.u64 (by omega) (by omega) ?_ | with_reducible refine Val.u8m ?_ | with_reducible refine Val.u32m ?_ | with_reducible refine Val.u64m ?_ | with_reducible refine Val.shr8 ?_ | with_reducible refine Val.shr16 (by decide) ?_ | with_reducible refine Val.shr24 (by decide) ?_ | with_reducible refine Val.raw ?_ | refine Branch.not ?_ | refine Branch.and ?_ | refine Branch.or ?_ | refine Branch.dt (by assumption) ?_ | refine Branch.df (by assumption) ?_ | refine Branch.dt rfl ?_ | refine Branch.dt (by omega) ?_ | refine Branch.df (by omega) ?_ | refine Branch.t rfl ?_ | refine Branch.f rfl ?_ | refine Branch.t (by assumption) ?_ | refine Branch.f (by assumption) ?_ | refine Branch.d (fun _ => ?_) (fun _ => ?_) | refine Branch.mk (fun _ => ?_) (fun _ => ?_) | refine Need.mk (by first | omega | decide | rfl) ?_ | refine Idx.nat (by omega) ?_ | refine Idx.auto (by first | omega | decide) (by first | omega | decide) ?_ | refine Cell.ro rfl ?_ | refine SDraw.all (by kernel_rfl) ?_ | refine Kept.k0 ?_ | refine Kept.k1 ?_ | refine Kept.k2 ?_ | refine Kept.k3 ?_ | refine Kept.k4 ?_))
theorem c84 (hD : Db H) (hK : K (.int .i64 1) H) : SCalls Tryd.prog 84 [.int .u64 2] H K := by
  refine enter84 ?_
  obtain ⟨b, hm, hc⟩ := hD
  repeat' ((conv => whnf); (first | refine Val.to 18446744073709551614 (by decide) ?_ | refine Val.to 2 (by decide) ?_ | refine Val.to 571740426102707730 (by decide) ?_ | refine Val.to 1 (by decide) ?_ | refine Branch.f rfl ?_ | refine Idx.of 1 rfl (by decide) ?_ | refine Look.cell hm hc ?_ | exact Keep.all hK | refine New.mk (fun _ => ?_) | refine Look.at0 ?_ | refine Cell.row ?_ | refine Cell.buf ?_ | refine Cells.row rfl ?_ | refine Put.row rfl ?_ | refine Put.buf rfl ?_ | refine Look.at1 ?_ | refine Look.at2 ?_ | refine Look.at3 ?_ | refine Look.at4 ?_ | refine Look.at5 ?_ | refine Look.at6 ?_ | refine Look.at7 ?_ | refine Look.at8 ?_ | with_reducible refine Val.i64 (by omega) (by omega) ?_ | with_reducible refine Val.u8 (by omega) (by omega) ?_ | with_reducible refine Val.u32 (by omega) (by omega) ?_ | with_reducible refine Val.u64 (by omega) (by omega) ?_ | with_reducible refine Val.u8m ?_ | with_reducible refine Val.u32m ?_ | with_reducible refine Val.u64m ?_ | with_reducible refine Val.shr8 ?_ | with_reducible refine Val.shr16 (by decide) ?_ | with_reducible refine Val.shr24 (by decide) ?_ | with_reducible refine Val.raw ?_ | refine Branch.not ?_ | refine Branch.and ?_ | refine Branch.or ?_ | refine Branch.dt (by assumption) ?_ | refine Branch.df (by assumption) ?_ | refine Branch.dt rfl ?_ | refine Branch.dt (by omega) ?_ | refine Branch.df (by omega) ?_ | refine Branch.t rfl ?_ | refine Branch.f rfl ?_ | refine Branch.t (by assumption) ?_ | refine Branch.f (by assumption) ?_ | refine Branch.d (fun _ => ?_) (fun _ => ?_) | refine Branch.mk (fun _ => ?_) (fun _ => ?_) | refine Need.mk (by first | omega | decide | rfl) ?_ | refine Idx.nat (by omega) ?_ | refine Idx.auto (by first | omega | decide) (by first | omega | decide) ?_ | refine Cell.ro rfl ?_ | refine SDraw.all (by kernel_rfl) ?_ | refine Kept.k0 ?_ | refine Kept.k1 ?_ | refine Kept.k2 ?_ | refine Kept.k3 ?_ | refine Kept.k4 ?_))
theorem c81 (hD : Db H) (hK : K (.int .i64 1) H) : SCalls Tryd.prog 81 [.int .u64 2] H K := by
  refine enter81 ?_
  repeat' ((conv => whnf); (first | refine c84 hD ?_ | refine Branch.f rfl ?_ | exact Keep.all hK | refine New.mk (fun _ => ?_) | refine Look.at0 ?_ | refine Cell.row ?_ | refine Cell.buf ?_ | refine Cells.row rfl ?_ | refine Put.row rfl ?_ | refine Put.buf rfl ?_ | refine Look.at1 ?_ | refine Look.at2 ?_ | refine Look.at3 ?_ | refine Look.at4 ?_ | refine Look.at5 ?_ | refine Look.at6 ?_ | refine Look.at7 ?_ | refine Look.at8 ?_ | with_reducible refine Val.i64 (by omega) (by omega) ?_ | with_reducible refine Val.u8 (by omega) (by omega) ?_ | with_reducible refine Val.u32 (by omega) (by omega) ?_ | with_reducible refine Val.u64 (by omega) (by omega) ?_ | with_reducible refine Val.u8m ?_ | with_reducible refine Val.u32m ?_ | with_reducible refine Val.u64m ?_ | with_reducible refine Val.shr8 ?_ | with_reducible refine Val.shr16 (by decide) ?_ | with_reducible refine Val.shr24 (by decide) ?_ | with_reducible refine Val.raw ?_ | refine Branch.not ?_ | refine Branch.and ?_ | refine Branch.or ?_ | refine Branch.dt (by assumption) ?_ | refine Branch.df (by assumption) ?_ | refine Branch.dt rfl ?_ | refine Branch.dt (by omega) ?_ | refine Branch.df (by omega) ?_ | refine Branch.t rfl ?_ | refine Branch.f rfl ?_ | refine Branch.t (by assumption) ?_ | refine Branch.f (by assumption) ?_ | refine Branch.d (fun _ => ?_) (fun _ => ?_) | refine Branch.mk (fun _ => ?_) (fun _ => ?_) | refine Need.mk (by first | omega | decide | rfl) ?_ | refine Idx.nat (by omega) ?_ | refine Idx.auto (by first | omega | decide) (by first | omega | decide) ?_ | refine Cell.ro rfl ?_ | refine SDraw.all (by kernel_rfl) ?_ | refine Kept.k0 ?_ | refine Kept.k1 ?_ | refine Kept.k2 ?_ | refine Kept.k3 ?_ | refine Kept.k4 ?_))
theorem c72 {u : Nat} (hD : Db H) (hu : u < 2 ^ 64) (hK : K (.tuple ⟨[.slice none 0 0, .string (strOf (binF 64 u))]⟩) H) : SCalls Tryd.prog 72 [.slice none 0 0, .int .u64 (u : Int), .int .i64 2, .bool false, .bool false] H K := by
  refine enter72 ?_
  have h83 := fun (p : Nat × Blk) (K : Value → Heap → Prop) hk => c81 (K := K) (H := p :: H) (hD.mono fun q hq => .tail _ hq) hk
  repeat' ((conv => whnf); (first | refine c80 ?_ | refine h83 _ _ ?_ | refine Branch.f rfl ?_ | refine Branch.t rfl ?_ | refine Val.to 1 rfl ?_ | refine New.mk (fun _ => ?_) | refine Look.at0 ?_ | refine Cell.row ?_ | refine Cell.buf ?_ | refine Cells.row rfl ?_ | refine Put.row rfl ?_ | refine Put.buf rfl ?_ | refine Look.at1 ?_ | refine Look.at2 ?_ | refine Look.at3 ?_ | refine Look.at4 ?_ | refine Look.at5 ?_ | refine Look.at6 ?_ | refine Look.at7 ?_ | refine Look.at8 ?_ | with_reducible refine Val.i64 (by omega) (by omega) ?_ | with_reducible refine Val.u8 (by omega) (by omega) ?_ | with_reducible refine Val.u32 (by omega) (by omega) ?_ | with_reducible refine Val.u64 (by omega) (by omega) ?_ | with_reducible refine Val.u8m ?_ | with_reducible refine Val.u32m ?_ | with_reducible refine Val.u64m ?_ | with_reducible refine Val.shr8 ?_ | with_reducible refine Val.shr16 (by decide) ?_ | with_reducible refine Val.shr24 (by decide) ?_ | with_reducible refine Val.raw ?_ | refine Branch.not ?_ | refine Branch.and ?_ | refine Branch.or ?_ | refine Branch.dt (by assumption) ?_ | refine Branch.df (by assumption) ?_ | refine Branch.dt rfl ?_ | refine Branch.dt (by omega) ?_ | refine Branch.df (by omega) ?_ | refine Branch.t rfl ?_ | refine Branch.f rfl ?_ | refine Branch.t (by assumption) ?_ | refine Branch.f (by assumption) ?_ | refine Branch.d (fun _ => ?_) (fun _ => ?_) | refine Branch.mk (fun _ => ?_) (fun _ => ?_) | refine Need.mk (by first | omega | decide | rfl) ?_ | refine Idx.nat (by omega) ?_ | refine Idx.auto (by first | omega | decide) (by first | omega | decide) ?_ | refine Cell.ro rfl ?_ | refine SDraw.all (by kernel_rfl) ?_ | refine Kept.k0 ?_ | refine Kept.k1 ?_ | refine Kept.k2 ?_ | refine Kept.k3 ?_ | refine Kept.k4 ?_))
  rename_i p
  refine SLoop.invA (fun (x : Nat × List UInt8) S H' => x.2.length ≤ 63 ∧ x.1 < 2 ^ (64 - x.2.length) ∧ binF 64 u = binF (64 - x.2.length) x.1 ++ x.2 ∧ S72 (.int .u64 (x.1 : Int)) (.bool false) (.bool false) (.slice none 0 0) (ptr p) (.int .i64 ((65 - x.2.length : Nat) : Int)) (.int .u64 1) (.int .u64 2) (.int .u64 1) S ∧ H' = digR p (65 - x.2.length) x.2 :: H) (fun x => x.1) (u, []) (Keep.all ⟨Nat.zero_le _, hu, by simp, .mk, rfl⟩) ?_
  rintro ⟨c, ds⟩ S H' ⟨h1, h2, h3, hS, rfl⟩ R hR
  dsimp only at h1 h2 h3 hS hR ⊢
  cases hS
  obtain ⟨n, hn⟩ : ∃ n, 64 - ds.length = n := ⟨_, rfl⟩
  have hn1 : 65 - ds.length = n + 1 := by omega
  rw [hn] at h2 h3
  rw [hn1]
  have hc64 : c < 2 ^ IntKind.u64.bits := Nat.lt_of_lt_of_le h2 (by show 2 ^ n ≤ 2 ^ 64; exact Nat.pow_le_pow_right (by decide) (by omega))
  have hc64' : (c : Int) ≤ 18446744073709551615 := by
    have : (2 : Nat) ^ IntKind.u64.bits = 18446744073709551616 := rfl
    omega
  have hi : ((n + 1 : Nat) : Int) - 1 = (n : Int) := by omega
  have hvn : ∀ K : Int → Prop, K (n : Int) → Val (IntKind.i64.wrap (((n + 1 : Nat) : Int) - 1)) K := fun K hk => Val.to _ (by rw [wrap_i64 (by omega) (by omega)]; omega) hk
  by_cases hc2 : c < 2
  · obtain ⟨m, rfl⟩ : ∃ m, n = m + 1 := ⟨n - 1, by omega⟩
    have e : binF (m + 1) c = [bitB c] := by unfold binF; rw [if_pos hc2]
    rw [e] at h3
    have hput := dig_put (n := m + 1) (ds := ds) (bitB c)
    rw [bitB_n hc2] at hput
    have hstr : ∀ (o : Oper) (xx : Operand) (K2 : Value → Heap → Prop), o.op = .convert 85 9 xx → K2 (.string (strOf (bitB c :: ds))) (digR p (m + 1) (bitB c :: ds) :: H) → RawV Tryd.prog o [.slice (some ⟨p, 0 + (m + 1), none⟩) (65 - (m + 1)) (65 - (m + 1))] (digR p (m + 1) (bitB c :: ds) :: H) K2 := fun o xx K2 ho hk =>
      RawV.toStr (e := 5) (l := bitB c :: ds) ho (by kernel_rfl) (by kernel_rfl) (by kernel_rfl) (.head _) (by rw [List.length_cons]; omega) (fun j x hj => by
        show (List.replicate (m + 1) zv ++ cel (bitB c :: ds))[0 + (m + 1) + j]? = _
        rw [List.getElem?_append_right (by rw [List.length_replicate]; omega), List.length_replicate, show 0 + (m + 1) + j - (m + 1) = j by omega]
        exact cel_at hj) hk
    have hK' : K (.tuple ⟨[.slice none 0 0, .string (strOf (bitB c :: ds))]⟩) H := by rw [h3] at hK; exact hK
    clear hR hK
    have hge : ¬ (2 : Int) ≤ (c : Int) := by omega
    rcases (by omega : c = 0 ∨ c = 1) with rfl | rfl
    · repeat' ((conv => whnf); (first | refine Branch.df hge ?_ | with_reducible refine hvn _ ?_ | refine Idx.of 0 rfl (by decide) ?_ | refine Idx.of (m + 1) rfl (by omega) ?_ | refine ⟨[], _, H, rfl, _, hput, appK_to ?_⟩ | refine Branch.f rfl ?_ | refine RawV.sliceArrFrom (e := 5) (n := 65) (k := m + 1) rfl (by kernel_rfl) (by kernel_rfl) (by omega) ?_ | refine hstr _ _ _ rfl ?_ | exact Keep.d1 hK' | refine New.mk (fun _ => ?_) | refine Look.at0 ?_ | refine Cell.row ?_ | refine Cell.buf ?_ | refine Cells.row rfl ?_ | refine Put.row rfl ?_ | refine Put.buf rfl ?_ | refine Look.at1 ?_ | refine Look.at2 ?_ | refine Look.at3 ?_ | refine Look.at4 ?_ | refine Look.at5 ?_ | refine Look.at6 ?_ | refine Look.at7 ?_ | refine Look.at8 ?_ | with_reducible refine Val.i64 (by omega) (by omega) ?_ | with_reducible refine Val.u8 (by omega) (by omega) ?_ | with_reducible refine Val.u32 (by omega) (by omega) ?_ | with_reducible refine Val.u64 (by omega) (by omega) ?_ | with_reducible refine Val.u8m ?_ | with_reducible refine Val.u32m ?_ | with_reducible refine Val.u64m ?_ | with_reducible refine Val.shr8 ?_ | with_reducible refine Val.shr16 (by decide) ?_ | with_reducible refine Val.shr24 (by decide) ?_ | with_reducible refine Val.raw ?_ | refine Branch.not ?_ | refine Branch.and ?_ | refine Branch.or ?_ | refine Branch.dt (by assumption) ?_ | refine Branch.df (by assumption) ?_ | refine Branch.dt rfl ?_ | refine Branch.dt (by omega) ?_ | refine Branch.df (by omega) ?_ | refine Branch.t rfl ?_ | refine Branch.f rfl ?_ | refine Branch.t (by assumption) ?_ | refine Branch.f (by assumption) ?_ | refine Branch.d (fun _ => ?_) (fun _ => ?_) | refine Branch.mk (fun _ => ?_) (fun _ => ?_) | refine Need.mk (by first | omega | decide | rfl) ?_ | refine Idx.nat (by omega) ?_ | refine Idx.auto (by first | omega | decide) (by first | omega | decide) ?_ | refine Cell.ro rfl ?_ | refine SDraw.all (by kernel_rfl) ?_ | refine Kept.k0 ?_ | refine Kept.k1 ?_ | refine Kept.k2 ?_ | refine Kept.k3 ?_ | refine Kept.k4 ?_))
    · repeat' ((conv => whnf); (first | refine Branch.df hge ?_ | with_reducible refine hvn _ ?_ | refine Idx.of 1 rfl (by decide) ?_ | refine Idx.of (m + 1) rfl (by omega) ?_ | refine ⟨[], _, H, rfl, _, hput, appK_to ?_⟩ | refine Branch.f rfl ?_ | refine RawV.sliceArrFrom (e := 5) (n := 65) (k := m + 1) rfl (by kernel_rfl) (by kernel_rfl) (by omega) ?_ | refine hstr _ _ _ rfl ?_ | exact Keep.d1 hK' | refine New.mk (fun _ => ?_) | refine Look.at0 ?_ | refine Cell.row ?_ | refine Cell.buf ?_ | refine Cells.row rfl ?_ | refine Put.row rfl ?_ | refine Put.buf rfl ?_ | refine Look.at1 ?_ | refine Look.at2 ?_ | refine Look.at3 ?_ | refine Look.at4 ?_ | refine Look.at5 ?_ | refine Look.at6 ?_ | refine Look.at7 ?_ | refine Look.at8 ?_ | with_reducible refine Val.i64 (by omega) (by omega) ?_ | with_reducible refine Val.u8 (by omega) (by omega) ?_ | with_reducible refine Val.u32 (by omega) (by omega) ?_ | with_reducible refine Val.u64 (by omega) (by omega) ?_ | with_reducible refine Val.u8m ?_ | with_reducible refine Val.u32m ?_ | with_reducible refine Val.u64m ?_ | with_reducible refine Val.shr8 ?_ | with_reducible refine Val.shr16 (by decide) ?_ | with_reducible refine Val.shr24 (by decide) ?_ | with_reducible refine Val.raw ?_ | refine Branch.not ?_ | refine Branch.and ?_ | refine Branch.or ?_ | refine Branch.dt (by assumption) ?_ | refine Branch.df (by assumption) ?_ | refine Branch.dt rfl ?_ | refine Branch.dt (by omega) ?_ | refine Branch.df (by omega) ?_ | refine Branch.t rfl ?_ | refine Branch.f rfl ?_ | refine Branch.t (by assumption) ?_ | refine Branch.f (by assumption) ?_ | refine Branch.d (fun _ => ?_) (fun _ => ?_) | refine Branch.mk (fun _ => ?_) (fun _ => ?_) | refine Need.mk (by first | omega | decide | rfl) ?_ | refine Idx.nat (by omega) ?_ | refine Idx.auto (by first | omega | decide) (by first | omega | decide) ?_ | refine Cell.ro rfl ?_ | refine SDraw.all (by kernel_rfl) ?_ | refine Kept.k0 ?_ | refine Kept.k1 ?_ | refine Kept.k2 ?_ | refine Kept.k3 ?_ | refine Kept.k4 ?_))
  · obtain ⟨m, rfl⟩ : ∃ m, n = m + 1 + 1 := ⟨n - 2, by
      rcases (by omega : n = 0 ∨ n = 1 ∨ 2 ≤ n) with rfl | rfl | h
      · simp at h2; omega
      · simp at h2; omega
      · omega⟩
    have e : binF (m + 1 + 1) c = binF (m + 1) (c / 2) ++ [bitB (c % 2)] := by
      show (if c < 2 then _ else _) = _
      rw [if_neg hc2]
    rw [e, List.append_assoc] at h3
    have hput := dig_put (n := m + 1 + 1) (ds := ds) (bitB (c % 2))
    rw [bitB_n (Nat.mod_lt _ (by decide))] at hput
    have hlen : (bitB (c % 2) :: ds).length = ds.length + 1 := rfl
    have hnext : ∀ S, S72 (.int .u64 ((c / 2 : Nat) : Int)) (.bool false) (.bool false) (.slice none 0 0) (ptr p) (.int .i64 ((m + 1 + 1 : Nat) : Int)) (.int .u64 1) (.int .u64 2) (.int .u64 1) S → R S (digR p (m + 1 + 1) (bitB (c % 2) :: ds) :: H) := fun S hS => hR (c / 2, bitB (c % 2) :: ds) _ _ (by show c / 2 < c; omega) (Keep.all ⟨by show (bitB (c % 2) :: ds).length ≤ 63; omega, by
      show c / 2 < 2 ^ (64 - (bitB (c % 2) :: ds).length)
      rw [hlen, show 64 - (ds.length + 1) = m + 1 by omega]
      rw [Nat.pow_succ] at h2; omega, by
      show _ = binF (64 - (bitB (c % 2) :: ds).length) (c / 2) ++ (bitB (c % 2) :: ds)
      rw [hlen, show 64 - (ds.length + 1) = m + 1 by omega]
      exact h3, by
      show S72 _ _ _ _ _ (.int .i64 ((65 - (bitB (c % 2) :: ds).length : Nat) : Int)) _ _ _ S
      rw [hlen, show 65 - (ds.length + 1) = m + 1 + 1 by omega]
      exact hS, by
      show _ = digR p (65 - (bitB (c % 2) :: ds).length) (bitB (c % 2) :: ds) :: H
      rw [hlen, show 65 - (ds.length + 1) = m + 1 + 1 by omega]⟩)
    clear hR hK
    have hge : (2 : Int) ≤ (c : Int) := by omega
    have hshr : ∀ K : Int → Prop, K ((c / 2 : Nat) : Int) → Val (shrI .u64 (c : Int) 1) K := fun K hk => Val.to _ (shr_nat (k := .u64) (n := 1) (by decide)) hk
    have hand : bitAnd .u64 (c : Int) 1 = ((c % 2 : Nat) : Int) := bitMask_nat (k := .u64) rfl (a := c) (n := 1) hc64 (by decide)
    rcases (by omega : c % 2 = 0 ∨ c % 2 = 1) with hq | hq <;> rw [hq] at hand hput hnext
    · repeat' ((conv => whnf); (first | refine Branch.dt hge ?_ | with_reducible refine hvn _ ?_ | with_reducible refine Val.to _ hand ?_ | refine Idx.of 0 rfl (by decide) ?_ | refine Idx.of (m + 1 + 1) rfl (by omega) ?_ | refine ⟨[], _, H, rfl, _, hput, appK_to ?_⟩ | with_reducible refine hshr _ ?_ | exact hnext _ .mk | refine New.mk (fun _ => ?_) | refine Look.at0 ?_ | refine Cell.row ?_ | refine Cell.buf ?_ | refine Cells.row rfl ?_ | refine Put.row rfl ?_ | refine Put.buf rfl ?_ | refine Look.at1 ?_ | refine Look.at2 ?_ | refine Look.at3 ?_ | refine Look.at4 ?_ | refine Look.at5 ?_ | refine Look.at6 ?_ | refine Look.at7 ?_ | refine Look.at8 ?_ | with_reducible refine Val.i64 (by omega) (by omega) ?_ | with_reducible refine Val.u8 (by omega) (by omega) ?_ | with_reducible refine Val.u32 (by omega) (by omega) ?_ | with_reducible refine Val.u64 (by omega) (by omega) ?_ | with_reducible refine Val.u8m ?_ | with_reducible refine Val.u32m ?_ | with_reducible refine Val.u64m ?_ | with_reducible refine Val.shr8 ?_ | with_reducible refine Val.shr16 (by decide) ?_ | with_reducible refine Val.shr24 (by decide) ?_ | with_reducible refine Val.raw ?_ | refine Branch.not ?_ | refine Branch.and ?_ | refine Branch.or ?_ | refine Branch.dt (by assumption) ?_ | refine Branch.df (by assumption) ?_ | refine Branch.dt rfl ?_ | refine Branch.dt (by omega) ?_ | refine Branch.df (by omega) ?_ | refine Branch.t rfl ?_ | refine Branch.f rfl ?_ | refine Branch.t (by assumption) ?_ | refine Branch.f (by assumption) ?_ | refine Branch.d (fun _ => ?_) (fun _ => ?_) | refine Branch.mk (fun _ => ?_) (fun _ => ?_) | refine Need.mk (by first | omega | decide | rfl) ?_ | refine Idx.nat (by omega) ?_ | refine Idx.auto (by first | omega | decide) (by first | omega | decide) ?_ | refine Cell.ro rfl ?_ | refine SDraw.all (by kernel_rfl) ?_ | refine Kept.k0 ?_ | refine Kept.k1 ?_ | refine Kept.k2 ?_ | refine Kept.k3 ?_ | refine Kept.k4 ?_))
    · repeat' ((conv => whnf); (first | refine Branch.dt hge ?_ | with_reducible refine hvn _ ?_ | with_reducible refine Val.to _ hand ?_ | refine Idx.of 1 rfl (by decide) ?_ | refine Idx.of (m + 1 + 1) rfl (by omega) ?_ | refine ⟨[], _, H, rfl, _, hput, appK_to ?_⟩ | with_reducible refine hshr _ ?_ | exact hnext _ .mk | refine New.mk (fun _ => ?_) | refine Look.at0 ?_ | refine Cell.row ?_ | refine Cell.buf ?_ | refine Cells.row rfl ?_ | refine Put.row rfl ?_ | refine Put.buf rfl ?_ | refine Look.at1 ?_ | refine Look.at2 ?_ | refine Look.at3 ?_ | refine Look.at4 ?_ | refine Look.at5 ?_ | refine Look.at6 ?_ | refine Look.at7 ?_ | refine Look.at8 ?_ | with_reducible refine Val.i64 (by omega) (by omega) ?_ | with_reducible refine Val.u8 (by omega) (by omega) ?_ | with_reducible refine Val.u32 (by omega) (by omega) ?_ | with_reducible refine Val.u64 (by omega) (by omega) ?_ | with_reducible refine Val.u8m ?_ | with_reducible refine Val.u32m ?_ | with_reducible refine Val.u64m ?_ | with_reducible refine Val.shr8 ?_ | with_reducible refine Val.shr16 (by decide) ?_ | with_reducible refine Val.shr24 (by decide) ?_ | with_reducible refine Val.raw ?_ | refine Branch.not ?_ | refine Branch.and ?_ | refine Branch.or ?_ | refine Branch.dt (by assumption) ?_ | refine Branch.df (by assumption) ?_ | refine Branch.dt rfl ?_ | refine Branch.dt (by omega) ?_ | refine Branch.df (by omega) ?_ | refine Branch.t rfl ?_ | refine Branch.f rfl ?_ | refine Branch.t (by assumption) ?_ | refine Branch.f (by assumption) ?_ | refine Branch.d (fun _ => ?_) (fun _ => ?_) | refine Branch.mk (fun _ => ?_) (fun _ => ?_) | refine Need.mk (by first | omega | decide | rfl) ?_ | refine Idx.nat (by omega) ?_ | refine Idx.auto (by first | omega | decide) (by first | omega | decide) ?_ | refine Cell.ro rfl ?_ | refine SDraw.all (by kernel_rfl) ?_ | refine Kept.k0 ?_ | refine Kept.k1 ?_ | refine Kept.k2 ?_ | refine Kept.k3 ?_ | refine Kept.k4 ?_))
theorem c64 {u : Nat} (hD : Db H) (hu : u < 2 ^ 64) (hK : K (.string (strOf (binF 64 u))) H) : SCalls Tryd.prog 64 [.int .u64 (u : Int), .int .i64 2] H K := by
  refine enter64 ?_
  repeat' ((conv => whnf); (first | refine c72 hD hu ?_ | refine Branch.f rfl ?_ | exact Keep.all hK | refine New.mk (fun _ => ?_) | refine Look.at0 ?_ | refine Cell.row ?_ | refine Cell.buf ?_ | refine Cells.row rfl ?_ | refine Put.row rfl ?_ | refine Put.buf rfl ?_ | refine Look.at1 ?_ | refine Look.at2 ?_ | refine Look.at3 ?_ | refine Look.at4 ?_ | refine Look.at5 ?_ | refine Look.at6 ?_ | refine Look.at7 ?_ | refine Look.at8 ?_ | with_reducible refine Val.i64 (by omega) (by omega) ?_ | with_reducible refine Val.u8 (by omega) (by omega) ?_ | with_reducible refine Val.u32 (by omega) (by omega) ?_ | with_reducible refine Val.u64 (by omega) (by omega) ?_ | with_reducible refine Val.u8m ?_ | with_reducible refine Val.u32m ?_ | with_reducible refine Val.u64m ?_ | with_reducible refine Val.shr8 ?_ | with_reducible refine Val.shr16 (by decide) ?_ | with_reducible refine Val.shr24 (by decide) ?_ | with_reducible refine Val.raw ?_ | refine Branch.not ?_ | refine Branch.and ?_ | refine Branch.or ?_ | refine Branch.dt (by assumption) ?_ | refine Branch.df (by assumption) ?_ | refine Branch.dt rfl ?_ | refine Branch.dt (by omega) ?_ | refine Branch.df (by omega) ?_ | refine Branch.t rfl ?_ | refine Branch.f rfl ?_ | refine Branch.t (by assumption) ?_ | refine Branch.f (by assumption) ?_ | refine Branch.d (fun _ => ?_) (fun _ => ?_) | refine Branch.mk (fun _ => ?_) (fun _ => ?_) | refine Need.mk (by first | omega | decide | rfl) ?_ | refine Idx.nat (by omega) ?_ | refine Idx.auto (by first | omega | decide) (by first | omega | decide) ?_ | refine Cell.ro rfl ?_ | refine SDraw.all (by kernel_rfl) ?_ | refine Kept.k0 ?_ | refine Kept.k1 ?_ | refine Kept.k2 ?_ | refine Kept.k3 ?_ | refine Kept.k4 ?_))
theorem c60 {u : Nat} (hD : Db H) (hu : u < 2 ^ 64) (hK : K (.string (strOf (binF 64 u))) H) : SCalls Tryd.prog 60 [.int .u64 (u : Int), .int .i64 2] H K := by
  refine enter60 ?_
  repeat' ((conv => whnf); (first | refine c64 hD hu ?_ | exact Keep.all hK | refine New.mk (fun _ => ?_) | refine Look.at0 ?_ | refine Cell.row ?_ | refine Cell.buf ?_ | refine Cells.row rfl ?_ | refine Put.row rfl ?_ | refine Put.buf rfl ?_ | refine Look.at1 ?_ | refine Look.at2 ?_ | refine Look.at3 ?_ | refine Look.at4 ?_ | refine Look.at5 ?_ | refine Look.at6 ?_ | refine Look.at7 ?_ | refine Look.at8 ?_ | with_reducible refine Val.i64 (by omega) (by omega) ?_ | with_reducible refine Val.u8 (by omega) (by omega) ?_ | with_reducible refine Val.u32 (by omega) (by omega) ?_ | with_reducible refine Val.u64 (by omega) (by omega) ?_ | with_reducible refine Val.u8m ?_ | with_reducible refine Val.u32m ?_ | with_reducible refine Val.u64m ?_ | with_reducible refine Val.shr8 ?_ | with_reducible refine Val.shr16 (by decide) ?_ | with_reducible refine Val.shr24 (by decide) ?_ | with_reducible refine Val.raw ?_ | refine Branch.not ?_ | refine Branch.and ?_ | refine Branch.or ?_ | refine Branch.dt (by assumption) ?_ | refine Branch.df (by assumption) ?_ | refine Branch.dt rfl ?_ | refine Branch.dt (by omega) ?_ | refine Branch.df (by omega) ?_ | refine Branch.t rfl ?_ | refine Branch.f rfl ?_ | refine Branch.t (by assumption) ?_ | refine Branch.f (by assumption) ?_ | refine Branch.d (fun _ => ?_) (fun _ => ?_) | refine Branch.mk (fun _ => ?_) (fun _ => ?_) | refine Need.mk (by first | omega | decide | rfl) ?_ | refine Idx.nat (by omega) ?_ | refine Idx.auto (by first | omega | decide) (by first | omega | decide) ?_ | refine Cell.ro rfl ?_ | refine SDraw.all (by kernel_rfl) ?_ | refine Kept.k0 ?_ | refine Kept.k1 ?_ | refine Kept.k2 ?_ | refine Kept.k3 ?_ | refine Kept.k4 ?_))
end
end Go.Proofs.YthgpikgbhkcnbaaDoor

/- Layer 1: numbers as bits, by the program and by the document: by walks. -/
set_option linter.unusedVariables false
set_option linter.unusedSimpArgs false
set_option maxRecDepth 100000
set_option maxHeartbeats 4000000
namespace Go.Proofs.YthgpikgbhkcnbaaDoor
open Sx
def numV (n : Nat) (w : Int) : List UInt8 × Int := if 0 ≤ w ∧ w ≤ 64 ∧ n < 2 ^ w.toNat then (numB w.toNat n, 0) else ([], 1)
inductive S63 (A0 A6 A7 : Value) : List Value → Prop
  | mk {r1 r2 r3 r4 r5 r8 r9 r10 r11 r12 r13 r14 r15 r16 r17 r18 r19 r20 r21 r22 r23 r24 r25 r26 r27 r28 r29 r30 r31 r32 r33 r34 : Value} : S63 A0 A6 A7 [A0, r1, r2, r3, r4, r5, A6, A7, r8, r9, r10, r11, r12, r13, r14, r15, r16, r17, r18, r19, r20, r21, r22, r23, r24, r25, r26, r27, r28, r29, r30, r31, r32, r33, r34]
section
variable {K : Value → Heap → Prop} {H : Heap}
theorem c74 {k : Nat} (hk : k ≤ 64) (hK : K (.tuple ⟨[.int .u64 0, .int .u64 (k : Int)]⟩) H) : SCalls Tryd.prog 74 [.int .u64 1, .int .u64 (k : Int)] H K := by
  refine enter74 ?_
  have h1 : bitAnd .u64 (k : Int) 4294967295 = (k : Int) := by
    have := bitMask_nat (k := .u64) rfl (a := k) (n := 32) (by show k < 18446744073709551616; omega) (by decide)
    rw [Nat.mod_eq_of_lt (show k < 2 ^ 32 by omega)] at this
    exact this
  have h2 : shrI .u64 (k : Int) 32 = 0 := by
    have := shr_nat (k := .u64) (a := k) (n := 32) (by decide)
    rw [Nat.div_eq_of_lt (show k < 2 ^ 32 by omega)] at this
    exact this
  repeat' ((conv => whnf); (first | with_reducible refine Val.to _ h1 ?_ | with_reducible refine Val.to _ h2 ?_ | refine Val.to 0 (by decide) ?_ | refine Val.to 1 (by decide) ?_ | refine Val.to (k : Int) (by rw [wrap_u64]; omega) ?_ | refine Val.to 0 (by rw [wrap_u64]; omega) ?_ | exact Keep.all hK | refine New.mk (fun _ => ?_) | refine Look.at0 ?_ | refine Cell.row ?_ | refine Cell.buf ?_ | refine Cells.row rfl ?_ | refine Put.row rfl ?_ | refine Put.buf rfl ?_ | refine Look.at1 ?_ | refine Look.at2 ?_ | refine Look.at3 ?_ | refine Look.at4 ?_ | refine Look.at5 ?_ | refine Look.at6 ?_ | refine Look.at7 ?_ | refine Look.at8 ?_ | with_reducible refine Val.i64 (by omega) (by omega) ?_ | with_reducible refine Val.u8 (by omega) (by omega) ?_ | with_reducible refine Val.u32 (by omega) (by omega) ?_ | with_reducible refine Val.u64 (by omega) (by omega) ?_ | with_reducible refine Val.u8m ?_ | with_reducible refine Val.u32m ?_ | with_reducible refine Val.u64m ?_ | with_reducible refine Val.shr8 ?_ | with_reducible refine Val.shr16 (by decide) ?_ | with_reducible refine Val.shr24 (by decide) ?_ | with_reducible refine Val.raw ?_ | refine Branch.not ?_ | refine Branch.and ?_ | refine Branch.or ?_ | refine Branch.dt (by assumption) ?_ | refine Branch.df (by assumption) ?_ | refine Branch.dt rfl ?_ | refine Branch.dt (by omega) ?_ | refine Branch.df (by omega) ?_ | refine Branch.t rfl ?_ | refine Branch.f rfl ?_ | refine Branch.t (by assumption) ?_ | refine Branch.f (by assumption) ?_ | refine Branch.d (fun _ => ?_) (fun _ => ?_) | refine Branch.mk (fun _ => ?_) (fun _ => ?_) | refine Need.mk (by first | omega | decide | rfl) ?_ | refine Idx.nat (by omega) ?_ | refine Idx.auto (by first | omega | decide) (by first | omega | decide) ?_ | refine Cell.ro rfl ?_ | refine SDraw.all (by kernel_rfl) ?_ | refine Kept.k0 ?_ | refine Kept.k1 ?_ | refine Kept.k2 ?_ | refine Kept.k3 ?_ | refine Kept.k4 ?_))
theorem c65 {k : Nat} (hk : k ≤ 64) (hK : K (.tuple ⟨[.int .u64 0, .int .u64 (k : Int)]⟩) H) : SCalls Tryd.prog 65 [.int .u64 1, .int .u64 (k : Int)] H K := by
  refine enter65 ?_
  repeat' ((conv => whnf); (first | refine c74 hk ?_ | refine Branch.f rfl ?_ | exact Keep.all hK | refine New.mk (fun _ => ?_) | refine Look.at0 ?_ | refine Cell.row ?_ | refine Cell.buf ?_ | refine Cells.row rfl ?_ | refine Put.row rfl ?_ | refine Put.buf rfl ?_ | refine Look.at1 ?_ | refine Look.at2 ?_ | refine Look.at3 ?_ | refine Look.at4 ?_ | refine Look.at5 ?_ | refine Look.at6 ?_ | refine Look.at7 ?_ | refine Look.at8 ?_ | with_reducible refine Val.i64 (by omega) (by omega) ?_ | with_reducible refine Val.u8 (by omega) (by omega) ?_ | with_reducible refine Val.u32 (by omega) (by omega) ?_ | with_reducible refine Val.u64 (by omega) (by omega) ?_ | with_reducible refine Val.u8m ?_ | with_reducible refine Val.u32m ?_ | with_reducible refine Val.u64m ?_ | with_reducible refine Val.shr8 ?_ | with_reducible refine Val.shr16 (by decide) ?_ | with_reducible refine Val.shr24 (by decide) ?_ | with_reducible refine Val.raw ?_ | refine Branch.not ?_ | refine Branch.and ?_ | refine Branch.or ?_ | refine Branch.dt (by assumption) ?_ | refine Branch.df (by assumption) ?_ | refine Branch.dt rfl ?_ | refine Branch.dt (by omega) ?_ | refine Branch.df (by omega) ?_ | refine Branch.t rfl ?_ | refine Branch.f rfl ?_ | refine Branch.t (by assumption) ?_ | refine Branch.f (by assumption) ?_ | refine Branch.d (fun _ => ?_) (fun _ => ?_) | refine Branch.mk (fun _ => ?_) (fun _ => ?_) | refine Need.mk (by first | omega | decide | rfl) ?_ | refine Idx.nat (by omega) ?_ | refine Idx.auto (by first | omega | decide) (by first | omega | decide) ?_ | refine Cell.ro rfl ?_ | refine SDraw.all (by kernel_rfl) ?_ | refine Kept.k0 ?_ | refine Kept.k1 ?_ | refine Kept.k2 ?_ | refine Kept.k3 ?_ | refine Kept.k4 ?_))
theorem c75 {l p : List UInt8} (hK : K (.bool (decide (p.length ≤ l.length) && decide (l.take p.length = p))) H) : SCalls Tryd.prog 75 [.string (strOf l), .string (strOf p)] H K := by
  refine enter75 ?_
  have hl : (strOf l).size = l.length := strOf_size l
  have hp : (strOf p).size = p.length := strOf_size p
  by_cases h : p.length ≤ l.length
  · have hcut : decide ((strOf l).extract 0 p.length = strOf p) = decide (l.take p.length = p) := by
      rw [strOf_cut, strOf_eq]; simp
    rw [decide_eq_true h, Bool.true_and, ← hcut] at hK
    repeat' ((conv => whnf); (first | refine Branch.dt (by omega) ?_ | refine Idx.of p.length (by omega) (by omega) ?_ | exact Keep.all hK | refine New.mk (fun _ => ?_) | refine Look.at0 ?_ | refine Cell.row ?_ | refine Cell.buf ?_ | refine Cells.row rfl ?_ | refine Put.row rfl ?_ | refine Put.buf rfl ?_ | refine Look.at1 ?_ | refine Look.at2 ?_ | refine Look.at3 ?_ | refine Look.at4 ?_ | refine Look.at5 ?_ | refine Look.at6 ?_ | refine Look.at7 ?_ | refine Look.at8 ?_ | with_reducible refine Val.i64 (by omega) (by omega) ?_ | with_reducible refine Val.u8 (by omega) (by omega) ?_ | with_reducible refine Val.u32 (by omega) (by omega) ?_ | with_reducible refine Val.u64 (by omega) (by omega) ?_ | with_reducible refine Val.u8m ?_ | with_reducible refine Val.u32m ?_ | with_reducible refine Val.u64m ?_ | with_reducible refine Val.shr8 ?_ | with_reducible refine Val.shr16 (by decide) ?_ | with_reducible refine Val.shr24 (by decide) ?_ | with_reducible refine Val.raw ?_ | refine Branch.not ?_ | refine Branch.and ?_ | refine Branch.or ?_ | refine Branch.dt (by assumption) ?_ | refine Branch.df (by assumption) ?_ | refine Branch.dt rfl ?_ | refine Branch.dt (by omega) ?_ | refine Branch.df (by omega) ?_ | refine Branch.t rfl ?_ | refine Branch.f rfl ?_ | refine Branch.t (by assumption) ?_ | refine Branch.f (by assumption) ?_ | refine Branch.d (fun _ => ?_) (fun _ => ?_) | refine Branch.mk (fun _ => ?_) (fun _ => ?_) | refine Need.mk (by first | omega | decide | rfl) ?_ | refine Idx.nat (by omega) ?_ | refine Idx.auto (by first | omega | decide) (by first | omega | decide) ?_ | refine Cell.ro rfl ?_ | refine SDraw.all (by kernel_rfl) ?_ | refine Kept.k0 ?_ | refine Kept.k1 ?_ | refine Kept.k2 ?_ | refine Kept.k3 ?_ | refine Kept.k4 ?_))
  · rw [decide_eq_false h, Bool.false_and] at hK
    repeat' ((conv => whnf); (first | refine Branch.df (by omega) ?_ | exact Keep.all hK | refine New.mk (fun _ => ?_) | refine Look.at0 ?_ | refine Cell.row ?_ | refine Cell.buf ?_ | refine Cells.row rfl ?_ | refine Put.row rfl ?_ | refine Put.buf rfl ?_ | refine Look.at1 ?_ | refine Look.at2 ?_ | refine Look.at3 ?_ | refine Look.at4 ?_ | refine Look.at5 ?_ | refine Look.at6 ?_ | refine Look.at7 ?_ | refine Look.at8 ?_ | with_reducible refine Val.i64 (by omega) (by omega) ?_ | with_reducible refine Val.u8 (by omega) (by omega) ?_ | with_reducible refine Val.u32 (by omega) (by omega) ?_ | with_reducible refine Val.u64 (by omega) (by omega) ?_ | with_reducible refine Val.u8m ?_ | with_reducible refine Val.u32m ?_ | with_reducible refine Val.u64m ?_ | with_reducible refine Val.shr8 ?_ | with_reducible refine Val.shr16 (by decide) ?_ | with_reducible refine Val.shr24 (by decide) ?_ | with_reducible refine Val.raw ?_ | refine Branch.not ?_ | refine Branch.and ?_ | refine Branch.or ?_ | refine Branch.dt (by assumption) ?_ | refine Branch.df (by assumption) ?_ | refine Branch.dt rfl ?_ | refine Branch.dt (by omega) ?_ | refine Branch.df (by omega) ?_ | refine Branch.t rfl ?_ | refine Branch.f rfl ?_ | refine Branch.t (by assumption) ?_ | refine Branch.f (by assumption) ?_ | refine Branch.d (fun _ => ?_) (fun _ => ?_) | refine Branch.mk (fun _ => ?_) (fun _ => ?_) | refine Need.mk (by first | omega | decide | rfl) ?_ | refine Idx.nat (by omega) ?_ | refine Idx.auto (by first | omega | decide) (by first | omega | decide) ?_ | refine Cell.ro rfl ?_ | refine SDraw.all (by kernel_rfl) ?_ | refine Kept.k0 ?_ | refine Kept.k1 ?_ | refine Kept.k2 ?_ | refine Kept.k3 ?_ | refine Kept.k4 ?_))
theorem c66 {l p : List UInt8} (hK : K (.bool (decide (p.length ≤ l.length) && decide (l.take p.length = p))) H) : SCalls Tryd.prog 66 [.string (strOf l), .string (strOf p)] H K := by
  refine enter66 ?_
  repeat' ((conv => whnf); (first | refine c75 ?_ | exact Keep.all hK | refine New.mk (fun _ => ?_) | refine Look.at0 ?_ | refine Cell.row ?_ | refine Cell.buf ?_ | refine Cells.row rfl ?_ | refine Put.row rfl ?_ | refine Put.buf rfl ?_ | refine Look.at1 ?_ | refine Look.at2 ?_ | refine Look.at3 ?_ | refine Look.at4 ?_ | refine Look.at5 ?_ | refine Look.at6 ?_ | refine Look.at7 ?_ | refine Look.at8 ?_ | with_reducible refine Val.i64 (by omega) (by omega) ?_ | with_reducible refine Val.u8 (by omega) (by omega) ?_ | with_reducible refine Val.u32 (by omega) (by omega) ?_ | with_reducible refine Val.u64 (by omega) (by omega) ?_ | with_reducible refine Val.u8m ?_ | with_reducible refine Val.u32m ?_ | with_reducible refine Val.u64m ?_ | with_reducible refine Val.shr8 ?_ | with_reducible refine Val.shr16 (by decide) ?_ | with_reducible refine Val.shr24 (by decide) ?_ | with_reducible refine Val.raw ?_ | refine Branch.not ?_ | refine Branch.and ?_ | refine Branch.or ?_ | refine Branch.dt (by assumption) ?_ | refine Branch.df (by assumption) ?_ | refine Branch.dt rfl ?_ | refine Branch.dt (by omega) ?_ | refine Branch.df (by omega) ?_ | refine Branch.t rfl ?_ | refine Branch.f rfl ?_ | refine Branch.t (by assumption) ?_ | refine Branch.f (by assumption) ?_ | refine Branch.d (fun _ => ?_) (fun _ => ?_) | refine Branch.mk (fun _ => ?_) (fun _ => ?_) | refine Need.mk (by first | omega | decide | rfl) ?_ | refine Idx.nat (by omega) ?_ | refine Idx.auto (by first | omega | decide) (by first | omega | decide) ?_ | refine Cell.ro rfl ?_ | refine SDraw.all (by kernel_rfl) ?_ | refine Kept.k0 ?_ | refine Kept.k1 ?_ | refine Kept.k2 ?_ | refine Kept.k3 ?_ | refine Kept.k4 ?_))
theorem c61z {k : Nat} (hk : k ≤ 64) (hK : K (.string (strOf (List.replicate k 48))) H) : SCalls Tryd.prog 61 [.string ⟨#[48]⟩, .int .i64 (k : Int)] H K := by
  refine enter61 ?_
  rcases (by omega : k = 0 ∨ k = 1 ∨ 2 ≤ k) with rfl | rfl | h2
  · repeat' ((conv => whnf); (first | refine Branch.t rfl ?_ | exact Keep.all hK | refine New.mk (fun _ => ?_) | refine Look.at0 ?_ | refine Cell.row ?_ | refine Cell.buf ?_ | refine Cells.row rfl ?_ | refine Put.row rfl ?_ | refine Put.buf rfl ?_ | refine Look.at1 ?_ | refine Look.at2 ?_ | refine Look.at3 ?_ | refine Look.at4 ?_ | refine Look.at5 ?_ | refine Look.at6 ?_ | refine Look.at7 ?_ | refine Look.at8 ?_ | with_reducible refine Val.i64 (by omega) (by omega) ?_ | with_reducible refine Val.u8 (by omega) (by omega) ?_ | with_reducible refine Val.u32 (by omega) (by omega) ?_ | with_reducible refine Val.u64 (by omega) (by omega) ?_ | with_reducible refine Val.u8m ?_ | with_reducible refine Val.u32m ?_ | with_reducible refine Val.u64m ?_ | with_reducible refine Val.shr8 ?_ | with_reducible refine Val.shr16 (by decide) ?_ | with_reducible refine Val.shr24 (by decide) ?_ | with_reducible refine Val.raw ?_ | refine Branch.not ?_ | refine Branch.and ?_ | refine Branch.or ?_ | refine Branch.dt (by assumption) ?_ | refine Branch.df (by assumption) ?_ | refine Branch.dt rfl ?_ | refine Branch.dt (by omega) ?_ | refine Branch.df (by omega) ?_ | refine Branch.t rfl ?_ | refine Branch.f rfl ?_ | refine Branch.t (by assumption) ?_ | refine Branch.f (by assumption) ?_ | refine Branch.d (fun _ => ?_) (fun _ => ?_) | refine Branch.mk (fun _ => ?_) (fun _ => ?_) | refine Need.mk (by first | omega | decide | rfl) ?_ | refine Idx.nat (by omega) ?_ | refine Idx.auto (by first | omega | decide) (by first | omega | decide) ?_ | refine Cell.ro rfl ?_ | refine SDraw.all (by kernel_rfl) ?_ | refine Kept.k0 ?_ | refine Kept.k1 ?_ | refine Kept.k2 ?_ | refine Kept.k3 ?_ | refine Kept.k4 ?_))
  · repeat' ((conv => whnf); (first | refine Branch.t rfl ?_ | refine Branch.f rfl ?_ | exact Keep.all hK | refine New.mk (fun _ => ?_) | refine Look.at0 ?_ | refine Cell.row ?_ | refine Cell.buf ?_ | refine Cells.row rfl ?_ | refine Put.row rfl ?_ | refine Put.buf rfl ?_ | refine Look.at1 ?_ | refine Look.at2 ?_ | refine Look.at3 ?_ | refine Look.at4 ?_ | refine Look.at5 ?_ | refine Look.at6 ?_ | refine Look.at7 ?_ | refine Look.at8 ?_ | with_reducible refine Val.i64 (by omega) (by omega) ?_ | with_reducible refine Val.u8 (by omega) (by omega) ?_ | with_reducible refine Val.u32 (by omega) (by omega) ?_ | with_reducible refine Val.u64 (by omega) (by omega) ?_ | with_reducible refine Val.u8m ?_ | with_reducible refine Val.u32m ?_ | with_reducible refine Val.u64m ?_ | with_reducible refine Val.shr8 ?_ | with_reducible refine Val.shr16 (by decide) ?_ | with_reducible refine Val.shr24 (by decide) ?_ | with_reducible refine Val.raw ?_ | refine Branch.not ?_ | refine Branch.and ?_ | refine Branch.or ?_ | refine Branch.dt (by assumption) ?_ | refine Branch.df (by assumption) ?_ | refine Branch.dt rfl ?_ | refine Branch.dt (by omega) ?_ | refine Branch.df (by omega) ?_ | refine Branch.t rfl ?_ | refine Branch.f rfl ?_ | refine Branch.t (by assumption) ?_ | refine Branch.f (by assumption) ?_ | refine Branch.d (fun _ => ?_) (fun _ => ?_) | refine Branch.mk (fun _ => ?_) (fun _ => ?_) | refine Need.mk (by first | omega | decide | rfl) ?_ | refine Idx.nat (by omega) ?_ | refine Idx.auto (by first | omega | decide) (by first | omega | decide) ?_ | refine Cell.ro rfl ?_ | refine SDraw.all (by kernel_rfl) ?_ | refine Kept.k0 ?_ | refine Kept.k1 ?_ | refine Kept.k2 ?_ | refine Kept.k3 ?_ | refine Kept.k4 ?_))
  · have e1 : ∀ (K : Value → Heap → Prop), K (.bool false) H → SCalls Tryd.prog 66 [.string (strOf (List.replicate 128 32)), .string (strOf [48])] H K := fun K hk => c66 hk
    have e2 : ∀ (K : Value → Heap → Prop), K (.bool false) H → SCalls Tryd.prog 66 [.string (strOf (List.replicate 128 45)), .string (strOf [48])] H K := fun K hk => c66 hk
    have e3 : ∀ (K : Value → Heap → Prop), K (.bool true) H → SCalls Tryd.prog 66 [.string (strOf (List.replicate 64 48)), .string (strOf [48])] H K := fun K hk => c66 hk
    have hz : (strOf (List.replicate 64 48)).extract 0 k = strOf (List.replicate k 48) := by
      rw [strOf_cut]
      congr 1
      rw [List.drop_zero, List.take_replicate]; congr 1; omega
    have hfin : ∀ s : ByteArray, s = strOf (List.replicate k 48) → Keep H fun H' => K (.string s) H' := fun s e => by rw [e]; exact Keep.all hK
    repeat' ((conv => whnf); (first | refine c65 hk ?_ | refine e1 _ ?_ | refine e2 _ ?_ | refine e3 _ ?_ | with_reducible refine Val.u64 (by omega) (by omega) ?_ | refine Branch.df (by omega) ?_ | refine Branch.dt (by omega) ?_ | refine Branch.t rfl ?_ | refine Branch.f rfl ?_ | refine Idx.of 0 rfl (by decide) ?_ | refine Idx.of k rfl (by first | decide | (show k < 65; omega)) ?_ | (refine hfin _ ?_; exact hz) | refine New.mk (fun _ => ?_) | refine Look.at0 ?_ | refine Cell.row ?_ | refine Cell.buf ?_ | refine Cells.row rfl ?_ | refine Put.row rfl ?_ | refine Put.buf rfl ?_ | refine Look.at1 ?_ | refine Look.at2 ?_ | refine Look.at3 ?_ | refine Look.at4 ?_ | refine Look.at5 ?_ | refine Look.at6 ?_ | refine Look.at7 ?_ | refine Look.at8 ?_ | with_reducible refine Val.i64 (by omega) (by omega) ?_ | with_reducible refine Val.u8 (by omega) (by omega) ?_ | with_reducible refine Val.u32 (by omega) (by omega) ?_ | with_reducible refine Val.u64 (by omega) (by omega) ?_ | with_reducible refine Val.u8m ?_ | with_reducible refine Val.u32m ?_ | with_reducible refine Val.u64m ?_ | with_reducible refine Val.shr8 ?_ | with_reducible refine Val.shr16 (by decide) ?_ | with_reducible refine Val.shr24 (by decide) ?_ | with_reducible refine Val.raw ?_ | refine Branch.not ?_ | refine Branch.and ?_ | refine Branch.or ?_ | refine Branch.dt (by assumption) ?_ | refine Branch.df (by assumption) ?_ | refine Branch.dt rfl ?_ | refine Branch.dt (by omega) ?_ | refine Branch.df (by omega) ?_ | refine Branch.t rfl ?_ | refine Branch.f rfl ?_ | refine Branch.t (by assumption) ?_ | refine Branch.f (by assumption) ?_ | refine Branch.d (fun _ => ?_) (fun _ => ?_) | refine Branch.mk (fun _ => ?_) (fun _ => ?_) | refine Need.mk (by first | omega | decide | rfl) ?_ | refine Idx.nat (by omega) ?_ | refine Idx.auto (by first | omega | decide) (by first | omega | decide) ?_ | refine Cell.ro rfl ?_ | refine SDraw.all (by kernel_rfl) ?_ | refine Kept.k0 ?_ | refine Kept.k1 ?_ | refine Kept.k2 ?_ | refine Kept.k3 ?_ | refine Kept.k4 ?_))
theorem c56 {n : Nat} {w : Int} (hD : Db H) (hn : n < 2 ^ 64) (hK : K (.tuple ⟨[.string (strOf (numV n w).1), .int .i64 (numV n w).2]⟩) H) : SCalls Tryd.prog 56 [.int .u64 (n : Int), .int .i64 w] H K := by
  refine enter56 ?_
  unfold numV at hK
  have h24 : (2 : Nat) ^ 64 = 18446744073709551616 := rfl
  by_cases h0 : 0 ≤ w
  · by_cases h64 : w ≤ 64
    · obtain ⟨k, rfl⟩ : ∃ k : Nat, w = (k : Int) := ⟨w.toNat, by omega⟩
      rw [Int.toNat_natCast] at hK
      have hk : k ≤ 64 := by omega
      have hshr : ∀ K : Int → Prop, K ((n / 2 ^ k : Nat) : Int) → Val (shrI .u64 (n : Int) (k : Int)) K := fun K hk2 => Val.to _ (shr_nat (k := .u64) (n := k) hk) hk2
      by_cases hlt : n < 2 ^ k
      · rw [if_pos ⟨h0, h64, hlt⟩] at hK
        have hz : n / 2 ^ k = 0 := Nat.div_eq_of_lt hlt
        rw [hz] at hshr
        rcases (by omega : k = 0 ∨ 1 ≤ k) with rfl | hk1
        · repeat' ((conv => whnf); (first | with_reducible refine hshr _ ?_ | refine Branch.df (by omega) ?_ | refine Branch.dt (by omega) ?_ | refine Branch.t rfl ?_ | refine Branch.f rfl ?_ | exact Keep.all hK | refine New.mk (fun _ => ?_) | refine Look.at0 ?_ | refine Cell.row ?_ | refine Cell.buf ?_ | refine Cells.row rfl ?_ | refine Put.row rfl ?_ | refine Put.buf rfl ?_ | refine Look.at1 ?_ | refine Look.at2 ?_ | refine Look.at3 ?_ | refine Look.at4 ?_ | refine Look.at5 ?_ | refine Look.at6 ?_ | refine Look.at7 ?_ | refine Look.at8 ?_ | with_reducible refine Val.i64 (by omega) (by omega) ?_ | with_reducible refine Val.u8 (by omega) (by omega) ?_ | with_reducible refine Val.u32 (by omega) (by omega) ?_ | with_reducible refine Val.u64 (by omega) (by omega) ?_ | with_reducible refine Val.u8m ?_ | with_reducible refine Val.u32m ?_ | with_reducible refine Val.u64m ?_ | with_reducible refine Val.shr8 ?_ | with_reducible refine Val.shr16 (by decide) ?_ | with_reducible refine Val.shr24 (by decide) ?_ | with_reducible refine Val.raw ?_ | refine Branch.not ?_ | refine Branch.and ?_ | refine Branch.or ?_ | refine Branch.dt (by assumption) ?_ | refine Branch.df (by assumption) ?_ | refine Branch.dt rfl ?_ | refine Branch.dt (by omega) ?_ | refine Branch.df (by omega) ?_ | refine Branch.t rfl ?_ | refine Branch.f rfl ?_ | refine Branch.t (by assumption) ?_ | refine Branch.f (by assumption) ?_ | refine Branch.d (fun _ => ?_) (fun _ => ?_) | refine Branch.mk (fun _ => ?_) (fun _ => ?_) | refine Need.mk (by first | omega | decide | rfl) ?_ | refine Idx.nat (by omega) ?_ | refine Idx.auto (by first | omega | decide) (by first | omega | decide) ?_ | refine Cell.ro rfl ?_ | refine SDraw.all (by kernel_rfl) ?_ | refine Kept.k0 ?_ | refine Kept.k1 ?_ | refine Kept.k2 ?_ | refine Kept.k3 ?_ | refine Kept.k4 ?_))
        · obtain ⟨hlen, hpad⟩ := pad 64 k n hn hlt hk1
          have hsz : (strOf (binF 64 n)).size = (binF 64 n).length := strOf_size _
          have hcat : ∀ s : ByteArray, s = strOf (numB k n) → Keep H fun H' => K (.tuple ⟨[.string s, .int .i64 0]⟩) H' := fun s e => by rw [e]; exact Keep.all hK
          have h_37 := fun (K : Value → Heap → Prop) hk2 => c61z (K := K) (H := H) (k := k - (binF 64 n).length) (by omega) hk2
          have hrs : (strOf (List.replicate (k - (binF 64 n).length) 48)).size = k - (binF 64 n).length := by rw [strOf_size]; simp
          by_cases hk64 : k < 64
          · repeat' ((conv => whnf); (first | refine c60 hD hn ?_ | with_reducible refine h_37 _ ?_ | with_reducible refine hshr _ ?_ | with_reducible refine Val.to ((k - (binF 64 n).length : Nat) : Int) (by rw [wrap_i64 (by omega) (by omega)]; omega) ?_ | refine Branch.df (by omega) ?_ | refine Branch.dt (by omega) ?_ | refine Branch.t rfl ?_ | refine Branch.f rfl ?_ | refine Need.mk (by omega) ?_ | (refine hcat _ ?_; rw [strOf_app, hpad]) | refine New.mk (fun _ => ?_) | refine Look.at0 ?_ | refine Cell.row ?_ | refine Cell.buf ?_ | refine Cells.row rfl ?_ | refine Put.row rfl ?_ | refine Put.buf rfl ?_ | refine Look.at1 ?_ | refine Look.at2 ?_ | refine Look.at3 ?_ | refine Look.at4 ?_ | refine Look.at5 ?_ | refine Look.at6 ?_ | refine Look.at7 ?_ | refine Look.at8 ?_ | with_reducible refine Val.i64 (by omega) (by omega) ?_ | with_reducible refine Val.u8 (by omega) (by omega) ?_ | with_reducible refine Val.u32 (by omega) (by omega) ?_ | with_reducible refine Val.u64 (by omega) (by omega) ?_ | with_reducible refine Val.u8m ?_ | with_reducible refine Val.u32m ?_ | with_reducible refine Val.u64m ?_ | with_reducible refine Val.shr8 ?_ | with_reducible refine Val.shr16 (by decide) ?_ | with_reducible refine Val.shr24 (by decide) ?_ | with_reducible refine Val.raw ?_ | refine Branch.not ?_ | refine Branch.and ?_ | refine Branch.or ?_ | refine Branch.dt (by assumption) ?_ | refine Branch.df (by assumption) ?_ | refine Branch.dt rfl ?_ | refine Branch.dt (by omega) ?_ | refine Branch.df (by omega) ?_ | refine Branch.t rfl ?_ | refine Branch.f rfl ?_ | refine Branch.t (by assumption) ?_ | refine Branch.f (by assumption) ?_ | refine Branch.d (fun _ => ?_) (fun _ => ?_) | refine Branch.mk (fun _ => ?_) (fun _ => ?_) | refine Need.mk (by first | omega | decide | rfl) ?_ | refine Idx.nat (by omega) ?_ | refine Idx.auto (by first | omega | decide) (by first | omega | decide) ?_ | refine Cell.ro rfl ?_ | refine SDraw.all (by kernel_rfl) ?_ | refine Kept.k0 ?_ | refine Kept.k1 ?_ | refine Kept.k2 ?_ | refine Kept.k3 ?_ | refine Kept.k4 ?_))
          · repeat' ((conv => whnf); (first | refine c60 hD hn ?_ | with_reducible refine h_37 _ ?_ | with_reducible refine hshr _ ?_ | with_reducible refine Val.to ((k - (binF 64 n).length : Nat) : Int) (by rw [wrap_i64 (by omega) (by omega)]; omega) ?_ | refine Branch.df (by omega) ?_ | refine Branch.dt (by omega) ?_ | refine Branch.t rfl ?_ | refine Branch.f rfl ?_ | refine Need.mk (by omega) ?_ | (refine hcat _ ?_; rw [strOf_app, hpad]) | refine New.mk (fun _ => ?_) | refine Look.at0 ?_ | refine Cell.row ?_ | refine Cell.buf ?_ | refine Cells.row rfl ?_ | refine Put.row rfl ?_ | refine Put.buf rfl ?_ | refine Look.at1 ?_ | refine Look.at2 ?_ | refine Look.at3 ?_ | refine Look.at4 ?_ | refine Look.at5 ?_ | refine Look.at6 ?_ | refine Look.at7 ?_ | refine Look.at8 ?_ | with_reducible refine Val.i64 (by omega) (by omega) ?_ | with_reducible refine Val.u8 (by omega) (by omega) ?_ | with_reducible refine Val.u32 (by omega) (by omega) ?_ | with_reducible refine Val.u64 (by omega) (by omega) ?_ | with_reducible refine Val.u8m ?_ | with_reducible refine Val.u32m ?_ | with_reducible refine Val.u64m ?_ | with_reducible refine Val.shr8 ?_ | with_reducible refine Val.shr16 (by decide) ?_ | with_reducible refine Val.shr24 (by decide) ?_ | with_reducible refine Val.raw ?_ | refine Branch.not ?_ | refine Branch.and ?_ | refine Branch.or ?_ | refine Branch.dt (by assumption) ?_ | refine Branch.df (by assumption) ?_ | refine Branch.dt rfl ?_ | refine Branch.dt (by omega) ?_ | refine Branch.df (by omega) ?_ | refine Branch.t rfl ?_ | refine Branch.f rfl ?_ | refine Branch.t (by assumption) ?_ | refine Branch.f (by assumption) ?_ | refine Branch.d (fun _ => ?_) (fun _ => ?_) | refine Branch.mk (fun _ => ?_) (fun _ => ?_) | refine Need.mk (by first | omega | decide | rfl) ?_ | refine Idx.nat (by omega) ?_ | refine Idx.auto (by first | omega | decide) (by first | omega | decide) ?_ | refine Cell.ro rfl ?_ | refine SDraw.all (by kernel_rfl) ?_ | refine Kept.k0 ?_ | refine Kept.k1 ?_ | refine Kept.k2 ?_ | refine Kept.k3 ?_ | refine Kept.k4 ?_))
      · rw [if_neg (fun h => hlt h.2.2)] at hK
        have hk64 : k < 64 := by
          rcases Nat.lt_or_ge k 64 with h | h
          · exact h
          · obtain rfl : k = 64 := by omega
            exact absurd hn hlt
        have hz : 0 < n / 2 ^ k := Nat.div_pos (by omega) (Nat.two_pow_pos k)
        repeat' ((conv => whnf); (first | with_reducible refine hshr _ ?_ | refine Branch.df (by omega) ?_ | refine Branch.dt (by omega) ?_ | refine Branch.t rfl ?_ | refine Branch.f rfl ?_ | exact Keep.all hK | refine New.mk (fun _ => ?_) | refine Look.at0 ?_ | refine Cell.row ?_ | refine Cell.buf ?_ | refine Cells.row rfl ?_ | refine Put.row rfl ?_ | refine Put.buf rfl ?_ | refine Look.at1 ?_ | refine Look.at2 ?_ | refine Look.at3 ?_ | refine Look.at4 ?_ | refine Look.at5 ?_ | refine Look.at6 ?_ | refine Look.at7 ?_ | refine Look.at8 ?_ | with_reducible refine Val.i64 (by omega) (by omega) ?_ | with_reducible refine Val.u8 (by omega) (by omega) ?_ | with_reducible refine Val.u32 (by omega) (by omega) ?_ | with_reducible refine Val.u64 (by omega) (by omega) ?_ | with_reducible refine Val.u8m ?_ | with_reducible refine Val.u32m ?_ | with_reducible refine Val.u64m ?_ | with_reducible refine Val.shr8 ?_ | with_reducible refine Val.shr16 (by decide) ?_ | with_reducible refine Val.shr24 (by decide) ?_ | with_reducible refine Val.raw ?_ | refine Branch.not ?_ | refine Branch.and ?_ | refine Branch.or ?_ | refine Branch.dt (by assumption) ?_ | refine Branch.df (by assumption) ?_ | refine Branch.dt rfl ?_ | refine Branch.dt (by omega) ?_ | refine Branch.df (by omega) ?_ | refine Branch.t rfl ?_ | refine Branch.f rfl ?_ | refine Branch.t (by assumption) ?_ | refine Branch.f (by assumption) ?_ | refine Branch.d (fun _ => ?_) (fun _ => ?_) | refine Branch.mk (fun _ => ?_) (fun _ => ?_) | refine Need.mk (by first | omega | decide | rfl) ?_ | refine Idx.nat (by omega) ?_ | refine Idx.auto (by first | omega | decide) (by first | omega | decide) ?_ | refine Cell.ro rfl ?_ | refine SDraw.all (by kernel_rfl) ?_ | refine Kept.k0 ?_ | refine Kept.k1 ?_ | refine Kept.k2 ?_ | refine Kept.k3 ?_ | refine Kept.k4 ?_))
    · rw [if_neg (fun h => h64 h.2.1)] at hK
      repeat' ((conv => whnf); (first | refine Branch.df (by omega) ?_ | refine Branch.dt (by omega) ?_ | refine Branch.t rfl ?_ | exact Keep.all hK | refine New.mk (fun _ => ?_) | refine Look.at0 ?_ | refine Cell.row ?_ | refine Cell.buf ?_ | refine Cells.row rfl ?_ | refine Put.row rfl ?_ | refine Put.buf rfl ?_ | refine Look.at1 ?_ | refine Look.at2 ?_ | refine Look.at3 ?_ | refine Look.at4 ?_ | refine Look.at5 ?_ | refine Look.at6 ?_ | refine Look.at7 ?_ | refine Look.at8 ?_ | with_reducible refine Val.i64 (by omega) (by omega) ?_ | with_reducible refine Val.u8 (by omega) (by omega) ?_ | with_reducible refine Val.u32 (by omega) (by omega) ?_ | with_reducible refine Val.u64 (by omega) (by omega) ?_ | with_reducible refine Val.u8m ?_ | with_reducible refine Val.u32m ?_ | with_reducible refine Val.u64m ?_ | with_reducible refine Val.shr8 ?_ | with_reducible refine Val.shr16 (by decide) ?_ | with_reducible refine Val.shr24 (by decide) ?_ | with_reducible refine Val.raw ?_ | refine Branch.not ?_ | refine Branch.and ?_ | refine Branch.or ?_ | refine Branch.dt (by assumption) ?_ | refine Branch.df (by assumption) ?_ | refine Branch.dt rfl ?_ | refine Branch.dt (by omega) ?_ | refine Branch.df (by omega) ?_ | refine Branch.t rfl ?_ | refine Branch.f rfl ?_ | refine Branch.t (by assumption) ?_ | refine Branch.f (by assumption) ?_ | refine Branch.d (fun _ => ?_) (fun _ => ?_) | refine Branch.mk (fun _ => ?_) (fun _ => ?_) | refine Need.mk (by first | omega | decide | rfl) ?_ | refine Idx.nat (by omega) ?_ | refine Idx.auto (by first | omega | decide) (by first | omega | decide) ?_ | refine Cell.ro rfl ?_ | refine SDraw.all (by kernel_rfl) ?_ | refine Kept.k0 ?_ | refine Kept.k1 ?_ | refine Kept.k2 ?_ | refine Kept.k3 ?_ | refine Kept.k4 ?_))
  · rw [if_neg (fun h => h0 h.1)] at hK
    repeat' ((conv => whnf); (first | refine Branch.dt (by omega) ?_ | refine Branch.t rfl ?_ | exact Keep.all hK | refine New.mk (fun _ => ?_) | refine Look.at0 ?_ | refine Cell.row ?_ | refine Cell.buf ?_ | refine Cells.row rfl ?_ | refine Put.row rfl ?_ | refine Put.buf rfl ?_ | refine Look.at1 ?_ | refine Look.at2 ?_ | refine Look.at3 ?_ | refine Look.at4 ?_ | refine Look.at5 ?_ | refine Look.at6 ?_ | refine Look.at7 ?_ | refine Look.at8 ?_ | with_reducible refine Val.i64 (by omega) (by omega) ?_ | with_reducible refine Val.u8 (by omega) (by omega) ?_ | with_reducible refine Val.u32 (by omega) (by omega) ?_ | with_reducible refine Val.u64 (by omega) (by omega) ?_ | with_reducible refine Val.u8m ?_ | with_reducible refine Val.u32m ?_ | with_reducible refine Val.u64m ?_ | with_reducible refine Val.shr8 ?_ | with_reducible refine Val.shr16 (by decide) ?_ | with_reducible refine Val.shr24 (by decide) ?_ | with_reducible refine Val.raw ?_ | refine Branch.not ?_ | refine Branch.and ?_ | refine Branch.or ?_ | refine Branch.dt (by assumption) ?_ | refine Branch.df (by assumption) ?_ | refine Branch.dt rfl ?_ | refine Branch.dt (by omega) ?_ | refine Branch.df (by omega) ?_ | refine Branch.t rfl ?_ | refine Branch.f rfl ?_ | refine Branch.t (by assumption) ?_ | refine Branch.f (by assumption) ?_ | refine Branch.d (fun _ => ?_) (fun _ => ?_) | refine Branch.mk (fun _ => ?_) (fun _ => ?_) | refine Need.mk (by first | omega | decide | rfl) ?_ | refine Idx.nat (by omega) ?_ | refine Idx.auto (by first | omega | decide) (by first | omega | decide) ?_ | refine Cell.ro rfl ?_ | refine SDraw.all (by kernel_rfl) ?_ | refine Kept.k0 ?_ | refine Kept.k1 ?_ | refine Kept.k2 ?_ | refine Kept.k3 ?_ | refine Kept.k4 ?_))
abbrev digB (p k m : Nat) (ds : List UInt8) : Nat × Blk := (p, .buf 5 (List.replicate m zv ++ cel ds) k)
theorem digb_put {k n : Nat} {ds : List UInt8} (b : UInt8) : PutOk (.buf 5 (List.replicate (n + 1) zv ++ cel ds) k) (0 + n * 1) [.int .u8 (b.toNat : Int)] (.buf 5 (List.replicate n zv ++ cel (b :: ds)) k) := by
  obtain ⟨h1, _, h3⟩ := dig_put (n := n) (ds := ds) b
  injection h3 with _ h3 _
  exact PutOk.buf h1 h3.symm
theorem c63 {n : Nat} {w : Int} (hn : n < 2 ^ 64) (hK : K (.tuple ⟨[.string (strOf (numV n w).1), .int .i64 (numV n w).2]⟩) H) : SCalls Tryd.prog 63 [.int .u64 (n : Int), .int .i64 w] H K := by
  refine enter63 ?_
  unfold numV at hK
  by_cases h0 : 0 ≤ w
  · by_cases h64 : w ≤ 64
    · obtain ⟨k, rfl⟩ : ∃ k : Nat, w = (k : Int) := ⟨w.toNat, by omega⟩
      rw [Int.toNat_natCast] at hK
      have hk : k ≤ 64 := by omega
      repeat' ((conv => whnf); (first | refine Branch.df (by omega) ?_ | refine Branch.f rfl ?_ | refine RawV.make1 (e := 5) (bytes := 1) (zv := zv) rfl (by kernel_rfl) (by kernel_rfl) rfl (by omega) (by simp only [maxLen]; omega) (fun p => ?_) | refine New.mk (fun _ => ?_) | refine Look.at0 ?_ | refine Cell.row ?_ | refine Cell.buf ?_ | refine Cells.row rfl ?_ | refine Put.row rfl ?_ | refine Put.buf rfl ?_ | refine Look.at1 ?_ | refine Look.at2 ?_ | refine Look.at3 ?_ | refine Look.at4 ?_ | refine Look.at5 ?_ | refine Look.at6 ?_ | refine Look.at7 ?_ | refine Look.at8 ?_ | with_reducible refine Val.i64 (by omega) (by omega) ?_ | with_reducible refine Val.u8 (by omega) (by omega) ?_ | with_reducible refine Val.u32 (by omega) (by omega) ?_ | with_reducible refine Val.u64 (by omega) (by omega) ?_ | with_reducible refine Val.u8m ?_ | with_reducible refine Val.u32m ?_ | with_reducible refine Val.u64m ?_ | with_reducible refine Val.shr8 ?_ | with_reducible refine Val.shr16 (by decide) ?_ | with_reducible refine Val.shr24 (by decide) ?_ | with_reducible refine Val.raw ?_ | refine Branch.not ?_ | refine Branch.and ?_ | refine Branch.or ?_ | refine Branch.dt (by assumption) ?_ | refine Branch.df (by assumption) ?_ | refine Branch.dt rfl ?_ | refine Branch.dt (by omega) ?_ | refine Branch.df (by omega) ?_ | refine Branch.t rfl ?_ | refine Branch.f rfl ?_ | refine Branch.t (by assumption) ?_ | refine Branch.f (by assumption) ?_ | refine Branch.d (fun _ => ?_) (fun _ => ?_) | refine Branch.mk (fun _ => ?_) (fun _ => ?_) | refine Need.mk (by first | omega | decide | rfl) ?_ | refine Idx.nat (by omega) ?_ | refine Idx.auto (by first | omega | decide) (by first | omega | decide) ?_ | refine Cell.ro rfl ?_ | refine SDraw.all (by kernel_rfl) ?_ | refine Kept.k0 ?_ | refine Kept.k1 ?_ | refine Kept.k2 ?_ | refine Kept.k3 ?_ | refine Kept.k4 ?_))
      refine SLoop.invA (fun (x : Nat × Nat × List UInt8) S H' => x.2.2.length + x.1 = k ∧ x.2.1 < 2 ^ 64 ∧ numB k n = numB x.1 x.2.1 ++ x.2.2 ∧ x.2.1 = n / 2 ^ (k - x.1) ∧ S63 (.int .u64 (x.2.1 : Int)) (.slice (some ⟨p, 0, none⟩) k k) (.int .i64 ((x.1 : Int) - 1)) S ∧ H' = digB p k x.1 x.2.2 :: H) (fun x => x.1) (k, n, []) (Keep.all ⟨Nat.zero_add _, hn, (List.append_nil _).symm, by simp, .mk, by simp [digB, cel]⟩) ?_
      rintro ⟨m, c, ds⟩ S H' ⟨h1, h2, h3, h4, hS, rfl⟩ R hR
      dsimp only at h1 h2 h3 h4 hS hR ⊢
      cases hS
      rcases m with _ | m
      · have h3' : numB k n = ds := h3
        rw [Nat.sub_zero] at h4
        have hstr : ∀ (o : Oper) (xx : Operand) (K2 : Value → Heap → Prop), o.op = .convert 85 9 xx → K2 (.string (strOf ds)) (digB p k 0 ds :: H) → RawV Tryd.prog o [.slice (some ⟨p, 0, none⟩) k k] (digB p k 0 ds :: H) K2 := fun o xx K2 ho hk2 =>
          RawV.toStr (e := 5) (l := ds) ho (by kernel_rfl) (by kernel_rfl) (by kernel_rfl) (.head _) (by omega) (fun j x hj => by
            show (List.replicate 0 zv ++ cel ds)[0 + j]? = _
            rw [Nat.zero_add]; exact cel_at hj) hk2
        by_cases hlt : n < 2 ^ k
        · rw [if_pos ⟨h0, h64, hlt⟩, h3'] at hK
          obtain rfl : c = 0 := by rw [h4]; exact Nat.div_eq_of_lt hlt
          clear hR
          repeat' ((conv => whnf); (first | refine Branch.df (by omega) ?_ | refine Branch.f rfl ?_ | refine hstr _ _ _ rfl ?_ | exact Keep.d1 hK | refine New.mk (fun _ => ?_) | refine Look.at0 ?_ | refine Cell.row ?_ | refine Cell.buf ?_ | refine Cells.row rfl ?_ | refine Put.row rfl ?_ | refine Put.buf rfl ?_ | refine Look.at1 ?_ | refine Look.at2 ?_ | refine Look.at3 ?_ | refine Look.at4 ?_ | refine Look.at5 ?_ | refine Look.at6 ?_ | refine Look.at7 ?_ | refine Look.at8 ?_ | with_reducible refine Val.i64 (by omega) (by omega) ?_ | with_reducible refine Val.u8 (by omega) (by omega) ?_ | with_reducible refine Val.u32 (by omega) (by omega) ?_ | with_reducible refine Val.u64 (by omega) (by omega) ?_ | with_reducible refine Val.u8m ?_ | with_reducible refine Val.u32m ?_ | with_reducible refine Val.u64m ?_ | with_reducible refine Val.shr8 ?_ | with_reducible refine Val.shr16 (by decide) ?_ | with_reducible refine Val.shr24 (by decide) ?_ | with_reducible refine Val.raw ?_ | refine Branch.not ?_ | refine Branch.and ?_ | refine Branch.or ?_ | refine Branch.dt (by assumption) ?_ | refine Branch.df (by assumption) ?_ | refine Branch.dt rfl ?_ | refine Branch.dt (by omega) ?_ | refine Branch.df (by omega) ?_ | refine Branch.t rfl ?_ | refine Branch.f rfl ?_ | refine Branch.t (by assumption) ?_ | refine Branch.f (by assumption) ?_ | refine Branch.d (fun _ => ?_) (fun _ => ?_) | refine Branch.mk (fun _ => ?_) (fun _ => ?_) | refine Need.mk (by first | omega | decide | rfl) ?_ | refine Idx.nat (by omega) ?_ | refine Idx.auto (by first | omega | decide) (by first | omega | decide) ?_ | refine Cell.ro rfl ?_ | refine SDraw.all (by kernel_rfl) ?_ | refine Kept.k0 ?_ | refine Kept.k1 ?_ | refine Kept.k2 ?_ | refine Kept.k3 ?_ | refine Kept.k4 ?_))
        · rw [if_neg (fun h => hlt h.2.2)] at hK
          have hz : 0 < c := by rw [h4]; exact Nat.div_pos (by omega) (Nat.two_pow_pos k)
          have hz' : ¬ (c : Int) = 0 := by omega
          clear hR
          repeat' ((conv => whnf); (first | refine Branch.df (by omega) ?_ | refine Branch.t (by first | (simp [hz']; done) | omega) ?_ | exact Keep.d1 hK | refine New.mk (fun _ => ?_) | refine Look.at0 ?_ | refine Cell.row ?_ | refine Cell.buf ?_ | refine Cells.row rfl ?_ | refine Put.row rfl ?_ | refine Put.buf rfl ?_ | refine Look.at1 ?_ | refine Look.at2 ?_ | refine Look.at3 ?_ | refine Look.at4 ?_ | refine Look.at5 ?_ | refine Look.at6 ?_ | refine Look.at7 ?_ | refine Look.at8 ?_ | with_reducible refine Val.i64 (by omega) (by omega) ?_ | with_reducible refine Val.u8 (by omega) (by omega) ?_ | with_reducible refine Val.u32 (by omega) (by omega) ?_ | with_reducible refine Val.u64 (by omega) (by omega) ?_ | with_reducible refine Val.u8m ?_ | with_reducible refine Val.u32m ?_ | with_reducible refine Val.u64m ?_ | with_reducible refine Val.shr8 ?_ | with_reducible refine Val.shr16 (by decide) ?_ | with_reducible refine Val.shr24 (by decide) ?_ | with_reducible refine Val.raw ?_ | refine Branch.not ?_ | refine Branch.and ?_ | refine Branch.or ?_ | refine Branch.dt (by assumption) ?_ | refine Branch.df (by assumption) ?_ | refine Branch.dt rfl ?_ | refine Branch.dt (by omega) ?_ | refine Branch.df (by omega) ?_ | refine Branch.t rfl ?_ | refine Branch.f rfl ?_ | refine Branch.t (by assumption) ?_ | refine Branch.f (by assumption) ?_ | refine Branch.d (fun _ => ?_) (fun _ => ?_) | refine Branch.mk (fun _ => ?_) (fun _ => ?_) | refine Need.mk (by first | omega | decide | rfl) ?_ | refine Idx.nat (by omega) ?_ | refine Idx.auto (by first | omega | decide) (by first | omega | decide) ?_ | refine Cell.ro rfl ?_ | refine SDraw.all (by kernel_rfl) ?_ | refine Kept.k0 ?_ | refine Kept.k1 ?_ | refine Kept.k2 ?_ | refine Kept.k3 ?_ | refine Kept.k4 ?_))
      · have h3' : numB k n = numB m (c / 2) ++ (bitB (c % 2) :: ds) := by rw [h3]; show (numB m (c / 2) ++ [bitB (c % 2)]) ++ ds = _; simp
        have hput := digb_put (k := k) (n := m) (ds := ds) (bitB (c % 2))
        have hbn := bitB_n (Nat.mod_lt c (by decide : 0 < 2))
        have h4' : c / 2 = n / 2 ^ (k - m) := by
          rw [h4, Nat.div_div_eq_div_mul, ← Nat.pow_succ]
          congr 2; omega
        have hnext : ∀ S, S63 (.int .u64 ((c / 2 : Nat) : Int)) (.slice (some ⟨p, 0, none⟩) k k) (.int .i64 ((m : Int) - 1)) S → R S (digB p k m (bitB (c % 2) :: ds) :: H) := fun S hS => hR (m, c / 2, bitB (c % 2) :: ds) _ _ (by show m < m + 1; omega) (Keep.all ⟨by show (ds.length + 1) + m = k; omega, by show c / 2 < 2 ^ 64; omega, h3', h4', hS, rfl⟩)
        have hshr : ∀ K : Int → Prop, K ((c / 2 : Nat) : Int) → Val (shrI .u64 (c : Int) 1) K := fun K hk => Val.to _ (shr_nat (k := .u64) (n := 1) (by decide)) hk
        have hand : bitAnd .u64 (c : Int) 1 = ((c % 2 : Nat) : Int) := bitMask_nat (k := .u64) rfl (a := c) (n := 1) h2 (by decide)
        have hm1 : (((m + 1 : Nat) : Int) - 1) = (m : Int) := by omega
        clear hR hK
        rw [hbn] at hput
        repeat' ((conv => whnf); (first | refine Branch.dt (by omega) ?_ | with_reducible refine Val.to _ hand ?_ | with_reducible refine Val.u8 (by omega) (by omega) ?_ | refine Idx.of m (by omega) (by omega) ?_ | refine ⟨[], _, H, rfl, _, hput, appK_to ?_⟩ | with_reducible refine hshr _ ?_ | with_reducible refine Val.to ((m : Int) - 1) (by rw [wrap_i64 (by omega) (by omega)]; omega) ?_ | exact hnext _ .mk | refine New.mk (fun _ => ?_) | refine Look.at0 ?_ | refine Cell.row ?_ | refine Cell.buf ?_ | refine Cells.row rfl ?_ | refine Put.row rfl ?_ | refine Put.buf rfl ?_ | refine Look.at1 ?_ | refine Look.at2 ?_ | refine Look.at3 ?_ | refine Look.at4 ?_ | refine Look.at5 ?_ | refine Look.at6 ?_ | refine Look.at7 ?_ | refine Look.at8 ?_ | with_reducible refine Val.i64 (by omega) (by omega) ?_ | with_reducible refine Val.u8 (by omega) (by omega) ?_ | with_reducible refine Val.u32 (by omega) (by omega) ?_ | with_reducible refine Val.u64 (by omega) (by omega) ?_ | with_reducible refine Val.u8m ?_ | with_reducible refine Val.u32m ?_ | with_reducible refine Val.u64m ?_ | with_reducible refine Val.shr8 ?_ | with_reducible refine Val.shr16 (by decide) ?_ | with_reducible refine Val.shr24 (by decide) ?_ | with_reducible refine Val.raw ?_ | refine Branch.not ?_ | refine Branch.and ?_ | refine Branch.or ?_ | refine Branch.dt (by assumption) ?_ | refine Branch.df (by assumption) ?_ | refine Branch.dt rfl ?_ | refine Branch.dt (by omega) ?_ | refine Branch.df (by omega) ?_ | refine Branch.t rfl ?_ | refine Branch.f rfl ?_ | refine Branch.t (by assumption) ?_ | refine Branch.f (by assumption) ?_ | refine Branch.d (fun _ => ?_) (fun _ => ?_) | refine Branch.mk (fun _ => ?_) (fun _ => ?_) | refine Need.mk (by first | omega | decide | rfl) ?_ | refine Idx.nat (by omega) ?_ | refine Idx.auto (by first | omega | decide) (by first | omega | decide) ?_ | refine Cell.ro rfl ?_ | refine SDraw.all (by kernel_rfl) ?_ | refine Kept.k0 ?_ | refine Kept.k1 ?_ | refine Kept.k2 ?_ | refine Kept.k3 ?_ | refine Kept.k4 ?_))
    · rw [if_neg (fun h => h64 h.2.1)] at hK
      repeat' ((conv => whnf); (first | refine Branch.df (by omega) ?_ | refine Branch.dt (by omega) ?_ | refine Branch.t rfl ?_ | exact Keep.all hK | refine New.mk (fun _ => ?_) | refine Look.at0 ?_ | refine Cell.row ?_ | refine Cell.buf ?_ | refine Cells.row rfl ?_ | refine Put.row rfl ?_ | refine Put.buf rfl ?_ | refine Look.at1 ?_ | refine Look.at2 ?_ | refine Look.at3 ?_ | refine Look.at4 ?_ | refine Look.at5 ?_ | refine Look.at6 ?_ | refine Look.at7 ?_ | refine Look.at8 ?_ | with_reducible refine Val.i64 (by omega) (by omega) ?_ | with_reducible refine Val.u8 (by omega) (by omega) ?_ | with_reducible refine Val.u32 (by omega) (by omega) ?_ | with_reducible refine Val.u64 (by omega) (by omega) ?_ | with_reducible refine Val.u8m ?_ | with_reducible refine Val.u32m ?_ | with_reducible refine Val.u64m ?_ | with_reducible refine Val.shr8 ?_ | with_reducible refine Val.shr16 (by decide) ?_ | with_reducible refine Val.shr24 (by decide) ?_ | with_reducible refine Val.raw ?_ | refine Branch.not ?_ | refine Branch.and ?_ | refine Branch.or ?_ | refine Branch.dt (by assumption) ?_ | refine Branch.df (by assumption) ?_ | refine Branch.dt rfl ?_ | refine Branch.dt (by omega) ?_ | refine Branch.df (by omega) ?_ | refine Branch.t rfl ?_ | refine Branch.f rfl ?_ | refine Branch.t (by assumption) ?_ | refine Branch.f (by assumption) ?_ | refine Branch.d (fun _ => ?_) (fun _ => ?_) | refine Branch.mk (fun _ => ?_) (fun _ => ?_) | refine Need.mk (by first | omega | decide | rfl) ?_ | refine Idx.nat (by omega) ?_ | refine Idx.auto (by first | omega | decide) (by first | omega | decide) ?_ | refine Cell.ro rfl ?_ | refine SDraw.all (by kernel_rfl) ?_ | refine Kept.k0 ?_ | refine Kept.k1 ?_ | refine Kept.k2 ?_ | refine Kept.k3 ?_ | refine Kept.k4 ?_))
  · rw [if_neg (fun h => h0 h.1)] at hK
    repeat' ((conv => whnf); (first | refine Branch.dt (by omega) ?_ | refine Branch.t rfl ?_ | exact Keep.all hK | refine New.mk (fun _ => ?_) | refine Look.at0 ?_ | refine Cell.row ?_ | refine Cell.buf ?_ | refine Cells.row rfl ?_ | refine Put.row rfl ?_ | refine Put.buf rfl ?_ | refine Look.at1 ?_ | refine Look.at2 ?_ | refine Look.at3 ?_ | refine Look.at4 ?_ | refine Look.at5 ?_ | refine Look.at6 ?_ | refine Look.at7 ?_ | refine Look.at8 ?_ | with_reducible refine Val.i64 (by omega) (by omega) ?_ | with_reducible refine Val.u8 (by omega) (by omega) ?_ | with_reducible refine Val.u32 (by omega) (by omega) ?_ | with_reducible refine Val.u64 (by omega) (by omega) ?_ | with_reducible refine Val.u8m ?_ | with_reducible refine Val.u32m ?_ | with_reducible refine Val.u64m ?_ | with_reducible refine Val.shr8 ?_ | with_reducible refine Val.shr16 (by decide) ?_ | with_reducible refine Val.shr24 (by decide) ?_ | with_reducible refine Val.raw ?_ | refine Branch.not ?_ | refine Branch.and ?_ | refine Branch.or ?_ | refine Branch.dt (by assumption) ?_ | refine Branch.df (by assumption) ?_ | refine Branch.dt rfl ?_ | refine Branch.dt (by omega) ?_ | refine Branch.df (by omega) ?_ | refine Branch.t rfl ?_ | refine Branch.f rfl ?_ | refine Branch.t (by assumption) ?_ | refine Branch.f (by assumption) ?_ | refine Branch.d (fun _ => ?_) (fun _ => ?_) | refine Branch.mk (fun _ => ?_) (fun _ => ?_) | refine Need.mk (by first | omega | decide | rfl) ?_ | refine Idx.nat (by omega) ?_ | refine Idx.auto (by first | omega | decide) (by first | omega | decide) ?_ | refine Cell.ro rfl ?_ | refine SDraw.all (by kernel_rfl) ?_ | refine Kept.k0 ?_ | refine Kept.k1 ?_ | refine Kept.k2 ?_ | refine Kept.k3 ?_ | refine Kept.k4 ?_))
end
end Go.Proofs.YthgpikgbhkcnbaaDoor

/- Sy, part A: an array's end as a slice; a part of a row is cleared. -/
set_option linter.unusedVariables false
set_option linter.unusedSimpArgs false
namespace Go.Proofs.YthgpikgbhkcnbaaDoor.Sx
open Go.RowKit
section
variable {P : Program} {o : Oper} {t e : TypeId} {xx xl xh : Operand} {H : Heap} {K : Value → Heap → Prop} {r o1 n k h : Nat} {i : TypeInfo}
theorem RawV.sliceArrEnd (ho : o.op = .slice t xx (some xl) none none) (ht : P.underlying t = some (.array n e)) (he : ((P.info? e).map fun j => Nat.beq j.size 1) = some true)
    (hK : K (.slice (some ⟨r, o1, none⟩) 0 0) H) : RawV P o [.pointer (some ⟨r, o1, none⟩), .int .i64 (n : Int)] H K := by
  refine ⟨fun ρ w hmm hw => .inl ?_⟩
  rw [ho] at hmm
  have hmm : [ρ xx, ρ xl] = [.pointer (some ⟨r, o1, none⟩), .int .i64 (n : Int)] := hmm
  injection hmm with e1 hmm
  injection hmm with e2 hmm
  have hex : execOp ρ o = (Instr.sliceAt t (.pointer (some ⟨r, o1, none⟩)) (some (.int .i64 (n : Int))) none none >>= fun v => pure (.value v)) := by simp only [execOp, ho, e1, e2, Option.map]
  obtain ⟨j, hj, hj1⟩ := Option.map_eq_some_iff.1 he
  have hj1 : j.size = 1 := Nat.eq_of_beq_eq_true hj1
  have hr : (Instr.sliceAt t (.pointer (some ⟨r, o1, none⟩)) (some (.int .i64 (n : Int))) none none).run P w = .ok (.slice (some ⟨r, o1, none⟩) 0 0) w := by
    simp [Instr.sliceAt, run_underlying ht, Instr.sureAddr, Instr.sliceBounds, run_sliceBound, sizeOf, typeInfo, hj, hj1, addr_add]
  exact ⟨_, _, _, .inl (by rw [hex, Sem.run_bind, hr]; rfl), hw, Step.refl _ _, hK⟩
/-- Elements of one cell each, anywhere in a row, are cleared. -/
theorem RawV.clearRow {T : TypeId} {x : Operand} {A B : Heap} {c o' bytes : Nat} {cs : List Value} {zv : Value} (ho : o.op = .call { callee := .builtin .clear, args := #[x], argTypes := #[t] })
    (ht : tyOk P t e 1 bytes = true) (hz : (P.info? e).bind (·.zero) = some zv) (hc : zv.cells = #[zv]) (h1 : zv.oneCell' = true) (hl : o' + n ≤ cs.length)
    (h : K (.tuple ⟨[]⟩) (A ++ (r, .row T (cs.take o' ++ List.replicate n zv ++ cs.drop (o' + n)) (0, 0)) :: B)) :
    RawV P o [.slice (some ⟨r, o', none⟩) n c] (A ++ (r, .row T cs (0, 0)) :: B) K := by
  obtain ⟨h3, i, z, h4, h5, h6, h7, rfl⟩ := tyOk_spec ht
  rw [h4] at hz
  have hzz : z = zv := by
    have : i.zero = some zv := hz
    rw [h5] at this
    injection this
  subst hzz
  refine ⟨fun ρ w hm hw => .inl ?_⟩
  have hm' : [ρ x] = [.slice (some ⟨r, o', none⟩) n c] := by
    rw [ho] at hm
    exact hm
  have e1 : ρ x = .slice (some ⟨r, o', none⟩) n c := by injection hm'
  have hex : execOp ρ o = (Builtin.clear_ #[t] o.type #[.slice (some ⟨r, o', none⟩) n c] >>= fun v => pure (.value v)) := by
    simp only [execOp, ho, resolve, invoke, builtin, List.map_toArray, List.map_cons, List.map_nil, e1]
    rfl
  rw [hex]
  rcases Nat.eq_zero_or_pos n with rfl | hn
  · have hr : (Builtin.clear_ #[t] o.type #[.slice (some ⟨r, o', none⟩) 0 c]).run P w = .ok (.tuple #[]) w := by
      simp [Builtin.clear_, run_underlying h3]
    simp only [Nat.add_zero, List.replicate_zero, List.append_nil, List.take_append_drop] at h
    exact ⟨_, w, _, .inl (by rw [Sem.run_bind, hr]; rfl), hw, Step.refl _ _, h⟩
  · have hg : w.heap[r]? = some (.cells cs.toArray T (0, 0)) := hw.mid
    have hzc : Builtin.zeroCells z.cells n = (List.replicate n z).toArray := by
      have h0 : Builtin.zeroCells z.cells n = (zerosOf z.cells.toList (n * z.cells.size)).toArray := zerosOf_spec z.cells (n * z.cells.size) (fun _ => by rw [h6, h7]; omega)
      rw [h0, hc]
      congr 1
      refine List.eq_replicate_iff.2 ⟨by simp [zerosOf], fun u hu => ?_⟩
      simp only [zerosOf, List.mem_map] at hu
      obtain ⟨j, _, rfl⟩ := hu
      show ([z].getD (j % 1) undef) = z
      rw [Nat.mod_one]; rfl
    have hst := run_storeCells_fz P r o' T (0, 0) (List.replicate n z) 0 _ w hg (by simp; omega) (.inl rfl) (fun u hu => by rw [List.eq_of_mem_replicate hu]; exact h1)
    have hr : (Builtin.clear_ #[t] o.type #[.slice (some ⟨r, o', none⟩) n c]).run P w = .ok (.tuple #[]) (w.setRow r (cs.toArray.toList.take (o' + 0) ++ List.replicate n z ++ cs.toArray.toList.drop (o' + 0 + (List.replicate n z).length)).toArray) := by
      have hn0 : n ≠ 0 := by omega
      obtain ⟨m, rfl⟩ : ∃ m, n = m + 1 := ⟨n - 1, by omega⟩
      simp only [Builtin.clear_]
      simp [run_underlying h3, zeroValue, typeInfo, h4, h5, hzc, hst]
    have hcur : cs.toArray.toList.take (o' + 0) ++ List.replicate n z ++ cs.toArray.toList.drop (o' + 0 + (List.replicate n z).length) = cs.take o' ++ List.replicate n z ++ cs.drop (o' + n) := by simp
    rw [hcur] at hr
    have hput := hw.put (w' := w.setRow r (cs.take o' ++ List.replicate n z ++ cs.drop (o' + n)).toArray) (b' := .row T (cs.take o' ++ List.replicate n z ++ cs.drop (o' + n)) (0, 0)) rfl rfl (by simp) rfl rfl rfl (fun k hk => setRow_other w r k _ hk)
      (setRow_heap w r _ _ T (0, 0) hg)
    exact ⟨_, _, _, .inl (by rw [Sem.run_bind, hr]; rfl), hput.1, hput.2, h⟩
end
end Go.Proofs.YthgpikgbhkcnbaaDoor.Sx

/- Heaps in lists: what the steps of container/heap keep. Plain law, with no program in sight. -/
set_option linter.unusedVariables false
set_option linter.unusedSimpArgs false
namespace Go.Proofs.YthgpikgbhkcnbaaDoor.Hp
/-- A strict order of what may be alike. -/
structure Ord {α : Type} (lt : α → α → Bool) : Prop where
  asym : ∀ a b, lt a b = true → lt b a = false
  nt : ∀ a b c, lt b a = false → lt c b = false → lt c a = false
variable {α : Type} {lt : α → α → Bool} {l : List α} {n i j : Nat}
/-- The first n are a heap; but for what stands at j (toward its parent); but for what stands at i (either way). -/
def HeapN (lt : α → α → Bool) (l : List α) (n : Nat) : Prop := ∀ k x y, 0 < k → k < n → l[k]? = some x → l[(k - 1) / 2]? = some y → lt x y = false
structure UpI (lt : α → α → Bool) (l : List α) (j n : Nat) : Prop where
  one : ∀ k x y, 0 < k → k < n → k ≠ j → l[k]? = some x → l[(k - 1) / 2]? = some y → lt x y = false
  two : ∀ k x y, 0 < k → k < n → (k - 1) / 2 = j → 0 < j → l[k]? = some x → l[(j - 1) / 2]? = some y → lt x y = false
structure BothI (lt : α → α → Bool) (l : List α) (i n : Nat) : Prop where
  one : ∀ k x y, 0 < k → k < n → k ≠ i → (k - 1) / 2 ≠ i → l[k]? = some x → l[(k - 1) / 2]? = some y → lt x y = false
  two : ∀ k x y, 0 < k → k < n → (k - 1) / 2 = i → 0 < i → l[k]? = some x → l[(i - 1) / 2]? = some y → lt x y = false
structure DownI (lt : α → α → Bool) (l : List α) (i n : Nat) : Prop where
  one : ∀ k x y, 0 < k → k < n → (k - 1) / 2 ≠ i → l[k]? = some x → l[(k - 1) / 2]? = some y → lt x y = false
  two : ∀ k x y, 0 < k → k < n → (k - 1) / 2 = i → 0 < i → l[k]? = some x → l[(i - 1) / 2]? = some y → lt x y = false
theorem DownI.both (h : DownI lt l i n) : BothI lt l i n := ⟨fun k x y h1 h2 _ h4 h5 h6 => h.one k x y h1 h2 h4 h5 h6, h.two⟩
/-- Two places are changed about. -/
def sw (l : List α) (i j : Nat) (x y : α) : List α := (l.set i x).set j y
theorem sw_len {x y : α} : (sw l i j x y).length = l.length := by simp [sw]
theorem sw_at {x y : α} (hi : i < l.length) (hj : j < l.length) (k : Nat) : (sw l i j x y)[k]? = if k = j then some y else if k = i then some x else l[k]? := by
  unfold sw
  rw [List.getElem?_set, List.getElem?_set]
  by_cases h1 : j = k
  · subst h1
    rw [if_pos rfl, if_pos rfl, List.length_set, if_pos hj]
  · rw [if_neg h1, if_neg (Ne.symm h1)]
    by_cases h2 : i = k
    · subst h2
      rw [if_pos rfl, if_pos rfl, if_pos hi]
    · rw [if_neg h2, if_neg (Ne.symm h2)]
theorem sw_perm {x y : α} (hi : l[i]? = some y) (hj : l[j]? = some x) : (sw l i j x y).Perm l := by
  obtain ⟨h1, rfl⟩ := List.getElem?_eq_some_iff.1 hi
  obtain ⟨h2, rfl⟩ := List.getElem?_eq_some_iff.1 hj
  exact List.set_set_perm h1 h2
theorem at_lt {x : α} {k : Nat} (h : l[k]? = some x) : k < l.length := (List.getElem?_eq_some_iff.1 h).1
theorem UpI.done (h : UpI lt l j n) (hd : j = 0 ∨ ∃ x y, l[j]? = some x ∧ l[(j - 1) / 2]? = some y ∧ lt x y = false) : HeapN lt l n := by
  intro k x y h1 h2 h3 h4
  by_cases hk : k = j
  · subst hk
    rcases hd with hd | ⟨x', y', e1, e2, e3⟩
    · omega
    · rw [h3] at e1
      rw [h4] at e2
      injection e1 with e1
      injection e2 with e2
      rw [e1, e2]; exact e3
  · exact h.one k x y h1 h2 hk h3 h4
theorem UpI.step (O : Ord lt) {x y : α} (h : UpI lt l j n) (hj0 : 0 < j) (hjn : j < n) (hj : l[j]? = some x) (hi : l[(j - 1) / 2]? = some y) (hlt : lt x y = true) : UpI lt (sw l ((j - 1) / 2) j x y) ((j - 1) / 2) n := by
  have g := sw_at (x := x) (y := y) (at_lt hi) (at_lt hj)
  have hij : (j - 1) / 2 < j := by omega
  refine ⟨fun k a b h1 h2 h3 h4 h5 => ?_, fun k a b h1 h2 h3 h4 h5 h6 => ?_⟩
  · rw [g] at h4 h5
    by_cases hk : k = j
    · subst hk
      rw [if_pos rfl] at h4
      rw [if_neg (by omega), if_pos rfl] at h5
      injection h4 with h4
      injection h5 with h5
      subst h4 h5
      exact O.asym _ _ hlt
    · rw [if_neg hk, if_neg h3] at h4
      by_cases hp : (k - 1) / 2 = j
      · rw [if_pos hp] at h5
        injection h5 with h5
        subst h5
        exact h.two k a y h1 h2 hp hj0 h4 hi
      · rw [if_neg hp] at h5
        by_cases hp2 : (k - 1) / 2 = (j - 1) / 2
        · rw [if_pos hp2] at h5
          injection h5 with h5
          subst h5
          exact O.nt x y a (O.asym _ _ hlt) (h.one k a y h1 h2 hk h4 (by rw [hp2]; exact hi))
        · rw [if_neg hp2] at h5
          exact h.one k a b h1 h2 hk h4 h5
  · rw [g] at h5 h6
    rw [if_neg (by omega), if_neg (by omega)] at h6
    by_cases hk : k = j
    · subst hk
      rw [if_pos rfl] at h5
      injection h5 with h5
      subst h5
      exact h.one ((k - 1) / 2) y b h4 (by omega) (by omega) hi h6
    · rw [if_neg hk, if_neg (by omega)] at h5
      exact O.nt b y a (h.one ((j - 1) / 2) y b h4 (by omega) (by omega) hi h6) (h.one k a y h1 h2 hk h5 (by rw [h3]; exact hi))
theorem DownI.done (h : DownI lt l i n) (hd : ∀ k x y, 0 < k → k < n → (k - 1) / 2 = i → l[k]? = some x → l[i]? = some y → lt x y = false) : HeapN lt l n := by
  intro k x y h1 h2 h3 h4
  by_cases hk : (k - 1) / 2 = i
  · exact hd k x y h1 h2 hk h3 (by rw [← hk]; exact h4)
  · exact h.one k x y h1 h2 hk h3 h4
theorem BothI.stay (h : BothI lt l i n) (hd : ∀ k x y, 0 < k → k < n → (k - 1) / 2 = i → l[k]? = some x → l[i]? = some y → lt x y = false) : UpI lt l i n := by
  refine ⟨fun k x y h1 h2 h3 h4 h5 => ?_, fun k x y h1 h2 h3 h4 h5 h6 => h.two k x y h1 h2 h3 h4 h5 h6⟩
  by_cases hk : (k - 1) / 2 = i
  · exact hd k x y h1 h2 hk h4 (by rw [← hk]; exact h5)
  · exact h.one k x y h1 h2 h3 hk h4 h5
theorem BothI.step (O : Ord lt) {x y : α} (h : BothI lt l i n) (hji : (j - 1) / 2 = i) (hj0 : 0 < j) (hjn : j < n) (hj : l[j]? = some x) (hi : l[i]? = some y) (hlt : lt x y = true)
    (hmin : ∀ k a, 0 < k → k < n → (k - 1) / 2 = i → l[k]? = some a → lt a x = false) : DownI lt (sw l i j x y) j n := by
  have g := sw_at (x := x) (y := y) (at_lt hi) (at_lt hj)
  have hij : i < j := by omega
  refine ⟨fun k a b h1 h2 h3 h4 h5 => ?_, fun k a b h1 h2 h3 h4 h5 h6 => ?_⟩
  · rw [g] at h4 h5
    rw [if_neg h3] at h5
    by_cases hk : k = j
    · subst hk
      rw [if_pos rfl] at h4
      rw [if_pos hji] at h5
      injection h4 with h4
      injection h5 with h5
      subst h4 h5
      exact O.asym _ _ hlt
    · rw [if_neg hk] at h4
      by_cases hki : k = i
      · subst hki
        rw [if_pos rfl] at h4
        rw [if_neg (by omega)] at h5
        injection h4 with h4
        subst h4
        exact h.two j x b hj0 hjn hji h1 hj h5
      · rw [if_neg hki] at h4
        by_cases hp : (k - 1) / 2 = i
        · rw [if_pos hp] at h5
          injection h5 with h5
          subst h5
          exact hmin k a h1 h2 hp h4
        · rw [if_neg hp] at h5
          exact h.one k a b h1 h2 hki hp h4 h5
  · rw [g] at h5 h6
    rw [if_neg (by omega), if_neg (by omega)] at h5
    rw [if_neg (by omega), if_pos hji] at h6
    injection h6 with h6
    subst h6
    exact h.one k a x h1 h2 (by omega) (by omega) h5 (by rw [h3]; exact hj)
/-- The first is the least. -/
theorem HeapN.min (O : Ord lt) (h : HeapN lt l n) (hn : n ≤ l.length) {m : α} (h0 : l[0]? = some m) (hmm : lt m m = false) : ∀ (k : Nat) (x : α), k < n → l[k]? = some x → lt x m = false := by
  intro k
  induction k using Nat.strongRecOn with
  | _ k ih =>
    intro x hk hx
    rcases Nat.eq_zero_or_pos k with rfl | hk0
    · rw [h0] at hx
      injection hx with hx
      subst hx; exact hmm
    · have hp : (k - 1) / 2 < l.length := by omega
      have hy := List.getElem?_eq_getElem hp
      exact O.nt _ _ _ (ih _ (by omega) _ (by omega) hy) (h k x _ hk0 hk hx hy)
theorem HeapN.push (h : HeapN lt l l.length) (x : α) : UpI lt (l ++ [x]) l.length (l.length + 1) := by
  refine ⟨fun k a b h1 h2 h3 h4 h5 => ?_, fun k a b h1 h2 h3 h4 h5 h6 => by omega⟩
  rw [List.getElem?_append_left (by omega)] at h4 h5
  exact h k a b h1 (by omega) h4 h5
theorem HeapN.pop {x y : α} (h : HeapN lt l (n + 1)) (h0 : l[0]? = some y) (hn : l[n]? = some x) : BothI lt (sw l 0 n x y) 0 n := by
  have g := sw_at (x := x) (y := y) (at_lt h0) (at_lt hn)
  refine ⟨fun k a b h1 h2 h3 h4 h5 h6 => ?_, fun k a b h1 h2 h3 h4 h5 h6 => by omega⟩
  rw [g, if_neg (by omega), if_neg (by omega)] at h5 h6
  exact h k a b h1 (by omega) h5 h6
theorem HeapN.remove (O : Ord lt) {x y : α} (h : HeapN lt l (n + 1)) (hin : i < n) (h0 : l[i]? = some y) (hn : l[n]? = some x) : BothI lt (sw l i n x y) i n := by
  have g := sw_at (x := x) (y := y) (at_lt h0) (at_lt hn)
  refine ⟨fun k a b h1 h2 h3 h4 h5 h6 => ?_, fun k a b h1 h2 h3 h4 h5 h6 => ?_⟩
  · rw [g, if_neg (by omega), if_neg (by omega)] at h5 h6
    exact h k a b h1 (by omega) h5 h6
  · rw [g, if_neg (by omega), if_neg (by omega)] at h5 h6
    exact O.nt b y a (h i y b h4 (by omega) h0 h6) (h k a y h1 (by omega) h5 (by rw [h3]; exact h0))
theorem HeapN.cut (h : HeapN lt l n) : HeapN lt (l.take n) n := by
  intro k x y h1 h2 h3 h4
  rw [List.getElem?_take_of_lt h2] at h3
  rw [List.getElem?_take_of_lt (by omega)] at h4
  exact h k x y h1 h2 h3 h4
/-- Texts in their order. -/
theorem bl_irr : ∀ a : List UInt8, Op.bytesLess a a = false
  | [] => rfl
  | x :: a => by
    unfold Op.bytesLess
    rw [bl_irr a]
    simp
theorem bl_tri : ∀ a b : List UInt8, Op.bytesLess a b = false → Op.bytesLess b a = false → a = b
  | [], [], _, _ => rfl
  | [], _ :: _, h, _ => by simp [Op.bytesLess] at h
  | _ :: _, [], _, h => by simp [Op.bytesLess] at h
  | x :: a, y :: b, h1, h2 => by
    unfold Op.bytesLess at h1 h2
    simp only [Bool.or_eq_false_iff, Bool.and_eq_false_iff, decide_eq_false_iff_not, beq_eq_false_iff_ne, ne_eq] at h1 h2
    have hxy : x = y := by
      have h3 := h1.1
      have h4 := h2.1
      rw [UInt8.lt_iff_toNat_lt] at h3 h4
      exact UInt8.toNat_inj.1 (by omega)
    subst hxy
    have h5 : Op.bytesLess a b = false := by rcases h1.2 with h | h; exact absurd rfl h; exact h
    have h6 : Op.bytesLess b a = false := by rcases h2.2 with h | h; exact absurd rfl h; exact h
    rw [bl_tri a b h5 h6]
theorem bl_trans : ∀ a b c : List UInt8, Op.bytesLess a b = true → Op.bytesLess b c = true → Op.bytesLess a c = true
  | _, _, [], _, h => by simp [Op.bytesLess] at h
  | _, [], _ :: _, h, _ => by simp [Op.bytesLess] at h
  | [], _ :: _, _ :: _, _, _ => rfl
  | x :: a, y :: b, z :: c, h1, h2 => by
    unfold Op.bytesLess at h1 h2 ⊢
    simp only [Bool.or_eq_true, Bool.and_eq_true, decide_eq_true_eq, beq_iff_eq] at h1 h2 ⊢
    rw [UInt8.lt_iff_toNat_lt] at h1 h2 ⊢
    rcases h1 with h1 | ⟨rfl, h1⟩
    · rcases h2 with h2 | ⟨rfl, h2⟩
      · exact .inl (by omega)
      · exact .inl h1
    · rcases h2 with h2 | ⟨rfl, h2⟩
      · exact .inl h2
      · exact .inr ⟨rfl, bl_trans a b c h1 h2⟩
theorem bl_asym {a b : List UInt8} (h : Op.bytesLess a b = true) : Op.bytesLess b a = false := by
  cases hb : Op.bytesLess b a with
  | false => rfl
  | true =>
    have := bl_trans a b a h hb
    rw [bl_irr] at this
    cases this
/-- By a text, and by a number where the texts are alike. -/
def klt (a b : List UInt8 × Int) : Bool := Op.bytesLess a.1 b.1 || (decide (a.1 = b.1) && decide (a.2 < b.2))
theorem klt_ord : Ord klt := by
  refine ⟨fun a b h => ?_, fun a b c h1 h2 => ?_⟩
  · unfold klt at h ⊢
    simp only [Bool.or_eq_true, Bool.and_eq_true, decide_eq_true_eq] at h
    rcases h with h | ⟨h, h3⟩
    · have : ¬ b.1 = a.1 := fun e => by rw [e, bl_irr] at h; cases h
      rw [bl_asym h, decide_eq_false this]; rfl
    · rw [h, bl_irr, decide_eq_false (show ¬ b.2 < a.2 by omega)]; simp
  · unfold klt at h1 h2 ⊢
    simp only [Bool.or_eq_false_iff, Bool.and_eq_false_iff, decide_eq_false_iff_not] at h1 h2 ⊢
    obtain ⟨h1, h3⟩ := h1
    obtain ⟨h2, h4⟩ := h2
    have hca : Op.bytesLess c.1 a.1 = false := by
      cases hb : Op.bytesLess c.1 a.1 with
      | false => rfl
      | true =>
        cases hab : Op.bytesLess a.1 b.1 with
        | true => rw [bl_trans _ _ _ hb hab] at h2; cases h2
        | false => rw [bl_tri _ _ hab h1] at hb; rw [hb] at h2; cases h2
    refine ⟨hca, ?_⟩
    by_cases he : c.1 = a.1
    · refine .inr ?_
      have hab : a.1 = b.1 := by
        rw [he] at h2
        exact bl_tri _ _ h2 h1
      rcases h3 with h3 | h3
      · exact absurd hab.symm h3
      · rcases h4 with h4 | h4
        · exact absurd (he.trans hab) h4
        · omega
    · exact .inl he
theorem klt_irr (a : List UInt8 × Int) : klt a a = false := by
  unfold klt
  rw [bl_irr]
  simp
theorem klt_tri {a b : List UInt8 × Int} (h1 : klt a b = false) (h2 : klt b a = false) : a = b := by
  unfold klt at h1 h2
  simp only [Bool.or_eq_false_iff, Bool.and_eq_false_iff, decide_eq_false_iff_not] at h1 h2
  have e := bl_tri _ _ h1.1 h2.1
  refine Prod.ext e ?_
  rcases h1.2 with h | h
  · exact absurd e h
  · rcases h2.2 with h' | h'
    · exact absurd e.symm h'
    · omega
end Go.Proofs.YthgpikgbhkcnbaaDoor.Hp

/- Layer 2, in layer 5: frames: whether one can be, its bytes, it without what plays no part: by walks. -/
set_option linter.unusedVariables false
set_option linter.unusedSimpArgs false
set_option maxRecDepth 100000
set_option maxHeartbeats 4000000
namespace Go.Proofs.YthgpikgbhkcnbaaDoor
open Sx
/-- A frame. -/
structure Fm where
  (id : Nat) (x r : Bool) (n : Int) (d0 d1 d2 d3 d4 d5 d6 d7 : UInt8)
  deriving DecidableEq
abbrev b8 (b : UInt8) : Value := .int .u8 (b.toNat : Int)
abbrev frC (f : Fm) : List Value := [.int .u32 (f.id : Int), .bool f.x, .bool f.r, .int .i64 f.n, b8 f.d0, b8 f.d1, b8 f.d2, b8 f.d3, b8 f.d4, b8 f.d5, b8 f.d6, b8 f.d7]
abbrev frV (f : Fm) : Value := .agg ⟨frC f⟩
/-- What a frame's cells are at all. -/
def Fm.wf (f : Fm) : Prop := f.id < 4294967296 ∧ -9223372036854775808 ≤ f.n ∧ f.n ≤ 9223372036854775807
/-- Whether it can be. -/
def okF (f : Fm) : Bool := decide (0 ≤ f.n) && decide (f.n ≤ 15) && decide (f.id < if f.x then 536870912 else 2048)
def erF (f : Fm) : Int := if okF f then 0 else 1
/-- How many bytes it has. -/
def nb (f : Fm) : Nat := if f.r then 0 else min f.n.toNat 8
/-- The bytes from m to k are none. -/
def zs (f : Fm) (m k : Nat) : Fm := ⟨f.id, f.x, f.r, f.n, if m ≤ 0 ∧ 0 < k then 0 else f.d0, if m ≤ 1 ∧ 1 < k then 0 else f.d1, if m ≤ 2 ∧ 2 < k then 0 else f.d2, if m ≤ 3 ∧ 3 < k then 0 else f.d3,
  if m ≤ 4 ∧ 4 < k then 0 else f.d4, if m ≤ 5 ∧ 5 < k then 0 else f.d5, if m ≤ 6 ∧ 6 < k then 0 else f.d6, if m ≤ 7 ∧ 7 < k then 0 else f.d7⟩
def plF (f : Fm) : Fm := zs f (nb f) 8
theorem nb_le (f : Fm) : nb f ≤ 8 := by unfold nb; split <;> omega
section
variable {K : Value → Heap → Prop} {H : Heap}
theorem c26 {f : Fm} (hid : f.id < 4294967296) (hK : K (.int .i64 (erF f)) H) : SCalls Tryd.prog 26 [frV f] H K := by
  obtain ⟨id, x, rm, n, d0, d1, d2, d3, d4, d5, d6, d7⟩ := f
  unfold erF okF at hK
  dsimp only at hid hK
  dsimp only [frV, frC]
  refine enter26 ?_
  have h11 : shrI .u32 (id : Int) 11 = ((id / 2 ^ 11 : Nat) : Int) := shr_nat (k := .u32) (n := 11) (by decide)
  have h29 : shrI .u32 (id : Int) 29 = ((id / 2 ^ 29 : Nat) : Int) := shr_nat (k := .u32) (n := 29) (by decide)
  cases x with
  | true =>
    rw [show (if true = true then 536870912 else 2048) = 536870912 from rfl] at hK
    by_cases h1 : id < 536870912
    · rw [Nat.div_eq_of_lt (show id < 2 ^ 29 by omega)] at h29
      by_cases h2 : 0 ≤ n
      · by_cases h3 : n ≤ 15
        · rw [decide_eq_true h1, decide_eq_true h2, decide_eq_true h3] at hK
          repeat' ((conv => whnf); (first | with_reducible refine Val.to _ h29 ?_ | refine Branch.df (by omega) ?_ | refine Branch.dt (by omega) ?_ | refine Branch.f rfl ?_ | exact Keep.d1 hK | refine New.mk (fun _ => ?_) | refine Look.at0 ?_ | refine Cell.row ?_ | refine Cell.buf ?_ | refine Cells.row rfl ?_ | refine Put.row rfl ?_ | refine Put.buf rfl ?_ | refine Look.at1 ?_ | refine Look.at2 ?_ | refine Look.at3 ?_ | refine Look.at4 ?_ | refine Look.at5 ?_ | refine Look.at6 ?_ | refine Look.at7 ?_ | refine Look.at8 ?_ | with_reducible refine Val.i64 (by omega) (by omega) ?_ | with_reducible refine Val.u8 (by omega) (by omega) ?_ | with_reducible refine Val.u32 (by omega) (by omega) ?_ | with_reducible refine Val.u64 (by omega) (by omega) ?_ | with_reducible refine Val.u8m ?_ | with_reducible refine Val.u32m ?_ | with_reducible refine Val.u64m ?_ | with_reducible refine Val.shr8 ?_ | with_reducible refine Val.shr16 (by decide) ?_ | with_reducible refine Val.shr24 (by decide) ?_ | with_reducible refine Val.raw ?_ | refine Branch.not ?_ | refine Branch.and ?_ | refine Branch.or ?_ | refine Branch.dt (by assumption) ?_ | refine Branch.df (by assumption) ?_ | refine Branch.dt rfl ?_ | refine Branch.dt (by omega) ?_ | refine Branch.df (by omega) ?_ | refine Branch.t rfl ?_ | refine Branch.f rfl ?_ | refine Branch.t (by assumption) ?_ | refine Branch.f (by assumption) ?_ | refine Branch.d (fun _ => ?_) (fun _ => ?_) | refine Branch.mk (fun _ => ?_) (fun _ => ?_) | refine Need.mk (by first | omega | decide | rfl) ?_ | refine Idx.nat (by omega) ?_ | refine Idx.auto (by first | omega | decide) (by first | omega | decide) ?_ | refine Cell.ro rfl ?_ | refine SDraw.all (by kernel_rfl) ?_ | refine Kept.k0 ?_ | refine Kept.k1 ?_ | refine Kept.k2 ?_ | refine Kept.k3 ?_ | refine Kept.k4 ?_))
        · rw [decide_eq_false h3, Bool.and_false, Bool.false_and] at hK
          repeat' ((conv => whnf); (first | with_reducible refine Val.to _ h29 ?_ | refine Branch.df (by omega) ?_ | refine Branch.dt (by omega) ?_ | refine Branch.f rfl ?_ | exact Keep.d1 hK | refine New.mk (fun _ => ?_) | refine Look.at0 ?_ | refine Cell.row ?_ | refine Cell.buf ?_ | refine Cells.row rfl ?_ | refine Put.row rfl ?_ | refine Put.buf rfl ?_ | refine Look.at1 ?_ | refine Look.at2 ?_ | refine Look.at3 ?_ | refine Look.at4 ?_ | refine Look.at5 ?_ | refine Look.at6 ?_ | refine Look.at7 ?_ | refine Look.at8 ?_ | with_reducible refine Val.i64 (by omega) (by omega) ?_ | with_reducible refine Val.u8 (by omega) (by omega) ?_ | with_reducible refine Val.u32 (by omega) (by omega) ?_ | with_reducible refine Val.u64 (by omega) (by omega) ?_ | with_reducible refine Val.u8m ?_ | with_reducible refine Val.u32m ?_ | with_reducible refine Val.u64m ?_ | with_reducible refine Val.shr8 ?_ | with_reducible refine Val.shr16 (by decide) ?_ | with_reducible refine Val.shr24 (by decide) ?_ | with_reducible refine Val.raw ?_ | refine Branch.not ?_ | refine Branch.and ?_ | refine Branch.or ?_ | refine Branch.dt (by assumption) ?_ | refine Branch.df (by assumption) ?_ | refine Branch.dt rfl ?_ | refine Branch.dt (by omega) ?_ | refine Branch.df (by omega) ?_ | refine Branch.t rfl ?_ | refine Branch.f rfl ?_ | refine Branch.t (by assumption) ?_ | refine Branch.f (by assumption) ?_ | refine Branch.d (fun _ => ?_) (fun _ => ?_) | refine Branch.mk (fun _ => ?_) (fun _ => ?_) | refine Need.mk (by first | omega | decide | rfl) ?_ | refine Idx.nat (by omega) ?_ | refine Idx.auto (by first | omega | decide) (by first | omega | decide) ?_ | refine Cell.ro rfl ?_ | refine SDraw.all (by kernel_rfl) ?_ | refine Kept.k0 ?_ | refine Kept.k1 ?_ | refine Kept.k2 ?_ | refine Kept.k3 ?_ | refine Kept.k4 ?_))
      · rw [decide_eq_false h2, Bool.false_and, Bool.false_and] at hK
        repeat' ((conv => whnf); (first | with_reducible refine Val.to _ h29 ?_ | refine Branch.df (by omega) ?_ | refine Branch.dt (by omega) ?_ | refine Branch.f rfl ?_ | exact Keep.d1 hK | refine New.mk (fun _ => ?_) | refine Look.at0 ?_ | refine Cell.row ?_ | refine Cell.buf ?_ | refine Cells.row rfl ?_ | refine Put.row rfl ?_ | refine Put.buf rfl ?_ | refine Look.at1 ?_ | refine Look.at2 ?_ | refine Look.at3 ?_ | refine Look.at4 ?_ | refine Look.at5 ?_ | refine Look.at6 ?_ | refine Look.at7 ?_ | refine Look.at8 ?_ | with_reducible refine Val.i64 (by omega) (by omega) ?_ | with_reducible refine Val.u8 (by omega) (by omega) ?_ | with_reducible refine Val.u32 (by omega) (by omega) ?_ | with_reducible refine Val.u64 (by omega) (by omega) ?_ | with_reducible refine Val.u8m ?_ | with_reducible refine Val.u32m ?_ | with_reducible refine Val.u64m ?_ | with_reducible refine Val.shr8 ?_ | with_reducible refine Val.shr16 (by decide) ?_ | with_reducible refine Val.shr24 (by decide) ?_ | with_reducible refine Val.raw ?_ | refine Branch.not ?_ | refine Branch.and ?_ | refine Branch.or ?_ | refine Branch.dt (by assumption) ?_ | refine Branch.df (by assumption) ?_ | refine Branch.dt rfl ?_ | refine Branch.dt (by omega) ?_ | refine Branch.df (by omega) ?_ | refine Branch.t rfl ?_ | refine Branch.f rfl ?_ | refine Branch.t (by assumption) ?_ | refine Branch.f (by assumption) ?_ | refine Branch.d (fun _ => ?_) (fun _ => ?_) | refine Branch.mk (fun _ => ?_) (fun _ => ?_) | refine Need.mk (by first | omega | decide | rfl) ?_ | refine Idx.nat (by omega) ?_ | refine Idx.auto (by first | omega | decide) (by first | omega | decide) ?_ | refine Cell.ro rfl ?_ | refine SDraw.all (by kernel_rfl) ?_ | refine Kept.k0 ?_ | refine Kept.k1 ?_ | refine Kept.k2 ?_ | refine Kept.k3 ?_ | refine Kept.k4 ?_))
    · rw [decide_eq_false h1, Bool.and_false] at hK
      have hz : ¬ ((id / 2 ^ 29 : Nat) : Int) = 0 := by omega
      have h29' : shrI .u32 (id : Int) (11 + 18) = ((id / 2 ^ 29 : Nat) : Int) := h29
      repeat' ((conv => whnf); (first | refine Branch.df (by rw [h29']; exact hz) ?_ | exact Keep.d1 hK | refine New.mk (fun _ => ?_) | refine Look.at0 ?_ | refine Cell.row ?_ | refine Cell.buf ?_ | refine Cells.row rfl ?_ | refine Put.row rfl ?_ | refine Put.buf rfl ?_ | refine Look.at1 ?_ | refine Look.at2 ?_ | refine Look.at3 ?_ | refine Look.at4 ?_ | refine Look.at5 ?_ | refine Look.at6 ?_ | refine Look.at7 ?_ | refine Look.at8 ?_ | with_reducible refine Val.i64 (by omega) (by omega) ?_ | with_reducible refine Val.u8 (by omega) (by omega) ?_ | with_reducible refine Val.u32 (by omega) (by omega) ?_ | with_reducible refine Val.u64 (by omega) (by omega) ?_ | with_reducible refine Val.u8m ?_ | with_reducible refine Val.u32m ?_ | with_reducible refine Val.u64m ?_ | with_reducible refine Val.shr8 ?_ | with_reducible refine Val.shr16 (by decide) ?_ | with_reducible refine Val.shr24 (by decide) ?_ | with_reducible refine Val.raw ?_ | refine Branch.not ?_ | refine Branch.and ?_ | refine Branch.or ?_ | refine Branch.dt (by assumption) ?_ | refine Branch.df (by assumption) ?_ | refine Branch.dt rfl ?_ | refine Branch.dt (by omega) ?_ | refine Branch.df (by omega) ?_ | refine Branch.t rfl ?_ | refine Branch.f rfl ?_ | refine Branch.t (by assumption) ?_ | refine Branch.f (by assumption) ?_ | refine Branch.d (fun _ => ?_) (fun _ => ?_) | refine Branch.mk (fun _ => ?_) (fun _ => ?_) | refine Need.mk (by first | omega | decide | rfl) ?_ | refine Idx.nat (by omega) ?_ | refine Idx.auto (by first | omega | decide) (by first | omega | decide) ?_ | refine Cell.ro rfl ?_ | refine SDraw.all (by kernel_rfl) ?_ | refine Kept.k0 ?_ | refine Kept.k1 ?_ | refine Kept.k2 ?_ | refine Kept.k3 ?_ | refine Kept.k4 ?_))
  | false =>
    rw [show (if false = true then 536870912 else 2048) = 2048 from rfl] at hK
    by_cases h1 : id < 2048
    · rw [Nat.div_eq_of_lt (show id < 2 ^ 11 by omega)] at h11
      by_cases h2 : 0 ≤ n
      · by_cases h3 : n ≤ 15
        · rw [decide_eq_true h1, decide_eq_true h2, decide_eq_true h3] at hK
          repeat' ((conv => whnf); (first | with_reducible refine Val.to _ h11 ?_ | refine Branch.df (by omega) ?_ | refine Branch.dt (by omega) ?_ | refine Branch.f rfl ?_ | exact Keep.d1 hK | refine New.mk (fun _ => ?_) | refine Look.at0 ?_ | refine Cell.row ?_ | refine Cell.buf ?_ | refine Cells.row rfl ?_ | refine Put.row rfl ?_ | refine Put.buf rfl ?_ | refine Look.at1 ?_ | refine Look.at2 ?_ | refine Look.at3 ?_ | refine Look.at4 ?_ | refine Look.at5 ?_ | refine Look.at6 ?_ | refine Look.at7 ?_ | refine Look.at8 ?_ | with_reducible refine Val.i64 (by omega) (by omega) ?_ | with_reducible refine Val.u8 (by omega) (by omega) ?_ | with_reducible refine Val.u32 (by omega) (by omega) ?_ | with_reducible refine Val.u64 (by omega) (by omega) ?_ | with_reducible refine Val.u8m ?_ | with_reducible refine Val.u32m ?_ | with_reducible refine Val.u64m ?_ | with_reducible refine Val.shr8 ?_ | with_reducible refine Val.shr16 (by decide) ?_ | with_reducible refine Val.shr24 (by decide) ?_ | with_reducible refine Val.raw ?_ | refine Branch.not ?_ | refine Branch.and ?_ | refine Branch.or ?_ | refine Branch.dt (by assumption) ?_ | refine Branch.df (by assumption) ?_ | refine Branch.dt rfl ?_ | refine Branch.dt (by omega) ?_ | refine Branch.df (by omega) ?_ | refine Branch.t rfl ?_ | refine Branch.f rfl ?_ | refine Branch.t (by assumption) ?_ | refine Branch.f (by assumption) ?_ | refine Branch.d (fun _ => ?_) (fun _ => ?_) | refine Branch.mk (fun _ => ?_) (fun _ => ?_) | refine Need.mk (by first | omega | decide | rfl) ?_ | refine Idx.nat (by omega) ?_ | refine Idx.auto (by first | omega | decide) (by first | omega | decide) ?_ | refine Cell.ro rfl ?_ | refine SDraw.all (by kernel_rfl) ?_ | refine Kept.k0 ?_ | refine Kept.k1 ?_ | refine Kept.k2 ?_ | refine Kept.k3 ?_ | refine Kept.k4 ?_))
        · rw [decide_eq_false h3, Bool.and_false, Bool.false_and] at hK
          repeat' ((conv => whnf); (first | with_reducible refine Val.to _ h11 ?_ | refine Branch.df (by omega) ?_ | refine Branch.dt (by omega) ?_ | refine Branch.f rfl ?_ | exact Keep.d1 hK | refine New.mk (fun _ => ?_) | refine Look.at0 ?_ | refine Cell.row ?_ | refine Cell.buf ?_ | refine Cells.row rfl ?_ | refine Put.row rfl ?_ | refine Put.buf rfl ?_ | refine Look.at1 ?_ | refine Look.at2 ?_ | refine Look.at3 ?_ | refine Look.at4 ?_ | refine Look.at5 ?_ | refine Look.at6 ?_ | refine Look.at7 ?_ | refine Look.at8 ?_ | with_reducible refine Val.i64 (by omega) (by omega) ?_ | with_reducible refine Val.u8 (by omega) (by omega) ?_ | with_reducible refine Val.u32 (by omega) (by omega) ?_ | with_reducible refine Val.u64 (by omega) (by omega) ?_ | with_reducible refine Val.u8m ?_ | with_reducible refine Val.u32m ?_ | with_reducible refine Val.u64m ?_ | with_reducible refine Val.shr8 ?_ | with_reducible refine Val.shr16 (by decide) ?_ | with_reducible refine Val.shr24 (by decide) ?_ | with_reducible refine Val.raw ?_ | refine Branch.not ?_ | refine Branch.and ?_ | refine Branch.or ?_ | refine Branch.dt (by assumption) ?_ | refine Branch.df (by assumption) ?_ | refine Branch.dt rfl ?_ | refine Branch.dt (by omega) ?_ | refine Branch.df (by omega) ?_ | refine Branch.t rfl ?_ | refine Branch.f rfl ?_ | refine Branch.t (by assumption) ?_ | refine Branch.f (by assumption) ?_ | refine Branch.d (fun _ => ?_) (fun _ => ?_) | refine Branch.mk (fun _ => ?_) (fun _ => ?_) | refine Need.mk (by first | omega | decide | rfl) ?_ | refine Idx.nat (by omega) ?_ | refine Idx.auto (by first | omega | decide) (by first | omega | decide) ?_ | refine Cell.ro rfl ?_ | refine SDraw.all (by kernel_rfl) ?_ | refine Kept.k0 ?_ | refine Kept.k1 ?_ | refine Kept.k2 ?_ | refine Kept.k3 ?_ | refine Kept.k4 ?_))
      · rw [decide_eq_false h2, Bool.false_and, Bool.false_and] at hK
        repeat' ((conv => whnf); (first | with_reducible refine Val.to _ h11 ?_ | refine Branch.df (by omega) ?_ | refine Branch.dt (by omega) ?_ | refine Branch.f rfl ?_ | exact Keep.d1 hK | refine New.mk (fun _ => ?_) | refine Look.at0 ?_ | refine Cell.row ?_ | refine Cell.buf ?_ | refine Cells.row rfl ?_ | refine Put.row rfl ?_ | refine Put.buf rfl ?_ | refine Look.at1 ?_ | refine Look.at2 ?_ | refine Look.at3 ?_ | refine Look.at4 ?_ | refine Look.at5 ?_ | refine Look.at6 ?_ | refine Look.at7 ?_ | refine Look.at8 ?_ | with_reducible refine Val.i64 (by omega) (by omega) ?_ | with_reducible refine Val.u8 (by omega) (by omega) ?_ | with_reducible refine Val.u32 (by omega) (by omega) ?_ | with_reducible refine Val.u64 (by omega) (by omega) ?_ | with_reducible refine Val.u8m ?_ | with_reducible refine Val.u32m ?_ | with_reducible refine Val.u64m ?_ | with_reducible refine Val.shr8 ?_ | with_reducible refine Val.shr16 (by decide) ?_ | with_reducible refine Val.shr24 (by decide) ?_ | with_reducible refine Val.raw ?_ | refine Branch.not ?_ | refine Branch.and ?_ | refine Branch.or ?_ | refine Branch.dt (by assumption) ?_ | refine Branch.df (by assumption) ?_ | refine Branch.dt rfl ?_ | refine Branch.dt (by omega) ?_ | refine Branch.df (by omega) ?_ | refine Branch.t rfl ?_ | refine Branch.f rfl ?_ | refine Branch.t (by assumption) ?_ | refine Branch.f (by assumption) ?_ | refine Branch.d (fun _ => ?_) (fun _ => ?_) | refine Branch.mk (fun _ => ?_) (fun _ => ?_) | refine Need.mk (by first | omega | decide | rfl) ?_ | refine Idx.nat (by omega) ?_ | refine Idx.auto (by first | omega | decide) (by first | omega | decide) ?_ | refine Cell.ro rfl ?_ | refine SDraw.all (by kernel_rfl) ?_ | refine Kept.k0 ?_ | refine Kept.k1 ?_ | refine Kept.k2 ?_ | refine Kept.k3 ?_ | refine Kept.k4 ?_))
    · rw [decide_eq_false h1, Bool.and_false] at hK
      have hz : ¬ ((id / 2 ^ 11 : Nat) : Int) = 0 := by omega
      repeat' ((conv => whnf); (first | with_reducible refine Val.to _ h11 ?_ | refine Branch.t (by first | (simp [hz]; done) | omega) ?_ | exact Keep.d1 hK | refine New.mk (fun _ => ?_) | refine Look.at0 ?_ | refine Cell.row ?_ | refine Cell.buf ?_ | refine Cells.row rfl ?_ | refine Put.row rfl ?_ | refine Put.buf rfl ?_ | refine Look.at1 ?_ | refine Look.at2 ?_ | refine Look.at3 ?_ | refine Look.at4 ?_ | refine Look.at5 ?_ | refine Look.at6 ?_ | refine Look.at7 ?_ | refine Look.at8 ?_ | with_reducible refine Val.i64 (by omega) (by omega) ?_ | with_reducible refine Val.u8 (by omega) (by omega) ?_ | with_reducible refine Val.u32 (by omega) (by omega) ?_ | with_reducible refine Val.u64 (by omega) (by omega) ?_ | with_reducible refine Val.u8m ?_ | with_reducible refine Val.u32m ?_ | with_reducible refine Val.u64m ?_ | with_reducible refine Val.shr8 ?_ | with_reducible refine Val.shr16 (by decide) ?_ | with_reducible refine Val.shr24 (by decide) ?_ | with_reducible refine Val.raw ?_ | refine Branch.not ?_ | refine Branch.and ?_ | refine Branch.or ?_ | refine Branch.dt (by assumption) ?_ | refine Branch.df (by assumption) ?_ | refine Branch.dt rfl ?_ | refine Branch.dt (by omega) ?_ | refine Branch.df (by omega) ?_ | refine Branch.t rfl ?_ | refine Branch.f rfl ?_ | refine Branch.t (by assumption) ?_ | refine Branch.f (by assumption) ?_ | refine Branch.d (fun _ => ?_) (fun _ => ?_) | refine Branch.mk (fun _ => ?_) (fun _ => ?_) | refine Need.mk (by first | omega | decide | rfl) ?_ | refine Idx.nat (by omega) ?_ | refine Idx.auto (by first | omega | decide) (by first | omega | decide) ?_ | refine Cell.ro rfl ?_ | refine SDraw.all (by kernel_rfl) ?_ | refine Kept.k0 ?_ | refine Kept.k1 ?_ | refine Kept.k2 ?_ | refine Kept.k3 ?_ | refine Kept.k4 ?_))
theorem c22 {f : Fm} (hid : f.id < 4294967296) (hK : K (.int .i64 (erF f)) H) : SCalls Tryd.prog 22 [frV f] H K := by
  refine enter22 ?_
  repeat' ((conv => whnf); (first | refine c26 hid ?_ | exact Keep.d1 hK | refine New.mk (fun _ => ?_) | refine Look.at0 ?_ | refine Cell.row ?_ | refine Cell.buf ?_ | refine Cells.row rfl ?_ | refine Put.row rfl ?_ | refine Put.buf rfl ?_ | refine Look.at1 ?_ | refine Look.at2 ?_ | refine Look.at3 ?_ | refine Look.at4 ?_ | refine Look.at5 ?_ | refine Look.at6 ?_ | refine Look.at7 ?_ | refine Look.at8 ?_ | with_reducible refine Val.i64 (by omega) (by omega) ?_ | with_reducible refine Val.u8 (by omega) (by omega) ?_ | with_reducible refine Val.u32 (by omega) (by omega) ?_ | with_reducible refine Val.u64 (by omega) (by omega) ?_ | with_reducible refine Val.u8m ?_ | with_reducible refine Val.u32m ?_ | with_reducible refine Val.u64m ?_ | with_reducible refine Val.shr8 ?_ | with_reducible refine Val.shr16 (by decide) ?_ | with_reducible refine Val.shr24 (by decide) ?_ | with_reducible refine Val.raw ?_ | refine Branch.not ?_ | refine Branch.and ?_ | refine Branch.or ?_ | refine Branch.dt (by assumption) ?_ | refine Branch.df (by assumption) ?_ | refine Branch.dt rfl ?_ | refine Branch.dt (by omega) ?_ | refine Branch.df (by omega) ?_ | refine Branch.t rfl ?_ | refine Branch.f rfl ?_ | refine Branch.t (by assumption) ?_ | refine Branch.f (by assumption) ?_ | refine Branch.d (fun _ => ?_) (fun _ => ?_) | refine Branch.mk (fun _ => ?_) (fun _ => ?_) | refine Need.mk (by first | omega | decide | rfl) ?_ | refine Idx.nat (by omega) ?_ | refine Idx.auto (by first | omega | decide) (by first | omega | decide) ?_ | refine Cell.ro rfl ?_ | refine SDraw.all (by kernel_rfl) ?_ | refine Kept.k0 ?_ | refine Kept.k1 ?_ | refine Kept.k2 ?_ | refine Kept.k3 ?_ | refine Kept.k4 ?_))
theorem c49 {f : Fm} (hK : K (.int .i64 (erF f)) H) : SCalls Tryd.prog 49 [frV f] H K := by
  obtain ⟨id, x, rm, n, d0, d1, d2, d3, d4, d5, d6, d7⟩ := f
  unfold erF okF at hK
  dsimp only at hK
  dsimp only [frV, frC]
  refine enter49 ?_
  cases x with
  | true =>
    rw [show (if true = true then 536870912 else 2048) = 536870912 from rfl] at hK
    by_cases h2 : 0 ≤ n
    · by_cases h3 : n ≤ 15
      · by_cases h1 : id < 536870912
        · rw [decide_eq_true h1, decide_eq_true h2, decide_eq_true h3] at hK
          repeat' ((conv => whnf); (first | refine Branch.dt (by omega) ?_ | refine Branch.df (by omega) ?_ | refine Branch.f rfl ?_ | exact Keep.d1 hK | refine New.mk (fun _ => ?_) | refine Look.at0 ?_ | refine Cell.row ?_ | refine Cell.buf ?_ | refine Cells.row rfl ?_ | refine Put.row rfl ?_ | refine Put.buf rfl ?_ | refine Look.at1 ?_ | refine Look.at2 ?_ | refine Look.at3 ?_ | refine Look.at4 ?_ | refine Look.at5 ?_ | refine Look.at6 ?_ | refine Look.at7 ?_ | refine Look.at8 ?_ | with_reducible refine Val.i64 (by omega) (by omega) ?_ | with_reducible refine Val.u8 (by omega) (by omega) ?_ | with_reducible refine Val.u32 (by omega) (by omega) ?_ | with_reducible refine Val.u64 (by omega) (by omega) ?_ | with_reducible refine Val.u8m ?_ | with_reducible refine Val.u32m ?_ | with_reducible refine Val.u64m ?_ | with_reducible refine Val.shr8 ?_ | with_reducible refine Val.shr16 (by decide) ?_ | with_reducible refine Val.shr24 (by decide) ?_ | with_reducible refine Val.raw ?_ | refine Branch.not ?_ | refine Branch.and ?_ | refine Branch.or ?_ | refine Branch.dt (by assumption) ?_ | refine Branch.df (by assumption) ?_ | refine Branch.dt rfl ?_ | refine Branch.dt (by omega) ?_ | refine Branch.df (by omega) ?_ | refine Branch.t rfl ?_ | refine Branch.f rfl ?_ | refine Branch.t (by assumption) ?_ | refine Branch.f (by assumption) ?_ | refine Branch.d (fun _ => ?_) (fun _ => ?_) | refine Branch.mk (fun _ => ?_) (fun _ => ?_) | refine Need.mk (by first | omega | decide | rfl) ?_ | refine Idx.nat (by omega) ?_ | refine Idx.auto (by first | omega | decide) (by first | omega | decide) ?_ | refine Cell.ro rfl ?_ | refine SDraw.all (by kernel_rfl) ?_ | refine Kept.k0 ?_ | refine Kept.k1 ?_ | refine Kept.k2 ?_ | refine Kept.k3 ?_ | refine Kept.k4 ?_))
        · rw [decide_eq_false h1, Bool.and_false] at hK
          repeat' ((conv => whnf); (first | refine Branch.dt (by omega) ?_ | refine Branch.df (by omega) ?_ | refine Branch.f rfl ?_ | exact Keep.d1 hK | refine New.mk (fun _ => ?_) | refine Look.at0 ?_ | refine Cell.row ?_ | refine Cell.buf ?_ | refine Cells.row rfl ?_ | refine Put.row rfl ?_ | refine Put.buf rfl ?_ | refine Look.at1 ?_ | refine Look.at2 ?_ | refine Look.at3 ?_ | refine Look.at4 ?_ | refine Look.at5 ?_ | refine Look.at6 ?_ | refine Look.at7 ?_ | refine Look.at8 ?_ | with_reducible refine Val.i64 (by omega) (by omega) ?_ | with_reducible refine Val.u8 (by omega) (by omega) ?_ | with_reducible refine Val.u32 (by omega) (by omega) ?_ | with_reducible refine Val.u64 (by omega) (by omega) ?_ | with_reducible refine Val.u8m ?_ | with_reducible refine Val.u32m ?_ | with_reducible refine Val.u64m ?_ | with_reducible refine Val.shr8 ?_ | with_reducible refine Val.shr16 (by decide) ?_ | with_reducible refine Val.shr24 (by decide) ?_ | with_reducible refine Val.raw ?_ | refine Branch.not ?_ | refine Branch.and ?_ | refine Branch.or ?_ | refine Branch.dt (by assumption) ?_ | refine Branch.df (by assumption) ?_ | refine Branch.dt rfl ?_ | refine Branch.dt (by omega) ?_ | refine Branch.df (by omega) ?_ | refine Branch.t rfl ?_ | refine Branch.f rfl ?_ | refine Branch.t (by assumption) ?_ | refine Branch.f (by assumption) ?_ | refine Branch.d (fun _ => ?_) (fun _ => ?_) | refine Branch.mk (fun _ => ?_) (fun _ => ?_) | refine Need.mk (by first | omega | decide | rfl) ?_ | refine Idx.nat (by omega) ?_ | refine Idx.auto (by first | omega | decide) (by first | omega | decide) ?_ | refine Cell.ro rfl ?_ | refine SDraw.all (by kernel_rfl) ?_ | refine Kept.k0 ?_ | refine Kept.k1 ?_ | refine Kept.k2 ?_ | refine Kept.k3 ?_ | refine Kept.k4 ?_))
      · rw [decide_eq_false h3, Bool.and_false, Bool.false_and] at hK
        repeat' ((conv => whnf); (first | refine Branch.dt (by omega) ?_ | refine Branch.df (by omega) ?_ | refine Branch.f rfl ?_ | exact Keep.d1 hK | refine New.mk (fun _ => ?_) | refine Look.at0 ?_ | refine Cell.row ?_ | refine Cell.buf ?_ | refine Cells.row rfl ?_ | refine Put.row rfl ?_ | refine Put.buf rfl ?_ | refine Look.at1 ?_ | refine Look.at2 ?_ | refine Look.at3 ?_ | refine Look.at4 ?_ | refine Look.at5 ?_ | refine Look.at6 ?_ | refine Look.at7 ?_ | refine Look.at8 ?_ | with_reducible refine Val.i64 (by omega) (by omega) ?_ | with_reducible refine Val.u8 (by omega) (by omega) ?_ | with_reducible refine Val.u32 (by omega) (by omega) ?_ | with_reducible refine Val.u64 (by omega) (by omega) ?_ | with_reducible refine Val.u8m ?_ | with_reducible refine Val.u32m ?_ | with_reducible refine Val.u64m ?_ | with_reducible refine Val.shr8 ?_ | with_reducible refine Val.shr16 (by decide) ?_ | with_reducible refine Val.shr24 (by decide) ?_ | with_reducible refine Val.raw ?_ | refine Branch.not ?_ | refine Branch.and ?_ | refine Branch.or ?_ | refine Branch.dt (by assumption) ?_ | refine Branch.df (by assumption) ?_ | refine Branch.dt rfl ?_ | refine Branch.dt (by omega) ?_ | refine Branch.df (by omega) ?_ | refine Branch.t rfl ?_ | refine Branch.f rfl ?_ | refine Branch.t (by assumption) ?_ | refine Branch.f (by assumption) ?_ | refine Branch.d (fun _ => ?_) (fun _ => ?_) | refine Branch.mk (fun _ => ?_) (fun _ => ?_) | refine Need.mk (by first | omega | decide | rfl) ?_ | refine Idx.nat (by omega) ?_ | refine Idx.auto (by first | omega | decide) (by first | omega | decide) ?_ | refine Cell.ro rfl ?_ | refine SDraw.all (by kernel_rfl) ?_ | refine Kept.k0 ?_ | refine Kept.k1 ?_ | refine Kept.k2 ?_ | refine Kept.k3 ?_ | refine Kept.k4 ?_))
    · rw [decide_eq_false h2, Bool.false_and, Bool.false_and] at hK
      repeat' ((conv => whnf); (first | refine Branch.dt (by omega) ?_ | refine Branch.df (by omega) ?_ | refine Branch.f rfl ?_ | exact Keep.d1 hK | refine New.mk (fun _ => ?_) | refine Look.at0 ?_ | refine Cell.row ?_ | refine Cell.buf ?_ | refine Cells.row rfl ?_ | refine Put.row rfl ?_ | refine Put.buf rfl ?_ | refine Look.at1 ?_ | refine Look.at2 ?_ | refine Look.at3 ?_ | refine Look.at4 ?_ | refine Look.at5 ?_ | refine Look.at6 ?_ | refine Look.at7 ?_ | refine Look.at8 ?_ | with_reducible refine Val.i64 (by omega) (by omega) ?_ | with_reducible refine Val.u8 (by omega) (by omega) ?_ | with_reducible refine Val.u32 (by omega) (by omega) ?_ | with_reducible refine Val.u64 (by omega) (by omega) ?_ | with_reducible refine Val.u8m ?_ | with_reducible refine Val.u32m ?_ | with_reducible refine Val.u64m ?_ | with_reducible refine Val.shr8 ?_ | with_reducible refine Val.shr16 (by decide) ?_ | with_reducible refine Val.shr24 (by decide) ?_ | with_reducible refine Val.raw ?_ | refine Branch.not ?_ | refine Branch.and ?_ | refine Branch.or ?_ | refine Branch.dt (by assumption) ?_ | refine Branch.df (by assumption) ?_ | refine Branch.dt rfl ?_ | refine Branch.dt (by omega) ?_ | refine Branch.df (by omega) ?_ | refine Branch.t rfl ?_ | refine Branch.f rfl ?_ | refine Branch.t (by assumption) ?_ | refine Branch.f (by assumption) ?_ | refine Branch.d (fun _ => ?_) (fun _ => ?_) | refine Branch.mk (fun _ => ?_) (fun _ => ?_) | refine Need.mk (by first | omega | decide | rfl) ?_ | refine Idx.nat (by omega) ?_ | refine Idx.auto (by first | omega | decide) (by first | omega | decide) ?_ | refine Cell.ro rfl ?_ | refine SDraw.all (by kernel_rfl) ?_ | refine Kept.k0 ?_ | refine Kept.k1 ?_ | refine Kept.k2 ?_ | refine Kept.k3 ?_ | refine Kept.k4 ?_))
  | false =>
    rw [show (if false = true then 536870912 else 2048) = 2048 from rfl] at hK
    by_cases h2 : 0 ≤ n
    · by_cases h3 : n ≤ 15
      · by_cases h4 : id < 536870912
        · by_cases h1 : id < 2048
          · rw [decide_eq_true h1, decide_eq_true h2, decide_eq_true h3] at hK
            repeat' ((conv => whnf); (first | refine Branch.dt (by omega) ?_ | refine Branch.df (by omega) ?_ | refine Branch.f rfl ?_ | exact Keep.d1 hK | refine New.mk (fun _ => ?_) | refine Look.at0 ?_ | refine Cell.row ?_ | refine Cell.buf ?_ | refine Cells.row rfl ?_ | refine Put.row rfl ?_ | refine Put.buf rfl ?_ | refine Look.at1 ?_ | refine Look.at2 ?_ | refine Look.at3 ?_ | refine Look.at4 ?_ | refine Look.at5 ?_ | refine Look.at6 ?_ | refine Look.at7 ?_ | refine Look.at8 ?_ | with_reducible refine Val.i64 (by omega) (by omega) ?_ | with_reducible refine Val.u8 (by omega) (by omega) ?_ | with_reducible refine Val.u32 (by omega) (by omega) ?_ | with_reducible refine Val.u64 (by omega) (by omega) ?_ | with_reducible refine Val.u8m ?_ | with_reducible refine Val.u32m ?_ | with_reducible refine Val.u64m ?_ | with_reducible refine Val.shr8 ?_ | with_reducible refine Val.shr16 (by decide) ?_ | with_reducible refine Val.shr24 (by decide) ?_ | with_reducible refine Val.raw ?_ | refine Branch.not ?_ | refine Branch.and ?_ | refine Branch.or ?_ | refine Branch.dt (by assumption) ?_ | refine Branch.df (by assumption) ?_ | refine Branch.dt rfl ?_ | refine Branch.dt (by omega) ?_ | refine Branch.df (by omega) ?_ | refine Branch.t rfl ?_ | refine Branch.f rfl ?_ | refine Branch.t (by assumption) ?_ | refine Branch.f (by assumption) ?_ | refine Branch.d (fun _ => ?_) (fun _ => ?_) | refine Branch.mk (fun _ => ?_) (fun _ => ?_) | refine Need.mk (by first | omega | decide | rfl) ?_ | refine Idx.nat (by omega) ?_ | refine Idx.auto (by first | omega | decide) (by first | omega | decide) ?_ | refine Cell.ro rfl ?_ | refine SDraw.all (by kernel_rfl) ?_ | refine Kept.k0 ?_ | refine Kept.k1 ?_ | refine Kept.k2 ?_ | refine Kept.k3 ?_ | refine Kept.k4 ?_))
          · rw [decide_eq_false h1, Bool.and_false] at hK
            repeat' ((conv => whnf); (first | refine Branch.dt (by omega) ?_ | refine Branch.df (by omega) ?_ | refine Branch.f rfl ?_ | exact Keep.d1 hK | refine New.mk (fun _ => ?_) | refine Look.at0 ?_ | refine Cell.row ?_ | refine Cell.buf ?_ | refine Cells.row rfl ?_ | refine Put.row rfl ?_ | refine Put.buf rfl ?_ | refine Look.at1 ?_ | refine Look.at2 ?_ | refine Look.at3 ?_ | refine Look.at4 ?_ | refine Look.at5 ?_ | refine Look.at6 ?_ | refine Look.at7 ?_ | refine Look.at8 ?_ | with_reducible refine Val.i64 (by omega) (by omega) ?_ | with_reducible refine Val.u8 (by omega) (by omega) ?_ | with_reducible refine Val.u32 (by omega) (by omega) ?_ | with_reducible refine Val.u64 (by omega) (by omega) ?_ | with_reducible refine Val.u8m ?_ | with_reducible refine Val.u32m ?_ | with_reducible refine Val.u64m ?_ | with_reducible refine Val.shr8 ?_ | with_reducible refine Val.shr16 (by decide) ?_ | with_reducible refine Val.shr24 (by decide) ?_ | with_reducible refine Val.raw ?_ | refine Branch.not ?_ | refine Branch.and ?_ | refine Branch.or ?_ | refine Branch.dt (by assumption) ?_ | refine Branch.df (by assumption) ?_ | refine Branch.dt rfl ?_ | refine Branch.dt (by omega) ?_ | refine Branch.df (by omega) ?_ | refine Branch.t rfl ?_ | refine Branch.f rfl ?_ | refine Branch.t (by assumption) ?_ | refine Branch.f (by assumption) ?_ | refine Branch.d (fun _ => ?_) (fun _ => ?_) | refine Branch.mk (fun _ => ?_) (fun _ => ?_) | refine Need.mk (by first | omega | decide | rfl) ?_ | refine Idx.nat (by omega) ?_ | refine Idx.auto (by first | omega | decide) (by first | omega | decide) ?_ | refine Cell.ro rfl ?_ | refine SDraw.all (by kernel_rfl) ?_ | refine Kept.k0 ?_ | refine Kept.k1 ?_ | refine Kept.k2 ?_ | refine Kept.k3 ?_ | refine Kept.k4 ?_))
        · rw [decide_eq_false (show ¬ id < 2048 by omega), Bool.and_false] at hK
          repeat' ((conv => whnf); (first | refine Branch.dt (by omega) ?_ | refine Branch.df (by omega) ?_ | refine Branch.f rfl ?_ | exact Keep.d1 hK | refine New.mk (fun _ => ?_) | refine Look.at0 ?_ | refine Cell.row ?_ | refine Cell.buf ?_ | refine Cells.row rfl ?_ | refine Put.row rfl ?_ | refine Put.buf rfl ?_ | refine Look.at1 ?_ | refine Look.at2 ?_ | refine Look.at3 ?_ | refine Look.at4 ?_ | refine Look.at5 ?_ | refine Look.at6 ?_ | refine Look.at7 ?_ | refine Look.at8 ?_ | with_reducible refine Val.i64 (by omega) (by omega) ?_ | with_reducible refine Val.u8 (by omega) (by omega) ?_ | with_reducible refine Val.u32 (by omega) (by omega) ?_ | with_reducible refine Val.u64 (by omega) (by omega) ?_ | with_reducible refine Val.u8m ?_ | with_reducible refine Val.u32m ?_ | with_reducible refine Val.u64m ?_ | with_reducible refine Val.shr8 ?_ | with_reducible refine Val.shr16 (by decide) ?_ | with_reducible refine Val.shr24 (by decide) ?_ | with_reducible refine Val.raw ?_ | refine Branch.not ?_ | refine Branch.and ?_ | refine Branch.or ?_ | refine Branch.dt (by assumption) ?_ | refine Branch.df (by assumption) ?_ | refine Branch.dt rfl ?_ | refine Branch.dt (by omega) ?_ | refine Branch.df (by omega) ?_ | refine Branch.t rfl ?_ | refine Branch.f rfl ?_ | refine Branch.t (by assumption) ?_ | refine Branch.f (by assumption) ?_ | refine Branch.d (fun _ => ?_) (fun _ => ?_) | refine Branch.mk (fun _ => ?_) (fun _ => ?_) | refine Need.mk (by first | omega | decide | rfl) ?_ | refine Idx.nat (by omega) ?_ | refine Idx.auto (by first | omega | decide) (by first | omega | decide) ?_ | refine Cell.ro rfl ?_ | refine SDraw.all (by kernel_rfl) ?_ | refine Kept.k0 ?_ | refine Kept.k1 ?_ | refine Kept.k2 ?_ | refine Kept.k3 ?_ | refine Kept.k4 ?_))
      · rw [decide_eq_false h3, Bool.and_false, Bool.false_and] at hK
        repeat' ((conv => whnf); (first | refine Branch.dt (by omega) ?_ | refine Branch.df (by omega) ?_ | refine Branch.f rfl ?_ | exact Keep.d1 hK | refine New.mk (fun _ => ?_) | refine Look.at0 ?_ | refine Cell.row ?_ | refine Cell.buf ?_ | refine Cells.row rfl ?_ | refine Put.row rfl ?_ | refine Put.buf rfl ?_ | refine Look.at1 ?_ | refine Look.at2 ?_ | refine Look.at3 ?_ | refine Look.at4 ?_ | refine Look.at5 ?_ | refine Look.at6 ?_ | refine Look.at7 ?_ | refine Look.at8 ?_ | with_reducible refine Val.i64 (by omega) (by omega) ?_ | with_reducible refine Val.u8 (by omega) (by omega) ?_ | with_reducible refine Val.u32 (by omega) (by omega) ?_ | with_reducible refine Val.u64 (by omega) (by omega) ?_ | with_reducible refine Val.u8m ?_ | with_reducible refine Val.u32m ?_ | with_reducible refine Val.u64m ?_ | with_reducible refine Val.shr8 ?_ | with_reducible refine Val.shr16 (by decide) ?_ | with_reducible refine Val.shr24 (by decide) ?_ | with_reducible refine Val.raw ?_ | refine Branch.not ?_ | refine Branch.and ?_ | refine Branch.or ?_ | refine Branch.dt (by assumption) ?_ | refine Branch.df (by assumption) ?_ | refine Branch.dt rfl ?_ | refine Branch.dt (by omega) ?_ | refine Branch.df (by omega) ?_ | refine Branch.t rfl ?_ | refine Branch.f rfl ?_ | refine Branch.t (by assumption) ?_ | refine Branch.f (by assumption) ?_ | refine Branch.d (fun _ => ?_) (fun _ => ?_) | refine Branch.mk (fun _ => ?_) (fun _ => ?_) | refine Need.mk (by first | omega | decide | rfl) ?_ | refine Idx.nat (by omega) ?_ | refine Idx.auto (by first | omega | decide) (by first | omega | decide) ?_ | refine Cell.ro rfl ?_ | refine SDraw.all (by kernel_rfl) ?_ | refine Kept.k0 ?_ | refine Kept.k1 ?_ | refine Kept.k2 ?_ | refine Kept.k3 ?_ | refine Kept.k4 ?_))
    · rw [decide_eq_false h2, Bool.false_and, Bool.false_and] at hK
      repeat' ((conv => whnf); (first | refine Branch.dt (by omega) ?_ | refine Branch.df (by omega) ?_ | refine Branch.f rfl ?_ | exact Keep.d1 hK | refine New.mk (fun _ => ?_) | refine Look.at0 ?_ | refine Cell.row ?_ | refine Cell.buf ?_ | refine Cells.row rfl ?_ | refine Put.row rfl ?_ | refine Put.buf rfl ?_ | refine Look.at1 ?_ | refine Look.at2 ?_ | refine Look.at3 ?_ | refine Look.at4 ?_ | refine Look.at5 ?_ | refine Look.at6 ?_ | refine Look.at7 ?_ | refine Look.at8 ?_ | with_reducible refine Val.i64 (by omega) (by omega) ?_ | with_reducible refine Val.u8 (by omega) (by omega) ?_ | with_reducible refine Val.u32 (by omega) (by omega) ?_ | with_reducible refine Val.u64 (by omega) (by omega) ?_ | with_reducible refine Val.u8m ?_ | with_reducible refine Val.u32m ?_ | with_reducible refine Val.u64m ?_ | with_reducible refine Val.shr8 ?_ | with_reducible refine Val.shr16 (by decide) ?_ | with_reducible refine Val.shr24 (by decide) ?_ | with_reducible refine Val.raw ?_ | refine Branch.not ?_ | refine Branch.and ?_ | refine Branch.or ?_ | refine Branch.dt (by assumption) ?_ | refine Branch.df (by assumption) ?_ | refine Branch.dt rfl ?_ | refine Branch.dt (by omega) ?_ | refine Branch.df (by omega) ?_ | refine Branch.t rfl ?_ | refine Branch.f rfl ?_ | refine Branch.t (by assumption) ?_ | refine Branch.f (by assumption) ?_ | refine Branch.d (fun _ => ?_) (fun _ => ?_) | refine Branch.mk (fun _ => ?_) (fun _ => ?_) | refine Need.mk (by first | omega | decide | rfl) ?_ | refine Idx.nat (by omega) ?_ | refine Idx.auto (by first | omega | decide) (by first | omega | decide) ?_ | refine Cell.ro rfl ?_ | refine SDraw.all (by kernel_rfl) ?_ | refine Kept.k0 ?_ | refine Kept.k1 ?_ | refine Kept.k2 ?_ | refine Kept.k3 ?_ | refine Kept.k4 ?_))
theorem c51 {f : Fm} (hK : K (.int .i64 (nb f : Int)) H) : SCalls Tryd.prog 51 [frV f] H K := by
  obtain ⟨id, x, rm, n, d0, d1, d2, d3, d4, d5, d6, d7⟩ := f
  unfold nb at hK
  dsimp only at hK
  dsimp only [frV, frC]
  refine enter51 ?_
  cases rm with
  | true =>
    rw [if_pos rfl] at hK
    repeat' ((conv => whnf); (first | refine Branch.t rfl ?_ | exact Keep.d1 hK | refine New.mk (fun _ => ?_) | refine Look.at0 ?_ | refine Cell.row ?_ | refine Cell.buf ?_ | refine Cells.row rfl ?_ | refine Put.row rfl ?_ | refine Put.buf rfl ?_ | refine Look.at1 ?_ | refine Look.at2 ?_ | refine Look.at3 ?_ | refine Look.at4 ?_ | refine Look.at5 ?_ | refine Look.at6 ?_ | refine Look.at7 ?_ | refine Look.at8 ?_ | with_reducible refine Val.i64 (by omega) (by omega) ?_ | with_reducible refine Val.u8 (by omega) (by omega) ?_ | with_reducible refine Val.u32 (by omega) (by omega) ?_ | with_reducible refine Val.u64 (by omega) (by omega) ?_ | with_reducible refine Val.u8m ?_ | with_reducible refine Val.u32m ?_ | with_reducible refine Val.u64m ?_ | with_reducible refine Val.shr8 ?_ | with_reducible refine Val.shr16 (by decide) ?_ | with_reducible refine Val.shr24 (by decide) ?_ | with_reducible refine Val.raw ?_ | refine Branch.not ?_ | refine Branch.and ?_ | refine Branch.or ?_ | refine Branch.dt (by assumption) ?_ | refine Branch.df (by assumption) ?_ | refine Branch.dt rfl ?_ | refine Branch.dt (by omega) ?_ | refine Branch.df (by omega) ?_ | refine Branch.t rfl ?_ | refine Branch.f rfl ?_ | refine Branch.t (by assumption) ?_ | refine Branch.f (by assumption) ?_ | refine Branch.d (fun _ => ?_) (fun _ => ?_) | refine Branch.mk (fun _ => ?_) (fun _ => ?_) | refine Need.mk (by first | omega | decide | rfl) ?_ | refine Idx.nat (by omega) ?_ | refine Idx.auto (by first | omega | decide) (by first | omega | decide) ?_ | refine Cell.ro rfl ?_ | refine SDraw.all (by kernel_rfl) ?_ | refine Kept.k0 ?_ | refine Kept.k1 ?_ | refine Kept.k2 ?_ | refine Kept.k3 ?_ | refine Kept.k4 ?_))
  | false =>
    rw [if_neg (by decide)] at hK
    have e1 : (if n < 0 then (0 : Int) else n) = (n.toNat : Int) := by split <;> omega
    have e2 : (if (8 : Int) < (n.toNat : Int) then (8 : Int) else (n.toNat : Int)) = ((min n.toNat 8 : Nat) : Int) := by split <;> omega
    repeat' ((conv => whnf); (first | refine Branch.f rfl ?_ | refine RawV.max2 rfl e1 ?_ | refine RawV.min2 rfl e2 ?_ | exact Keep.d1 hK | refine New.mk (fun _ => ?_) | refine Look.at0 ?_ | refine Cell.row ?_ | refine Cell.buf ?_ | refine Cells.row rfl ?_ | refine Put.row rfl ?_ | refine Put.buf rfl ?_ | refine Look.at1 ?_ | refine Look.at2 ?_ | refine Look.at3 ?_ | refine Look.at4 ?_ | refine Look.at5 ?_ | refine Look.at6 ?_ | refine Look.at7 ?_ | refine Look.at8 ?_ | with_reducible refine Val.i64 (by omega) (by omega) ?_ | with_reducible refine Val.u8 (by omega) (by omega) ?_ | with_reducible refine Val.u32 (by omega) (by omega) ?_ | with_reducible refine Val.u64 (by omega) (by omega) ?_ | with_reducible refine Val.u8m ?_ | with_reducible refine Val.u32m ?_ | with_reducible refine Val.u64m ?_ | with_reducible refine Val.shr8 ?_ | with_reducible refine Val.shr16 (by decide) ?_ | with_reducible refine Val.shr24 (by decide) ?_ | with_reducible refine Val.raw ?_ | refine Branch.not ?_ | refine Branch.and ?_ | refine Branch.or ?_ | refine Branch.dt (by assumption) ?_ | refine Branch.df (by assumption) ?_ | refine Branch.dt rfl ?_ | refine Branch.dt (by omega) ?_ | refine Branch.df (by omega) ?_ | refine Branch.t rfl ?_ | refine Branch.f rfl ?_ | refine Branch.t (by assumption) ?_ | refine Branch.f (by assumption) ?_ | refine Branch.d (fun _ => ?_) (fun _ => ?_) | refine Branch.mk (fun _ => ?_) (fun _ => ?_) | refine Need.mk (by first | omega | decide | rfl) ?_ | refine Idx.nat (by omega) ?_ | refine Idx.auto (by first | omega | decide) (by first | omega | decide) ?_ | refine Cell.ro rfl ?_ | refine SDraw.all (by kernel_rfl) ?_ | refine Kept.k0 ?_ | refine Kept.k1 ?_ | refine Kept.k2 ?_ | refine Kept.k3 ?_ | refine Kept.k4 ?_))
theorem c28 {f : Fm} (hK : K (.int .i64 (nb f : Int)) H) : SCalls Tryd.prog 28 [frV f] H K := by
  obtain ⟨id, x, rm, n, d0, d1, d2, d3, d4, d5, d6, d7⟩ := f
  unfold nb at hK
  dsimp only at hK
  dsimp only [frV, frC]
  refine enter28 ?_
  cases rm with
  | true =>
    rw [if_pos rfl] at hK
    repeat' ((conv => whnf); (first | refine Branch.t rfl ?_ | exact Keep.d1 hK | refine New.mk (fun _ => ?_) | refine Look.at0 ?_ | refine Cell.row ?_ | refine Cell.buf ?_ | refine Cells.row rfl ?_ | refine Put.row rfl ?_ | refine Put.buf rfl ?_ | refine Look.at1 ?_ | refine Look.at2 ?_ | refine Look.at3 ?_ | refine Look.at4 ?_ | refine Look.at5 ?_ | refine Look.at6 ?_ | refine Look.at7 ?_ | refine Look.at8 ?_ | with_reducible refine Val.i64 (by omega) (by omega) ?_ | with_reducible refine Val.u8 (by omega) (by omega) ?_ | with_reducible refine Val.u32 (by omega) (by omega) ?_ | with_reducible refine Val.u64 (by omega) (by omega) ?_ | with_reducible refine Val.u8m ?_ | with_reducible refine Val.u32m ?_ | with_reducible refine Val.u64m ?_ | with_reducible refine Val.shr8 ?_ | with_reducible refine Val.shr16 (by decide) ?_ | with_reducible refine Val.shr24 (by decide) ?_ | with_reducible refine Val.raw ?_ | refine Branch.not ?_ | refine Branch.and ?_ | refine Branch.or ?_ | refine Branch.dt (by assumption) ?_ | refine Branch.df (by assumption) ?_ | refine Branch.dt rfl ?_ | refine Branch.dt (by omega) ?_ | refine Branch.df (by omega) ?_ | refine Branch.t rfl ?_ | refine Branch.f rfl ?_ | refine Branch.t (by assumption) ?_ | refine Branch.f (by assumption) ?_ | refine Branch.d (fun _ => ?_) (fun _ => ?_) | refine Branch.mk (fun _ => ?_) (fun _ => ?_) | refine Need.mk (by first | omega | decide | rfl) ?_ | refine Idx.nat (by omega) ?_ | refine Idx.auto (by first | omega | decide) (by first | omega | decide) ?_ | refine Cell.ro rfl ?_ | refine SDraw.all (by kernel_rfl) ?_ | refine Kept.k0 ?_ | refine Kept.k1 ?_ | refine Kept.k2 ?_ | refine Kept.k3 ?_ | refine Kept.k4 ?_))
  | false =>
    rw [if_neg (by decide)] at hK
    by_cases h0 : n < 0
    · rw [show min n.toNat 8 = 0 by omega] at hK
      repeat' ((conv => whnf); (first | refine Branch.f rfl ?_ | refine Branch.dt (by omega) ?_ | exact Keep.d1 hK | refine New.mk (fun _ => ?_) | refine Look.at0 ?_ | refine Cell.row ?_ | refine Cell.buf ?_ | refine Cells.row rfl ?_ | refine Put.row rfl ?_ | refine Put.buf rfl ?_ | refine Look.at1 ?_ | refine Look.at2 ?_ | refine Look.at3 ?_ | refine Look.at4 ?_ | refine Look.at5 ?_ | refine Look.at6 ?_ | refine Look.at7 ?_ | refine Look.at8 ?_ | with_reducible refine Val.i64 (by omega) (by omega) ?_ | with_reducible refine Val.u8 (by omega) (by omega) ?_ | with_reducible refine Val.u32 (by omega) (by omega) ?_ | with_reducible refine Val.u64 (by omega) (by omega) ?_ | with_reducible refine Val.u8m ?_ | with_reducible refine Val.u32m ?_ | with_reducible refine Val.u64m ?_ | with_reducible refine Val.shr8 ?_ | with_reducible refine Val.shr16 (by decide) ?_ | with_reducible refine Val.shr24 (by decide) ?_ | with_reducible refine Val.raw ?_ | refine Branch.not ?_ | refine Branch.and ?_ | refine Branch.or ?_ | refine Branch.dt (by assumption) ?_ | refine Branch.df (by assumption) ?_ | refine Branch.dt rfl ?_ | refine Branch.dt (by omega) ?_ | refine Branch.df (by omega) ?_ | refine Branch.t rfl ?_ | refine Branch.f rfl ?_ | refine Branch.t (by assumption) ?_ | refine Branch.f (by assumption) ?_ | refine Branch.d (fun _ => ?_) (fun _ => ?_) | refine Branch.mk (fun _ => ?_) (fun _ => ?_) | refine Need.mk (by first | omega | decide | rfl) ?_ | refine Idx.nat (by omega) ?_ | refine Idx.auto (by first | omega | decide) (by first | omega | decide) ?_ | refine Cell.ro rfl ?_ | refine SDraw.all (by kernel_rfl) ?_ | refine Kept.k0 ?_ | refine Kept.k1 ?_ | refine Kept.k2 ?_ | refine Kept.k3 ?_ | refine Kept.k4 ?_))
    · by_cases h8 : 8 < n
      · rw [show min n.toNat 8 = 8 by omega] at hK
        repeat' ((conv => whnf); (first | refine Branch.f rfl ?_ | refine Branch.dt (by omega) ?_ | refine Branch.df (by omega) ?_ | exact Keep.d1 hK | refine New.mk (fun _ => ?_) | refine Look.at0 ?_ | refine Cell.row ?_ | refine Cell.buf ?_ | refine Cells.row rfl ?_ | refine Put.row rfl ?_ | refine Put.buf rfl ?_ | refine Look.at1 ?_ | refine Look.at2 ?_ | refine Look.at3 ?_ | refine Look.at4 ?_ | refine Look.at5 ?_ | refine Look.at6 ?_ | refine Look.at7 ?_ | refine Look.at8 ?_ | with_reducible refine Val.i64 (by omega) (by omega) ?_ | with_reducible refine Val.u8 (by omega) (by omega) ?_ | with_reducible refine Val.u32 (by omega) (by omega) ?_ | with_reducible refine Val.u64 (by omega) (by omega) ?_ | with_reducible refine Val.u8m ?_ | with_reducible refine Val.u32m ?_ | with_reducible refine Val.u64m ?_ | with_reducible refine Val.shr8 ?_ | with_reducible refine Val.shr16 (by decide) ?_ | with_reducible refine Val.shr24 (by decide) ?_ | with_reducible refine Val.raw ?_ | refine Branch.not ?_ | refine Branch.and ?_ | refine Branch.or ?_ | refine Branch.dt (by assumption) ?_ | refine Branch.df (by assumption) ?_ | refine Branch.dt rfl ?_ | refine Branch.dt (by omega) ?_ | refine Branch.df (by omega) ?_ | refine Branch.t rfl ?_ | refine Branch.f rfl ?_ | refine Branch.t (by assumption) ?_ | refine Branch.f (by assumption) ?_ | refine Branch.d (fun _ => ?_) (fun _ => ?_) | refine Branch.mk (fun _ => ?_) (fun _ => ?_) | refine Need.mk (by first | omega | decide | rfl) ?_ | refine Idx.nat (by omega) ?_ | refine Idx.auto (by first | omega | decide) (by first | omega | decide) ?_ | refine Cell.ro rfl ?_ | refine SDraw.all (by kernel_rfl) ?_ | refine Kept.k0 ?_ | refine Kept.k1 ?_ | refine Kept.k2 ?_ | refine Kept.k3 ?_ | refine Kept.k4 ?_))
      · rw [show ((min n.toNat 8 : Nat) : Int) = n by omega] at hK
        repeat' ((conv => whnf); (first | refine Branch.f rfl ?_ | refine Branch.dt (by omega) ?_ | refine Branch.df (by omega) ?_ | exact Keep.d1 hK | refine New.mk (fun _ => ?_) | refine Look.at0 ?_ | refine Cell.row ?_ | refine Cell.buf ?_ | refine Cells.row rfl ?_ | refine Put.row rfl ?_ | refine Put.buf rfl ?_ | refine Look.at1 ?_ | refine Look.at2 ?_ | refine Look.at3 ?_ | refine Look.at4 ?_ | refine Look.at5 ?_ | refine Look.at6 ?_ | refine Look.at7 ?_ | refine Look.at8 ?_ | with_reducible refine Val.i64 (by omega) (by omega) ?_ | with_reducible refine Val.u8 (by omega) (by omega) ?_ | with_reducible refine Val.u32 (by omega) (by omega) ?_ | with_reducible refine Val.u64 (by omega) (by omega) ?_ | with_reducible refine Val.u8m ?_ | with_reducible refine Val.u32m ?_ | with_reducible refine Val.u64m ?_ | with_reducible refine Val.shr8 ?_ | with_reducible refine Val.shr16 (by decide) ?_ | with_reducible refine Val.shr24 (by decide) ?_ | with_reducible refine Val.raw ?_ | refine Branch.not ?_ | refine Branch.and ?_ | refine Branch.or ?_ | refine Branch.dt (by assumption) ?_ | refine Branch.df (by assumption) ?_ | refine Branch.dt rfl ?_ | refine Branch.dt (by omega) ?_ | refine Branch.df (by omega) ?_ | refine Branch.t rfl ?_ | refine Branch.f rfl ?_ | refine Branch.t (by assumption) ?_ | refine Branch.f (by assumption) ?_ | refine Branch.d (fun _ => ?_) (fun _ => ?_) | refine Branch.mk (fun _ => ?_) (fun _ => ?_) | refine Need.mk (by first | omega | decide | rfl) ?_ | refine Idx.nat (by omega) ?_ | refine Idx.auto (by first | omega | decide) (by first | omega | decide) ?_ | refine Cell.ro rfl ?_ | refine SDraw.all (by kernel_rfl) ?_ | refine Kept.k0 ?_ | refine Kept.k1 ?_ | refine Kept.k2 ?_ | refine Kept.k3 ?_ | refine Kept.k4 ?_))
theorem nine {k : Nat} (h : k ≤ 8) : k = 0 ∨ k = 1 ∨ k = 2 ∨ k = 3 ∨ k = 4 ∨ k = 5 ∨ k = 6 ∨ k = 7 ∨ k = 8 := by omega
theorem c41 {f : Fm} (hK : K (frV (plF f)) H) : SCalls Tryd.prog 41 [frV f] H K := by
  have h51 := fun H (K : Value → Heap → Prop) hk => c51 (f := f) (K := K) (H := H) hk
  unfold plF at hK
  have hn := nb_le f
  generalize nb f = k at *
  obtain ⟨id, x, rm, n, d0, d1, d2, d3, d4, d5, d6, d7⟩ := f
  dsimp only [frV, frC]
  refine enter41 ?_
  have hc : ∀ (r : Nat) (o : Oper) (xx xl : Operand) (K2 : Value → Heap → Prop) (H2 : Heap), o.op = .slice 24 xx (some xl) none none →
      (∀ o', (k < 8 ∧ o' = 4 + k ∨ k = 8 ∧ o' = 4) → K2 (.slice (some ⟨r, o', none⟩) (8 - k) (8 - k)) H2) → RawV Tryd.prog o [.pointer (some ⟨r, 4, none⟩), .int .i64 (k : Int)] H2 K2 := by
    intro r o xx xl K2 H2 ho hk
    by_cases h8 : k < 8
    · exact RawV.sliceArrFrom (e := 5) ho (by kernel_rfl) (by kernel_rfl) h8 (hk _ (.inl ⟨h8, rfl⟩))
    · obtain rfl : k = 8 := by omega
      exact RawV.sliceArrEnd (n := 8) (e := 5) ho (by kernel_rfl) (by kernel_rfl) (hk _ (.inr ⟨rfl, rfl⟩))
  have hcl : ∀ (q : Nat × Blk) (r o' : Nat) (o : Oper) (xx : Operand) (K2 : Value → Heap → Prop), (k < 8 ∧ o' = 4 + k ∨ k = 8 ∧ o' = 4) → o.op = .call { callee := .builtin .clear, args := #[xx], argTypes := #[85] } →
      K2 (.tuple ⟨[]⟩) (q :: (r, .row 26 (frC (zs ⟨id, x, rm, n, d0, d1, d2, d3, d4, d5, d6, d7⟩ k 8)) (0, 0)) :: H) → RawV Tryd.prog o [.slice (some ⟨r, o', none⟩) (8 - k) (8 - k)] (q :: (r, .row 26 (frC ⟨id, x, rm, n, d0, d1, d2, d3, d4, d5, d6, d7⟩) (0, 0)) :: H) K2 := by
    intro q r o' o xx K2 ho' ho hk
    refine RawV.clearRow (A := [q]) (e := 5) (bytes := 1) (zv := .int .u8 0) ho (by kernel_rfl) (by kernel_rfl) rfl rfl (by show o' + (8 - k) ≤ 12; omega) ?_
    rcases nine hn with rfl | rfl | rfl | rfl | rfl | rfl | rfl | rfl | rfl <;> rcases ho' with ⟨h, rfl⟩ | ⟨h, rfl⟩ <;> first | (exfalso; omega) | exact hk
  repeat' ((conv => whnf); (first | refine h51 _ _ ?_ | refine hc _ _ _ _ _ _ rfl (fun o' ho' => ?_) | refine hcl _ _ _ _ _ _ ho' rfl ?_ | exact Keep.d2 hK | refine New.mk (fun _ => ?_) | refine Look.at0 ?_ | refine Cell.row ?_ | refine Cell.buf ?_ | refine Cells.row rfl ?_ | refine Put.row rfl ?_ | refine Put.buf rfl ?_ | refine Look.at1 ?_ | refine Look.at2 ?_ | refine Look.at3 ?_ | refine Look.at4 ?_ | refine Look.at5 ?_ | refine Look.at6 ?_ | refine Look.at7 ?_ | refine Look.at8 ?_ | with_reducible refine Val.i64 (by omega) (by omega) ?_ | with_reducible refine Val.u8 (by omega) (by omega) ?_ | with_reducible refine Val.u32 (by omega) (by omega) ?_ | with_reducible refine Val.u64 (by omega) (by omega) ?_ | with_reducible refine Val.u8m ?_ | with_reducible refine Val.u32m ?_ | with_reducible refine Val.u64m ?_ | with_reducible refine Val.shr8 ?_ | with_reducible refine Val.shr16 (by decide) ?_ | with_reducible refine Val.shr24 (by decide) ?_ | with_reducible refine Val.raw ?_ | refine Branch.not ?_ | refine Branch.and ?_ | refine Branch.or ?_ | refine Branch.dt (by assumption) ?_ | refine Branch.df (by assumption) ?_ | refine Branch.dt rfl ?_ | refine Branch.dt (by omega) ?_ | refine Branch.df (by omega) ?_ | refine Branch.t rfl ?_ | refine Branch.f rfl ?_ | refine Branch.t (by assumption) ?_ | refine Branch.f (by assumption) ?_ | refine Branch.d (fun _ => ?_) (fun _ => ?_) | refine Branch.mk (fun _ => ?_) (fun _ => ?_) | refine Need.mk (by first | omega | decide | rfl) ?_ | refine Idx.nat (by omega) ?_ | refine Idx.auto (by first | omega | decide) (by first | omega | decide) ?_ | refine Cell.ro rfl ?_ | refine SDraw.all (by kernel_rfl) ?_ | refine Kept.k0 ?_ | refine Kept.k1 ?_ | refine Kept.k2 ?_ | refine Kept.k3 ?_ | refine Kept.k4 ?_))
theorem c25 {f : Fm} (hK : K (frV (plF f)) H) : SCalls Tryd.prog 25 [frV f] H K := by
  refine enter25 ?_
  repeat' ((conv => whnf); (first | refine c41 ?_ | exact Keep.d2 hK | refine New.mk (fun _ => ?_) | refine Look.at0 ?_ | refine Cell.row ?_ | refine Cell.buf ?_ | refine Cells.row rfl ?_ | refine Put.row rfl ?_ | refine Put.buf rfl ?_ | refine Look.at1 ?_ | refine Look.at2 ?_ | refine Look.at3 ?_ | refine Look.at4 ?_ | refine Look.at5 ?_ | refine Look.at6 ?_ | refine Look.at7 ?_ | refine Look.at8 ?_ | with_reducible refine Val.i64 (by omega) (by omega) ?_ | with_reducible refine Val.u8 (by omega) (by omega) ?_ | with_reducible refine Val.u32 (by omega) (by omega) ?_ | with_reducible refine Val.u64 (by omega) (by omega) ?_ | with_reducible refine Val.u8m ?_ | with_reducible refine Val.u32m ?_ | with_reducible refine Val.u64m ?_ | with_reducible refine Val.shr8 ?_ | with_reducible refine Val.shr16 (by decide) ?_ | with_reducible refine Val.shr24 (by decide) ?_ | with_reducible refine Val.raw ?_ | refine Branch.not ?_ | refine Branch.and ?_ | refine Branch.or ?_ | refine Branch.dt (by assumption) ?_ | refine Branch.df (by assumption) ?_ | refine Branch.dt rfl ?_ | refine Branch.dt (by omega) ?_ | refine Branch.df (by omega) ?_ | refine Branch.t rfl ?_ | refine Branch.f rfl ?_ | refine Branch.t (by assumption) ?_ | refine Branch.f (by assumption) ?_ | refine Branch.d (fun _ => ?_) (fun _ => ?_) | refine Branch.mk (fun _ => ?_) (fun _ => ?_) | refine Need.mk (by first | omega | decide | rfl) ?_ | refine Idx.nat (by omega) ?_ | refine Idx.auto (by first | omega | decide) (by first | omega | decide) ?_ | refine Cell.ro rfl ?_ | refine SDraw.all (by kernel_rfl) ?_ | refine Kept.k0 ?_ | refine Kept.k1 ?_ | refine Kept.k2 ?_ | refine Kept.k3 ?_ | refine Kept.k4 ?_))
end
end Go.Proofs.YthgpikgbhkcnbaaDoor

/- Layer 2, in layer 5: a frame without what plays no part (the document's); a frame's arbitration field: by walks. -/
set_option linter.unusedVariables false
set_option linter.unusedSimpArgs false
set_option maxRecDepth 100000
set_option maxHeartbeats 4000000
namespace Go.Proofs.YthgpikgbhkcnbaaDoor
open Sx
theorem zs_self (f : Fm) (m : Nat) : zs f m m = f := by
  obtain ⟨id, x, rm, n, d0, d1, d2, d3, d4, d5, d6, d7⟩ := f
  unfold zs
  dsimp only
  congr 1 <;> exact if_neg (by omega)
theorem zs_set (f : Fm) {m k : Nat} (hm : m ≤ k) (hk : k < 8) : frC (zs f m (k + 1)) = (frC (zs f m k)).set (4 + k) (.int .u8 0) := by
  obtain ⟨id, x, rm, n, d0, d1, d2, d3, d4, d5, d6, d7⟩ := f
  rcases nine (by omega : k ≤ 8) with rfl | rfl | rfl | rfl | rfl | rfl | rfl | rfl | rfl
  all_goals first | (exfalso; omega) | (simp [zs, hm]; done)
theorem set_cut {α : Type} {l : List α} {o : Nat} {v : α} (h : o < l.length) : l.take o ++ [v] ++ l.drop (o + 1) = l.set o v := by
  rw [List.set_eq_take_append_cons_drop, if_pos h]; simp
inductive S13 (A1 A2 A3 : Value) : List Value → Prop
  | mk {r0 r4 r5 r6 r7 r8 r9 r10 r11 r12 r13 : Value} : S13 A1 A2 A3 [r0, A1, A2, A3, r4, r5, r6, r7, r8, r9, r10, r11, r12, r13]
def fb (b : Bool) : UInt8 := if b then 49 else 48
def fldB (id : Nat) (x r : Bool) : List UInt8 := if x then numB 11 (id / 2 ^ 18) ++ [49, 49] ++ numB 18 (id % 2 ^ 18) ++ [fb r] else numB 11 id ++ [fb r] ++ [48]
/-- A frame's arbitration field, and what is wrong with the frame. -/
def fld (f : Fm) : List UInt8 := fldB f.id f.x f.r
def fV (f : Fm) : List UInt8 × Int := if okF f then (fld f, 0) else ([], 1)
theorem bt89 : BT 89 0 := by unfold BT; kernel_rfl
theorem fldB_len (id : Nat) (x r : Bool) : (fldB id x r).length ≤ 32 := by
  unfold fldB
  split <;> simp [numB_len]
section
variable {K : Value → Heap → Prop} {H : Heap}
theorem c13 {f : Fm} (hK : K (frV (plF f)) H) : SCalls Tryd.prog 13 [frV f] H K := by
  have h28 := fun H (K : Value → Heap → Prop) hk => c28 (f := f) (K := K) (H := H) hk
  unfold plF at hK
  have hn := nb_le f
  generalize nb f = m at *
  have h0 := zs_self f m
  refine enter13 ?_
  repeat' ((conv => whnf); (first | refine h28 _ _ ?_ | refine New.mk (fun _ => ?_) | refine Look.at0 ?_ | refine Cell.row ?_ | refine Cell.buf ?_ | refine Cells.row rfl ?_ | refine Put.row rfl ?_ | refine Put.buf rfl ?_ | refine Look.at1 ?_ | refine Look.at2 ?_ | refine Look.at3 ?_ | refine Look.at4 ?_ | refine Look.at5 ?_ | refine Look.at6 ?_ | refine Look.at7 ?_ | refine Look.at8 ?_ | with_reducible refine Val.i64 (by omega) (by omega) ?_ | with_reducible refine Val.u8 (by omega) (by omega) ?_ | with_reducible refine Val.u32 (by omega) (by omega) ?_ | with_reducible refine Val.u64 (by omega) (by omega) ?_ | with_reducible refine Val.u8m ?_ | with_reducible refine Val.u32m ?_ | with_reducible refine Val.u64m ?_ | with_reducible refine Val.shr8 ?_ | with_reducible refine Val.shr16 (by decide) ?_ | with_reducible refine Val.shr24 (by decide) ?_ | with_reducible refine Val.raw ?_ | refine Branch.not ?_ | refine Branch.and ?_ | refine Branch.or ?_ | refine Branch.dt (by assumption) ?_ | refine Branch.df (by assumption) ?_ | refine Branch.dt rfl ?_ | refine Branch.dt (by omega) ?_ | refine Branch.df (by omega) ?_ | refine Branch.t rfl ?_ | refine Branch.f rfl ?_ | refine Branch.t (by assumption) ?_ | refine Branch.f (by assumption) ?_ | refine Branch.d (fun _ => ?_) (fun _ => ?_) | refine Branch.mk (fun _ => ?_) (fun _ => ?_) | refine Need.mk (by first | omega | decide | rfl) ?_ | refine Idx.nat (by omega) ?_ | refine Idx.auto (by first | omega | decide) (by first | omega | decide) ?_ | refine Cell.ro rfl ?_ | refine SDraw.all (by kernel_rfl) ?_ | refine Kept.k0 ?_ | refine Kept.k1 ?_ | refine Kept.k2 ?_ | refine Kept.k3 ?_ | refine Kept.k4 ?_))
  rename_i a b
  refine SLoop.invA (fun (k : Nat) S H' => m ≤ k ∧ k ≤ 8 ∧ S13 (ptr a) (ptr b) (.int .i64 (k : Int)) S ∧ H' = (b, .row 26 [.int .u32 0, .bool false, .bool false, .int .i64 0, .int .u8 0, .int .u8 0, .int .u8 0, .int .u8 0, .int .u8 0, .int .u8 0, .int .u8 0, .int .u8 0] (0, 0)) :: (a, .row 26 (frC (zs f m k)) (0, 0)) :: H) (fun k => 8 - k) m (Keep.all ⟨Nat.le_refl _, hn, .mk, by rw [h0]⟩) ?_
  rintro k S H' ⟨h1, h2, hS, rfl⟩ R hR
  cases hS
  by_cases h8 : k < 8
  · have hput : PutOk (.row 26 (frC (zs f m k)) (0, 0)) (0 + 4 + k * 1) [.int .u8 0] (.row 26 (frC (zs f m (k + 1))) (0, 0)) := PutOk.row (by show 0 + 4 + k * 1 + 1 ≤ 12; omega) (by
      rw [zs_set f h1 h8, ← set_cut (show 4 + k < 12 by omega), Nat.zero_add, Nat.mul_one]; rfl)
    have hnext := fun S hS => hR (k + 1) S _ (by omega) (Keep.all ⟨by omega, h8, hS, rfl⟩)
    clear hR hK
    repeat' ((conv => whnf); (first | refine Branch.dt (by omega) ?_ | refine Idx.nat h8 ?_ | refine ⟨[_], _, H, rfl, _, hput, appK_to ?_⟩ | exact hnext _ .mk | refine New.mk (fun _ => ?_) | refine Look.at0 ?_ | refine Cell.row ?_ | refine Cell.buf ?_ | refine Cells.row rfl ?_ | refine Put.row rfl ?_ | refine Put.buf rfl ?_ | refine Look.at1 ?_ | refine Look.at2 ?_ | refine Look.at3 ?_ | refine Look.at4 ?_ | refine Look.at5 ?_ | refine Look.at6 ?_ | refine Look.at7 ?_ | refine Look.at8 ?_ | with_reducible refine Val.i64 (by omega) (by omega) ?_ | with_reducible refine Val.u8 (by omega) (by omega) ?_ | with_reducible refine Val.u32 (by omega) (by omega) ?_ | with_reducible refine Val.u64 (by omega) (by omega) ?_ | with_reducible refine Val.u8m ?_ | with_reducible refine Val.u32m ?_ | with_reducible refine Val.u64m ?_ | with_reducible refine Val.shr8 ?_ | with_reducible refine Val.shr16 (by decide) ?_ | with_reducible refine Val.shr24 (by decide) ?_ | with_reducible refine Val.raw ?_ | refine Branch.not ?_ | refine Branch.and ?_ | refine Branch.or ?_ | refine Branch.dt (by assumption) ?_ | refine Branch.df (by assumption) ?_ | refine Branch.dt rfl ?_ | refine Branch.dt (by omega) ?_ | refine Branch.df (by omega) ?_ | refine Branch.t rfl ?_ | refine Branch.f rfl ?_ | refine Branch.t (by assumption) ?_ | refine Branch.f (by assumption) ?_ | refine Branch.d (fun _ => ?_) (fun _ => ?_) | refine Branch.mk (fun _ => ?_) (fun _ => ?_) | refine Need.mk (by first | omega | decide | rfl) ?_ | refine Idx.nat (by omega) ?_ | refine Idx.auto (by first | omega | decide) (by first | omega | decide) ?_ | refine Cell.ro rfl ?_ | refine SDraw.all (by kernel_rfl) ?_ | refine Kept.k0 ?_ | refine Kept.k1 ?_ | refine Kept.k2 ?_ | refine Kept.k3 ?_ | refine Kept.k4 ?_))
  · obtain rfl : k = 8 := by omega
    clear hR
    repeat' ((conv => whnf); (first | refine Branch.df (by omega) ?_ | exact Keep.d2 hK | refine New.mk (fun _ => ?_) | refine Look.at0 ?_ | refine Cell.row ?_ | refine Cell.buf ?_ | refine Cells.row rfl ?_ | refine Put.row rfl ?_ | refine Put.buf rfl ?_ | refine Look.at1 ?_ | refine Look.at2 ?_ | refine Look.at3 ?_ | refine Look.at4 ?_ | refine Look.at5 ?_ | refine Look.at6 ?_ | refine Look.at7 ?_ | refine Look.at8 ?_ | with_reducible refine Val.i64 (by omega) (by omega) ?_ | with_reducible refine Val.u8 (by omega) (by omega) ?_ | with_reducible refine Val.u32 (by omega) (by omega) ?_ | with_reducible refine Val.u64 (by omega) (by omega) ?_ | with_reducible refine Val.u8m ?_ | with_reducible refine Val.u32m ?_ | with_reducible refine Val.u64m ?_ | with_reducible refine Val.shr8 ?_ | with_reducible refine Val.shr16 (by decide) ?_ | with_reducible refine Val.shr24 (by decide) ?_ | with_reducible refine Val.raw ?_ | refine Branch.not ?_ | refine Branch.and ?_ | refine Branch.or ?_ | refine Branch.dt (by assumption) ?_ | refine Branch.df (by assumption) ?_ | refine Branch.dt rfl ?_ | refine Branch.dt (by omega) ?_ | refine Branch.df (by omega) ?_ | refine Branch.t rfl ?_ | refine Branch.f rfl ?_ | refine Branch.t (by assumption) ?_ | refine Branch.f (by assumption) ?_ | refine Branch.d (fun _ => ?_) (fun _ => ?_) | refine Branch.mk (fun _ => ?_) (fun _ => ?_) | refine Need.mk (by first | omega | decide | rfl) ?_ | refine Idx.nat (by omega) ?_ | refine Idx.auto (by first | omega | decide) (by first | omega | decide) ?_ | refine Cell.ro rfl ?_ | refine SDraw.all (by kernel_rfl) ?_ | refine Kept.k0 ?_ | refine Kept.k1 ?_ | refine Kept.k2 ?_ | refine Kept.k3 ?_ | refine Kept.k4 ?_))
theorem c58 {w : Int} {n : Nat} (hn : n < 2 ^ 64) (hK : K (.string (strOf (numV n w).1)) H) : SCalls Tryd.prog 58 [.int .u64 (n : Int), .int .i64 w] H K := by
  refine enter58 ?_
  repeat' ((conv => whnf); (first | refine c63 hn ?_ | exact Keep.all hK | refine New.mk (fun _ => ?_) | refine Look.at0 ?_ | refine Cell.row ?_ | refine Cell.buf ?_ | refine Cells.row rfl ?_ | refine Put.row rfl ?_ | refine Put.buf rfl ?_ | refine Look.at1 ?_ | refine Look.at2 ?_ | refine Look.at3 ?_ | refine Look.at4 ?_ | refine Look.at5 ?_ | refine Look.at6 ?_ | refine Look.at7 ?_ | refine Look.at8 ?_ | with_reducible refine Val.i64 (by omega) (by omega) ?_ | with_reducible refine Val.u8 (by omega) (by omega) ?_ | with_reducible refine Val.u32 (by omega) (by omega) ?_ | with_reducible refine Val.u64 (by omega) (by omega) ?_ | with_reducible refine Val.u8m ?_ | with_reducible refine Val.u32m ?_ | with_reducible refine Val.u64m ?_ | with_reducible refine Val.shr8 ?_ | with_reducible refine Val.shr16 (by decide) ?_ | with_reducible refine Val.shr24 (by decide) ?_ | with_reducible refine Val.raw ?_ | refine Branch.not ?_ | refine Branch.and ?_ | refine Branch.or ?_ | refine Branch.dt (by assumption) ?_ | refine Branch.df (by assumption) ?_ | refine Branch.dt rfl ?_ | refine Branch.dt (by omega) ?_ | refine Branch.df (by omega) ?_ | refine Branch.t rfl ?_ | refine Branch.f rfl ?_ | refine Branch.t (by assumption) ?_ | refine Branch.f (by assumption) ?_ | refine Branch.d (fun _ => ?_) (fun _ => ?_) | refine Branch.mk (fun _ => ?_) (fun _ => ?_) | refine Need.mk (by first | omega | decide | rfl) ?_ | refine Idx.nat (by omega) ?_ | refine Idx.auto (by first | omega | decide) (by first | omega | decide) ?_ | refine Cell.ro rfl ?_ | refine SDraw.all (by kernel_rfl) ?_ | refine Kept.k0 ?_ | refine Kept.k1 ?_ | refine Kept.k2 ?_ | refine Kept.k3 ?_ | refine Kept.k4 ?_))
theorem c59 {b : Bool} (hK : K (.string (strOf [fb b])) H) : SCalls Tryd.prog 59 [.bool b] H K := by
  refine enter59 ?_
  cases b with
  | true =>
    repeat' ((conv => whnf); (first | refine Branch.t rfl ?_ | exact Keep.all hK | refine New.mk (fun _ => ?_) | refine Look.at0 ?_ | refine Cell.row ?_ | refine Cell.buf ?_ | refine Cells.row rfl ?_ | refine Put.row rfl ?_ | refine Put.buf rfl ?_ | refine Look.at1 ?_ | refine Look.at2 ?_ | refine Look.at3 ?_ | refine Look.at4 ?_ | refine Look.at5 ?_ | refine Look.at6 ?_ | refine Look.at7 ?_ | refine Look.at8 ?_ | with_reducible refine Val.i64 (by omega) (by omega) ?_ | with_reducible refine Val.u8 (by omega) (by omega) ?_ | with_reducible refine Val.u32 (by omega) (by omega) ?_ | with_reducible refine Val.u64 (by omega) (by omega) ?_ | with_reducible refine Val.u8m ?_ | with_reducible refine Val.u32m ?_ | with_reducible refine Val.u64m ?_ | with_reducible refine Val.shr8 ?_ | with_reducible refine Val.shr16 (by decide) ?_ | with_reducible refine Val.shr24 (by decide) ?_ | with_reducible refine Val.raw ?_ | refine Branch.not ?_ | refine Branch.and ?_ | refine Branch.or ?_ | refine Branch.dt (by assumption) ?_ | refine Branch.df (by assumption) ?_ | refine Branch.dt rfl ?_ | refine Branch.dt (by omega) ?_ | refine Branch.df (by omega) ?_ | refine Branch.t rfl ?_ | refine Branch.f rfl ?_ | refine Branch.t (by assumption) ?_ | refine Branch.f (by assumption) ?_ | refine Branch.d (fun _ => ?_) (fun _ => ?_) | refine Branch.mk (fun _ => ?_) (fun _ => ?_) | refine Need.mk (by first | omega | decide | rfl) ?_ | refine Idx.nat (by omega) ?_ | refine Idx.auto (by first | omega | decide) (by first | omega | decide) ?_ | refine Cell.ro rfl ?_ | refine SDraw.all (by kernel_rfl) ?_ | refine Kept.k0 ?_ | refine Kept.k1 ?_ | refine Kept.k2 ?_ | refine Kept.k3 ?_ | refine Kept.k4 ?_))
  | false =>
    repeat' ((conv => whnf); (first | refine Branch.f rfl ?_ | exact Keep.all hK | refine New.mk (fun _ => ?_) | refine Look.at0 ?_ | refine Cell.row ?_ | refine Cell.buf ?_ | refine Cells.row rfl ?_ | refine Put.row rfl ?_ | refine Put.buf rfl ?_ | refine Look.at1 ?_ | refine Look.at2 ?_ | refine Look.at3 ?_ | refine Look.at4 ?_ | refine Look.at5 ?_ | refine Look.at6 ?_ | refine Look.at7 ?_ | refine Look.at8 ?_ | with_reducible refine Val.i64 (by omega) (by omega) ?_ | with_reducible refine Val.u8 (by omega) (by omega) ?_ | with_reducible refine Val.u32 (by omega) (by omega) ?_ | with_reducible refine Val.u64 (by omega) (by omega) ?_ | with_reducible refine Val.u8m ?_ | with_reducible refine Val.u32m ?_ | with_reducible refine Val.u64m ?_ | with_reducible refine Val.shr8 ?_ | with_reducible refine Val.shr16 (by decide) ?_ | with_reducible refine Val.shr24 (by decide) ?_ | with_reducible refine Val.raw ?_ | refine Branch.not ?_ | refine Branch.and ?_ | refine Branch.or ?_ | refine Branch.dt (by assumption) ?_ | refine Branch.df (by assumption) ?_ | refine Branch.dt rfl ?_ | refine Branch.dt (by omega) ?_ | refine Branch.df (by omega) ?_ | refine Branch.t rfl ?_ | refine Branch.f rfl ?_ | refine Branch.t (by assumption) ?_ | refine Branch.f (by assumption) ?_ | refine Branch.d (fun _ => ?_) (fun _ => ?_) | refine Branch.mk (fun _ => ?_) (fun _ => ?_) | refine Need.mk (by first | omega | decide | rfl) ?_ | refine Idx.nat (by omega) ?_ | refine Idx.auto (by first | omega | decide) (by first | omega | decide) ?_ | refine Cell.ro rfl ?_ | refine SDraw.all (by kernel_rfl) ?_ | refine Kept.k0 ?_ | refine Kept.k1 ?_ | refine Kept.k2 ?_ | refine Kept.k3 ?_ | refine Kept.k4 ?_))
theorem c52 {T r w : Nat} {bs : List UInt8} {N : Heap} {n : Nat} (hT : BT T 0) (hD : Db H) (hN : Bld T r [] bs N) (hn : n < 2 ^ 64) (hl : bs.length + (numV n w).1.length ≤ 140737488355328) (hK : ∀ N', Bld T r [] (bs ++ (numV n w).1) N' → K (.tuple ⟨[]⟩) (N' ++ H)) :
    SCalls Tryd.prog 52 [ptr r, .int .u64 (n : Int), .int .i64 (w : Int)] (N ++ H) K := by
  refine enter52 ?_
  have h53 : ∀ K2 : Value → Heap → Prop, (∀ N', Bld T r [] (bs ++ (numV n w).1) N' → K2 (.tuple ⟨[.int .i64 ((numV n w).1.length : Int), .nilIface]⟩) (N' ++ H)) → SCalls Tryd.prog 53 [ptr r, .string (strOf (numV n w).1)] (N ++ H) K2 :=
    fun K2 hk => SCalls.midH [] H (c53 (pre := []) (T := T) hT hN hl (fun N' h => hk N' h))
  have hD' : Db (N ++ H) := hD.mono fun p hp => List.mem_append_right _ hp
  clear hN hD
  repeat' ((conv => whnf); (first | refine c56 hD' hn ?_ | with_reducible refine h53 _ (fun N' hN' => ?_) | exact Keep.all (hK _ hN') | refine New.mk (fun _ => ?_) | refine Look.at0 ?_ | refine Cell.row ?_ | refine Cell.buf ?_ | refine Cells.row rfl ?_ | refine Put.row rfl ?_ | refine Put.buf rfl ?_ | refine Look.at1 ?_ | refine Look.at2 ?_ | refine Look.at3 ?_ | refine Look.at4 ?_ | refine Look.at5 ?_ | refine Look.at6 ?_ | refine Look.at7 ?_ | refine Look.at8 ?_ | with_reducible refine Val.i64 (by omega) (by omega) ?_ | with_reducible refine Val.u8 (by omega) (by omega) ?_ | with_reducible refine Val.u32 (by omega) (by omega) ?_ | with_reducible refine Val.u64 (by omega) (by omega) ?_ | with_reducible refine Val.u8m ?_ | with_reducible refine Val.u32m ?_ | with_reducible refine Val.u64m ?_ | with_reducible refine Val.shr8 ?_ | with_reducible refine Val.shr16 (by decide) ?_ | with_reducible refine Val.shr24 (by decide) ?_ | with_reducible refine Val.raw ?_ | refine Branch.not ?_ | refine Branch.and ?_ | refine Branch.or ?_ | refine Branch.dt (by assumption) ?_ | refine Branch.df (by assumption) ?_ | refine Branch.dt rfl ?_ | refine Branch.dt (by omega) ?_ | refine Branch.df (by omega) ?_ | refine Branch.t rfl ?_ | refine Branch.f rfl ?_ | refine Branch.t (by assumption) ?_ | refine Branch.f (by assumption) ?_ | refine Branch.d (fun _ => ?_) (fun _ => ?_) | refine Branch.mk (fun _ => ?_) (fun _ => ?_) | refine Need.mk (by first | omega | decide | rfl) ?_ | refine Idx.nat (by omega) ?_ | refine Idx.auto (by first | omega | decide) (by first | omega | decide) ?_ | refine Cell.ro rfl ?_ | refine SDraw.all (by kernel_rfl) ?_ | refine Kept.k0 ?_ | refine Kept.k1 ?_ | refine Kept.k2 ?_ | refine Kept.k3 ?_ | refine Kept.k4 ?_))
theorem c54 {T r : Nat} {b : Bool} {bs : List UInt8} {N : Heap} (hT : BT T 0) (hD : Db H) (hN : Bld T r [] bs N) (hl : bs.length ≤ 1000) (hK : ∀ N', Bld T r [] (bs ++ [fb b]) N' → K (.tuple ⟨[]⟩) (N' ++ H)) :
    SCalls Tryd.prog 54 [ptr r, .bool b] (N ++ H) K := by
  refine enter54 ?_
  cases b with
  | true =>
    have h52 : ∀ K2 : Value → Heap → Prop, (∀ N', Bld T r [] (bs ++ [49]) N' → K2 (.tuple ⟨[]⟩) (N' ++ H)) → SCalls Tryd.prog 52 [ptr r, .int .u64 1, .int .i64 1] (N ++ H) K2 :=
      fun K2 hk => c52 (K := K2) (w := 1) (n := 1) hT hD hN (by decide) (by show bs.length + 1 ≤ _; omega) hk
    have hK' : ∀ N', Bld T r [] (bs ++ [49]) N' → K (.tuple ⟨[]⟩) (N' ++ H) := hK
    clear hN hD
    repeat' ((conv => whnf); (first | refine Branch.t rfl ?_ | with_reducible refine h52 _ (fun N' hN' => ?_) | exact Keep.all (hK' _ hN') | refine New.mk (fun _ => ?_) | refine Look.at0 ?_ | refine Cell.row ?_ | refine Cell.buf ?_ | refine Cells.row rfl ?_ | refine Put.row rfl ?_ | refine Put.buf rfl ?_ | refine Look.at1 ?_ | refine Look.at2 ?_ | refine Look.at3 ?_ | refine Look.at4 ?_ | refine Look.at5 ?_ | refine Look.at6 ?_ | refine Look.at7 ?_ | refine Look.at8 ?_ | with_reducible refine Val.i64 (by omega) (by omega) ?_ | with_reducible refine Val.u8 (by omega) (by omega) ?_ | with_reducible refine Val.u32 (by omega) (by omega) ?_ | with_reducible refine Val.u64 (by omega) (by omega) ?_ | with_reducible refine Val.u8m ?_ | with_reducible refine Val.u32m ?_ | with_reducible refine Val.u64m ?_ | with_reducible refine Val.shr8 ?_ | with_reducible refine Val.shr16 (by decide) ?_ | with_reducible refine Val.shr24 (by decide) ?_ | with_reducible refine Val.raw ?_ | refine Branch.not ?_ | refine Branch.and ?_ | refine Branch.or ?_ | refine Branch.dt (by assumption) ?_ | refine Branch.df (by assumption) ?_ | refine Branch.dt rfl ?_ | refine Branch.dt (by omega) ?_ | refine Branch.df (by omega) ?_ | refine Branch.t rfl ?_ | refine Branch.f rfl ?_ | refine Branch.t (by assumption) ?_ | refine Branch.f (by assumption) ?_ | refine Branch.d (fun _ => ?_) (fun _ => ?_) | refine Branch.mk (fun _ => ?_) (fun _ => ?_) | refine Need.mk (by first | omega | decide | rfl) ?_ | refine Idx.nat (by omega) ?_ | refine Idx.auto (by first | omega | decide) (by first | omega | decide) ?_ | refine Cell.ro rfl ?_ | refine SDraw.all (by kernel_rfl) ?_ | refine Kept.k0 ?_ | refine Kept.k1 ?_ | refine Kept.k2 ?_ | refine Kept.k3 ?_ | refine Kept.k4 ?_))
  | false =>
    have h52 : ∀ K2 : Value → Heap → Prop, (∀ N', Bld T r [] (bs ++ [48]) N' → K2 (.tuple ⟨[]⟩) (N' ++ H)) → SCalls Tryd.prog 52 [ptr r, .int .u64 0, .int .i64 1] (N ++ H) K2 :=
      fun K2 hk => c52 (K := K2) (w := 1) (n := 0) hT hD hN (by decide) (by show bs.length + 1 ≤ _; omega) hk
    have hK' : ∀ N', Bld T r [] (bs ++ [48]) N' → K (.tuple ⟨[]⟩) (N' ++ H) := hK
    clear hN hD
    repeat' ((conv => whnf); (first | refine Branch.f rfl ?_ | with_reducible refine h52 _ (fun N' hN' => ?_) | exact Keep.all (hK' _ hN') | refine New.mk (fun _ => ?_) | refine Look.at0 ?_ | refine Cell.row ?_ | refine Cell.buf ?_ | refine Cells.row rfl ?_ | refine Put.row rfl ?_ | refine Put.buf rfl ?_ | refine Look.at1 ?_ | refine Look.at2 ?_ | refine Look.at3 ?_ | refine Look.at4 ?_ | refine Look.at5 ?_ | refine Look.at6 ?_ | refine Look.at7 ?_ | refine Look.at8 ?_ | with_reducible refine Val.i64 (by omega) (by omega) ?_ | with_reducible refine Val.u8 (by omega) (by omega) ?_ | with_reducible refine Val.u32 (by omega) (by omega) ?_ | with_reducible refine Val.u64 (by omega) (by omega) ?_ | with_reducible refine Val.u8m ?_ | with_reducible refine Val.u32m ?_ | with_reducible refine Val.u64m ?_ | with_reducible refine Val.shr8 ?_ | with_reducible refine Val.shr16 (by decide) ?_ | with_reducible refine Val.shr24 (by decide) ?_ | with_reducible refine Val.raw ?_ | refine Branch.not ?_ | refine Branch.and ?_ | refine Branch.or ?_ | refine Branch.dt (by assumption) ?_ | refine Branch.df (by assumption) ?_ | refine Branch.dt rfl ?_ | refine Branch.dt (by omega) ?_ | refine Branch.df (by omega) ?_ | refine Branch.t rfl ?_ | refine Branch.f rfl ?_ | refine Branch.t (by assumption) ?_ | refine Branch.f (by assumption) ?_ | refine Branch.d (fun _ => ?_) (fun _ => ?_) | refine Branch.mk (fun _ => ?_) (fun _ => ?_) | refine Need.mk (by first | omega | decide | rfl) ?_ | refine Idx.nat (by omega) ?_ | refine Idx.auto (by first | omega | decide) (by first | omega | decide) ?_ | refine Cell.ro rfl ?_ | refine SDraw.all (by kernel_rfl) ?_ | refine Kept.k0 ?_ | refine Kept.k1 ?_ | refine Kept.k2 ?_ | refine Kept.k3 ?_ | refine Kept.k4 ?_))
theorem c42 {f : Fm} {T r : Nat} {bs : List UInt8} {N : Heap} (hT : BT T 0) (hid : okF f = true) (hD : Db H) (hN : Bld T r [] bs N) (hl : bs.length ≤ 100) (hK : ∀ N', Bld T r [] (bs ++ fld f) N' → K (.tuple ⟨[]⟩) (N' ++ H)) :
    SCalls Tryd.prog 42 [ptr r, frV f] (N ++ H) K := by
  obtain ⟨id, x, rm, n, d0, d1, d2, d3, d4, d5, d6, d7⟩ := f
  unfold okF at hid
  unfold fld fldB at hK
  dsimp only [frV, frC] at hid hK ⊢
  refine enter42 ?_
  have h18 : shrI .u32 (id : Int) 18 = ((id / 2 ^ 18 : Nat) : Int) := shr_nat (k := .u32) (n := 18) (by decide)
  have big : (2 : Nat) ^ 64 = 18446744073709551616 := rfl
  cases x with
  | true =>
    simp only [Bool.and_eq_true, decide_eq_true_eq, if_true] at hid hK
    have hand : bitAnd .u32 (id : Int) 262143 = ((id % 2 ^ 18 : Nat) : Int) := bitMask_nat (k := .u32) rfl (a := id) (n := 18) (by show id < 4294967296; omega) (by decide)
    have n1 : (numV (id / 2 ^ 18) (11 : Nat)).1 = numB 11 (id / 2 ^ 18) := by
      unfold numV
      rw [if_pos ⟨by decide, by decide, by show id / 2 ^ 18 < 2 ^ 11; omega⟩]; rfl
    have n2 : (numV (id % 2 ^ 18) (18 : Nat)).1 = numB 18 (id % 2 ^ 18) := by
      unfold numV
      rw [if_pos ⟨by decide, by decide, by show id % 2 ^ 18 < 2 ^ 18; omega⟩]; rfl
    rw [← List.append_assoc, ← List.append_assoc, ← List.append_assoc] at hK
    have h1 : ∀ q (K2 : Value → Heap → Prop), (∀ N', Bld T r [] (bs ++ numB 11 (id / 2 ^ 18)) N' → K2 (.tuple ⟨[]⟩) (q :: (N' ++ H))) → SCalls Tryd.prog 52 [ptr r, .int .u64 ((id / 2 ^ 18 : Nat) : Int), .int .i64 11] (q :: (N ++ H)) K2 := by
      intro q K2 hk
      exact SCalls.under [q] (c52 (w := 11) (n := id / 2 ^ 18) hT hD hN (by omega) (by rw [n1, numB_len]; omega) (by rw [n1]; exact hk))
    have h2 : ∀ q N1 (K2 : Value → Heap → Prop), Bld T r [] (bs ++ numB 11 (id / 2 ^ 18)) N1 → (∀ N', Bld T r [] (bs ++ numB 11 (id / 2 ^ 18) ++ [49, 49]) N' → K2 (.tuple ⟨[.int .i64 2, .nilIface]⟩) (q :: (N' ++ H))) → SCalls Tryd.prog 53 [ptr r, .string ⟨#[49, 49]⟩] (q :: (N1 ++ H)) K2 :=
      fun q N1 K2 hb hk => SCalls.midH [q] H (c53 (pre := []) (T := T) (l := [49, 49]) hT hb (by rw [List.length_append, numB_len]; show bs.length + 11 + 2 ≤ _; omega) (fun N' h => hk N' h))
    have h3 : ∀ q N1 (K2 : Value → Heap → Prop), Bld T r [] (bs ++ numB 11 (id / 2 ^ 18) ++ [49, 49]) N1 → (∀ N', Bld T r [] (bs ++ numB 11 (id / 2 ^ 18) ++ [49, 49] ++ numB 18 (id % 2 ^ 18)) N' → K2 (.tuple ⟨[]⟩) (q :: (N' ++ H))) → SCalls Tryd.prog 52 [ptr r, .int .u64 ((id % 2 ^ 18 : Nat) : Int), .int .i64 18] (q :: (N1 ++ H)) K2 := by
      intro q N1 K2 hb hk
      exact SCalls.under [q] (c52 (w := 18) (n := id % 2 ^ 18) hT hD hb (by omega) (by rw [n2, List.length_append, List.length_append, numB_len, numB_len]; show bs.length + 11 + 2 + 18 ≤ _; omega) (by rw [n2]; exact hk))
    have h4 : ∀ q N1 (K2 : Value → Heap → Prop), Bld T r [] (bs ++ numB 11 (id / 2 ^ 18) ++ [49, 49] ++ numB 18 (id % 2 ^ 18)) N1 → (∀ N', Bld T r [] (bs ++ numB 11 (id / 2 ^ 18) ++ [49, 49] ++ numB 18 (id % 2 ^ 18) ++ [fb rm]) N' → K2 (.tuple ⟨[]⟩) (q :: (N' ++ H))) → SCalls Tryd.prog 54 [ptr r, .bool rm] (q :: (N1 ++ H)) K2 :=
      fun q N1 K2 hb hk => SCalls.under [q] (c54 hT hD hb (by rw [List.length_append, List.length_append, List.length_append, numB_len, numB_len]; show bs.length + 11 + 2 + 18 ≤ _; omega) hk)
    have hk : ∀ q N', Bld T r [] (bs ++ numB 11 (id / 2 ^ 18) ++ [49, 49] ++ numB 18 (id % 2 ^ 18) ++ [fb rm]) N' → Keep (q :: (N' ++ H)) fun H' => K (.tuple ⟨[]⟩) H' := fun q N' h => Keep.d1 (hK N' h)
    have hw1 : id / 2 ^ 18 < 18446744073709551616 := by omega
    have hw2 : id % 2 ^ 18 < 18446744073709551616 := by omega
    clear hN hK
    repeat' ((conv => whnf); (first | with_reducible refine Val.to _ h18 ?_ | with_reducible refine Val.to _ hand ?_ | with_reducible refine h1 _ _ (fun N1 hb1 => ?_) | with_reducible refine h2 _ _ _ hb1 (fun N2 hb2 => ?_) | with_reducible refine h3 _ _ _ hb2 (fun N3 hb3 => ?_) | with_reducible refine h4 _ _ _ hb3 (fun N4 hb4 => ?_) | refine Branch.t rfl ?_ | exact hk _ _ hb4 | refine New.mk (fun _ => ?_) | refine Look.at0 ?_ | refine Cell.row ?_ | refine Cell.buf ?_ | refine Cells.row rfl ?_ | refine Put.row rfl ?_ | refine Put.buf rfl ?_ | refine Look.at1 ?_ | refine Look.at2 ?_ | refine Look.at3 ?_ | refine Look.at4 ?_ | refine Look.at5 ?_ | refine Look.at6 ?_ | refine Look.at7 ?_ | refine Look.at8 ?_ | with_reducible refine Val.i64 (by omega) (by omega) ?_ | with_reducible refine Val.u8 (by omega) (by omega) ?_ | with_reducible refine Val.u32 (by omega) (by omega) ?_ | with_reducible refine Val.u64 (by omega) (by omega) ?_ | with_reducible refine Val.u8m ?_ | with_reducible refine Val.u32m ?_ | with_reducible refine Val.u64m ?_ | with_reducible refine Val.shr8 ?_ | with_reducible refine Val.shr16 (by decide) ?_ | with_reducible refine Val.shr24 (by decide) ?_ | with_reducible refine Val.raw ?_ | refine Branch.not ?_ | refine Branch.and ?_ | refine Branch.or ?_ | refine Branch.dt (by assumption) ?_ | refine Branch.df (by assumption) ?_ | refine Branch.dt rfl ?_ | refine Branch.dt (by omega) ?_ | refine Branch.df (by omega) ?_ | refine Branch.t rfl ?_ | refine Branch.f rfl ?_ | refine Branch.t (by assumption) ?_ | refine Branch.f (by assumption) ?_ | refine Branch.d (fun _ => ?_) (fun _ => ?_) | refine Branch.mk (fun _ => ?_) (fun _ => ?_) | refine Need.mk (by first | omega | decide | rfl) ?_ | refine Idx.nat (by omega) ?_ | refine Idx.auto (by first | omega | decide) (by first | omega | decide) ?_ | refine Cell.ro rfl ?_ | refine SDraw.all (by kernel_rfl) ?_ | refine Kept.k0 ?_ | refine Kept.k1 ?_ | refine Kept.k2 ?_ | refine Kept.k3 ?_ | refine Kept.k4 ?_))
  | false =>
    simp only [Bool.and_eq_true, decide_eq_true_eq, Bool.false_eq_true, if_false] at hid hK
    have n1 : (numV id (11 : Nat)).1 = numB 11 id := by
      unfold numV
      rw [if_pos ⟨by decide, by decide, by show id < 2 ^ 11; omega⟩]; rfl
    rw [← List.append_assoc, ← List.append_assoc] at hK
    have h1 : ∀ q (K2 : Value → Heap → Prop), (∀ N', Bld T r [] (bs ++ numB 11 id) N' → K2 (.tuple ⟨[]⟩) (q :: (N' ++ H))) → SCalls Tryd.prog 52 [ptr r, .int .u64 (id : Int), .int .i64 11] (q :: (N ++ H)) K2 := by
      intro q K2 hk
      exact SCalls.under [q] (c52 (w := 11) (n := id) hT hD hN (by omega) (by rw [n1, numB_len]; omega) (by rw [n1]; exact hk))
    have h2 : ∀ q N1 (K2 : Value → Heap → Prop), Bld T r [] (bs ++ numB 11 id) N1 → (∀ N', Bld T r [] (bs ++ numB 11 id ++ [fb rm]) N' → K2 (.tuple ⟨[]⟩) (q :: (N' ++ H))) → SCalls Tryd.prog 54 [ptr r, .bool rm] (q :: (N1 ++ H)) K2 :=
      fun q N1 K2 hb hk => SCalls.under [q] (c54 hT hD hb (by rw [List.length_append, numB_len]; omega) hk)
    have h3 : ∀ q N1 (K2 : Value → Heap → Prop), Bld T r [] (bs ++ numB 11 id ++ [fb rm]) N1 → (∀ N', Bld T r [] (bs ++ numB 11 id ++ [fb rm] ++ [48]) N' → K2 (.tuple ⟨[]⟩) (q :: (N' ++ H))) → SCalls Tryd.prog 54 [ptr r, .bool false] (q :: (N1 ++ H)) K2 :=
      fun q N1 K2 hb hk => SCalls.under [q] (c54 (b := false) hT hD hb (by rw [List.length_append, List.length_append, numB_len]; show bs.length + 11 + 1 ≤ _; omega) hk)
    have hk : ∀ q N', Bld T r [] (bs ++ numB 11 id ++ [fb rm] ++ [48]) N' → Keep (q :: (N' ++ H)) fun H' => K (.tuple ⟨[]⟩) H' := fun q N' h => Keep.d1 (hK N' h)
    clear hN hK
    repeat' ((conv => whnf); (first | with_reducible refine h1 _ _ (fun N1 hb1 => ?_) | with_reducible refine h2 _ _ _ hb1 (fun N2 hb2 => ?_) | with_reducible refine h3 _ _ _ hb2 (fun N3 hb3 => ?_) | refine Branch.f rfl ?_ | exact hk _ _ hb3 | refine New.mk (fun _ => ?_) | refine Look.at0 ?_ | refine Cell.row ?_ | refine Cell.buf ?_ | refine Cells.row rfl ?_ | refine Put.row rfl ?_ | refine Put.buf rfl ?_ | refine Look.at1 ?_ | refine Look.at2 ?_ | refine Look.at3 ?_ | refine Look.at4 ?_ | refine Look.at5 ?_ | refine Look.at6 ?_ | refine Look.at7 ?_ | refine Look.at8 ?_ | with_reducible refine Val.i64 (by omega) (by omega) ?_ | with_reducible refine Val.u8 (by omega) (by omega) ?_ | with_reducible refine Val.u32 (by omega) (by omega) ?_ | with_reducible refine Val.u64 (by omega) (by omega) ?_ | with_reducible refine Val.u8m ?_ | with_reducible refine Val.u32m ?_ | with_reducible refine Val.u64m ?_ | with_reducible refine Val.shr8 ?_ | with_reducible refine Val.shr16 (by decide) ?_ | with_reducible refine Val.shr24 (by decide) ?_ | with_reducible refine Val.raw ?_ | refine Branch.not ?_ | refine Branch.and ?_ | refine Branch.or ?_ | refine Branch.dt (by assumption) ?_ | refine Branch.df (by assumption) ?_ | refine Branch.dt rfl ?_ | refine Branch.dt (by omega) ?_ | refine Branch.df (by omega) ?_ | refine Branch.t rfl ?_ | refine Branch.f rfl ?_ | refine Branch.t (by assumption) ?_ | refine Branch.f (by assumption) ?_ | refine Branch.d (fun _ => ?_) (fun _ => ?_) | refine Branch.mk (fun _ => ?_) (fun _ => ?_) | refine Need.mk (by first | omega | decide | rfl) ?_ | refine Idx.nat (by omega) ?_ | refine Idx.auto (by first | omega | decide) (by first | omega | decide) ?_ | refine Cell.ro rfl ?_ | refine SDraw.all (by kernel_rfl) ?_ | refine Kept.k0 ?_ | refine Kept.k1 ?_ | refine Kept.k2 ?_ | refine Kept.k3 ?_ | refine Kept.k4 ?_))
theorem c27 {f : Fm} (hid : okF f = true) (hD : Db H) (hK : K (.string (strOf (fld f))) H) : SCalls Tryd.prog 27 [frV f] H K := by
  have h42 : ∀ r q (K2 : Value → Heap → Prop), (∀ N', Bld 89 r [] (fld f) N' → K2 (.tuple ⟨[]⟩) (N' ++ q :: H)) → SCalls Tryd.prog 42 [ptr r, frV f] ((r, .row 89 [.pointer none, .slice none 0 0] (0, 0)) :: q :: H) K2 :=
    fun r q K2 hk => c42 (H := q :: H) (bs := []) (N := [(r, .row 89 [.pointer none, .slice none 0 0] (0, 0))]) bt89 hid (hD.mono fun p hp => .tail _ hp) (Bld.new (T := 89) (r := r) (pre := [])) (by decide) hk
  have h43 : ∀ r q N1 (K2 : Value → Heap → Prop), Bld 89 r [] (fld f) N1 → (∀ N', K2 (.string (strOf (fld f))) (N' ++ q :: H)) → SCalls Tryd.prog 43 [ptr r] (N1 ++ q :: H) K2 :=
    fun r q N1 K2 hb hk => SCalls.midH [] (q :: H) (c43 (pre := []) (T := 89) hb (fun N' _ => hk N'))
  have hk : ∀ (N' : Heap) q, Keep (N' ++ q :: H) fun H' => K (.string (strOf (fld f))) H' := fun N' q => Keep.sub _ ((List.sublist_cons_self q H).trans (List.sublist_append_right N' (q :: H))) hK
  clear hK
  refine enter27 ?_
  repeat' ((conv => whnf); (first | with_reducible refine h42 _ _ _ (fun N1 hb1 => ?_) | with_reducible refine h43 _ _ _ _ hb1 (fun N2 => ?_) | exact hk _ _ | refine New.mk (fun _ => ?_) | refine Look.at0 ?_ | refine Cell.row ?_ | refine Cell.buf ?_ | refine Cells.row rfl ?_ | refine Put.row rfl ?_ | refine Put.buf rfl ?_ | refine Look.at1 ?_ | refine Look.at2 ?_ | refine Look.at3 ?_ | refine Look.at4 ?_ | refine Look.at5 ?_ | refine Look.at6 ?_ | refine Look.at7 ?_ | refine Look.at8 ?_ | with_reducible refine Val.i64 (by omega) (by omega) ?_ | with_reducible refine Val.u8 (by omega) (by omega) ?_ | with_reducible refine Val.u32 (by omega) (by omega) ?_ | with_reducible refine Val.u64 (by omega) (by omega) ?_ | with_reducible refine Val.u8m ?_ | with_reducible refine Val.u32m ?_ | with_reducible refine Val.u64m ?_ | with_reducible refine Val.shr8 ?_ | with_reducible refine Val.shr16 (by decide) ?_ | with_reducible refine Val.shr24 (by decide) ?_ | with_reducible refine Val.raw ?_ | refine Branch.not ?_ | refine Branch.and ?_ | refine Branch.or ?_ | refine Branch.dt (by assumption) ?_ | refine Branch.df (by assumption) ?_ | refine Branch.dt rfl ?_ | refine Branch.dt (by omega) ?_ | refine Branch.df (by omega) ?_ | refine Branch.t rfl ?_ | refine Branch.f rfl ?_ | refine Branch.t (by assumption) ?_ | refine Branch.f (by assumption) ?_ | refine Branch.d (fun _ => ?_) (fun _ => ?_) | refine Branch.mk (fun _ => ?_) (fun _ => ?_) | refine Need.mk (by first | omega | decide | rfl) ?_ | refine Idx.nat (by omega) ?_ | refine Idx.auto (by first | omega | decide) (by first | omega | decide) ?_ | refine Cell.ro rfl ?_ | refine SDraw.all (by kernel_rfl) ?_ | refine Kept.k0 ?_ | refine Kept.k1 ?_ | refine Kept.k2 ?_ | refine Kept.k3 ?_ | refine Kept.k4 ?_))
theorem c12 {f : Fm} (hid : f.id < 4294967296) (hD : Db H) (hK : K (.tuple ⟨[.string (strOf (fV f).1), .int .i64 (fV f).2]⟩) H) : SCalls Tryd.prog 12 [frV f] H K := by
  refine enter12 ?_
  unfold fV at hK
  have hD' : ∀ q : Nat × Blk, Db (q :: H) := fun q => hD.mono fun p hp => .tail _ hp
  have h26 := fun H (K2 : Value → Heap → Prop) (hk : K2 (.int .i64 (erF f)) H) => c26 (H := H) (K := K2) hid hk
  unfold erF at h26
  cases hg : okF f with
  | true =>
    rw [hg] at hK h26
    repeat' ((conv => whnf); (first | refine h26 _ _ ?_ | refine Branch.f rfl ?_ | refine c27 hg (hD' _) ?_ | exact Keep.d1 hK | refine New.mk (fun _ => ?_) | refine Look.at0 ?_ | refine Cell.row ?_ | refine Cell.buf ?_ | refine Cells.row rfl ?_ | refine Put.row rfl ?_ | refine Put.buf rfl ?_ | refine Look.at1 ?_ | refine Look.at2 ?_ | refine Look.at3 ?_ | refine Look.at4 ?_ | refine Look.at5 ?_ | refine Look.at6 ?_ | refine Look.at7 ?_ | refine Look.at8 ?_ | with_reducible refine Val.i64 (by omega) (by omega) ?_ | with_reducible refine Val.u8 (by omega) (by omega) ?_ | with_reducible refine Val.u32 (by omega) (by omega) ?_ | with_reducible refine Val.u64 (by omega) (by omega) ?_ | with_reducible refine Val.u8m ?_ | with_reducible refine Val.u32m ?_ | with_reducible refine Val.u64m ?_ | with_reducible refine Val.shr8 ?_ | with_reducible refine Val.shr16 (by decide) ?_ | with_reducible refine Val.shr24 (by decide) ?_ | with_reducible refine Val.raw ?_ | refine Branch.not ?_ | refine Branch.and ?_ | refine Branch.or ?_ | refine Branch.dt (by assumption) ?_ | refine Branch.df (by assumption) ?_ | refine Branch.dt rfl ?_ | refine Branch.dt (by omega) ?_ | refine Branch.df (by omega) ?_ | refine Branch.t rfl ?_ | refine Branch.f rfl ?_ | refine Branch.t (by assumption) ?_ | refine Branch.f (by assumption) ?_ | refine Branch.d (fun _ => ?_) (fun _ => ?_) | refine Branch.mk (fun _ => ?_) (fun _ => ?_) | refine Need.mk (by first | omega | decide | rfl) ?_ | refine Idx.nat (by omega) ?_ | refine Idx.auto (by first | omega | decide) (by first | omega | decide) ?_ | refine Cell.ro rfl ?_ | refine SDraw.all (by kernel_rfl) ?_ | refine Kept.k0 ?_ | refine Kept.k1 ?_ | refine Kept.k2 ?_ | refine Kept.k3 ?_ | refine Kept.k4 ?_))
  | false =>
    rw [hg] at hK h26
    repeat' ((conv => whnf); (first | refine h26 _ _ ?_ | refine Branch.t rfl ?_ | exact Keep.d1 hK | refine New.mk (fun _ => ?_) | refine Look.at0 ?_ | refine Cell.row ?_ | refine Cell.buf ?_ | refine Cells.row rfl ?_ | refine Put.row rfl ?_ | refine Put.buf rfl ?_ | refine Look.at1 ?_ | refine Look.at2 ?_ | refine Look.at3 ?_ | refine Look.at4 ?_ | refine Look.at5 ?_ | refine Look.at6 ?_ | refine Look.at7 ?_ | refine Look.at8 ?_ | with_reducible refine Val.i64 (by omega) (by omega) ?_ | with_reducible refine Val.u8 (by omega) (by omega) ?_ | with_reducible refine Val.u32 (by omega) (by omega) ?_ | with_reducible refine Val.u64 (by omega) (by omega) ?_ | with_reducible refine Val.u8m ?_ | with_reducible refine Val.u32m ?_ | with_reducible refine Val.u64m ?_ | with_reducible refine Val.shr8 ?_ | with_reducible refine Val.shr16 (by decide) ?_ | with_reducible refine Val.shr24 (by decide) ?_ | with_reducible refine Val.raw ?_ | refine Branch.not ?_ | refine Branch.and ?_ | refine Branch.or ?_ | refine Branch.dt (by assumption) ?_ | refine Branch.df (by assumption) ?_ | refine Branch.dt rfl ?_ | refine Branch.dt (by omega) ?_ | refine Branch.df (by omega) ?_ | refine Branch.t rfl ?_ | refine Branch.f rfl ?_ | refine Branch.t (by assumption) ?_ | refine Branch.f (by assumption) ?_ | refine Branch.d (fun _ => ?_) (fun _ => ?_) | refine Branch.mk (fun _ => ?_) (fun _ => ?_) | refine Need.mk (by first | omega | decide | rfl) ?_ | refine Idx.nat (by omega) ?_ | refine Idx.auto (by first | omega | decide) (by first | omega | decide) ?_ | refine Cell.ro rfl ?_ | refine SDraw.all (by kernel_rfl) ?_ | refine Kept.k0 ?_ | refine Kept.k1 ?_ | refine Kept.k2 ?_ | refine Kept.k3 ?_ | refine Kept.k4 ?_))
theorem c55 {f : Fm} (hid : okF f = true) (hK : K (.string (strOf (fld f))) H) : SCalls Tryd.prog 55 [frV f] H K := by
  obtain ⟨id, x, rm, n, d0, d1, d2, d3, d4, d5, d6, d7⟩ := f
  unfold okF at hid
  unfold fld at hK
  dsimp only [frV, frC] at hid hK ⊢
  refine enter55 ?_
  have h18 : shrI .u32 (id : Int) 18 = ((id / 2 ^ 18 : Nat) : Int) := shr_nat (k := .u32) (n := 18) (by decide)
  have hf : ∀ s : ByteArray, s = strOf (fldB id x rm) → ∀ q, Keep ((q : Nat × Blk) :: H) fun H' => K (.string s) H' := fun s e q => by rw [e]; exact Keep.d1 hK
  cases x with
  | true =>
    simp only [Bool.and_eq_true, decide_eq_true_eq, if_true] at hid
    have hand : bitAnd .u32 (id : Int) 262143 = ((id % 2 ^ 18 : Nat) : Int) := bitMask_nat (k := .u32) rfl (a := id) (n := 18) (by show id < 4294967296; omega) (by decide)
    have n1 : (numV (id / 2 ^ 18) 11).1 = numB 11 (id / 2 ^ 18) := by
      unfold numV
      rw [if_pos ⟨by decide, by decide, by show id / 2 ^ 18 < 2 ^ 11; omega⟩]; rfl
    have n2 : (numV (id % 2 ^ 18) 18).1 = numB 18 (id % 2 ^ 18) := by
      unfold numV
      rw [if_pos ⟨by decide, by decide, by show id % 2 ^ 18 < 2 ^ 18; omega⟩]; rfl
    have h1 : ∀ H (K2 : Value → Heap → Prop), K2 (.string (strOf (numB 11 (id / 2 ^ 18)))) H → SCalls Tryd.prog 58 [.int .u64 ((id / 2 ^ 18 : Nat) : Int), .int .i64 11] H K2 := fun H K2 hk => c58 (by omega) (by rw [n1]; exact hk)
    have h2 : ∀ H (K2 : Value → Heap → Prop), K2 (.string (strOf (numB 18 (id % 2 ^ 18)))) H → SCalls Tryd.prog 58 [.int .u64 ((id % 2 ^ 18 : Nat) : Int), .int .i64 18] H K2 := fun H K2 hk => c58 (by omega) (by rw [n2]; exact hk)
    have hw1 : id / 2 ^ 18 < 18446744073709551616 := by omega
    have hw2 : id % 2 ^ 18 < 18446744073709551616 := by omega
    have hz : strOf (numB 11 (id / 2 ^ 18)) ++ ⟨#[49, 49]⟩ ++ strOf (numB 18 (id % 2 ^ 18)) ++ strOf [fb rm] = strOf (fldB id true rm) := by
      have : strOf (numB 11 (id / 2 ^ 18)) ++ strOf [49, 49] ++ strOf (numB 18 (id % 2 ^ 18)) ++ strOf [fb rm] = strOf (fldB id true rm) := by rw [strOf_app, strOf_app, strOf_app]; rfl
      exact this
    repeat' ((conv => whnf); (first | with_reducible refine Val.to _ h18 ?_ | with_reducible refine Val.to _ hand ?_ | with_reducible refine h1 _ _ ?_ | with_reducible refine h2 _ _ ?_ | refine c59 ?_ | refine Branch.t rfl ?_ | refine Need.mk (by simp only [ByteArray.size_append, strOf_size, numB_len, List.length_cons, List.length_nil]; decide) ?_ | exact hf _ hz _ | refine New.mk (fun _ => ?_) | refine Look.at0 ?_ | refine Cell.row ?_ | refine Cell.buf ?_ | refine Cells.row rfl ?_ | refine Put.row rfl ?_ | refine Put.buf rfl ?_ | refine Look.at1 ?_ | refine Look.at2 ?_ | refine Look.at3 ?_ | refine Look.at4 ?_ | refine Look.at5 ?_ | refine Look.at6 ?_ | refine Look.at7 ?_ | refine Look.at8 ?_ | with_reducible refine Val.i64 (by omega) (by omega) ?_ | with_reducible refine Val.u8 (by omega) (by omega) ?_ | with_reducible refine Val.u32 (by omega) (by omega) ?_ | with_reducible refine Val.u64 (by omega) (by omega) ?_ | with_reducible refine Val.u8m ?_ | with_reducible refine Val.u32m ?_ | with_reducible refine Val.u64m ?_ | with_reducible refine Val.shr8 ?_ | with_reducible refine Val.shr16 (by decide) ?_ | with_reducible refine Val.shr24 (by decide) ?_ | with_reducible refine Val.raw ?_ | refine Branch.not ?_ | refine Branch.and ?_ | refine Branch.or ?_ | refine Branch.dt (by assumption) ?_ | refine Branch.df (by assumption) ?_ | refine Branch.dt rfl ?_ | refine Branch.dt (by omega) ?_ | refine Branch.df (by omega) ?_ | refine Branch.t rfl ?_ | refine Branch.f rfl ?_ | refine Branch.t (by assumption) ?_ | refine Branch.f (by assumption) ?_ | refine Branch.d (fun _ => ?_) (fun _ => ?_) | refine Branch.mk (fun _ => ?_) (fun _ => ?_) | refine Need.mk (by first | omega | decide | rfl) ?_ | refine Idx.nat (by omega) ?_ | refine Idx.auto (by first | omega | decide) (by first | omega | decide) ?_ | refine Cell.ro rfl ?_ | refine SDraw.all (by kernel_rfl) ?_ | refine Kept.k0 ?_ | refine Kept.k1 ?_ | refine Kept.k2 ?_ | refine Kept.k3 ?_ | refine Kept.k4 ?_))
  | false =>
    simp only [Bool.and_eq_true, decide_eq_true_eq, Bool.false_eq_true, if_false] at hid
    have n1 : (numV id 11).1 = numB 11 id := by
      unfold numV
      rw [if_pos ⟨by decide, by decide, by show id < 2 ^ 11; omega⟩]; rfl
    have h1 : ∀ H (K2 : Value → Heap → Prop), K2 (.string (strOf (numB 11 id))) H → SCalls Tryd.prog 58 [.int .u64 (id : Int), .int .i64 11] H K2 := fun H K2 hk => c58 (by omega) (by rw [n1]; exact hk)
    have hz : strOf (numB 11 id) ++ strOf [fb rm] ++ ⟨#[48]⟩ = strOf (fldB id false rm) := by
      have : strOf (numB 11 id) ++ strOf [fb rm] ++ strOf [48] = strOf (fldB id false rm) := by rw [strOf_app, strOf_app]; rfl
      exact this
    repeat' ((conv => whnf); (first | with_reducible refine h1 _ _ ?_ | refine c59 ?_ | refine Branch.f rfl ?_ | refine Need.mk (by simp only [ByteArray.size_append, strOf_size, numB_len, List.length_cons, List.length_nil]; decide) ?_ | exact hf _ hz _ | refine New.mk (fun _ => ?_) | refine Look.at0 ?_ | refine Cell.row ?_ | refine Cell.buf ?_ | refine Cells.row rfl ?_ | refine Put.row rfl ?_ | refine Put.buf rfl ?_ | refine Look.at1 ?_ | refine Look.at2 ?_ | refine Look.at3 ?_ | refine Look.at4 ?_ | refine Look.at5 ?_ | refine Look.at6 ?_ | refine Look.at7 ?_ | refine Look.at8 ?_ | with_reducible refine Val.i64 (by omega) (by omega) ?_ | with_reducible refine Val.u8 (by omega) (by omega) ?_ | with_reducible refine Val.u32 (by omega) (by omega) ?_ | with_reducible refine Val.u64 (by omega) (by omega) ?_ | with_reducible refine Val.u8m ?_ | with_reducible refine Val.u32m ?_ | with_reducible refine Val.u64m ?_ | with_reducible refine Val.shr8 ?_ | with_reducible refine Val.shr16 (by decide) ?_ | with_reducible refine Val.shr24 (by decide) ?_ | with_reducible refine Val.raw ?_ | refine Branch.not ?_ | refine Branch.and ?_ | refine Branch.or ?_ | refine Branch.dt (by assumption) ?_ | refine Branch.df (by assumption) ?_ | refine Branch.dt rfl ?_ | refine Branch.dt (by omega) ?_ | refine Branch.df (by omega) ?_ | refine Branch.t rfl ?_ | refine Branch.f rfl ?_ | refine Branch.t (by assumption) ?_ | refine Branch.f (by assumption) ?_ | refine Branch.d (fun _ => ?_) (fun _ => ?_) | refine Branch.mk (fun _ => ?_) (fun _ => ?_) | refine Need.mk (by first | omega | decide | rfl) ?_ | refine Idx.nat (by omega) ?_ | refine Idx.auto (by first | omega | decide) (by first | omega | decide) ?_ | refine Cell.ro rfl ?_ | refine SDraw.all (by kernel_rfl) ?_ | refine Kept.k0 ?_ | refine Kept.k1 ?_ | refine Kept.k2 ?_ | refine Kept.k3 ?_ | refine Kept.k4 ?_))
theorem c45 {f : Fm} (hK : K (.tuple ⟨[.string (strOf (fV f).1), .int .i64 (fV f).2]⟩) H) : SCalls Tryd.prog 45 [frV f] H K := by
  refine enter45 ?_
  unfold fV at hK
  have h49 := fun H (K2 : Value → Heap → Prop) (hk : K2 (.int .i64 (erF f)) H) => c49 (H := H) (K := K2) hk
  unfold erF at h49
  cases hg : okF f with
  | true =>
    rw [hg] at hK h49
    repeat' ((conv => whnf); (first | refine h49 _ _ ?_ | refine Branch.f rfl ?_ | refine c55 hg ?_ | exact Keep.d1 hK | refine New.mk (fun _ => ?_) | refine Look.at0 ?_ | refine Cell.row ?_ | refine Cell.buf ?_ | refine Cells.row rfl ?_ | refine Put.row rfl ?_ | refine Put.buf rfl ?_ | refine Look.at1 ?_ | refine Look.at2 ?_ | refine Look.at3 ?_ | refine Look.at4 ?_ | refine Look.at5 ?_ | refine Look.at6 ?_ | refine Look.at7 ?_ | refine Look.at8 ?_ | with_reducible refine Val.i64 (by omega) (by omega) ?_ | with_reducible refine Val.u8 (by omega) (by omega) ?_ | with_reducible refine Val.u32 (by omega) (by omega) ?_ | with_reducible refine Val.u64 (by omega) (by omega) ?_ | with_reducible refine Val.u8m ?_ | with_reducible refine Val.u32m ?_ | with_reducible refine Val.u64m ?_ | with_reducible refine Val.shr8 ?_ | with_reducible refine Val.shr16 (by decide) ?_ | with_reducible refine Val.shr24 (by decide) ?_ | with_reducible refine Val.raw ?_ | refine Branch.not ?_ | refine Branch.and ?_ | refine Branch.or ?_ | refine Branch.dt (by assumption) ?_ | refine Branch.df (by assumption) ?_ | refine Branch.dt rfl ?_ | refine Branch.dt (by omega) ?_ | refine Branch.df (by omega) ?_ | refine Branch.t rfl ?_ | refine Branch.f rfl ?_ | refine Branch.t (by assumption) ?_ | refine Branch.f (by assumption) ?_ | refine Branch.d (fun _ => ?_) (fun _ => ?_) | refine Branch.mk (fun _ => ?_) (fun _ => ?_) | refine Need.mk (by first | omega | decide | rfl) ?_ | refine Idx.nat (by omega) ?_ | refine Idx.auto (by first | omega | decide) (by first | omega | decide) ?_ | refine Cell.ro rfl ?_ | refine SDraw.all (by kernel_rfl) ?_ | refine Kept.k0 ?_ | refine Kept.k1 ?_ | refine Kept.k2 ?_ | refine Kept.k3 ?_ | refine Kept.k4 ?_))
  | false =>
    rw [hg] at hK h49
    repeat' ((conv => whnf); (first | refine h49 _ _ ?_ | refine Branch.t rfl ?_ | exact Keep.d1 hK | refine New.mk (fun _ => ?_) | refine Look.at0 ?_ | refine Cell.row ?_ | refine Cell.buf ?_ | refine Cells.row rfl ?_ | refine Put.row rfl ?_ | refine Put.buf rfl ?_ | refine Look.at1 ?_ | refine Look.at2 ?_ | refine Look.at3 ?_ | refine Look.at4 ?_ | refine Look.at5 ?_ | refine Look.at6 ?_ | refine Look.at7 ?_ | refine Look.at8 ?_ | with_reducible refine Val.i64 (by omega) (by omega) ?_ | with_reducible refine Val.u8 (by omega) (by omega) ?_ | with_reducible refine Val.u32 (by omega) (by omega) ?_ | with_reducible refine Val.u64 (by omega) (by omega) ?_ | with_reducible refine Val.u8m ?_ | with_reducible refine Val.u32m ?_ | with_reducible refine Val.u64m ?_ | with_reducible refine Val.shr8 ?_ | with_reducible refine Val.shr16 (by decide) ?_ | with_reducible refine Val.shr24 (by decide) ?_ | with_reducible refine Val.raw ?_ | refine Branch.not ?_ | refine Branch.and ?_ | refine Branch.or ?_ | refine Branch.dt (by assumption) ?_ | refine Branch.df (by assumption) ?_ | refine Branch.dt rfl ?_ | refine Branch.dt (by omega) ?_ | refine Branch.df (by omega) ?_ | refine Branch.t rfl ?_ | refine Branch.f rfl ?_ | refine Branch.t (by assumption) ?_ | refine Branch.f (by assumption) ?_ | refine Branch.d (fun _ => ?_) (fun _ => ?_) | refine Branch.mk (fun _ => ?_) (fun _ => ?_) | refine Need.mk (by first | omega | decide | rfl) ?_ | refine Idx.nat (by omega) ?_ | refine Idx.auto (by first | omega | decide) (by first | omega | decide) ?_ | refine Cell.ro rfl ?_ | refine SDraw.all (by kernel_rfl) ?_ | refine Kept.k0 ?_ | refine Kept.k1 ?_ | refine Kept.k2 ?_ | refine Kept.k3 ?_ | refine Kept.k4 ?_))
end
end Go.Proofs.YthgpikgbhkcnbaaDoor

