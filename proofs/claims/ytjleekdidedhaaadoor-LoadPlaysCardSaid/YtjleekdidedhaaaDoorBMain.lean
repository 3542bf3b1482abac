/- Layer 1: the builder of a text: by walks. -/
import Derived.Test.YtjleekdidedhaaaDoorBX
import Derived.Test.YtjleekdidedhaaaDoorBSx1
import Derived.Test.YtjleekdidedhaaaDoorBSx

set_option linter.unusedVariables false
set_option linter.unusedSimpArgs false
set_option maxRecDepth 100000
set_option maxHeartbeats 4000000
namespace Go.Proofs.YtjleekdidedhaaaDoor
open Sx
abbrev ptr (r : Nat) : Value := .pointer (some ⟨r, 0, none⟩)
/-- A byte that is a bit. -/
def isB (b : UInt8) : Bool := Nat.beq b.toNat 48 || Nat.beq b.toNat 49
/-- A builder may lie at place o of a row of type T. -/
def BT (T o : Nat) : Prop := liesAt Tryd.prog Tryd.prog.depth T ((o + 2) / Tryd.prog.cellsOf T) o 103 1 = true
theorem bt55 : BT 103 0 := by unfold BT; kernel_rfl
abbrev bRow (T r : Nat) (pre : List Value) (p sv : Value) : Nat × Blk := (r, .row T (pre ++ [p, sv]) (0, 0))
abbrev bPtr (r : Nat) (pre : List Value) : Value := .pointer (some ⟨r, pre.length, none⟩)
/-- A builder behind pre, with the bytes bs. -/
inductive Bld (T r : Nat) (pre : List Value) (bs : List UInt8) : Heap → Prop
  | mk {p sv : Value} {M : Heap} : (p = .pointer none ∨ p = bPtr r pre) → BufV 5 sv bs M → Bld T r pre bs (bRow T r pre p sv :: M)
theorem Bld.new {T r : Nat} {pre : List Value} : Bld T r pre [] [(r, .row T (pre ++ [.pointer none, .slice none 0 0]) (0, 0))] := .mk (.inl rfl) .nil
section
variable {K : Value → Heap → Prop} {H : Heap} {T r : Nat} {pre : List Value} {bs l : List UInt8} {N : Heap}
theorem pre0 (p sv : Value) : (pre ++ [p, sv])[pre.length + 0]? = some p := by simp
theorem pre1 (p sv : Value) : (pre ++ [p, sv])[pre.length + 1]? = some sv := by
  rw [List.getElem?_append_right (by omega)]; simp
theorem set0 (p sv p' : Value) : (pre ++ [p, sv]).take (pre.length + 0) ++ [p'] ++ (pre ++ [p, sv]).drop (pre.length + 0 + [p'].length) = pre ++ [p', sv] := by
  rw [Nat.add_zero, List.take_left, List.drop_append]; simp
theorem set1 (p sv sv' : Value) : (pre ++ [p, sv]).take (pre.length + 1) ++ [sv'] ++ (pre ++ [p, sv]).drop (pre.length + 1 + [sv'].length) = pre ++ [p, sv'] := by
  rw [List.take_append, List.drop_append, List.take_of_length_le (show pre.length ≤ pre.length + 1 by omega), List.drop_eq_nil_of_le (show pre.length ≤ pre.length + 1 + [sv'].length by omega), show pre.length + 1 - pre.length = 1 by omega, show pre.length + 1 + [sv'].length - pre.length = 2 by simp; omega]
  simp
theorem c55 (hT : BT T pre.length) (hN : Bld T r pre bs N) (hK : ∀ sv M, BufV 5 sv bs M → K (.tuple ⟨[]⟩) (bRow T r pre (bPtr r pre) sv :: M)) : SCalls Tryd.prog 55 [bPtr r pre] N K := by
  cases hN with
  | @mk p sv M hp hb =>
    have hk := hK sv M hb
    refine enter55 ?_
    have h0 : (Blk.row T (pre ++ [p, sv]) (0, 0)).cell (pre.length + 0) = some p := pre0 p sv
    have hput : PutOk (.row T (pre ++ [p, sv]) (0, 0)) (pre.length + 0) [bPtr r pre] (.row T (pre ++ [bPtr r pre, sv]) (0, 0)) := PutOk.row (by simp) (set0 p sv _)
    have hlt : pre.length < (pre ++ [p, sv]).length := by simp
    have hlies : liesAt Tryd.prog Tryd.prog.depth T ((pre ++ [p, sv]).length / Tryd.prog.cellsOf T) pre.length 103 1 = true := by
      rw [List.length_append]; exact hT
    rcases hp with rfl | rfl
    · repeat' ((conv => whnf); (first | refine Look.cell (.head _) h0 ?_ | refine Branch.t rfl ?_ | refine RawV.toUnsafe (src := 100) (dst := 117) (t := 103) rfl (by kernel_rfl) (by kernel_rfl) (by kernel_rfl) (.head _) hlt ?_ | refine RawV.extern rfl Tryd.func58 (by kernel_rfl) (by kernel_rfl) (by kernel_rfl) (e := Extern.AbiNoEscape.same) (v := bPtr r pre) (by kernel_rfl) (fun _ => rfl) ?_ | refine RawV.ofUnsafe (src := 117) (dst := 100) (t := 103) rfl (by kernel_rfl) (by kernel_rfl) (by kernel_rfl) (.head _) hlies ?_ | refine ⟨[], _, M, rfl, _, hput, appK_to ?_⟩ | exact Keep.all hk | refine New.mk (fun _ => ?_) | refine Look.at0 ?_ | refine Cell.row ?_ | refine Cell.buf ?_ | refine Cells.row rfl ?_ | refine Put.row rfl ?_ | refine Put.buf rfl ?_ | refine Look.at1 ?_ | refine Look.at2 ?_ | refine Look.at3 ?_ | refine Look.at4 ?_ | refine Look.at5 ?_ | refine Look.at6 ?_ | refine Look.at7 ?_ | refine Look.at8 ?_ | with_reducible refine Val.i64 (by omega) (by omega) ?_ | with_reducible refine Val.u8 (by omega) (by omega) ?_ | with_reducible refine Val.u32 (by omega) (by omega) ?_ | with_reducible refine Val.u64 (by omega) (by omega) ?_ | with_reducible refine Val.u8m ?_ | with_reducible refine Val.u32m ?_ | with_reducible refine Val.u64m ?_ | with_reducible refine Val.shr8 ?_ | with_reducible refine Val.shr16 (by decide) ?_ | with_reducible refine Val.shr24 (by decide) ?_ | with_reducible refine Val.raw ?_ | refine Branch.not ?_ | refine Branch.and ?_ | refine Branch.or ?_ | refine Branch.dt (by assumption) ?_ | refine Branch.df (by assumption) ?_ | refine Branch.dt rfl ?_ | refine Branch.dt (by omega) ?_ | refine Branch.df (by omega) ?_ | refine Branch.t rfl ?_ | refine Branch.f rfl ?_ | refine Branch.t (by assumption) ?_ | refine Branch.f (by assumption) ?_ | refine Branch.d (fun _ => ?_) (fun _ => ?_) | refine Branch.mk (fun _ => ?_) (fun _ => ?_) | refine Need.mk (by first | omega | decide | rfl) ?_ | refine Idx.nat (by omega) ?_ | refine Idx.auto (by first | omega | decide) (by first | omega | decide) ?_ | refine Cell.ro rfl ?_ | refine SDraw.all (by kernel_rfl) ?_ | refine Kept.k0 ?_ | refine Kept.k1 ?_ | refine Kept.k2 ?_ | refine Kept.k3 ?_ | refine Kept.k4 ?_))
    · repeat' ((conv => whnf); (first | refine Look.cell (.head _) h0 ?_ | refine Branch.f rfl ?_ | refine PEq.same rfl ?_ | refine Branch.f (by simp; done) ?_ | exact Keep.all hk | refine New.mk (fun _ => ?_) | refine Look.at0 ?_ | refine Cell.row ?_ | refine Cell.buf ?_ | refine Cells.row rfl ?_ | refine Put.row rfl ?_ | refine Put.buf rfl ?_ | refine Look.at1 ?_ | refine Look.at2 ?_ | refine Look.at3 ?_ | refine Look.at4 ?_ | refine Look.at5 ?_ | refine Look.at6 ?_ | refine Look.at7 ?_ | refine Look.at8 ?_ | with_reducible refine Val.i64 (by omega) (by omega) ?_ | with_reducible refine Val.u8 (by omega) (by omega) ?_ | with_reducible refine Val.u32 (by omega) (by omega) ?_ | with_reducible refine Val.u64 (by omega) (by omega) ?_ | with_reducible refine Val.u8m ?_ | with_reducible refine Val.u32m ?_ | with_reducible refine Val.u64m ?_ | with_reducible refine Val.shr8 ?_ | with_reducible refine Val.shr16 (by decide) ?_ | with_reducible refine Val.shr24 (by decide) ?_ | with_reducible refine Val.raw ?_ | refine Branch.not ?_ | refine Branch.and ?_ | refine Branch.or ?_ | refine Branch.dt (by assumption) ?_ | refine Branch.df (by assumption) ?_ | refine Branch.dt rfl ?_ | refine Branch.dt (by omega) ?_ | refine Branch.df (by omega) ?_ | refine Branch.t rfl ?_ | refine Branch.f rfl ?_ | refine Branch.t (by assumption) ?_ | refine Branch.f (by assumption) ?_ | refine Branch.d (fun _ => ?_) (fun _ => ?_) | refine Branch.mk (fun _ => ?_) (fun _ => ?_) | refine Need.mk (by first | omega | decide | rfl) ?_ | refine Idx.nat (by omega) ?_ | refine Idx.auto (by first | omega | decide) (by first | omega | decide) ?_ | refine Cell.ro rfl ?_ | refine SDraw.all (by kernel_rfl) ?_ | refine Kept.k0 ?_ | refine Kept.k1 ?_ | refine Kept.k2 ?_ | refine Kept.k3 ?_ | refine Kept.k4 ?_))
theorem c55s (hT : BT T pre.length) (hN : Bld T r pre bs N) (K2 : Value → Heap → Prop) (hk : ∀ a c M, BufV 5 (.slice a bs.length c) bs M → K2 (.tuple ⟨[]⟩) (bRow T r pre (bPtr r pre) (.slice a bs.length c) :: M)) : SCalls Tryd.prog 55 [bPtr r pre] N K2 :=
  c55 hT hN (fun sv M hb => by
    obtain ⟨a, c, rfl⟩ := hb.len
    exact hk a c M hb)
theorem c52 (hT : BT T pre.length) (hN : Bld T r pre bs N) (hl : bs.length + l.length ≤ 140737488355328) (hK : ∀ N', Bld T r pre (bs ++ l) N' → K (.tuple ⟨[.int .i64 (l.length : Int), .nilIface]⟩) N') : SCalls Tryd.prog 52 [bPtr r pre, .string (strOf l)] N K := by
  refine enter52 ?_
  have h_41 := c55s hT hN
  have h1 : ∀ sv, (Blk.row T (pre ++ [bPtr r pre, sv]) (0, 0)).cell (pre.length + 1) = some sv := fun sv => pre1 _ sv
  have hput : ∀ sv sv', PutOk (.row T (pre ++ [bPtr r pre, sv]) (0, 0)) (pre.length + 1) [sv'] (.row T (pre ++ [bPtr r pre, sv']) (0, 0)) := fun sv sv' => PutOk.row (by simp) (set1 _ sv sv')
  have happ : ∀ a c M, BufV 5 (.slice a bs.length c) bs M → ∀ (o : Oper) (xs xx : Operand) (K2 : Value → Heap → Prop), o.op = .call { callee := .builtin .append, args := #[xs, xx], argTypes := #[101, 9] } →
      (∀ a' c' M', BufV 5 (.slice a' (bs ++ l).length c') (bs ++ l) M' → K2 (.slice a' (bs ++ l).length c') (bRow T r pre (bPtr r pre) (.slice a bs.length c) :: M')) →
      RawV Tryd.prog o [.slice a bs.length c, .string (strOf l)] (bRow T r pre (bPtr r pre) (.slice a bs.length c) :: M) K2 := by
    intro a c M hb o xs xx K2 ho hk
    have := RawV.appStr (P := Tryd.prog) (A := [bRow T r pre (bPtr r pre) (.slice a bs.length c)]) (B := []) (l := l) (K := K2) ho (by kernel_rfl) (by kernel_rfl) (by kernel_rfl) hb hl (fun sv' N' h => by rw [List.append_nil]; obtain ⟨a', c', rfl⟩ := h.len; exact hk a' c' N' h)
    rw [List.append_nil] at this
    exact this
  have hsz : ((strOf l).size : Int) = (l.length : Int) := by rw [strOf_size]
  clear hN
  repeat' ((conv => whnf); (first | with_reducible refine h_41 _ (fun a c M hb => ?_) | refine Look.cell (.head _) (h1 _) ?_ | with_reducible refine happ _ _ _ hb _ _ _ _ rfl (fun a' c' M' hb' => ?_) | refine ⟨[], _, M', rfl, _, hput _ _, appK_to ?_⟩ | (rw [hsz]; exact Keep.all (hK _ (.mk (.inr rfl) hb'))) | refine New.mk (fun _ => ?_) | refine Look.at0 ?_ | refine Cell.row ?_ | refine Cell.buf ?_ | refine Cells.row rfl ?_ | refine Put.row rfl ?_ | refine Put.buf rfl ?_ | refine Look.at1 ?_ | refine Look.at2 ?_ | refine Look.at3 ?_ | refine Look.at4 ?_ | refine Look.at5 ?_ | refine Look.at6 ?_ | refine Look.at7 ?_ | refine Look.at8 ?_ | with_reducible refine Val.i64 (by omega) (by omega) ?_ | with_reducible refine Val.u8 (by omega) (by omega) ?_ | with_reducible refine Val.u32 (by omega) (by omega) ?_ | with_reducible refine Val.u64 (by omega) (by omega) ?_ | with_reducible refine Val.u8m ?_ | with_reducible refine Val.u32m ?_ | with_reducible refine Val.u64m ?_ | with_reducible refine Val.shr8 ?_ | with_reducible refine Val.shr16 (by decide) ?_ | with_reducible refine Val.shr24 (by decide) ?_ | with_reducible refine Val.raw ?_ | refine Branch.not ?_ | refine Branch.and ?_ | refine Branch.or ?_ | refine Branch.dt (by assumption) ?_ | refine Branch.df (by assumption) ?_ | refine Branch.dt rfl ?_ | refine Branch.dt (by omega) ?_ | refine Branch.df (by omega) ?_ | refine Branch.t rfl ?_ | refine Branch.f rfl ?_ | refine Branch.t (by assumption) ?_ | refine Branch.f (by assumption) ?_ | refine Branch.d (fun _ => ?_) (fun _ => ?_) | refine Branch.mk (fun _ => ?_) (fun _ => ?_) | refine Need.mk (by first | omega | decide | rfl) ?_ | refine Idx.nat (by omega) ?_ | refine Idx.auto (by first | omega | decide) (by first | omega | decide) ?_ | refine Cell.ro rfl ?_ | refine SDraw.all (by kernel_rfl) ?_ | refine Kept.k0 ?_ | refine Kept.k1 ?_ | refine Kept.k2 ?_ | refine Kept.k3 ?_ | refine Kept.k4 ?_))
theorem c49 (hN : Bld T r pre bs N) (hK : ∀ N', Bld T r pre bs N' → K (.string (strOf bs)) N') : SCalls Tryd.prog 49 [bPtr r pre] N K := by
  refine enter49 ?_
  cases hN with
  | @mk p sv M hp hb =>
    obtain ⟨a, c, rfl⟩ := hb.len
    have h1 : (Blk.row T (pre ++ [p, .slice a bs.length c]) (0, 0)).cell (pre.length + 1) = some (.slice a bs.length c) := pre1 _ _
    have hcn : a = none ∨ c ≠ 0 := by
      generalize hsv : Value.slice a bs.length c = sv at hb
      cases hb with
      | nil => injection hsv with e1 _ _; exact .inl e1
      | row _ _ _ h0 => injection hsv with _ _ e3; exact .inr (by omega)
    have hun : ∀ (o : Oper) (x y : Operand) (K2 : Value → Heap → Prop), o.op = .call { callee := .builtin .unsafeString, args := #[x, y], argTypes := #[115, 3] } → (∀ M', BufV 5 (.slice a bs.length c) bs M' → K2 (.string (strOf bs)) (bRow T r pre p (.slice a bs.length c) :: M')) →
        RawV Tryd.prog o [.pointer a, .int .i64 (bs.length : Int)] (bRow T r pre p (.slice a bs.length c) :: M) K2 := by
      intro o x y K2 ho hk
      have := RawV.unsafeStr (P := Tryd.prog) (A := [bRow T r pre p (.slice a bs.length c)]) (B := []) (K := K2) ho (by kernel_rfl) (by kernel_rfl) hb (fun N' h => by rw [List.append_nil]; exact hk N' h)
      rw [List.append_nil] at this
      exact this
    repeat' ((conv => whnf); (first | refine Look.cell (.head _) h1 ?_ | refine RawV.sliceData rfl hcn ?_ | with_reducible refine hun _ _ _ _ rfl (fun M' hb' => ?_) | exact Keep.all (hK _ (.mk hp hb')) | refine New.mk (fun _ => ?_) | refine Look.at0 ?_ | refine Cell.row ?_ | refine Cell.buf ?_ | refine Cells.row rfl ?_ | refine Put.row rfl ?_ | refine Put.buf rfl ?_ | refine Look.at1 ?_ | refine Look.at2 ?_ | refine Look.at3 ?_ | refine Look.at4 ?_ | refine Look.at5 ?_ | refine Look.at6 ?_ | refine Look.at7 ?_ | refine Look.at8 ?_ | with_reducible refine Val.i64 (by omega) (by omega) ?_ | with_reducible refine Val.u8 (by omega) (by omega) ?_ | with_reducible refine Val.u32 (by omega) (by omega) ?_ | with_reducible refine Val.u64 (by omega) (by omega) ?_ | with_reducible refine Val.u8m ?_ | with_reducible refine Val.u32m ?_ | with_reducible refine Val.u64m ?_ | with_reducible refine Val.shr8 ?_ | with_reducible refine Val.shr16 (by decide) ?_ | with_reducible refine Val.shr24 (by decide) ?_ | with_reducible refine Val.raw ?_ | refine Branch.not ?_ | refine Branch.and ?_ | refine Branch.or ?_ | refine Branch.dt (by assumption) ?_ | refine Branch.df (by assumption) ?_ | refine Branch.dt rfl ?_ | refine Branch.dt (by omega) ?_ | refine Branch.df (by omega) ?_ | refine Branch.t rfl ?_ | refine Branch.f rfl ?_ | refine Branch.t (by assumption) ?_ | refine Branch.f (by assumption) ?_ | refine Branch.d (fun _ => ?_) (fun _ => ?_) | refine Branch.mk (fun _ => ?_) (fun _ => ?_) | refine Need.mk (by first | omega | decide | rfl) ?_ | refine Idx.nat (by omega) ?_ | refine Idx.auto (by first | omega | decide) (by first | omega | decide) ?_ | refine Cell.ro rfl ?_ | refine SDraw.all (by kernel_rfl) ?_ | refine Kept.k0 ?_ | refine Kept.k1 ?_ | refine Kept.k2 ?_ | refine Kept.k3 ?_ | refine Kept.k4 ?_))
end
end Go.Proofs.YtjleekdidedhaaaDoor

/- Layer 1: numbers become bits: by walks. -/
set_option linter.unusedVariables false
set_option linter.unusedSimpArgs false
set_option maxRecDepth 100000
set_option maxHeartbeats 4000000
namespace Go.Proofs.YtjleekdidedhaaaDoor
open Sx
def bitB (q : Nat) : UInt8 := if q = 0 then 48 else 49
/-- A number's digits, at most so many. -/
def binF : Nat → Nat → List UInt8
  | 0, _ => []
  | n + 1, u => if u < 2 then [bitB u] else binF n (u / 2) ++ [bitB (u % 2)]
/-- Just so many bits of a number. -/
def numB : Nat → Nat → List UInt8
  | 0, _ => []
  | w + 1, n => numB w (n / 2) ++ [bitB (n % 2)]
theorem numB_len : ∀ w n, (numB w n).length = w
  | 0, _ => rfl
  | w + 1, n => by simp [numB, numB_len w]
theorem numB_zero : ∀ w, numB w 0 = List.replicate w 48
  | 0 => rfl
  | w + 1 => by
    show numB w 0 ++ [bitB 0] = _
    rw [numB_zero w, List.replicate_succ']; rfl
theorem bitB_ok (q : Nat) : isB (bitB q) = true := by unfold bitB; split <;> rfl
theorem numB_ok : ∀ w n, ∀ b ∈ numB w n, isB b = true
  | 0, _, b, h => by cases h
  | w + 1, n, b, h => by
    rcases List.mem_append.1 h with h | h
    · exact numB_ok w _ b h
    · rw [List.mem_singleton.1 h]; exact bitB_ok _
theorem pad : ∀ (k w n : Nat), n < 2 ^ k → n < 2 ^ w → 1 ≤ w → (binF k n).length ≤ w ∧ List.replicate (w - (binF k n).length) 48 ++ binF k n = numB w n
  | 0, w, n, h1, _, _ => by
    obtain rfl : n = 0 := by simpa using h1
    exact ⟨Nat.zero_le _, by rw [numB_zero]; simp [binF]⟩
  | k + 1, w + 1, n, h1, h2, _ => by
    by_cases h : n < 2
    · have e : binF (k + 1) n = [bitB n] := by unfold binF; rw [if_pos h]
      rw [e]
      refine ⟨by simp, ?_⟩
      show _ = numB w (n / 2) ++ [bitB (n % 2)]
      rw [show n / 2 = 0 by omega, show n % 2 = n by omega, numB_zero]; simp
    · have e : binF (k + 1) n = binF k (n / 2) ++ [bitB (n % 2)] := by
        show (if n < 2 then _ else _) = _
        rw [if_neg h]
      have hw : 1 ≤ w := by
        rcases Nat.eq_zero_or_pos w with rfl | hw
        · simp at h2; omega
        · exact hw
      obtain ⟨i1, i2⟩ := pad k w (n / 2) (by rw [Nat.pow_succ] at h1; omega) (by rw [Nat.pow_succ] at h2; omega) hw
      rw [e]
      refine ⟨by simp; omega, ?_⟩
      show _ = numB w (n / 2) ++ [bitB (n % 2)]
      rw [← i2, ← List.append_assoc]
      congr 3
      simp
theorem bitB_n {q : Nat} (h : q < 2) : ((bitB q).toNat : Int) = 48 + (q : Int) := by
  unfold bitB
  rcases (by omega : q = 0 ∨ q = 1) with rfl | rfl <;> rfl
/-- The table that tells where a number's lowest bit is. -/
def Db (H : Heap) : Prop := ∃ b, (3, b) ∈ H ∧ b.cell 1 = some (.int .u8 1)
theorem Db.mono {H H' : Heap} (h : Db H) (hs : ∀ p ∈ H, p ∈ H') : Db H' := by
  obtain ⟨b, h1, h2⟩ := h
  exact ⟨b, hs _ h1, h2⟩
abbrev zv : Value := .int .u8 0
abbrev digR (p n : Nat) (ds : List UInt8) : Nat × Blk := (p, .row 136 (List.replicate n zv ++ cel ds) (0, 0))
theorem dig_put {n : Nat} {ds : List UInt8} (b : UInt8) : PutOk (.row 136 (List.replicate (n + 1) zv ++ cel ds) (0, 0)) (0 + n * 1) [.int .u8 (b.toNat : Int)] (.row 136 (List.replicate n zv ++ cel (b :: ds)) (0, 0)) := by
  refine PutOk.row (by simp) ?_
  have e0 : List.replicate (n + 1) zv ++ cel ds = List.replicate n zv ++ ([zv] ++ cel ds) := by rw [List.replicate_succ', List.append_assoc]
  rw [e0, Nat.zero_add, Nat.mul_one]
  have e1 : (List.replicate n zv ++ ([zv] ++ cel ds)).take n = List.replicate n zv := by
    conv => lhs; rw [show n = (List.replicate n zv).length by simp]
    simp only [List.length_replicate]
    rw [List.take_append_of_le_length (by simp)]; simp
  have e2 : (List.replicate n zv ++ ([zv] ++ cel ds)).drop (n + [Value.int .u8 (b.toNat : Int)].length) = cel ds := by
    rw [List.drop_append]; simp
  rw [e1, e2, List.append_assoc]; rfl
inductive S67 (A1 A3 A4 A10 A12 A13 A14 A15 A16 : Value) : List Value → Prop
  | mk {r0 r2 r5 r6 r7 r8 r9 r11 r17 r18 r19 r20 r21 r22 r23 r24 r25 r26 r27 r28 r29 r30 r31 r32 r33 r34 r35 r36 r37 r38 r39 r40 r41 r42 r43 r44 r45 r46 r47 r48 r49 r50 r51 r52 r53 r54 r55 r56 r57 r58 r59 r60 r61 r62 r63 r64 r65 r66 r67 r68 r69 r70 r71 r72 r73 r74 r75 r76 r77 r78 r79 r80 r81 r82 r83 r84 r85 r86 r87 r88 r89 r90 r91 r92 r93 r94 r95 r96 r97 r98 r99 r100 r101 : Value} : S67 A1 A3 A4 A10 A12 A13 A14 A15 A16 [r0, A1, r2, A3, A4, r5, r6, r7, r8, r9, A10, r11, A12, A13, A14, A15, A16, r17, r18, r19, r20, r21, r22, r23, r24, r25, r26, r27, r28, r29, r30, r31, r32, r33, r34, r35, r36, r37, r38, r39, r40, r41, r42, r43, r44, r45, r46, r47, r48, r49, r50, r51, r52, r53, r54, r55, r56, r57, r58, r59, r60, r61, r62, r63, r64, r65, r66, r67, r68, r69, r70, r71, r72, r73, r74, r75, r76, r77, r78, r79, r80, r81, r82, r83, r84, r85, r86, r87, r88, r89, r90, r91, r92, r93, r94, r95, r96, r97, r98, r99, r100, r101]
section
variable {K : Value → Heap → Prop} {H : Heap}
theorem c75 (hK : K (.bool true) H) : SCalls Tryd.prog 75 [.int .i64 2] H K := by
  refine enter75 ?_
  repeat' ((conv => whnf); (first | refine Val.to 1 rfl ?_ | refine Val.to 0 (by decide) ?_ | exact Keep.all hK | refine New.mk (fun _ => ?_) | refine Look.at0 ?_ | refine Cell.row ?_ | refine Cell.buf ?_ | refine Cells.row rfl ?_ | refine Put.row rfl ?_ | refine Put.buf rfl ?_ | refine Look.at1 ?_ | refine Look.at2 ?_ | refine Look.at3 ?_ | refine Look.at4 ?_ | refine Look.at5 ?_ | refine Look.at6 ?_ | refine Look.at7 ?_ | refine Look.at8 ?_ | with_reducible refine Val.i64 (by omega) (by omega) ?_ | with_reducible refine Val.u8 (by omega) (by omega) ?_ | with_reducible refine Val.u32 (by omega) (by omega) ?_ | with_reducible refine Val.u64 (by omega) (by omega) ?_ | with_reducible refine Val.u8m ?_ | with_reducible refine Val.u32m ?_ | with_reducible refine Val.u64m ?_ | with_reducible refine Val.shr8 ?_ | with_reducible refine Val.shr16 (by decide) ?_ | with_reducible refine Val.shr24 (by decide) ?_ | with_reducible refine Val.raw ?_ | refine Branch.not ?_ | refine Branch.and ?_ | refine Branch.or ?_ | refine Branch.dt (by assumption) ?_ | refine Branch.df (by assumption) ?_ | refine Branch.dt rfl ?_ | refine Branch.dt (by omega) ?_ | refine Branch.df (by omega) ?_ | refine Branch.t rfl ?_ | refine Branch.f rfl ?_ | refine Branch.t (by assumption) ?_ | refine Branch.f (by assumption) ?_ | refine Branch.d (fun _ => ?_) (fun _ => ?_) | refine Branch.mk (fun _ => ?_) (fun _ => ?_) | refine Need.mk (by first | omega | decide | rfl) ?_ | refine Idx.nat (by omega) ?_ | refine Idx.auto (by first | omega | decide) (by first | omega | decide) ?_ | refine Cell.ro rfl ?_ | refine SDraw.all (by kernel_rfl) ?_ | refine Kept.k0 ?_ | refine Kept.k1 ?_ | refine Kept.k2 ?_ | refine Kept.k3 ?_ | refine Kept.k4 ?_))
theorem c79 (hD : Db H) (hK : K (.int .i64 1) H) : SCalls Tryd.prog 79 [.int .u64 2] H K := by
  refine enter79 ?_
  obtain ⟨b, hm, hc⟩ := hD
  repeat' ((conv => whnf); (first | refine Val.to 18446744073709551614 (by decide) ?_ | refine Val.to 2 (by decide) ?_ | refine Val.to 571740426102707730 (by decide) ?_ | refine Val.to 1 (by decide) ?_ | refine Branch.f rfl ?_ | refine Idx.of 1 rfl (by decide) ?_ | refine Look.cell hm hc ?_ | exact Keep.all hK | refine New.mk (fun _ => ?_) | refine Look.at0 ?_ | refine Cell.row ?_ | refine Cell.buf ?_ | refine Cells.row rfl ?_ | refine Put.row rfl ?_ | refine Put.buf rfl ?_ | refine Look.at1 ?_ | refine Look.at2 ?_ | refine Look.at3 ?_ | refine Look.at4 ?_ | refine Look.at5 ?_ | refine Look.at6 ?_ | refine Look.at7 ?_ | refine Look.at8 ?_ | with_reducible refine Val.i64 (by omega) (by omega) ?_ | with_reducible refine Val.u8 (by omega) (by omega) ?_ | with_reducible refine Val.u32 (by omega) (by omega) ?_ | with_reducible refine Val.u64 (by omega) (by omega) ?_ | with_reducible refine Val.u8m ?_ | with_reducible refine Val.u32m ?_ | with_reducible refine Val.u64m ?_ | with_reducible refine Val.shr8 ?_ | with_reducible refine Val.shr16 (by decide) ?_ | with_reducible refine Val.shr24 (by decide) ?_ | with_reducible refine Val.raw ?_ | refine Branch.not ?_ | refine Branch.and ?_ | refine Branch.or ?_ | refine Branch.dt (by assumption) ?_ | refine Branch.df (by assumption) ?_ | refine Branch.dt rfl ?_ | refine Branch.dt (by omega) ?_ | refine Branch.df (by omega) ?_ | refine Branch.t rfl ?_ | refine Branch.f rfl ?_ | refine Branch.t (by assumption) ?_ | refine Branch.f (by assumption) ?_ | refine Branch.d (fun _ => ?_) (fun _ => ?_) | refine Branch.mk (fun _ => ?_) (fun _ => ?_) | refine Need.mk (by first | omega | decide | rfl) ?_ | refine Idx.nat (by omega) ?_ | refine Idx.auto (by first | omega | decide) (by first | omega | decide) ?_ | refine Cell.ro rfl ?_ | refine SDraw.all (by kernel_rfl) ?_ | refine Kept.k0 ?_ | refine Kept.k1 ?_ | refine Kept.k2 ?_ | refine Kept.k3 ?_ | refine Kept.k4 ?_))
theorem c76 (hD : Db H) (hK : K (.int .i64 1) H) : SCalls Tryd.prog 76 [.int .u64 2] H K := by
  refine enter76 ?_
  repeat' ((conv => whnf); (first | refine c79 hD ?_ | refine Branch.f rfl ?_ | exact Keep.all hK | refine New.mk (fun _ => ?_) | refine Look.at0 ?_ | refine Cell.row ?_ | refine Cell.buf ?_ | refine Cells.row rfl ?_ | refine Put.row rfl ?_ | refine Put.buf rfl ?_ | refine Look.at1 ?_ | refine Look.at2 ?_ | refine Look.at3 ?_ | refine Look.at4 ?_ | refine Look.at5 ?_ | refine Look.at6 ?_ | refine Look.at7 ?_ | refine Look.at8 ?_ | with_reducible refine Val.i64 (by omega) (by omega) ?_ | with_reducible refine Val.u8 (by omega) (by omega) ?_ | with_reducible refine Val.u32 (by omega) (by omega) ?_ | with_reducible refine Val.u64 (by omega) (by omega) ?_ | with_reducible refine Val.u8m ?_ | with_reducible refine Val.u32m ?_ | with_reducible refine Val.u64m ?_ | with_reducible refine Val.shr8 ?_ | with_reducible refine Val.shr16 (by decide) ?_ | with_reducible refine Val.shr24 (by decide) ?_ | with_reducible refine Val.raw ?_ | refine Branch.not ?_ | refine Branch.and ?_ | refine Branch.or ?_ | refine Branch.dt (by assumption) ?_ | refine Branch.df (by assumption) ?_ | refine Branch.dt rfl ?_ | refine Branch.dt (by omega) ?_ | refine Branch.df (by omega) ?_ | refine Branch.t rfl ?_ | refine Branch.f rfl ?_ | refine Branch.t (by assumption) ?_ | refine Branch.f (by assumption) ?_ | refine Branch.d (fun _ => ?_) (fun _ => ?_) | refine Branch.mk (fun _ => ?_) (fun _ => ?_) | refine Need.mk (by first | omega | decide | rfl) ?_ | refine Idx.nat (by omega) ?_ | refine Idx.auto (by first | omega | decide) (by first | omega | decide) ?_ | refine Cell.ro rfl ?_ | refine SDraw.all (by kernel_rfl) ?_ | refine Kept.k0 ?_ | refine Kept.k1 ?_ | refine Kept.k2 ?_ | refine Kept.k3 ?_ | refine Kept.k4 ?_))
theorem c67 {u : Nat} (hD : Db H) (hu : u < 2 ^ 64) (hK : K (.tuple ⟨[.slice none 0 0, .string (strOf (binF 64 u))]⟩) H) : SCalls Tryd.prog 67 [.slice none 0 0, .int .u64 (u : Int), .int .i64 2, .bool false, .bool false] H K := by
  refine enter67 ?_
  have h83 := fun (p : Nat × Blk) (K : Value → Heap → Prop) hk => c76 (K := K) (H := p :: H) (hD.mono fun q hq => .tail _ hq) hk
  repeat' ((conv => whnf); (first | refine c75 ?_ | refine h83 _ _ ?_ | refine Branch.f rfl ?_ | refine Branch.t rfl ?_ | refine Val.to 1 rfl ?_ | refine New.mk (fun _ => ?_) | refine Look.at0 ?_ | refine Cell.row ?_ | refine Cell.buf ?_ | refine Cells.row rfl ?_ | refine Put.row rfl ?_ | refine Put.buf rfl ?_ | refine Look.at1 ?_ | refine Look.at2 ?_ | refine Look.at3 ?_ | refine Look.at4 ?_ | refine Look.at5 ?_ | refine Look.at6 ?_ | refine Look.at7 ?_ | refine Look.at8 ?_ | with_reducible refine Val.i64 (by omega) (by omega) ?_ | with_reducible refine Val.u8 (by omega) (by omega) ?_ | with_reducible refine Val.u32 (by omega) (by omega) ?_ | with_reducible refine Val.u64 (by omega) (by omega) ?_ | with_reducible refine Val.u8m ?_ | with_reducible refine Val.u32m ?_ | with_reducible refine Val.u64m ?_ | with_reducible refine Val.shr8 ?_ | with_reducible refine Val.shr16 (by decide) ?_ | with_reducible refine Val.shr24 (by decide) ?_ | with_reducible refine Val.raw ?_ | refine Branch.not ?_ | refine Branch.and ?_ | refine Branch.or ?_ | refine Branch.dt (by assumption) ?_ | refine Branch.df (by assumption) ?_ | refine Branch.dt rfl ?_ | refine Branch.dt (by omega) ?_ | refine Branch.df (by omega) ?_ | refine Branch.t rfl ?_ | refine Branch.f rfl ?_ | refine Branch.t (by assumption) ?_ | refine Branch.f (by assumption) ?_ | refine Branch.d (fun _ => ?_) (fun _ => ?_) | refine Branch.mk (fun _ => ?_) (fun _ => ?_) | refine Need.mk (by first | omega | decide | rfl) ?_ | refine Idx.nat (by omega) ?_ | refine Idx.auto (by first | omega | decide) (by first | omega | decide) ?_ | refine Cell.ro rfl ?_ | refine SDraw.all (by kernel_rfl) ?_ | refine Kept.k0 ?_ | refine Kept.k1 ?_ | refine Kept.k2 ?_ | refine Kept.k3 ?_ | refine Kept.k4 ?_))
  rename_i p
  refine SLoop.invA (fun (x : Nat × List UInt8) S H' => x.2.length ≤ 63 ∧ x.1 < 2 ^ (64 - x.2.length) ∧ binF 64 u = binF (64 - x.2.length) x.1 ++ x.2 ∧ S67 (.int .u64 (x.1 : Int)) (.bool false) (.bool false) (.slice none 0 0) (ptr p) (.int .i64 ((65 - x.2.length : Nat) : Int)) (.int .u64 1) (.int .u64 2) (.int .u64 1) S ∧ H' = digR p (65 - x.2.length) x.2 :: H) (fun x => x.1) (u, []) (Keep.all ⟨Nat.zero_le _, hu, by simp, .mk, rfl⟩) ?_
  rintro ⟨c, ds⟩ S H' ⟨h1, h2, h3, hS, rfl⟩ R hR
  dsimp only at h1 h2 h3 hS hR ⊢
  cases hS
  obtain ⟨n, hn⟩ : ∃ n, 64 - ds.length = n := ⟨_, rfl⟩
  have hn1 : 65 - ds.length = n + 1 := by omega
  rw [hn] at h2 h3
  rw [hn1]
  have hc64 : c < 2 ^ IntKind.u64.bits := Nat.lt_of_lt_of_le h2 (by show 2 ^ n ≤ 2 ^ 64; exact Nat.pow_le_pow_right (by decide) (by omega))
  have hc64' : (c : Int) ≤ 18446744073709551615 := by
    have : (2 : Nat) ^ IntKind.u64.bits = 18446744073709551616 := rfl
    omega
  have hi : ((n + 1 : Nat) : Int) - 1 = (n : Int) := by omega
  have hvn : ∀ K : Int → Prop, K (n : Int) → Val (IntKind.i64.wrap (((n + 1 : Nat) : Int) - 1)) K := fun K hk => Val.to _ (by rw [wrap_i64 (by omega) (by omega)]; omega) hk
  by_cases hc2 : c < 2
  · obtain ⟨m, rfl⟩ : ∃ m, n = m + 1 := ⟨n - 1, by omega⟩
    have e : binF (m + 1) c = [bitB c] := by unfold binF; rw [if_pos hc2]
    rw [e] at h3
    have hput := dig_put (n := m + 1) (ds := ds) (bitB c)
    rw [bitB_n hc2] at hput
    have hstr : ∀ (o : Oper) (xx : Operand) (K2 : Value → Heap → Prop), o.op = .convert 101 9 xx → K2 (.string (strOf (bitB c :: ds))) (digR p (m + 1) (bitB c :: ds) :: H) → RawV Tryd.prog o [.slice (some ⟨p, 0 + (m + 1), none⟩) (65 - (m + 1)) (65 - (m + 1))] (digR p (m + 1) (bitB c :: ds) :: H) K2 := fun o xx K2 ho hk =>
      RawV.toStr (e := 5) (l := bitB c :: ds) ho (by kernel_rfl) (by kernel_rfl) (by kernel_rfl) (.head _) (by rw [List.length_cons]; omega) (fun j x hj => by
        show (List.replicate (m + 1) zv ++ cel (bitB c :: ds))[0 + (m + 1) + j]? = _
        rw [List.getElem?_append_right (by rw [List.length_replicate]; omega), List.length_replicate, show 0 + (m + 1) + j - (m + 1) = j by omega]
        exact cel_at hj) hk
    have hK' : K (.tuple ⟨[.slice none 0 0, .string (strOf (bitB c :: ds))]⟩) H := by rw [h3] at hK; exact hK
    clear hR hK
    have hge : ¬ (2 : Int) ≤ (c : Int) := by omega
    rcases (by omega : c = 0 ∨ c = 1) with rfl | rfl
    · repeat' ((conv => whnf); (first | refine Branch.df hge ?_ | with_reducible refine hvn _ ?_ | refine Idx.of 0 rfl (by decide) ?_ | refine Idx.of (m + 1) rfl (by omega) ?_ | refine ⟨[], _, H, rfl, _, hput, appK_to ?_⟩ | refine Branch.f rfl ?_ | refine RawV.sliceArrFrom (e := 5) (n := 65) (k := m + 1) rfl (by kernel_rfl) (by kernel_rfl) (by omega) ?_ | refine hstr _ _ _ rfl ?_ | exact Keep.d1 hK' | refine New.mk (fun _ => ?_) | refine Look.at0 ?_ | refine Cell.row ?_ | refine Cell.buf ?_ | refine Cells.row rfl ?_ | refine Put.row rfl ?_ | refine Put.buf rfl ?_ | refine Look.at1 ?_ | refine Look.at2 ?_ | refine Look.at3 ?_ | refine Look.at4 ?_ | refine Look.at5 ?_ | refine Look.at6 ?_ | refine Look.at7 ?_ | refine Look.at8 ?_ | with_reducible refine Val.i64 (by omega) (by omega) ?_ | with_reducible refine Val.u8 (by omega) (by omega) ?_ | with_reducible refine Val.u32 (by omega) (by omega) ?_ | with_reducible refine Val.u64 (by omega) (by omega) ?_ | with_reducible refine Val.u8m ?_ | with_reducible refine Val.u32m ?_ | with_reducible refine Val.u64m ?_ | with_reducible refine Val.shr8 ?_ | with_reducible refine Val.shr16 (by decide) ?_ | with_reducible refine Val.shr24 (by decide) ?_ | with_reducible refine Val.raw ?_ | refine Branch.not ?_ | refine Branch.and ?_ | refine Branch.or ?_ | refine Branch.dt (by assumption) ?_ | refine Branch.df (by assumption) ?_ | refine Branch.dt rfl ?_ | refine Branch.dt (by omega) ?_ | refine Branch.df (by omega) ?_ | refine Branch.t rfl ?_ | refine Branch.f rfl ?_ | refine Branch.t (by assumption) ?_ | refine Branch.f (by assumption) ?_ | refine Branch.d (fun _ => ?_) (fun _ => ?_) | refine Branch.mk (fun _ => ?_) (fun _ => ?_) | refine Need.mk (by first | omega | decide | rfl) ?_ | refine Idx.nat (by omega) ?_ | refine Idx.auto (by first | omega | decide) (by first | omega | decide) ?_ | refine Cell.ro rfl ?_ | refine SDraw.all (by kernel_rfl) ?_ | refine Kept.k0 ?_ | refine Kept.k1 ?_ | refine Kept.k2 ?_ | refine Kept.k3 ?_ | refine Kept.k4 ?_))
    · repeat' ((conv => whnf); (first | refine Branch.df hge ?_ | with_reducible refine hvn _ ?_ | refine Idx.of 1 rfl (by decide) ?_ | refine Idx.of (m + 1) rfl (by omega) ?_ | refine ⟨[], _, H, rfl, _, hput, appK_to ?_⟩ | refine Branch.f rfl ?_ | refine RawV.sliceArrFrom (e := 5) (n := 65) (k := m + 1) rfl (by kernel_rfl) (by kernel_rfl) (by omega) ?_ | refine hstr _ _ _ rfl ?_ | exact Keep.d1 hK' | refine New.mk (fun _ => ?_) | refine Look.at0 ?_ | refine Cell.row ?_ | refine Cell.buf ?_ | refine Cells.row rfl ?_ | refine Put.row rfl ?_ | refine Put.buf rfl ?_ | refine Look.at1 ?_ | refine Look.at2 ?_ | refine Look.at3 ?_ | refine Look.at4 ?_ | refine Look.at5 ?_ | refine Look.at6 ?_ | refine Look.at7 ?_ | refine Look.at8 ?_ | with_reducible refine Val.i64 (by omega) (by omega) ?_ | with_reducible refine Val.u8 (by omega) (by omega) ?_ | with_reducible refine Val.u32 (by omega) (by omega) ?_ | with_reducible refine Val.u64 (by omega) (by omega) ?_ | with_reducible refine Val.u8m ?_ | with_reducible refine Val.u32m ?_ | with_reducible refine Val.u64m ?_ | with_reducible refine Val.shr8 ?_ | with_reducible refine Val.shr16 (by decide) ?_ | with_reducible refine Val.shr24 (by decide) ?_ | with_reducible refine Val.raw ?_ | refine Branch.not ?_ | refine Branch.and ?_ | refine Branch.or ?_ | refine Branch.dt (by assumption) ?_ | refine Branch.df (by assumption) ?_ | refine Branch.dt rfl ?_ | refine Branch.dt (by omega) ?_ | refine Branch.df (by omega) ?_ | refine Branch.t rfl ?_ | refine Branch.f rfl ?_ | refine Branch.t (by assumption) ?_ | refine Branch.f (by assumption) ?_ | refine Branch.d (fun _ => ?_) (fun _ => ?_) | refine Branch.mk (fun _ => ?_) (fun _ => ?_) | refine Need.mk (by first | omega | decide | rfl) ?_ | refine Idx.nat (by omega) ?_ | refine Idx.auto (by first | omega | decide) (by first | omega | decide) ?_ | refine Cell.ro rfl ?_ | refine SDraw.all (by kernel_rfl) ?_ | refine Kept.k0 ?_ | refine Kept.k1 ?_ | refine Kept.k2 ?_ | refine Kept.k3 ?_ | refine Kept.k4 ?_))
  · obtain ⟨m, rfl⟩ : ∃ m, n = m + 1 + 1 := ⟨n - 2, by
      rcases (by omega : n = 0 ∨ n = 1 ∨ 2 ≤ n) with rfl | rfl | h
      · simp at h2; omega
      · simp at h2; omega
      · omega⟩
    have e : binF (m + 1 + 1) c = binF (m + 1) (c / 2) ++ [bitB (c % 2)] := by
      show (if c < 2 then _ else _) = _
      rw [if_neg hc2]
    rw [e, List.append_assoc] at h3
    have hput := dig_put (n := m + 1 + 1) (ds := ds) (bitB (c % 2))
    rw [bitB_n (Nat.mod_lt _ (by decide))] at hput
    have hlen : (bitB (c % 2) :: ds).length = ds.length + 1 := rfl
    have hnext : ∀ S, S67 (.int .u64 ((c / 2 : Nat) : Int)) (.bool false) (.bool false) (.slice none 0 0) (ptr p) (.int .i64 ((m + 1 + 1 : Nat) : Int)) (.int .u64 1) (.int .u64 2) (.int .u64 1) S → R S (digR p (m + 1 + 1) (bitB (c % 2) :: ds) :: H) := fun S hS => hR (c / 2, bitB (c % 2) :: ds) _ _ (by show c / 2 < c; omega) (Keep.all ⟨by show (bitB (c % 2) :: ds).length ≤ 63; omega, by
      show c / 2 < 2 ^ (64 - (bitB (c % 2) :: ds).length)
      rw [hlen, show 64 - (ds.length + 1) = m + 1 by omega]
      rw [Nat.pow_succ] at h2; omega, by
      show _ = binF (64 - (bitB (c % 2) :: ds).length) (c / 2) ++ (bitB (c % 2) :: ds)
      rw [hlen, show 64 - (ds.length + 1) = m + 1 by omega]
      exact h3, by
      show S67 _ _ _ _ _ (.int .i64 ((65 - (bitB (c % 2) :: ds).length : Nat) : Int)) _ _ _ S
      rw [hlen, show 65 - (ds.length + 1) = m + 1 + 1 by omega]
      exact hS, by
      show _ = digR p (65 - (bitB (c % 2) :: ds).length) (bitB (c % 2) :: ds) :: H
      rw [hlen, show 65 - (ds.length + 1) = m + 1 + 1 by omega]⟩)
    clear hR hK
    have hge : (2 : Int) ≤ (c : Int) := by omega
    have hshr : ∀ K : Int → Prop, K ((c / 2 : Nat) : Int) → Val (shrI .u64 (c : Int) 1) K := fun K hk => Val.to _ (shr_nat (k := .u64) (n := 1) (by decide)) hk
    have hand : bitAnd .u64 (c : Int) 1 = ((c % 2 : Nat) : Int) := bitMask_nat (k := .u64) rfl (a := c) (n := 1) hc64 (by decide)
    rcases (by omega : c % 2 = 0 ∨ c % 2 = 1) with hq | hq <;> rw [hq] at hand hput hnext
    · repeat' ((conv => whnf); (first | refine Branch.dt hge ?_ | with_reducible refine hvn _ ?_ | with_reducible refine Val.to _ hand ?_ | refine Idx.of 0 rfl (by decide) ?_ | refine Idx.of (m + 1 + 1) rfl (by omega) ?_ | refine ⟨[], _, H, rfl, _, hput, appK_to ?_⟩ | with_reducible refine hshr _ ?_ | exact hnext _ .mk | refine New.mk (fun _ => ?_) | refine Look.at0 ?_ | refine Cell.row ?_ | refine Cell.buf ?_ | refine Cells.row rfl ?_ | refine Put.row rfl ?_ | refine Put.buf rfl ?_ | refine Look.at1 ?_ | refine Look.at2 ?_ | refine Look.at3 ?_ | refine Look.at4 ?_ | refine Look.at5 ?_ | refine Look.at6 ?_ | refine Look.at7 ?_ | refine Look.at8 ?_ | with_reducible refine Val.i64 (by omega) (by omega) ?_ | with_reducible refine Val.u8 (by omega) (by omega) ?_ | with_reducible refine Val.u32 (by omega) (by omega) ?_ | with_reducible refine Val.u64 (by omega) (by omega) ?_ | with_reducible refine Val.u8m ?_ | with_reducible refine Val.u32m ?_ | with_reducible refine Val.u64m ?_ | with_reducible refine Val.shr8 ?_ | with_reducible refine Val.shr16 (by decide) ?_ | with_reducible refine Val.shr24 (by decide) ?_ | with_reducible refine Val.raw ?_ | refine Branch.not ?_ | refine Branch.and ?_ | refine Branch.or ?_ | refine Branch.dt (by assumption) ?_ | refine Branch.df (by assumption) ?_ | refine Branch.dt rfl ?_ | refine Branch.dt (by omega) ?_ | refine Branch.df (by omega) ?_ | refine Branch.t rfl ?_ | refine Branch.f rfl ?_ | refine Branch.t (by assumption) ?_ | refine Branch.f (by assumption) ?_ | refine Branch.d (fun _ => ?_) (fun _ => ?_) | refine Branch.mk (fun _ => ?_) (fun _ => ?_) | refine Need.mk (by first | omega | decide | rfl) ?_ | refine Idx.nat (by omega) ?_ | refine Idx.auto (by first | omega | decide) (by first | omega | decide) ?_ | refine Cell.ro rfl ?_ | refine SDraw.all (by kernel_rfl) ?_ | refine Kept.k0 ?_ | refine Kept.k1 ?_ | refine Kept.k2 ?_ | refine Kept.k3 ?_ | refine Kept.k4 ?_))
    · repeat' ((conv => whnf); (first | refine Branch.dt hge ?_ | with_reducible refine hvn _ ?_ | with_reducible refine Val.to _ hand ?_ | refine Idx.of 1 rfl (by decide) ?_ | refine Idx.of (m + 1 + 1) rfl (by omega) ?_ | refine ⟨[], _, H, rfl, _, hput, appK_to ?_⟩ | with_reducible refine hshr _ ?_ | exact hnext _ .mk | refine New.mk (fun _ => ?_) | refine Look.at0 ?_ | refine Cell.row ?_ | refine Cell.buf ?_ | refine Cells.row rfl ?_ | refine Put.row rfl ?_ | refine Put.buf rfl ?_ | refine Look.at1 ?_ | refine Look.at2 ?_ | refine Look.at3 ?_ | refine Look.at4 ?_ | refine Look.at5 ?_ | refine Look.at6 ?_ | refine Look.at7 ?_ | refine Look.at8 ?_ | with_reducible refine Val.i64 (by omega) (by omega) ?_ | with_reducible refine Val.u8 (by omega) (by omega) ?_ | with_reducible refine Val.u32 (by omega) (by omega) ?_ | with_reducible refine Val.u64 (by omega) (by omega) ?_ | with_reducible refine Val.u8m ?_ | with_reducible refine Val.u32m ?_ | with_reducible refine Val.u64m ?_ | with_reducible refine Val.shr8 ?_ | with_reducible refine Val.shr16 (by decide) ?_ | with_reducible refine Val.shr24 (by decide) ?_ | with_reducible refine Val.raw ?_ | refine Branch.not ?_ | refine Branch.and ?_ | refine Branch.or ?_ | refine Branch.dt (by assumption) ?_ | refine Branch.df (by assumption) ?_ | refine Branch.dt rfl ?_ | refine Branch.dt (by omega) ?_ | refine Branch.df (by omega) ?_ | refine Branch.t rfl ?_ | refine Branch.f rfl ?_ | refine Branch.t (by assumption) ?_ | refine Branch.f (by assumption) ?_ | refine Branch.d (fun _ => ?_) (fun _ => ?_) | refine Branch.mk (fun _ => ?_) (fun _ => ?_) | refine Need.mk (by first | omega | decide | rfl) ?_ | refine Idx.nat (by omega) ?_ | refine Idx.auto (by first | omega | decide) (by first | omega | decide) ?_ | refine Cell.ro rfl ?_ | refine SDraw.all (by kernel_rfl) ?_ | refine Kept.k0 ?_ | refine Kept.k1 ?_ | refine Kept.k2 ?_ | refine Kept.k3 ?_ | refine Kept.k4 ?_))
theorem c59 {u : Nat} (hD : Db H) (hu : u < 2 ^ 64) (hK : K (.string (strOf (binF 64 u))) H) : SCalls Tryd.prog 59 [.int .u64 (u : Int), .int .i64 2] H K := by
  refine enter59 ?_
  repeat' ((conv => whnf); (first | refine c67 hD hu ?_ | refine Branch.f rfl ?_ | exact Keep.all hK | refine New.mk (fun _ => ?_) | refine Look.at0 ?_ | refine Cell.row ?_ | refine Cell.buf ?_ | refine Cells.row rfl ?_ | refine Put.row rfl ?_ | refine Put.buf rfl ?_ | refine Look.at1 ?_ | refine Look.at2 ?_ | refine Look.at3 ?_ | refine Look.at4 ?_ | refine Look.at5 ?_ | refine Look.at6 ?_ | refine Look.at7 ?_ | refine Look.at8 ?_ | with_reducible refine Val.i64 (by omega) (by omega) ?_ | with_reducible refine Val.u8 (by omega) (by omega) ?_ | with_reducible refine Val.u32 (by omega) (by omega) ?_ | with_reducible refine Val.u64 (by omega) (by omega) ?_ | with_reducible refine Val.u8m ?_ | with_reducible refine Val.u32m ?_ | with_reducible refine Val.u64m ?_ | with_reducible refine Val.shr8 ?_ | with_reducible refine Val.shr16 (by decide) ?_ | with_reducible refine Val.shr24 (by decide) ?_ | with_reducible refine Val.raw ?_ | refine Branch.not ?_ | refine Branch.and ?_ | refine Branch.or ?_ | refine Branch.dt (by assumption) ?_ | refine Branch.df (by assumption) ?_ | refine Branch.dt rfl ?_ | refine Branch.dt (by omega) ?_ | refine Branch.df (by omega) ?_ | refine Branch.t rfl ?_ | refine Branch.f rfl ?_ | refine Branch.t (by assumption) ?_ | refine Branch.f (by assumption) ?_ | refine Branch.d (fun _ => ?_) (fun _ => ?_) | refine Branch.mk (fun _ => ?_) (fun _ => ?_) | refine Need.mk (by first | omega | decide | rfl) ?_ | refine Idx.nat (by omega) ?_ | refine Idx.auto (by first | omega | decide) (by first | omega | decide) ?_ | refine Cell.ro rfl ?_ | refine SDraw.all (by kernel_rfl) ?_ | refine Kept.k0 ?_ | refine Kept.k1 ?_ | refine Kept.k2 ?_ | refine Kept.k3 ?_ | refine Kept.k4 ?_))
theorem c56 {u : Nat} (hD : Db H) (hu : u < 2 ^ 64) (hK : K (.string (strOf (binF 64 u))) H) : SCalls Tryd.prog 56 [.int .u64 (u : Int), .int .i64 2] H K := by
  refine enter56 ?_
  repeat' ((conv => whnf); (first | refine c59 hD hu ?_ | exact Keep.all hK | refine New.mk (fun _ => ?_) | refine Look.at0 ?_ | refine Cell.row ?_ | refine Cell.buf ?_ | refine Cells.row rfl ?_ | refine Put.row rfl ?_ | refine Put.buf rfl ?_ | refine Look.at1 ?_ | refine Look.at2 ?_ | refine Look.at3 ?_ | refine Look.at4 ?_ | refine Look.at5 ?_ | refine Look.at6 ?_ | refine Look.at7 ?_ | refine Look.at8 ?_ | with_reducible refine Val.i64 (by omega) (by omega) ?_ | with_reducible refine Val.u8 (by omega) (by omega) ?_ | with_reducible refine Val.u32 (by omega) (by omega) ?_ | with_reducible refine Val.u64 (by omega) (by omega) ?_ | with_reducible refine Val.u8m ?_ | with_reducible refine Val.u32m ?_ | with_reducible refine Val.u64m ?_ | with_reducible refine Val.shr8 ?_ | with_reducible refine Val.shr16 (by decide) ?_ | with_reducible refine Val.shr24 (by decide) ?_ | with_reducible refine Val.raw ?_ | refine Branch.not ?_ | refine Branch.and ?_ | refine Branch.or ?_ | refine Branch.dt (by assumption) ?_ | refine Branch.df (by assumption) ?_ | refine Branch.dt rfl ?_ | refine Branch.dt (by omega) ?_ | refine Branch.df (by omega) ?_ | refine Branch.t rfl ?_ | refine Branch.f rfl ?_ | refine Branch.t (by assumption) ?_ | refine Branch.f (by assumption) ?_ | refine Branch.d (fun _ => ?_) (fun _ => ?_) | refine Branch.mk (fun _ => ?_) (fun _ => ?_) | refine Need.mk (by first | omega | decide | rfl) ?_ | refine Idx.nat (by omega) ?_ | refine Idx.auto (by first | omega | decide) (by first | omega | decide) ?_ | refine Cell.ro rfl ?_ | refine SDraw.all (by kernel_rfl) ?_ | refine Kept.k0 ?_ | refine Kept.k1 ?_ | refine Kept.k2 ?_ | refine Kept.k3 ?_ | refine Kept.k4 ?_))
end
end Go.Proofs.YtjleekdidedhaaaDoor

/- Layer 1: numbers as bits, by the program and by the document: by walks. -/
set_option linter.unusedVariables false
set_option linter.unusedSimpArgs false
set_option maxRecDepth 100000
set_option maxHeartbeats 4000000
namespace Go.Proofs.YtjleekdidedhaaaDoor
open Sx
def numV (n : Nat) (w : Int) : List UInt8 × Int := if 0 ≤ w ∧ w ≤ 64 ∧ n < 2 ^ w.toNat then (numB w.toNat n, 0) else ([], 1)
inductive S50 (A0 A6 A7 : Value) : List Value → Prop
  | mk {r1 r2 r3 r4 r5 r8 r9 r10 r11 r12 r13 r14 r15 r16 r17 r18 r19 r20 r21 r22 r23 r24 r25 r26 r27 r28 r29 r30 r31 r32 r33 r34 : Value} : S50 A0 A6 A7 [A0, r1, r2, r3, r4, r5, A6, A7, r8, r9, r10, r11, r12, r13, r14, r15, r16, r17, r18, r19, r20, r21, r22, r23, r24, r25, r26, r27, r28, r29, r30, r31, r32, r33, r34]
section
variable {K : Value → Heap → Prop} {H : Heap}
theorem c69 {k : Nat} (hk : k ≤ 64) (hK : K (.tuple ⟨[.int .u64 0, .int .u64 (k : Int)]⟩) H) : SCalls Tryd.prog 69 [.int .u64 1, .int .u64 (k : Int)] H K := by
  refine enter69 ?_
  have h1 : bitAnd .u64 (k : Int) 4294967295 = (k : Int) := by
    have := bitMask_nat (k := .u64) rfl (a := k) (n := 32) (by show k < 18446744073709551616; omega) (by decide)
    rw [Nat.mod_eq_of_lt (show k < 2 ^ 32 by omega)] at this
    exact this
  have h2 : shrI .u64 (k : Int) 32 = 0 := by
    have := shr_nat (k := .u64) (a := k) (n := 32) (by decide)
    rw [Nat.div_eq_of_lt (show k < 2 ^ 32 by omega)] at this
    exact this
  repeat' ((conv => whnf); (first | with_reducible refine Val.to _ h1 ?_ | with_reducible refine Val.to _ h2 ?_ | refine Val.to 0 (by decide) ?_ | refine Val.to 1 (by decide) ?_ | refine Val.to (k : Int) (by rw [wrap_u64]; omega) ?_ | refine Val.to 0 (by rw [wrap_u64]; omega) ?_ | exact Keep.all hK | refine New.mk (fun _ => ?_) | refine Look.at0 ?_ | refine Cell.row ?_ | refine Cell.buf ?_ | refine Cells.row rfl ?_ | refine Put.row rfl ?_ | refine Put.buf rfl ?_ | refine Look.at1 ?_ | refine Look.at2 ?_ | refine Look.at3 ?_ | refine Look.at4 ?_ | refine Look.at5 ?_ | refine Look.at6 ?_ | refine Look.at7 ?_ | refine Look.at8 ?_ | with_reducible refine Val.i64 (by omega) (by omega) ?_ | with_reducible refine Val.u8 (by omega) (by omega) ?_ | with_reducible refine Val.u32 (by omega) (by omega) ?_ | with_reducible refine Val.u64 (by omega) (by omega) ?_ | with_reducible refine Val.u8m ?_ | with_reducible refine Val.u32m ?_ | with_reducible refine Val.u64m ?_ | with_reducible refine Val.shr8 ?_ | with_reducible refine Val.shr16 (by decide) ?_ | with_reducible refine Val.shr24 (by decide) ?_ | with_reducible refine Val.raw ?_ | refine Branch.not ?_ | refine Branch.and ?_ | refine Branch.or ?_ | refine Branch.dt (by assumption) ?_ | refine Branch.df (by assumption) ?_ | refine Branch.dt rfl ?_ | refine Branch.dt (by omega) ?_ | refine Branch.df (by omega) ?_ | refine Branch.t rfl ?_ | refine Branch.f rfl ?_ | refine Branch.t (by assumption) ?_ | refine Branch.f (by assumption) ?_ | refine Branch.d (fun _ => ?_) (fun _ => ?_) | refine Branch.mk (fun _ => ?_) (fun _ => ?_) | refine Need.mk (by first | omega | decide | rfl) ?_ | refine Idx.nat (by omega) ?_ | refine Idx.auto (by first | omega | decide) (by first | omega | decide) ?_ | refine Cell.ro rfl ?_ | refine SDraw.all (by kernel_rfl) ?_ | refine Kept.k0 ?_ | refine Kept.k1 ?_ | refine Kept.k2 ?_ | refine Kept.k3 ?_ | refine Kept.k4 ?_))
theorem c60 {k : Nat} (hk : k ≤ 64) (hK : K (.tuple ⟨[.int .u64 0, .int .u64 (k : Int)]⟩) H) : SCalls Tryd.prog 60 [.int .u64 1, .int .u64 (k : Int)] H K := by
  refine enter60 ?_
  repeat' ((conv => whnf); (first | refine c69 hk ?_ | refine Branch.f rfl ?_ | exact Keep.all hK | refine New.mk (fun _ => ?_) | refine Look.at0 ?_ | refine Cell.row ?_ | refine Cell.buf ?_ | refine Cells.row rfl ?_ | refine Put.row rfl ?_ | refine Put.buf rfl ?_ | refine Look.at1 ?_ | refine Look.at2 ?_ | refine Look.at3 ?_ | refine Look.at4 ?_ | refine Look.at5 ?_ | refine Look.at6 ?_ | refine Look.at7 ?_ | refine Look.at8 ?_ | with_reducible refine Val.i64 (by omega) (by omega) ?_ | with_reducible refine Val.u8 (by omega) (by omega) ?_ | with_reducible refine Val.u32 (by omega) (by omega) ?_ | with_reducible refine Val.u64 (by omega) (by omega) ?_ | with_reducible refine Val.u8m ?_ | with_reducible refine Val.u32m ?_ | with_reducible refine Val.u64m ?_ | with_reducible refine Val.shr8 ?_ | with_reducible refine Val.shr16 (by decide) ?_ | with_reducible refine Val.shr24 (by decide) ?_ | with_reducible refine Val.raw ?_ | refine Branch.not ?_ | refine Branch.and ?_ | refine Branch.or ?_ | refine Branch.dt (by assumption) ?_ | refine Branch.df (by assumption) ?_ | refine Branch.dt rfl ?_ | refine Branch.dt (by omega) ?_ | refine Branch.df (by omega) ?_ | refine Branch.t rfl ?_ | refine Branch.f rfl ?_ | refine Branch.t (by assumption) ?_ | refine Branch.f (by assumption) ?_ | refine Branch.d (fun _ => ?_) (fun _ => ?_) | refine Branch.mk (fun _ => ?_) (fun _ => ?_) | refine Need.mk (by first | omega | decide | rfl) ?_ | refine Idx.nat (by omega) ?_ | refine Idx.auto (by first | omega | decide) (by first | omega | decide) ?_ | refine Cell.ro rfl ?_ | refine SDraw.all (by kernel_rfl) ?_ | refine Kept.k0 ?_ | refine Kept.k1 ?_ | refine Kept.k2 ?_ | refine Kept.k3 ?_ | refine Kept.k4 ?_))
theorem c70 {l p : List UInt8} (hK : K (.bool (decide (p.length ≤ l.length) && decide (l.take p.length = p))) H) : SCalls Tryd.prog 70 [.string (strOf l), .string (strOf p)] H K := by
  refine enter70 ?_
  have hl : (strOf l).size = l.length := strOf_size l
  have hp : (strOf p).size = p.length := strOf_size p
  by_cases h : p.length ≤ l.length
  · have hcut : decide ((strOf l).extract 0 p.length = strOf p) = decide (l.take p.length = p) := by
      rw [strOf_cut, strOf_eq]; simp
    rw [decide_eq_true h, Bool.true_and, ← hcut] at hK
    repeat' ((conv => whnf); (first | refine Branch.dt (by omega) ?_ | refine Idx.of p.length (by omega) (by omega) ?_ | exact Keep.all hK | refine New.mk (fun _ => ?_) | refine Look.at0 ?_ | refine Cell.row ?_ | refine Cell.buf ?_ | refine Cells.row rfl ?_ | refine Put.row rfl ?_ | refine Put.buf rfl ?_ | refine Look.at1 ?_ | refine Look.at2 ?_ | refine Look.at3 ?_ | refine Look.at4 ?_ | refine Look.at5 ?_ | refine Look.at6 ?_ | refine Look.at7 ?_ | refine Look.at8 ?_ | with_reducible refine Val.i64 (by omega) (by omega) ?_ | with_reducible refine Val.u8 (by omega) (by omega) ?_ | with_reducible refine Val.u32 (by omega) (by omega) ?_ | with_reducible refine Val.u64 (by omega) (by omega) ?_ | with_reducible refine Val.u8m ?_ | with_reducible refine Val.u32m ?_ | with_reducible refine Val.u64m ?_ | with_reducible refine Val.shr8 ?_ | with_reducible refine Val.shr16 (by decide) ?_ | with_reducible refine Val.shr24 (by decide) ?_ | with_reducible refine Val.raw ?_ | refine Branch.not ?_ | refine Branch.and ?_ | refine Branch.or ?_ | refine Branch.dt (by assumption) ?_ | refine Branch.df (by assumption) ?_ | refine Branch.dt rfl ?_ | refine Branch.dt (by omega) ?_ | refine Branch.df (by omega) ?_ | refine Branch.t rfl ?_ | refine Branch.f rfl ?_ | refine Branch.t (by assumption) ?_ | refine Branch.f (by assumption) ?_ | refine Branch.d (fun _ => ?_) (fun _ => ?_) | refine Branch.mk (fun _ => ?_) (fun _ => ?_) | refine Need.mk (by first | omega | decide | rfl) ?_ | refine Idx.nat (by omega) ?_ | refine Idx.auto (by first | omega | decide) (by first | omega | decide) ?_ | refine Cell.ro rfl ?_ | refine SDraw.all (by kernel_rfl) ?_ | refine Kept.k0 ?_ | refine Kept.k1 ?_ | refine Kept.k2 ?_ | refine Kept.k3 ?_ | refine Kept.k4 ?_))
  · rw [decide_eq_false h, Bool.false_and] at hK
    repeat' ((conv => whnf); (first | refine Branch.df (by omega) ?_ | exact Keep.all hK | refine New.mk (fun _ => ?_) | refine Look.at0 ?_ | refine Cell.row ?_ | refine Cell.buf ?_ | refine Cells.row rfl ?_ | refine Put.row rfl ?_ | refine Put.buf rfl ?_ | refine Look.at1 ?_ | refine Look.at2 ?_ | refine Look.at3 ?_ | refine Look.at4 ?_ | refine Look.at5 ?_ | refine Look.at6 ?_ | refine Look.at7 ?_ | refine Look.at8 ?_ | with_reducible refine Val.i64 (by omega) (by omega) ?_ | with_reducible refine Val.u8 (by omega) (by omega) ?_ | with_reducible refine Val.u32 (by omega) (by omega) ?_ | with_reducible refine Val.u64 (by omega) (by omega) ?_ | with_reducible refine Val.u8m ?_ | with_reducible refine Val.u32m ?_ | with_reducible refine Val.u64m ?_ | with_reducible refine Val.shr8 ?_ | with_reducible refine Val.shr16 (by decide) ?_ | with_reducible refine Val.shr24 (by decide) ?_ | with_reducible refine Val.raw ?_ | refine Branch.not ?_ | refine Branch.and ?_ | refine Branch.or ?_ | refine Branch.dt (by assumption) ?_ | refine Branch.df (by assumption) ?_ | refine Branch.dt rfl ?_ | refine Branch.dt (by omega) ?_ | refine Branch.df (by omega) ?_ | refine Branch.t rfl ?_ | refine Branch.f rfl ?_ | refine Branch.t (by assumption) ?_ | refine Branch.f (by assumption) ?_ | refine Branch.d (fun _ => ?_) (fun _ => ?_) | refine Branch.mk (fun _ => ?_) (fun _ => ?_) | refine Need.mk (by first | omega | decide | rfl) ?_ | refine Idx.nat (by omega) ?_ | refine Idx.auto (by first | omega | decide) (by first | omega | decide) ?_ | refine Cell.ro rfl ?_ | refine SDraw.all (by kernel_rfl) ?_ | refine Kept.k0 ?_ | refine Kept.k1 ?_ | refine Kept.k2 ?_ | refine Kept.k3 ?_ | refine Kept.k4 ?_))
theorem c61 {l p : List UInt8} (hK : K (.bool (decide (p.length ≤ l.length) && decide (l.take p.length = p))) H) : SCalls Tryd.prog 61 [.string (strOf l), .string (strOf p)] H K := by
  refine enter61 ?_
  repeat' ((conv => whnf); (first | refine c70 ?_ | exact Keep.all hK | refine New.mk (fun _ => ?_) | refine Look.at0 ?_ | refine Cell.row ?_ | refine Cell.buf ?_ | refine Cells.row rfl ?_ | refine Put.row rfl ?_ | refine Put.buf rfl ?_ | refine Look.at1 ?_ | refine Look.at2 ?_ | refine Look.at3 ?_ | refine Look.at4 ?_ | refine Look.at5 ?_ | refine Look.at6 ?_ | refine Look.at7 ?_ | refine Look.at8 ?_ | with_reducible refine Val.i64 (by omega) (by omega) ?_ | with_reducible refine Val.u8 (by omega) (by omega) ?_ | with_reducible refine Val.u32 (by omega) (by omega) ?_ | with_reducible refine Val.u64 (by omega) (by omega) ?_ | with_reducible refine Val.u8m ?_ | with_reducible refine Val.u32m ?_ | with_reducible refine Val.u64m ?_ | with_reducible refine Val.shr8 ?_ | with_reducible refine Val.shr16 (by decide) ?_ | with_reducible refine Val.shr24 (by decide) ?_ | with_reducible refine Val.raw ?_ | refine Branch.not ?_ | refine Branch.and ?_ | refine Branch.or ?_ | refine Branch.dt (by assumption) ?_ | refine Branch.df (by assumption) ?_ | refine Branch.dt rfl ?_ | refine Branch.dt (by omega) ?_ | refine Branch.df (by omega) ?_ | refine Branch.t rfl ?_ | refine Branch.f rfl ?_ | refine Branch.t (by assumption) ?_ | refine Branch.f (by assumption) ?_ | refine Branch.d (fun _ => ?_) (fun _ => ?_) | refine Branch.mk (fun _ => ?_) (fun _ => ?_) | refine Need.mk (by first | omega | decide | rfl) ?_ | refine Idx.nat (by omega) ?_ | refine Idx.auto (by first | omega | decide) (by first | omega | decide) ?_ | refine Cell.ro rfl ?_ | refine SDraw.all (by kernel_rfl) ?_ | refine Kept.k0 ?_ | refine Kept.k1 ?_ | refine Kept.k2 ?_ | refine Kept.k3 ?_ | refine Kept.k4 ?_))
theorem c57z {k : Nat} (hk : k ≤ 64) (hK : K (.string (strOf (List.replicate k 48))) H) : SCalls Tryd.prog 57 [.string ⟨#[48]⟩, .int .i64 (k : Int)] H K := by
  refine enter57 ?_
  rcases (by omega : k = 0 ∨ k = 1 ∨ 2 ≤ k) with rfl | rfl | h2
  · repeat' ((conv => whnf); (first | refine Branch.t rfl ?_ | exact Keep.all hK | refine New.mk (fun _ => ?_) | refine Look.at0 ?_ | refine Cell.row ?_ | refine Cell.buf ?_ | refine Cells.row rfl ?_ | refine Put.row rfl ?_ | refine Put.buf rfl ?_ | refine Look.at1 ?_ | refine Look.at2 ?_ | refine Look.at3 ?_ | refine Look.at4 ?_ | refine Look.at5 ?_ | refine Look.at6 ?_ | refine Look.at7 ?_ | refine Look.at8 ?_ | with_reducible refine Val.i64 (by omega) (by omega) ?_ | with_reducible refine Val.u8 (by omega) (by omega) ?_ | with_reducible refine Val.u32 (by omega) (by omega) ?_ | with_reducible refine Val.u64 (by omega) (by omega) ?_ | with_reducible refine Val.u8m ?_ | with_reducible refine Val.u32m ?_ | with_reducible refine Val.u64m ?_ | with_reducible refine Val.shr8 ?_ | with_reducible refine Val.shr16 (by decide) ?_ | with_reducible refine Val.shr24 (by decide) ?_ | with_reducible refine Val.raw ?_ | refine Branch.not ?_ | refine Branch.and ?_ | refine Branch.or ?_ | refine Branch.dt (by assumption) ?_ | refine Branch.df (by assumption) ?_ | refine Branch.dt rfl ?_ | refine Branch.dt (by omega) ?_ | refine Branch.df (by omega) ?_ | refine Branch.t rfl ?_ | refine Branch.f rfl ?_ | refine Branch.t (by assumption) ?_ | refine Branch.f (by assumption) ?_ | refine Branch.d (fun _ => ?_) (fun _ => ?_) | refine Branch.mk (fun _ => ?_) (fun _ => ?_) | refine Need.mk (by first | omega | decide | rfl) ?_ | refine Idx.nat (by omega) ?_ | refine Idx.auto (by first | omega | decide) (by first | omega | decide) ?_ | refine Cell.ro rfl ?_ | refine SDraw.all (by kernel_rfl) ?_ | refine Kept.k0 ?_ | refine Kept.k1 ?_ | refine Kept.k2 ?_ | refine Kept.k3 ?_ | refine Kept.k4 ?_))
  · repeat' ((conv => whnf); (first | refine Branch.t rfl ?_ | refine Branch.f rfl ?_ | exact Keep.all hK | refine New.mk (fun _ => ?_) | refine Look.at0 ?_ | refine Cell.row ?_ | refine Cell.buf ?_ | refine Cells.row rfl ?_ | refine Put.row rfl ?_ | refine Put.buf rfl ?_ | refine Look.at1 ?_ | refine Look.at2 ?_ | refine Look.at3 ?_ | refine Look.at4 ?_ | refine Look.at5 ?_ | refine Look.at6 ?_ | refine Look.at7 ?_ | refine Look.at8 ?_ | with_reducible refine Val.i64 (by omega) (by omega) ?_ | with_reducible refine Val.u8 (by omega) (by omega) ?_ | with_reducible refine Val.u32 (by omega) (by omega) ?_ | with_reducible refine Val.u64 (by omega) (by omega) ?_ | with_reducible refine Val.u8m ?_ | with_reducible refine Val.u32m ?_ | with_reducible refine Val.u64m ?_ | with_reducible refine Val.shr8 ?_ | with_reducible refine Val.shr16 (by decide) ?_ | with_reducible refine Val.shr24 (by decide) ?_ | with_reducible refine Val.raw ?_ | refine Branch.not ?_ | refine Branch.and ?_ | refine Branch.or ?_ | refine Branch.dt (by assumption) ?_ | refine Branch.df (by assumption) ?_ | refine Branch.dt rfl ?_ | refine Branch.dt (by omega) ?_ | refine Branch.df (by omega) ?_ | refine Branch.t rfl ?_ | refine Branch.f rfl ?_ | refine Branch.t (by assumption) ?_ | refine Branch.f (by assumption) ?_ | refine Branch.d (fun _ => ?_) (fun _ => ?_) | refine Branch.mk (fun _ => ?_) (fun _ => ?_) | refine Need.mk (by first | omega | decide | rfl) ?_ | refine Idx.nat (by omega) ?_ | refine Idx.auto (by first | omega | decide) (by first | omega | decide) ?_ | refine Cell.ro rfl ?_ | refine SDraw.all (by kernel_rfl) ?_ | refine Kept.k0 ?_ | refine Kept.k1 ?_ | refine Kept.k2 ?_ | refine Kept.k3 ?_ | refine Kept.k4 ?_))
  · have e1 : ∀ (K : Value → Heap → Prop), K (.bool false) H → SCalls Tryd.prog 61 [.string (strOf (List.replicate 128 32)), .string (strOf [48])] H K := fun K hk => c61 hk
    have e2 : ∀ (K : Value → Heap → Prop), K (.bool false) H → SCalls Tryd.prog 61 [.string (strOf (List.replicate 128 45)), .string (strOf [48])] H K := fun K hk => c61 hk
    have e3 : ∀ (K : Value → Heap → Prop), K (.bool true) H → SCalls Tryd.prog 61 [.string (strOf (List.replicate 64 48)), .string (strOf [48])] H K := fun K hk => c61 hk
    have hz : (strOf (List.replicate 64 48)).extract 0 k = strOf (List.replicate k 48) := by
      rw [strOf_cut]
      congr 1
      rw [List.drop_zero, List.take_replicate]; congr 1; omega
    have hfin : ∀ s : ByteArray, s = strOf (List.replicate k 48) → Keep H fun H' => K (.string s) H' := fun s e => by rw [e]; exact Keep.all hK
    repeat' ((conv => whnf); (first | refine c60 hk ?_ | refine e1 _ ?_ | refine e2 _ ?_ | refine e3 _ ?_ | with_reducible refine Val.u64 (by omega) (by omega) ?_ | refine Branch.df (by omega) ?_ | refine Branch.dt (by omega) ?_ | refine Branch.t rfl ?_ | refine Branch.f rfl ?_ | refine Idx.of 0 rfl (by decide) ?_ | refine Idx.of k rfl (by first | decide | (show k < 65; omega)) ?_ | (refine hfin _ ?_; exact hz) | refine New.mk (fun _ => ?_) | refine Look.at0 ?_ | refine Cell.row ?_ | refine Cell.buf ?_ | refine Cells.row rfl ?_ | refine Put.row rfl ?_ | refine Put.buf rfl ?_ | refine Look.at1 ?_ | refine Look.at2 ?_ | refine Look.at3 ?_ | refine Look.at4 ?_ | refine Look.at5 ?_ | refine Look.at6 ?_ | refine Look.at7 ?_ | refine Look.at8 ?_ | with_reducible refine Val.i64 (by omega) (by omega) ?_ | with_reducible refine Val.u8 (by omega) (by omega) ?_ | with_reducible refine Val.u32 (by omega) (by omega) ?_ | with_reducible refine Val.u64 (by omega) (by omega) ?_ | with_reducible refine Val.u8m ?_ | with_reducible refine Val.u32m ?_ | with_reducible refine Val.u64m ?_ | with_reducible refine Val.shr8 ?_ | with_reducible refine Val.shr16 (by decide) ?_ | with_reducible refine Val.shr24 (by decide) ?_ | with_reducible refine Val.raw ?_ | refine Branch.not ?_ | refine Branch.and ?_ | refine Branch.or ?_ | refine Branch.dt (by assumption) ?_ | refine Branch.df (by assumption) ?_ | refine Branch.dt rfl ?_ | refine Branch.dt (by omega) ?_ | refine Branch.df (by omega) ?_ | refine Branch.t rfl ?_ | refine Branch.f rfl ?_ | refine Branch.t (by assumption) ?_ | refine Branch.f (by assumption) ?_ | refine Branch.d (fun _ => ?_) (fun _ => ?_) | refine Branch.mk (fun _ => ?_) (fun _ => ?_) | refine Need.mk (by first | omega | decide | rfl) ?_ | refine Idx.nat (by omega) ?_ | refine Idx.auto (by first | omega | decide) (by first | omega | decide) ?_ | refine Cell.ro rfl ?_ | refine SDraw.all (by kernel_rfl) ?_ | refine Kept.k0 ?_ | refine Kept.k1 ?_ | refine Kept.k2 ?_ | refine Kept.k3 ?_ | refine Kept.k4 ?_))
theorem c54 {n : Nat} {w : Int} (hD : Db H) (hn : n < 2 ^ 64) (hK : K (.tuple ⟨[.string (strOf (numV n w).1), .int .i64 (numV n w).2]⟩) H) : SCalls Tryd.prog 54 [.int .u64 (n : Int), .int .i64 w] H K := by
  refine enter54 ?_
  unfold numV at hK
  have h24 : (2 : Nat) ^ 64 = 18446744073709551616 := rfl
  by_cases h0 : 0 ≤ w
  · by_cases h64 : w ≤ 64
    · obtain ⟨k, rfl⟩ : ∃ k : Nat, w = (k : Int) := ⟨w.toNat, by omega⟩
      rw [Int.toNat_natCast] at hK
      have hk : k ≤ 64 := by omega
      have hshr : ∀ K : Int → Prop, K ((n / 2 ^ k : Nat) : Int) → Val (shrI .u64 (n : Int) (k : Int)) K := fun K hk2 => Val.to _ (shr_nat (k := .u64) (n := k) hk) hk2
      by_cases hlt : n < 2 ^ k
      · rw [if_pos ⟨h0, h64, hlt⟩] at hK
        have hz : n / 2 ^ k = 0 := Nat.div_eq_of_lt hlt
        rw [hz] at hshr
        rcases (by omega : k = 0 ∨ 1 ≤ k) with rfl | hk1
        · repeat' ((conv => whnf); (first | with_reducible refine hshr _ ?_ | refine Branch.df (by omega) ?_ | refine Branch.dt (by omega) ?_ | refine Branch.t rfl ?_ | refine Branch.f rfl ?_ | exact Keep.all hK | refine New.mk (fun _ => ?_) | refine Look.at0 ?_ | refine Cell.row ?_ | refine Cell.buf ?_ | refine Cells.row rfl ?_ | refine Put.row rfl ?_ | refine Put.buf rfl ?_ | refine Look.at1 ?_ | refine Look.at2 ?_ | refine Look.at3 ?_ | refine Look.at4 ?_ | refine Look.at5 ?_ | refine Look.at6 ?_ | refine Look.at7 ?_ | refine Look.at8 ?_ | with_reducible refine Val.i64 (by omega) (by omega) ?_ | with_reducible refine Val.u8 (by omega) (by omega) ?_ | with_reducible refine Val.u32 (by omega) (by omega) ?_ | with_reducible refine Val.u64 (by omega) (by omega) ?_ | with_reducible refine Val.u8m ?_ | with_reducible refine Val.u32m ?_ | with_reducible refine Val.u64m ?_ | with_reducible refine Val.shr8 ?_ | with_reducible refine Val.shr16 (by decide) ?_ | with_reducible refine Val.shr24 (by decide) ?_ | with_reducible refine Val.raw ?_ | refine Branch.not ?_ | refine Branch.and ?_ | refine Branch.or ?_ | refine Branch.dt (by assumption) ?_ | refine Branch.df (by assumption) ?_ | refine Branch.dt rfl ?_ | refine Branch.dt (by omega) ?_ | refine Branch.df (by omega) ?_ | refine Branch.t rfl ?_ | refine Branch.f rfl ?_ | refine Branch.t (by assumption) ?_ | refine Branch.f (by assumption) ?_ | refine Branch.d (fun _ => ?_) (fun _ => ?_) | refine Branch.mk (fun _ => ?_) (fun _ => ?_) | refine Need.mk (by first | omega | decide | rfl) ?_ | refine Idx.nat (by omega) ?_ | refine Idx.auto (by first | omega | decide) (by first | omega | decide) ?_ | refine Cell.ro rfl ?_ | refine SDraw.all (by kernel_rfl) ?_ | refine Kept.k0 ?_ | refine Kept.k1 ?_ | refine Kept.k2 ?_ | refine Kept.k3 ?_ | refine Kept.k4 ?_))
        · obtain ⟨hlen, hpad⟩ := pad 64 k n hn hlt hk1
          have hsz : (strOf (binF 64 n)).size = (binF 64 n).length := strOf_size _
          have hcat : ∀ s : ByteArray, s = strOf (numB k n) → Keep H fun H' => K (.tuple ⟨[.string s, .int .i64 0]⟩) H' := fun s e => by rw [e]; exact Keep.all hK
          have h_37 := fun (K : Value → Heap → Prop) hk2 => c57z (K := K) (H := H) (k := k - (binF 64 n).length) (by omega) hk2
          have hrs : (strOf (List.replicate (k - (binF 64 n).length) 48)).size = k - (binF 64 n).length := by rw [strOf_size]; simp
          by_cases hk64 : k < 64
          · repeat' ((conv => whnf); (first | refine c56 hD hn ?_ | with_reducible refine h_37 _ ?_ | with_reducible refine hshr _ ?_ | with_reducible refine Val.to ((k - (binF 64 n).length : Nat) : Int) (by rw [wrap_i64 (by omega) (by omega)]; omega) ?_ | refine Branch.df (by omega) ?_ | refine Branch.dt (by omega) ?_ | refine Branch.t rfl ?_ | refine Branch.f rfl ?_ | refine Need.mk (by omega) ?_ | (refine hcat _ ?_; rw [strOf_app, hpad]) | refine New.mk (fun _ => ?_) | refine Look.at0 ?_ | refine Cell.row ?_ | refine Cell.buf ?_ | refine Cells.row rfl ?_ | refine Put.row rfl ?_ | refine Put.buf rfl ?_ | refine Look.at1 ?_ | refine Look.at2 ?_ | refine Look.at3 ?_ | refine Look.at4 ?_ | refine Look.at5 ?_ | refine Look.at6 ?_ | refine Look.at7 ?_ | refine Look.at8 ?_ | with_reducible refine Val.i64 (by omega) (by omega) ?_ | with_reducible refine Val.u8 (by omega) (by omega) ?_ | with_reducible refine Val.u32 (by omega) (by omega) ?_ | with_reducible refine Val.u64 (by omega) (by omega) ?_ | with_reducible refine Val.u8m ?_ | with_reducible refine Val.u32m ?_ | with_reducible refine Val.u64m ?_ | with_reducible refine Val.shr8 ?_ | with_reducible refine Val.shr16 (by decide) ?_ | with_reducible refine Val.shr24 (by decide) ?_ | with_reducible refine Val.raw ?_ | refine Branch.not ?_ | refine Branch.and ?_ | refine Branch.or ?_ | refine Branch.dt (by assumption) ?_ | refine Branch.df (by assumption) ?_ | refine Branch.dt rfl ?_ | refine Branch.dt (by omega) ?_ | refine Branch.df (by omega) ?_ | refine Branch.t rfl ?_ | refine Branch.f rfl ?_ | refine Branch.t (by assumption) ?_ | refine Branch.f (by assumption) ?_ | refine Branch.d (fun _ => ?_) (fun _ => ?_) | refine Branch.mk (fun _ => ?_) (fun _ => ?_) | refine Need.mk (by first | omega | decide | rfl) ?_ | refine Idx.nat (by omega) ?_ | refine Idx.auto (by first | omega | decide) (by first | omega | decide) ?_ | refine Cell.ro rfl ?_ | refine SDraw.all (by kernel_rfl) ?_ | refine Kept.k0 ?_ | refine Kept.k1 ?_ | refine Kept.k2 ?_ | refine Kept.k3 ?_ | refine Kept.k4 ?_))
          · repeat' ((conv => whnf); (first | refine c56 hD hn ?_ | with_reducible refine h_37 _ ?_ | with_reducible refine hshr _ ?_ | with_reducible refine Val.to ((k - (binF 64 n).length : Nat) : Int) (by rw [wrap_i64 (by omega) (by omega)]; omega) ?_ | refine Branch.df (by omega) ?_ | refine Branch.dt (by omega) ?_ | refine Branch.t rfl ?_ | refine Branch.f rfl ?_ | refine Need.mk (by omega) ?_ | (refine hcat _ ?_; rw [strOf_app, hpad]) | refine New.mk (fun _ => ?_) | refine Look.at0 ?_ | refine Cell.row ?_ | refine Cell.buf ?_ | refine Cells.row rfl ?_ | refine Put.row rfl ?_ | refine Put.buf rfl ?_ | refine Look.at1 ?_ | refine Look.at2 ?_ | refine Look.at3 ?_ | refine Look.at4 ?_ | refine Look.at5 ?_ | refine Look.at6 ?_ | refine Look.at7 ?_ | refine Look.at8 ?_ | with_reducible refine Val.i64 (by omega) (by omega) ?_ | with_reducible refine Val.u8 (by omega) (by omega) ?_ | with_reducible refine Val.u32 (by omega) (by omega) ?_ | with_reducible refine Val.u64 (by omega) (by omega) ?_ | with_reducible refine Val.u8m ?_ | with_reducible refine Val.u32m ?_ | with_reducible refine Val.u64m ?_ | with_reducible refine Val.shr8 ?_ | with_reducible refine Val.shr16 (by decide) ?_ | with_reducible refine Val.shr24 (by decide) ?_ | with_reducible refine Val.raw ?_ | refine Branch.not ?_ | refine Branch.and ?_ | refine Branch.or ?_ | refine Branch.dt (by assumption) ?_ | refine Branch.df (by assumption) ?_ | refine Branch.dt rfl ?_ | refine Branch.dt (by omega) ?_ | refine Branch.df (by omega) ?_ | refine Branch.t rfl ?_ | refine Branch.f rfl ?_ | refine Branch.t (by assumption) ?_ | refine Branch.f (by assumption) ?_ | refine Branch.d (fun _ => ?_) (fun _ => ?_) | refine Branch.mk (fun _ => ?_) (fun _ => ?_) | refine Need.mk (by first | omega | decide | rfl) ?_ | refine Idx.nat (by omega) ?_ | refine Idx.auto (by first | omega | decide) (by first | omega | decide) ?_ | refine Cell.ro rfl ?_ | refine SDraw.all (by kernel_rfl) ?_ | refine Kept.k0 ?_ | refine Kept.k1 ?_ | refine Kept.k2 ?_ | refine Kept.k3 ?_ | refine Kept.k4 ?_))
      · rw [if_neg (fun h => hlt h.2.2)] at hK
        have hk64 : k < 64 := by
          rcases Nat.lt_or_ge k 64 with h | h
          · exact h
          · obtain rfl : k = 64 := by omega
            exact absurd hn hlt
        have hz : 0 < n / 2 ^ k := Nat.div_pos (by omega) (Nat.two_pow_pos k)
        repeat' ((conv => whnf); (first | with_reducible refine hshr _ ?_ | refine Branch.df (by omega) ?_ | refine Branch.dt (by omega) ?_ | refine Branch.t rfl ?_ | refine Branch.f rfl ?_ | exact Keep.all hK | refine New.mk (fun _ => ?_) | refine Look.at0 ?_ | refine Cell.row ?_ | refine Cell.buf ?_ | refine Cells.row rfl ?_ | refine Put.row rfl ?_ | refine Put.buf rfl ?_ | refine Look.at1 ?_ | refine Look.at2 ?_ | refine Look.at3 ?_ | refine Look.at4 ?_ | refine Look.at5 ?_ | refine Look.at6 ?_ | refine Look.at7 ?_ | refine Look.at8 ?_ | with_reducible refine Val.i64 (by omega) (by omega) ?_ | with_reducible refine Val.u8 (by omega) (by omega) ?_ | with_reducible refine Val.u32 (by omega) (by omega) ?_ | with_reducible refine Val.u64 (by omega) (by omega) ?_ | with_reducible refine Val.u8m ?_ | with_reducible refine Val.u32m ?_ | with_reducible refine Val.u64m ?_ | with_reducible refine Val.shr8 ?_ | with_reducible refine Val.shr16 (by decide) ?_ | with_reducible refine Val.shr24 (by decide) ?_ | with_reducible refine Val.raw ?_ | refine Branch.not ?_ | refine Branch.and ?_ | refine Branch.or ?_ | refine Branch.dt (by assumption) ?_ | refine Branch.df (by assumption) ?_ | refine Branch.dt rfl ?_ | refine Branch.dt (by omega) ?_ | refine Branch.df (by omega) ?_ | refine Branch.t rfl ?_ | refine Branch.f rfl ?_ | refine Branch.t (by assumption) ?_ | refine Branch.f (by assumption) ?_ | refine Branch.d (fun _ => ?_) (fun _ => ?_) | refine Branch.mk (fun _ => ?_) (fun _ => ?_) | refine Need.mk (by first | omega | decide | rfl) ?_ | refine Idx.nat (by omega) ?_ | refine Idx.auto (by first | omega | decide) (by first | omega | decide) ?_ | refine Cell.ro rfl ?_ | refine SDraw.all (by kernel_rfl) ?_ | refine Kept.k0 ?_ | refine Kept.k1 ?_ | refine Kept.k2 ?_ | refine Kept.k3 ?_ | refine Kept.k4 ?_))
    · rw [if_neg (fun h => h64 h.2.1)] at hK
      repeat' ((conv => whnf); (first | refine Branch.df (by omega) ?_ | refine Branch.dt (by omega) ?_ | refine Branch.t rfl ?_ | exact Keep.all hK | refine New.mk (fun _ => ?_) | refine Look.at0 ?_ | refine Cell.row ?_ | refine Cell.buf ?_ | refine Cells.row rfl ?_ | refine Put.row rfl ?_ | refine Put.buf rfl ?_ | refine Look.at1 ?_ | refine Look.at2 ?_ | refine Look.at3 ?_ | refine Look.at4 ?_ | refine Look.at5 ?_ | refine Look.at6 ?_ | refine Look.at7 ?_ | refine Look.at8 ?_ | with_reducible refine Val.i64 (by omega) (by omega) ?_ | with_reducible refine Val.u8 (by omega) (by omega) ?_ | with_reducible refine Val.u32 (by omega) (by omega) ?_ | with_reducible refine Val.u64 (by omega) (by omega) ?_ | with_reducible refine Val.u8m ?_ | with_reducible refine Val.u32m ?_ | with_reducible refine Val.u64m ?_ | with_reducible refine Val.shr8 ?_ | with_reducible refine Val.shr16 (by decide) ?_ | with_reducible refine Val.shr24 (by decide) ?_ | with_reducible refine Val.raw ?_ | refine Branch.not ?_ | refine Branch.and ?_ | refine Branch.or ?_ | refine Branch.dt (by assumption) ?_ | refine Branch.df (by assumption) ?_ | refine Branch.dt rfl ?_ | refine Branch.dt (by omega) ?_ | refine Branch.df (by omega) ?_ | refine Branch.t rfl ?_ | refine Branch.f rfl ?_ | refine Branch.t (by assumption) ?_ | refine Branch.f (by assumption) ?_ | refine Branch.d (fun _ => ?_) (fun _ => ?_) | refine Branch.mk (fun _ => ?_) (fun _ => ?_) | refine Need.mk (by first | omega | decide | rfl) ?_ | refine Idx.nat (by omega) ?_ | refine Idx.auto (by first | omega | decide) (by first | omega | decide) ?_ | refine Cell.ro rfl ?_ | refine SDraw.all (by kernel_rfl) ?_ | refine Kept.k0 ?_ | refine Kept.k1 ?_ | refine Kept.k2 ?_ | refine Kept.k3 ?_ | refine Kept.k4 ?_))
  · rw [if_neg (fun h => h0 h.1)] at hK
    repeat' ((conv => whnf); (first | refine Branch.dt (by omega) ?_ | refine Branch.t rfl ?_ | exact Keep.all hK | refine New.mk (fun _ => ?_) | refine Look.at0 ?_ | refine Cell.row ?_ | refine Cell.buf ?_ | refine Cells.row rfl ?_ | refine Put.row rfl ?_ | refine Put.buf rfl ?_ | refine Look.at1 ?_ | refine Look.at2 ?_ | refine Look.at3 ?_ | refine Look.at4 ?_ | refine Look.at5 ?_ | refine Look.at6 ?_ | refine Look.at7 ?_ | refine Look.at8 ?_ | with_reducible refine Val.i64 (by omega) (by omega) ?_ | with_reducible refine Val.u8 (by omega) (by omega) ?_ | with_reducible refine Val.u32 (by omega) (by omega) ?_ | with_reducible refine Val.u64 (by omega) (by omega) ?_ | with_reducible refine Val.u8m ?_ | with_reducible refine Val.u32m ?_ | with_reducible refine Val.u64m ?_ | with_reducible refine Val.shr8 ?_ | with_reducible refine Val.shr16 (by decide) ?_ | with_reducible refine Val.shr24 (by decide) ?_ | with_reducible refine Val.raw ?_ | refine Branch.not ?_ | refine Branch.and ?_ | refine Branch.or ?_ | refine Branch.dt (by assumption) ?_ | refine Branch.df (by assumption) ?_ | refine Branch.dt rfl ?_ | refine Branch.dt (by omega) ?_ | refine Branch.df (by omega) ?_ | refine Branch.t rfl ?_ | refine Branch.f rfl ?_ | refine Branch.t (by assumption) ?_ | refine Branch.f (by assumption) ?_ | refine Branch.d (fun _ => ?_) (fun _ => ?_) | refine Branch.mk (fun _ => ?_) (fun _ => ?_) | refine Need.mk (by first | omega | decide | rfl) ?_ | refine Idx.nat (by omega) ?_ | refine Idx.auto (by first | omega | decide) (by first | omega | decide) ?_ | refine Cell.ro rfl ?_ | refine SDraw.all (by kernel_rfl) ?_ | refine Kept.k0 ?_ | refine Kept.k1 ?_ | refine Kept.k2 ?_ | refine Kept.k3 ?_ | refine Kept.k4 ?_))
abbrev digB (p k m : Nat) (ds : List UInt8) : Nat × Blk := (p, .buf 5 (List.replicate m zv ++ cel ds) k)
theorem digb_put {k n : Nat} {ds : List UInt8} (b : UInt8) : PutOk (.buf 5 (List.replicate (n + 1) zv ++ cel ds) k) (0 + n * 1) [.int .u8 (b.toNat : Int)] (.buf 5 (List.replicate n zv ++ cel (b :: ds)) k) := by
  obtain ⟨h1, _, h3⟩ := dig_put (n := n) (ds := ds) b
  injection h3 with _ h3 _
  exact PutOk.buf h1 h3.symm
theorem c50 {n : Nat} {w : Int} (hn : n < 2 ^ 64) (hK : K (.tuple ⟨[.string (strOf (numV n w).1), .int .i64 (numV n w).2]⟩) H) : SCalls Tryd.prog 50 [.int .u64 (n : Int), .int .i64 w] H K := by
  refine enter50 ?_
  unfold numV at hK
  by_cases h0 : 0 ≤ w
  · by_cases h64 : w ≤ 64
    · obtain ⟨k, rfl⟩ : ∃ k : Nat, w = (k : Int) := ⟨w.toNat, by omega⟩
      rw [Int.toNat_natCast] at hK
      have hk : k ≤ 64 := by omega
      repeat' ((conv => whnf); (first | refine Branch.df (by omega) ?_ | refine Branch.f rfl ?_ | refine RawV.make1 (e := 5) (bytes := 1) (zv := zv) rfl (by kernel_rfl) (by kernel_rfl) rfl (by omega) (by simp only [maxLen]; omega) (fun p => ?_) | refine New.mk (fun _ => ?_) | refine Look.at0 ?_ | refine Cell.row ?_ | refine Cell.buf ?_ | refine Cells.row rfl ?_ | refine Put.row rfl ?_ | refine Put.buf rfl ?_ | refine Look.at1 ?_ | refine Look.at2 ?_ | refine Look.at3 ?_ | refine Look.at4 ?_ | refine Look.at5 ?_ | refine Look.at6 ?_ | refine Look.at7 ?_ | refine Look.at8 ?_ | with_reducible refine Val.i64 (by omega) (by omega) ?_ | with_reducible refine Val.u8 (by omega) (by omega) ?_ | with_reducible refine Val.u32 (by omega) (by omega) ?_ | with_reducible refine Val.u64 (by omega) (by omega) ?_ | with_reducible refine Val.u8m ?_ | with_reducible refine Val.u32m ?_ | with_reducible refine Val.u64m ?_ | with_reducible refine Val.shr8 ?_ | with_reducible refine Val.shr16 (by decide) ?_ | with_reducible refine Val.shr24 (by decide) ?_ | with_reducible refine Val.raw ?_ | refine Branch.not ?_ | refine Branch.and ?_ | refine Branch.or ?_ | refine Branch.dt (by assumption) ?_ | refine Branch.df (by assumption) ?_ | refine Branch.dt rfl ?_ | refine Branch.dt (by omega) ?_ | refine Branch.df (by omega) ?_ | refine Branch.t rfl ?_ | refine Branch.f rfl ?_ | refine Branch.t (by assumption) ?_ | refine Branch.f (by assumption) ?_ | refine Branch.d (fun _ => ?_) (fun _ => ?_) | refine Branch.mk (fun _ => ?_) (fun _ => ?_) | refine Need.mk (by first | omega | decide | rfl) ?_ | refine Idx.nat (by omega) ?_ | refine Idx.auto (by first | omega | decide) (by first | omega | decide) ?_ | refine Cell.ro rfl ?_ | refine SDraw.all (by kernel_rfl) ?_ | refine Kept.k0 ?_ | refine Kept.k1 ?_ | refine Kept.k2 ?_ | refine Kept.k3 ?_ | refine Kept.k4 ?_))
      refine SLoop.invA (fun (x : Nat × Nat × List UInt8) S H' => x.2.2.length + x.1 = k ∧ x.2.1 < 2 ^ 64 ∧ numB k n = numB x.1 x.2.1 ++ x.2.2 ∧ x.2.1 = n / 2 ^ (k - x.1) ∧ S50 (.int .u64 (x.2.1 : Int)) (.slice (some ⟨p, 0, none⟩) k k) (.int .i64 ((x.1 : Int) - 1)) S ∧ H' = digB p k x.1 x.2.2 :: H) (fun x => x.1) (k, n, []) (Keep.all ⟨Nat.zero_add _, hn, (List.append_nil _).symm, by simp, .mk, by simp [digB, cel]⟩) ?_
      rintro ⟨m, c, ds⟩ S H' ⟨h1, h2, h3, h4, hS, rfl⟩ R hR
      dsimp only at h1 h2 h3 h4 hS hR ⊢
      cases hS
      rcases m with _ | m
      · have h3' : numB k n = ds := h3
        rw [Nat.sub_zero] at h4
        have hstr : ∀ (o : Oper) (xx : Operand) (K2 : Value → Heap → Prop), o.op = .convert 101 9 xx → K2 (.string (strOf ds)) (digB p k 0 ds :: H) → RawV Tryd.prog o [.slice (some ⟨p, 0, none⟩) k k] (digB p k 0 ds :: H) K2 := fun o xx K2 ho hk2 =>
          RawV.toStr (e := 5) (l := ds) ho (by kernel_rfl) (by kernel_rfl) (by kernel_rfl) (.head _) (by omega) (fun j x hj => by
            show (List.replicate 0 zv ++ cel ds)[0 + j]? = _
            rw [Nat.zero_add]; exact cel_at hj) hk2
        by_cases hlt : n < 2 ^ k
        · rw [if_pos ⟨h0, h64, hlt⟩, h3'] at hK
          obtain rfl : c = 0 := by rw [h4]; exact Nat.div_eq_of_lt hlt
          clear hR
          repeat' ((conv => whnf); (first | refine Branch.df (by omega) ?_ | refine Branch.f rfl ?_ | refine hstr _ _ _ rfl ?_ | exact Keep.d1 hK | refine New.mk (fun _ => ?_) | refine Look.at0 ?_ | refine Cell.row ?_ | refine Cell.buf ?_ | refine Cells.row rfl ?_ | refine Put.row rfl ?_ | refine Put.buf rfl ?_ | refine Look.at1 ?_ | refine Look.at2 ?_ | refine Look.at3 ?_ | refine Look.at4 ?_ | refine Look.at5 ?_ | refine Look.at6 ?_ | refine Look.at7 ?_ | refine Look.at8 ?_ | with_reducible refine Val.i64 (by omega) (by omega) ?_ | with_reducible refine Val.u8 (by omega) (by omega) ?_ | with_reducible refine Val.u32 (by omega) (by omega) ?_ | with_reducible refine Val.u64 (by omega) (by omega) ?_ | with_reducible refine Val.u8m ?_ | with_reducible refine Val.u32m ?_ | with_reducible refine Val.u64m ?_ | with_reducible refine Val.shr8 ?_ | with_reducible refine Val.shr16 (by decide) ?_ | with_reducible refine Val.shr24 (by decide) ?_ | with_reducible refine Val.raw ?_ | refine Branch.not ?_ | refine Branch.and ?_ | refine Branch.or ?_ | refine Branch.dt (by assumption) ?_ | refine Branch.df (by assumption) ?_ | refine Branch.dt rfl ?_ | refine Branch.dt (by omega) ?_ | refine Branch.df (by omega) ?_ | refine Branch.t rfl ?_ | refine Branch.f rfl ?_ | refine Branch.t (by assumption) ?_ | refine Branch.f (by assumption) ?_ | refine Branch.d (fun _ => ?_) (fun _ => ?_) | refine Branch.mk (fun _ => ?_) (fun _ => ?_) | refine Need.mk (by first | omega | decide | rfl) ?_ | refine Idx.nat (by omega) ?_ | refine Idx.auto (by first | omega | decide) (by first | omega | decide) ?_ | refine Cell.ro rfl ?_ | refine SDraw.all (by kernel_rfl) ?_ | refine Kept.k0 ?_ | refine Kept.k1 ?_ | refine Kept.k2 ?_ | refine Kept.k3 ?_ | refine Kept.k4 ?_))
        · rw [if_neg (fun h => hlt h.2.2)] at hK
          have hz : 0 < c := by rw [h4]; exact Nat.div_pos (by omega) (Nat.two_pow_pos k)
          have hz' : ¬ (c : Int) = 0 := by omega
          clear hR
          repeat' ((conv => whnf); (first | refine Branch.df (by omega) ?_ | refine Branch.t (by first | (simp [hz']; done) | omega) ?_ | exact Keep.d1 hK | refine New.mk (fun _ => ?_) | refine Look.at0 ?_ | refine Cell.row ?_ | refine Cell.buf ?_ | refine Cells.row rfl ?_ | refine Put.row rfl ?_ | refine Put.buf rfl ?_ | refine Look.at1 ?_ | refine Look.at2 ?_ | refine Look.at3 ?_ | refine Look.at4 ?_ | refine Look.at5 ?_ | refine Look.at6 ?_ | refine Look.at7 ?_ | refine Look.at8 ?_ | with_reducible refine Val.i64 (by omega) (by omega) ?_ | with_reducible refine Val.u8 (by omega) (by omega) ?_ | with_reducible refine Val.u32 (by omega) (by omega) ?_ | with_reducible refine Val.u64 (by omega) (by omega) ?_ | with_reducible refine Val.u8m ?_ | with_reducible refine Val.u32m ?_ | with_reducible refine Val.u64m ?_ | with_reducible refine Val.shr8 ?_ | with_reducible refine Val.shr16 (by decide) ?_ | with_reducible refine Val.shr24 (by decide) ?_ | with_reducible refine Val.raw ?_ | refine Branch.not ?_ | refine Branch.and ?_ | refine Branch.or ?_ | refine Branch.dt (by assumption) ?_ | refine Branch.df (by assumption) ?_ | refine Branch.dt rfl ?_ | refine Branch.dt (by omega) ?_ | refine Branch.df (by omega) ?_ | refine Branch.t rfl ?_ | refine Branch.f rfl ?_ | refine Branch.t (by assumption) ?_ | refine Branch.f (by assumption) ?_ | refine Branch.d (fun _ => ?_) (fun _ => ?_) | refine Branch.mk (fun _ => ?_) (fun _ => ?_) | refine Need.mk (by first | omega | decide | rfl) ?_ | refine Idx.nat (by omega) ?_ | refine Idx.auto (by first | omega | decide) (by first | omega | decide) ?_ | refine Cell.ro rfl ?_ | refine SDraw.all (by kernel_rfl) ?_ | refine Kept.k0 ?_ | refine Kept.k1 ?_ | refine Kept.k2 ?_ | refine Kept.k3 ?_ | refine Kept.k4 ?_))
      · have h3' : numB k n = numB m (c / 2) ++ (bitB (c % 2) :: ds) := by rw [h3]; show (numB m (c / 2) ++ [bitB (c % 2)]) ++ ds = _; simp
        have hput := digb_put (k := k) (n := m) (ds := ds) (bitB (c % 2))
        have hbn := bitB_n (Nat.mod_lt c (by decide : 0 < 2))
        have h4' : c / 2 = n / 2 ^ (k - m) := by
          rw [h4, Nat.div_div_eq_div_mul, ← Nat.pow_succ]
          congr 2; omega
        have hnext : ∀ S, S50 (.int .u64 ((c / 2 : Nat) : Int)) (.slice (some ⟨p, 0, none⟩) k k) (.int .i64 ((m : Int) - 1)) S → R S (digB p k m (bitB (c % 2) :: ds) :: H) := fun S hS => hR (m, c / 2, bitB (c % 2) :: ds) _ _ (by show m < m + 1; omega) (Keep.all ⟨by show (ds.length + 1) + m = k; omega, by show c / 2 < 2 ^ 64; omega, h3', h4', hS, rfl⟩)
        have hshr : ∀ K : Int → Prop, K ((c / 2 : Nat) : Int) → Val (shrI .u64 (c : Int) 1) K := fun K hk => Val.to _ (shr_nat (k := .u64) (n := 1) (by decide)) hk
        have hand : bitAnd .u64 (c : Int) 1 = ((c % 2 : Nat) : Int) := bitMask_nat (k := .u64) rfl (a := c) (n := 1) h2 (by decide)
        have hm1 : (((m + 1 : Nat) : Int) - 1) = (m : Int) := by omega
        clear hR hK
        rw [hbn] at hput
        repeat' ((conv => whnf); (first | refine Branch.dt (by omega) ?_ | with_reducible refine Val.to _ hand ?_ | with_reducible refine Val.u8 (by omega) (by omega) ?_ | refine Idx.of m (by omega) (by omega) ?_ | refine ⟨[], _, H, rfl, _, hput, appK_to ?_⟩ | with_reducible refine hshr _ ?_ | with_reducible refine Val.to ((m : Int) - 1) (by rw [wrap_i64 (by omega) (by omega)]; omega) ?_ | exact hnext _ .mk | refine New.mk (fun _ => ?_) | refine Look.at0 ?_ | refine Cell.row ?_ | refine Cell.buf ?_ | refine Cells.row rfl ?_ | refine Put.row rfl ?_ | refine Put.buf rfl ?_ | refine Look.at1 ?_ | refine Look.at2 ?_ | refine Look.at3 ?_ | refine Look.at4 ?_ | refine Look.at5 ?_ | refine Look.at6 ?_ | refine Look.at7 ?_ | refine Look.at8 ?_ | with_reducible refine Val.i64 (by omega) (by omega) ?_ | with_reducible refine Val.u8 (by omega) (by omega) ?_ | with_reducible refine Val.u32 (by omega) (by omega) ?_ | with_reducible refine Val.u64 (by omega) (by omega) ?_ | with_reducible refine Val.u8m ?_ | with_reducible refine Val.u32m ?_ | with_reducible refine Val.u64m ?_ | with_reducible refine Val.shr8 ?_ | with_reducible refine Val.shr16 (by decide) ?_ | with_reducible refine Val.shr24 (by decide) ?_ | with_reducible refine Val.raw ?_ | refine Branch.not ?_ | refine Branch.and ?_ | refine Branch.or ?_ | refine Branch.dt (by assumption) ?_ | refine Branch.df (by assumption) ?_ | refine Branch.dt rfl ?_ | refine Branch.dt (by omega) ?_ | refine Branch.df (by omega) ?_ | refine Branch.t rfl ?_ | refine Branch.f rfl ?_ | refine Branch.t (by assumption) ?_ | refine Branch.f (by assumption) ?_ | refine Branch.d (fun _ => ?_) (fun _ => ?_) | refine Branch.mk (fun _ => ?_) (fun _ => ?_) | refine Need.mk (by first | omega | decide | rfl) ?_ | refine Idx.nat (by omega) ?_ | refine Idx.auto (by first | omega | decide) (by first | omega | decide) ?_ | refine Cell.ro rfl ?_ | refine SDraw.all (by kernel_rfl) ?_ | refine Kept.k0 ?_ | refine Kept.k1 ?_ | refine Kept.k2 ?_ | refine Kept.k3 ?_ | refine Kept.k4 ?_))
    · rw [if_neg (fun h => h64 h.2.1)] at hK
      repeat' ((conv => whnf); (first | refine Branch.df (by omega) ?_ | refine Branch.dt (by omega) ?_ | refine Branch.t rfl ?_ | exact Keep.all hK | refine New.mk (fun _ => ?_) | refine Look.at0 ?_ | refine Cell.row ?_ | refine Cell.buf ?_ | refine Cells.row rfl ?_ | refine Put.row rfl ?_ | refine Put.buf rfl ?_ | refine Look.at1 ?_ | refine Look.at2 ?_ | refine Look.at3 ?_ | refine Look.at4 ?_ | refine Look.at5 ?_ | refine Look.at6 ?_ | refine Look.at7 ?_ | refine Look.at8 ?_ | with_reducible refine Val.i64 (by omega) (by omega) ?_ | with_reducible refine Val.u8 (by omega) (by omega) ?_ | with_reducible refine Val.u32 (by omega) (by omega) ?_ | with_reducible refine Val.u64 (by omega) (by omega) ?_ | with_reducible refine Val.u8m ?_ | with_reducible refine Val.u32m ?_ | with_reducible refine Val.u64m ?_ | with_reducible refine Val.shr8 ?_ | with_reducible refine Val.shr16 (by decide) ?_ | with_reducible refine Val.shr24 (by decide) ?_ | with_reducible refine Val.raw ?_ | refine Branch.not ?_ | refine Branch.and ?_ | refine Branch.or ?_ | refine Branch.dt (by assumption) ?_ | refine Branch.df (by assumption) ?_ | refine Branch.dt rfl ?_ | refine Branch.dt (by omega) ?_ | refine Branch.df (by omega) ?_ | refine Branch.t rfl ?_ | refine Branch.f rfl ?_ | refine Branch.t (by assumption) ?_ | refine Branch.f (by assumption) ?_ | refine Branch.d (fun _ => ?_) (fun _ => ?_) | refine Branch.mk (fun _ => ?_) (fun _ => ?_) | refine Need.mk (by first | omega | decide | rfl) ?_ | refine Idx.nat (by omega) ?_ | refine Idx.auto (by first | omega | decide) (by first | omega | decide) ?_ | refine Cell.ro rfl ?_ | refine SDraw.all (by kernel_rfl) ?_ | refine Kept.k0 ?_ | refine Kept.k1 ?_ | refine Kept.k2 ?_ | refine Kept.k3 ?_ | refine Kept.k4 ?_))
  · rw [if_neg (fun h => h0 h.1)] at hK
    repeat' ((conv => whnf); (first | refine Branch.dt (by omega) ?_ | refine Branch.t rfl ?_ | exact Keep.all hK | refine New.mk (fun _ => ?_) | refine Look.at0 ?_ | refine Cell.row ?_ | refine Cell.buf ?_ | refine Cells.row rfl ?_ | refine Put.row rfl ?_ | refine Put.buf rfl ?_ | refine Look.at1 ?_ | refine Look.at2 ?_ | refine Look.at3 ?_ | refine Look.at4 ?_ | refine Look.at5 ?_ | refine Look.at6 ?_ | refine Look.at7 ?_ | refine Look.at8 ?_ | with_reducible refine Val.i64 (by omega) (by omega) ?_ | with_reducible refine Val.u8 (by omega) (by omega) ?_ | with_reducible refine Val.u32 (by omega) (by omega) ?_ | with_reducible refine Val.u64 (by omega) (by omega) ?_ | with_reducible refine Val.u8m ?_ | with_reducible refine Val.u32m ?_ | with_reducible refine Val.u64m ?_ | with_reducible refine Val.shr8 ?_ | with_reducible refine Val.shr16 (by decide) ?_ | with_reducible refine Val.shr24 (by decide) ?_ | with_reducible refine Val.raw ?_ | refine Branch.not ?_ | refine Branch.and ?_ | refine Branch.or ?_ | refine Branch.dt (by assumption) ?_ | refine Branch.df (by assumption) ?_ | refine Branch.dt rfl ?_ | refine Branch.dt (by omega) ?_ | refine Branch.df (by omega) ?_ | refine Branch.t rfl ?_ | refine Branch.f rfl ?_ | refine Branch.t (by assumption) ?_ | refine Branch.f (by assumption) ?_ | refine Branch.d (fun _ => ?_) (fun _ => ?_) | refine Branch.mk (fun _ => ?_) (fun _ => ?_) | refine Need.mk (by first | omega | decide | rfl) ?_ | refine Idx.nat (by omega) ?_ | refine Idx.auto (by first | omega | decide) (by first | omega | decide) ?_ | refine Cell.ro rfl ?_ | refine SDraw.all (by kernel_rfl) ?_ | refine Kept.k0 ?_ | refine Kept.k1 ?_ | refine Kept.k2 ?_ | refine Kept.k3 ?_ | refine Kept.k4 ?_))
end
end Go.Proofs.YtjleekdidedhaaaDoor

/- Heaps in lists: what the steps of container/heap keep. Plain law, with no program in sight. -/
set_option linter.unusedVariables false
set_option linter.unusedSimpArgs false
namespace Go.Proofs.YtjleekdidedhaaaDoor.Hp
/-- A strict order of what may be alike. -/
structure Ord {α : Type} (lt : α → α → Bool) : Prop where
  asym : ∀ a b, lt a b = true → lt b a = false
  nt : ∀ a b c, lt b a = false → lt c b = false → lt c a = false
variable {α : Type} {lt : α → α → Bool} {l : List α} {n i j : Nat}
/-- The first n are a heap; but for what stands at j (toward its parent); but for what stands at i (either way). -/
def HeapN (lt : α → α → Bool) (l : List α) (n : Nat) : Prop := ∀ k x y, 0 < k → k < n → l[k]? = some x → l[(k - 1) / 2]? = some y → lt x y = false
structure UpI (lt : α → α → Bool) (l : List α) (j n : Nat) : Prop where
  one : ∀ k x y, 0 < k → k < n → k ≠ j → l[k]? = some x → l[(k - 1) / 2]? = some y → lt x y = false
  two : ∀ k x y, 0 < k → k < n → (k - 1) / 2 = j → 0 < j → l[k]? = some x → l[(j - 1) / 2]? = some y → lt x y = false
structure BothI (lt : α → α → Bool) (l : List α) (i n : Nat) : Prop where
  one : ∀ k x y, 0 < k → k < n → k ≠ i → (k - 1) / 2 ≠ i → l[k]? = some x → l[(k - 1) / 2]? = some y → lt x y = false
  two : ∀ k x y, 0 < k → k < n → (k - 1) / 2 = i → 0 < i → l[k]? = some x → l[(i - 1) / 2]? = some y → lt x y = false
structure DownI (lt : α → α → Bool) (l : List α) (i n : Nat) : Prop where
  one : ∀ k x y, 0 < k → k < n → (k - 1) / 2 ≠ i → l[k]? = some x → l[(k - 1) / 2]? = some y → lt x y = false
  two : ∀ k x y, 0 < k → k < n → (k - 1) / 2 = i → 0 < i → l[k]? = some x → l[(i - 1) / 2]? = some y → lt x y = false
theorem DownI.both (h : DownI lt l i n) : BothI lt l i n := ⟨fun k x y h1 h2 _ h4 h5 h6 => h.one k x y h1 h2 h4 h5 h6, h.two⟩
/-- Two places are changed about. -/
def sw (l : List α) (i j : Nat) (x y : α) : List α := (l.set i x).set j y
theorem sw_len {x y : α} : (sw l i j x y).length = l.length := by simp [sw]
theorem sw_at {x y : α} (hi : i < l.length) (hj : j < l.length) (k : Nat) : (sw l i j x y)[k]? = if k = j then some y else if k = i then some x else l[k]? := by
  unfold sw
  rw [List.getElem?_set, List.getElem?_set]
  by_cases h1 : j = k
  · subst h1
    rw [if_pos rfl, if_pos rfl, List.length_set, if_pos hj]
  · rw [if_neg h1, if_neg (Ne.symm h1)]
    by_cases h2 : i = k
    · subst h2
      rw [if_pos rfl, if_pos rfl, if_pos hi]
    · rw [if_neg h2, if_neg (Ne.symm h2)]
theorem sw_perm {x y : α} (hi : l[i]? = some y) (hj : l[j]? = some x) : (sw l i j x y).Perm l := by
  obtain ⟨h1, rfl⟩ := List.getElem?_eq_some_iff.1 hi
  obtain ⟨h2, rfl⟩ := List.getElem?_eq_some_iff.1 hj
  exact List.set_set_perm h1 h2
theorem at_lt {x : α} {k : Nat} (h : l[k]? = some x) : k < l.length := (List.getElem?_eq_some_iff.1 h).1
theorem UpI.done (h : UpI lt l j n) (hd : j = 0 ∨ ∃ x y, l[j]? = some x ∧ l[(j - 1) / 2]? = some y ∧ lt x y = false) : HeapN lt l n := by
  intro k x y h1 h2 h3 h4
  by_cases hk : k = j
  · subst hk
    rcases hd with hd | ⟨x', y', e1, e2, e3⟩
    · omega
    · rw [h3] at e1
      rw [h4] at e2
      injection e1 with e1
      injection e2 with e2
      rw [e1, e2]; exact e3
  · exact h.one k x y h1 h2 hk h3 h4
theorem UpI.step (O : Ord lt) {x y : α} (h : UpI lt l j n) (hj0 : 0 < j) (hjn : j < n) (hj : l[j]? = some x) (hi : l[(j - 1) / 2]? = some y) (hlt : lt x y = true) : UpI lt (sw l ((j - 1) / 2) j x y) ((j - 1) / 2) n := by
  have g := sw_at (x := x) (y := y) (at_lt hi) (at_lt hj)
  have hij : (j - 1) / 2 < j := by omega
  refine ⟨fun k a b h1 h2 h3 h4 h5 => ?_, fun k a b h1 h2 h3 h4 h5 h6 => ?_⟩
  · rw [g] at h4 h5
    by_cases hk : k = j
    · subst hk
      rw [if_pos rfl] at h4
      rw [if_neg (by omega), if_pos rfl] at h5
      injection h4 with h4
      injection h5 with h5
      subst h4 h5
      exact O.asym _ _ hlt
    · rw [if_neg hk, if_neg h3] at h4
      by_cases hp : (k - 1) / 2 = j
      · rw [if_pos hp] at h5
        injection h5 with h5
        subst h5
        exact h.two k a y h1 h2 hp hj0 h4 hi
      · rw [if_neg hp] at h5
        by_cases hp2 : (k - 1) / 2 = (j - 1) / 2
        · rw [if_pos hp2] at h5
          injection h5 with h5
          subst h5
          exact O.nt x y a (O.asym _ _ hlt) (h.one k a y h1 h2 hk h4 (by rw [hp2]; exact hi))
        · rw [if_neg hp2] at h5
          exact h.one k a b h1 h2 hk h4 h5
  · rw [g] at h5 h6
    rw [if_neg (by omega), if_neg (by omega)] at h6
    by_cases hk : k = j
    · subst hk
      rw [if_pos rfl] at h5
      injection h5 with h5
      subst h5
      exact h.one ((k - 1) / 2) y b h4 (by omega) (by omega) hi h6
    · rw [if_neg hk, if_neg (by omega)] at h5
      exact O.nt b y a (h.one ((j - 1) / 2) y b h4 (by omega) (by omega) hi h6) (h.one k a y h1 h2 hk h5 (by rw [h3]; exact hi))
theorem DownI.done (h : DownI lt l i n) (hd : ∀ k x y, 0 < k → k < n → (k - 1) / 2 = i → l[k]? = some x → l[i]? = some y → lt x y = false) : HeapN lt l n := by
  intro k x y h1 h2 h3 h4
  by_cases hk : (k - 1) / 2 = i
  · exact hd k x y h1 h2 hk h3 (by rw [← hk]; exact h4)
  · exact h.one k x y h1 h2 hk h3 h4
theorem BothI.stay (h : BothI lt l i n) (hd : ∀ k x y, 0 < k → k < n → (k - 1) / 2 = i → l[k]? = some x → l[i]? = some y → lt x y = false) : UpI lt l i n := by
  refine ⟨fun k x y h1 h2 h3 h4 h5 => ?_, fun k x y h1 h2 h3 h4 h5 h6 => h.two k x y h1 h2 h3 h4 h5 h6⟩
  by_cases hk : (k - 1) / 2 = i
  · exact hd k x y h1 h2 hk h4 (by rw [← hk]; exact h5)
  · exact h.one k x y h1 h2 h3 hk h4 h5
theorem BothI.step (O : Ord lt) {x y : α} (h : BothI lt l i n) (hji : (j - 1) / 2 = i) (hj0 : 0 < j) (hjn : j < n) (hj : l[j]? = some x) (hi : l[i]? = some y) (hlt : lt x y = true)
    (hmin : ∀ k a, 0 < k → k < n → (k - 1) / 2 = i → l[k]? = some a → lt a x = false) : DownI lt (sw l i j x y) j n := by
  have g := sw_at (x := x) (y := y) (at_lt hi) (at_lt hj)
  have hij : i < j := by omega
  refine ⟨fun k a b h1 h2 h3 h4 h5 => ?_, fun k a b h1 h2 h3 h4 h5 h6 => ?_⟩
  · rw [g] at h4 h5
    rw [if_neg h3] at h5
    by_cases hk : k = j
    · subst hk
      rw [if_pos rfl] at h4
      rw [if_pos hji] at h5
      injection h4 with h4
      injection h5 with h5
      subst h4 h5
      exact O.asym _ _ hlt
    · rw [if_neg hk] at h4
      by_cases hki : k = i
      · subst hki
        rw [if_pos rfl] at h4
        rw [if_neg (by omega)] at h5
        injection h4 with h4
        subst h4
        exact h.two j x b hj0 hjn hji h1 hj h5
      · rw [if_neg hki] at h4
        by_cases hp : (k - 1) / 2 = i
        · rw [if_pos hp] at h5
          injection h5 with h5
          subst h5
          exact hmin k a h1 h2 hp h4
        · rw [if_neg hp] at h5
          exact h.one k a b h1 h2 hki hp h4 h5
  · rw [g] at h5 h6
    rw [if_neg (by omega), if_neg (by omega)] at h5
    rw [if_neg (by omega), if_pos hji] at h6
    injection h6 with h6
    subst h6
    exact h.one k a x h1 h2 (by omega) (by omega) h5 (by rw [h3]; exact hj)
/-- The first is the least. -/
theorem HeapN.min (O : Ord lt) (h : HeapN lt l n) (hn : n ≤ l.length) {m : α} (h0 : l[0]? = some m) (hmm : lt m m = false) : ∀ (k : Nat) (x : α), k < n → l[k]? = some x → lt x m = false := by
  intro k
  induction k using Nat.strongRecOn with
  | _ k ih =>
    intro x hk hx
    rcases Nat.eq_zero_or_pos k with rfl | hk0
    · rw [h0] at hx
      injection hx with hx
      subst hx; exact hmm
    · have hp : (k - 1) / 2 < l.length := by omega
      have hy := List.getElem?_eq_getElem hp
      exact O.nt _ _ _ (ih _ (by omega) _ (by omega) hy) (h k x _ hk0 hk hx hy)
theorem HeapN.push (h : HeapN lt l l.length) (x : α) : UpI lt (l ++ [x]) l.length (l.length + 1) := by
  refine ⟨fun k a b h1 h2 h3 h4 h5 => ?_, fun k a b h1 h2 h3 h4 h5 h6 => by omega⟩
  rw [List.getElem?_append_left (by omega)] at h4 h5
  exact h k a b h1 (by omega) h4 h5
theorem HeapN.pop {x y : α} (h : HeapN lt l (n + 1)) (h0 : l[0]? = some y) (hn : l[n]? = some x) : BothI lt (sw l 0 n x y) 0 n := by
  have g := sw_at (x := x) (y := y) (at_lt h0) (at_lt hn)
  refine ⟨fun k a b h1 h2 h3 h4 h5 h6 => ?_, fun k a b h1 h2 h3 h4 h5 h6 => by omega⟩
  rw [g, if_neg (by omega), if_neg (by omega)] at h5 h6
  exact h k a b h1 (by omega) h5 h6
theorem HeapN.remove (O : Ord lt) {x y : α} (h : HeapN lt l (n + 1)) (hin : i < n) (h0 : l[i]? = some y) (hn : l[n]? = some x) : BothI lt (sw l i n x y) i n := by
  have g := sw_at (x := x) (y := y) (at_lt h0) (at_lt hn)
  refine ⟨fun k a b h1 h2 h3 h4 h5 h6 => ?_, fun k a b h1 h2 h3 h4 h5 h6 => ?_⟩
  · rw [g, if_neg (by omega), if_neg (by omega)] at h5 h6
    exact h k a b h1 (by omega) h5 h6
  · rw [g, if_neg (by omega), if_neg (by omega)] at h5 h6
    exact O.nt b y a (h i y b h4 (by omega) h0 h6) (h k a y h1 (by omega) h5 (by rw [h3]; exact h0))
theorem HeapN.cut (h : HeapN lt l n) : HeapN lt (l.take n) n := by
  intro k x y h1 h2 h3 h4
  rw [List.getElem?_take_of_lt h2] at h3
  rw [List.getElem?_take_of_lt (by omega)] at h4
  exact h k x y h1 h2 h3 h4
/-- Texts in their order. -/
theorem bl_irr : ∀ a : List UInt8, Op.bytesLess a a = false
  | [] => rfl
  | x :: a => by
    unfold Op.bytesLess
    rw [bl_irr a]
    simp
theorem bl_tri : ∀ a b : List UInt8, Op.bytesLess a b = false → Op.bytesLess b a = false → a = b
  | [], [], _, _ => rfl
  | [], _ :: _, h, _ => by simp [Op.bytesLess] at h
  | _ :: _, [], _, h => by simp [Op.bytesLess] at h
  | x :: a, y :: b, h1, h2 => by
    unfold Op.bytesLess at h1 h2
    simp only [Bool.or_eq_false_iff, Bool.and_eq_false_iff, decide_eq_false_iff_not, beq_eq_false_iff_ne, ne_eq] at h1 h2
    have hxy : x = y := by
      have h3 := h1.1
      have h4 := h2.1
      rw [UInt8.lt_iff_toNat_lt] at h3 h4
      exact UInt8.toNat_inj.1 (by omega)
    subst hxy
    have h5 : Op.bytesLess a b = false := by rcases h1.2 with h | h; exact absurd rfl h; exact h
    have h6 : Op.bytesLess b a = false := by rcases h2.2 with h | h; exact absurd rfl h; exact h
    rw [bl_tri a b h5 h6]
theorem bl_trans : ∀ a b c : List UInt8, Op.bytesLess a b = true → Op.bytesLess b c = true → Op.bytesLess a c = true
  | _, _, [], _, h => by simp [Op.bytesLess] at h
  | _, [], _ :: _, h, _ => by simp [Op.bytesLess] at h
  | [], _ :: _, _ :: _, _, _ => rfl
  | x :: a, y :: b, z :: c, h1, h2 => by
    unfold Op.bytesLess at h1 h2 ⊢
    simp only [Bool.or_eq_true, Bool.and_eq_true, decide_eq_true_eq, beq_iff_eq] at h1 h2 ⊢
    rw [UInt8.lt_iff_toNat_lt] at h1 h2 ⊢
    rcases h1 with h1 | ⟨rfl, h1⟩
    · rcases h2 with h2 | ⟨rfl, h2⟩
      · exact .inl (by omega)
      · exact .inl h1
    · rcases h2 with h2 | ⟨rfl, h2⟩
      · exact .inl h2
      · exact .inr ⟨rfl, bl_trans a b c h1 h2⟩
theorem bl_asym {a b : List UInt8} (h : Op.bytesLess a b = true) : Op.bytesLess b a = false := by
  cases hb : Op.bytesLess b a with
  | false => rfl
  | true =>
    have := bl_trans a b a h hb
    rw [bl_irr] at this
    cases this
/-- By a text, and by a number where the texts are alike. -/
def klt (a b : List UInt8 × Int) : Bool := Op.bytesLess a.1 b.1 || (decide (a.1 = b.1) && decide (a.2 < b.2))
theorem klt_ord : Ord klt := by
  refine ⟨fun a b h => ?_, fun a b c h1 h2 => ?_⟩
  · unfold klt at h ⊢
    simp only [Bool.or_eq_true, Bool.and_eq_true, decide_eq_true_eq] at h
    rcases h with h | ⟨h, h3⟩
    · have : ¬ b.1 = a.1 := fun e => by rw [e, bl_irr] at h; cases h
      rw [bl_asym h, decide_eq_false this]; rfl
    · rw [h, bl_irr, decide_eq_false (show ¬ b.2 < a.2 by omega)]; simp
  · unfold klt at h1 h2 ⊢
    simp only [Bool.or_eq_false_iff, Bool.and_eq_false_iff, decide_eq_false_iff_not] at h1 h2 ⊢
    obtain ⟨h1, h3⟩ := h1
    obtain ⟨h2, h4⟩ := h2
    have hca : Op.bytesLess c.1 a.1 = false := by
      cases hb : Op.bytesLess c.1 a.1 with
      | false => rfl
      | true =>
        cases hab : Op.bytesLess a.1 b.1 with
        | true => rw [bl_trans _ _ _ hb hab] at h2; cases h2
        | false => rw [bl_tri _ _ hab h1] at hb; rw [hb] at h2; cases h2
    refine ⟨hca, ?_⟩
    by_cases he : c.1 = a.1
    · refine .inr ?_
      have hab : a.1 = b.1 := by
        rw [he] at h2
        exact bl_tri _ _ h2 h1
      rcases h3 with h3 | h3
      · exact absurd hab.symm h3
      · rcases h4 with h4 | h4
        · exact absurd (he.trans hab) h4
        · omega
    · exact .inl he
theorem klt_irr (a : List UInt8 × Int) : klt a a = false := by
  unfold klt
  rw [bl_irr]
  simp
theorem klt_tri {a b : List UInt8 × Int} (h1 : klt a b = false) (h2 : klt b a = false) : a = b := by
  unfold klt at h1 h2
  simp only [Bool.or_eq_false_iff, Bool.and_eq_false_iff, decide_eq_false_iff_not] at h1 h2
  have e := bl_tri _ _ h1.1 h2.1
  refine Prod.ext e ?_
  rcases h1.2 with h | h
  · exact absurd e h
  · rcases h2.2 with h' | h'
    · exact absurd e.symm h'
    · omega
end Go.Proofs.YtjleekdidedhaaaDoor.Hp

/- Layer 25: a message's arbitration field and its time, by the program and by the document: by walks. -/
set_option linter.unusedVariables false
set_option linter.unusedSimpArgs false
set_option maxRecDepth 100000
set_option maxHeartbeats 4000000
namespace Go.Proofs.YtjleekdidedhaaaDoor
open Sx
/-- Whether a frame of such a number can be. -/
def okF (id : Nat) (x : Bool) (n : Int) : Bool := decide (0 ≤ n) && decide (n ≤ 15) && decide (id < if x then 536870912 else 2048)
def fldB (id : Nat) (x : Bool) : List UInt8 := if x then numB 11 (id / 2 ^ 18) ++ [49, 49] ++ numB 18 (id % 2 ^ 18) ++ [48] else numB 11 id ++ [48] ++ [48]
def fV (id : Nat) (x : Bool) (n : Int) : List UInt8 × Int := if okF id x n then (fldB id x, 0) else ([], 1)
abbrev frC (id : Nat) (x : Bool) (n : Int) : Value := .agg ⟨[.int .u32 (id : Int), .bool x, .bool false, .int .i64 n, .int .u8 0, .int .u8 0, .int .u8 0, .int .u8 0, .int .u8 0, .int .u8 0, .int .u8 0, .int .u8 0]⟩
abbrev mgC (id : Nat) (x : Bool) (n : Int) (p j : Nat) : Value := .agg ⟨[.int .u32 (id : Int), .bool x, .int .i64 n, .int .u64 (p : Int), .int .u64 (j : Int)]⟩
theorem bt105 : BT 105 0 := by unfold BT; kernel_rfl
section
variable {K : Value → Heap → Prop} {H : Heap} {id : Nat} {x : Bool} {n : Int} {p j : Nat}
theorem c42 (hid : id < 4294967296) (hK : K (.int .i64 (if okF id x n then 0 else 1)) H) : SCalls Tryd.prog 42 [frC id x n] H K := by
  refine enter42 ?_
  have h11 : shrI .u32 (id : Int) 11 = ((id / 2 ^ 11 : Nat) : Int) := shr_nat (k := .u32) (n := 11) (by decide)
  have h29 : shrI .u32 (id : Int) 29 = ((id / 2 ^ 29 : Nat) : Int) := shr_nat (k := .u32) (n := 29) (by decide)
  have e : ∀ b, okF id x n = b → (if okF id x n then (0 : Int) else 1) = if b then 0 else 1 := fun b h => by rw [h]
  cases x with
  | true =>
    by_cases hg : okF id true n = true
    · rw [e _ hg] at hK
      unfold okF at hg
      simp only [Bool.and_eq_true, decide_eq_true_eq, if_true] at hg
      rw [Nat.div_eq_of_lt (show id < 2 ^ 29 by omega)] at h29
      repeat' ((conv => whnf); (first | with_reducible refine Val.to _ h29 ?_ | refine Branch.f rfl ?_ | exact Keep.d1 hK | refine New.mk (fun _ => ?_) | refine Look.at0 ?_ | refine Cell.row ?_ | refine Cell.buf ?_ | refine Cells.row rfl ?_ | refine Put.row rfl ?_ | refine Put.buf rfl ?_ | refine Look.at1 ?_ | refine Look.at2 ?_ | refine Look.at3 ?_ | refine Look.at4 ?_ | refine Look.at5 ?_ | refine Look.at6 ?_ | refine Look.at7 ?_ | refine Look.at8 ?_ | with_reducible refine Val.i64 (by omega) (by omega) ?_ | with_reducible refine Val.u8 (by omega) (by omega) ?_ | with_reducible refine Val.u32 (by omega) (by omega) ?_ | with_reducible refine Val.u64 (by omega) (by omega) ?_ | with_reducible refine Val.u8m ?_ | with_reducible refine Val.u32m ?_ | with_reducible refine Val.u64m ?_ | with_reducible refine Val.shr8 ?_ | with_reducible refine Val.shr16 (by decide) ?_ | with_reducible refine Val.shr24 (by decide) ?_ | with_reducible refine Val.raw ?_ | refine Branch.not ?_ | refine Branch.and ?_ | refine Branch.or ?_ | refine Branch.dt (by assumption) ?_ | refine Branch.df (by assumption) ?_ | refine Branch.dt rfl ?_ | refine Branch.dt (by omega) ?_ | refine Branch.df (by omega) ?_ | refine Branch.t rfl ?_ | refine Branch.f rfl ?_ | refine Branch.t (by assumption) ?_ | refine Branch.f (by assumption) ?_ | refine Branch.d (fun _ => ?_) (fun _ => ?_) | refine Branch.mk (fun _ => ?_) (fun _ => ?_) | refine Need.mk (by first | omega | decide | rfl) ?_ | refine Idx.nat (by omega) ?_ | refine Idx.auto (by first | omega | decide) (by first | omega | decide) ?_ | refine Cell.ro rfl ?_ | refine SDraw.all (by kernel_rfl) ?_ | refine Kept.k0 ?_ | refine Kept.k1 ?_ | refine Kept.k2 ?_ | refine Kept.k3 ?_ | refine Kept.k4 ?_))
    · have hg' : okF id true n = false := by simpa using hg
      rw [e _ hg'] at hK
      unfold okF at hg'
      simp only [Bool.and_eq_false_iff, decide_eq_false_iff_not, if_true] at hg'
      have hz : ¬ id < 536870912 → ¬ ((id / 2 ^ 29 : Nat) : Int) = 0 := fun h => by omega
      have hz2 : id < 536870912 → ((id / 2 ^ 29 : Nat) : Int) = 0 := fun h => by omega
      by_cases h1 : id < 536870912
      · rw [hz2 h1] at h29
        by_cases h2 : 0 ≤ n
        · repeat' ((conv => whnf); (first | with_reducible refine Val.to _ h29 ?_ | refine Branch.df (by omega) ?_ | refine Branch.dt (by omega) ?_ | refine Branch.f rfl ?_ | exact Keep.d1 hK | refine New.mk (fun _ => ?_) | refine Look.at0 ?_ | refine Cell.row ?_ | refine Cell.buf ?_ | refine Cells.row rfl ?_ | refine Put.row rfl ?_ | refine Put.buf rfl ?_ | refine Look.at1 ?_ | refine Look.at2 ?_ | refine Look.at3 ?_ | refine Look.at4 ?_ | refine Look.at5 ?_ | refine Look.at6 ?_ | refine Look.at7 ?_ | refine Look.at8 ?_ | with_reducible refine Val.i64 (by omega) (by omega) ?_ | with_reducible refine Val.u8 (by omega) (by omega) ?_ | with_reducible refine Val.u32 (by omega) (by omega) ?_ | with_reducible refine Val.u64 (by omega) (by omega) ?_ | with_reducible refine Val.u8m ?_ | with_reducible refine Val.u32m ?_ | with_reducible refine Val.u64m ?_ | with_reducible refine Val.shr8 ?_ | with_reducible refine Val.shr16 (by decide) ?_ | with_reducible refine Val.shr24 (by decide) ?_ | with_reducible refine Val.raw ?_ | refine Branch.not ?_ | refine Branch.and ?_ | refine Branch.or ?_ | refine Branch.dt (by assumption) ?_ | refine Branch.df (by assumption) ?_ | refine Branch.dt rfl ?_ | refine Branch.dt (by omega) ?_ | refine Branch.df (by omega) ?_ | refine Branch.t rfl ?_ | refine Branch.f rfl ?_ | refine Branch.t (by assumption) ?_ | refine Branch.f (by assumption) ?_ | refine Branch.d (fun _ => ?_) (fun _ => ?_) | refine Branch.mk (fun _ => ?_) (fun _ => ?_) | refine Need.mk (by first | omega | decide | rfl) ?_ | refine Idx.nat (by omega) ?_ | refine Idx.auto (by first | omega | decide) (by first | omega | decide) ?_ | refine Cell.ro rfl ?_ | refine SDraw.all (by kernel_rfl) ?_ | refine Kept.k0 ?_ | refine Kept.k1 ?_ | refine Kept.k2 ?_ | refine Kept.k3 ?_ | refine Kept.k4 ?_))
        · repeat' ((conv => whnf); (first | with_reducible refine Val.to _ h29 ?_ | refine Branch.df (by omega) ?_ | refine Branch.dt (by omega) ?_ | refine Branch.f rfl ?_ | exact Keep.d1 hK | refine New.mk (fun _ => ?_) | refine Look.at0 ?_ | refine Cell.row ?_ | refine Cell.buf ?_ | refine Cells.row rfl ?_ | refine Put.row rfl ?_ | refine Put.buf rfl ?_ | refine Look.at1 ?_ | refine Look.at2 ?_ | refine Look.at3 ?_ | refine Look.at4 ?_ | refine Look.at5 ?_ | refine Look.at6 ?_ | refine Look.at7 ?_ | refine Look.at8 ?_ | with_reducible refine Val.i64 (by omega) (by omega) ?_ | with_reducible refine Val.u8 (by omega) (by omega) ?_ | with_reducible refine Val.u32 (by omega) (by omega) ?_ | with_reducible refine Val.u64 (by omega) (by omega) ?_ | with_reducible refine Val.u8m ?_ | with_reducible refine Val.u32m ?_ | with_reducible refine Val.u64m ?_ | with_reducible refine Val.shr8 ?_ | with_reducible refine Val.shr16 (by decide) ?_ | with_reducible refine Val.shr24 (by decide) ?_ | with_reducible refine Val.raw ?_ | refine Branch.not ?_ | refine Branch.and ?_ | refine Branch.or ?_ | refine Branch.dt (by assumption) ?_ | refine Branch.df (by assumption) ?_ | refine Branch.dt rfl ?_ | refine Branch.dt (by omega) ?_ | refine Branch.df (by omega) ?_ | refine Branch.t rfl ?_ | refine Branch.f rfl ?_ | refine Branch.t (by assumption) ?_ | refine Branch.f (by assumption) ?_ | refine Branch.d (fun _ => ?_) (fun _ => ?_) | refine Branch.mk (fun _ => ?_) (fun _ => ?_) | refine Need.mk (by first | omega | decide | rfl) ?_ | refine Idx.nat (by omega) ?_ | refine Idx.auto (by first | omega | decide) (by first | omega | decide) ?_ | refine Cell.ro rfl ?_ | refine SDraw.all (by kernel_rfl) ?_ | refine Kept.k0 ?_ | refine Kept.k1 ?_ | refine Kept.k2 ?_ | refine Kept.k3 ?_ | refine Kept.k4 ?_))
      · have hz := hz h1
        have h29' : shrI .u32 (id : Int) (11 + 18) = ((id / 2 ^ 29 : Nat) : Int) := h29
        repeat' ((conv => whnf); (first | refine Branch.df (by rw [h29']; exact hz) ?_ | exact Keep.d1 hK | refine New.mk (fun _ => ?_) | refine Look.at0 ?_ | refine Cell.row ?_ | refine Cell.buf ?_ | refine Cells.row rfl ?_ | refine Put.row rfl ?_ | refine Put.buf rfl ?_ | refine Look.at1 ?_ | refine Look.at2 ?_ | refine Look.at3 ?_ | refine Look.at4 ?_ | refine Look.at5 ?_ | refine Look.at6 ?_ | refine Look.at7 ?_ | refine Look.at8 ?_ | with_reducible refine Val.i64 (by omega) (by omega) ?_ | with_reducible refine Val.u8 (by omega) (by omega) ?_ | with_reducible refine Val.u32 (by omega) (by omega) ?_ | with_reducible refine Val.u64 (by omega) (by omega) ?_ | with_reducible refine Val.u8m ?_ | with_reducible refine Val.u32m ?_ | with_reducible refine Val.u64m ?_ | with_reducible refine Val.shr8 ?_ | with_reducible refine Val.shr16 (by decide) ?_ | with_reducible refine Val.shr24 (by decide) ?_ | with_reducible refine Val.raw ?_ | refine Branch.not ?_ | refine Branch.and ?_ | refine Branch.or ?_ | refine Branch.dt (by assumption) ?_ | refine Branch.df (by assumption) ?_ | refine Branch.dt rfl ?_ | refine Branch.dt (by omega) ?_ | refine Branch.df (by omega) ?_ | refine Branch.t rfl ?_ | refine Branch.f rfl ?_ | refine Branch.t (by assumption) ?_ | refine Branch.f (by assumption) ?_ | refine Branch.d (fun _ => ?_) (fun _ => ?_) | refine Branch.mk (fun _ => ?_) (fun _ => ?_) | refine Need.mk (by first | omega | decide | rfl) ?_ | refine Idx.nat (by omega) ?_ | refine Idx.auto (by first | omega | decide) (by first | omega | decide) ?_ | refine Cell.ro rfl ?_ | refine SDraw.all (by kernel_rfl) ?_ | refine Kept.k0 ?_ | refine Kept.k1 ?_ | refine Kept.k2 ?_ | refine Kept.k3 ?_ | refine Kept.k4 ?_))
  | false =>
    by_cases hg : okF id false n = true
    · rw [e _ hg] at hK
      unfold okF at hg
      simp only [Bool.and_eq_true, decide_eq_true_eq, Bool.false_eq_true, if_false] at hg
      rw [Nat.div_eq_of_lt (show id < 2 ^ 11 by omega)] at h11
      repeat' ((conv => whnf); (first | with_reducible refine Val.to _ h11 ?_ | refine Branch.f rfl ?_ | exact Keep.d1 hK | refine New.mk (fun _ => ?_) | refine Look.at0 ?_ | refine Cell.row ?_ | refine Cell.buf ?_ | refine Cells.row rfl ?_ | refine Put.row rfl ?_ | refine Put.buf rfl ?_ | refine Look.at1 ?_ | refine Look.at2 ?_ | refine Look.at3 ?_ | refine Look.at4 ?_ | refine Look.at5 ?_ | refine Look.at6 ?_ | refine Look.at7 ?_ | refine Look.at8 ?_ | with_reducible refine Val.i64 (by omega) (by omega) ?_ | with_reducible refine Val.u8 (by omega) (by omega) ?_ | with_reducible refine Val.u32 (by omega) (by omega) ?_ | with_reducible refine Val.u64 (by omega) (by omega) ?_ | with_reducible refine Val.u8m ?_ | with_reducible refine Val.u32m ?_ | with_reducible refine Val.u64m ?_ | with_reducible refine Val.shr8 ?_ | with_reducible refine Val.shr16 (by decide) ?_ | with_reducible refine Val.shr24 (by decide) ?_ | with_reducible refine Val.raw ?_ | refine Branch.not ?_ | refine Branch.and ?_ | refine Branch.or ?_ | refine Branch.dt (by assumption) ?_ | refine Branch.df (by assumption) ?_ | refine Branch.dt rfl ?_ | refine Branch.dt (by omega) ?_ | refine Branch.df (by omega) ?_ | refine Branch.t rfl ?_ | refine Branch.f rfl ?_ | refine Branch.t (by assumption) ?_ | refine Branch.f (by assumption) ?_ | refine Branch.d (fun _ => ?_) (fun _ => ?_) | refine Branch.mk (fun _ => ?_) (fun _ => ?_) | refine Need.mk (by first | omega | decide | rfl) ?_ | refine Idx.nat (by omega) ?_ | refine Idx.auto (by first | omega | decide) (by first | omega | decide) ?_ | refine Cell.ro rfl ?_ | refine SDraw.all (by kernel_rfl) ?_ | refine Kept.k0 ?_ | refine Kept.k1 ?_ | refine Kept.k2 ?_ | refine Kept.k3 ?_ | refine Kept.k4 ?_))
    · have hg' : okF id false n = false := by simpa using hg
      rw [e _ hg'] at hK
      unfold okF at hg'
      simp only [Bool.and_eq_false_iff, decide_eq_false_iff_not, Bool.false_eq_true, if_false] at hg'
      have hz : ¬ id < 2048 → ¬ ((id / 2 ^ 11 : Nat) : Int) = 0 := fun h => by omega
      have hz2 : id < 2048 → ((id / 2 ^ 11 : Nat) : Int) = 0 := fun h => by omega
      by_cases h1 : id < 2048
      · rw [hz2 h1] at h11
        by_cases h2 : 0 ≤ n
        · repeat' ((conv => whnf); (first | with_reducible refine Val.to _ h11 ?_ | refine Branch.df (by omega) ?_ | refine Branch.dt (by omega) ?_ | refine Branch.f rfl ?_ | exact Keep.d1 hK | refine New.mk (fun _ => ?_) | refine Look.at0 ?_ | refine Cell.row ?_ | refine Cell.buf ?_ | refine Cells.row rfl ?_ | refine Put.row rfl ?_ | refine Put.buf rfl ?_ | refine Look.at1 ?_ | refine Look.at2 ?_ | refine Look.at3 ?_ | refine Look.at4 ?_ | refine Look.at5 ?_ | refine Look.at6 ?_ | refine Look.at7 ?_ | refine Look.at8 ?_ | with_reducible refine Val.i64 (by omega) (by omega) ?_ | with_reducible refine Val.u8 (by omega) (by omega) ?_ | with_reducible refine Val.u32 (by omega) (by omega) ?_ | with_reducible refine Val.u64 (by omega) (by omega) ?_ | with_reducible refine Val.u8m ?_ | with_reducible refine Val.u32m ?_ | with_reducible refine Val.u64m ?_ | with_reducible refine Val.shr8 ?_ | with_reducible refine Val.shr16 (by decide) ?_ | with_reducible refine Val.shr24 (by decide) ?_ | with_reducible refine Val.raw ?_ | refine Branch.not ?_ | refine Branch.and ?_ | refine Branch.or ?_ | refine Branch.dt (by assumption) ?_ | refine Branch.df (by assumption) ?_ | refine Branch.dt rfl ?_ | refine Branch.dt (by omega) ?_ | refine Branch.df (by omega) ?_ | refine Branch.t rfl ?_ | refine Branch.f rfl ?_ | refine Branch.t (by assumption) ?_ | refine Branch.f (by assumption) ?_ | refine Branch.d (fun _ => ?_) (fun _ => ?_) | refine Branch.mk (fun _ => ?_) (fun _ => ?_) | refine Need.mk (by first | omega | decide | rfl) ?_ | refine Idx.nat (by omega) ?_ | refine Idx.auto (by first | omega | decide) (by first | omega | decide) ?_ | refine Cell.ro rfl ?_ | refine SDraw.all (by kernel_rfl) ?_ | refine Kept.k0 ?_ | refine Kept.k1 ?_ | refine Kept.k2 ?_ | refine Kept.k3 ?_ | refine Kept.k4 ?_))
        · repeat' ((conv => whnf); (first | with_reducible refine Val.to _ h11 ?_ | refine Branch.df (by omega) ?_ | refine Branch.dt (by omega) ?_ | refine Branch.f rfl ?_ | exact Keep.d1 hK | refine New.mk (fun _ => ?_) | refine Look.at0 ?_ | refine Cell.row ?_ | refine Cell.buf ?_ | refine Cells.row rfl ?_ | refine Put.row rfl ?_ | refine Put.buf rfl ?_ | refine Look.at1 ?_ | refine Look.at2 ?_ | refine Look.at3 ?_ | refine Look.at4 ?_ | refine Look.at5 ?_ | refine Look.at6 ?_ | refine Look.at7 ?_ | refine Look.at8 ?_ | with_reducible refine Val.i64 (by omega) (by omega) ?_ | with_reducible refine Val.u8 (by omega) (by omega) ?_ | with_reducible refine Val.u32 (by omega) (by omega) ?_ | with_reducible refine Val.u64 (by omega) (by omega) ?_ | with_reducible refine Val.u8m ?_ | with_reducible refine Val.u32m ?_ | with_reducible refine Val.u64m ?_ | with_reducible refine Val.shr8 ?_ | with_reducible refine Val.shr16 (by decide) ?_ | with_reducible refine Val.shr24 (by decide) ?_ | with_reducible refine Val.raw ?_ | refine Branch.not ?_ | refine Branch.and ?_ | refine Branch.or ?_ | refine Branch.dt (by assumption) ?_ | refine Branch.df (by assumption) ?_ | refine Branch.dt rfl ?_ | refine Branch.dt (by omega) ?_ | refine Branch.df (by omega) ?_ | refine Branch.t rfl ?_ | refine Branch.f rfl ?_ | refine Branch.t (by assumption) ?_ | refine Branch.f (by assumption) ?_ | refine Branch.d (fun _ => ?_) (fun _ => ?_) | refine Branch.mk (fun _ => ?_) (fun _ => ?_) | refine Need.mk (by first | omega | decide | rfl) ?_ | refine Idx.nat (by omega) ?_ | refine Idx.auto (by first | omega | decide) (by first | omega | decide) ?_ | refine Cell.ro rfl ?_ | refine SDraw.all (by kernel_rfl) ?_ | refine Kept.k0 ?_ | refine Kept.k1 ?_ | refine Kept.k2 ?_ | refine Kept.k3 ?_ | refine Kept.k4 ?_))
      · have hz := hz h1
        repeat' ((conv => whnf); (first | with_reducible refine Val.to _ h11 ?_ | refine Branch.t (by first | (simp [hz]; done) | omega) ?_ | exact Keep.d1 hK | refine New.mk (fun _ => ?_) | refine Look.at0 ?_ | refine Cell.row ?_ | refine Cell.buf ?_ | refine Cells.row rfl ?_ | refine Put.row rfl ?_ | refine Put.buf rfl ?_ | refine Look.at1 ?_ | refine Look.at2 ?_ | refine Look.at3 ?_ | refine Look.at4 ?_ | refine Look.at5 ?_ | refine Look.at6 ?_ | refine Look.at7 ?_ | refine Look.at8 ?_ | with_reducible refine Val.i64 (by omega) (by omega) ?_ | with_reducible refine Val.u8 (by omega) (by omega) ?_ | with_reducible refine Val.u32 (by omega) (by omega) ?_ | with_reducible refine Val.u64 (by omega) (by omega) ?_ | with_reducible refine Val.u8m ?_ | with_reducible refine Val.u32m ?_ | with_reducible refine Val.u64m ?_ | with_reducible refine Val.shr8 ?_ | with_reducible refine Val.shr16 (by decide) ?_ | with_reducible refine Val.shr24 (by decide) ?_ | with_reducible refine Val.raw ?_ | refine Branch.not ?_ | refine Branch.and ?_ | refine Branch.or ?_ | refine Branch.dt (by assumption) ?_ | refine Branch.df (by assumption) ?_ | refine Branch.dt rfl ?_ | refine Branch.dt (by omega) ?_ | refine Branch.df (by omega) ?_ | refine Branch.t rfl ?_ | refine Branch.f rfl ?_ | refine Branch.t (by assumption) ?_ | refine Branch.f (by assumption) ?_ | refine Branch.d (fun _ => ?_) (fun _ => ?_) | refine Branch.mk (fun _ => ?_) (fun _ => ?_) | refine Need.mk (by first | omega | decide | rfl) ?_ | refine Idx.nat (by omega) ?_ | refine Idx.auto (by first | omega | decide) (by first | omega | decide) ?_ | refine Cell.ro rfl ?_ | refine SDraw.all (by kernel_rfl) ?_ | refine Kept.k0 ?_ | refine Kept.k1 ?_ | refine Kept.k2 ?_ | refine Kept.k3 ?_ | refine Kept.k4 ?_))
theorem c32 (hK : K (.int .i64 (if okF id x n then 0 else 1)) H) : SCalls Tryd.prog 32 [frC id x n] H K := by
  refine enter32 ?_
  have e : ∀ b, okF id x n = b → (if okF id x n then (0 : Int) else 1) = if b then 0 else 1 := fun b h => by rw [h]
  cases x with
  | true =>
    by_cases hg : okF id true n = true
    · rw [e _ hg] at hK
      unfold okF at hg
      simp only [Bool.and_eq_true, decide_eq_true_eq, if_true] at hg
      repeat' ((conv => whnf); (first | refine Branch.dt (by omega) ?_ | refine Branch.df (by omega) ?_ | refine Branch.f rfl ?_ | exact Keep.d1 hK | refine New.mk (fun _ => ?_) | refine Look.at0 ?_ | refine Cell.row ?_ | refine Cell.buf ?_ | refine Cells.row rfl ?_ | refine Put.row rfl ?_ | refine Put.buf rfl ?_ | refine Look.at1 ?_ | refine Look.at2 ?_ | refine Look.at3 ?_ | refine Look.at4 ?_ | refine Look.at5 ?_ | refine Look.at6 ?_ | refine Look.at7 ?_ | refine Look.at8 ?_ | with_reducible refine Val.i64 (by omega) (by omega) ?_ | with_reducible refine Val.u8 (by omega) (by omega) ?_ | with_reducible refine Val.u32 (by omega) (by omega) ?_ | with_reducible refine Val.u64 (by omega) (by omega) ?_ | with_reducible refine Val.u8m ?_ | with_reducible refine Val.u32m ?_ | with_reducible refine Val.u64m ?_ | with_reducible refine Val.shr8 ?_ | with_reducible refine Val.shr16 (by decide) ?_ | with_reducible refine Val.shr24 (by decide) ?_ | with_reducible refine Val.raw ?_ | refine Branch.not ?_ | refine Branch.and ?_ | refine Branch.or ?_ | refine Branch.dt (by assumption) ?_ | refine Branch.df (by assumption) ?_ | refine Branch.dt rfl ?_ | refine Branch.dt (by omega) ?_ | refine Branch.df (by omega) ?_ | refine Branch.t rfl ?_ | refine Branch.f rfl ?_ | refine Branch.t (by assumption) ?_ | refine Branch.f (by assumption) ?_ | refine Branch.d (fun _ => ?_) (fun _ => ?_) | refine Branch.mk (fun _ => ?_) (fun _ => ?_) | refine Need.mk (by first | omega | decide | rfl) ?_ | refine Idx.nat (by omega) ?_ | refine Idx.auto (by first | omega | decide) (by first | omega | decide) ?_ | refine Cell.ro rfl ?_ | refine SDraw.all (by kernel_rfl) ?_ | refine Kept.k0 ?_ | refine Kept.k1 ?_ | refine Kept.k2 ?_ | refine Kept.k3 ?_ | refine Kept.k4 ?_))
    · have hg' : okF id true n = false := by simpa using hg
      rw [e _ hg'] at hK
      unfold okF at hg'
      simp only [Bool.and_eq_false_iff, decide_eq_false_iff_not, if_true] at hg'
      by_cases h2 : 0 ≤ n
      · by_cases h3 : n ≤ 15
        · repeat' ((conv => whnf); (first | refine Branch.dt (by omega) ?_ | refine Branch.df (by omega) ?_ | refine Branch.f rfl ?_ | exact Keep.d1 hK | refine New.mk (fun _ => ?_) | refine Look.at0 ?_ | refine Cell.row ?_ | refine Cell.buf ?_ | refine Cells.row rfl ?_ | refine Put.row rfl ?_ | refine Put.buf rfl ?_ | refine Look.at1 ?_ | refine Look.at2 ?_ | refine Look.at3 ?_ | refine Look.at4 ?_ | refine Look.at5 ?_ | refine Look.at6 ?_ | refine Look.at7 ?_ | refine Look.at8 ?_ | with_reducible refine Val.i64 (by omega) (by omega) ?_ | with_reducible refine Val.u8 (by omega) (by omega) ?_ | with_reducible refine Val.u32 (by omega) (by omega) ?_ | with_reducible refine Val.u64 (by omega) (by omega) ?_ | with_reducible refine Val.u8m ?_ | with_reducible refine Val.u32m ?_ | with_reducible refine Val.u64m ?_ | with_reducible refine Val.shr8 ?_ | with_reducible refine Val.shr16 (by decide) ?_ | with_reducible refine Val.shr24 (by decide) ?_ | with_reducible refine Val.raw ?_ | refine Branch.not ?_ | refine Branch.and ?_ | refine Branch.or ?_ | refine Branch.dt (by assumption) ?_ | refine Branch.df (by assumption) ?_ | refine Branch.dt rfl ?_ | refine Branch.dt (by omega) ?_ | refine Branch.df (by omega) ?_ | refine Branch.t rfl ?_ | refine Branch.f rfl ?_ | refine Branch.t (by assumption) ?_ | refine Branch.f (by assumption) ?_ | refine Branch.d (fun _ => ?_) (fun _ => ?_) | refine Branch.mk (fun _ => ?_) (fun _ => ?_) | refine Need.mk (by first | omega | decide | rfl) ?_ | refine Idx.nat (by omega) ?_ | refine Idx.auto (by first | omega | decide) (by first | omega | decide) ?_ | refine Cell.ro rfl ?_ | refine SDraw.all (by kernel_rfl) ?_ | refine Kept.k0 ?_ | refine Kept.k1 ?_ | refine Kept.k2 ?_ | refine Kept.k3 ?_ | refine Kept.k4 ?_))
        · repeat' ((conv => whnf); (first | refine Branch.dt (by omega) ?_ | refine Branch.df (by omega) ?_ | refine Branch.f rfl ?_ | exact Keep.d1 hK | refine New.mk (fun _ => ?_) | refine Look.at0 ?_ | refine Cell.row ?_ | refine Cell.buf ?_ | refine Cells.row rfl ?_ | refine Put.row rfl ?_ | refine Put.buf rfl ?_ | refine Look.at1 ?_ | refine Look.at2 ?_ | refine Look.at3 ?_ | refine Look.at4 ?_ | refine Look.at5 ?_ | refine Look.at6 ?_ | refine Look.at7 ?_ | refine Look.at8 ?_ | with_reducible refine Val.i64 (by omega) (by omega) ?_ | with_reducible refine Val.u8 (by omega) (by omega) ?_ | with_reducible refine Val.u32 (by omega) (by omega) ?_ | with_reducible refine Val.u64 (by omega) (by omega) ?_ | with_reducible refine Val.u8m ?_ | with_reducible refine Val.u32m ?_ | with_reducible refine Val.u64m ?_ | with_reducible refine Val.shr8 ?_ | with_reducible refine Val.shr16 (by decide) ?_ | with_reducible refine Val.shr24 (by decide) ?_ | with_reducible refine Val.raw ?_ | refine Branch.not ?_ | refine Branch.and ?_ | refine Branch.or ?_ | refine Branch.dt (by assumption) ?_ | refine Branch.df (by assumption) ?_ | refine Branch.dt rfl ?_ | refine Branch.dt (by omega) ?_ | refine Branch.df (by omega) ?_ | refine Branch.t rfl ?_ | refine Branch.f rfl ?_ | refine Branch.t (by assumption) ?_ | refine Branch.f (by assumption) ?_ | refine Branch.d (fun _ => ?_) (fun _ => ?_) | refine Branch.mk (fun _ => ?_) (fun _ => ?_) | refine Need.mk (by first | omega | decide | rfl) ?_ | refine Idx.nat (by omega) ?_ | refine Idx.auto (by first | omega | decide) (by first | omega | decide) ?_ | refine Cell.ro rfl ?_ | refine SDraw.all (by kernel_rfl) ?_ | refine Kept.k0 ?_ | refine Kept.k1 ?_ | refine Kept.k2 ?_ | refine Kept.k3 ?_ | refine Kept.k4 ?_))
      · repeat' ((conv => whnf); (first | refine Branch.dt (by omega) ?_ | refine Branch.df (by omega) ?_ | refine Branch.f rfl ?_ | exact Keep.d1 hK | refine New.mk (fun _ => ?_) | refine Look.at0 ?_ | refine Cell.row ?_ | refine Cell.buf ?_ | refine Cells.row rfl ?_ | refine Put.row rfl ?_ | refine Put.buf rfl ?_ | refine Look.at1 ?_ | refine Look.at2 ?_ | refine Look.at3 ?_ | refine Look.at4 ?_ | refine Look.at5 ?_ | refine Look.at6 ?_ | refine Look.at7 ?_ | refine Look.at8 ?_ | with_reducible refine Val.i64 (by omega) (by omega) ?_ | with_reducible refine Val.u8 (by omega) (by omega) ?_ | with_reducible refine Val.u32 (by omega) (by omega) ?_ | with_reducible refine Val.u64 (by omega) (by omega) ?_ | with_reducible refine Val.u8m ?_ | with_reducible refine Val.u32m ?_ | with_reducible refine Val.u64m ?_ | with_reducible refine Val.shr8 ?_ | with_reducible refine Val.shr16 (by decide) ?_ | with_reducible refine Val.shr24 (by decide) ?_ | with_reducible refine Val.raw ?_ | refine Branch.not ?_ | refine Branch.and ?_ | refine Branch.or ?_ | refine Branch.dt (by assumption) ?_ | refine Branch.df (by assumption) ?_ | refine Branch.dt rfl ?_ | refine Branch.dt (by omega) ?_ | refine Branch.df (by omega) ?_ | refine Branch.t rfl ?_ | refine Branch.f rfl ?_ | refine Branch.t (by assumption) ?_ | refine Branch.f (by assumption) ?_ | refine Branch.d (fun _ => ?_) (fun _ => ?_) | refine Branch.mk (fun _ => ?_) (fun _ => ?_) | refine Need.mk (by first | omega | decide | rfl) ?_ | refine Idx.nat (by omega) ?_ | refine Idx.auto (by first | omega | decide) (by first | omega | decide) ?_ | refine Cell.ro rfl ?_ | refine SDraw.all (by kernel_rfl) ?_ | refine Kept.k0 ?_ | refine Kept.k1 ?_ | refine Kept.k2 ?_ | refine Kept.k3 ?_ | refine Kept.k4 ?_))
  | false =>
    by_cases hg : okF id false n = true
    · rw [e _ hg] at hK
      unfold okF at hg
      simp only [Bool.and_eq_true, decide_eq_true_eq, Bool.false_eq_true, if_false] at hg
      repeat' ((conv => whnf); (first | refine Branch.dt (by omega) ?_ | refine Branch.df (by omega) ?_ | refine Branch.f rfl ?_ | exact Keep.d1 hK | refine New.mk (fun _ => ?_) | refine Look.at0 ?_ | refine Cell.row ?_ | refine Cell.buf ?_ | refine Cells.row rfl ?_ | refine Put.row rfl ?_ | refine Put.buf rfl ?_ | refine Look.at1 ?_ | refine Look.at2 ?_ | refine Look.at3 ?_ | refine Look.at4 ?_ | refine Look.at5 ?_ | refine Look.at6 ?_ | refine Look.at7 ?_ | refine Look.at8 ?_ | with_reducible refine Val.i64 (by omega) (by omega) ?_ | with_reducible refine Val.u8 (by omega) (by omega) ?_ | with_reducible refine Val.u32 (by omega) (by omega) ?_ | with_reducible refine Val.u64 (by omega) (by omega) ?_ | with_reducible refine Val.u8m ?_ | with_reducible refine Val.u32m ?_ | with_reducible refine Val.u64m ?_ | with_reducible refine Val.shr8 ?_ | with_reducible refine Val.shr16 (by decide) ?_ | with_reducible refine Val.shr24 (by decide) ?_ | with_reducible refine Val.raw ?_ | refine Branch.not ?_ | refine Branch.and ?_ | refine Branch.or ?_ | refine Branch.dt (by assumption) ?_ | refine Branch.df (by assumption) ?_ | refine Branch.dt rfl ?_ | refine Branch.dt (by omega) ?_ | refine Branch.df (by omega) ?_ | refine Branch.t rfl ?_ | refine Branch.f rfl ?_ | refine Branch.t (by assumption) ?_ | refine Branch.f (by assumption) ?_ | refine Branch.d (fun _ => ?_) (fun _ => ?_) | refine Branch.mk (fun _ => ?_) (fun _ => ?_) | refine Need.mk (by first | omega | decide | rfl) ?_ | refine Idx.nat (by omega) ?_ | refine Idx.auto (by first | omega | decide) (by first | omega | decide) ?_ | refine Cell.ro rfl ?_ | refine SDraw.all (by kernel_rfl) ?_ | refine Kept.k0 ?_ | refine Kept.k1 ?_ | refine Kept.k2 ?_ | refine Kept.k3 ?_ | refine Kept.k4 ?_))
    · have hg' : okF id false n = false := by simpa using hg
      rw [e _ hg'] at hK
      unfold okF at hg'
      simp only [Bool.and_eq_false_iff, decide_eq_false_iff_not, Bool.false_eq_true, if_false] at hg'
      by_cases h2 : 0 ≤ n
      · by_cases h3 : n ≤ 15
        · by_cases h4 : id < 536870912
          · repeat' ((conv => whnf); (first | refine Branch.dt (by omega) ?_ | refine Branch.df (by omega) ?_ | refine Branch.f rfl ?_ | exact Keep.d1 hK | refine New.mk (fun _ => ?_) | refine Look.at0 ?_ | refine Cell.row ?_ | refine Cell.buf ?_ | refine Cells.row rfl ?_ | refine Put.row rfl ?_ | refine Put.buf rfl ?_ | refine Look.at1 ?_ | refine Look.at2 ?_ | refine Look.at3 ?_ | refine Look.at4 ?_ | refine Look.at5 ?_ | refine Look.at6 ?_ | refine Look.at7 ?_ | refine Look.at8 ?_ | with_reducible refine Val.i64 (by omega) (by omega) ?_ | with_reducible refine Val.u8 (by omega) (by omega) ?_ | with_reducible refine Val.u32 (by omega) (by omega) ?_ | with_reducible refine Val.u64 (by omega) (by omega) ?_ | with_reducible refine Val.u8m ?_ | with_reducible refine Val.u32m ?_ | with_reducible refine Val.u64m ?_ | with_reducible refine Val.shr8 ?_ | with_reducible refine Val.shr16 (by decide) ?_ | with_reducible refine Val.shr24 (by decide) ?_ | with_reducible refine Val.raw ?_ | refine Branch.not ?_ | refine Branch.and ?_ | refine Branch.or ?_ | refine Branch.dt (by assumption) ?_ | refine Branch.df (by assumption) ?_ | refine Branch.dt rfl ?_ | refine Branch.dt (by omega) ?_ | refine Branch.df (by omega) ?_ | refine Branch.t rfl ?_ | refine Branch.f rfl ?_ | refine Branch.t (by assumption) ?_ | refine Branch.f (by assumption) ?_ | refine Branch.d (fun _ => ?_) (fun _ => ?_) | refine Branch.mk (fun _ => ?_) (fun _ => ?_) | refine Need.mk (by first | omega | decide | rfl) ?_ | refine Idx.nat (by omega) ?_ | refine Idx.auto (by first | omega | decide) (by first | omega | decide) ?_ | refine Cell.ro rfl ?_ | refine SDraw.all (by kernel_rfl) ?_ | refine Kept.k0 ?_ | refine Kept.k1 ?_ | refine Kept.k2 ?_ | refine Kept.k3 ?_ | refine Kept.k4 ?_))
          · repeat' ((conv => whnf); (first | refine Branch.dt (by omega) ?_ | refine Branch.df (by omega) ?_ | refine Branch.f rfl ?_ | exact Keep.d1 hK | refine New.mk (fun _ => ?_) | refine Look.at0 ?_ | refine Cell.row ?_ | refine Cell.buf ?_ | refine Cells.row rfl ?_ | refine Put.row rfl ?_ | refine Put.buf rfl ?_ | refine Look.at1 ?_ | refine Look.at2 ?_ | refine Look.at3 ?_ | refine Look.at4 ?_ | refine Look.at5 ?_ | refine Look.at6 ?_ | refine Look.at7 ?_ | refine Look.at8 ?_ | with_reducible refine Val.i64 (by omega) (by omega) ?_ | with_reducible refine Val.u8 (by omega) (by omega) ?_ | with_reducible refine Val.u32 (by omega) (by omega) ?_ | with_reducible refine Val.u64 (by omega) (by omega) ?_ | with_reducible refine Val.u8m ?_ | with_reducible refine Val.u32m ?_ | with_reducible refine Val.u64m ?_ | with_reducible refine Val.shr8 ?_ | with_reducible refine Val.shr16 (by decide) ?_ | with_reducible refine Val.shr24 (by decide) ?_ | with_reducible refine Val.raw ?_ | refine Branch.not ?_ | refine Branch.and ?_ | refine Branch.or ?_ | refine Branch.dt (by assumption) ?_ | refine Branch.df (by assumption) ?_ | refine Branch.dt rfl ?_ | refine Branch.dt (by omega) ?_ | refine Branch.df (by omega) ?_ | refine Branch.t rfl ?_ | refine Branch.f rfl ?_ | refine Branch.t (by assumption) ?_ | refine Branch.f (by assumption) ?_ | refine Branch.d (fun _ => ?_) (fun _ => ?_) | refine Branch.mk (fun _ => ?_) (fun _ => ?_) | refine Need.mk (by first | omega | decide | rfl) ?_ | refine Idx.nat (by omega) ?_ | refine Idx.auto (by first | omega | decide) (by first | omega | decide) ?_ | refine Cell.ro rfl ?_ | refine SDraw.all (by kernel_rfl) ?_ | refine Kept.k0 ?_ | refine Kept.k1 ?_ | refine Kept.k2 ?_ | refine Kept.k3 ?_ | refine Kept.k4 ?_))
        · repeat' ((conv => whnf); (first | refine Branch.dt (by omega) ?_ | refine Branch.df (by omega) ?_ | refine Branch.f rfl ?_ | exact Keep.d1 hK | refine New.mk (fun _ => ?_) | refine Look.at0 ?_ | refine Cell.row ?_ | refine Cell.buf ?_ | refine Cells.row rfl ?_ | refine Put.row rfl ?_ | refine Put.buf rfl ?_ | refine Look.at1 ?_ | refine Look.at2 ?_ | refine Look.at3 ?_ | refine Look.at4 ?_ | refine Look.at5 ?_ | refine Look.at6 ?_ | refine Look.at7 ?_ | refine Look.at8 ?_ | with_reducible refine Val.i64 (by omega) (by omega) ?_ | with_reducible refine Val.u8 (by omega) (by omega) ?_ | with_reducible refine Val.u32 (by omega) (by omega) ?_ | with_reducible refine Val.u64 (by omega) (by omega) ?_ | with_reducible refine Val.u8m ?_ | with_reducible refine Val.u32m ?_ | with_reducible refine Val.u64m ?_ | with_reducible refine Val.shr8 ?_ | with_reducible refine Val.shr16 (by decide) ?_ | with_reducible refine Val.shr24 (by decide) ?_ | with_reducible refine Val.raw ?_ | refine Branch.not ?_ | refine Branch.and ?_ | refine Branch.or ?_ | refine Branch.dt (by assumption) ?_ | refine Branch.df (by assumption) ?_ | refine Branch.dt rfl ?_ | refine Branch.dt (by omega) ?_ | refine Branch.df (by omega) ?_ | refine Branch.t rfl ?_ | refine Branch.f rfl ?_ | refine Branch.t (by assumption) ?_ | refine Branch.f (by assumption) ?_ | refine Branch.d (fun _ => ?_) (fun _ => ?_) | refine Branch.mk (fun _ => ?_) (fun _ => ?_) | refine Need.mk (by first | omega | decide | rfl) ?_ | refine Idx.nat (by omega) ?_ | refine Idx.auto (by first | omega | decide) (by first | omega | decide) ?_ | refine Cell.ro rfl ?_ | refine SDraw.all (by kernel_rfl) ?_ | refine Kept.k0 ?_ | refine Kept.k1 ?_ | refine Kept.k2 ?_ | refine Kept.k3 ?_ | refine Kept.k4 ?_))
      · repeat' ((conv => whnf); (first | refine Branch.dt (by omega) ?_ | refine Branch.df (by omega) ?_ | refine Branch.f rfl ?_ | exact Keep.d1 hK | refine New.mk (fun _ => ?_) | refine Look.at0 ?_ | refine Cell.row ?_ | refine Cell.buf ?_ | refine Cells.row rfl ?_ | refine Put.row rfl ?_ | refine Put.buf rfl ?_ | refine Look.at1 ?_ | refine Look.at2 ?_ | refine Look.at3 ?_ | refine Look.at4 ?_ | refine Look.at5 ?_ | refine Look.at6 ?_ | refine Look.at7 ?_ | refine Look.at8 ?_ | with_reducible refine Val.i64 (by omega) (by omega) ?_ | with_reducible refine Val.u8 (by omega) (by omega) ?_ | with_reducible refine Val.u32 (by omega) (by omega) ?_ | with_reducible refine Val.u64 (by omega) (by omega) ?_ | with_reducible refine Val.u8m ?_ | with_reducible refine Val.u32m ?_ | with_reducible refine Val.u64m ?_ | with_reducible refine Val.shr8 ?_ | with_reducible refine Val.shr16 (by decide) ?_ | with_reducible refine Val.shr24 (by decide) ?_ | with_reducible refine Val.raw ?_ | refine Branch.not ?_ | refine Branch.and ?_ | refine Branch.or ?_ | refine Branch.dt (by assumption) ?_ | refine Branch.df (by assumption) ?_ | refine Branch.dt rfl ?_ | refine Branch.dt (by omega) ?_ | refine Branch.df (by omega) ?_ | refine Branch.t rfl ?_ | refine Branch.f rfl ?_ | refine Branch.t (by assumption) ?_ | refine Branch.f (by assumption) ?_ | refine Branch.d (fun _ => ?_) (fun _ => ?_) | refine Branch.mk (fun _ => ?_) (fun _ => ?_) | refine Need.mk (by first | omega | decide | rfl) ?_ | refine Idx.nat (by omega) ?_ | refine Idx.auto (by first | omega | decide) (by first | omega | decide) ?_ | refine Cell.ro rfl ?_ | refine SDraw.all (by kernel_rfl) ?_ | refine Kept.k0 ?_ | refine Kept.k1 ?_ | refine Kept.k2 ?_ | refine Kept.k3 ?_ | refine Kept.k4 ?_))
theorem c35 (hK : K (frC id x n) H) : SCalls Tryd.prog 35 [mgC id x n p j] H K := by
  refine enter35 ?_
  repeat' ((conv => whnf); (first | exact Keep.d2 hK | refine New.mk (fun _ => ?_) | refine Look.at0 ?_ | refine Cell.row ?_ | refine Cell.buf ?_ | refine Cells.row rfl ?_ | refine Put.row rfl ?_ | refine Put.buf rfl ?_ | refine Look.at1 ?_ | refine Look.at2 ?_ | refine Look.at3 ?_ | refine Look.at4 ?_ | refine Look.at5 ?_ | refine Look.at6 ?_ | refine Look.at7 ?_ | refine Look.at8 ?_ | with_reducible refine Val.i64 (by omega) (by omega) ?_ | with_reducible refine Val.u8 (by omega) (by omega) ?_ | with_reducible refine Val.u32 (by omega) (by omega) ?_ | with_reducible refine Val.u64 (by omega) (by omega) ?_ | with_reducible refine Val.u8m ?_ | with_reducible refine Val.u32m ?_ | with_reducible refine Val.u64m ?_ | with_reducible refine Val.shr8 ?_ | with_reducible refine Val.shr16 (by decide) ?_ | with_reducible refine Val.shr24 (by decide) ?_ | with_reducible refine Val.raw ?_ | refine Branch.not ?_ | refine Branch.and ?_ | refine Branch.or ?_ | refine Branch.dt (by assumption) ?_ | refine Branch.df (by assumption) ?_ | refine Branch.dt rfl ?_ | refine Branch.dt (by omega) ?_ | refine Branch.df (by omega) ?_ | refine Branch.t rfl ?_ | refine Branch.f rfl ?_ | refine Branch.t (by assumption) ?_ | refine Branch.f (by assumption) ?_ | refine Branch.d (fun _ => ?_) (fun _ => ?_) | refine Branch.mk (fun _ => ?_) (fun _ => ?_) | refine Need.mk (by first | omega | decide | rfl) ?_ | refine Idx.nat (by omega) ?_ | refine Idx.auto (by first | omega | decide) (by first | omega | decide) ?_ | refine Cell.ro rfl ?_ | refine SDraw.all (by kernel_rfl) ?_ | refine Kept.k0 ?_ | refine Kept.k1 ?_ | refine Kept.k2 ?_ | refine Kept.k3 ?_ | refine Kept.k4 ?_))
theorem c26 (hK : K (frC id x n) H) : SCalls Tryd.prog 26 [mgC id x n p j] H K := by
  refine enter26 ?_
  repeat' ((conv => whnf); (first | exact Keep.d2 hK | refine New.mk (fun _ => ?_) | refine Look.at0 ?_ | refine Cell.row ?_ | refine Cell.buf ?_ | refine Cells.row rfl ?_ | refine Put.row rfl ?_ | refine Put.buf rfl ?_ | refine Look.at1 ?_ | refine Look.at2 ?_ | refine Look.at3 ?_ | refine Look.at4 ?_ | refine Look.at5 ?_ | refine Look.at6 ?_ | refine Look.at7 ?_ | refine Look.at8 ?_ | with_reducible refine Val.i64 (by omega) (by omega) ?_ | with_reducible refine Val.u8 (by omega) (by omega) ?_ | with_reducible refine Val.u32 (by omega) (by omega) ?_ | with_reducible refine Val.u64 (by omega) (by omega) ?_ | with_reducible refine Val.u8m ?_ | with_reducible refine Val.u32m ?_ | with_reducible refine Val.u64m ?_ | with_reducible refine Val.shr8 ?_ | with_reducible refine Val.shr16 (by decide) ?_ | with_reducible refine Val.shr24 (by decide) ?_ | with_reducible refine Val.raw ?_ | refine Branch.not ?_ | refine Branch.and ?_ | refine Branch.or ?_ | refine Branch.dt (by assumption) ?_ | refine Branch.df (by assumption) ?_ | refine Branch.dt rfl ?_ | refine Branch.dt (by omega) ?_ | refine Branch.df (by omega) ?_ | refine Branch.t rfl ?_ | refine Branch.f rfl ?_ | refine Branch.t (by assumption) ?_ | refine Branch.f (by assumption) ?_ | refine Branch.d (fun _ => ?_) (fun _ => ?_) | refine Branch.mk (fun _ => ?_) (fun _ => ?_) | refine Need.mk (by first | omega | decide | rfl) ?_ | refine Idx.nat (by omega) ?_ | refine Idx.auto (by first | omega | decide) (by first | omega | decide) ?_ | refine Cell.ro rfl ?_ | refine SDraw.all (by kernel_rfl) ?_ | refine Kept.k0 ?_ | refine Kept.k1 ?_ | refine Kept.k2 ?_ | refine Kept.k3 ?_ | refine Kept.k4 ?_))
/-- How long a frame is on the wire, with the pause. -/
def lng (n : Int) (x : Bool) : Int := if x then 54 + 8 * n + (53 + 8 * n) / 4 + 13 else 34 + 8 * n + (33 + 8 * n) / 4 + 13
theorem lng_b (h0 : 0 ≤ n) (h8 : n ≤ 8) : 55 ≤ lng n x ∧ lng n x ≤ 160 := by
  unfold lng
  split <;> omega
theorem wq {m : Int} (h1 : 1 ≤ m) (h2 : m ≤ 200) : IntKind.i64.wrap (IntKind.i64.wrap (m + IntKind.i64.wrap ((m - 1).tdiv 4)) + 10) = m + (m - 1) / 4 + 10 := by
  have e1 : (m - 1).tdiv 4 = (m - 1) / 4 := Int.tdiv_eq_ediv_of_nonneg (by omega)
  have e2 : IntKind.i64.wrap ((m - 1) / 4) = (m - 1) / 4 := wrap_i64 (by omega) (by omega)
  have e3 : IntKind.i64.wrap (m + (m - 1) / 4) = m + (m - 1) / 4 := wrap_i64 (by omega) (by omega)
  rw [e1, e2, e3, wrap_i64 (by omega) (by omega)]
theorem c39 (h0 : 0 ≤ n) (h8 : n ≤ 8) (hK : K (.tuple ⟨[.int .i64 (lng n x - 3), .int .i64 0]⟩) H) : SCalls Tryd.prog 39 [.int .i64 n, .bool x] H K := by
  refine enter39 ?_
  have hf : ∀ v, v = lng n x - 3 → Keep H fun H' => K (.tuple ⟨[.int .i64 v, .int .i64 0]⟩) H' := fun v e => by rw [e]; exact Keep.all hK
  have e1 : lng n true - 3 = (54 + 8 * n) + (54 + 8 * n - 1) / 4 + 10 := by
    show 54 + 8 * n + (53 + 8 * n) / 4 + 13 - 3 = _
    omega
  have e2 : lng n false - 3 = (34 + 8 * n) + (34 + 8 * n - 1) / 4 + 10 := by
    show 34 + 8 * n + (33 + 8 * n) / 4 + 13 - 3 = _
    omega
  cases x with
  | true =>
    rw [e1] at hf
    repeat' ((conv => whnf); (first | refine Branch.dt (by omega) ?_ | refine Branch.df (by omega) ?_ | refine Branch.f rfl ?_ | refine Branch.t rfl ?_ | (with_reducible refine hf _ ?_; exact wq (by omega) (by omega)) | refine New.mk (fun _ => ?_) | refine Look.at0 ?_ | refine Cell.row ?_ | refine Cell.buf ?_ | refine Cells.row rfl ?_ | refine Put.row rfl ?_ | refine Put.buf rfl ?_ | refine Look.at1 ?_ | refine Look.at2 ?_ | refine Look.at3 ?_ | refine Look.at4 ?_ | refine Look.at5 ?_ | refine Look.at6 ?_ | refine Look.at7 ?_ | refine Look.at8 ?_ | with_reducible refine Val.i64 (by omega) (by omega) ?_ | with_reducible refine Val.u8 (by omega) (by omega) ?_ | with_reducible refine Val.u32 (by omega) (by omega) ?_ | with_reducible refine Val.u64 (by omega) (by omega) ?_ | with_reducible refine Val.u8m ?_ | with_reducible refine Val.u32m ?_ | with_reducible refine Val.u64m ?_ | with_reducible refine Val.shr8 ?_ | with_reducible refine Val.shr16 (by decide) ?_ | with_reducible refine Val.shr24 (by decide) ?_ | with_reducible refine Val.raw ?_ | refine Branch.not ?_ | refine Branch.and ?_ | refine Branch.or ?_ | refine Branch.dt (by assumption) ?_ | refine Branch.df (by assumption) ?_ | refine Branch.dt rfl ?_ | refine Branch.dt (by omega) ?_ | refine Branch.df (by omega) ?_ | refine Branch.t rfl ?_ | refine Branch.f rfl ?_ | refine Branch.t (by assumption) ?_ | refine Branch.f (by assumption) ?_ | refine Branch.d (fun _ => ?_) (fun _ => ?_) | refine Branch.mk (fun _ => ?_) (fun _ => ?_) | refine Need.mk (by first | omega | decide | rfl) ?_ | refine Idx.nat (by omega) ?_ | refine Idx.auto (by first | omega | decide) (by first | omega | decide) ?_ | refine Cell.ro rfl ?_ | refine SDraw.all (by kernel_rfl) ?_ | refine Kept.k0 ?_ | refine Kept.k1 ?_ | refine Kept.k2 ?_ | refine Kept.k3 ?_ | refine Kept.k4 ?_))
  | false =>
    rw [e2] at hf
    repeat' ((conv => whnf); (first | refine Branch.dt (by omega) ?_ | refine Branch.df (by omega) ?_ | refine Branch.f rfl ?_ | refine Branch.t rfl ?_ | (with_reducible refine hf _ ?_; exact wq (by omega) (by omega)) | refine New.mk (fun _ => ?_) | refine Look.at0 ?_ | refine Cell.row ?_ | refine Cell.buf ?_ | refine Cells.row rfl ?_ | refine Put.row rfl ?_ | refine Put.buf rfl ?_ | refine Look.at1 ?_ | refine Look.at2 ?_ | refine Look.at3 ?_ | refine Look.at4 ?_ | refine Look.at5 ?_ | refine Look.at6 ?_ | refine Look.at7 ?_ | refine Look.at8 ?_ | with_reducible refine Val.i64 (by omega) (by omega) ?_ | with_reducible refine Val.u8 (by omega) (by omega) ?_ | with_reducible refine Val.u32 (by omega) (by omega) ?_ | with_reducible refine Val.u64 (by omega) (by omega) ?_ | with_reducible refine Val.u8m ?_ | with_reducible refine Val.u32m ?_ | with_reducible refine Val.u64m ?_ | with_reducible refine Val.shr8 ?_ | with_reducible refine Val.shr16 (by decide) ?_ | with_reducible refine Val.shr24 (by decide) ?_ | with_reducible refine Val.raw ?_ | refine Branch.not ?_ | refine Branch.and ?_ | refine Branch.or ?_ | refine Branch.dt (by assumption) ?_ | refine Branch.df (by assumption) ?_ | refine Branch.dt rfl ?_ | refine Branch.dt (by omega) ?_ | refine Branch.df (by omega) ?_ | refine Branch.t rfl ?_ | refine Branch.f rfl ?_ | refine Branch.t (by assumption) ?_ | refine Branch.f (by assumption) ?_ | refine Branch.d (fun _ => ?_) (fun _ => ?_) | refine Branch.mk (fun _ => ?_) (fun _ => ?_) | refine Need.mk (by first | omega | decide | rfl) ?_ | refine Idx.nat (by omega) ?_ | refine Idx.auto (by first | omega | decide) (by first | omega | decide) ?_ | refine Cell.ro rfl ?_ | refine SDraw.all (by kernel_rfl) ?_ | refine Kept.k0 ?_ | refine Kept.k1 ?_ | refine Kept.k2 ?_ | refine Kept.k3 ?_ | refine Kept.k4 ?_))
theorem c24 (h0 : 0 ≤ n) (h8 : n ≤ 8) (hK : K (.tuple ⟨[.int .i64 (lng n x - 3), .int .i64 0]⟩) H) : SCalls Tryd.prog 24 [.int .i64 n, .bool x] H K := by
  refine enter24 ?_
  have hf : ∀ v, v = lng n x - 3 → Keep H fun H' => K (.tuple ⟨[.int .i64 v, .int .i64 0]⟩) H' := fun v e => by rw [e]; exact Keep.all hK
  have e1 : lng n true - 3 = (34 + 8 * n + 20) + (34 + 8 * n + 20 - 1) / 4 + 10 := by
    show 54 + 8 * n + (53 + 8 * n) / 4 + 13 - 3 = _
    omega
  have e2 : lng n false - 3 = (34 + 8 * n) + (34 + 8 * n - 1) / 4 + 10 := by
    show 34 + 8 * n + (33 + 8 * n) / 4 + 13 - 3 = _
    omega
  cases x with
  | true =>
    rw [e1] at hf
    repeat' ((conv => whnf); (first | refine Branch.dt (by omega) ?_ | refine Branch.df (by omega) ?_ | refine Branch.f rfl ?_ | refine Branch.t rfl ?_ | (with_reducible refine hf _ ?_; exact wq (by omega) (by omega)) | refine New.mk (fun _ => ?_) | refine Look.at0 ?_ | refine Cell.row ?_ | refine Cell.buf ?_ | refine Cells.row rfl ?_ | refine Put.row rfl ?_ | refine Put.buf rfl ?_ | refine Look.at1 ?_ | refine Look.at2 ?_ | refine Look.at3 ?_ | refine Look.at4 ?_ | refine Look.at5 ?_ | refine Look.at6 ?_ | refine Look.at7 ?_ | refine Look.at8 ?_ | with_reducible refine Val.i64 (by omega) (by omega) ?_ | with_reducible refine Val.u8 (by omega) (by omega) ?_ | with_reducible refine Val.u32 (by omega) (by omega) ?_ | with_reducible refine Val.u64 (by omega) (by omega) ?_ | with_reducible refine Val.u8m ?_ | with_reducible refine Val.u32m ?_ | with_reducible refine Val.u64m ?_ | with_reducible refine Val.shr8 ?_ | with_reducible refine Val.shr16 (by decide) ?_ | with_reducible refine Val.shr24 (by decide) ?_ | with_reducible refine Val.raw ?_ | refine Branch.not ?_ | refine Branch.and ?_ | refine Branch.or ?_ | refine Branch.dt (by assumption) ?_ | refine Branch.df (by assumption) ?_ | refine Branch.dt rfl ?_ | refine Branch.dt (by omega) ?_ | refine Branch.df (by omega) ?_ | refine Branch.t rfl ?_ | refine Branch.f rfl ?_ | refine Branch.t (by assumption) ?_ | refine Branch.f (by assumption) ?_ | refine Branch.d (fun _ => ?_) (fun _ => ?_) | refine Branch.mk (fun _ => ?_) (fun _ => ?_) | refine Need.mk (by first | omega | decide | rfl) ?_ | refine Idx.nat (by omega) ?_ | refine Idx.auto (by first | omega | decide) (by first | omega | decide) ?_ | refine Cell.ro rfl ?_ | refine SDraw.all (by kernel_rfl) ?_ | refine Kept.k0 ?_ | refine Kept.k1 ?_ | refine Kept.k2 ?_ | refine Kept.k3 ?_ | refine Kept.k4 ?_))
  | false =>
    rw [e2] at hf
    repeat' ((conv => whnf); (first | refine Branch.dt (by omega) ?_ | refine Branch.df (by omega) ?_ | refine Branch.f rfl ?_ | refine Branch.t rfl ?_ | (with_reducible refine hf _ ?_; exact wq (by omega) (by omega)) | refine New.mk (fun _ => ?_) | refine Look.at0 ?_ | refine Cell.row ?_ | refine Cell.buf ?_ | refine Cells.row rfl ?_ | refine Put.row rfl ?_ | refine Put.buf rfl ?_ | refine Look.at1 ?_ | refine Look.at2 ?_ | refine Look.at3 ?_ | refine Look.at4 ?_ | refine Look.at5 ?_ | refine Look.at6 ?_ | refine Look.at7 ?_ | refine Look.at8 ?_ | with_reducible refine Val.i64 (by omega) (by omega) ?_ | with_reducible refine Val.u8 (by omega) (by omega) ?_ | with_reducible refine Val.u32 (by omega) (by omega) ?_ | with_reducible refine Val.u64 (by omega) (by omega) ?_ | with_reducible refine Val.u8m ?_ | with_reducible refine Val.u32m ?_ | with_reducible refine Val.u64m ?_ | with_reducible refine Val.shr8 ?_ | with_reducible refine Val.shr16 (by decide) ?_ | with_reducible refine Val.shr24 (by decide) ?_ | with_reducible refine Val.raw ?_ | refine Branch.not ?_ | refine Branch.and ?_ | refine Branch.or ?_ | refine Branch.dt (by assumption) ?_ | refine Branch.df (by assumption) ?_ | refine Branch.dt rfl ?_ | refine Branch.dt (by omega) ?_ | refine Branch.df (by omega) ?_ | refine Branch.t rfl ?_ | refine Branch.f rfl ?_ | refine Branch.t (by assumption) ?_ | refine Branch.f (by assumption) ?_ | refine Branch.d (fun _ => ?_) (fun _ => ?_) | refine Branch.mk (fun _ => ?_) (fun _ => ?_) | refine Need.mk (by first | omega | decide | rfl) ?_ | refine Idx.nat (by omega) ?_ | refine Idx.auto (by first | omega | decide) (by first | omega | decide) ?_ | refine Cell.ro rfl ?_ | refine SDraw.all (by kernel_rfl) ?_ | refine Kept.k0 ?_ | refine Kept.k1 ?_ | refine Kept.k2 ?_ | refine Kept.k3 ?_ | refine Kept.k4 ?_))
theorem c27 (h0 : 0 ≤ n) (h8 : n ≤ 8) (hK : K (.int .u64 (lng n x)) H) : SCalls Tryd.prog 27 [mgC id x n p j] H K := by
  refine enter27 ?_
  have hb := lng_b (x := x) h0 h8
  have e : lng n x - 3 + 3 = lng n x := by omega
  repeat' ((conv => whnf); (first | refine c39 h0 h8 ?_ | with_reducible refine Val.to (lng n x) (by rw [wrap_i64 (by omega) (by omega)]; omega) ?_ | with_reducible refine Val.to (lng n x) (by rw [wrap_u64]; omega) ?_ | exact Keep.d1 hK | refine New.mk (fun _ => ?_) | refine Look.at0 ?_ | refine Cell.row ?_ | refine Cell.buf ?_ | refine Cells.row rfl ?_ | refine Put.row rfl ?_ | refine Put.buf rfl ?_ | refine Look.at1 ?_ | refine Look.at2 ?_ | refine Look.at3 ?_ | refine Look.at4 ?_ | refine Look.at5 ?_ | refine Look.at6 ?_ | refine Look.at7 ?_ | refine Look.at8 ?_ | with_reducible refine Val.i64 (by omega) (by omega) ?_ | with_reducible refine Val.u8 (by omega) (by omega) ?_ | with_reducible refine Val.u32 (by omega) (by omega) ?_ | with_reducible refine Val.u64 (by omega) (by omega) ?_ | with_reducible refine Val.u8m ?_ | with_reducible refine Val.u32m ?_ | with_reducible refine Val.u64m ?_ | with_reducible refine Val.shr8 ?_ | with_reducible refine Val.shr16 (by decide) ?_ | with_reducible refine Val.shr24 (by decide) ?_ | with_reducible refine Val.raw ?_ | refine Branch.not ?_ | refine Branch.and ?_ | refine Branch.or ?_ | refine Branch.dt (by assumption) ?_ | refine Branch.df (by assumption) ?_ | refine Branch.dt rfl ?_ | refine Branch.dt (by omega) ?_ | refine Branch.df (by omega) ?_ | refine Branch.t rfl ?_ | refine Branch.f rfl ?_ | refine Branch.t (by assumption) ?_ | refine Branch.f (by assumption) ?_ | refine Branch.d (fun _ => ?_) (fun _ => ?_) | refine Branch.mk (fun _ => ?_) (fun _ => ?_) | refine Need.mk (by first | omega | decide | rfl) ?_ | refine Idx.nat (by omega) ?_ | refine Idx.auto (by first | omega | decide) (by first | omega | decide) ?_ | refine Cell.ro rfl ?_ | refine SDraw.all (by kernel_rfl) ?_ | refine Kept.k0 ?_ | refine Kept.k1 ?_ | refine Kept.k2 ?_ | refine Kept.k3 ?_ | refine Kept.k4 ?_))
theorem c12 (h0 : 0 ≤ n) (h8 : n ≤ 8) (hK : K (.int .u64 (lng n x)) H) : SCalls Tryd.prog 12 [mgC id x n p j] H K := by
  refine enter12 ?_
  have hb := lng_b (x := x) h0 h8
  repeat' ((conv => whnf); (first | refine c24 h0 h8 ?_ | with_reducible refine Val.to (lng n x) (by rw [wrap_u64]; omega) ?_ | with_reducible refine Val.to (lng n x - 3) (by rw [wrap_u64]; omega) ?_ | exact Keep.d1 hK | refine New.mk (fun _ => ?_) | refine Look.at0 ?_ | refine Cell.row ?_ | refine Cell.buf ?_ | refine Cells.row rfl ?_ | refine Put.row rfl ?_ | refine Put.buf rfl ?_ | refine Look.at1 ?_ | refine Look.at2 ?_ | refine Look.at3 ?_ | refine Look.at4 ?_ | refine Look.at5 ?_ | refine Look.at6 ?_ | refine Look.at7 ?_ | refine Look.at8 ?_ | with_reducible refine Val.i64 (by omega) (by omega) ?_ | with_reducible refine Val.u8 (by omega) (by omega) ?_ | with_reducible refine Val.u32 (by omega) (by omega) ?_ | with_reducible refine Val.u64 (by omega) (by omega) ?_ | with_reducible refine Val.u8m ?_ | with_reducible refine Val.u32m ?_ | with_reducible refine Val.u64m ?_ | with_reducible refine Val.shr8 ?_ | with_reducible refine Val.shr16 (by decide) ?_ | with_reducible refine Val.shr24 (by decide) ?_ | with_reducible refine Val.raw ?_ | refine Branch.not ?_ | refine Branch.and ?_ | refine Branch.or ?_ | refine Branch.dt (by assumption) ?_ | refine Branch.df (by assumption) ?_ | refine Branch.dt rfl ?_ | refine Branch.dt (by omega) ?_ | refine Branch.df (by omega) ?_ | refine Branch.t rfl ?_ | refine Branch.f rfl ?_ | refine Branch.t (by assumption) ?_ | refine Branch.f (by assumption) ?_ | refine Branch.d (fun _ => ?_) (fun _ => ?_) | refine Branch.mk (fun _ => ?_) (fun _ => ?_) | refine Need.mk (by first | omega | decide | rfl) ?_ | refine Idx.nat (by omega) ?_ | refine Idx.auto (by first | omega | decide) (by first | omega | decide) ?_ | refine Cell.ro rfl ?_ | refine SDraw.all (by kernel_rfl) ?_ | refine Kept.k0 ?_ | refine Kept.k1 ?_ | refine Kept.k2 ?_ | refine Kept.k3 ?_ | refine Kept.k4 ?_))
/-- How often a message is asked for while something waits. -/
theorem c37 {w : Nat} (hp : 1 ≤ p) (hs : w + j + p < 9223372036854775808) (hK : K (.int .u64 (((w + j) / p + 1 : Nat) : Int)) H) : SCalls Tryd.prog 37 [mgC id x n p j, .int .u64 (w : Int)] H K := by
  refine enter37 ?_
  have hf : ∀ v, v = (((w + j) / p + 1 : Nat) : Int) → ∀ q, Keep ((q : Nat × Blk) :: H) fun H' => K (.int .u64 v) H' := fun v e q => by rw [e]; exact Keep.d1 hK
  have hq : ((w + j + p : Nat) : Int).tdiv (p : Int) = (((w + j) / p + 1 : Nat) : Int) := by
    rw [Int.tdiv_eq_ediv_of_nonneg (by omega), ← Int.natCast_ediv, Nat.add_div_right _ hp]
  have hm : (w : Int) + j + 1 + p - 1 = ((w + j + p : Nat) : Int) := by omega
  have hle : (w + j) / p + 1 < 18446744073709551616 := by
    have := Nat.div_le_self (w + j) p
    omega
  have hv : IntKind.u64.wrap (((w : Int) + j + 1 + p - 1).tdiv p) = (((w + j) / p + 1 : Nat) : Int) := by rw [hm, hq]; exact wrap_nat rfl hle
  repeat' ((conv => whnf); (first | with_reducible refine Val.to _ hv ?_ | with_reducible refine Val.u64 (by omega) (by omega) ?_ | refine Need.mk (by simp; omega) ?_ | exact Keep.d1 hK | refine New.mk (fun _ => ?_) | refine Look.at0 ?_ | refine Cell.row ?_ | refine Cell.buf ?_ | refine Cells.row rfl ?_ | refine Put.row rfl ?_ | refine Put.buf rfl ?_ | refine Look.at1 ?_ | refine Look.at2 ?_ | refine Look.at3 ?_ | refine Look.at4 ?_ | refine Look.at5 ?_ | refine Look.at6 ?_ | refine Look.at7 ?_ | refine Look.at8 ?_ | with_reducible refine Val.i64 (by omega) (by omega) ?_ | with_reducible refine Val.u8 (by omega) (by omega) ?_ | with_reducible refine Val.u32 (by omega) (by omega) ?_ | with_reducible refine Val.u64 (by omega) (by omega) ?_ | with_reducible refine Val.u8m ?_ | with_reducible refine Val.u32m ?_ | with_reducible refine Val.u64m ?_ | with_reducible refine Val.shr8 ?_ | with_reducible refine Val.shr16 (by decide) ?_ | with_reducible refine Val.shr24 (by decide) ?_ | with_reducible refine Val.raw ?_ | refine Branch.not ?_ | refine Branch.and ?_ | refine Branch.or ?_ | refine Branch.dt (by assumption) ?_ | refine Branch.df (by assumption) ?_ | refine Branch.dt rfl ?_ | refine Branch.dt (by omega) ?_ | refine Branch.df (by omega) ?_ | refine Branch.t rfl ?_ | refine Branch.f rfl ?_ | refine Branch.t (by assumption) ?_ | refine Branch.f (by assumption) ?_ | refine Branch.d (fun _ => ?_) (fun _ => ?_) | refine Branch.mk (fun _ => ?_) (fun _ => ?_) | refine Need.mk (by first | omega | decide | rfl) ?_ | refine Idx.nat (by omega) ?_ | refine Idx.auto (by first | omega | decide) (by first | omega | decide) ?_ | refine Cell.ro rfl ?_ | refine SDraw.all (by kernel_rfl) ?_ | refine Kept.k0 ?_ | refine Kept.k1 ?_ | refine Kept.k2 ?_ | refine Kept.k3 ?_ | refine Kept.k4 ?_))
/-- A number's bits. -/
theorem c45 {w : Int} {n : Nat} (hn : n < 2 ^ 64) (hK : K (.string (strOf (numV n w).1)) H) : SCalls Tryd.prog 45 [.int .u64 (n : Int), .int .i64 w] H K := by
  refine enter45 ?_
  repeat' ((conv => whnf); (first | refine c50 hn ?_ | exact Keep.all hK | refine New.mk (fun _ => ?_) | refine Look.at0 ?_ | refine Cell.row ?_ | refine Cell.buf ?_ | refine Cells.row rfl ?_ | refine Put.row rfl ?_ | refine Put.buf rfl ?_ | refine Look.at1 ?_ | refine Look.at2 ?_ | refine Look.at3 ?_ | refine Look.at4 ?_ | refine Look.at5 ?_ | refine Look.at6 ?_ | refine Look.at7 ?_ | refine Look.at8 ?_ | with_reducible refine Val.i64 (by omega) (by omega) ?_ | with_reducible refine Val.u8 (by omega) (by omega) ?_ | with_reducible refine Val.u32 (by omega) (by omega) ?_ | with_reducible refine Val.u64 (by omega) (by omega) ?_ | with_reducible refine Val.u8m ?_ | with_reducible refine Val.u32m ?_ | with_reducible refine Val.u64m ?_ | with_reducible refine Val.shr8 ?_ | with_reducible refine Val.shr16 (by decide) ?_ | with_reducible refine Val.shr24 (by decide) ?_ | with_reducible refine Val.raw ?_ | refine Branch.not ?_ | refine Branch.and ?_ | refine Branch.or ?_ | refine Branch.dt (by assumption) ?_ | refine Branch.df (by assumption) ?_ | refine Branch.dt rfl ?_ | refine Branch.dt (by omega) ?_ | refine Branch.df (by omega) ?_ | refine Branch.t rfl ?_ | refine Branch.f rfl ?_ | refine Branch.t (by assumption) ?_ | refine Branch.f (by assumption) ?_ | refine Branch.d (fun _ => ?_) (fun _ => ?_) | refine Branch.mk (fun _ => ?_) (fun _ => ?_) | refine Need.mk (by first | omega | decide | rfl) ?_ | refine Idx.nat (by omega) ?_ | refine Idx.auto (by first | omega | decide) (by first | omega | decide) ?_ | refine Cell.ro rfl ?_ | refine SDraw.all (by kernel_rfl) ?_ | refine Kept.k0 ?_ | refine Kept.k1 ?_ | refine Kept.k2 ?_ | refine Kept.k3 ?_ | refine Kept.k4 ?_))
theorem c46 (hK : K (.string (strOf [48])) H) : SCalls Tryd.prog 46 [.bool false] H K := by
  refine enter46 ?_
  repeat' ((conv => whnf); (first | exact Keep.all hK | refine New.mk (fun _ => ?_) | refine Look.at0 ?_ | refine Cell.row ?_ | refine Cell.buf ?_ | refine Cells.row rfl ?_ | refine Put.row rfl ?_ | refine Put.buf rfl ?_ | refine Look.at1 ?_ | refine Look.at2 ?_ | refine Look.at3 ?_ | refine Look.at4 ?_ | refine Look.at5 ?_ | refine Look.at6 ?_ | refine Look.at7 ?_ | refine Look.at8 ?_ | with_reducible refine Val.i64 (by omega) (by omega) ?_ | with_reducible refine Val.u8 (by omega) (by omega) ?_ | with_reducible refine Val.u32 (by omega) (by omega) ?_ | with_reducible refine Val.u64 (by omega) (by omega) ?_ | with_reducible refine Val.u8m ?_ | with_reducible refine Val.u32m ?_ | with_reducible refine Val.u64m ?_ | with_reducible refine Val.shr8 ?_ | with_reducible refine Val.shr16 (by decide) ?_ | with_reducible refine Val.shr24 (by decide) ?_ | with_reducible refine Val.raw ?_ | refine Branch.not ?_ | refine Branch.and ?_ | refine Branch.or ?_ | refine Branch.dt (by assumption) ?_ | refine Branch.df (by assumption) ?_ | refine Branch.dt rfl ?_ | refine Branch.dt (by omega) ?_ | refine Branch.df (by omega) ?_ | refine Branch.t rfl ?_ | refine Branch.f rfl ?_ | refine Branch.t (by assumption) ?_ | refine Branch.f (by assumption) ?_ | refine Branch.d (fun _ => ?_) (fun _ => ?_) | refine Branch.mk (fun _ => ?_) (fun _ => ?_) | refine Need.mk (by first | omega | decide | rfl) ?_ | refine Idx.nat (by omega) ?_ | refine Idx.auto (by first | omega | decide) (by first | omega | decide) ?_ | refine Cell.ro rfl ?_ | refine SDraw.all (by kernel_rfl) ?_ | refine Kept.k0 ?_ | refine Kept.k1 ?_ | refine Kept.k2 ?_ | refine Kept.k3 ?_ | refine Kept.k4 ?_))
theorem c51 {r w : Nat} {bs : List UInt8} {N : Heap} {n : Nat} (hD : Db H) (hN : Bld 105 r [] bs N) (hn : n < 2 ^ 64) (hl : bs.length + (numV n w).1.length ≤ 140737488355328) (hK : ∀ N', Bld 105 r [] (bs ++ (numV n w).1) N' → K (.tuple ⟨[]⟩) (N' ++ H)) :
    SCalls Tryd.prog 51 [ptr r, .int .u64 (n : Int), .int .i64 (w : Int)] (N ++ H) K := by
  refine enter51 ?_
  have h52 : ∀ K2 : Value → Heap → Prop, (∀ N', Bld 105 r [] (bs ++ (numV n w).1) N' → K2 (.tuple ⟨[.int .i64 ((numV n w).1.length : Int), .nilIface]⟩) (N' ++ H)) → SCalls Tryd.prog 52 [ptr r, .string (strOf (numV n w).1)] (N ++ H) K2 :=
    fun K2 hk => SCalls.midH [] H (c52 (pre := []) (T := 105) bt105 hN hl (fun N' h => hk N' h))
  have hD' : Db (N ++ H) := hD.mono fun p hp => List.mem_append_right _ hp
  clear hN hD
  repeat' ((conv => whnf); (first | refine c54 hD' hn ?_ | with_reducible refine h52 _ (fun N' hN' => ?_) | exact Keep.all (hK _ hN') | refine New.mk (fun _ => ?_) | refine Look.at0 ?_ | refine Cell.row ?_ | refine Cell.buf ?_ | refine Cells.row rfl ?_ | refine Put.row rfl ?_ | refine Put.buf rfl ?_ | refine Look.at1 ?_ | refine Look.at2 ?_ | refine Look.at3 ?_ | refine Look.at4 ?_ | refine Look.at5 ?_ | refine Look.at6 ?_ | refine Look.at7 ?_ | refine Look.at8 ?_ | with_reducible refine Val.i64 (by omega) (by omega) ?_ | with_reducible refine Val.u8 (by omega) (by omega) ?_ | with_reducible refine Val.u32 (by omega) (by omega) ?_ | with_reducible refine Val.u64 (by omega) (by omega) ?_ | with_reducible refine Val.u8m ?_ | with_reducible refine Val.u32m ?_ | with_reducible refine Val.u64m ?_ | with_reducible refine Val.shr8 ?_ | with_reducible refine Val.shr16 (by decide) ?_ | with_reducible refine Val.shr24 (by decide) ?_ | with_reducible refine Val.raw ?_ | refine Branch.not ?_ | refine Branch.and ?_ | refine Branch.or ?_ | refine Branch.dt (by assumption) ?_ | refine Branch.df (by assumption) ?_ | refine Branch.dt rfl ?_ | refine Branch.dt (by omega) ?_ | refine Branch.df (by omega) ?_ | refine Branch.t rfl ?_ | refine Branch.f rfl ?_ | refine Branch.t (by assumption) ?_ | refine Branch.f (by assumption) ?_ | refine Branch.d (fun _ => ?_) (fun _ => ?_) | refine Branch.mk (fun _ => ?_) (fun _ => ?_) | refine Need.mk (by first | omega | decide | rfl) ?_ | refine Idx.nat (by omega) ?_ | refine Idx.auto (by first | omega | decide) (by first | omega | decide) ?_ | refine Cell.ro rfl ?_ | refine SDraw.all (by kernel_rfl) ?_ | refine Kept.k0 ?_ | refine Kept.k1 ?_ | refine Kept.k2 ?_ | refine Kept.k3 ?_ | refine Kept.k4 ?_))
theorem num1 : (numV 1 1).1 = [49] := rfl
theorem num0 : (numV 0 1).1 = [48] := rfl
theorem c53 {r : Nat} {bs : List UInt8} {N : Heap} (hD : Db H) (hN : Bld 105 r [] bs N) (hl : bs.length ≤ 1000) (hK : ∀ N', Bld 105 r [] (bs ++ [48]) N' → K (.tuple ⟨[]⟩) (N' ++ H)) :
    SCalls Tryd.prog 53 [ptr r, .bool false] (N ++ H) K := by
  refine enter53 ?_
  have h51 : ∀ K2 : Value → Heap → Prop, (∀ N', Bld 105 r [] (bs ++ [48]) N' → K2 (.tuple ⟨[]⟩) (N' ++ H)) → SCalls Tryd.prog 51 [ptr r, .int .u64 0, .int .i64 1] (N ++ H) K2 :=
    fun K2 hk => c51 (K := K2) (w := 1) (n := 0) hD hN (by decide) (by show bs.length + 1 ≤ _; omega) hk
  clear hN hD
  repeat' ((conv => whnf); (first | with_reducible refine h51 _ (fun N' hN' => ?_) | exact Keep.all (hK _ hN') | refine New.mk (fun _ => ?_) | refine Look.at0 ?_ | refine Cell.row ?_ | refine Cell.buf ?_ | refine Cells.row rfl ?_ | refine Put.row rfl ?_ | refine Put.buf rfl ?_ | refine Look.at1 ?_ | refine Look.at2 ?_ | refine Look.at3 ?_ | refine Look.at4 ?_ | refine Look.at5 ?_ | refine Look.at6 ?_ | refine Look.at7 ?_ | refine Look.at8 ?_ | with_reducible refine Val.i64 (by omega) (by omega) ?_ | with_reducible refine Val.u8 (by omega) (by omega) ?_ | with_reducible refine Val.u32 (by omega) (by omega) ?_ | with_reducible refine Val.u64 (by omega) (by omega) ?_ | with_reducible refine Val.u8m ?_ | with_reducible refine Val.u32m ?_ | with_reducible refine Val.u64m ?_ | with_reducible refine Val.shr8 ?_ | with_reducible refine Val.shr16 (by decide) ?_ | with_reducible refine Val.shr24 (by decide) ?_ | with_reducible refine Val.raw ?_ | refine Branch.not ?_ | refine Branch.and ?_ | refine Branch.or ?_ | refine Branch.dt (by assumption) ?_ | refine Branch.df (by assumption) ?_ | refine Branch.dt rfl ?_ | refine Branch.dt (by omega) ?_ | refine Branch.df (by omega) ?_ | refine Branch.t rfl ?_ | refine Branch.f rfl ?_ | refine Branch.t (by assumption) ?_ | refine Branch.f (by assumption) ?_ | refine Branch.d (fun _ => ?_) (fun _ => ?_) | refine Branch.mk (fun _ => ?_) (fun _ => ?_) | refine Need.mk (by first | omega | decide | rfl) ?_ | refine Idx.nat (by omega) ?_ | refine Idx.auto (by first | omega | decide) (by first | omega | decide) ?_ | refine Cell.ro rfl ?_ | refine SDraw.all (by kernel_rfl) ?_ | refine Kept.k0 ?_ | refine Kept.k1 ?_ | refine Kept.k2 ?_ | refine Kept.k3 ?_ | refine Kept.k4 ?_))
theorem c48 {r : Nat} {N : Heap} (hid : okF id x n = true) (hD : Db H) (hN : Bld 105 r [] [] N) (hK : ∀ N', Bld 105 r [] (fldB id x) N' → K (.tuple ⟨[]⟩) (N' ++ H)) :
    SCalls Tryd.prog 48 [ptr r, frC id x n] (N ++ H) K := by
  refine enter48 ?_
  have h18 : shrI .u32 (id : Int) 18 = ((id / 2 ^ 18 : Nat) : Int) := shr_nat (k := .u32) (n := 18) (by decide)
  unfold okF at hid
  have big : (2 : Nat) ^ 64 = 18446744073709551616 := rfl
  cases x with
  | true =>
    simp only [Bool.and_eq_true, decide_eq_true_eq, if_true] at hid
    have hand : bitAnd .u32 (id : Int) 262143 = ((id % 2 ^ 18 : Nat) : Int) := bitMask_nat (k := .u32) rfl (a := id) (n := 18) (by show id < 4294967296; omega) (by decide)
    have n1 : (numV (id / 2 ^ 18) (11 : Nat)).1 = numB 11 (id / 2 ^ 18) := by
      unfold numV
      rw [if_pos ⟨by decide, by decide, by show id / 2 ^ 18 < 2 ^ 11; omega⟩]; rfl
    have n2 : (numV (id % 2 ^ 18) (18 : Nat)).1 = numB 18 (id % 2 ^ 18) := by
      unfold numV
      rw [if_pos ⟨by decide, by decide, by show id % 2 ^ 18 < 2 ^ 18; omega⟩]; rfl
    have h1 : ∀ q (K2 : Value → Heap → Prop), (∀ N', Bld 105 r [] (numB 11 (id / 2 ^ 18)) N' → K2 (.tuple ⟨[]⟩) (q :: (N' ++ H))) → SCalls Tryd.prog 51 [ptr r, .int .u64 ((id / 2 ^ 18 : Nat) : Int), .int .i64 11] (q :: (N ++ H)) K2 := by
      intro q K2 hk
      exact SCalls.under [q] (c51 (w := 11) (n := id / 2 ^ 18) hD hN (by omega) (by rw [n1, numB_len]; decide) (by rw [n1]; exact hk))
    have h2 : ∀ q N1 (K2 : Value → Heap → Prop), Bld 105 r [] (numB 11 (id / 2 ^ 18)) N1 → (∀ N', Bld 105 r [] (numB 11 (id / 2 ^ 18) ++ [49, 49]) N' → K2 (.tuple ⟨[.int .i64 2, .nilIface]⟩) (q :: (N' ++ H))) → SCalls Tryd.prog 52 [ptr r, .string ⟨#[49, 49]⟩] (q :: (N1 ++ H)) K2 :=
      fun q N1 K2 hb hk => SCalls.midH [q] H (c52 (pre := []) (T := 105) (l := [49, 49]) bt105 hb (by rw [numB_len]; decide) (fun N' h => hk N' h))
    have h3 : ∀ q N1 (K2 : Value → Heap → Prop), Bld 105 r [] (numB 11 (id / 2 ^ 18) ++ [49, 49]) N1 → (∀ N', Bld 105 r [] (numB 11 (id / 2 ^ 18) ++ [49, 49] ++ numB 18 (id % 2 ^ 18)) N' → K2 (.tuple ⟨[]⟩) (q :: (N' ++ H))) → SCalls Tryd.prog 51 [ptr r, .int .u64 ((id % 2 ^ 18 : Nat) : Int), .int .i64 18] (q :: (N1 ++ H)) K2 := by
      intro q N1 K2 hb hk
      exact SCalls.under [q] (c51 (w := 18) (n := id % 2 ^ 18) hD hb (by omega) (by rw [n2, List.length_append, numB_len, numB_len]; decide) (by rw [n2]; exact hk))
    have h4 : ∀ q N1 (K2 : Value → Heap → Prop), Bld 105 r [] (numB 11 (id / 2 ^ 18) ++ [49, 49] ++ numB 18 (id % 2 ^ 18)) N1 → (∀ N', Bld 105 r [] (numB 11 (id / 2 ^ 18) ++ [49, 49] ++ numB 18 (id % 2 ^ 18) ++ [48]) N' → K2 (.tuple ⟨[]⟩) (q :: (N' ++ H))) → SCalls Tryd.prog 53 [ptr r, .bool false] (q :: (N1 ++ H)) K2 :=
      fun q N1 K2 hb hk => SCalls.under [q] (c53 hD hb (by rw [List.length_append, List.length_append, numB_len, numB_len]; decide) hk)
    have hk : ∀ q N', Bld 105 r [] (numB 11 (id / 2 ^ 18) ++ [49, 49] ++ numB 18 (id % 2 ^ 18) ++ [48]) N' → Keep (q :: (N' ++ H)) fun H' => K (.tuple ⟨[]⟩) H' := fun q N' h => Keep.d1 (hK N' h)
    have hw1 : id / 2 ^ 18 < 18446744073709551616 := by omega
    have hw2 : id % 2 ^ 18 < 18446744073709551616 := by omega
    clear hN hK
    repeat' ((conv => whnf); (first | with_reducible refine Val.to _ h18 ?_ | with_reducible refine Val.to _ hand ?_ | with_reducible refine h1 _ _ (fun N1 hb1 => ?_) | with_reducible refine h2 _ _ _ hb1 (fun N2 hb2 => ?_) | with_reducible refine h3 _ _ _ hb2 (fun N3 hb3 => ?_) | with_reducible refine h4 _ _ _ hb3 (fun N4 hb4 => ?_) | exact hk _ _ hb4 | refine New.mk (fun _ => ?_) | refine Look.at0 ?_ | refine Cell.row ?_ | refine Cell.buf ?_ | refine Cells.row rfl ?_ | refine Put.row rfl ?_ | refine Put.buf rfl ?_ | refine Look.at1 ?_ | refine Look.at2 ?_ | refine Look.at3 ?_ | refine Look.at4 ?_ | refine Look.at5 ?_ | refine Look.at6 ?_ | refine Look.at7 ?_ | refine Look.at8 ?_ | with_reducible refine Val.i64 (by omega) (by omega) ?_ | with_reducible refine Val.u8 (by omega) (by omega) ?_ | with_reducible refine Val.u32 (by omega) (by omega) ?_ | with_reducible refine Val.u64 (by omega) (by omega) ?_ | with_reducible refine Val.u8m ?_ | with_reducible refine Val.u32m ?_ | with_reducible refine Val.u64m ?_ | with_reducible refine Val.shr8 ?_ | with_reducible refine Val.shr16 (by decide) ?_ | with_reducible refine Val.shr24 (by decide) ?_ | with_reducible refine Val.raw ?_ | refine Branch.not ?_ | refine Branch.and ?_ | refine Branch.or ?_ | refine Branch.dt (by assumption) ?_ | refine Branch.df (by assumption) ?_ | refine Branch.dt rfl ?_ | refine Branch.dt (by omega) ?_ | refine Branch.df (by omega) ?_ | refine Branch.t rfl ?_ | refine Branch.f rfl ?_ | refine Branch.t (by assumption) ?_ | refine Branch.f (by assumption) ?_ | refine Branch.d (fun _ => ?_) (fun _ => ?_) | refine Branch.mk (fun _ => ?_) (fun _ => ?_) | refine Need.mk (by first | omega | decide | rfl) ?_ | refine Idx.nat (by omega) ?_ | refine Idx.auto (by first | omega | decide) (by first | omega | decide) ?_ | refine Cell.ro rfl ?_ | refine SDraw.all (by kernel_rfl) ?_ | refine Kept.k0 ?_ | refine Kept.k1 ?_ | refine Kept.k2 ?_ | refine Kept.k3 ?_ | refine Kept.k4 ?_))
  | false =>
    simp only [Bool.and_eq_true, decide_eq_true_eq, Bool.false_eq_true, if_false] at hid
    have n1 : (numV id (11 : Nat)).1 = numB 11 id := by
      unfold numV
      rw [if_pos ⟨by decide, by decide, by show id < 2 ^ 11; omega⟩]; rfl
    have h1 : ∀ q (K2 : Value → Heap → Prop), (∀ N', Bld 105 r [] (numB 11 id) N' → K2 (.tuple ⟨[]⟩) (q :: (N' ++ H))) → SCalls Tryd.prog 51 [ptr r, .int .u64 (id : Int), .int .i64 11] (q :: (N ++ H)) K2 := by
      intro q K2 hk
      exact SCalls.under [q] (c51 (w := 11) (n := id) hD hN (by omega) (by rw [n1, numB_len]; decide) (by rw [n1]; exact hk))
    have h2 : ∀ q N1 (K2 : Value → Heap → Prop), Bld 105 r [] (numB 11 id) N1 → (∀ N', Bld 105 r [] (numB 11 id ++ [48]) N' → K2 (.tuple ⟨[]⟩) (q :: (N' ++ H))) → SCalls Tryd.prog 53 [ptr r, .bool false] (q :: (N1 ++ H)) K2 :=
      fun q N1 K2 hb hk => SCalls.under [q] (c53 hD hb (by rw [numB_len]; decide) hk)
    have h3 : ∀ q N1 (K2 : Value → Heap → Prop), Bld 105 r [] (numB 11 id ++ [48]) N1 → (∀ N', Bld 105 r [] (numB 11 id ++ [48] ++ [48]) N' → K2 (.tuple ⟨[]⟩) (q :: (N' ++ H))) → SCalls Tryd.prog 53 [ptr r, .bool false] (q :: (N1 ++ H)) K2 :=
      fun q N1 K2 hb hk => SCalls.under [q] (c53 hD hb (by rw [List.length_append, numB_len]; decide) hk)
    have hk : ∀ q N', Bld 105 r [] (numB 11 id ++ [48] ++ [48]) N' → Keep (q :: (N' ++ H)) fun H' => K (.tuple ⟨[]⟩) H' := fun q N' h => Keep.d1 (hK N' h)
    clear hN hK
    repeat' ((conv => whnf); (first | with_reducible refine h1 _ _ (fun N1 hb1 => ?_) | with_reducible refine h2 _ _ _ hb1 (fun N2 hb2 => ?_) | with_reducible refine h3 _ _ _ hb2 (fun N3 hb3 => ?_) | exact hk _ _ hb3 | refine New.mk (fun _ => ?_) | refine Look.at0 ?_ | refine Cell.row ?_ | refine Cell.buf ?_ | refine Cells.row rfl ?_ | refine Put.row rfl ?_ | refine Put.buf rfl ?_ | refine Look.at1 ?_ | refine Look.at2 ?_ | refine Look.at3 ?_ | refine Look.at4 ?_ | refine Look.at5 ?_ | refine Look.at6 ?_ | refine Look.at7 ?_ | refine Look.at8 ?_ | with_reducible refine Val.i64 (by omega) (by omega) ?_ | with_reducible refine Val.u8 (by omega) (by omega) ?_ | with_reducible refine Val.u32 (by omega) (by omega) ?_ | with_reducible refine Val.u64 (by omega) (by omega) ?_ | with_reducible refine Val.u8m ?_ | with_reducible refine Val.u32m ?_ | with_reducible refine Val.u64m ?_ | with_reducible refine Val.shr8 ?_ | with_reducible refine Val.shr16 (by decide) ?_ | with_reducible refine Val.shr24 (by decide) ?_ | with_reducible refine Val.raw ?_ | refine Branch.not ?_ | refine Branch.and ?_ | refine Branch.or ?_ | refine Branch.dt (by assumption) ?_ | refine Branch.df (by assumption) ?_ | refine Branch.dt rfl ?_ | refine Branch.dt (by omega) ?_ | refine Branch.df (by omega) ?_ | refine Branch.t rfl ?_ | refine Branch.f rfl ?_ | refine Branch.t (by assumption) ?_ | refine Branch.f (by assumption) ?_ | refine Branch.d (fun _ => ?_) (fun _ => ?_) | refine Branch.mk (fun _ => ?_) (fun _ => ?_) | refine Need.mk (by first | omega | decide | rfl) ?_ | refine Idx.nat (by omega) ?_ | refine Idx.auto (by first | omega | decide) (by first | omega | decide) ?_ | refine Cell.ro rfl ?_ | refine SDraw.all (by kernel_rfl) ?_ | refine Kept.k0 ?_ | refine Kept.k1 ?_ | refine Kept.k2 ?_ | refine Kept.k3 ?_ | refine Kept.k4 ?_))
theorem c43 (hid : okF id x n = true) (hD : Db H) (hK : K (.string (strOf (fldB id x))) H) : SCalls Tryd.prog 43 [frC id x n] H K := by
  refine enter43 ?_
  have h48 : ∀ r q (K2 : Value → Heap → Prop), (∀ N', Bld 105 r [] (fldB id x) N' → K2 (.tuple ⟨[]⟩) (N' ++ q :: H)) → SCalls Tryd.prog 48 [ptr r, frC id x n] ((r, .row 105 [.pointer none, .slice none 0 0] (0, 0)) :: q :: H) K2 :=
    fun r q K2 hk => c48 (H := q :: H) (N := [(r, .row 105 [.pointer none, .slice none 0 0] (0, 0))]) hid (hD.mono fun p hp => .tail _ hp) (Bld.new (T := 105) (r := r) (pre := [])) hk
  have h49 : ∀ r q N1 (K2 : Value → Heap → Prop), Bld 105 r [] (fldB id x) N1 → (∀ N', K2 (.string (strOf (fldB id x))) (N' ++ q :: H)) → SCalls Tryd.prog 49 [ptr r] (N1 ++ q :: H) K2 :=
    fun r q N1 K2 hb hk => SCalls.midH [] (q :: H) (c49 (pre := []) (T := 105) hb (fun N' _ => hk N'))
  have hk : ∀ (N' : Heap) q, Keep (N' ++ q :: H) fun H' => K (.string (strOf (fldB id x))) H' := fun N' q => Keep.sub _ ((List.sublist_cons_self q H).trans (List.sublist_append_right N' (q :: H))) hK
  clear hK
  repeat' ((conv => whnf); (first | with_reducible refine h48 _ _ _ (fun N1 hb1 => ?_) | with_reducible refine h49 _ _ _ _ hb1 (fun N2 => ?_) | exact hk _ _ | refine New.mk (fun _ => ?_) | refine Look.at0 ?_ | refine Cell.row ?_ | refine Cell.buf ?_ | refine Cells.row rfl ?_ | refine Put.row rfl ?_ | refine Put.buf rfl ?_ | refine Look.at1 ?_ | refine Look.at2 ?_ | refine Look.at3 ?_ | refine Look.at4 ?_ | refine Look.at5 ?_ | refine Look.at6 ?_ | refine Look.at7 ?_ | refine Look.at8 ?_ | with_reducible refine Val.i64 (by omega) (by omega) ?_ | with_reducible refine Val.u8 (by omega) (by omega) ?_ | with_reducible refine Val.u32 (by omega) (by omega) ?_ | with_reducible refine Val.u64 (by omega) (by omega) ?_ | with_reducible refine Val.u8m ?_ | with_reducible refine Val.u32m ?_ | with_reducible refine Val.u64m ?_ | with_reducible refine Val.shr8 ?_ | with_reducible refine Val.shr16 (by decide) ?_ | with_reducible refine Val.shr24 (by decide) ?_ | with_reducible refine Val.raw ?_ | refine Branch.not ?_ | refine Branch.and ?_ | refine Branch.or ?_ | refine Branch.dt (by assumption) ?_ | refine Branch.df (by assumption) ?_ | refine Branch.dt rfl ?_ | refine Branch.dt (by omega) ?_ | refine Branch.df (by omega) ?_ | refine Branch.t rfl ?_ | refine Branch.f rfl ?_ | refine Branch.t (by assumption) ?_ | refine Branch.f (by assumption) ?_ | refine Branch.d (fun _ => ?_) (fun _ => ?_) | refine Branch.mk (fun _ => ?_) (fun _ => ?_) | refine Need.mk (by first | omega | decide | rfl) ?_ | refine Idx.nat (by omega) ?_ | refine Idx.auto (by first | omega | decide) (by first | omega | decide) ?_ | refine Cell.ro rfl ?_ | refine SDraw.all (by kernel_rfl) ?_ | refine Kept.k0 ?_ | refine Kept.k1 ?_ | refine Kept.k2 ?_ | refine Kept.k3 ?_ | refine Kept.k4 ?_))
theorem c34 (hid : id < 4294967296) (hD : Db H) (hK : K (.tuple ⟨[.string (strOf (fV id x n).1), .int .i64 (fV id x n).2]⟩) H) : SCalls Tryd.prog 34 [frC id x n] H K := by
  refine enter34 ?_
  unfold fV at hK
  have hD' : ∀ q : Nat × Blk, Db (q :: H) := fun q => hD.mono fun p hp => .tail _ hp
  cases hg : okF id x n with
  | true =>
    rw [hg] at hK
    have h42 := fun H (K2 : Value → Heap → Prop) (hk : K2 (.int .i64 (if okF id x n then 0 else 1)) H) => c42 (H := H) (K := K2) hid hk
    rw [hg] at h42
    repeat' ((conv => whnf); (first | refine h42 _ _ ?_ | refine Branch.f rfl ?_ | refine c43 hg (hD' _) ?_ | exact Keep.d1 hK | refine New.mk (fun _ => ?_) | refine Look.at0 ?_ | refine Cell.row ?_ | refine Cell.buf ?_ | refine Cells.row rfl ?_ | refine Put.row rfl ?_ | refine Put.buf rfl ?_ | refine Look.at1 ?_ | refine Look.at2 ?_ | refine Look.at3 ?_ | refine Look.at4 ?_ | refine Look.at5 ?_ | refine Look.at6 ?_ | refine Look.at7 ?_ | refine Look.at8 ?_ | with_reducible refine Val.i64 (by omega) (by omega) ?_ | with_reducible refine Val.u8 (by omega) (by omega) ?_ | with_reducible refine Val.u32 (by omega) (by omega) ?_ | with_reducible refine Val.u64 (by omega) (by omega) ?_ | with_reducible refine Val.u8m ?_ | with_reducible refine Val.u32m ?_ | with_reducible refine Val.u64m ?_ | with_reducible refine Val.shr8 ?_ | with_reducible refine Val.shr16 (by decide) ?_ | with_reducible refine Val.shr24 (by decide) ?_ | with_reducible refine Val.raw ?_ | refine Branch.not ?_ | refine Branch.and ?_ | refine Branch.or ?_ | refine Branch.dt (by assumption) ?_ | refine Branch.df (by assumption) ?_ | refine Branch.dt rfl ?_ | refine Branch.dt (by omega) ?_ | refine Branch.df (by omega) ?_ | refine Branch.t rfl ?_ | refine Branch.f rfl ?_ | refine Branch.t (by assumption) ?_ | refine Branch.f (by assumption) ?_ | refine Branch.d (fun _ => ?_) (fun _ => ?_) | refine Branch.mk (fun _ => ?_) (fun _ => ?_) | refine Need.mk (by first | omega | decide | rfl) ?_ | refine Idx.nat (by omega) ?_ | refine Idx.auto (by first | omega | decide) (by first | omega | decide) ?_ | refine Cell.ro rfl ?_ | refine SDraw.all (by kernel_rfl) ?_ | refine Kept.k0 ?_ | refine Kept.k1 ?_ | refine Kept.k2 ?_ | refine Kept.k3 ?_ | refine Kept.k4 ?_))
  | false =>
    rw [hg] at hK
    have h42 := fun H (K2 : Value → Heap → Prop) (hk : K2 (.int .i64 (if okF id x n then 0 else 1)) H) => c42 (H := H) (K := K2) hid hk
    rw [hg] at h42
    repeat' ((conv => whnf); (first | refine h42 _ _ ?_ | refine Branch.t rfl ?_ | exact Keep.d1 hK | refine New.mk (fun _ => ?_) | refine Look.at0 ?_ | refine Cell.row ?_ | refine Cell.buf ?_ | refine Cells.row rfl ?_ | refine Put.row rfl ?_ | refine Put.buf rfl ?_ | refine Look.at1 ?_ | refine Look.at2 ?_ | refine Look.at3 ?_ | refine Look.at4 ?_ | refine Look.at5 ?_ | refine Look.at6 ?_ | refine Look.at7 ?_ | refine Look.at8 ?_ | with_reducible refine Val.i64 (by omega) (by omega) ?_ | with_reducible refine Val.u8 (by omega) (by omega) ?_ | with_reducible refine Val.u32 (by omega) (by omega) ?_ | with_reducible refine Val.u64 (by omega) (by omega) ?_ | with_reducible refine Val.u8m ?_ | with_reducible refine Val.u32m ?_ | with_reducible refine Val.u64m ?_ | with_reducible refine Val.shr8 ?_ | with_reducible refine Val.shr16 (by decide) ?_ | with_reducible refine Val.shr24 (by decide) ?_ | with_reducible refine Val.raw ?_ | refine Branch.not ?_ | refine Branch.and ?_ | refine Branch.or ?_ | refine Branch.dt (by assumption) ?_ | refine Branch.df (by assumption) ?_ | refine Branch.dt rfl ?_ | refine Branch.dt (by omega) ?_ | refine Branch.df (by omega) ?_ | refine Branch.t rfl ?_ | refine Branch.f rfl ?_ | refine Branch.t (by assumption) ?_ | refine Branch.f (by assumption) ?_ | refine Branch.d (fun _ => ?_) (fun _ => ?_) | refine Branch.mk (fun _ => ?_) (fun _ => ?_) | refine Need.mk (by first | omega | decide | rfl) ?_ | refine Idx.nat (by omega) ?_ | refine Idx.auto (by first | omega | decide) (by first | omega | decide) ?_ | refine Cell.ro rfl ?_ | refine SDraw.all (by kernel_rfl) ?_ | refine Kept.k0 ?_ | refine Kept.k1 ?_ | refine Kept.k2 ?_ | refine Kept.k3 ?_ | refine Kept.k4 ?_))
theorem c28 (hid : id < 4294967296) (hD : Db H) (hK : K (.string (strOf (fV id x n).1)) H) : SCalls Tryd.prog 28 [mgC id x n p j] H K := by
  refine enter28 ?_
  have hD' : ∀ q : Nat × Blk, Db (q :: H) := fun q => hD.mono fun p hp => .tail _ hp
  repeat' ((conv => whnf); (first | refine c35 ?_ | refine c34 hid (hD' _) ?_ | exact Keep.d1 hK | refine New.mk (fun _ => ?_) | refine Look.at0 ?_ | refine Cell.row ?_ | refine Cell.buf ?_ | refine Cells.row rfl ?_ | refine Put.row rfl ?_ | refine Put.buf rfl ?_ | refine Look.at1 ?_ | refine Look.at2 ?_ | refine Look.at3 ?_ | refine Look.at4 ?_ | refine Look.at5 ?_ | refine Look.at6 ?_ | refine Look.at7 ?_ | refine Look.at8 ?_ | with_reducible refine Val.i64 (by omega) (by omega) ?_ | with_reducible refine Val.u8 (by omega) (by omega) ?_ | with_reducible refine Val.u32 (by omega) (by omega) ?_ | with_reducible refine Val.u64 (by omega) (by omega) ?_ | with_reducible refine Val.u8m ?_ | with_reducible refine Val.u32m ?_ | with_reducible refine Val.u64m ?_ | with_reducible refine Val.shr8 ?_ | with_reducible refine Val.shr16 (by decide) ?_ | with_reducible refine Val.shr24 (by decide) ?_ | with_reducible refine Val.raw ?_ | refine Branch.not ?_ | refine Branch.and ?_ | refine Branch.or ?_ | refine Branch.dt (by assumption) ?_ | refine Branch.df (by assumption) ?_ | refine Branch.dt rfl ?_ | refine Branch.dt (by omega) ?_ | refine Branch.df (by omega) ?_ | refine Branch.t rfl ?_ | refine Branch.f rfl ?_ | refine Branch.t (by assumption) ?_ | refine Branch.f (by assumption) ?_ | refine Branch.d (fun _ => ?_) (fun _ => ?_) | refine Branch.mk (fun _ => ?_) (fun _ => ?_) | refine Need.mk (by first | omega | decide | rfl) ?_ | refine Idx.nat (by omega) ?_ | refine Idx.auto (by first | omega | decide) (by first | omega | decide) ?_ | refine Cell.ro rfl ?_ | refine SDraw.all (by kernel_rfl) ?_ | refine Kept.k0 ?_ | refine Kept.k1 ?_ | refine Kept.k2 ?_ | refine Kept.k3 ?_ | refine Kept.k4 ?_))
theorem c38 (hid : okF id x n = true) (hK : K (.string (strOf (fldB id x))) H) : SCalls Tryd.prog 38 [frC id x n] H K := by
  refine enter38 ?_
  have h18 : shrI .u32 (id : Int) 18 = ((id / 2 ^ 18 : Nat) : Int) := shr_nat (k := .u32) (n := 18) (by decide)
  unfold okF at hid
  have hf : ∀ s : ByteArray, s = strOf (fldB id x) → ∀ q, Keep ((q : Nat × Blk) :: H) fun H' => K (.string s) H' := fun s e q => by rw [e]; exact Keep.d1 hK
  cases x with
  | true =>
    simp only [Bool.and_eq_true, decide_eq_true_eq, if_true] at hid
    have hand : bitAnd .u32 (id : Int) 262143 = ((id % 2 ^ 18 : Nat) : Int) := bitMask_nat (k := .u32) rfl (a := id) (n := 18) (by show id < 4294967296; omega) (by decide)
    have n1 : (numV (id / 2 ^ 18) 11).1 = numB 11 (id / 2 ^ 18) := by
      unfold numV
      rw [if_pos ⟨by decide, by decide, by show id / 2 ^ 18 < 2 ^ 11; omega⟩]; rfl
    have n2 : (numV (id % 2 ^ 18) 18).1 = numB 18 (id % 2 ^ 18) := by
      unfold numV
      rw [if_pos ⟨by decide, by decide, by show id % 2 ^ 18 < 2 ^ 18; omega⟩]; rfl
    have h1 : ∀ H (K2 : Value → Heap → Prop), K2 (.string (strOf (numB 11 (id / 2 ^ 18)))) H → SCalls Tryd.prog 45 [.int .u64 ((id / 2 ^ 18 : Nat) : Int), .int .i64 11] H K2 := fun H K2 hk => c45 (by omega) (by rw [n1]; exact hk)
    have h2 : ∀ H (K2 : Value → Heap → Prop), K2 (.string (strOf (numB 18 (id % 2 ^ 18)))) H → SCalls Tryd.prog 45 [.int .u64 ((id % 2 ^ 18 : Nat) : Int), .int .i64 18] H K2 := fun H K2 hk => c45 (by omega) (by rw [n2]; exact hk)
    have hw1 : id / 2 ^ 18 < 18446744073709551616 := by omega
    have hw2 : id % 2 ^ 18 < 18446744073709551616 := by omega
    have hz : strOf (numB 11 (id / 2 ^ 18)) ++ ⟨#[49, 49]⟩ ++ strOf (numB 18 (id % 2 ^ 18)) ++ strOf [48] = strOf (fldB id true) := by
      have : strOf (numB 11 (id / 2 ^ 18)) ++ strOf [49, 49] ++ strOf (numB 18 (id % 2 ^ 18)) ++ strOf [48] = strOf (fldB id true) := by rw [strOf_app, strOf_app, strOf_app]; rfl
      exact this
    have s1 : ∀ w n, (strOf (numB w n)).size = w := fun w n => by rw [strOf_size, numB_len]
    repeat' ((conv => whnf); (first | with_reducible refine Val.to _ h18 ?_ | with_reducible refine Val.to _ hand ?_ | with_reducible refine h1 _ _ ?_ | with_reducible refine h2 _ _ ?_ | refine c46 ?_ | refine Need.mk (by simp only [ByteArray.size_append, strOf_size, numB_len, List.length_cons, List.length_nil]; decide) ?_ | exact hf _ hz _ | refine New.mk (fun _ => ?_) | refine Look.at0 ?_ | refine Cell.row ?_ | refine Cell.buf ?_ | refine Cells.row rfl ?_ | refine Put.row rfl ?_ | refine Put.buf rfl ?_ | refine Look.at1 ?_ | refine Look.at2 ?_ | refine Look.at3 ?_ | refine Look.at4 ?_ | refine Look.at5 ?_ | refine Look.at6 ?_ | refine Look.at7 ?_ | refine Look.at8 ?_ | with_reducible refine Val.i64 (by omega) (by omega) ?_ | with_reducible refine Val.u8 (by omega) (by omega) ?_ | with_reducible refine Val.u32 (by omega) (by omega) ?_ | with_reducible refine Val.u64 (by omega) (by omega) ?_ | with_reducible refine Val.u8m ?_ | with_reducible refine Val.u32m ?_ | with_reducible refine Val.u64m ?_ | with_reducible refine Val.shr8 ?_ | with_reducible refine Val.shr16 (by decide) ?_ | with_reducible refine Val.shr24 (by decide) ?_ | with_reducible refine Val.raw ?_ | refine Branch.not ?_ | refine Branch.and ?_ | refine Branch.or ?_ | refine Branch.dt (by assumption) ?_ | refine Branch.df (by assumption) ?_ | refine Branch.dt rfl ?_ | refine Branch.dt (by omega) ?_ | refine Branch.df (by omega) ?_ | refine Branch.t rfl ?_ | refine Branch.f rfl ?_ | refine Branch.t (by assumption) ?_ | refine Branch.f (by assumption) ?_ | refine Branch.d (fun _ => ?_) (fun _ => ?_) | refine Branch.mk (fun _ => ?_) (fun _ => ?_) | refine Need.mk (by first | omega | decide | rfl) ?_ | refine Idx.nat (by omega) ?_ | refine Idx.auto (by first | omega | decide) (by first | omega | decide) ?_ | refine Cell.ro rfl ?_ | refine SDraw.all (by kernel_rfl) ?_ | refine Kept.k0 ?_ | refine Kept.k1 ?_ | refine Kept.k2 ?_ | refine Kept.k3 ?_ | refine Kept.k4 ?_))
  | false =>
    simp only [Bool.and_eq_true, decide_eq_true_eq, Bool.false_eq_true, if_false] at hid
    have n1 : (numV id 11).1 = numB 11 id := by
      unfold numV
      rw [if_pos ⟨by decide, by decide, by show id < 2 ^ 11; omega⟩]; rfl
    have h1 : ∀ H (K2 : Value → Heap → Prop), K2 (.string (strOf (numB 11 id))) H → SCalls Tryd.prog 45 [.int .u64 (id : Int), .int .i64 11] H K2 := fun H K2 hk => c45 (by omega) (by rw [n1]; exact hk)
    have hz : strOf (numB 11 id) ++ strOf [48] ++ ⟨#[48]⟩ = strOf (fldB id false) := by
      have : strOf (numB 11 id) ++ strOf [48] ++ strOf [48] = strOf (fldB id false) := by rw [strOf_app, strOf_app]; rfl
      exact this
    have s1 : ∀ w n, (strOf (numB w n)).size = w := fun w n => by rw [strOf_size, numB_len]
    repeat' ((conv => whnf); (first | with_reducible refine h1 _ _ ?_ | refine c46 ?_ | refine Need.mk (by simp only [ByteArray.size_append, strOf_size, numB_len, List.length_cons, List.length_nil]; decide) ?_ | exact hf _ hz _ | refine New.mk (fun _ => ?_) | refine Look.at0 ?_ | refine Cell.row ?_ | refine Cell.buf ?_ | refine Cells.row rfl ?_ | refine Put.row rfl ?_ | refine Put.buf rfl ?_ | refine Look.at1 ?_ | refine Look.at2 ?_ | refine Look.at3 ?_ | refine Look.at4 ?_ | refine Look.at5 ?_ | refine Look.at6 ?_ | refine Look.at7 ?_ | refine Look.at8 ?_ | with_reducible refine Val.i64 (by omega) (by omega) ?_ | with_reducible refine Val.u8 (by omega) (by omega) ?_ | with_reducible refine Val.u32 (by omega) (by omega) ?_ | with_reducible refine Val.u64 (by omega) (by omega) ?_ | with_reducible refine Val.u8m ?_ | with_reducible refine Val.u32m ?_ | with_reducible refine Val.u64m ?_ | with_reducible refine Val.shr8 ?_ | with_reducible refine Val.shr16 (by decide) ?_ | with_reducible refine Val.shr24 (by decide) ?_ | with_reducible refine Val.raw ?_ | refine Branch.not ?_ | refine Branch.and ?_ | refine Branch.or ?_ | refine Branch.dt (by assumption) ?_ | refine Branch.df (by assumption) ?_ | refine Branch.dt rfl ?_ | refine Branch.dt (by omega) ?_ | refine Branch.df (by omega) ?_ | refine Branch.t rfl ?_ | refine Branch.f rfl ?_ | refine Branch.t (by assumption) ?_ | refine Branch.f (by assumption) ?_ | refine Branch.d (fun _ => ?_) (fun _ => ?_) | refine Branch.mk (fun _ => ?_) (fun _ => ?_) | refine Need.mk (by first | omega | decide | rfl) ?_ | refine Idx.nat (by omega) ?_ | refine Idx.auto (by first | omega | decide) (by first | omega | decide) ?_ | refine Cell.ro rfl ?_ | refine SDraw.all (by kernel_rfl) ?_ | refine Kept.k0 ?_ | refine Kept.k1 ?_ | refine Kept.k2 ?_ | refine Kept.k3 ?_ | refine Kept.k4 ?_))
theorem c25 (hK : K (.tuple ⟨[.string (strOf (fV id x n).1), .int .i64 (fV id x n).2]⟩) H) : SCalls Tryd.prog 25 [frC id x n] H K := by
  refine enter25 ?_
  unfold fV at hK
  cases hg : okF id x n with
  | true =>
    rw [hg] at hK
    have h42 := fun H (K2 : Value → Heap → Prop) (hk : K2 (.int .i64 (if okF id x n then 0 else 1)) H) => c32 (H := H) (K := K2) hk
    rw [hg] at h42
    repeat' ((conv => whnf); (first | refine h42 _ _ ?_ | refine Branch.f rfl ?_ | refine c38 hg ?_ | exact Keep.d1 hK | refine New.mk (fun _ => ?_) | refine Look.at0 ?_ | refine Cell.row ?_ | refine Cell.buf ?_ | refine Cells.row rfl ?_ | refine Put.row rfl ?_ | refine Put.buf rfl ?_ | refine Look.at1 ?_ | refine Look.at2 ?_ | refine Look.at3 ?_ | refine Look.at4 ?_ | refine Look.at5 ?_ | refine Look.at6 ?_ | refine Look.at7 ?_ | refine Look.at8 ?_ | with_reducible refine Val.i64 (by omega) (by omega) ?_ | with_reducible refine Val.u8 (by omega) (by omega) ?_ | with_reducible refine Val.u32 (by omega) (by omega) ?_ | with_reducible refine Val.u64 (by omega) (by omega) ?_ | with_reducible refine Val.u8m ?_ | with_reducible refine Val.u32m ?_ | with_reducible refine Val.u64m ?_ | with_reducible refine Val.shr8 ?_ | with_reducible refine Val.shr16 (by decide) ?_ | with_reducible refine Val.shr24 (by decide) ?_ | with_reducible refine Val.raw ?_ | refine Branch.not ?_ | refine Branch.and ?_ | refine Branch.or ?_ | refine Branch.dt (by assumption) ?_ | refine Branch.df (by assumption) ?_ | refine Branch.dt rfl ?_ | refine Branch.dt (by omega) ?_ | refine Branch.df (by omega) ?_ | refine Branch.t rfl ?_ | refine Branch.f rfl ?_ | refine Branch.t (by assumption) ?_ | refine Branch.f (by assumption) ?_ | refine Branch.d (fun _ => ?_) (fun _ => ?_) | refine Branch.mk (fun _ => ?_) (fun _ => ?_) | refine Need.mk (by first | omega | decide | rfl) ?_ | refine Idx.nat (by omega) ?_ | refine Idx.auto (by first | omega | decide) (by first | omega | decide) ?_ | refine Cell.ro rfl ?_ | refine SDraw.all (by kernel_rfl) ?_ | refine Kept.k0 ?_ | refine Kept.k1 ?_ | refine Kept.k2 ?_ | refine Kept.k3 ?_ | refine Kept.k4 ?_))
  | false =>
    rw [hg] at hK
    have h42 := fun H (K2 : Value → Heap → Prop) (hk : K2 (.int .i64 (if okF id x n then 0 else 1)) H) => c32 (H := H) (K := K2) hk
    rw [hg] at h42
    repeat' ((conv => whnf); (first | refine h42 _ _ ?_ | refine Branch.t rfl ?_ | exact Keep.d1 hK | refine New.mk (fun _ => ?_) | refine Look.at0 ?_ | refine Cell.row ?_ | refine Cell.buf ?_ | refine Cells.row rfl ?_ | refine Put.row rfl ?_ | refine Put.buf rfl ?_ | refine Look.at1 ?_ | refine Look.at2 ?_ | refine Look.at3 ?_ | refine Look.at4 ?_ | refine Look.at5 ?_ | refine Look.at6 ?_ | refine Look.at7 ?_ | refine Look.at8 ?_ | with_reducible refine Val.i64 (by omega) (by omega) ?_ | with_reducible refine Val.u8 (by omega) (by omega) ?_ | with_reducible refine Val.u32 (by omega) (by omega) ?_ | with_reducible refine Val.u64 (by omega) (by omega) ?_ | with_reducible refine Val.u8m ?_ | with_reducible refine Val.u32m ?_ | with_reducible refine Val.u64m ?_ | with_reducible refine Val.shr8 ?_ | with_reducible refine Val.shr16 (by decide) ?_ | with_reducible refine Val.shr24 (by decide) ?_ | with_reducible refine Val.raw ?_ | refine Branch.not ?_ | refine Branch.and ?_ | refine Branch.or ?_ | refine Branch.dt (by assumption) ?_ | refine Branch.df (by assumption) ?_ | refine Branch.dt rfl ?_ | refine Branch.dt (by omega) ?_ | refine Branch.df (by omega) ?_ | refine Branch.t rfl ?_ | refine Branch.f rfl ?_ | refine Branch.t (by assumption) ?_ | refine Branch.f (by assumption) ?_ | refine Branch.d (fun _ => ?_) (fun _ => ?_) | refine Branch.mk (fun _ => ?_) (fun _ => ?_) | refine Need.mk (by first | omega | decide | rfl) ?_ | refine Idx.nat (by omega) ?_ | refine Idx.auto (by first | omega | decide) (by first | omega | decide) ?_ | refine Cell.ro rfl ?_ | refine SDraw.all (by kernel_rfl) ?_ | refine Kept.k0 ?_ | refine Kept.k1 ?_ | refine Kept.k2 ?_ | refine Kept.k3 ?_ | refine Kept.k4 ?_))
theorem c13 (hK : K (.string (strOf (fV id x n).1)) H) : SCalls Tryd.prog 13 [mgC id x n p j] H K := by
  refine enter13 ?_
  repeat' ((conv => whnf); (first | refine c26 ?_ | refine c25 ?_ | exact Keep.d1 hK | refine New.mk (fun _ => ?_) | refine Look.at0 ?_ | refine Cell.row ?_ | refine Cell.buf ?_ | refine Cells.row rfl ?_ | refine Put.row rfl ?_ | refine Put.buf rfl ?_ | refine Look.at1 ?_ | refine Look.at2 ?_ | refine Look.at3 ?_ | refine Look.at4 ?_ | refine Look.at5 ?_ | refine Look.at6 ?_ | refine Look.at7 ?_ | refine Look.at8 ?_ | with_reducible refine Val.i64 (by omega) (by omega) ?_ | with_reducible refine Val.u8 (by omega) (by omega) ?_ | with_reducible refine Val.u32 (by omega) (by omega) ?_ | with_reducible refine Val.u64 (by omega) (by omega) ?_ | with_reducible refine Val.u8m ?_ | with_reducible refine Val.u32m ?_ | with_reducible refine Val.u64m ?_ | with_reducible refine Val.shr8 ?_ | with_reducible refine Val.shr16 (by decide) ?_ | with_reducible refine Val.shr24 (by decide) ?_ | with_reducible refine Val.raw ?_ | refine Branch.not ?_ | refine Branch.and ?_ | refine Branch.or ?_ | refine Branch.dt (by assumption) ?_ | refine Branch.df (by assumption) ?_ | refine Branch.dt rfl ?_ | refine Branch.dt (by omega) ?_ | refine Branch.df (by omega) ?_ | refine Branch.t rfl ?_ | refine Branch.f rfl ?_ | refine Branch.t (by assumption) ?_ | refine Branch.f (by assumption) ?_ | refine Branch.d (fun _ => ?_) (fun _ => ?_) | refine Branch.mk (fun _ => ?_) (fun _ => ?_) | refine Need.mk (by first | omega | decide | rfl) ?_ | refine Idx.nat (by omega) ?_ | refine Idx.auto (by first | omega | decide) (by first | omega | decide) ?_ | refine Cell.ro rfl ?_ | refine SDraw.all (by kernel_rfl) ?_ | refine Kept.k0 ?_ | refine Kept.k1 ?_ | refine Kept.k2 ?_ | refine Kept.k3 ?_ | refine Kept.k4 ?_))
end
end Go.Proofs.YtjleekdidedhaaaDoor

