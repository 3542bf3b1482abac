/- Ported (port.py) from FmC. -/
import Derived.Test.YtiaginlnapiijaaGreatDoorBMain2
import Derived.Test.YtiaginlnapiijaaGreatDoorBSx1

set_option linter.unusedVariables false
set_option linter.unusedSimpArgs false
set_option maxRecDepth 100000
set_option maxHeartbeats 4000000
namespace Go.Proofs.YtiaginlnapiijaaGreatDoor
open Sx
/-- A bit of a field; behind its end the wire is 1. -/
def pb (s : List UInt8) (p : Nat) : UInt8 := s.getD p 49
theorem tlt_of : ∀ (a b : List UInt8) (p : Nat), p < a.length → p < b.length → (∀ q, q < p → pb a q = pb b q) → pb a p = 48 → pb b p = 49 → tlt a b = true
  | [], _, _, h, _, _, _, _ => by simp at h
  | _ :: _, [], _, _, h, _, _, _ => by simp at h
  | x :: a, y :: b, 0, _, _, _, h1, h2 => by
    have h1 : x = 48 := h1
    have h2 : y = 49 := h2
    subst h1; subst h2
    simp [tlt, Op.bytesLess]
  | x :: a, y :: b, p + 1, ha, hb, h, h1, h2 => by
    have h0 : x = y := h 0 (by omega)
    subst h0
    have ih := tlt_of a b p (by simpa using ha) (by simpa using hb) (fun q hq => h (q + 1) (by omega)) h1 h2
    simp [tlt, Op.bytesLess] at ih ⊢
    exact ih
theorem fld_lenX (f : Fm) : (fld f).length = if f.x then 32 else 13 := by
  unfold fld fldB
  split <;> simp [numB_len]
theorem fld_12 (f : Fm) : pb (fld f) 12 = if f.x then 49 else 48 := by
  unfold pb fld fldB
  split <;> simp [List.getD_eq_getElem?_getD, List.getElem?_append, numB_len]
theorem fld_bits (f : Fm) (p : Nat) : pb (fld f) p = 48 ∨ pb (fld f) p = 49 := by
  unfold pb
  rw [List.getD_eq_getElem?_getD]
  cases h : (fld f)[p]? with
  | none => exact .inr rfl
  | some b =>
    have hb := fld_ok f b (List.mem_of_getElem? h)
    rcases isB_cases hb with ⟨h1, _⟩ | ⟨h1, _⟩
    · exact .inl (UInt8.toNat_inj.1 h1)
    · exact .inr (UInt8.toNat_inj.1 h1)
theorem fld_less {f g : Fm} {p : Nat} (h : ∀ q, q < p → pb (fld f) q = pb (fld g) q) (h1 : pb (fld f) p = 48) (h2 : pb (fld g) p = 49) : tlt (fld f) (fld g) = true := by
  have hp : p < (fld f).length := by
    by_cases hp : p < (fld f).length
    · exact hp
    · unfold pb at h1
      rw [List.getD_eq_getElem?_getD, List.getElem?_eq_none (by omega)] at h1
      exact absurd h1 (by decide)
  refine tlt_of _ _ p hp ?_ h h1 h2
  by_cases h13 : p ≤ 12
  · rw [fld_lenX]; split <;> omega
  · have h12 := h 12 (by omega)
    rw [fld_12, fld_12] at h12
    have hx : f.x = g.x := by
      cases hf : f.x <;> cases hg : g.x <;> simp [hf, hg] at h12 ⊢
    rw [fld_lenX, ← hx, ← fld_lenX]; exact hp
/-- The wire's bit, of those that are left. -/
def wireB (fs : List (List UInt8)) (left : List Nat) (p : Nat) : UInt8 := if left.any fun j => pb (fs.getD j []) p == 48 then 48 else 49
def leavesP (fs : List (List UInt8)) (left : List Nat) (p : Nat) : List Nat := left.filter fun j => pb (fs.getD j []) p == wireB fs left p
/-- What holds ahead of place p. -/
structure LeftOk (L : List Fm) (i p : Nat) (left : List Nat) : Prop where
  has : i ∈ left
  nd : left.Nodup
  lt : ∀ j ∈ left, j < L.length
  same : ∀ j ∈ left, ∀ q, q < p → pb ((L.map fld).getD j []) q = pb ((L.map fld).getD i []) q
theorem fs_at {L : List Fm} {j : Nat} (h : j < L.length) : (L.map fld).getD j [] = fld L[j] := by
  rw [List.getD_eq_getElem?_getD]; simp [h]
theorem LeftOk.step {L : List Fm} {i p : Nat} {left : List Nat} (h : LeftOk L i p left) (hmin : ∀ j, j < L.length → tlt ((L.map fld).getD j []) ((L.map fld).getD i []) = false) : LeftOk L i (p + 1) (leavesP (L.map fld) left p) := by
  have hi := h.lt i h.has
  have key : pb ((L.map fld).getD i []) p = wireB (L.map fld) left p := by
    unfold wireB
    split
    · rename_i ha
      obtain ⟨j, hj, hb⟩ := List.any_eq_true.1 ha
      have hb : pb ((L.map fld).getD j []) p = 48 := by simpa using hb
      have hjl := h.lt j hj
      rw [fs_at hi]
      rcases fld_bits L[i] p with h1 | h1
      · exact h1
      · have := hmin j hjl
        have hs := h.same j hj
        rw [fs_at hjl] at hb this hs
        rw [fs_at hi] at this hs
        rw [fld_less hs hb h1] at this
        cases this
    · rename_i ha
      rw [fs_at hi]
      rcases fld_bits L[i] p with h1 | h1
      · exact absurd (List.any_eq_true.2 ⟨i, h.has, by rw [fs_at hi, h1]; rfl⟩) ha
      · exact h1
  unfold leavesP
  refine ⟨List.mem_filter.2 ⟨h.has, by rw [key]; simp⟩, h.nd.filter _, fun j hj => h.lt j (List.mem_filter.1 hj).1, fun j hj q hq => ?_⟩
  obtain ⟨h1, h2⟩ := List.mem_filter.1 hj
  by_cases hqp : q = p
  · subst hqp; rw [key]; simpa using h2
  · exact h.same j h1 q (by omega)
theorem LeftOk.one {L : List Fm} {i p : Nat} {left : List Nat} (h : LeftOk L i p left) (hl : left.length ≤ 1) : left = [i] := by
  match left, h, hl with
  | [], h, _ => exact absurd h.has List.not_mem_nil
  | [a], h, _ =>
    have := h.has
    simp at this
    rw [this]
end Go.Proofs.YtiaginlnapiijaaGreatDoor


/- Ported (port.py) from FmE. -/
set_option linter.unusedVariables false
set_option linter.unusedSimpArgs false
set_option maxRecDepth 100000
set_option maxHeartbeats 4000000
namespace Go.Proofs.YtiaginlnapiijaaGreatDoor
open Sx
section
variable {K : Value → Heap → Prop} {H : Heap} {T r : Nat} {pre : List Value} {bs : List UInt8} {N : Heap}
theorem c81 {b : UInt8} (hT : BT T pre.length) (hN : Bld T r pre bs N) (hl : bs.length + 1 ≤ 140737488355328) (hK : ∀ N', Bld T r pre (bs ++ [b]) N' → K .nilIface N') : SCalls Tryz.prog 81 [bPtr r pre, .int .u8 (b.toNat : Int)] N K := by
  refine enter81 ?_
  have h41 : ∀ (K2 : Value → Heap → Prop), (∀ a c M, BufV 5 (.slice a bs.length c) bs M → K2 (.tuple ⟨[]⟩) (bRow T r pre (bPtr r pre) (.slice a bs.length c) :: M)) → SCalls Tryz.prog 75 [bPtr r pre] N K2 := fun K2 hk => c75 hT hN (fun sv M hb => by
    obtain ⟨a, c, rfl⟩ := hb.len
    exact hk a c M hb)
  have h1 : ∀ sv, (Blk.row T (pre ++ [bPtr r pre, sv]) (0, 0)).cell (pre.length + 1) = some sv := fun sv => pre1 _ sv
  have hput : ∀ sv sv', PutOk (.row T (pre ++ [bPtr r pre, sv]) (0, 0)) (pre.length + 1) [sv'] (.row T (pre ++ [bPtr r pre, sv']) (0, 0)) := fun sv sv' => PutOk.row (by simp) (set1 _ sv sv')
  have hc : ∀ (q : Nat) j x, [b][j]? = some x → (Blk.row 5 [.int .u8 (b.toNat : Int)] (0, 0)).cell (0 + j) = some (.int .u8 (x.toNat : Int)) := by
    intro q j x hj
    match j, hj with
    | 0, hj => injection hj with hj; subst hj; rfl
  have happ : ∀ a c M, BufV 5 (.slice a bs.length c) bs M → ∀ (q : Nat) (o : Oper) (xs xx : Operand) (K2 : Value → Heap → Prop), o.op = .call { callee := .builtin .append, args := #[xs, xx], argTypes := #[84, 84] } →
      (∀ a' c' M', BufV 5 (.slice a' (bs ++ [b]).length c') (bs ++ [b]) M' → K2 (.slice a' (bs ++ [b]).length c') ((q, Blk.row 5 [.int .u8 (b.toNat : Int)] (0, 0)) :: bRow T r pre (bPtr r pre) (.slice a bs.length c) :: M')) →
      RawV Tryz.prog o [.slice a bs.length c, .slice (some ⟨q, 0, none⟩) 1 1] ((q, Blk.row 5 [.int .u8 (b.toNat : Int)] (0, 0)) :: bRow T r pre (bPtr r pre) (.slice a bs.length c) :: M) K2 := by
    intro a c M hb q o xs xx K2 ho hk
    have := RawV.appBytes (P := Tryz.prog) (c := 1) (A := [(q, Blk.row 5 [.int .u8 (b.toNat : Int)] (0, 0)), bRow T r pre (bPtr r pre) (.slice a bs.length c)]) (B := []) (l := [b]) (K := K2) ho (by kernel_rfl) (by kernel_rfl) hb (.head _) rfl Nat.one_pos (hc q) hl (fun sv' N' h => by rw [List.append_nil]; obtain ⟨a', c', rfl⟩ := h.len; exact hk a' c' N' h)
    rw [List.append_nil] at this
    exact this
  clear hN
  repeat' ((conv => whnf); (first | with_reducible refine h41 _ (fun a c M hb => ?_) | refine Look.cell (.head _) (h1 _) ?_ | with_reducible refine happ _ _ _ hb _ _ _ _ _ rfl (fun a' c' M' hb' => ?_) | refine ⟨[_], _, M', rfl, _, hput _ _, appK_to ?_⟩ | exact Keep.d1 (hK _ (.mk (.inr rfl) hb')) | refine New.mk (fun _ => ?_) | refine Look.at0 ?_ | refine Cell.row ?_ | refine Cell.buf ?_ | refine Cells.row rfl ?_ | refine Put.row rfl ?_ | refine Put.buf rfl ?_ | refine Look.at1 ?_ | refine Look.at2 ?_ | refine Look.at3 ?_ | refine Look.at4 ?_ | refine Look.at5 ?_ | refine Look.at6 ?_ | refine Look.at7 ?_ | refine Look.at8 ?_ | with_reducible refine Val.i64 (by omega) (by omega) ?_ | with_reducible refine Val.u8 (by omega) (by omega) ?_ | with_reducible refine Val.u32 (by omega) (by omega) ?_ | with_reducible refine Val.u64 (by omega) (by omega) ?_ | with_reducible refine Val.u8m ?_ | with_reducible refine Val.u32m ?_ | with_reducible refine Val.u64m ?_ | with_reducible refine Val.shr8 ?_ | with_reducible refine Val.shr16 (by decide) ?_ | with_reducible refine Val.shr24 (by decide) ?_ | with_reducible refine Val.raw ?_ | refine Branch.not ?_ | refine Branch.and ?_ | refine Branch.or ?_ | refine Branch.dt (by assumption) ?_ | refine Branch.df (by assumption) ?_ | refine Branch.dt rfl ?_ | refine Branch.dt (by omega) ?_ | refine Branch.df (by omega) ?_ | refine Branch.t rfl ?_ | refine Branch.f rfl ?_ | refine Branch.t (by assumption) ?_ | refine Branch.f (by assumption) ?_ | refine Branch.d (fun _ => ?_) (fun _ => ?_) | refine Branch.mk (fun _ => ?_) (fun _ => ?_) | refine Need.mk (by first | omega | decide | rfl) ?_ | refine Idx.nat (by omega) ?_ | refine Idx.auto (by first | omega | decide) (by first | omega | decide) ?_ | refine Cell.ro rfl ?_ | refine SDraw.all (by kernel_rfl) ?_ | refine Kept.k0 ?_ | refine Kept.k1 ?_ | refine Kept.k2 ?_ | refine Kept.k3 ?_ | refine Kept.k4 ?_))
end
/-- The reader's own cells. -/
abbrev rdC (s : List UInt8) (a lv n : Nat) : List Value := [.string (strOf s), .int .i64 (a : Int), .int .u8 (lv : Int), .int .i64 (n : Int)]
abbrev rdB (r : Nat) (s : List UInt8) (a lv n : Nat) (p sv : Value) : Nat × Blk := (r, .row 104 [.string (strOf s), .int .i64 (a : Int), .int .u8 (lv : Int), .int .i64 (n : Int), p, sv] (0, 0))
abbrev wrg (a e : Int) : List PanicEntry := [{ v := .iface 100 (.agg ⟨[.int .i64 a, .int .i64 e]⟩), recovered := false }]
theorem bt73 : BT 104 4 := by unfold BT; kernel_rfl
section
variable [Dies] {K : Value → Heap → Prop} {r : Nat} {s : List UInt8} {a lv n : Nat} {p sv : Value} {b : UInt8}
theorem c82 (ha : a ≤ s.length) (hl : s.length ≤ 65536) (hb : ∀ x, s[a]? = some x → x = b) (hD : a = s.length → Dies.D (wrg a 3)) (hK : a < s.length → K (.int .u8 (b.toNat : Int)) [rdB r s (a + 1) lv n p sv]) :
    SCalls Tryz.prog 82 [ptr r] [rdB r s a lv n p sv] K := by
  refine enter82 ?_
  have hsz : ((strOf s).size : Int) = (s.length : Int) := by rw [strOf_size]
  have hsz2 : (strOf s).size = s.length := strOf_size s
  by_cases hlt : a < s.length
  · have hx := List.getElem?_eq_getElem hlt
    have hxb := hb _ hx
    rw [hxb] at hx
    have hat := byteAt_of hx
    have hk := hK hlt
    have e : ((a + 1 : Nat) : Int) = (a : Int) + 1 := by omega
    simp only [rdB, e] at hk
    clear hK hD hb
    repeat' ((conv => whnf); (first | refine Branch.df (by omega) ?_ | refine Idx.nat (by omega) ?_ | with_reducible rw [hat] | with_reducible exact Keep.all hk | refine New.mk (fun _ => ?_) | refine Look.at0 ?_ | refine Cell.row ?_ | refine Cell.buf ?_ | refine Cells.row rfl ?_ | refine Put.row rfl ?_ | refine Put.buf rfl ?_ | refine Look.at1 ?_ | refine Look.at2 ?_ | refine Look.at3 ?_ | refine Look.at4 ?_ | refine Look.at5 ?_ | refine Look.at6 ?_ | refine Look.at7 ?_ | refine Look.at8 ?_ | with_reducible refine Val.i64 (by omega) (by omega) ?_ | with_reducible refine Val.u8 (by omega) (by omega) ?_ | with_reducible refine Val.u32 (by omega) (by omega) ?_ | with_reducible refine Val.u64 (by omega) (by omega) ?_ | with_reducible refine Val.u8m ?_ | with_reducible refine Val.u32m ?_ | with_reducible refine Val.u64m ?_ | with_reducible refine Val.shr8 ?_ | with_reducible refine Val.shr16 (by decide) ?_ | with_reducible refine Val.shr24 (by decide) ?_ | with_reducible refine Val.raw ?_ | refine Branch.not ?_ | refine Branch.and ?_ | refine Branch.or ?_ | refine Branch.dt (by assumption) ?_ | refine Branch.df (by assumption) ?_ | refine Branch.dt rfl ?_ | refine Branch.dt (by omega) ?_ | refine Branch.df (by omega) ?_ | refine Branch.t rfl ?_ | refine Branch.f rfl ?_ | refine Branch.t (by assumption) ?_ | refine Branch.f (by assumption) ?_ | refine Branch.d (fun _ => ?_) (fun _ => ?_) | refine Branch.mk (fun _ => ?_) (fun _ => ?_) | refine Need.mk (by first | omega | decide | rfl) ?_ | refine Idx.nat (by omega) ?_ | refine Idx.auto (by first | omega | decide) (by first | omega | decide) ?_ | refine Cell.ro rfl ?_ | refine SDraw.all (by kernel_rfl) ?_ | refine Kept.k0 ?_ | refine Kept.k1 ?_ | refine Kept.k2 ?_ | refine Kept.k3 ?_ | refine Kept.k4 ?_))
  · have hd := hD (by omega)
    clear hK hD
    repeat' ((conv => whnf); (first | refine Branch.dt (by omega) ?_ | refine RawV.panic rfl hd | refine New.mk (fun _ => ?_) | refine Look.at0 ?_ | refine Cell.row ?_ | refine Cell.buf ?_ | refine Cells.row rfl ?_ | refine Put.row rfl ?_ | refine Put.buf rfl ?_ | refine Look.at1 ?_ | refine Look.at2 ?_ | refine Look.at3 ?_ | refine Look.at4 ?_ | refine Look.at5 ?_ | refine Look.at6 ?_ | refine Look.at7 ?_ | refine Look.at8 ?_ | with_reducible refine Val.i64 (by omega) (by omega) ?_ | with_reducible refine Val.u8 (by omega) (by omega) ?_ | with_reducible refine Val.u32 (by omega) (by omega) ?_ | with_reducible refine Val.u64 (by omega) (by omega) ?_ | with_reducible refine Val.u8m ?_ | with_reducible refine Val.u32m ?_ | with_reducible refine Val.u64m ?_ | with_reducible refine Val.shr8 ?_ | with_reducible refine Val.shr16 (by decide) ?_ | with_reducible refine Val.shr24 (by decide) ?_ | with_reducible refine Val.raw ?_ | refine Branch.not ?_ | refine Branch.and ?_ | refine Branch.or ?_ | refine Branch.dt (by assumption) ?_ | refine Branch.df (by assumption) ?_ | refine Branch.dt rfl ?_ | refine Branch.dt (by omega) ?_ | refine Branch.df (by omega) ?_ | refine Branch.t rfl ?_ | refine Branch.f rfl ?_ | refine Branch.t (by assumption) ?_ | refine Branch.f (by assumption) ?_ | refine Branch.d (fun _ => ?_) (fun _ => ?_) | refine Branch.mk (fun _ => ?_) (fun _ => ?_) | refine Need.mk (by first | omega | decide | rfl) ?_ | refine Idx.nat (by omega) ?_ | refine Idx.auto (by first | omega | decide) (by first | omega | decide) ?_ | refine Cell.ro rfl ?_ | refine SDraw.all (by kernel_rfl) ?_ | refine Kept.k0 ?_ | refine Kept.k1 ?_ | refine Kept.k2 ?_ | refine Kept.k3 ?_ | refine Kept.k4 ?_))
theorem c80 (ha : a ≤ s.length) (hl : s.length ≤ 65536) (hn : n ≤ 100) (hb : ∀ x, s[a]? = some x → x = b) (hD : a = s.length → Dies.D (wrg a 3))
    (hK : a < s.length → K (.int .u8 (b.toNat : Int)) [rdB r s (a + 1) b.toNat (tk lv n b.toNat) p sv]) : SCalls Tryz.prog 80 [ptr r] [rdB r s a lv n p sv] K := by
  refine enter80 ?_
  have h67 : ∀ (K2 : Value → Heap → Prop), (a < s.length → K2 (.int .u8 (b.toNat : Int)) [rdB r s (a + 1) lv n p sv]) → SCalls Tryz.prog 82 [ptr r] [rdB r s a lv n p sv] K2 := fun K2 hk => c82 ha hl hb hD hk
  unfold tk at hK
  by_cases h : b.toNat = lv
  · subst h
    rw [if_pos rfl] at hK
    have e : ((n + 1 : Nat) : Int) = (n : Int) + 1 := by omega
    simp only [rdB, e] at hK
    repeat' ((conv => whnf); (first | with_reducible refine h67 _ (fun hlt => ?_) | refine Branch.dt rfl ?_ | exact Keep.all (hK hlt) | refine New.mk (fun _ => ?_) | refine Look.at0 ?_ | refine Cell.row ?_ | refine Cell.buf ?_ | refine Cells.row rfl ?_ | refine Put.row rfl ?_ | refine Put.buf rfl ?_ | refine Look.at1 ?_ | refine Look.at2 ?_ | refine Look.at3 ?_ | refine Look.at4 ?_ | refine Look.at5 ?_ | refine Look.at6 ?_ | refine Look.at7 ?_ | refine Look.at8 ?_ | with_reducible refine Val.i64 (by omega) (by omega) ?_ | with_reducible refine Val.u8 (by omega) (by omega) ?_ | with_reducible refine Val.u32 (by omega) (by omega) ?_ | with_reducible refine Val.u64 (by omega) (by omega) ?_ | with_reducible refine Val.u8m ?_ | with_reducible refine Val.u32m ?_ | with_reducible refine Val.u64m ?_ | with_reducible refine Val.shr8 ?_ | with_reducible refine Val.shr16 (by decide) ?_ | with_reducible refine Val.shr24 (by decide) ?_ | with_reducible refine Val.raw ?_ | refine Branch.not ?_ | refine Branch.and ?_ | refine Branch.or ?_ | refine Branch.dt (by assumption) ?_ | refine Branch.df (by assumption) ?_ | refine Branch.dt rfl ?_ | refine Branch.dt (by omega) ?_ | refine Branch.df (by omega) ?_ | refine Branch.t rfl ?_ | refine Branch.f rfl ?_ | refine Branch.t (by assumption) ?_ | refine Branch.f (by assumption) ?_ | refine Branch.d (fun _ => ?_) (fun _ => ?_) | refine Branch.mk (fun _ => ?_) (fun _ => ?_) | refine Need.mk (by first | omega | decide | rfl) ?_ | refine Idx.nat (by omega) ?_ | refine Idx.auto (by first | omega | decide) (by first | omega | decide) ?_ | refine Cell.ro rfl ?_ | refine SDraw.all (by kernel_rfl) ?_ | refine Kept.k0 ?_ | refine Kept.k1 ?_ | refine Kept.k2 ?_ | refine Kept.k3 ?_ | refine Kept.k4 ?_))
  · rw [if_neg h] at hK
    have h' : ¬ (b.toNat : Int) = (lv : Int) := by omega
    repeat' ((conv => whnf); (first | with_reducible refine h67 _ (fun hlt => ?_) | refine Branch.df h' ?_ | exact Keep.all (hK hlt) | refine New.mk (fun _ => ?_) | refine Look.at0 ?_ | refine Cell.row ?_ | refine Cell.buf ?_ | refine Cells.row rfl ?_ | refine Put.row rfl ?_ | refine Put.buf rfl ?_ | refine Look.at1 ?_ | refine Look.at2 ?_ | refine Look.at3 ?_ | refine Look.at4 ?_ | refine Look.at5 ?_ | refine Look.at6 ?_ | refine Look.at7 ?_ | refine Look.at8 ?_ | with_reducible refine Val.i64 (by omega) (by omega) ?_ | with_reducible refine Val.u8 (by omega) (by omega) ?_ | with_reducible refine Val.u32 (by omega) (by omega) ?_ | with_reducible refine Val.u64 (by omega) (by omega) ?_ | with_reducible refine Val.u8m ?_ | with_reducible refine Val.u32m ?_ | with_reducible refine Val.u64m ?_ | with_reducible refine Val.shr8 ?_ | with_reducible refine Val.shr16 (by decide) ?_ | with_reducible refine Val.shr24 (by decide) ?_ | with_reducible refine Val.raw ?_ | refine Branch.not ?_ | refine Branch.and ?_ | refine Branch.or ?_ | refine Branch.dt (by assumption) ?_ | refine Branch.df (by assumption) ?_ | refine Branch.dt rfl ?_ | refine Branch.dt (by omega) ?_ | refine Branch.df (by omega) ?_ | refine Branch.t rfl ?_ | refine Branch.f rfl ?_ | refine Branch.t (by assumption) ?_ | refine Branch.f (by assumption) ?_ | refine Branch.d (fun _ => ?_) (fun _ => ?_) | refine Branch.mk (fun _ => ?_) (fun _ => ?_) | refine Need.mk (by first | omega | decide | rfl) ?_ | refine Idx.nat (by omega) ?_ | refine Idx.auto (by first | omega | decide) (by first | omega | decide) ?_ | refine Cell.ro rfl ?_ | refine SDraw.all (by kernel_rfl) ?_ | refine Kept.k0 ?_ | refine Kept.k1 ?_ | refine Kept.k2 ?_ | refine Kept.k3 ?_ | refine Kept.k4 ?_))
theorem c66 {e : Int} {c : UInt8} (ha : a < s.length ∨ a = s.length) (hl : s.length ≤ 65536) (hb : ∀ x, s[a]? = some x → x = b) (hD : a = s.length → Dies.D (wrg a 3)) (hD2 : a < s.length → ¬ b = c → Dies.D (wrg a e))
    (hK : a < s.length → b = c → K (.tuple ⟨[]⟩) [rdB r s (a + 1) lv n p sv]) : SCalls Tryz.prog 66 [ptr r, .int .u8 (c.toNat : Int), .int .i64 e] [rdB r s a lv n p sv] K := by
  refine enter66 ?_
  have h67 : ∀ (K2 : Value → Heap → Prop), (a < s.length → K2 (.int .u8 (b.toNat : Int)) [rdB r s (a + 1) lv n p sv]) → SCalls Tryz.prog 82 [ptr r] [rdB r s a lv n p sv] K2 := fun K2 hk => c82 (by omega) hl hb hD hk
  by_cases h : b = c
  · subst h
    repeat' ((conv => whnf); (first | with_reducible refine h67 _ (fun hlt => ?_) | refine Branch.f (by simp; done) ?_ | exact Keep.all (hK hlt rfl) | refine New.mk (fun _ => ?_) | refine Look.at0 ?_ | refine Cell.row ?_ | refine Cell.buf ?_ | refine Cells.row rfl ?_ | refine Put.row rfl ?_ | refine Put.buf rfl ?_ | refine Look.at1 ?_ | refine Look.at2 ?_ | refine Look.at3 ?_ | refine Look.at4 ?_ | refine Look.at5 ?_ | refine Look.at6 ?_ | refine Look.at7 ?_ | refine Look.at8 ?_ | with_reducible refine Val.i64 (by omega) (by omega) ?_ | with_reducible refine Val.u8 (by omega) (by omega) ?_ | with_reducible refine Val.u32 (by omega) (by omega) ?_ | with_reducible refine Val.u64 (by omega) (by omega) ?_ | with_reducible refine Val.u8m ?_ | with_reducible refine Val.u32m ?_ | with_reducible refine Val.u64m ?_ | with_reducible refine Val.shr8 ?_ | with_reducible refine Val.shr16 (by decide) ?_ | with_reducible refine Val.shr24 (by decide) ?_ | with_reducible refine Val.raw ?_ | refine Branch.not ?_ | refine Branch.and ?_ | refine Branch.or ?_ | refine Branch.dt (by assumption) ?_ | refine Branch.df (by assumption) ?_ | refine Branch.dt rfl ?_ | refine Branch.dt (by omega) ?_ | refine Branch.df (by omega) ?_ | refine Branch.t rfl ?_ | refine Branch.f rfl ?_ | refine Branch.t (by assumption) ?_ | refine Branch.f (by assumption) ?_ | refine Branch.d (fun _ => ?_) (fun _ => ?_) | refine Branch.mk (fun _ => ?_) (fun _ => ?_) | refine Need.mk (by first | omega | decide | rfl) ?_ | refine Idx.nat (by omega) ?_ | refine Idx.auto (by first | omega | decide) (by first | omega | decide) ?_ | refine Cell.ro rfl ?_ | refine SDraw.all (by kernel_rfl) ?_ | refine Kept.k0 ?_ | refine Kept.k1 ?_ | refine Kept.k2 ?_ | refine Kept.k3 ?_ | refine Kept.k4 ?_))
  · have h' : ¬ (b.toNat : Int) = (c.toNat : Int) := fun e => h (UInt8.toNat_inj.1 (by omega))
    have e1 : ((a + 1 : Nat) : Int) - 1 = (a : Int) := by omega
    repeat' ((conv => whnf); (first | with_reducible refine h67 _ (fun hlt => ?_) | refine Branch.t (by simp [h']; done) ?_ | with_reducible refine Val.to (a : Int) (by rw [wrap_i64 (by omega) (by omega)]; exact e1) ?_ | exact RawV.panic rfl (hD2 hlt h) | refine New.mk (fun _ => ?_) | refine Look.at0 ?_ | refine Cell.row ?_ | refine Cell.buf ?_ | refine Cells.row rfl ?_ | refine Put.row rfl ?_ | refine Put.buf rfl ?_ | refine Look.at1 ?_ | refine Look.at2 ?_ | refine Look.at3 ?_ | refine Look.at4 ?_ | refine Look.at5 ?_ | refine Look.at6 ?_ | refine Look.at7 ?_ | refine Look.at8 ?_ | with_reducible refine Val.i64 (by omega) (by omega) ?_ | with_reducible refine Val.u8 (by omega) (by omega) ?_ | with_reducible refine Val.u32 (by omega) (by omega) ?_ | with_reducible refine Val.u64 (by omega) (by omega) ?_ | with_reducible refine Val.u8m ?_ | with_reducible refine Val.u32m ?_ | with_reducible refine Val.u64m ?_ | with_reducible refine Val.shr8 ?_ | with_reducible refine Val.shr16 (by decide) ?_ | with_reducible refine Val.shr24 (by decide) ?_ | with_reducible refine Val.raw ?_ | refine Branch.not ?_ | refine Branch.and ?_ | refine Branch.or ?_ | refine Branch.dt (by assumption) ?_ | refine Branch.df (by assumption) ?_ | refine Branch.dt rfl ?_ | refine Branch.dt (by omega) ?_ | refine Branch.df (by omega) ?_ | refine Branch.t rfl ?_ | refine Branch.f rfl ?_ | refine Branch.t (by assumption) ?_ | refine Branch.f (by assumption) ?_ | refine Branch.d (fun _ => ?_) (fun _ => ?_) | refine Branch.mk (fun _ => ?_) (fun _ => ?_) | refine Need.mk (by first | omega | decide | rfl) ?_ | refine Idx.nat (by omega) ?_ | refine Idx.auto (by first | omega | decide) (by first | omega | decide) ?_ | refine Cell.ro rfl ?_ | refine SDraw.all (by kernel_rfl) ?_ | refine Kept.k0 ?_ | refine Kept.k1 ?_ | refine Kept.k2 ?_ | refine Kept.k3 ?_ | refine Kept.k4 ?_))
end
end Go.Proofs.YtiaginlnapiijaaGreatDoor


/- Ported (port.py) from FmF. -/
set_option linter.unusedVariables false
set_option linter.unusedSimpArgs false
set_option maxRecDepth 100000
set_option maxHeartbeats 4000000
namespace Go.Proofs.YtiaginlnapiijaaGreatDoor
open Sx
/-- A text s that begins as t does, as far as it goes; where it is shorter a reader may give up at its end. -/
structure Src [Dies] (s t : List UInt8) : Prop where
  al : Alike s t
  sh : s.length < t.length → Dies.D (wrg s.length 3)
  lim : s.length ≤ 65536
theorem Src.same [Dies] {s t : List UInt8} (h : Src s t) {a : Nat} {b : UInt8} (hb : t[a]? = some b) : ∀ x, s[a]? = some x → x = b := fun x hx => h.al a x b hx hb
theorem Src.dies [Dies] {s t : List UInt8} (h : Src s t) {a : Nat} {b : UInt8} (hb : t[a]? = some b) (ha : a = s.length) : Dies.D (wrg a 3) := by
  subst ha
  exact h.sh (List.getElem?_eq_some_iff.1 hb).1
/-- A reader that has read the bits p. -/
inductive RdH (s : List UInt8) (r : Nat) (p : List UInt8) : Heap → Prop
  | mk {a lv n : Nat} {N : Heap} : RdAt p a lv n → a ≤ s.length → Bld 104 r (rdC s a lv n) p N → RdH s r p N
/-- A reader that has read the bits p, and what was put in behind them. -/
inductive RdD (s : List UInt8) (r : Nat) (p : List UInt8) (k : Nat) : Heap → Prop
  | mk {a lv n : Nat} {N : Heap} : a = (stf p).out.length + k → a ≤ s.length → Bld 104 r (rdC s a lv n) p N → RdD s r p k N
theorem RdAt.lev {p : List UInt8} {a lv n : Nat} (h : RdAt p a lv n) (h5 : n = 5) : ∃ c ∈ p, lv = c.toNat := by
  cases h with
  | done => have := (St.ok p).1; omega
  | pend q c e _ => exact ⟨c, by rw [e]; simp, rfl⟩
theorem oth_ne {b : UInt8} (h : isB b = true) : ¬ (oth b).toNat = b.toNat := by
  have := oth_n h
  omega
section
variable [Dies] {K : Value → Heap → Prop} {r : Nat} {s p z u : List UInt8} {a lv n : Nat} {pp sv : Value} {b : UInt8}
theorem c65 (hs : Src s ((stf (p ++ z)).out ++ u)) (hp : ∀ b ∈ p, isB b = true) (hR : RdAt p a lv n) (ha : a ≤ s.length)
    (hK : (stf p).out.length ≤ s.length → K (.tuple ⟨[]⟩) [rdB r s (stf p).out.length (stf p).lv (stf p).n pp sv]) : SCalls Tryz.prog 65 [ptr r] [rdB r s a lv n pp sv] K := by
  refine enter65 ?_
  have hl := hs.lim
  rcases hR.cases with ⟨h1, rfl, rfl, rfl⟩ | ⟨b, rfl, rfl, h3, h4, h5, h6⟩
  · have hk := hK ha
    clear hK hR
    repeat' ((conv => whnf); (first | refine Branch.dt (by omega) ?_ | with_reducible exact Keep.all hk | refine New.mk (fun _ => ?_) | refine Look.at0 ?_ | refine Cell.row ?_ | refine Cell.buf ?_ | refine Cells.row rfl ?_ | refine Put.row rfl ?_ | refine Put.buf rfl ?_ | refine Look.at1 ?_ | refine Look.at2 ?_ | refine Look.at3 ?_ | refine Look.at4 ?_ | refine Look.at5 ?_ | refine Look.at6 ?_ | refine Look.at7 ?_ | refine Look.at8 ?_ | with_reducible refine Val.i64 (by omega) (by omega) ?_ | with_reducible refine Val.u8 (by omega) (by omega) ?_ | with_reducible refine Val.u32 (by omega) (by omega) ?_ | with_reducible refine Val.u64 (by omega) (by omega) ?_ | with_reducible refine Val.u8m ?_ | with_reducible refine Val.u32m ?_ | with_reducible refine Val.u64m ?_ | with_reducible refine Val.shr8 ?_ | with_reducible refine Val.shr16 (by decide) ?_ | with_reducible refine Val.shr24 (by decide) ?_ | with_reducible refine Val.raw ?_ | refine Branch.not ?_ | refine Branch.and ?_ | refine Branch.or ?_ | refine Branch.dt (by assumption) ?_ | refine Branch.df (by assumption) ?_ | refine Branch.dt rfl ?_ | refine Branch.dt (by omega) ?_ | refine Branch.df (by omega) ?_ | refine Branch.t rfl ?_ | refine Branch.f rfl ?_ | refine Branch.t (by assumption) ?_ | refine Branch.f (by assumption) ?_ | refine Branch.d (fun _ => ?_) (fun _ => ?_) | refine Branch.mk (fun _ => ?_) (fun _ => ?_) | refine Need.mk (by first | omega | decide | rfl) ?_ | refine Idx.nat (by omega) ?_ | refine Idx.auto (by first | omega | decide) (by first | omega | decide) ?_ | refine Cell.ro rfl ?_ | refine SDraw.all (by kernel_rfl) ?_ | refine Kept.k0 ?_ | refine Kept.k1 ?_ | refine Kept.k2 ?_ | refine Kept.k3 ?_ | refine Kept.k4 ?_))
  · have hat := put_at (z := z) (u := u) h3
    have hbb : isB b = true := by
      obtain ⟨c, hc, e⟩ := hR.lev rfl
      rw [UInt8.toNat_inj.1 e]
      exact hp c hc
    have hne := oth_ne hbb
    have htk : tk b.toNat 5 (oth b).toNat = 1 := by unfold tk; rw [if_neg hne]
    have h65 : ∀ (K2 : Value → Heap → Prop), (a < s.length → K2 (.int .u8 ((oth b).toNat : Int)) [rdB r s (a + 1) (oth b).toNat 1 pp sv]) → SCalls Tryz.prog 80 [ptr r] [rdB r s a b.toNat 5 pp sv] K2 := fun K2 hk =>
      c80 ha hl (by decide) (hs.same hat) (hs.dies hat) (fun h => by rw [htk]; exact hk h)
    have hk := fun h => hK (by omega)
    rw [h5, h6, ← h4] at hk
    have hne' : ¬ ((oth b).toNat : Int) = (b.toNat : Int) := by omega
    clear hK
    repeat' ((conv => whnf); (first | refine Branch.df (by decide) ?_ | with_reducible refine h65 _ (fun hlt => ?_) | refine Branch.df hne' ?_ | exact Keep.all (hk hlt) | refine New.mk (fun _ => ?_) | refine Look.at0 ?_ | refine Cell.row ?_ | refine Cell.buf ?_ | refine Cells.row rfl ?_ | refine Put.row rfl ?_ | refine Put.buf rfl ?_ | refine Look.at1 ?_ | refine Look.at2 ?_ | refine Look.at3 ?_ | refine Look.at4 ?_ | refine Look.at5 ?_ | refine Look.at6 ?_ | refine Look.at7 ?_ | refine Look.at8 ?_ | with_reducible refine Val.i64 (by omega) (by omega) ?_ | with_reducible refine Val.u8 (by omega) (by omega) ?_ | with_reducible refine Val.u32 (by omega) (by omega) ?_ | with_reducible refine Val.u64 (by omega) (by omega) ?_ | with_reducible refine Val.u8m ?_ | with_reducible refine Val.u32m ?_ | with_reducible refine Val.u64m ?_ | with_reducible refine Val.shr8 ?_ | with_reducible refine Val.shr16 (by decide) ?_ | with_reducible refine Val.shr24 (by decide) ?_ | with_reducible refine Val.raw ?_ | refine Branch.not ?_ | refine Branch.and ?_ | refine Branch.or ?_ | refine Branch.dt (by assumption) ?_ | refine Branch.df (by assumption) ?_ | refine Branch.dt rfl ?_ | refine Branch.dt (by omega) ?_ | refine Branch.df (by omega) ?_ | refine Branch.t rfl ?_ | refine Branch.f rfl ?_ | refine Branch.t (by assumption) ?_ | refine Branch.f (by assumption) ?_ | refine Branch.d (fun _ => ?_) (fun _ => ?_) | refine Branch.mk (fun _ => ?_) (fun _ => ?_) | refine Need.mk (by first | omega | decide | rfl) ?_ | refine Idx.nat (by omega) ?_ | refine Idx.auto (by first | omega | decide) (by first | omega | decide) ?_ | refine Cell.ro rfl ?_ | refine SDraw.all (by kernel_rfl) ?_ | refine Kept.k0 ?_ | refine Kept.k1 ?_ | refine Kept.k2 ?_ | refine Kept.k3 ?_ | refine Kept.k4 ?_))
end
inductive S64 (A0 A1 A5 A7 A8 : Value) : List Value → Prop
  | mk {r2 r3 r4 r6 r9 r10 r11 r12 r13 r14 r15 r16 r17 r18 r19 r20 r21 r22 r23 r24 r25 r26 : Value} : S64 A0 A1 A5 A7 A8 [A0, A1, r2, r3, r4, A5, r6, A7, A8, r9, r10, r11, r12, r13, r14, r15, r16, r17, r18, r19, r20, r21, r22, r23, r24, r25, r26]
theorem shl1 {v : Nat} (h : v < 2 ^ 32) : shlI .u64 (v : Int) 1 = ((v * 2 : Nat) : Int) := by
  have := shl_nat (k := .u64) rfl (a := v) (n := 1) (by decide)
  rw [Nat.mod_eq_of_lt (show v * 2 ^ 1 < 2 ^ IntKind.u64.bits by show v * 2 < 18446744073709551616; omega)] at this
  exact this
theorem or1 {v d : Nat} (h : v < 2 ^ 32) (hd : d < 2) : bitOr .u64 ((v * 2 : Nat) : Int) (d : Int) = ((v * 2 + d : Nat) : Int) := by
  rw [bitOr_nat rfl (by show v * 2 < 18446744073709551616; omega) (by show d < 18446744073709551616; omega)]
  congr 1
  have := Nat.two_pow_add_eq_or_of_lt (i := 1) (b := d) (by omega) v
  rw [show 2 ^ 1 * v = v * 2 by omega] at this
  omega
section
variable [Dies] {K : Value → Heap → Prop} {r : Nat} {s p q z u : List UInt8} {N : Heap}
theorem c64 {k : Nat} (hs : Src s ((stf (p ++ q ++ z)).out ++ u)) (hq : q.length = k) (hk : k ≤ 18) (hB : ∀ b ∈ p ++ q, isB b = true) (hl : p.length ≤ 200) (hN : RdH s r p N)
    (hK : ∀ N', RdH s r (p ++ q) N' → K (.int .u64 (vB q : Int)) N') : SCalls Tryz.prog 64 [ptr r, .int .i64 (k : Int)] N K := by
  refine enter64 ?_
  repeat' ((conv => whnf); (first | refine New.mk (fun _ => ?_) | refine Look.at0 ?_ | refine Cell.row ?_ | refine Cell.buf ?_ | refine Cells.row rfl ?_ | refine Put.row rfl ?_ | refine Put.buf rfl ?_ | refine Look.at1 ?_ | refine Look.at2 ?_ | refine Look.at3 ?_ | refine Look.at4 ?_ | refine Look.at5 ?_ | refine Look.at6 ?_ | refine Look.at7 ?_ | refine Look.at8 ?_ | with_reducible refine Val.i64 (by omega) (by omega) ?_ | with_reducible refine Val.u8 (by omega) (by omega) ?_ | with_reducible refine Val.u32 (by omega) (by omega) ?_ | with_reducible refine Val.u64 (by omega) (by omega) ?_ | with_reducible refine Val.u8m ?_ | with_reducible refine Val.u32m ?_ | with_reducible refine Val.u64m ?_ | with_reducible refine Val.shr8 ?_ | with_reducible refine Val.shr16 (by decide) ?_ | with_reducible refine Val.shr24 (by decide) ?_ | with_reducible refine Val.raw ?_ | refine Branch.not ?_ | refine Branch.and ?_ | refine Branch.or ?_ | refine Branch.dt (by assumption) ?_ | refine Branch.df (by assumption) ?_ | refine Branch.dt rfl ?_ | refine Branch.dt (by omega) ?_ | refine Branch.df (by omega) ?_ | refine Branch.t rfl ?_ | refine Branch.f rfl ?_ | refine Branch.t (by assumption) ?_ | refine Branch.f (by assumption) ?_ | refine Branch.d (fun _ => ?_) (fun _ => ?_) | refine Branch.mk (fun _ => ?_) (fun _ => ?_) | refine Need.mk (by first | omega | decide | rfl) ?_ | refine Idx.nat (by omega) ?_ | refine Idx.auto (by first | omega | decide) (by first | omega | decide) ?_ | refine Cell.ro rfl ?_ | refine SDraw.all (by kernel_rfl) ?_ | refine Kept.k0 ?_ | refine Kept.k1 ?_ | refine Kept.k2 ?_ | refine Kept.k3 ?_ | refine Kept.k4 ?_))
  refine SLoop.invA (fun (j : Nat) S H' => j ≤ k ∧ S64 (ptr r) (.int .i64 (k : Int)) (.int .u64 (vB (q.take j) : Int)) (.int .i64 (k : Int)) (.int .i64 (j : Int)) S ∧ RdH s r (p ++ q.take j) H') (fun j => k - j) 0 (Keep.all ⟨Nat.zero_le _, .mk, by simpa using hN⟩) ?_
  rintro j S H' ⟨hj, hS, hH⟩ R hR
  cases hS
  by_cases hlt : j < k
  · have hx := List.getElem?_eq_getElem (show j < q.length by omega)
    generalize q[j] = b at hx
    have htk : q.take (j + 1) = q.take j ++ [b] := by rw [List.take_add_one, hx]; rfl
    have hqs : q = q.take j ++ b :: q.drop (j + 1) := by
      have h1 := List.take_append_drop j q
      have h2 : q.drop j = b :: q.drop (j + 1) := by
        obtain ⟨h3, h4⟩ := List.getElem?_eq_some_iff.1 hx
        rw [List.drop_eq_getElem_cons h3, h4]
      rw [h2] at h1; exact h1.symm
    have hbB : isB b = true := hB b (List.mem_append_right _ (List.mem_of_getElem? hx))
    have hpB : ∀ c ∈ p ++ q.take j, isB c = true := fun c hc => hB c (by
      rcases List.mem_append.1 hc with h | h
      · exact List.mem_append_left _ h
      · exact List.mem_append_right _ (List.mem_of_mem_take h))
    have hvl : vB (q.take j) < 2 ^ 32 := by
      have h1 := vB_lt (q.take j) fun c hc => hB c (List.mem_append_right _ (List.mem_of_mem_take hc))
      have h2 : (q.take j).length ≤ 32 := by rw [List.length_take]; omega
      exact Nat.lt_of_lt_of_le h1 (Nat.pow_le_pow_right (by decide) h2)
    have hvn : vB (q.take (j + 1)) = vB (q.take j) * 2 + (b.toNat - 48) := by rw [htk, vB_snoc]; omega
    have hbl : (p ++ q.take j).length ≤ 300 := by rw [List.length_append, List.length_take]; omega
    have hsp : p ++ q ++ z = (p ++ q.take j) ++ b :: (q.drop (j + 1) ++ z) := by
      conv => lhs; rw [hqs]
      simp
    have hpn : p ++ q.take (j + 1) = p ++ q.take j ++ [b] := by rw [htk, List.append_assoc]
    have hnext : ∀ S H2, S64 (ptr r) (.int .i64 (k : Int)) (.int .u64 ((vB (q.take j) * 2 + (b.toNat - 48) : Nat) : Int)) (.int .i64 (k : Int)) (.int .i64 ((j + 1 : Nat) : Int)) S → RdH s r (p ++ q.take j ++ [b]) H2 → R S H2 := fun S H2 hS hH2 => hR (j + 1) S H2 (by omega) (Keep.all ⟨hlt, by rw [hvn]; exact hS, by rw [hpn]; exact hH2⟩)
    rw [hsp] at hs
    clear hR hK htk hqs hB hvn hsp hpn hN
    generalize p ++ q.take j = P at *
    generalize vB (q.take j) = v at *
    generalize q.drop (j + 1) ++ z = z2 at *
    cases hH with
    | @mk a lv n N hRA ha hBd =>
      cases hBd with
      | @mk pp sv M hpp hbuf =>
        have h53 : ∀ (K2 : Value → Heap → Prop), ((stf P).out.length ≤ s.length → K2 (.tuple ⟨[]⟩) (rdB r s (stf P).out.length (stf P).lv (stf P).n pp sv :: M)) → SCalls Tryz.prog 65 [ptr r] (rdB r s a lv n pp sv :: M) K2 := fun K2 hk => SCalls.at0 (c65 hs hpB hRA ha (fun h => hk h))
        have hbt := body_at (p := P) (z := z2) (b := b) (u := u)
        have h4 := (St.ok P).1
        have h65 : (stf P).out.length ≤ s.length → ∀ (K2 : Value → Heap → Prop), ((stf P).out.length < s.length → K2 (.int .u8 (b.toNat : Int)) (rdB r s ((stf P).out.length + 1) b.toNat (tk (stf P).lv (stf P).n b.toNat) pp sv :: M)) → SCalls Tryz.prog 80 [ptr r] (rdB r s (stf P).out.length (stf P).lv (stf P).n pp sv :: M) K2 :=
          fun ha K2 hk => SCalls.at0 (c80 ha hs.lim (by omega) (hs.same hbt) (hs.dies hbt) (fun h => hk h))
        have h66 : ∀ (K2 : Value → Heap → Prop), (∀ N', Bld 104 r (rdC s ((stf P).out.length + 1) b.toNat (tk (stf P).lv (stf P).n b.toNat)) (P ++ [b]) N' → K2 .nilIface N') → SCalls Tryz.prog 81 [.pointer (some ⟨r, 4, none⟩), .int .u8 (b.toNat : Int)] (rdB r s ((stf P).out.length + 1) b.toNat (tk (stf P).lv (stf P).n b.toNat) pp sv :: M) K2 :=
          fun K2 hk => SCalls.calm (c81 (T := 104) (pre := rdC s ((stf P).out.length + 1) b.toNat (tk (stf P).lv (stf P).n b.toNat)) bt73 (.mk hpp hbuf) (by omega) hk)
        have hnx : (stf P).out.length < s.length → ∀ N', Bld 104 r (rdC s ((stf P).out.length + 1) b.toNat (tk (stf P).lv (stf P).n b.toNat)) (P ++ [b]) N' → RdH s r (P ++ [b]) N' := fun h N' hb => .mk (RdAt.more P b) h hb
        have hb2 := isB_cases hbB
        have e1 := shl1 hvl
        have e2 : bitOr .u64 ((v * 2 : Nat) : Int) ((b.toNat : Int) - 48) = ((v * 2 + (b.toNat - 48) : Nat) : Int) := by
          have := or1 (d := b.toNat - 48) hvl (by omega)
          rw [show ((b.toNat - 48 : Nat) : Int) = (b.toNat : Int) - 48 by omega] at this
          exact this
        have ej : ((j + 1 : Nat) : Int) = (j : Int) + 1 := by omega
        rw [ej] at hnext
        clear hbuf hs
        repeat' ((conv => whnf); (first | refine Branch.dt (by omega) ?_ | refine h53 _ (fun hle => ?_) | with_reducible refine h65 hle _ (fun hlt2 => ?_) | with_reducible refine h66 _ (fun N' hN' => ?_) | with_reducible refine Val.to _ e1 ?_ | with_reducible refine Val.to _ e2 ?_ | exact hnext _ _ .mk (hnx hlt2 _ hN') | refine New.mk (fun _ => ?_) | refine Look.at0 ?_ | refine Cell.row ?_ | refine Cell.buf ?_ | refine Cells.row rfl ?_ | refine Put.row rfl ?_ | refine Put.buf rfl ?_ | refine Look.at1 ?_ | refine Look.at2 ?_ | refine Look.at3 ?_ | refine Look.at4 ?_ | refine Look.at5 ?_ | refine Look.at6 ?_ | refine Look.at7 ?_ | refine Look.at8 ?_ | with_reducible refine Val.i64 (by omega) (by omega) ?_ | with_reducible refine Val.u8 (by omega) (by omega) ?_ | with_reducible refine Val.u32 (by omega) (by omega) ?_ | with_reducible refine Val.u64 (by omega) (by omega) ?_ | with_reducible refine Val.u8m ?_ | with_reducible refine Val.u32m ?_ | with_reducible refine Val.u64m ?_ | with_reducible refine Val.shr8 ?_ | with_reducible refine Val.shr16 (by decide) ?_ | with_reducible refine Val.shr24 (by decide) ?_ | with_reducible refine Val.raw ?_ | refine Branch.not ?_ | refine Branch.and ?_ | refine Branch.or ?_ | refine Branch.dt (by assumption) ?_ | refine Branch.df (by assumption) ?_ | refine Branch.dt rfl ?_ | refine Branch.dt (by omega) ?_ | refine Branch.df (by omega) ?_ | refine Branch.t rfl ?_ | refine Branch.f rfl ?_ | refine Branch.t (by assumption) ?_ | refine Branch.f (by assumption) ?_ | refine Branch.d (fun _ => ?_) (fun _ => ?_) | refine Branch.mk (fun _ => ?_) (fun _ => ?_) | refine Need.mk (by first | omega | decide | rfl) ?_ | refine Idx.nat (by omega) ?_ | refine Idx.auto (by first | omega | decide) (by first | omega | decide) ?_ | refine Cell.ro rfl ?_ | refine SDraw.all (by kernel_rfl) ?_ | refine Kept.k0 ?_ | refine Kept.k1 ?_ | refine Kept.k2 ?_ | refine Kept.k3 ?_ | refine Kept.k4 ?_))
  · obtain rfl : j = k := by omega
    rw [List.take_of_length_le (by omega)] at hH
    have hk2 := hK _ hH
    rw [List.take_of_length_le (by omega)]
    clear hR hK
    repeat' ((conv => whnf); (first | refine Branch.df (by omega) ?_ | exact Keep.all hk2 | refine New.mk (fun _ => ?_) | refine Look.at0 ?_ | refine Cell.row ?_ | refine Cell.buf ?_ | refine Cells.row rfl ?_ | refine Put.row rfl ?_ | refine Put.buf rfl ?_ | refine Look.at1 ?_ | refine Look.at2 ?_ | refine Look.at3 ?_ | refine Look.at4 ?_ | refine Look.at5 ?_ | refine Look.at6 ?_ | refine Look.at7 ?_ | refine Look.at8 ?_ | with_reducible refine Val.i64 (by omega) (by omega) ?_ | with_reducible refine Val.u8 (by omega) (by omega) ?_ | with_reducible refine Val.u32 (by omega) (by omega) ?_ | with_reducible refine Val.u64 (by omega) (by omega) ?_ | with_reducible refine Val.u8m ?_ | with_reducible refine Val.u32m ?_ | with_reducible refine Val.u64m ?_ | with_reducible refine Val.shr8 ?_ | with_reducible refine Val.shr16 (by decide) ?_ | with_reducible refine Val.shr24 (by decide) ?_ | with_reducible refine Val.raw ?_ | refine Branch.not ?_ | refine Branch.and ?_ | refine Branch.or ?_ | refine Branch.dt (by assumption) ?_ | refine Branch.df (by assumption) ?_ | refine Branch.dt rfl ?_ | refine Branch.dt (by omega) ?_ | refine Branch.df (by omega) ?_ | refine Branch.t rfl ?_ | refine Branch.f rfl ?_ | refine Branch.t (by assumption) ?_ | refine Branch.f (by assumption) ?_ | refine Branch.d (fun _ => ?_) (fun _ => ?_) | refine Branch.mk (fun _ => ?_) (fun _ => ?_) | refine Need.mk (by first | omega | decide | rfl) ?_ | refine Idx.nat (by omega) ?_ | refine Idx.auto (by first | omega | decide) (by first | omega | decide) ?_ | refine Cell.ro rfl ?_ | refine SDraw.all (by kernel_rfl) ?_ | refine Kept.k0 ?_ | refine Kept.k1 ?_ | refine Kept.k2 ?_ | refine Kept.k3 ?_ | refine Kept.k4 ?_))
end
end Go.Proofs.YtiaginlnapiijaaGreatDoor


/- Ported (port.py) from FmG. -/
set_option linter.unusedVariables false
set_option linter.unusedSimpArgs false
set_option maxRecDepth 100000
set_option maxHeartbeats 4000000
namespace Go.Proofs.YtiaginlnapiijaaGreatDoor
open Sx
theorem bodyB_ok (f : Fm) : ∀ b ∈ bodyB f, isB b = true := by
  intro b hb
  rcases List.mem_append.1 hb with h | h
  · exact sumB_ok _ _ h
  · exact numB_ok _ _ _ h
section
variable [Dies] {K : Value → Heap → Prop} {r : Nat} {s p q z u body t : List UInt8} {N : Heap} {x y : Nat × Blk}
/-- Bits are taken from a body. -/
theorem m52 {k : Nat} (hs : Src s ((stf body).out ++ u)) (hsp : body = p ++ q ++ z) (hq : q.length = k) (hk : k ≤ 18) (hB : ∀ b ∈ body, isB b = true) (hl : body.length ≤ 118) (hN : RdH s r p N)
    (hK : ∀ N', RdH s r (p ++ q) N' → K (.int .u64 (vB q : Int)) (x :: y :: N')) : SCalls Tryz.prog 64 [ptr r, .int .i64 (k : Int)] (x :: y :: N) K := by
  rw [hsp] at hs
  refine SCalls.under [x, y] (c64 hs hq hk (fun b hb => hB b (by rw [hsp]; exact List.mem_append_left _ hb)) ?_ hN hK)
  rw [hsp] at hl
  simp only [List.length_append] at hl
  omega
/-- What was put in behind the body's last bit is left out. -/
theorem m53 (hs : Src s ((stf p).out ++ u)) (hB : ∀ b ∈ p, isB b = true) (hN : RdH s r p N) (hK : ∀ N', RdD s r p 0 N' → K (.tuple ⟨[]⟩) (x :: y :: N')) : SCalls Tryz.prog 65 [ptr r] (x :: y :: N) K := by
  have hs : Src s ((stf (p ++ [])).out ++ u) := by rwa [List.append_nil]
  refine SCalls.under [x, y] ?_
  cases hN with
  | @mk a lv n N hRA ha hBd =>
    cases hBd with
    | @mk pp sv M hpp hbuf =>
      exact SCalls.at0 (c65 hs hB hRA ha (fun h => hK _ (.mk (lv := (stf p).lv) (n := (stf p).n) rfl h (.mk hpp hbuf))))
/-- The reader's text. -/
theorem m34 (hN : RdH s r p N) (hK : ∀ N', RdH s r p N' → K (.string (strOf p)) (x :: y :: N')) : SCalls Tryz.prog 34 [.pointer (some ⟨r, 4, none⟩)] (x :: y :: N) K := by
  refine SCalls.under [x, y] ?_
  cases hN with
  | @mk a lv n N hRA ha hBd => exact SCalls.calm (c34 (T := 104) (pre := rdC s a lv n) hBd (fun N' h => hK _ (.mk hRA ha h)))
/-- A bit behind the body. -/
theorem m54 {k : Nat} {e : Int} {b c : UInt8} (hs : Src s t) (hN : RdD s r p k N) (hb : t[(stf p).out.length + k]? = some b) (hD2 : (stf p).out.length + k < s.length → ¬ b = c → Dies.D (wrg ((stf p).out.length + k : Nat) e))
    (hK : ∀ N', b = c → RdD s r p (k + 1) N' → K (.tuple ⟨[]⟩) N') : SCalls Tryz.prog 66 [ptr r, .int .u8 (c.toNat : Int), .int .i64 e] N K := by
  cases hN with
  | @mk a lv n N ha0 ha hBd =>
    subst ha0
    cases hBd with
    | @mk pp sv M hpp hbuf =>
      exact SCalls.at0 (c66 (by omega) hs.lim (hs.same hb) (hs.dies hb) hD2 (fun h e => hK _ e (.mk (lv := lv) (n := n) rfl h (.mk hpp hbuf))))
end
inductive S38 (A0 A2 A3 A54 A55 : Value) : List Value → Prop
  | mk {r1 r4 r5 r6 r7 r8 r9 r10 r11 r12 r13 r14 r15 r16 r17 r18 r19 r20 r21 r22 r23 r24 r25 r26 r27 r28 r29 r30 r31 r32 r33 r34 r35 r36 r37 r38 r39 r40 r41 r42 r43 r44 r45 r46 r47 r48 r49 r50 r51 r52 r53 r56 r57 r58 r59 r60 r61 r62 r63 r64 r65 r66 r67 r68 r69 r70 r71 r72 r73 r74 r75 r76 r77 r78 r79 r80 r81 r82 r83 r84 r85 r86 r87 r88 r89 r90 r91 r92 r93 r94 r95 r96 : Value} : S38 A0 A2 A3 A54 A55 [A0, r1, A2, A3, r4, r5, r6, r7, r8, r9, r10, r11, r12, r13, r14, r15, r16, r17, r18, r19, r20, r21, r22, r23, r24, r25, r26, r27, r28, r29, r30, r31, r32, r33, r34, r35, r36, r37, r38, r39, r40, r41, r42, r43, r44, r45, r46, r47, r48, r49, r50, r51, r52, r53, A54, A55, r56, r57, r58, r59, r60, r61, r62, r63, r64, r65, r66, r67, r68, r69, r70, r71, r72, r73, r74, r75, r76, r77, r78, r79, r80, r81, r82, r83, r84, r85, r86, r87, r88, r89, r90, r91, r92, r93, r94, r95, r96]
inductive T37 (A0 A2 A3 A91 : Value) : List Value → Prop
  | mk {r1 r4 r5 r6 r7 r8 r9 r10 r11 r12 r13 r14 r15 r16 r17 r18 r19 r20 r21 r22 r23 r24 r25 r26 r27 r28 r29 r30 r31 r32 r33 r34 r35 r36 r37 r38 r39 r40 r41 r42 r43 r44 r45 r46 r47 r48 r49 r50 r51 r52 r53 r54 r55 r56 r57 r58 r59 r60 r61 r62 r63 r64 r65 r66 r67 r68 r69 r70 r71 r72 r73 r74 r75 r76 r77 r78 r79 r80 r81 r82 r83 r84 r85 r86 r87 r88 r89 r90 r92 r93 r94 r95 r96 : Value} : T37 A0 A2 A3 A91 [A0, r1, A2, A3, r4, r5, r6, r7, r8, r9, r10, r11, r12, r13, r14, r15, r16, r17, r18, r19, r20, r21, r22, r23, r24, r25, r26, r27, r28, r29, r30, r31, r32, r33, r34, r35, r36, r37, r38, r39, r40, r41, r42, r43, r44, r45, r46, r47, r48, r49, r50, r51, r52, r53, r54, r55, r56, r57, r58, r59, r60, r61, r62, r63, r64, r65, r66, r67, r68, r69, r70, r71, r72, r73, r74, r75, r76, r77, r78, r79, r80, r81, r82, r83, r84, r85, r86, r87, r88, r89, r90, A91, r92, r93, r94, r95, r96]
abbrev zRow : Blk := .row 39 [.int .u32 0, .bool false, .bool false, .int .i64 0, .int .u8 0, .int .u8 0, .int .u8 0, .int .u8 0, .int .u8 0, .int .u8 0, .int .u8 0, .int .u8 0] (0, 0)
section
variable [Dies] {r q2 q3 : Nat} {s u : List UInt8} {f : Fm} {N0 : Heap} {S0 : List Value} {Q : Post}
theorem l37 (hs : Src s ((stf (bodyB f)).out ++ u)) (hN : RdH s r (hdB f) N0) (hS : S38 (ptr r) (ptr q2) (ptr q3) (.int .i64 (nb f : Int)) (.int .i64 0) S0)
    (hQ : ∀ S N, RdH s r (sumB f) N → S38 (ptr r) (ptr q2) (ptr q3) (.int .i64 (nb f : Int)) (.int .i64 (nb f : Int)) S → Q (.exit 0) S ((q3, .row 39 (frC (plF f)) (0, 0)) :: (q2, zRow) :: N)) :
    SLoop Tryz.prog X38_l1 Q S0 ((q3, .row 39 (frC (zs f 0 8)) (0, 0)) :: (q2, zRow) :: N0) := by
  have hnb := nb_le f
  refine SLoop.invA (fun (k : Nat) S H' => k ≤ nb f ∧ S38 (ptr r) (ptr q2) (ptr q3) (.int .i64 (nb f : Int)) (.int .i64 (k : Int)) S ∧ ∃ N, RdH s r (hdB f ++ datB f k) N ∧ H' = (q3, .row 39 (frC (zs f k 8)) (0, 0)) :: (q2, zRow) :: N) (fun k => nb f - k) 0 (Keep.all ⟨Nat.zero_le _, hS, N0, by simpa [datB] using hN, rfl⟩) ?_
  rintro k S H' ⟨hk, hS, N, hN, rfl⟩ R hR
  cases hS
  by_cases hlt : k < nb f
  · have h8 : k < 8 := by omega
    obtain ⟨z, hz⟩ := datB_split f hlt hnb
    have hsp : bodyB f = (hdB f ++ datB f k) ++ numB 8 ((dB f).getD k 0).toNat ++ (z ++ numB 15 (crc (sumB f))) := by
      unfold bodyB
      conv => lhs; lhs; unfold sumB; rw [hz]
      simp [List.append_assoc]
    have hst := datB_step f h8
    have h52 : ∀ (K2 : Value → Heap → Prop), (∀ N', RdH s r (hdB f ++ datB f (k + 1)) N' → K2 (.int .u64 (((dB f).getD k 0).toNat : Int)) ((q3, .row 39 (frC (zs f k 8)) (0, 0)) :: (q2, zRow) :: N')) →
        SCalls Tryz.prog 64 [ptr r, .int .i64 8] ((q3, .row 39 (frC (zs f k 8)) (0, 0)) :: (q2, zRow) :: N) K2 := fun K2 hk2 =>
      m52 (k := 8) hs hsp (numB_len _ _) (by decide) (bodyB_ok f) (bodyB_len f) hN (fun N' h => by
        rw [vB_byte]
        exact hk2 N' (by rw [hst, ← List.append_assoc]; exact h))
    have hput : PutOk (.row 39 (frC (zs f k 8)) (0, 0)) (4 + k * 1) [b8 ((dB f).getD k 0)] (.row 39 (frC (zs f (k + 1) 8)) (0, 0)) := PutOk.row (by show 4 + k * 1 + 1 ≤ 12; omega) (by
      rw [← zs_step f h8, ← set_cut (show 4 + k < 12 by omega), Nat.mul_one]; rfl)
    have hnext := fun S N' (h1 : RdH s r (hdB f ++ datB f (k + 1)) N') hS => hR (k + 1) S _ (by omega) (Keep.all ⟨hlt, hS, N', h1, rfl⟩)
    have h256 : ((dB f).getD k 0).toNat < 256 := u8_lt _
    generalize (dB f).getD k 0 = d at *
    have hu8 : IntKind.u8.wrap (d.toNat : Int) = (d.toNat : Int) := by rw [wrap_u8]; omega
    clear hR hQ hsp hz hs hst hN
    repeat' ((conv => whnf); (first | refine Branch.dt (by omega) ?_ | with_reducible refine h52 _ (fun N' hN' => ?_) | with_reducible refine Val.to _ hu8 ?_ | refine Idx.nat h8 ?_ | refine ⟨[], _, _, rfl, _, hput, appK_to ?_⟩ | exact hnext _ _ hN' .mk | refine New.mk (fun _ => ?_) | refine Look.at0 ?_ | refine Cell.row ?_ | refine Cell.buf ?_ | refine Cells.row rfl ?_ | refine Put.row rfl ?_ | refine Put.buf rfl ?_ | refine Look.at1 ?_ | refine Look.at2 ?_ | refine Look.at3 ?_ | refine Look.at4 ?_ | refine Look.at5 ?_ | refine Look.at6 ?_ | refine Look.at7 ?_ | refine Look.at8 ?_ | with_reducible refine Val.i64 (by omega) (by omega) ?_ | with_reducible refine Val.u8 (by omega) (by omega) ?_ | with_reducible refine Val.u32 (by omega) (by omega) ?_ | with_reducible refine Val.u64 (by omega) (by omega) ?_ | with_reducible refine Val.u8m ?_ | with_reducible refine Val.u32m ?_ | with_reducible refine Val.u64m ?_ | with_reducible refine Val.shr8 ?_ | with_reducible refine Val.shr16 (by decide) ?_ | with_reducible refine Val.shr24 (by decide) ?_ | with_reducible refine Val.raw ?_ | refine Branch.not ?_ | refine Branch.and ?_ | refine Branch.or ?_ | refine Branch.dt (by assumption) ?_ | refine Branch.df (by assumption) ?_ | refine Branch.dt rfl ?_ | refine Branch.dt (by omega) ?_ | refine Branch.df (by omega) ?_ | refine Branch.t rfl ?_ | refine Branch.f rfl ?_ | refine Branch.t (by assumption) ?_ | refine Branch.f (by assumption) ?_ | refine Branch.d (fun _ => ?_) (fun _ => ?_) | refine Branch.mk (fun _ => ?_) (fun _ => ?_) | refine Need.mk (by first | omega | decide | rfl) ?_ | refine Idx.nat (by omega) ?_ | refine Idx.auto (by first | omega | decide) (by first | omega | decide) ?_ | refine Cell.ro rfl ?_ | refine SDraw.all (by kernel_rfl) ?_ | refine Kept.k0 ?_ | refine Kept.k1 ?_ | refine Kept.k2 ?_ | refine Kept.k3 ?_ | refine Kept.k4 ?_))
  · obtain rfl : k = nb f := by omega
    have hq := fun S => hQ S N hN
    clear hR hQ
    repeat' ((conv => whnf); (first | refine Branch.df (by omega) ?_ | exact Keep.all (hq _ .mk) | exact hq _ .mk | refine New.mk (fun _ => ?_) | refine Look.at0 ?_ | refine Cell.row ?_ | refine Cell.buf ?_ | refine Cells.row rfl ?_ | refine Put.row rfl ?_ | refine Put.buf rfl ?_ | refine Look.at1 ?_ | refine Look.at2 ?_ | refine Look.at3 ?_ | refine Look.at4 ?_ | refine Look.at5 ?_ | refine Look.at6 ?_ | refine Look.at7 ?_ | refine Look.at8 ?_ | with_reducible refine Val.i64 (by omega) (by omega) ?_ | with_reducible refine Val.u8 (by omega) (by omega) ?_ | with_reducible refine Val.u32 (by omega) (by omega) ?_ | with_reducible refine Val.u64 (by omega) (by omega) ?_ | with_reducible refine Val.u8m ?_ | with_reducible refine Val.u32m ?_ | with_reducible refine Val.u64m ?_ | with_reducible refine Val.shr8 ?_ | with_reducible refine Val.shr16 (by decide) ?_ | with_reducible refine Val.shr24 (by decide) ?_ | with_reducible refine Val.raw ?_ | refine Branch.not ?_ | refine Branch.and ?_ | refine Branch.or ?_ | refine Branch.dt (by assumption) ?_ | refine Branch.df (by assumption) ?_ | refine Branch.dt rfl ?_ | refine Branch.dt (by omega) ?_ | refine Branch.df (by omega) ?_ | refine Branch.t rfl ?_ | refine Branch.f rfl ?_ | refine Branch.t (by assumption) ?_ | refine Branch.f (by assumption) ?_ | refine Branch.d (fun _ => ?_) (fun _ => ?_) | refine Branch.mk (fun _ => ?_) (fun _ => ?_) | refine Need.mk (by first | omega | decide | rfl) ?_ | refine Idx.nat (by omega) ?_ | refine Idx.auto (by first | omega | decide) (by first | omega | decide) ?_ | refine Cell.ro rfl ?_ | refine SDraw.all (by kernel_rfl) ?_ | refine Kept.k0 ?_ | refine Kept.k1 ?_ | refine Kept.k2 ?_ | refine Kept.k3 ?_ | refine Kept.k4 ?_))
theorem l37b {qi : Nat} {F : Nat × Blk} {t p : List UInt8} {S0 : List Value} (hs : Src s t) (hN : RdD s r p 2 N0) (ht : ∀ j, j < 8 → t[(stf p).out.length + (2 + j)]? = some 49) (hS : T37 (ptr r) (ptr q2) (ptr q3) (ptr qi) S0)
    (hQ : ∀ S N, RdD s r p 10 N → T37 (ptr r) (ptr q2) (ptr q3) (ptr qi) S → Q (.exit 2) S ((qi, sIter (strOf (List.replicate 8 49)) 8) :: F :: (q2, zRow) :: N)) :
    SLoop Tryz.prog X38_l0 Q S0 ((qi, sIter (strOf (List.replicate 8 49)) 0) :: F :: (q2, zRow) :: N0) := by
  refine SLoop.invA (fun (j : Nat) S H' => j ≤ 8 ∧ T37 (ptr r) (ptr q2) (ptr q3) (ptr qi) S ∧ ∃ N, RdD s r p (2 + j) N ∧ H' = (qi, sIter (strOf (List.replicate 8 49)) j) :: F :: (q2, zRow) :: N) (fun j => 8 - j) 0 (Keep.all ⟨Nat.zero_le _, hS, N0, hN, rfl⟩) ?_
  rintro j S H' ⟨hj, hS, N, hN, rfl⟩ R hR
  cases hS
  have h128 : ∀ b ∈ List.replicate 8 (49 : UInt8), b.toNat < 128 := by decide
  by_cases hlt : j < 8
  · have hx : (List.replicate 8 (49 : UInt8))[j]? = some 49 := by
      rw [List.getElem?_replicate, if_pos hlt]
    have hnx : ∀ (K2 : Value → Heap → Prop), K2 (.tuple ⟨[.bool true, .int .i64 (j : Int), .int .i32 49]⟩) ((qi, sIter (strOf (List.replicate 8 49)) (j + 1)) :: F :: (q2, zRow) :: N) → ∀ o xm, Oper.op o = .next xm true → RawV Tryz.prog o [ptr qi] ((qi, sIter (strOf (List.replicate 8 49)) j) :: F :: (q2, zRow) :: N) K2 := fun K2 hk o xm ho =>
      RawV.nextS0 ho h128 (fun h => by simp at h; omega) (fun b2 hb2 => by rw [hx] at hb2; injection hb2 with hb2; subst hb2; exact hk)
    have h54 : ∀ (A : Nat × Blk) (K2 : Value → Heap → Prop), (∀ N', RdD s r p (2 + (j + 1)) N' → K2 (.tuple ⟨[]⟩) (A :: F :: (q2, zRow) :: N')) → SCalls Tryz.prog 66 [ptr r, .int .u8 49, .int .i64 22] (A :: F :: (q2, zRow) :: N) K2 := fun A K2 hk =>
      SCalls.under [A, F, (q2, zRow)] (m54 (c := 49) hs hN (ht j hlt) (fun _ h => absurd rfl h) (fun N' _ h => hk N' h))
    have hnext := fun S N' (h1 : RdD s r p (2 + (j + 1)) N') hS => hR (j + 1) S _ (by omega) (Keep.all ⟨hlt, hS, N', h1, rfl⟩)
    clear hR hQ
    repeat' ((conv => whnf); (first | with_reducible refine hnx _ ?_ _ _ rfl | with_reducible refine h54 _ _ (fun N' hN' => ?_) | exact hnext _ _ hN' .mk | refine New.mk (fun _ => ?_) | refine Look.at0 ?_ | refine Cell.row ?_ | refine Cell.buf ?_ | refine Cells.row rfl ?_ | refine Put.row rfl ?_ | refine Put.buf rfl ?_ | refine Look.at1 ?_ | refine Look.at2 ?_ | refine Look.at3 ?_ | refine Look.at4 ?_ | refine Look.at5 ?_ | refine Look.at6 ?_ | refine Look.at7 ?_ | refine Look.at8 ?_ | with_reducible refine Val.i64 (by omega) (by omega) ?_ | with_reducible refine Val.u8 (by omega) (by omega) ?_ | with_reducible refine Val.u32 (by omega) (by omega) ?_ | with_reducible refine Val.u64 (by omega) (by omega) ?_ | with_reducible refine Val.u8m ?_ | with_reducible refine Val.u32m ?_ | with_reducible refine Val.u64m ?_ | with_reducible refine Val.shr8 ?_ | with_reducible refine Val.shr16 (by decide) ?_ | with_reducible refine Val.shr24 (by decide) ?_ | with_reducible refine Val.raw ?_ | refine Branch.not ?_ | refine Branch.and ?_ | refine Branch.or ?_ | refine Branch.dt (by assumption) ?_ | refine Branch.df (by assumption) ?_ | refine Branch.dt rfl ?_ | refine Branch.dt (by omega) ?_ | refine Branch.df (by omega) ?_ | refine Branch.t rfl ?_ | refine Branch.f rfl ?_ | refine Branch.t (by assumption) ?_ | refine Branch.f (by assumption) ?_ | refine Branch.d (fun _ => ?_) (fun _ => ?_) | refine Branch.mk (fun _ => ?_) (fun _ => ?_) | refine Need.mk (by first | omega | decide | rfl) ?_ | refine Idx.nat (by omega) ?_ | refine Idx.auto (by first | omega | decide) (by first | omega | decide) ?_ | refine Cell.ro rfl ?_ | refine SDraw.all (by kernel_rfl) ?_ | refine Kept.k0 ?_ | refine Kept.k1 ?_ | refine Kept.k2 ?_ | refine Kept.k3 ?_ | refine Kept.k4 ?_))
  · obtain rfl : j = 8 := by omega
    have hq := fun S => hQ S N hN
    have hnx : ∀ (K2 : Value → Heap → Prop), K2 (.tuple ⟨[.bool false]⟩) ((qi, sIter (strOf (List.replicate 8 49)) 8) :: F :: (q2, zRow) :: N) → ∀ o xm, Oper.op o = .next xm true → RawV Tryz.prog o [ptr qi] ((qi, sIter (strOf (List.replicate 8 49)) 8) :: F :: (q2, zRow) :: N) K2 := fun K2 hk o xm ho =>
      RawV.nextS0 ho h128 (fun h => hk) (fun b2 hb2 => by simp [List.getElem?_replicate] at hb2)
    clear hR hQ
    repeat' ((conv => whnf); (first | with_reducible refine hnx _ ?_ _ _ rfl | exact hq _ .mk | refine New.mk (fun _ => ?_) | refine Look.at0 ?_ | refine Cell.row ?_ | refine Cell.buf ?_ | refine Cells.row rfl ?_ | refine Put.row rfl ?_ | refine Put.buf rfl ?_ | refine Look.at1 ?_ | refine Look.at2 ?_ | refine Look.at3 ?_ | refine Look.at4 ?_ | refine Look.at5 ?_ | refine Look.at6 ?_ | refine Look.at7 ?_ | refine Look.at8 ?_ | with_reducible refine Val.i64 (by omega) (by omega) ?_ | with_reducible refine Val.u8 (by omega) (by omega) ?_ | with_reducible refine Val.u32 (by omega) (by omega) ?_ | with_reducible refine Val.u64 (by omega) (by omega) ?_ | with_reducible refine Val.u8m ?_ | with_reducible refine Val.u32m ?_ | with_reducible refine Val.u64m ?_ | with_reducible refine Val.shr8 ?_ | with_reducible refine Val.shr16 (by decide) ?_ | with_reducible refine Val.shr24 (by decide) ?_ | with_reducible refine Val.raw ?_ | refine Branch.not ?_ | refine Branch.and ?_ | refine Branch.or ?_ | refine Branch.dt (by assumption) ?_ | refine Branch.df (by assumption) ?_ | refine Branch.dt rfl ?_ | refine Branch.dt (by omega) ?_ | refine Branch.df (by omega) ?_ | refine Branch.t rfl ?_ | refine Branch.f rfl ?_ | refine Branch.t (by assumption) ?_ | refine Branch.f (by assumption) ?_ | refine Branch.d (fun _ => ?_) (fun _ => ?_) | refine Branch.mk (fun _ => ?_) (fun _ => ?_) | refine Need.mk (by first | omega | decide | rfl) ?_ | refine Idx.nat (by omega) ?_ | refine Idx.auto (by first | omega | decide) (by first | omega | decide) ?_ | refine Cell.ro rfl ?_ | refine SDraw.all (by kernel_rfl) ?_ | refine Kept.k0 ?_ | refine Kept.k1 ?_ | refine Kept.k2 ?_ | refine Kept.k3 ?_ | refine Kept.k4 ?_))
end
end Go.Proofs.YtiaginlnapiijaaGreatDoor


/- Ported (port.py) from FmH. -/
set_option linter.unusedVariables false
set_option linter.unusedSimpArgs false
set_option maxRecDepth 100000
set_option maxHeartbeats 4000000
namespace Go.Proofs.YtiaginlnapiijaaGreatDoor
open Sx
/-- A bit's number. -/
def bN (b : Bool) : Nat := if b then 1 else 0
theorem vB_fb (b : Bool) : vB [fb b] = bN b := by cases b <;> rfl
theorem bN_one (b : Bool) : decide ((bN b : Int) = 1) = b := by cases b <;> rfl
theorem bN_lt (b : Bool) : bN b < 2 := by cases b <;> decide
/-- What stands behind the head. -/
def restB (f : Fm) : List UInt8 := datB f (nb f) ++ numB 15 (crc (sumB f))
theorem body_rest (f : Fm) : bodyB f = hdB f ++ restB f := by
  unfold bodyB restB
  conv => lhs; lhs; unfold sumB
  simp [List.append_assoc]
theorem idOr {i1 i2 : Nat} (h1 : i1 < 2048) (h2 : i2 < 262144) : shlI .u32 (i1 : Int) 18 = ((i1 * 262144 : Nat) : Int) ∧ bitOr .u32 ((i1 * 262144 : Nat) : Int) (i2 : Int) = ((i1 * 262144 + i2 : Nat) : Int) := by
  constructor
  · have := shl_nat (k := .u32) rfl (a := i1) (n := 18) (by decide)
    rw [Nat.mod_eq_of_lt (show i1 * 2 ^ 18 < 2 ^ IntKind.u32.bits by show i1 * 262144 < 4294967296; omega)] at this
    exact this
  · rw [bitOr_nat rfl (by show i1 * 262144 < 4294967296; omega) (by show i2 < 4294967296; omega)]
    congr 1
    have := Nat.two_pow_add_eq_or_of_lt (i := 18) (b := i2) h2 i1
    rw [show 2 ^ 18 * i1 = i1 * 262144 by omega] at this
    omega
section
variable [Dies] {K : Value → Heap → Prop} {r : Nat} {s u : List UInt8} {f : Fm} {ack : Bool} {N0 : Heap}
theorem c38 (hok : okF f = true) (hs : Src s (encB f ack ++ u)) (hN : RdH s r [] N0) (hD2 : ack = false → (stf (bodyB f)).out.length + 1 < s.length → Dies.D (wrg ((stf (bodyB f)).out.length + 1 : Nat) 23))
    (hK : ack = true → ∀ N', RdD s r (bodyB f) 10 N' → K (frV (plF f)) N') : SCalls Tryz.prog 38 [ptr r] N0 K := by
  have hs' : Src s ((stf (bodyB f)).out ++ ([49, fb (!ack)] ++ List.replicate 8 49 ++ u)) := by
    have e : encB f ack ++ u = (stf (bodyB f)).out ++ ([49, fb (!ack)] ++ List.replicate 8 49 ++ u) := by unfold encB; simp [List.append_assoc]
    rwa [e] at hs
  have ht : ∀ k, (encB f ack ++ u)[(stf (bodyB f)).out.length + k]? = ([49, fb (!ack)] ++ List.replicate 8 49 ++ u)[k]? := fun k => by
    have e : encB f ack ++ u = (stf (bodyB f)).out ++ ([49, fb (!ack)] ++ List.replicate 8 49 ++ u) := by unfold encB; simp [List.append_assoc]
    rw [e, List.getElem?_append_right (by omega), Nat.add_sub_cancel_left]
  have ht0 : (encB f ack ++ u)[(stf (bodyB f)).out.length + 0]? = some 49 := by rw [ht]; rfl
  have ht1 : (encB f ack ++ u)[(stf (bodyB f)).out.length + (0 + 1)]? = some (fb (!ack)) := by rw [ht]; rfl
  have ht2 : ∀ j, j < 8 → (encB f ack ++ u)[(stf (bodyB f)).out.length + (2 + j)]? = some 49 := fun j hj => by
    rw [ht]
    rcases lt8 hj with rfl | rfl | rfl | rfl | rfl | rfl | rfl | rfl <;> rfl
  obtain ⟨hid, hn0, hn1⟩ := okF_bd hok
  have hnn : (f.n.toNat : Int) = f.n := Int.toNat_of_nonneg hn0
  have hn15 : f.n.toNat ≤ 15 := by omega
  have hn16 : vB (numB 4 f.n.toNat) = f.n.toNat := vB_numB 4 _ (by omega)
  have h52 : ∀ (k : Nat) (p q z : List UInt8) (x y : Nat × Blk) N (K2 : Value → Heap → Prop), RdH s r p N → bodyB f = p ++ q ++ z → q.length = k → k ≤ 18 → (∀ N', RdH s r (p ++ q) N' → K2 (.int .u64 (vB q : Int)) (x :: y :: N')) → SCalls Tryz.prog 64 [ptr r, .int .i64 (k : Int)] (x :: y :: N) K2 :=
    fun k p q z x y N K2 hN hsp hq hk hk2 => m52 hs' hsp hq hk (bodyB_ok f) (bodyB_len f) hN hk2
  have hcr := crc_lt (sumB f)
  have h27 : ∀ H (K2 : Value → Heap → Prop), K2 (.tuple ⟨[.int .u16 (crc (sumB f) : Int), .int .i64 0]⟩) H → SCalls Tryz.prog 33 [.string (strOf (sumB f))] H K2 := fun H K2 hk => SCalls.calm (c33 (by
    rw [sumB_chk]
    unfold crcV
    rw [if_pos (sumB_chk f)]; exact hk))
  have h34 : ∀ x y N (K2 : Value → Heap → Prop), RdH s r (sumB f) N → (∀ N', RdH s r (sumB f) N' → K2 (.string (strOf (sumB f))) (x :: y :: N')) → SCalls Tryz.prog 34 [.pointer (some ⟨r, 4, none⟩)] (x :: y :: N) K2 := fun x y N K2 h1 h2 => m34 h1 h2
  have h15 : ∀ x y N (K2 : Value → Heap → Prop), RdH s r (sumB f) N → (∀ N', RdH s r (bodyB f) N' → K2 (.int .u64 (crc (sumB f) : Int)) (x :: y :: N')) → SCalls Tryz.prog 64 [ptr r, .int .i64 15] (x :: y :: N) K2 := fun x y N K2 h1 h2 =>
    h52 15 (sumB f) (numB 15 (crc (sumB f))) [] x y N K2 h1 (by unfold bodyB; simp) (numB_len _ _) (by decide) (fun N' h => by rw [vB_numB 15 _ hcr]; exact h2 N' h)
  have h53 : ∀ x y N (K2 : Value → Heap → Prop), RdH s r (bodyB f) N → (∀ N', RdD s r (bodyB f) 0 N' → K2 (.tuple ⟨[]⟩) (x :: y :: N')) → SCalls Tryz.prog 65 [ptr r] (x :: y :: N) K2 := fun x y N K2 h1 h2 => m53 hs' (bodyB_ok f) h1 h2
  have h54 : ∀ x y N (K2 : Value → Heap → Prop), RdD s r (bodyB f) 0 N → (∀ N', RdD s r (bodyB f) 1 N' → K2 (.tuple ⟨[]⟩) (x :: y :: N')) → SCalls Tryz.prog 66 [ptr r, .int .u8 49, .int .i64 22] (x :: y :: N) K2 := fun x y N K2 h1 h2 =>
    SCalls.under [x, y] (m54 (c := 49) hs h1 ht0 (fun _ h => absurd rfl h) (fun N' _ h => h2 N' h))
  have h54b : ∀ x y N (K2 : Value → Heap → Prop), RdD s r (bodyB f) 1 N → (∀ N', ack = true → RdD s r (bodyB f) 2 N' → K2 (.tuple ⟨[]⟩) (x :: y :: N')) → SCalls Tryz.prog 66 [ptr r, .int .u8 48, .int .i64 23] (x :: y :: N) K2 := fun x y N K2 h1 h2 =>
    SCalls.under [x, y] (m54 (c := 48) hs h1 ht1 (fun hl hne => by
      cases ack with
      | true => exact absurd rfl hne
      | false => exact hD2 rfl hl) (fun N' e h => h2 N' (by
        cases ack with
        | true => rfl
        | false => exact absurd e (by decide)) h))
  have hz : ∀ (i m : Int) (b1 b2 : Bool), i = (f.id : Int) → b1 = f.x → b2 = f.r → m = f.n → Blk.row 39 [.int .u32 i, .bool b1, .bool b2, .int .i64 m, .int .u8 0, .int .u8 0, .int .u8 0, .int .u8 0, .int .u8 0, .int .u8 0, .int .u8 0, .int .u8 0] (0, 0) = .row 39 (frC (zs f 0 8)) (0, 0) := by
    rintro i m b1 b2 rfl rfl rfl rfl; rfl
  have h33 : ∀ (i m : Int) (b1 b2 : Bool) H (K2 : Value → Heap → Prop), i = (f.id : Int) → b1 = f.x → b2 = f.r → m = f.n → K2 (.int .i64 (nb f : Int)) H → SCalls Tryz.prog 32 [.agg ⟨[.int .u32 i, .bool b1, .bool b2, .int .i64 m, .int .u8 0, .int .u8 0, .int .u8 0, .int .u8 0, .int .u8 0, .int .u8 0, .int .u8 0, .int .u8 0]⟩] H K2 := by
    rintro i m b1 b2 H K2 rfl rfl rfl rfl hk
    exact SCalls.calm (c32 (f := ⟨f.id, f.x, f.r, f.n, 0, 0, 0, 0, 0, 0, 0, 0⟩) hk)
  have hl37 : ∀ (i m : Int) (b1 b2 : Bool) (q2 q3 : Nat) N S0 (Q : Post), RdH s r (hdB f) N → i = (f.id : Int) → b1 = f.x → b2 = f.r → m = f.n → S38 (ptr r) (ptr q2) (ptr q3) (.int .i64 (nb f : Int)) (.int .i64 0) S0 →
      (∀ S N, RdH s r (sumB f) N → S38 (ptr r) (ptr q2) (ptr q3) (.int .i64 (nb f : Int)) (.int .i64 (nb f : Int)) S → Q (.exit 0) S ((q3, .row 39 (frC (plF f)) (0, 0)) :: (q2, zRow) :: N)) →
      SLoop Tryz.prog X38_l1 Q S0 ((q3, .row 39 [.int .u32 i, .bool b1, .bool b2, .int .i64 m, .int .u8 0, .int .u8 0, .int .u8 0, .int .u8 0, .int .u8 0, .int .u8 0, .int .u8 0, .int .u8 0] (0, 0)) :: (q2, zRow) :: N) := by
    intro i m b1 b2 q2 q3 N S0 Q h1 e1 e2 e3 e4 hS hQ
    rw [hz i m b1 b2 e1 e2 e3 e4]
    exact l37 hs' h1 hS hQ
  have hfin : ack = true → ∀ (x y z : Nat × Blk) N', RdD s r (bodyB f) 10 N' → Keep (x :: y :: z :: N') fun H' => K (frV (plF f)) H' := fun h x y z N' h2 => Keep.d3 (hK h N' h2)
  have hb1 := bN_one f.r
  have hrl := bN_lt f.r
  have hhd := body_rest f
  have hhd2 : hdB f = [48] ++ fld f ++ [48] ++ (if f.x then [48] else []) ++ numB 4 f.n.toNat := rfl
  generalize restB f = rest at *
  clear hK hD2 ht hz hs'
  refine enter38 ?_
  have hokx := hok
  unfold okF at hokx
  simp only [Bool.and_eq_true, decide_eq_true_eq] at hokx
  have hidx := hokx.2
  clear hokx
  unfold fld fldB at hhd2
  cases hx : f.x with
  | true =>
    rw [hx] at hhd2 hidx
    simp only [if_true] at hhd2 hidx
    have hi1 : f.id / 2 ^ 18 < 2 ^ 11 := by omega
    have hi2 : f.id % 2 ^ 18 < 2 ^ 18 := Nat.mod_lt _ (by decide)
    have hi3 : (f.id / 2 ^ 18) * 262144 + f.id % 2 ^ 18 = f.id := by omega
    have hA := vB_numB 11 _ hi1
    have hB := vB_numB 18 _ hi2
    have hAl := numB_len 11 (f.id / 2 ^ 18)
    have hBl := numB_len 18 (f.id % 2 ^ 18)
    have hCl := numB_len 4 f.n.toNat
    have hio := idOr (i1 := f.id / 2 ^ 18) (i2 := f.id % 2 ^ 18) hi1 hi2
    obtain ⟨e1, e2⟩ := hio
    have e3 : bitOr .u32 ((f.id / 2 ^ 18 * 262144 : Nat) : Int) ((f.id % 2 ^ 18 : Nat) : Int) = (f.id : Int) := by rw [e2, hi3]
    clear e2 hi3
    rw [hhd2] at hhd
    generalize f.id / 2 ^ 18 = i1 at *
    generalize f.id % 2 ^ 18 = i2 at *
    generalize numB 11 i1 = A at *
    generalize numB 18 i2 = B at *
    generalize numB 4 f.n.toNat = C at *
    have t1 : ∀ x y N (K2 : Value → Heap → Prop), RdH s r [] N → (∀ N', RdH s r [48] N' → K2 (.int .u64 0) (x :: y :: N')) → SCalls Tryz.prog 64 [ptr r, .int .i64 1] (x :: y :: N) K2 := fun x y N K2 h1 h2 =>
      h52 1 [] [48] (A ++ [49] ++ [49] ++ B ++ [fb f.r] ++ [48] ++ [48] ++ C ++ rest) x y N K2 h1 (by rw [hhd]; simp) rfl (by decide) h2
    have t2 : ∀ x y N (K2 : Value → Heap → Prop), RdH s r [48] N → (∀ N', RdH s r ([48] ++ A) N' → K2 (.int .u64 (i1 : Int)) (x :: y :: N')) → SCalls Tryz.prog 64 [ptr r, .int .i64 11] (x :: y :: N) K2 := fun x y N K2 h1 h2 =>
      h52 11 [48] A ([49] ++ [49] ++ B ++ [fb f.r] ++ [48] ++ [48] ++ C ++ rest) x y N K2 h1 (by rw [hhd]; simp) hAl (by decide) (fun N' h => by rw [hA]; exact h2 N' h)
    have t3 : ∀ x y N (K2 : Value → Heap → Prop), RdH s r ([48] ++ A) N → (∀ N', RdH s r ([48] ++ A ++ [49]) N' → K2 (.int .u64 1) (x :: y :: N')) → SCalls Tryz.prog 64 [ptr r, .int .i64 1] (x :: y :: N) K2 := fun x y N K2 h1 h2 =>
      h52 1 ([48] ++ A) [49] ([49] ++ B ++ [fb f.r] ++ [48] ++ [48] ++ C ++ rest) x y N K2 h1 (by rw [hhd]; simp) rfl (by decide) h2
    have t4 : ∀ x y N (K2 : Value → Heap → Prop), RdH s r ([48] ++ A ++ [49]) N → (∀ N', RdH s r ([48] ++ A ++ [49] ++ [49]) N' → K2 (.int .u64 1) (x :: y :: N')) → SCalls Tryz.prog 64 [ptr r, .int .i64 1] (x :: y :: N) K2 := fun x y N K2 h1 h2 =>
      h52 1 ([48] ++ A ++ [49]) [49] (B ++ [fb f.r] ++ [48] ++ [48] ++ C ++ rest) x y N K2 h1 (by rw [hhd]; simp) rfl (by decide) h2
    have t5 : ∀ x y N (K2 : Value → Heap → Prop), RdH s r ([48] ++ A ++ [49] ++ [49]) N → (∀ N', RdH s r ([48] ++ A ++ [49] ++ [49] ++ B) N' → K2 (.int .u64 (i2 : Int)) (x :: y :: N')) → SCalls Tryz.prog 64 [ptr r, .int .i64 18] (x :: y :: N) K2 := fun x y N K2 h1 h2 =>
      h52 18 ([48] ++ A ++ [49] ++ [49]) B ([fb f.r] ++ [48] ++ [48] ++ C ++ rest) x y N K2 h1 (by rw [hhd]; simp) hBl (by decide) (fun N' h => by rw [hB]; exact h2 N' h)
    have t6 : ∀ x y N (K2 : Value → Heap → Prop), RdH s r ([48] ++ A ++ [49] ++ [49] ++ B) N → (∀ N', RdH s r ([48] ++ A ++ [49] ++ [49] ++ B ++ [fb f.r]) N' → K2 (.int .u64 (bN f.r : Int)) (x :: y :: N')) → SCalls Tryz.prog 64 [ptr r, .int .i64 1] (x :: y :: N) K2 := fun x y N K2 h1 h2 =>
      h52 1 ([48] ++ A ++ [49] ++ [49] ++ B) [fb f.r] ([48] ++ [48] ++ C ++ rest) x y N K2 h1 (by rw [hhd]; simp) rfl (by decide) (fun N' h => by rw [vB_fb]; exact h2 N' h)
    have t7 : ∀ x y N (K2 : Value → Heap → Prop), RdH s r ([48] ++ A ++ [49] ++ [49] ++ B ++ [fb f.r]) N → (∀ N', RdH s r ([48] ++ A ++ [49] ++ [49] ++ B ++ [fb f.r] ++ [48]) N' → K2 (.int .u64 0) (x :: y :: N')) → SCalls Tryz.prog 64 [ptr r, .int .i64 1] (x :: y :: N) K2 := fun x y N K2 h1 h2 =>
      h52 1 ([48] ++ A ++ [49] ++ [49] ++ B ++ [fb f.r]) [48] ([48] ++ C ++ rest) x y N K2 h1 (by rw [hhd]; simp) rfl (by decide) h2
    have t8 : ∀ x y N (K2 : Value → Heap → Prop), RdH s r ([48] ++ A ++ [49] ++ [49] ++ B ++ [fb f.r] ++ [48]) N → (∀ N', RdH s r ([48] ++ A ++ [49] ++ [49] ++ B ++ [fb f.r] ++ [48] ++ [48]) N' → K2 (.int .u64 0) (x :: y :: N')) → SCalls Tryz.prog 64 [ptr r, .int .i64 1] (x :: y :: N) K2 := fun x y N K2 h1 h2 =>
      h52 1 ([48] ++ A ++ [49] ++ [49] ++ B ++ [fb f.r] ++ [48]) [48] (C ++ rest) x y N K2 h1 (by rw [hhd]; simp) rfl (by decide) h2
    have t9 : ∀ x y N (K2 : Value → Heap → Prop), RdH s r ([48] ++ A ++ [49] ++ [49] ++ B ++ [fb f.r] ++ [48] ++ [48]) N → (∀ N', RdH s r (hdB f) N' → K2 (.int .u64 (f.n.toNat : Int)) (x :: y :: N')) → SCalls Tryz.prog 64 [ptr r, .int .i64 4] (x :: y :: N) K2 := fun x y N K2 h1 h2 =>
      h52 4 ([48] ++ A ++ [49] ++ [49] ++ B ++ [fb f.r] ++ [48] ++ [48]) C rest x y N K2 h1 (by rw [hhd]; simp) hCl (by decide) (fun N' h => by rw [hn16]; exact h2 N' (by rw [hhd2]; simpa using h))
    have hb0 : decide ((1 : Int) = 1) = f.x := by rw [hx]; rfl
    clear h52 hhd hhd2 hAl hBl hCl hA hB
    repeat' ((conv => whnf); (first | with_reducible refine t1 _ _ _ _ hN (fun N1 b1 => ?_) | with_reducible refine t2 _ _ _ _ b1 (fun N2 b2 => ?_) | with_reducible refine t3 _ _ _ _ b2 (fun N3 b3 => ?_) | with_reducible refine t4 _ _ _ _ b3 (fun N4 b4 => ?_) | with_reducible refine t5 _ _ _ _ b4 (fun N5 b5 => ?_) | with_reducible refine t6 _ _ _ _ b5 (fun N6 b6 => ?_) | with_reducible refine t7 _ _ _ _ b6 (fun N7 b7 => ?_) | with_reducible refine t8 _ _ _ _ b7 (fun N8 b8 => ?_) | with_reducible refine t9 _ _ _ _ b8 (fun N9 b9 => ?_) | refine SDraw.held (by kernel_rfl) [_] (.same (.head _) .nil) ?_ | refine Kept.sub (List.Sublist.cons_cons _ (List.nil_sublist _)) ?_ | with_reducible refine Val.to _ e1 ?_ | with_reducible refine Val.to _ e3 ?_ | with_reducible refine Val.u32 (by omega) (by omega) ?_ | with_reducible refine h33 _ _ _ _ _ _ rfl hb0 hb1 hnn ?_ | (refine hl37 _ _ _ _ _ _ _ _ _ b9 rfl hb0 hb1 hnn .mk (fun S Na ba hS => ?_); cases hS) | with_reducible refine h34 _ _ _ _ ba (fun Nb bb => ?_) | with_reducible refine h27 _ _ ?_ | with_reducible refine h15 _ _ _ _ bb (fun Nc bc => ?_) | with_reducible refine h53 _ _ _ _ bc (fun Nd bd => ?_) | with_reducible refine h54 _ _ _ _ bd (fun Ne be => ?_) | with_reducible refine h54b _ _ _ _ be (fun Nf hack bf => ?_) | refine RawV.rangeStr rfl (by kernel_rfl) (fun qi => ?_) | (refine l37b hs bf ht2 .mk (fun S Ng bg hS => ?_); cases hS) | exact hfin hack _ _ _ _ bg | refine New.mk (fun _ => ?_) | refine Look.at0 ?_ | refine Cell.row ?_ | refine Cell.buf ?_ | refine Cells.row rfl ?_ | refine Put.row rfl ?_ | refine Put.buf rfl ?_ | refine Look.at1 ?_ | refine Look.at2 ?_ | refine Look.at3 ?_ | refine Look.at4 ?_ | refine Look.at5 ?_ | refine Look.at6 ?_ | refine Look.at7 ?_ | refine Look.at8 ?_ | with_reducible refine Val.i64 (by omega) (by omega) ?_ | with_reducible refine Val.u8 (by omega) (by omega) ?_ | with_reducible refine Val.u32 (by omega) (by omega) ?_ | with_reducible refine Val.u64 (by omega) (by omega) ?_ | with_reducible refine Val.u8m ?_ | with_reducible refine Val.u32m ?_ | with_reducible refine Val.u64m ?_ | with_reducible refine Val.shr8 ?_ | with_reducible refine Val.shr16 (by decide) ?_ | with_reducible refine Val.shr24 (by decide) ?_ | with_reducible refine Val.raw ?_ | refine Branch.not ?_ | refine Branch.and ?_ | refine Branch.or ?_ | refine Branch.dt (by assumption) ?_ | refine Branch.df (by assumption) ?_ | refine Branch.dt rfl ?_ | refine Branch.dt (by omega) ?_ | refine Branch.df (by omega) ?_ | refine Branch.t rfl ?_ | refine Branch.f rfl ?_ | refine Branch.t (by assumption) ?_ | refine Branch.f (by assumption) ?_ | refine Branch.d (fun _ => ?_) (fun _ => ?_) | refine Branch.mk (fun _ => ?_) (fun _ => ?_) | refine Need.mk (by first | omega | decide | rfl) ?_ | refine Idx.nat (by omega) ?_ | refine Idx.auto (by first | omega | decide) (by first | omega | decide) ?_ | refine Cell.ro rfl ?_ | refine SDraw.all (by kernel_rfl) ?_ | refine Kept.k0 ?_ | refine Kept.k1 ?_ | refine Kept.k2 ?_ | refine Kept.k3 ?_ | refine Kept.k4 ?_))
  | false =>
    rw [hx] at hhd2 hidx
    simp only [Bool.false_eq_true, if_false] at hhd2 hidx
    have hA := vB_numB 11 f.id (by omega)
    have hAl := numB_len 11 f.id
    have hCl := numB_len 4 f.n.toNat
    rw [hhd2] at hhd
    generalize numB 11 f.id = A at *
    generalize numB 4 f.n.toNat = C at *
    have t1 : ∀ x y N (K2 : Value → Heap → Prop), RdH s r [] N → (∀ N', RdH s r [48] N' → K2 (.int .u64 0) (x :: y :: N')) → SCalls Tryz.prog 64 [ptr r, .int .i64 1] (x :: y :: N) K2 := fun x y N K2 h1 h2 =>
      h52 1 [] [48] (A ++ [fb f.r] ++ [48] ++ [48] ++ C ++ rest) x y N K2 h1 (by rw [hhd]; simp) rfl (by decide) h2
    have t2 : ∀ x y N (K2 : Value → Heap → Prop), RdH s r [48] N → (∀ N', RdH s r ([48] ++ A) N' → K2 (.int .u64 (f.id : Int)) (x :: y :: N')) → SCalls Tryz.prog 64 [ptr r, .int .i64 11] (x :: y :: N) K2 := fun x y N K2 h1 h2 =>
      h52 11 [48] A ([fb f.r] ++ [48] ++ [48] ++ C ++ rest) x y N K2 h1 (by rw [hhd]; simp) hAl (by decide) (fun N' h => by rw [hA]; exact h2 N' h)
    have t3 : ∀ x y N (K2 : Value → Heap → Prop), RdH s r ([48] ++ A) N → (∀ N', RdH s r ([48] ++ A ++ [fb f.r]) N' → K2 (.int .u64 (bN f.r : Int)) (x :: y :: N')) → SCalls Tryz.prog 64 [ptr r, .int .i64 1] (x :: y :: N) K2 := fun x y N K2 h1 h2 =>
      h52 1 ([48] ++ A) [fb f.r] ([48] ++ [48] ++ C ++ rest) x y N K2 h1 (by rw [hhd]; simp) rfl (by decide) (fun N' h => by rw [vB_fb]; exact h2 N' h)
    have t4 : ∀ x y N (K2 : Value → Heap → Prop), RdH s r ([48] ++ A ++ [fb f.r]) N → (∀ N', RdH s r ([48] ++ A ++ [fb f.r] ++ [48]) N' → K2 (.int .u64 0) (x :: y :: N')) → SCalls Tryz.prog 64 [ptr r, .int .i64 1] (x :: y :: N) K2 := fun x y N K2 h1 h2 =>
      h52 1 ([48] ++ A ++ [fb f.r]) [48] ([48] ++ C ++ rest) x y N K2 h1 (by rw [hhd]; simp) rfl (by decide) h2
    have t8 : ∀ x y N (K2 : Value → Heap → Prop), RdH s r ([48] ++ A ++ [fb f.r] ++ [48]) N → (∀ N', RdH s r ([48] ++ A ++ [fb f.r] ++ [48] ++ [48]) N' → K2 (.int .u64 0) (x :: y :: N')) → SCalls Tryz.prog 64 [ptr r, .int .i64 1] (x :: y :: N) K2 := fun x y N K2 h1 h2 =>
      h52 1 ([48] ++ A ++ [fb f.r] ++ [48]) [48] (C ++ rest) x y N K2 h1 (by rw [hhd]; simp) rfl (by decide) h2
    have t9 : ∀ x y N (K2 : Value → Heap → Prop), RdH s r ([48] ++ A ++ [fb f.r] ++ [48] ++ [48]) N → (∀ N', RdH s r (hdB f) N' → K2 (.int .u64 (f.n.toNat : Int)) (x :: y :: N')) → SCalls Tryz.prog 64 [ptr r, .int .i64 4] (x :: y :: N) K2 := fun x y N K2 h1 h2 =>
      h52 4 ([48] ++ A ++ [fb f.r] ++ [48] ++ [48]) C rest x y N K2 h1 (by rw [hhd]; simp) hCl (by decide) (fun N' h => by rw [hn16]; exact h2 N' (by rw [hhd2]; simpa using h))
    have hb0 : decide ((0 : Int) = 1) = f.x := by rw [hx]; rfl
    clear h52 hhd hhd2 hAl hCl hA
    repeat' ((conv => whnf); (first | with_reducible refine t1 _ _ _ _ hN (fun N1 b1 => ?_) | with_reducible refine t2 _ _ _ _ b1 (fun N2 b2 => ?_) | with_reducible refine t3 _ _ _ _ b2 (fun N3 b3 => ?_) | with_reducible refine t4 _ _ _ _ b3 (fun N4 b4 => ?_) | with_reducible refine t8 _ _ _ _ b4 (fun N8 b8 => ?_) | with_reducible refine t9 _ _ _ _ b8 (fun N9 b9 => ?_) | with_reducible refine Val.u32 (by omega) (by omega) ?_ | with_reducible refine h33 _ _ _ _ _ _ rfl hb0 hb1 hnn ?_ | (refine hl37 _ _ _ _ _ _ _ _ _ b9 rfl hb0 hb1 hnn .mk (fun S Na ba hS => ?_); cases hS) | with_reducible refine h34 _ _ _ _ ba (fun Nb bb => ?_) | with_reducible refine h27 _ _ ?_ | with_reducible refine h15 _ _ _ _ bb (fun Nc bc => ?_) | with_reducible refine h53 _ _ _ _ bc (fun Nd bd => ?_) | with_reducible refine h54 _ _ _ _ bd (fun Ne be => ?_) | with_reducible refine h54b _ _ _ _ be (fun Nf hack bf => ?_) | refine RawV.rangeStr rfl (by kernel_rfl) (fun qi => ?_) | (refine l37b hs bf ht2 .mk (fun S Ng bg hS => ?_); cases hS) | exact hfin hack _ _ _ _ bg | refine New.mk (fun _ => ?_) | refine Look.at0 ?_ | refine Cell.row ?_ | refine Cell.buf ?_ | refine Cells.row rfl ?_ | refine Put.row rfl ?_ | refine Put.buf rfl ?_ | refine Look.at1 ?_ | refine Look.at2 ?_ | refine Look.at3 ?_ | refine Look.at4 ?_ | refine Look.at5 ?_ | refine Look.at6 ?_ | refine Look.at7 ?_ | refine Look.at8 ?_ | with_reducible refine Val.i64 (by omega) (by omega) ?_ | with_reducible refine Val.u8 (by omega) (by omega) ?_ | with_reducible refine Val.u32 (by omega) (by omega) ?_ | with_reducible refine Val.u64 (by omega) (by omega) ?_ | with_reducible refine Val.u8m ?_ | with_reducible refine Val.u32m ?_ | with_reducible refine Val.u64m ?_ | with_reducible refine Val.shr8 ?_ | with_reducible refine Val.shr16 (by decide) ?_ | with_reducible refine Val.shr24 (by decide) ?_ | with_reducible refine Val.raw ?_ | refine Branch.not ?_ | refine Branch.and ?_ | refine Branch.or ?_ | refine Branch.dt (by assumption) ?_ | refine Branch.df (by assumption) ?_ | refine Branch.dt rfl ?_ | refine Branch.dt (by omega) ?_ | refine Branch.df (by omega) ?_ | refine Branch.t rfl ?_ | refine Branch.f rfl ?_ | refine Branch.t (by assumption) ?_ | refine Branch.f (by assumption) ?_ | refine Branch.d (fun _ => ?_) (fun _ => ?_) | refine Branch.mk (fun _ => ?_) (fun _ => ?_) | refine Need.mk (by first | omega | decide | rfl) ?_ | refine Idx.nat (by omega) ?_ | refine Idx.auto (by first | omega | decide) (by first | omega | decide) ?_ | refine Cell.ro rfl ?_ | refine SDraw.all (by kernel_rfl) ?_ | refine Kept.k0 ?_ | refine Kept.k1 ?_ | refine Kept.k2 ?_ | refine Kept.k3 ?_ | refine Kept.k4 ?_))
end
end Go.Proofs.YtiaginlnapiijaaGreatDoor


/- Ported (port.py) from UnA. -/
set_option linter.unusedVariables false
set_option linter.unusedSimpArgs false
set_option maxRecDepth 100000
set_option maxHeartbeats 4000000
namespace Go.Proofs.YtiaginlnapiijaaGreatDoor
open Sx
/-- What is left of the bits from place j on. -/
def unsR : St → Nat → List UInt8 → List UInt8 × Nat × Int
  | s, j, [] => if s.n = 5 then ([], j, 3) else (s.out, j, 0)
  | s, j, b :: r => if s.n = 5 ∧ b.toNat = s.lv then ([], j, 20) else unsR ⟨if s.n = 5 then s.out else s.out ++ [b], b.toNat, tk s.lv s.n b.toNat⟩ (j + 1) r
def uns (l : List UInt8) : List UInt8 × Nat × Int := unsR ⟨[], 0, 0⟩ 0 l
/-- Where the work is at place j. -/
structure At (l : List UInt8) (j : Nat) (out : List UInt8) (lv n : Nat) : Prop where
  le : j ≤ l.length
  eq : uns l = unsR ⟨out, lv, n⟩ j (l.drop j)
  n5 : n ≤ 5
  len : out.length ≤ j
  last : (j = 0 ∧ lv = 0 ∧ n = 0) ∨ (0 < j ∧ ∃ b, l[j - 1]? = some b ∧ lv = b.toNat)
theorem At.zero (l : List UInt8) : At l 0 [] 0 0 := ⟨Nat.zero_le _, rfl, by decide, Nat.le_refl _, .inl ⟨rfl, rfl, rfl⟩⟩
theorem drop_cons' {l : List UInt8} {j : Nat} {b : UInt8} (h : l[j]? = some b) : l.drop j = b :: l.drop (j + 1) := by
  obtain ⟨hlt, rfl⟩ := List.getElem?_eq_some_iff.1 h
  exact List.drop_eq_getElem_cons hlt
theorem At.next {l out : List UInt8} {j lv n : Nat} {b : UInt8} (h : At l j out lv n) (hx : l[j]? = some b) (hn : ¬ (n = 5 ∧ b.toNat = lv)) : At l (j + 1) (if n = 5 then out else out ++ [b]) b.toNat (tk lv n b.toNat) := by
  refine ⟨(List.getElem?_eq_some_iff.1 hx).1, ?_, ?_, ?_, .inr ⟨by omega, b, hx, rfl⟩⟩
  · rw [h.eq, drop_cons' hx]
    show (if n = 5 ∧ b.toNat = lv then _ else _) = _
    rw [if_neg hn]
  · have := h.n5
    unfold tk
    split
    · rename_i e
      have : n ≠ 5 := fun e5 => hn ⟨e5, e⟩
      omega
    · omega
  · have := h.len
    split
    · omega
    · simp; omega
theorem At.fin {l out : List UInt8} {lv n : Nat} (h : At l l.length out lv n) : uns l = if n = 5 then ([], l.length, 3) else (out, l.length, 0) := by
  have := h.eq
  rw [List.drop_length] at this
  exact this
section
variable {K : Value → Heap → Prop} {H : Heap}
end
/-- Unstuffing, as long as it goes. -/
def uRun : St → List UInt8 → Option St
  | s, [] => some s
  | s, b :: r => if s.n = 5 ∧ b.toNat = s.lv then none else uRun ⟨if s.n = 5 then s.out else s.out ++ [b], b.toNat, tk s.lv s.n b.toNat⟩ r
theorem uRun_app : ∀ (x y : List UInt8) (s s' : St), uRun s x = some s' → uRun s (x ++ y) = uRun s' y
  | [], y, s, s', h => by
    injection h with h
    subst h; rfl
  | b :: x, y, s, s', h => by
    show (if s.n = 5 ∧ b.toNat = s.lv then _ else _) = _
    unfold uRun at h
    by_cases hc : s.n = 5 ∧ b.toNat = s.lv
    · rw [if_pos hc] at h; cases h
    · rw [if_neg hc] at h ⊢
      exact uRun_app x y _ s' h
theorem stf_run (l : List UInt8) : (∀ b ∈ l, isB b = true) → uRun ⟨[], 0, 0⟩ (stf l).out = some ⟨l, (stf l).lv, (stf l).n⟩ ∧ ∀ b ∈ (stf l).out, isB b = true := by
  induction l using snoc_ind with
  | h0 => exact fun _ => ⟨rfl, fun b hb => by cases hb⟩
  | h1 l b ih =>
    intro hB
    obtain ⟨ih, ihB⟩ := ih fun x hx => hB x (List.mem_append_left _ hx)
    have hb := hB b (List.mem_append_right _ (.head _))
    have hn := (St.ok l).1
    rw [stf_snoc]
    generalize stf l = s at ih ihB hn
    obtain ⟨out, lv, n⟩ := s
    dsimp only at ih ihB hn
    have hn5 : ¬ n = 5 := by omega
    unfold St.step
    dsimp only
    split
    · rename_i h5
      have ho := oth_n hb
      refine ⟨?_, fun x hx => ?_⟩
      · show uRun _ (out ++ [b] ++ [oth b]) = some ⟨l ++ [b], (oth b).toNat, 1⟩
        rw [List.append_assoc, uRun_app _ _ _ _ ih]
        show (if n = 5 ∧ b.toNat = lv then _ else _) = _
        rw [if_neg (fun h => hn5 h.1)]
        dsimp only
        rw [if_neg hn5, h5]
        show (if (5 : Nat) = 5 ∧ (oth b).toNat = b.toNat then _ else _) = _
        rw [if_neg (fun h => by omega)]
        show some _ = _
        have e : tk b.toNat 5 (oth b).toNat = 1 := by unfold tk; rw [if_neg (by omega)]
        rw [e]; rfl
      · simp only [List.mem_append, List.mem_singleton] at hx
        rcases hx with (hx | rfl) | rfl
        · exact ihB x hx
        · exact hb
        · exact oth_b
    · refine ⟨?_, fun x hx => ?_⟩
      · show uRun _ (out ++ [b]) = _
        rw [uRun_app _ _ _ _ ih]
        show (if n = 5 ∧ b.toNat = lv then _ else _) = _
        rw [if_neg (fun h => hn5 h.1)]
        dsimp only
        rw [if_neg hn5]; rfl
      · simp only [List.mem_append, List.mem_singleton] at hx
        rcases hx with hx | rfl
        · exact ihB x hx
        · exact hb
end Go.Proofs.YtiaginlnapiijaaGreatDoor


/- Ported (port.py) from FmIt. -/
set_option linter.unusedVariables false
set_option linter.unusedSimpArgs false
set_option maxRecDepth 100000
set_option maxHeartbeats 4000000
namespace Go.Proofs.YtiaginlnapiijaaGreatDoor
open Sx
def D10_0 : XCode := (.region [⟨(some 2), none, (.alloc 39 [(.int .u32 0), (.bool false), (.bool false), (.int .i64 0), (.int .u8 0), (.int .u8 0), (.int .u8 0), (.int .u8 0), (.int .u8 0), (.int .u8 0), (.int .u8 0), (.int .u8 0)])⟩, ⟨(some 3), none, (.alloc 3 [(.int .i64 0)])⟩, ⟨(some 4), none, (.alloc 24 [(.int .i64 0)])⟩])
def D10_1 : XCode := (.seq (.region [⟨(some 6), none, (.pure (.mov (.tmp 0)))⟩, ⟨(some 7), none, (.call 36 [(.tmp 6)])⟩, ⟨(some 8), none, (.pure (.not (.tmp 7)))⟩]) (.cond (.tmp 8) (.seq (.seq (.region [⟨(some 9), none, (.pure (.mov (.tmp 0)))⟩, ⟨(some 10), none, (.pure (.lenStr (.tmp 9)))⟩, ⟨(some 11), none, (.pure (.bin .gtr (.tmp 10) (.const (.int .i64 65536))))⟩]) (.cond (.tmp 11) (.seq (.region [⟨(some 12), none, (.pure (.build [(.int .u32 0), (.bool false), (.bool false), (.int .i64 0), (.int .u8 0), (.int .u8 0), (.int .u8 0), (.int .u8 0), (.int .u8 0), (.int .u8 0), (.int .u8 0), (.int .u8 0)] []))⟩, ⟨none, none, (.store 12 (.tmp 2) (.tmp 12))⟩, ⟨none, none, (.store 1 (.tmp 3) (.const (.int .i64 0)))⟩, ⟨none, none, (.store 1 (.tmp 4) (.const (.int .i64 2)))⟩]) .ret) .skip)) (.seq (.region [⟨(some 13), none, (.pure (.build [(.int .u32 0), (.bool false), (.bool false), (.int .i64 0), (.int .u8 0), (.int .u8 0), (.int .u8 0), (.int .u8 0), (.int .u8 0), (.int .u8 0), (.int .u8 0), (.int .u8 0)] []))⟩, ⟨none, none, (.store 12 (.tmp 2) (.tmp 13))⟩, ⟨none, none, (.store 1 (.tmp 3) (.const (.int .i64 0)))⟩, ⟨none, none, (.store 1 (.tmp 4) (.const (.int .i64 8)))⟩]) .ret)) .skip))
def D10_3 : XCode := (.region [⟨(some 15), none, (.pure (.mov (.tmp 0)))⟩, ⟨(some 16), none, (.pure (.build [(.string ⟨#[]⟩), (.int .i64 0), (.int .u8 0), (.int .i64 0), (.pointer none), (.slice none 0 0)] [(0, (1, (.tmp 15)))]))⟩, ⟨(some 17), none, (.box 104 (.tmp 16))⟩, ⟨(some 5), none, (.pure (.mov (.tmp 17)))⟩])
def D10_5 : XCode := (.seq (.draw (.take ⟨(some 21), none, (.pure (.mov (.tmp 5)))⟩ (.take ⟨(some 22), none, (.pure (.nilCheck (.tmp 21)))⟩ (.take ⟨(some 23), none, (.pure (.fieldAddr 1 (.tmp 22)))⟩ (.alt ⟨(some 20), none, (.load true 12 (.tmp 2))⟩ (.alt ⟨(some 24), none, (.load false 1 (.tmp 23))⟩ (.alt ⟨none, none, (.store 12 (.tmp 2) (.tmp 20))⟩ .done .off) (.alt ⟨none, none, (.store 12 (.tmp 2) (.tmp 20))⟩ (.alt ⟨(some 24), none, (.load false 1 (.tmp 23))⟩ .done .off) .off)) (.alt ⟨(some 24), none, (.load false 1 (.tmp 23))⟩ (.alt ⟨(some 20), none, (.load true 12 (.tmp 2))⟩ (.alt ⟨none, none, (.store 12 (.tmp 2) (.tmp 20))⟩ .done .off) .off) .off))))) [⟨none, none, (.store 1 (.tmp 3) (.tmp 24))⟩, ⟨none, none, (.store 1 (.tmp 4) (.const (.int .i64 0)))⟩]) .ret)
def D36 : XCode := (.seq (.region [⟨(some 7), none, (.pure (.mov (.tmp 3)))⟩, ⟨(some 8), none, (.raw ⟨(some 8), (.binOp .neq 20 (.tmp 7) (.const .nilIface) 20), 4, "frame.go:223", #[⟨0, .data⟩], none⟩)⟩]) (.cond (.tmp 8) (.seq (.region [⟨(some 10), none, (.pure (.mov (.tmp 3)))⟩, ⟨(some 11), none, (.pure (.assertTo 100 true (.agg #[(.int .i64 0), (.int .i64 0)]) (.tmp 10)))⟩, ⟨(some 9), none, (.pure (.mov (.tmp 11)))⟩, ⟨(some 12), none, (.pure (.extract (.tmp 9) 0))⟩, ⟨(some 13), none, (.pure (.extract (.tmp 9) 1))⟩, ⟨(some 4), none, (.alloc 100 [(.int .i64 0), (.int .i64 0)])⟩, ⟨none, none, (.store 2 (.tmp 4) (.tmp 12))⟩, ⟨(some 5), none, (.pure (.mov (.tmp 13)))⟩]) (.seq (.seq (.region [⟨(some 14), none, (.pure (.mov (.tmp 5)))⟩, ⟨(some 15), none, (.pure (.not (.tmp 14)))⟩]) (.cond (.tmp 15) (.region [⟨(some 16), none, (.pure (.mov (.tmp 3)))⟩, ⟨none, none, (.raw ⟨none, (.panic (.tmp 16)), 0, "frame.go:226", #[⟨0, .data⟩], none⟩)⟩]) .skip)) (.draw (.take ⟨(some 17), none, (.pure (.build [(.int .u32 0), (.bool false), (.bool false), (.int .i64 0), (.int .u8 0), (.int .u8 0), (.int .u8 0), (.int .u8 0), (.int .u8 0), (.int .u8 0), (.int .u8 0), (.int .u8 0)] []))⟩ (.take ⟨(some 18), none, (.pure (.fieldAddr 0 (.tmp 4)))⟩ (.take ⟨(some 20), none, (.pure (.fieldAddr 1 (.tmp 4)))⟩ (.alt ⟨(some 19), none, (.load false 1 (.tmp 18))⟩ (.alt ⟨(some 21), none, (.load false 1 (.tmp 20))⟩ (.alt ⟨none, none, (.store 12 (.tmp 0) (.tmp 17))⟩ (.alt ⟨none, none, (.store 1 (.tmp 1) (.tmp 19))⟩ .done .off) .off) (.alt ⟨none, none, (.store 12 (.tmp 0) (.tmp 17))⟩ (.alt ⟨(some 21), none, (.load false 1 (.tmp 20))⟩ (.alt ⟨none, none, (.store 1 (.tmp 1) (.tmp 19))⟩ .done .off) (.alt ⟨none, none, (.store 1 (.tmp 1) (.tmp 19))⟩ (.alt ⟨(some 21), none, (.load false 1 (.tmp 20))⟩ .done .off) .off)) .off)) (.alt ⟨(some 21), none, (.load false 1 (.tmp 20))⟩ (.alt ⟨(some 19), none, (.load false 1 (.tmp 18))⟩ (.alt ⟨none, none, (.store 12 (.tmp 0) (.tmp 17))⟩ (.alt ⟨none, none, (.store 1 (.tmp 1) (.tmp 19))⟩ .done .off) .off) (.alt ⟨none, none, (.store 12 (.tmp 0) (.tmp 17))⟩ (.alt ⟨(some 19), none, (.load false 1 (.tmp 18))⟩ (.alt ⟨none, none, (.store 1 (.tmp 1) (.tmp 19))⟩ .done .off) .off) .off)) (.alt ⟨none, none, (.store 12 (.tmp 0) (.tmp 17))⟩ (.alt ⟨(some 19), none, (.load false 1 (.tmp 18))⟩ (.alt ⟨(some 21), none, (.load false 1 (.tmp 20))⟩ (.alt ⟨none, none, (.store 1 (.tmp 1) (.tmp 19))⟩ .done .off) (.alt ⟨none, none, (.store 1 (.tmp 1) (.tmp 19))⟩ (.alt ⟨(some 21), none, (.load false 1 (.tmp 20))⟩ .done .off) .off)) (.alt ⟨(some 21), none, (.load false 1 (.tmp 20))⟩ (.alt ⟨(some 19), none, (.load false 1 (.tmp 18))⟩ (.alt ⟨none, none, (.store 1 (.tmp 1) (.tmp 19))⟩ .done .off) .off) .off)) .off)))))) [⟨none, none, (.store 1 (.tmp 2) (.tmp 21))⟩]))) .skip))
noncomputable def dC (n : Nat) : Code := match Tryz.f14.body with
  | some (.seq a (.seq b (.seq c (.seq d (.seq e f))))) => match n with
    | 0 => a
    | 1 => b
    | 2 => c
    | 3 => d
    | 4 => e
    | _ => f
  | _ => .skip
theorem dBody : Tryz.f14.body = some (.seq (dC 0) (.seq (dC 1) (.seq (dC 2) (.seq (dC 3) (.seq (dC 4) (dC 5)))))) := by kernel_rfl
theorem dC0 : compile Tryz.prog (dC 0) = D10_0 := by kernel_rfl
theorem dC1 : compile Tryz.prog (dC 1) = D10_1 := by kernel_rfl
theorem dC3 : compile Tryz.prog (dC 3) = D10_3 := by kernel_rfl
theorem dC5 : compile Tryz.prog (dC 5) = D10_5 := by kernel_rfl
noncomputable def ops5 : Array Oper := match dC 2 with
  | .region _ o _ => o
  | _ => #[]
theorem dC2 : dC 2 = .region 5 ops5 false := by kernel_rfl
noncomputable def ops7 : Array Oper := match dC 4 with
  | .region _ o _ => o
  | _ => #[]
theorem dC4 : dC 4 = .region 7 ops7 false := by kernel_rfl
noncomputable def k36 : Code := match Tryz.f37.body with
  | some (.seq _ b) => b
  | _ => .skip
noncomputable def o36 : Array Oper := match Tryz.f37.body with
  | some (.seq (.region _ o _) _) => o
  | _ => #[]
theorem body36 : Tryz.f37.body = some (.seq (.region 0 o36 false) k36) := by kernel_rfl
theorem K36 : compile Tryz.prog k36 = D36 := by kernel_rfl
def rs10 : List RV := [.cell 2 true 12, .cell 3 false 1, .cell 4 false 1]
theorem res10 : cRes Tryz.prog Tryz.f14.results.toList = some rs10 := by kernel_rfl
def onlyN (N : List Value → Heap → Prop) : Post := fun e l H => match e with
  | .normal => N l H
  | _ => False
theorem noD {Q : Post} : QD Q := fun _ _ _ h => h.elim
theorem noDead {ds : List Deferred} {w : World} {H : Heap} {Q : Exit → Act → World → Prop} : DeadOk ds w H Q := fun _ _ _ _ h => h.elim
theorem wp_part {P : Program} {ds : List Deferred} {c rest : Code} {Q : Exit → Act → World → Prop} {l : List Value} {H H0 : Heap} {w w0 : World} (N : List Value → Heap → Prop)
    (hx : xc P (compile P c) (onlyN N) l H) (hw : Holds w H) (hs : Step w0 H0 w H) (h : ∀ l' H' w', Holds w' H' → Step w0 H0 w' H' → N l' H' → rest.wp P Q (actD ds l') w') : (Code.seq c rest).wp P Q (actD ds l) w := by
  refine wp_seq (wp_mono (xc_ok (ds := ds) c (onlyN N) l H noD hx w hw) ?_)
  rintro e a' w' ⟨l', H', rfl, h1, h2, h3⟩
  cases e with
  | normal => exact h l' H' w' h1 (hs.trans h2) h3
  | exit i => exact h3.elim
  | goto i => exact h3.elim
  | ret => exact h3.elim
  | panic ch => exact h3.elim
  | outgrown => exact h3.elim
section
variable {K : Value → Heap → Prop} {H : Heap}
theorem leaves0 {w w' : World} {l : List Value} {H' : Heap} (hw' : Holds w' H') (hs : Step w H w' H') (h : resK rs10 l H' fun vs => oneK vs fun v => Keep H' fun H' => K v H') :
    Leaves Tryz.prog Tryz.f14 l.toArray (Back w H K) [] .returning w' := by
  have he := endsAt (ds := []) (P := Tryz.prog) (fn := Tryz.f14) (rs := rs10) (K := K) res10 (w := w) (H := H) (e := .ret) (a := actD [] l) (w' := w') ⟨l, H', rfl, hw', hs, h⟩
  cases he with
  | ret hd hres hb => exact ⟨_, hres, hb⟩
/-- Nothing was given up with. -/
theorem c37n {r2 r3 r4 : Nat} (w : World) (hw : Holds w H) : CallsD Tryz.prog 37 #[ptr r2, ptr r3, ptr r4] .returning w fun e u2 w' => u2 = .returning ∧ Back w H (fun _ H' => H' = H) e w' := by
  have := callsD_recover (P := Tryz.prog) (f := 37) (fn := Tryz.f37) (id := 0) (ops := o36) (rest := k36) (x0 := ⟨some 6, none, .raw ⟨some 6, .call ⟨.builtin .recover, #[], #[]⟩, 20, "frame.go:223", #[], none⟩⟩) (xs := [⟨some 3, none, .pure (.mov (.tmp 6))⟩])
    (o0 := ⟨some 6, .call ⟨.builtin .recover, #[], #[]⟩, 20, "frame.go:223", #[], none⟩) (ts := #[]) (rs := []) (args := [ptr r2, ptr r3, ptr r4]) (H := H) (K := fun _ H' => H' = H) Tryz.func37 body36 (by kernel_rfl) rfl rfl (by kernel_rfl) (by kernel_rfl) .calm ?_ w hw
  · exact this
  rw [K36]
  repeat' ((conv => whnf); (first | refine RawV.neqNil rfl (by kernel_rfl) false (.inl ⟨rfl, rfl⟩) ?_ | exact Keep.all rfl | refine New.mk (fun _ => ?_) | refine Look.at0 ?_ | refine Cell.row ?_ | refine Cell.buf ?_ | refine Cells.row rfl ?_ | refine Put.row rfl ?_ | refine Put.buf rfl ?_ | refine Look.at1 ?_ | refine Look.at2 ?_ | refine Look.at3 ?_ | refine Look.at4 ?_ | refine Look.at5 ?_ | refine Look.at6 ?_ | refine Look.at7 ?_ | refine Look.at8 ?_ | with_reducible refine Val.i64 (by omega) (by omega) ?_ | with_reducible refine Val.u8 (by omega) (by omega) ?_ | with_reducible refine Val.u32 (by omega) (by omega) ?_ | with_reducible refine Val.u64 (by omega) (by omega) ?_ | with_reducible refine Val.u8m ?_ | with_reducible refine Val.u32m ?_ | with_reducible refine Val.u64m ?_ | with_reducible refine Val.shr8 ?_ | with_reducible refine Val.shr16 (by decide) ?_ | with_reducible refine Val.shr24 (by decide) ?_ | with_reducible refine Val.raw ?_ | refine Branch.not ?_ | refine Branch.and ?_ | refine Branch.or ?_ | refine Branch.dt (by assumption) ?_ | refine Branch.df (by assumption) ?_ | refine Branch.dt rfl ?_ | refine Branch.dt (by omega) ?_ | refine Branch.df (by omega) ?_ | refine Branch.t rfl ?_ | refine Branch.f rfl ?_ | refine Branch.t (by assumption) ?_ | refine Branch.f (by assumption) ?_ | refine Branch.d (fun _ => ?_) (fun _ => ?_) | refine Branch.mk (fun _ => ?_) (fun _ => ?_) | refine Need.mk (by first | omega | decide | rfl) ?_ | refine Idx.nat (by omega) ?_ | refine Idx.auto (by first | omega | decide) (by first | omega | decide) ?_ | refine Cell.ro rfl ?_ | refine SDraw.all (by kernel_rfl) ?_ | refine Kept.k0 ?_ | refine Kept.k1 ?_ | refine Kept.k2 ?_ | refine Kept.k3 ?_ | refine Kept.k4 ?_))
/-- It was given up with what a reader gives up with. -/
theorem c36g {r2 r3 r4 : Nat} {p e : Int} (w : World) (hw : Holds w ((r4, .row 24 [.int .i64 0] (0, 0)) :: (r3, .row 3 [.int .i64 0] (0, 0)) :: (r2, .row 39 (frC z0) (0, 0)) :: H)) :
    CallsD Tryz.prog 37 #[ptr r2, ptr r3, ptr r4] (.panicking (wrg p e)) w fun en u2 w' => (∃ v, u2 = .panicking [{ v := v, recovered := true }]) ∧
      Back w ((r4, .row 24 [.int .i64 0] (0, 0)) :: (r3, .row 3 [.int .i64 0] (0, 0)) :: (r2, .row 39 (frC z0) (0, 0)) :: H) (fun _ H' => H' = (r4, .row 24 [.int .i64 e] (0, 0)) :: (r3, .row 3 [.int .i64 p] (0, 0)) :: (r2, .row 39 (frC z0) (0, 0)) :: H) en w' := by
  have := callsD_recover (P := Tryz.prog) (f := 37) (fn := Tryz.f37) (id := 0) (ops := o36) (rest := k36) (x0 := ⟨some 6, none, .raw ⟨some 6, .call ⟨.builtin .recover, #[], #[]⟩, 20, "frame.go:223", #[], none⟩⟩) (xs := [⟨some 3, none, .pure (.mov (.tmp 6))⟩])
    (o0 := ⟨some 6, .call ⟨.builtin .recover, #[], #[]⟩, 20, "frame.go:223", #[], none⟩) (ts := #[]) (rs := []) (args := [ptr r2, ptr r3, ptr r4]) (H := (r4, .row 24 [.int .i64 0] (0, 0)) :: (r3, .row 3 [.int .i64 0] (0, 0)) :: (r2, .row 39 (frC z0) (0, 0)) :: H)
    (K := fun _ H' => H' = (r4, .row 24 [.int .i64 e] (0, 0)) :: (r3, .row 3 [.int .i64 p] (0, 0)) :: (r2, .row 39 (frC z0) (0, 0)) :: H) Tryz.func37 body36 (by kernel_rfl) rfl rfl (by kernel_rfl) (by kernel_rfl) (.gave (.iface 100 (.agg ⟨[.int .i64 p, .int .i64 e]⟩))) ?_ w hw
  · exact this.mono fun en u2 w' h => ⟨⟨_, h.1⟩, h.2⟩
  rw [K36]
  repeat' ((conv => whnf); (first | refine RawV.neqNil rfl (by kernel_rfl) true (.inr ⟨_, _, rfl, rfl⟩) ?_ | refine SDraw.held (by kernel_rfl) [] .nil ?_ | refine Kept.sub (List.nil_sublist _) ?_ | refine And.intro ?_ ?_ | exact Keep.d1 rfl | refine New.mk (fun _ => ?_) | refine Look.at0 ?_ | refine Cell.row ?_ | refine Cell.buf ?_ | refine Cells.row rfl ?_ | refine Put.row rfl ?_ | refine Put.buf rfl ?_ | refine Look.at1 ?_ | refine Look.at2 ?_ | refine Look.at3 ?_ | refine Look.at4 ?_ | refine Look.at5 ?_ | refine Look.at6 ?_ | refine Look.at7 ?_ | refine Look.at8 ?_ | with_reducible refine Val.i64 (by omega) (by omega) ?_ | with_reducible refine Val.u8 (by omega) (by omega) ?_ | with_reducible refine Val.u32 (by omega) (by omega) ?_ | with_reducible refine Val.u64 (by omega) (by omega) ?_ | with_reducible refine Val.u8m ?_ | with_reducible refine Val.u32m ?_ | with_reducible refine Val.u64m ?_ | with_reducible refine Val.shr8 ?_ | with_reducible refine Val.shr16 (by decide) ?_ | with_reducible refine Val.shr24 (by decide) ?_ | with_reducible refine Val.raw ?_ | refine Branch.not ?_ | refine Branch.and ?_ | refine Branch.or ?_ | refine Branch.dt (by assumption) ?_ | refine Branch.df (by assumption) ?_ | refine Branch.dt rfl ?_ | refine Branch.dt (by omega) ?_ | refine Branch.df (by omega) ?_ | refine Branch.t rfl ?_ | refine Branch.f rfl ?_ | refine Branch.t (by assumption) ?_ | refine Branch.f (by assumption) ?_ | refine Branch.d (fun _ => ?_) (fun _ => ?_) | refine Branch.mk (fun _ => ?_) (fun _ => ?_) | refine Need.mk (by first | omega | decide | rfl) ?_ | refine Idx.nat (by omega) ?_ | refine Idx.auto (by first | omega | decide) (by first | omega | decide) ?_ | refine Cell.ro rfl ?_ | refine SDraw.all (by kernel_rfl) ?_ | refine Kept.k0 ?_ | refine Kept.k1 ?_ | refine Kept.k2 ?_ | refine Kept.k3 ?_ | refine Kept.k4 ?_))
end
end Go.Proofs.YtiaginlnapiijaaGreatDoor


/- Ported (port.py) from FmJ. -/
set_option linter.unusedVariables false
set_option linter.unusedSimpArgs false
set_option maxRecDepth 100000
set_option maxHeartbeats 4000000
namespace Go.Proofs.YtiaginlnapiijaaGreatDoor
open Sx
inductive S14 (A0 A2 A3 A4 : Value) : List Value → Prop
  | mk {r1 r5 r6 r7 r8 r9 r10 r11 r12 r13 r14 r15 r16 r17 r18 r19 r20 r21 r22 r23 r24 : Value} : S14 A0 A2 A3 A4 [A0, r1, A2, A3, A4, r5, r6, r7, r8, r9, r10, r11, r12, r13, r14, r15, r16, r17, r18, r19, r20, r21, r22, r23, r24]
inductive S10f (A0 A2 A3 A4 A14 : Value) : List Value → Prop
  | mk {r1 r5 r6 r7 r8 r9 r10 r11 r12 r13 r15 r16 r17 r18 r19 r20 r21 r22 r23 r24 : Value} : S10f A0 A2 A3 A4 A14 [A0, r1, A2, A3, A4, r5, r6, r7, r8, r9, r10, r11, r12, r13, A14, r15, r16, r17, r18, r19, r20, r21, r22, r23, r24]
inductive S10r (A0 A2 A3 A4 A5 A14 : Value) : List Value → Prop
  | mk {r1 r6 r7 r8 r9 r10 r11 r12 r13 r15 r16 r17 r18 r19 r20 r21 r22 r23 r24 : Value} : S10r A0 A2 A3 A4 A5 A14 [A0, r1, A2, A3, A4, A5, r6, r7, r8, r9, r10, r11, r12, r13, A14, r15, r16, r17, r18, r19, r20, r21, r22, r23, r24]
inductive S10c (A0 A2 A3 A4 A5 A14 A18 : Value) : List Value → Prop
  | mk {r1 r6 r7 r8 r9 r10 r11 r12 r13 r15 r16 r17 r19 r20 r21 r22 r23 r24 : Value} : S10c A0 A2 A3 A4 A5 A14 A18 [A0, r1, A2, A3, A4, A5, r6, r7, r8, r9, r10, r11, r12, r13, A14, r15, r16, r17, A18, r19, r20, r21, r22, r23, r24]
abbrev clo (r2 r3 r4 : Nat) : Value := .func (.func 37) #[] #[ptr r2, ptr r3, ptr r4]
abbrev dfr (r2 r3 r4 : Nat) : Deferred := { target := .fn (.func 37) #[ptr r2, ptr r3, ptr r4], args := #[] }
abbrev cels (r2 r3 r4 : Nat) (f : List Value) (p e : Int) (H : Heap) : Heap := (r4, .row 24 [.int .i64 e] (0, 0)) :: (r3, .row 3 [.int .i64 p] (0, 0)) :: (r2, .row 39 f (0, 0)) :: H
section
variable {K : Value → Heap → Prop} {H : Heap}
theorem c36 {s : List UInt8} (h : chk s = 0) (hK : K (.bool true) H) : SCalls Tryz.prog 36 [.string (strOf s)] H K := by
  have h38 : ∀ H (K2 : Value → Heap → Prop), K2 (.int .i64 0) H → SCalls Tryz.prog 60 [.string (strOf s)] H K2 := fun H K2 hk => c60 (by rw [h]; exact hk)
  refine enter36 ?_
  repeat' ((conv => whnf); (first | with_reducible refine h38 _ _ ?_ | exact Keep.all hK | refine New.mk (fun _ => ?_) | refine Look.at0 ?_ | refine Cell.row ?_ | refine Cell.buf ?_ | refine Cells.row rfl ?_ | refine Put.row rfl ?_ | refine Put.buf rfl ?_ | refine Look.at1 ?_ | refine Look.at2 ?_ | refine Look.at3 ?_ | refine Look.at4 ?_ | refine Look.at5 ?_ | refine Look.at6 ?_ | refine Look.at7 ?_ | refine Look.at8 ?_ | with_reducible refine Val.i64 (by omega) (by omega) ?_ | with_reducible refine Val.u8 (by omega) (by omega) ?_ | with_reducible refine Val.u32 (by omega) (by omega) ?_ | with_reducible refine Val.u64 (by omega) (by omega) ?_ | with_reducible refine Val.u8m ?_ | with_reducible refine Val.u32m ?_ | with_reducible refine Val.u64m ?_ | with_reducible refine Val.shr8 ?_ | with_reducible refine Val.shr16 (by decide) ?_ | with_reducible refine Val.shr24 (by decide) ?_ | with_reducible refine Val.raw ?_ | refine Branch.not ?_ | refine Branch.and ?_ | refine Branch.or ?_ | refine Branch.dt (by assumption) ?_ | refine Branch.df (by assumption) ?_ | refine Branch.dt rfl ?_ | refine Branch.dt (by omega) ?_ | refine Branch.df (by omega) ?_ | refine Branch.t rfl ?_ | refine Branch.f rfl ?_ | refine Branch.t (by assumption) ?_ | refine Branch.f (by assumption) ?_ | refine Branch.d (fun _ => ?_) (fun _ => ?_) | refine Branch.mk (fun _ => ?_) (fun _ => ?_) | refine Need.mk (by first | omega | decide | rfl) ?_ | refine Idx.nat (by omega) ?_ | refine Idx.auto (by first | omega | decide) (by first | omega | decide) ?_ | refine Cell.ro rfl ?_ | refine SDraw.all (by kernel_rfl) ?_ | refine Kept.k0 ?_ | refine Kept.k1 ?_ | refine Kept.k2 ?_ | refine Kept.k3 ?_ | refine Kept.k4 ?_))
theorem leavesN {w w' : World} {l : List Value} {H' : Heap} {r2 r3 r4 : Nat} (hw' : Holds w' H') (hs : Step w H w' H') (h : resK rs10 l H' fun vs => oneK vs fun v => Keep H' fun H' => K v H') :
    Leaves Tryz.prog Tryz.f14 l.toArray (Back w H K) [dfr r2 r3 r4] .returning w' := by
  refine leaves_cons (f := 37) (args := #[ptr r2, ptr r3, ptr r4]) (fun h => nomatch h) (by rfl) ?_
  refine (c37n w' hw').mono ?_
  rintro e u2 w2 ⟨rfl, ⟨v, H2, rfl, h1, h2, rfl⟩ | ⟨ch, H2, rfl, h1, h2, h3⟩⟩
  · exact leaves0 h1 (hs.trans h2) h
  · exact h3.elim
theorem leavesG {w w' : World} {l : List Value} {r2 r3 r4 : Nat} {p e : Int} (hw' : Holds w' (cels r2 r3 r4 (frC z0) 0 0 H)) (hs : Step w H w' (cels r2 r3 r4 (frC z0) 0 0 H))
    (h : resK rs10 l (cels r2 r3 r4 (frC z0) p e H) fun vs => oneK vs fun v => Keep (cels r2 r3 r4 (frC z0) p e H) fun H' => K v H') :
    Leaves Tryz.prog Tryz.f14 l.toArray (Back w H K) [dfr r2 r3 r4] (.panicking (wrg p e)) w' := by
  refine leaves_cons (f := 37) (args := #[ptr r2, ptr r3, ptr r4]) (fun h => nomatch h) (by rfl) ?_
  refine (c36g w' hw').mono ?_
  rintro en u2 w2 ⟨⟨v, rfl⟩, ⟨v2, H2, rfl, h1, h2, rfl⟩ | ⟨ch, H2, rfl, h1, h2, h3⟩⟩
  · exact leaves0 h1 (hs.trans h2) h
  · exact h3.elim
theorem c14 {s : List UInt8} (hv : chk s = 0) (D : List PanicEntry → Prop) (G : Fm → Nat → Prop)
    (hf : ∀ r, @SCalls ⟨D⟩ Tryz.prog 38 [ptr r] [rdB r s 0 0 0 (.pointer none) (.slice none 0 0)] fun v H' => ∃ f p B H2, v = frV f ∧ G f p ∧ H' = (r, .row 104 (.string (strOf s) :: .int .i64 (p : Int) :: B) (0, 0)) :: H2)
    (hG : ∀ f p, G f p → K (.tuple ⟨[frV f, .int .i64 (p : Int), .int .i64 0]⟩) H)
    (hD : ∀ ch, D ch → ∃ p e : Int, ch = wrg p e ∧ K (.tuple ⟨[frV z0, .int .i64 p, .int .i64 e]⟩) H) : SCalls Tryz.prog 14 [.string (strOf s)] H K := by
  refine ⟨fun w => Tryz.call14 _ w, fun w hw => calls_of_wp_defers (fn := Tryz.f14) Tryz.func14 dBody ?_⟩
  have e0 : ({ tmps := [Value.string (strOf s)].toArray ++ Array.replicate (Tryz.f14.ntmps - [Value.string (strOf s)].toArray.size) undef, defers := [] } : Act) = actD [] ([.string (strOf s)] ++ List.replicate 24 undef) := by
    have : Tryz.f14.ntmps - [Value.string (strOf s)].toArray.size = 24 := by kernel_rfl
    rw [this]; simp [actD]
  rw [e0]
  refine wp_part (ds := []) (fun l H' => ∃ r2 r3 r4, S14 (.string (strOf s)) (ptr r2) (ptr r3) (ptr r4) l ∧ H' = cels r2 r3 r4 (frC z0) 0 0 H) ?_ hw (Step.refl _ _) ?_
  · rw [dC0]
    repeat' ((conv => whnf); (first | exact ⟨_, _, _, .mk, rfl⟩ | refine New.mk (fun _ => ?_) | refine Look.at0 ?_ | refine Cell.row ?_ | refine Cell.buf ?_ | refine Cells.row rfl ?_ | refine Put.row rfl ?_ | refine Put.buf rfl ?_ | refine Look.at1 ?_ | refine Look.at2 ?_ | refine Look.at3 ?_ | refine Look.at4 ?_ | refine Look.at5 ?_ | refine Look.at6 ?_ | refine Look.at7 ?_ | refine Look.at8 ?_ | with_reducible refine Val.i64 (by omega) (by omega) ?_ | with_reducible refine Val.u8 (by omega) (by omega) ?_ | with_reducible refine Val.u32 (by omega) (by omega) ?_ | with_reducible refine Val.u64 (by omega) (by omega) ?_ | with_reducible refine Val.u8m ?_ | with_reducible refine Val.u32m ?_ | with_reducible refine Val.u64m ?_ | with_reducible refine Val.shr8 ?_ | with_reducible refine Val.shr16 (by decide) ?_ | with_reducible refine Val.shr24 (by decide) ?_ | with_reducible refine Val.raw ?_ | refine Branch.not ?_ | refine Branch.and ?_ | refine Branch.or ?_ | refine Branch.dt (by assumption) ?_ | refine Branch.df (by assumption) ?_ | refine Branch.dt rfl ?_ | refine Branch.dt (by omega) ?_ | refine Branch.df (by omega) ?_ | refine Branch.t rfl ?_ | refine Branch.f rfl ?_ | refine Branch.t (by assumption) ?_ | refine Branch.f (by assumption) ?_ | refine Branch.d (fun _ => ?_) (fun _ => ?_) | refine Branch.mk (fun _ => ?_) (fun _ => ?_) | refine Need.mk (by first | omega | decide | rfl) ?_ | refine Idx.nat (by omega) ?_ | refine Idx.auto (by first | omega | decide) (by first | omega | decide) ?_ | refine Cell.ro rfl ?_ | refine SDraw.all (by kernel_rfl) ?_ | refine Kept.k0 ?_ | refine Kept.k1 ?_ | refine Kept.k2 ?_ | refine Kept.k3 ?_ | refine Kept.k4 ?_))
  rintro l1 H1 w1 hw1 hs1 ⟨r2, r3, r4, hS1, rfl⟩
  refine wp_part (ds := []) (fun l H' => S14 (.string (strOf s)) (ptr r2) (ptr r3) (ptr r4) l ∧ H' = cels r2 r3 r4 (frC z0) 0 0 H) ?_ hw1 hs1 ?_
  · rw [dC1]
    cases hS1
    have h35 := fun H (K2 : Value → Heap → Prop) hk => c36 (s := s) (H := H) (K := K2) hv hk
    repeat' ((conv => whnf); (first | with_reducible refine h35 _ _ ?_ | exact ⟨.mk, rfl⟩ | refine New.mk (fun _ => ?_) | refine Look.at0 ?_ | refine Cell.row ?_ | refine Cell.buf ?_ | refine Cells.row rfl ?_ | refine Put.row rfl ?_ | refine Put.buf rfl ?_ | refine Look.at1 ?_ | refine Look.at2 ?_ | refine Look.at3 ?_ | refine Look.at4 ?_ | refine Look.at5 ?_ | refine Look.at6 ?_ | refine Look.at7 ?_ | refine Look.at8 ?_ | with_reducible refine Val.i64 (by omega) (by omega) ?_ | with_reducible refine Val.u8 (by omega) (by omega) ?_ | with_reducible refine Val.u32 (by omega) (by omega) ?_ | with_reducible refine Val.u64 (by omega) (by omega) ?_ | with_reducible refine Val.u8m ?_ | with_reducible refine Val.u32m ?_ | with_reducible refine Val.u64m ?_ | with_reducible refine Val.shr8 ?_ | with_reducible refine Val.shr16 (by decide) ?_ | with_reducible refine Val.shr24 (by decide) ?_ | with_reducible refine Val.raw ?_ | refine Branch.not ?_ | refine Branch.and ?_ | refine Branch.or ?_ | refine Branch.dt (by assumption) ?_ | refine Branch.df (by assumption) ?_ | refine Branch.dt rfl ?_ | refine Branch.dt (by omega) ?_ | refine Branch.df (by omega) ?_ | refine Branch.t rfl ?_ | refine Branch.f rfl ?_ | refine Branch.t (by assumption) ?_ | refine Branch.f (by assumption) ?_ | refine Branch.d (fun _ => ?_) (fun _ => ?_) | refine Branch.mk (fun _ => ?_) (fun _ => ?_) | refine Need.mk (by first | omega | decide | rfl) ?_ | refine Idx.nat (by omega) ?_ | refine Idx.auto (by first | omega | decide) (by first | omega | decide) ?_ | refine Cell.ro rfl ?_ | refine SDraw.all (by kernel_rfl) ?_ | refine Kept.k0 ?_ | refine Kept.k1 ?_ | refine Kept.k2 ?_ | refine Kept.k3 ?_ | refine Kept.k4 ?_))
  rintro l2 H2 w2 hw2 hs2 ⟨hS2, rfl⟩
  -- the call is put off
  refine wp_seq ?_
  rw [dC2]
  refine wp_region ?_
  rw [show List.range ops5.size = List.range' 0 1 ++ [1] from rfl]
  refine xops_pre (ds := []) (w0 := w) (H0 := H) (K := fun l H' => S10f (.string (strOf s)) (ptr r2) (ptr r3) (ptr r4) (clo r2 r3 r4) l ∧ H' = cels r2 r3 r4 (frC z0) 0 0 H) ?_ noDead [⟨some 14, none, .pure (.mkfunc (.func 37) [] [.tmp 2, .tmp 3, .tmp 4])⟩] 0 l2 _ w2 ?_ ?_ hw2 hs2
  rotate_left
  · intro i x hi
    match i, hi with
    | 0, hi => injection hi with hi; subst hi; exact ⟨_, rfl, by kernel_rfl⟩
  · cases hS2
    repeat' ((conv => whnf); (first | exact ⟨.mk, rfl⟩ | refine New.mk (fun _ => ?_) | refine Look.at0 ?_ | refine Cell.row ?_ | refine Cell.buf ?_ | refine Cells.row rfl ?_ | refine Put.row rfl ?_ | refine Put.buf rfl ?_ | refine Look.at1 ?_ | refine Look.at2 ?_ | refine Look.at3 ?_ | refine Look.at4 ?_ | refine Look.at5 ?_ | refine Look.at6 ?_ | refine Look.at7 ?_ | refine Look.at8 ?_ | with_reducible refine Val.i64 (by omega) (by omega) ?_ | with_reducible refine Val.u8 (by omega) (by omega) ?_ | with_reducible refine Val.u32 (by omega) (by omega) ?_ | with_reducible refine Val.u64 (by omega) (by omega) ?_ | with_reducible refine Val.u8m ?_ | with_reducible refine Val.u32m ?_ | with_reducible refine Val.u64m ?_ | with_reducible refine Val.shr8 ?_ | with_reducible refine Val.shr16 (by decide) ?_ | with_reducible refine Val.shr24 (by decide) ?_ | with_reducible refine Val.raw ?_ | refine Branch.not ?_ | refine Branch.and ?_ | refine Branch.or ?_ | refine Branch.dt (by assumption) ?_ | refine Branch.df (by assumption) ?_ | refine Branch.dt rfl ?_ | refine Branch.dt (by omega) ?_ | refine Branch.df (by omega) ?_ | refine Branch.t rfl ?_ | refine Branch.f rfl ?_ | refine Branch.t (by assumption) ?_ | refine Branch.f (by assumption) ?_ | refine Branch.d (fun _ => ?_) (fun _ => ?_) | refine Branch.mk (fun _ => ?_) (fun _ => ?_) | refine Need.mk (by first | omega | decide | rfl) ?_ | refine Idx.nat (by omega) ?_ | refine Idx.auto (by first | omega | decide) (by first | omega | decide) ?_ | refine Cell.ro rfl ?_ | refine SDraw.all (by kernel_rfl) ?_ | refine Kept.k0 ?_ | refine Kept.k1 ?_ | refine Kept.k2 ?_ | refine Kept.k3 ?_ | refine Kept.k4 ?_))
  rintro a3 w3 ⟨l3, H3, rfl, hw3, hs3, hS3, rfl⟩
  cases hS3
  refine wp_putOff (ops := ops5) (o := ⟨none, .defer ⟨.value (.tmp 14), #[], #[]⟩, 0, "frame.go:222", #[⟨0, .data⟩], none⟩) (d := dfr r2 r3 r4) (by rfl) rfl (by
    simp only [execOp, resolve, ev_eq]
    show (Deferred.ofValue (clo r2 r3 r4) _ >>= fun d => pure (.defer d) : Sem Next).run Tryz.prog w3 = _
    simp [Deferred.ofValue]) ⟨_, rfl, ?_⟩
  -- the reader is made
  refine wp_part (ds := [dfr r2 r3 r4]) (fun l H' => ∃ r, S10r (.string (strOf s)) (ptr r2) (ptr r3) (ptr r4) (ptr r) (clo r2 r3 r4) l ∧ H' = rdB r s 0 0 0 (.pointer none) (.slice none 0 0) :: cels r2 r3 r4 (frC z0) 0 0 H) ?_ hw3 hs3 ?_
  · rw [dC3]
    repeat' ((conv => whnf); (first | exact ⟨_, .mk, rfl⟩ | refine New.mk (fun _ => ?_) | refine Look.at0 ?_ | refine Cell.row ?_ | refine Cell.buf ?_ | refine Cells.row rfl ?_ | refine Put.row rfl ?_ | refine Put.buf rfl ?_ | refine Look.at1 ?_ | refine Look.at2 ?_ | refine Look.at3 ?_ | refine Look.at4 ?_ | refine Look.at5 ?_ | refine Look.at6 ?_ | refine Look.at7 ?_ | refine Look.at8 ?_ | with_reducible refine Val.i64 (by omega) (by omega) ?_ | with_reducible refine Val.u8 (by omega) (by omega) ?_ | with_reducible refine Val.u32 (by omega) (by omega) ?_ | with_reducible refine Val.u64 (by omega) (by omega) ?_ | with_reducible refine Val.u8m ?_ | with_reducible refine Val.u32m ?_ | with_reducible refine Val.u64m ?_ | with_reducible refine Val.shr8 ?_ | with_reducible refine Val.shr16 (by decide) ?_ | with_reducible refine Val.shr24 (by decide) ?_ | with_reducible refine Val.raw ?_ | refine Branch.not ?_ | refine Branch.and ?_ | refine Branch.or ?_ | refine Branch.dt (by assumption) ?_ | refine Branch.df (by assumption) ?_ | refine Branch.dt rfl ?_ | refine Branch.dt (by omega) ?_ | refine Branch.df (by omega) ?_ | refine Branch.t rfl ?_ | refine Branch.f rfl ?_ | refine Branch.t (by assumption) ?_ | refine Branch.f (by assumption) ?_ | refine Branch.d (fun _ => ?_) (fun _ => ?_) | refine Branch.mk (fun _ => ?_) (fun _ => ?_) | refine Need.mk (by first | omega | decide | rfl) ?_ | refine Idx.nat (by omega) ?_ | refine Idx.auto (by first | omega | decide) (by first | omega | decide) ?_ | refine Cell.ro rfl ?_ | refine SDraw.all (by kernel_rfl) ?_ | refine Kept.k0 ?_ | refine Kept.k1 ?_ | refine Kept.k2 ?_ | refine Kept.k3 ?_ | refine Kept.k4 ?_))
  rintro l4 H4 w4 hw4 hs4 ⟨r, hS4, rfl⟩
  -- the frame is read
  refine wp_seq ?_
  rw [dC4]
  refine wp_region ?_
  rw [show List.range ops7.size = List.range' 0 1 ++ [1, 2] from rfl]
  refine xops_pre (ds := [dfr r2 r3 r4]) (w0 := w) (H0 := H) (K := fun l H' => S10c (.string (strOf s)) (ptr r2) (ptr r3) (ptr r4) (ptr r) (clo r2 r3 r4) (ptr r) l ∧ H' = rdB r s 0 0 0 (.pointer none) (.slice none 0 0) :: cels r2 r3 r4 (frC z0) 0 0 H) ?_ noDead [⟨some 18, none, .pure (.mov (.tmp 5))⟩] 0 l4 _ w4 ?_ ?_ hw4 hs4
  rotate_left
  · intro i x hi
    match i, hi with
    | 0, hi => injection hi with hi; subst hi; exact ⟨_, rfl, by kernel_rfl⟩
  · cases hS4
    repeat' ((conv => whnf); (first | exact ⟨.mk, rfl⟩ | refine New.mk (fun _ => ?_) | refine Look.at0 ?_ | refine Cell.row ?_ | refine Cell.buf ?_ | refine Cells.row rfl ?_ | refine Put.row rfl ?_ | refine Put.buf rfl ?_ | refine Look.at1 ?_ | refine Look.at2 ?_ | refine Look.at3 ?_ | refine Look.at4 ?_ | refine Look.at5 ?_ | refine Look.at6 ?_ | refine Look.at7 ?_ | refine Look.at8 ?_ | with_reducible refine Val.i64 (by omega) (by omega) ?_ | with_reducible refine Val.u8 (by omega) (by omega) ?_ | with_reducible refine Val.u32 (by omega) (by omega) ?_ | with_reducible refine Val.u64 (by omega) (by omega) ?_ | with_reducible refine Val.u8m ?_ | with_reducible refine Val.u32m ?_ | with_reducible refine Val.u64m ?_ | with_reducible refine Val.shr8 ?_ | with_reducible refine Val.shr16 (by decide) ?_ | with_reducible refine Val.shr24 (by decide) ?_ | with_reducible refine Val.raw ?_ | refine Branch.not ?_ | refine Branch.and ?_ | refine Branch.or ?_ | refine Branch.dt (by assumption) ?_ | refine Branch.df (by assumption) ?_ | refine Branch.dt rfl ?_ | refine Branch.dt (by omega) ?_ | refine Branch.df (by omega) ?_ | refine Branch.t rfl ?_ | refine Branch.f rfl ?_ | refine Branch.t (by assumption) ?_ | refine Branch.f (by assumption) ?_ | refine Branch.d (fun _ => ?_) (fun _ => ?_) | refine Branch.mk (fun _ => ?_) (fun _ => ?_) | refine Need.mk (by first | omega | decide | rfl) ?_ | refine Idx.nat (by omega) ?_ | refine Idx.auto (by first | omega | decide) (by first | omega | decide) ?_ | refine Cell.ro rfl ?_ | refine SDraw.all (by kernel_rfl) ?_ | refine Kept.k0 ?_ | refine Kept.k1 ?_ | refine Kept.k2 ?_ | refine Kept.k3 ?_ | refine Kept.k4 ?_))
  rintro a5 w5 ⟨l5, H5, rfl, hw5, hs5, hS5, rfl⟩
  cases hS5
  refine @wp_mayDie ⟨D⟩ _ _ ops7 _ _ w5 ⟨some 19, .call ⟨.value (.func 38), #[.tmp 18], #[102]⟩, 39, "frame.go:232", #[⟨0, .data⟩], none⟩ 1 [2] 38 [ptr r] (cels r2 r3 r4 (frC z0) 0 0 H) _ _ (by rfl) rfl (by
    have e : ∀ l, (act l).eval (.func 38) = .func (.func 38) #[] #[] := fun l => rfl
    have e2 : ∀ l, Array.map (act l).eval #[Operand.tmp 18] = #[ev l (.tmp 18)] := fun l => by simp [ev_eq]
    simp only [execOp, resolve, e, e2, Deferred.ofValue, Sem.run_bind, Sem.run_pure, Result.andThen_ok, invoke, Array.empty_append, Array.append_empty]
    rfl) (hf r) hw5 ?_ ?_
  · rintro v H6 w6 hw6 hst6 ⟨f, p, B, H2, rfl, hGf, rfl⟩
    refine ⟨_, rfl, ?_⟩
    -- what was read is laid down
    have hsub : ((r, Blk.row 104 (.string (strOf s) :: .int .i64 (p : Int) :: B) (0, 0)) :: cels r2 r3 r4 (frC z0) 0 0 H).Sublist (((r, Blk.row 104 (.string (strOf s) :: .int .i64 (p : Int) :: B) (0, 0)) :: H2) ++ cels r2 r3 r4 (frC z0) 0 0 H) :=
      List.Sublist.cons_cons _ (List.sublist_append_right _ _)
    have hw7 := hw6.sub hsub
    have hs7 : Step w H w6 ((r, Blk.row 104 (.string (strOf s) :: .int .i64 (p : Int) :: B) (0, 0)) :: cels r2 r3 r4 (frC z0) 0 0 H) := (hs5.trans hst6).fewer fun q hq => hsub.subset hq
    refine xops_pre (ds := [dfr r2 r3 r4]) (rest := []) (w0 := w) (H0 := H) (K := fun l H' => S10r (.string (strOf s)) (ptr r2) (ptr r3) (ptr r4) (ptr r) (clo r2 r3 r4) l ∧ H' = (r, Blk.row 104 (.string (strOf s) :: .int .i64 (p : Int) :: B) (0, 0)) :: cels r2 r3 r4 (frC f) 0 0 H) ?_ noDead [⟨none, none, .store 12 (.tmp 2) (.tmp 19)⟩] 2 _ _ w6 ?_ ?_ hw7 hs7
    rotate_left
    · intro i x hi
      match i, hi with
      | 0, hi => injection hi with hi; subst hi; exact ⟨_, rfl, by kernel_rfl⟩
    · repeat' ((conv => whnf); (first | exact ⟨.mk, rfl⟩ | refine New.mk (fun _ => ?_) | refine Look.at0 ?_ | refine Cell.row ?_ | refine Cell.buf ?_ | refine Cells.row rfl ?_ | refine Put.row rfl ?_ | refine Put.buf rfl ?_ | refine Look.at1 ?_ | refine Look.at2 ?_ | refine Look.at3 ?_ | refine Look.at4 ?_ | refine Look.at5 ?_ | refine Look.at6 ?_ | refine Look.at7 ?_ | refine Look.at8 ?_ | with_reducible refine Val.i64 (by omega) (by omega) ?_ | with_reducible refine Val.u8 (by omega) (by omega) ?_ | with_reducible refine Val.u32 (by omega) (by omega) ?_ | with_reducible refine Val.u64 (by omega) (by omega) ?_ | with_reducible refine Val.u8m ?_ | with_reducible refine Val.u32m ?_ | with_reducible refine Val.u64m ?_ | with_reducible refine Val.shr8 ?_ | with_reducible refine Val.shr16 (by decide) ?_ | with_reducible refine Val.shr24 (by decide) ?_ | with_reducible refine Val.raw ?_ | refine Branch.not ?_ | refine Branch.and ?_ | refine Branch.or ?_ | refine Branch.dt (by assumption) ?_ | refine Branch.df (by assumption) ?_ | refine Branch.dt rfl ?_ | refine Branch.dt (by omega) ?_ | refine Branch.df (by omega) ?_ | refine Branch.t rfl ?_ | refine Branch.f rfl ?_ | refine Branch.t (by assumption) ?_ | refine Branch.f (by assumption) ?_ | refine Branch.d (fun _ => ?_) (fun _ => ?_) | refine Branch.mk (fun _ => ?_) (fun _ => ?_) | refine Need.mk (by first | omega | decide | rfl) ?_ | refine Idx.nat (by omega) ?_ | refine Idx.auto (by first | omega | decide) (by first | omega | decide) ?_ | refine Cell.ro rfl ?_ | refine SDraw.all (by kernel_rfl) ?_ | refine Kept.k0 ?_ | refine Kept.k1 ?_ | refine Kept.k2 ?_ | refine Kept.k3 ?_ | refine Kept.k4 ?_))
    rintro a8 w8 ⟨l8, H8, rfl, hw8, hs8, hS8, rfl⟩
    show (dC 5).wp Tryz.prog _ _ _
    refine wp_mono (xc_ok (ds := [dfr r2 r3 r4]) (dC 5) (fun e l H' => match e with
      | .ret => resK rs10 l H' fun vs => oneK vs fun v => Keep H' fun H' => K v H'
      | _ => False) _ _ noD ?_ w8 hw8) ?_
    · rw [dC5]
      cases hS8
      have hk := hG f p hGf
      repeat' ((conv => whnf); (first | refine SDraw.held (by kernel_rfl) [] .nil ?_ | refine Kept.sub (List.nil_sublist _) ?_ | refine And.intro ?_ ?_ | exact Keep.d4 hk | refine New.mk (fun _ => ?_) | refine Look.at0 ?_ | refine Cell.row ?_ | refine Cell.buf ?_ | refine Cells.row rfl ?_ | refine Put.row rfl ?_ | refine Put.buf rfl ?_ | refine Look.at1 ?_ | refine Look.at2 ?_ | refine Look.at3 ?_ | refine Look.at4 ?_ | refine Look.at5 ?_ | refine Look.at6 ?_ | refine Look.at7 ?_ | refine Look.at8 ?_ | with_reducible refine Val.i64 (by omega) (by omega) ?_ | with_reducible refine Val.u8 (by omega) (by omega) ?_ | with_reducible refine Val.u32 (by omega) (by omega) ?_ | with_reducible refine Val.u64 (by omega) (by omega) ?_ | with_reducible refine Val.u8m ?_ | with_reducible refine Val.u32m ?_ | with_reducible refine Val.u64m ?_ | with_reducible refine Val.shr8 ?_ | with_reducible refine Val.shr16 (by decide) ?_ | with_reducible refine Val.shr24 (by decide) ?_ | with_reducible refine Val.raw ?_ | refine Branch.not ?_ | refine Branch.and ?_ | refine Branch.or ?_ | refine Branch.dt (by assumption) ?_ | refine Branch.df (by assumption) ?_ | refine Branch.dt rfl ?_ | refine Branch.dt (by omega) ?_ | refine Branch.df (by omega) ?_ | refine Branch.t rfl ?_ | refine Branch.f rfl ?_ | refine Branch.t (by assumption) ?_ | refine Branch.f (by assumption) ?_ | refine Branch.d (fun _ => ?_) (fun _ => ?_) | refine Branch.mk (fun _ => ?_) (fun _ => ?_) | refine Need.mk (by first | omega | decide | rfl) ?_ | refine Idx.nat (by omega) ?_ | refine Idx.auto (by first | omega | decide) (by first | omega | decide) ?_ | refine Cell.ro rfl ?_ | refine SDraw.all (by kernel_rfl) ?_ | refine Kept.k0 ?_ | refine Kept.k1 ?_ | refine Kept.k2 ?_ | refine Kept.k3 ?_ | refine Kept.k4 ?_))
    · rintro e a9 w9 ⟨l9, H9, rfl, hw9, hs9, hq⟩
      cases e with
      | ret => exact leavesN hw9 (hs8.trans hs9) hq
      | normal => exact hq.elim
      | exit i => exact hq.elim
      | goto i => exact hq.elim
      | panic ch => exact hq.elim
      | outgrown => exact hq.elim
  · intro ch H6 w6 hw6 hst6 hch
    obtain ⟨p, e, rfl, hk⟩ := hD ch hch
    have hsub : (cels r2 r3 r4 (frC z0) 0 0 H).Sublist (H6 ++ cels r2 r3 r4 (frC z0) 0 0 H) := List.sublist_append_right _ _
    refine leavesG (hw6.sub hsub) ((hs5.trans hst6).fewer fun q hq => hsub.subset hq) ?_
    repeat' ((conv => whnf); (first | exact Keep.d3 hk | refine New.mk (fun _ => ?_) | refine Look.at0 ?_ | refine Cell.row ?_ | refine Cell.buf ?_ | refine Cells.row rfl ?_ | refine Put.row rfl ?_ | refine Put.buf rfl ?_ | refine Look.at1 ?_ | refine Look.at2 ?_ | refine Look.at3 ?_ | refine Look.at4 ?_ | refine Look.at5 ?_ | refine Look.at6 ?_ | refine Look.at7 ?_ | refine Look.at8 ?_ | with_reducible refine Val.i64 (by omega) (by omega) ?_ | with_reducible refine Val.u8 (by omega) (by omega) ?_ | with_reducible refine Val.u32 (by omega) (by omega) ?_ | with_reducible refine Val.u64 (by omega) (by omega) ?_ | with_reducible refine Val.u8m ?_ | with_reducible refine Val.u32m ?_ | with_reducible refine Val.u64m ?_ | with_reducible refine Val.shr8 ?_ | with_reducible refine Val.shr16 (by decide) ?_ | with_reducible refine Val.shr24 (by decide) ?_ | with_reducible refine Val.raw ?_ | refine Branch.not ?_ | refine Branch.and ?_ | refine Branch.or ?_ | refine Branch.dt (by assumption) ?_ | refine Branch.df (by assumption) ?_ | refine Branch.dt rfl ?_ | refine Branch.dt (by omega) ?_ | refine Branch.df (by omega) ?_ | refine Branch.t rfl ?_ | refine Branch.f rfl ?_ | refine Branch.t (by assumption) ?_ | refine Branch.f (by assumption) ?_ | refine Branch.d (fun _ => ?_) (fun _ => ?_) | refine Branch.mk (fun _ => ?_) (fun _ => ?_) | refine Need.mk (by first | omega | decide | rfl) ?_ | refine Idx.nat (by omega) ?_ | refine Idx.auto (by first | omega | decide) (by first | omega | decide) ?_ | refine Cell.ro rfl ?_ | refine SDraw.all (by kernel_rfl) ?_ | refine Kept.k0 ?_ | refine Kept.k1 ?_ | refine Kept.k2 ?_ | refine Kept.k3 ?_ | refine Kept.k4 ?_))
end
end Go.Proofs.YtiaginlnapiijaaGreatDoor


/- Ported (port.py) from FmK. -/
set_option linter.unusedVariables false
set_option linter.unusedSimpArgs false
set_option maxRecDepth 100000
set_option maxHeartbeats 4000000
namespace Go.Proofs.YtiaginlnapiijaaGreatDoor
open Sx
theorem encB_ok (f : Fm) (ack : Bool) : ∀ b ∈ encB f ack, isB b = true := by
  intro b hb
  unfold encB at hb
  rcases List.mem_append.1 hb with h | h
  · rcases List.mem_append.1 h with h | h
    · exact (stf_run (bodyB f) (bodyB_ok f)).2 b h
    · rcases List.mem_cons.1 h with rfl | h
      · rfl
      · rw [List.mem_singleton.1 h]; exact fb_ok _
  · rw [(List.mem_replicate.1 h).2]; rfl
theorem encB_lim (f : Fm) (ack : Bool) : (encB f ack).length ≤ 65536 := by
  have := encN_lt f
  rw [encB_len]; omega
section
variable {K : Value → Heap → Prop} {H : Heap} {f : Fm}
/-- A frame's bits, and any behind them. -/
theorem c10a {u : List UInt8} (hok : okF f = true) (hu : ∀ b ∈ u, isB b = true) (hl : (encB f true ++ u).length ≤ 65536) (hK : K (.tuple ⟨[frV (plF f), .int .i64 (encN f : Int), .int .i64 0]⟩) H) :
    SCalls Tryz.prog 14 [.string (strOf (encB f true ++ u))] H K := by
  have hv : chk (encB f true ++ u) = 0 := chk_ok hl (fun b hb => by
    rcases List.mem_append.1 hb with h | h
    · exact encB_ok _ _ _ h
    · exact hu b h)
  refine c14 hv (fun _ => False) (fun g p => g = plF f ∧ p = encN f) (fun r => ?_) (fun g p h => by obtain ⟨rfl, rfl⟩ := h; exact hK) (fun ch h => h.elim)
  refine @c38 ⟨fun _ => False⟩ _ r _ u f true _ hok ⟨fun i a b h1 h2 => by rw [h1] at h2; injection h2, fun h => absurd h (Nat.lt_irrefl _), hl⟩ (.mk .zero (Nat.zero_le _) (Bld.new (T := 104) (r := r) (pre := rdC _ 0 0 0))) (fun h => nomatch h) (fun _ N' hN => ?_)
  cases hN with
  | @mk a lv n N ha ha2 hBd =>
    cases hBd with
    | @mk pp sv M hpp hbuf =>
      have hae : a = encN f := by rw [ha]; rfl
      exact ⟨plF f, a, _, M, rfl, ⟨rfl, hae⟩, rfl⟩
end
end Go.Proofs.YtiaginlnapiijaaGreatDoor


/- Ported (port.py) from FmL. -/
set_option linter.unusedVariables false
set_option linter.unusedSimpArgs false
set_option maxRecDepth 100000
set_option maxHeartbeats 4000000
namespace Go.Proofs.YtiaginlnapiijaaGreatDoor
open Sx
/-- How many bits a frame has at most. -/
def lonM (n : Nat) (x : Bool) : Nat := if x then 54 + 8 * n else 34 + 8 * n
def lonV (n : Int) (x : Bool) : Int × Int := if n < 0 ∨ 8 < n then (0, 1) else ((lonM n.toNat x + (lonM n.toNat x - 1) / 4 + 10 : Nat), 0)
theorem stf_put (l : List UInt8) : l ≠ [] → 1 ≤ (stf l).n ∧ 4 * (stf l).out.length + (stf l).n ≤ 5 * l.length := by
  induction l using snoc_ind with
  | h0 => exact fun h => absurd rfl h
  | h1 l b ih =>
    intro _
    rw [stf_snoc]
    by_cases h0 : l = []
    · subst h0
      unfold St.step tk
      show 1 ≤ (if (if b.toNat = (stf []).lv then (stf []).n + 1 else 1) = 5 then _ else _ : St).n ∧ _
      have : (stf []).n = 0 := rfl
      rw [this]
      have h1 : (if b.toNat = (stf []).lv then 0 + 1 else 1) = 1 := by split <;> rfl
      rw [h1, if_neg (by decide)]
      exact ⟨Nat.le_refl _, Nat.le_refl _⟩
    · obtain ⟨h1, h2⟩ := ih h0
      have h3 : tk (stf l).lv (stf l).n b.toNat ≤ (stf l).n + 1 := by unfold tk; split <;> omega
      have h4 : 1 ≤ tk (stf l).lv (stf l).n b.toNat := by unfold tk; split <;> omega
      unfold St.step
      split
      · rename_i h5
        refine ⟨Nat.le_refl _, ?_⟩
        simp only [List.length_append, List.length_singleton]
        omega
      · refine ⟨h4, ?_⟩
        simp only [List.length_append, List.length_singleton]
        omega
theorem body_len (f : Fm) : (bodyB f).length = lonM (nb f) f.x := by
  have h2 := datB_len f (nb_le f)
  have h3 := fld_lenX f
  unfold bodyB sumB hdB lonM
  simp only [List.length_append, numB_len, List.length_cons, List.length_nil, h2, h3]
  split <;> simp <;> omega
section
variable {K : Value → Heap → Prop} {H : Heap} {f g : Fm}
theorem c68 {n : Int} {x : Bool} (h1 : -9223372036854775808 ≤ n) (h2 : n ≤ 9223372036854775807) (hK : K (.tuple ⟨[.int .i64 (lonV n x).1, .int .i64 (lonV n x).2]⟩) H) : SCalls Tryz.prog 68 [.int .i64 n, .bool x] H K := by
  refine enter68 ?_
  unfold lonV at hK
  by_cases h : n < 0 ∨ 8 < n
  · rw [if_pos h] at hK
    rcases h with h | h
    · repeat' ((conv => whnf); (first | refine Branch.dt h ?_ | exact Keep.all hK | refine New.mk (fun _ => ?_) | refine Look.at0 ?_ | refine Cell.row ?_ | refine Cell.buf ?_ | refine Cells.row rfl ?_ | refine Put.row rfl ?_ | refine Put.buf rfl ?_ | refine Look.at1 ?_ | refine Look.at2 ?_ | refine Look.at3 ?_ | refine Look.at4 ?_ | refine Look.at5 ?_ | refine Look.at6 ?_ | refine Look.at7 ?_ | refine Look.at8 ?_ | with_reducible refine Val.i64 (by omega) (by omega) ?_ | with_reducible refine Val.u8 (by omega) (by omega) ?_ | with_reducible refine Val.u32 (by omega) (by omega) ?_ | with_reducible refine Val.u64 (by omega) (by omega) ?_ | with_reducible refine Val.u8m ?_ | with_reducible refine Val.u32m ?_ | with_reducible refine Val.u64m ?_ | with_reducible refine Val.shr8 ?_ | with_reducible refine Val.shr16 (by decide) ?_ | with_reducible refine Val.shr24 (by decide) ?_ | with_reducible refine Val.raw ?_ | refine Branch.not ?_ | refine Branch.and ?_ | refine Branch.or ?_ | refine Branch.dt (by assumption) ?_ | refine Branch.df (by assumption) ?_ | refine Branch.dt rfl ?_ | refine Branch.dt (by omega) ?_ | refine Branch.df (by omega) ?_ | refine Branch.t rfl ?_ | refine Branch.f rfl ?_ | refine Branch.t (by assumption) ?_ | refine Branch.f (by assumption) ?_ | refine Branch.d (fun _ => ?_) (fun _ => ?_) | refine Branch.mk (fun _ => ?_) (fun _ => ?_) | refine Need.mk (by first | omega | decide | rfl) ?_ | refine Idx.nat (by omega) ?_ | refine Idx.auto (by first | omega | decide) (by first | omega | decide) ?_ | refine Cell.ro rfl ?_ | refine SDraw.all (by kernel_rfl) ?_ | refine Kept.k0 ?_ | refine Kept.k1 ?_ | refine Kept.k2 ?_ | refine Kept.k3 ?_ | refine Kept.k4 ?_))
    · repeat' ((conv => whnf); (first | refine Branch.df (by omega) ?_ | refine Branch.dt h ?_ | exact Keep.all hK | refine New.mk (fun _ => ?_) | refine Look.at0 ?_ | refine Cell.row ?_ | refine Cell.buf ?_ | refine Cells.row rfl ?_ | refine Put.row rfl ?_ | refine Put.buf rfl ?_ | refine Look.at1 ?_ | refine Look.at2 ?_ | refine Look.at3 ?_ | refine Look.at4 ?_ | refine Look.at5 ?_ | refine Look.at6 ?_ | refine Look.at7 ?_ | refine Look.at8 ?_ | with_reducible refine Val.i64 (by omega) (by omega) ?_ | with_reducible refine Val.u8 (by omega) (by omega) ?_ | with_reducible refine Val.u32 (by omega) (by omega) ?_ | with_reducible refine Val.u64 (by omega) (by omega) ?_ | with_reducible refine Val.u8m ?_ | with_reducible refine Val.u32m ?_ | with_reducible refine Val.u64m ?_ | with_reducible refine Val.shr8 ?_ | with_reducible refine Val.shr16 (by decide) ?_ | with_reducible refine Val.shr24 (by decide) ?_ | with_reducible refine Val.raw ?_ | refine Branch.not ?_ | refine Branch.and ?_ | refine Branch.or ?_ | refine Branch.dt (by assumption) ?_ | refine Branch.df (by assumption) ?_ | refine Branch.dt rfl ?_ | refine Branch.dt (by omega) ?_ | refine Branch.df (by omega) ?_ | refine Branch.t rfl ?_ | refine Branch.f rfl ?_ | refine Branch.t (by assumption) ?_ | refine Branch.f (by assumption) ?_ | refine Branch.d (fun _ => ?_) (fun _ => ?_) | refine Branch.mk (fun _ => ?_) (fun _ => ?_) | refine Need.mk (by first | omega | decide | rfl) ?_ | refine Idx.nat (by omega) ?_ | refine Idx.auto (by first | omega | decide) (by first | omega | decide) ?_ | refine Cell.ro rfl ?_ | refine SDraw.all (by kernel_rfl) ?_ | refine Kept.k0 ?_ | refine Kept.k1 ?_ | refine Kept.k2 ?_ | refine Kept.k3 ?_ | refine Kept.k4 ?_))
  · rw [if_neg h] at hK
    obtain ⟨m, rfl⟩ : ∃ m : Nat, n = (m : Int) := ⟨n.toNat, by omega⟩
    have hm : m ≤ 8 := by omega
    clear h h1 h2
    rcases (show m = 0 ∨ m = 1 ∨ m = 2 ∨ m = 3 ∨ m = 4 ∨ m = 5 ∨ m = 6 ∨ m = 7 ∨ m = 8 by omega) with rfl | rfl | rfl | rfl | rfl | rfl | rfl | rfl | rfl <;> cases x
    all_goals
      repeat' ((conv => whnf); (first | refine Branch.df (by decide) ?_ | refine Need.mk (by decide) ?_ | refine Val.to _ rfl ?_ | exact Keep.all hK | refine New.mk (fun _ => ?_) | refine Look.at0 ?_ | refine Cell.row ?_ | refine Cell.buf ?_ | refine Cells.row rfl ?_ | refine Put.row rfl ?_ | refine Put.buf rfl ?_ | refine Look.at1 ?_ | refine Look.at2 ?_ | refine Look.at3 ?_ | refine Look.at4 ?_ | refine Look.at5 ?_ | refine Look.at6 ?_ | refine Look.at7 ?_ | refine Look.at8 ?_ | with_reducible refine Val.i64 (by omega) (by omega) ?_ | with_reducible refine Val.u8 (by omega) (by omega) ?_ | with_reducible refine Val.u32 (by omega) (by omega) ?_ | with_reducible refine Val.u64 (by omega) (by omega) ?_ | with_reducible refine Val.u8m ?_ | with_reducible refine Val.u32m ?_ | with_reducible refine Val.u64m ?_ | with_reducible refine Val.shr8 ?_ | with_reducible refine Val.shr16 (by decide) ?_ | with_reducible refine Val.shr24 (by decide) ?_ | with_reducible refine Val.raw ?_ | refine Branch.not ?_ | refine Branch.and ?_ | refine Branch.or ?_ | refine Branch.dt (by assumption) ?_ | refine Branch.df (by assumption) ?_ | refine Branch.dt rfl ?_ | refine Branch.dt (by omega) ?_ | refine Branch.df (by omega) ?_ | refine Branch.t rfl ?_ | refine Branch.f rfl ?_ | refine Branch.t (by assumption) ?_ | refine Branch.f (by assumption) ?_ | refine Branch.d (fun _ => ?_) (fun _ => ?_) | refine Branch.mk (fun _ => ?_) (fun _ => ?_) | refine Need.mk (by first | omega | decide | rfl) ?_ | refine Idx.nat (by omega) ?_ | refine Idx.auto (by first | omega | decide) (by first | omega | decide) ?_ | refine Cell.ro rfl ?_ | refine SDraw.all (by kernel_rfl) ?_ | refine Kept.k0 ?_ | refine Kept.k1 ?_ | refine Kept.k2 ?_ | refine Kept.k3 ?_ | refine Kept.k4 ?_))
theorem c10t (hok : okF f = true) (hK : K (.tuple ⟨[frV (plF f), .int .i64 (encN f : Int), .int .i64 0]⟩) H) : SCalls Tryz.prog 14 [.string (strOf (encB f true))] H K := by
  have := c10a (f := f) (u := []) (K := K) (H := H) hok (fun b hb => by cases hb) (by rw [List.append_nil]; exact encB_lim f _) hK
  rwa [List.append_nil] at this
def f0 : Fm := ⟨291, false, false, 2, 1, 2, 0, 0, 0, 0, 0, 0⟩
end
end Go.Proofs.YtiaginlnapiijaaGreatDoor


/- Ported (port.py) from LdD. -/
set_option linter.unusedVariables false
set_option linter.unusedSimpArgs false
set_option maxRecDepth 100000
set_option maxHeartbeats 4000000
namespace Go.Proofs.YtiaginlnapiijaaGreatDoor.L
open Sx
/-- Whether a frame of such a number can be. -/
def okF (id : Nat) (x : Bool) (n : Int) : Bool := decide (0 ≤ n) && decide (n ≤ 15) && decide (id < if x then 536870912 else 2048)
def fldB (id : Nat) (x : Bool) : List UInt8 := if x then numB 11 (id / 2 ^ 18) ++ [49, 49] ++ numB 18 (id % 2 ^ 18) ++ [48] else numB 11 id ++ [48] ++ [48]
def fV (id : Nat) (x : Bool) (n : Int) : List UInt8 × Int := if okF id x n then (fldB id x, 0) else ([], 1)
abbrev frC (id : Nat) (x : Bool) (n : Int) : Value := .agg ⟨[.int .u32 (id : Int), .bool x, .bool false, .int .i64 n, .int .u8 0, .int .u8 0, .int .u8 0, .int .u8 0, .int .u8 0, .int .u8 0, .int .u8 0, .int .u8 0]⟩
abbrev mgC (id : Nat) (x : Bool) (n : Int) (p j : Nat) : Value := .agg ⟨[.int .u32 (id : Int), .bool x, .int .i64 n, .int .u64 (p : Int), .int .u64 (j : Int)]⟩
theorem bt105 : BT 88 0 := by unfold BT; kernel_rfl
section
variable {K : Value → Heap → Prop} {H : Heap} {id : Nat} {x : Bool} {n : Int} {p j : Nat}
theorem c28 (hid : id < 4294967296) (hK : K (.int .i64 (if okF id x n then 0 else 1)) H) : SCalls Tryz.prog 28 [frC id x n] H K := by
  refine enter28 ?_
  have h11 : shrI .u32 (id : Int) 11 = ((id / 2 ^ 11 : Nat) : Int) := shr_nat (k := .u32) (n := 11) (by decide)
  have h29 : shrI .u32 (id : Int) 29 = ((id / 2 ^ 29 : Nat) : Int) := shr_nat (k := .u32) (n := 29) (by decide)
  have e : ∀ b, okF id x n = b → (if okF id x n then (0 : Int) else 1) = if b then 0 else 1 := fun b h => by rw [h]
  cases x with
  | true =>
    by_cases hg : okF id true n = true
    · rw [e _ hg] at hK
      unfold okF at hg
      simp only [Bool.and_eq_true, decide_eq_true_eq, if_true] at hg
      rw [Nat.div_eq_of_lt (show id < 2 ^ 29 by omega)] at h29
      repeat' ((conv => whnf); (first | with_reducible refine Val.to _ h29 ?_ | refine Branch.f rfl ?_ | exact Keep.d1 hK | refine New.mk (fun _ => ?_) | refine Look.at0 ?_ | refine Cell.row ?_ | refine Cell.buf ?_ | refine Cells.row rfl ?_ | refine Put.row rfl ?_ | refine Put.buf rfl ?_ | refine Look.at1 ?_ | refine Look.at2 ?_ | refine Look.at3 ?_ | refine Look.at4 ?_ | refine Look.at5 ?_ | refine Look.at6 ?_ | refine Look.at7 ?_ | refine Look.at8 ?_ | with_reducible refine Val.i64 (by omega) (by omega) ?_ | with_reducible refine Val.u8 (by omega) (by omega) ?_ | with_reducible refine Val.u32 (by omega) (by omega) ?_ | with_reducible refine Val.u64 (by omega) (by omega) ?_ | with_reducible refine Val.u8m ?_ | with_reducible refine Val.u32m ?_ | with_reducible refine Val.u64m ?_ | with_reducible refine Val.shr8 ?_ | with_reducible refine Val.shr16 (by decide) ?_ | with_reducible refine Val.shr24 (by decide) ?_ | with_reducible refine Val.raw ?_ | refine Branch.not ?_ | refine Branch.and ?_ | refine Branch.or ?_ | refine Branch.dt (by assumption) ?_ | refine Branch.df (by assumption) ?_ | refine Branch.dt rfl ?_ | refine Branch.dt (by omega) ?_ | refine Branch.df (by omega) ?_ | refine Branch.t rfl ?_ | refine Branch.f rfl ?_ | refine Branch.t (by assumption) ?_ | refine Branch.f (by assumption) ?_ | refine Branch.d (fun _ => ?_) (fun _ => ?_) | refine Branch.mk (fun _ => ?_) (fun _ => ?_) | refine Need.mk (by first | omega | decide | rfl) ?_ | refine Idx.nat (by omega) ?_ | refine Idx.auto (by first | omega | decide) (by first | omega | decide) ?_ | refine Cell.ro rfl ?_ | refine SDraw.all (by kernel_rfl) ?_ | refine Kept.k0 ?_ | refine Kept.k1 ?_ | refine Kept.k2 ?_ | refine Kept.k3 ?_ | refine Kept.k4 ?_))
    · have hg' : okF id true n = false := by simpa using hg
      rw [e _ hg'] at hK
      unfold okF at hg'
      simp only [Bool.and_eq_false_iff, decide_eq_false_iff_not, if_true] at hg'
      have hz : ¬ id < 536870912 → ¬ ((id / 2 ^ 29 : Nat) : Int) = 0 := fun h => by omega
      have hz2 : id < 536870912 → ((id / 2 ^ 29 : Nat) : Int) = 0 := fun h => by omega
      by_cases h1 : id < 536870912
      · rw [hz2 h1] at h29
        by_cases h2 : 0 ≤ n
        · repeat' ((conv => whnf); (first | with_reducible refine Val.to _ h29 ?_ | refine Branch.df (by omega) ?_ | refine Branch.dt (by omega) ?_ | refine Branch.f rfl ?_ | exact Keep.d1 hK | refine New.mk (fun _ => ?_) | refine Look.at0 ?_ | refine Cell.row ?_ | refine Cell.buf ?_ | refine Cells.row rfl ?_ | refine Put.row rfl ?_ | refine Put.buf rfl ?_ | refine Look.at1 ?_ | refine Look.at2 ?_ | refine Look.at3 ?_ | refine Look.at4 ?_ | refine Look.at5 ?_ | refine Look.at6 ?_ | refine Look.at7 ?_ | refine Look.at8 ?_ | with_reducible refine Val.i64 (by omega) (by omega) ?_ | with_reducible refine Val.u8 (by omega) (by omega) ?_ | with_reducible refine Val.u32 (by omega) (by omega) ?_ | with_reducible refine Val.u64 (by omega) (by omega) ?_ | with_reducible refine Val.u8m ?_ | with_reducible refine Val.u32m ?_ | with_reducible refine Val.u64m ?_ | with_reducible refine Val.shr8 ?_ | with_reducible refine Val.shr16 (by decide) ?_ | with_reducible refine Val.shr24 (by decide) ?_ | with_reducible refine Val.raw ?_ | refine Branch.not ?_ | refine Branch.and ?_ | refine Branch.or ?_ | refine Branch.dt (by assumption) ?_ | refine Branch.df (by assumption) ?_ | refine Branch.dt rfl ?_ | refine Branch.dt (by omega) ?_ | refine Branch.df (by omega) ?_ | refine Branch.t rfl ?_ | refine Branch.f rfl ?_ | refine Branch.t (by assumption) ?_ | refine Branch.f (by assumption) ?_ | refine Branch.d (fun _ => ?_) (fun _ => ?_) | refine Branch.mk (fun _ => ?_) (fun _ => ?_) | refine Need.mk (by first | omega | decide | rfl) ?_ | refine Idx.nat (by omega) ?_ | refine Idx.auto (by first | omega | decide) (by first | omega | decide) ?_ | refine Cell.ro rfl ?_ | refine SDraw.all (by kernel_rfl) ?_ | refine Kept.k0 ?_ | refine Kept.k1 ?_ | refine Kept.k2 ?_ | refine Kept.k3 ?_ | refine Kept.k4 ?_))
        · repeat' ((conv => whnf); (first | with_reducible refine Val.to _ h29 ?_ | refine Branch.df (by omega) ?_ | refine Branch.dt (by omega) ?_ | refine Branch.f rfl ?_ | exact Keep.d1 hK | refine New.mk (fun _ => ?_) | refine Look.at0 ?_ | refine Cell.row ?_ | refine Cell.buf ?_ | refine Cells.row rfl ?_ | refine Put.row rfl ?_ | refine Put.buf rfl ?_ | refine Look.at1 ?_ | refine Look.at2 ?_ | refine Look.at3 ?_ | refine Look.at4 ?_ | refine Look.at5 ?_ | refine Look.at6 ?_ | refine Look.at7 ?_ | refine Look.at8 ?_ | with_reducible refine Val.i64 (by omega) (by omega) ?_ | with_reducible refine Val.u8 (by omega) (by omega) ?_ | with_reducible refine Val.u32 (by omega) (by omega) ?_ | with_reducible refine Val.u64 (by omega) (by omega) ?_ | with_reducible refine Val.u8m ?_ | with_reducible refine Val.u32m ?_ | with_reducible refine Val.u64m ?_ | with_reducible refine Val.shr8 ?_ | with_reducible refine Val.shr16 (by decide) ?_ | with_reducible refine Val.shr24 (by decide) ?_ | with_reducible refine Val.raw ?_ | refine Branch.not ?_ | refine Branch.and ?_ | refine Branch.or ?_ | refine Branch.dt (by assumption) ?_ | refine Branch.df (by assumption) ?_ | refine Branch.dt rfl ?_ | refine Branch.dt (by omega) ?_ | refine Branch.df (by omega) ?_ | refine Branch.t rfl ?_ | refine Branch.f rfl ?_ | refine Branch.t (by assumption) ?_ | refine Branch.f (by assumption) ?_ | refine Branch.d (fun _ => ?_) (fun _ => ?_) | refine Branch.mk (fun _ => ?_) (fun _ => ?_) | refine Need.mk (by first | omega | decide | rfl) ?_ | refine Idx.nat (by omega) ?_ | refine Idx.auto (by first | omega | decide) (by first | omega | decide) ?_ | refine Cell.ro rfl ?_ | refine SDraw.all (by kernel_rfl) ?_ | refine Kept.k0 ?_ | refine Kept.k1 ?_ | refine Kept.k2 ?_ | refine Kept.k3 ?_ | refine Kept.k4 ?_))
      · have hz := hz h1
        have h29' : shrI .u32 (id : Int) (11 + 18) = ((id / 2 ^ 29 : Nat) : Int) := h29
        repeat' ((conv => whnf); (first | refine Branch.df (by rw [h29']; exact hz) ?_ | exact Keep.d1 hK | refine New.mk (fun _ => ?_) | refine Look.at0 ?_ | refine Cell.row ?_ | refine Cell.buf ?_ | refine Cells.row rfl ?_ | refine Put.row rfl ?_ | refine Put.buf rfl ?_ | refine Look.at1 ?_ | refine Look.at2 ?_ | refine Look.at3 ?_ | refine Look.at4 ?_ | refine Look.at5 ?_ | refine Look.at6 ?_ | refine Look.at7 ?_ | refine Look.at8 ?_ | with_reducible refine Val.i64 (by omega) (by omega) ?_ | with_reducible refine Val.u8 (by omega) (by omega) ?_ | with_reducible refine Val.u32 (by omega) (by omega) ?_ | with_reducible refine Val.u64 (by omega) (by omega) ?_ | with_reducible refine Val.u8m ?_ | with_reducible refine Val.u32m ?_ | with_reducible refine Val.u64m ?_ | with_reducible refine Val.shr8 ?_ | with_reducible refine Val.shr16 (by decide) ?_ | with_reducible refine Val.shr24 (by decide) ?_ | with_reducible refine Val.raw ?_ | refine Branch.not ?_ | refine Branch.and ?_ | refine Branch.or ?_ | refine Branch.dt (by assumption) ?_ | refine Branch.df (by assumption) ?_ | refine Branch.dt rfl ?_ | refine Branch.dt (by omega) ?_ | refine Branch.df (by omega) ?_ | refine Branch.t rfl ?_ | refine Branch.f rfl ?_ | refine Branch.t (by assumption) ?_ | refine Branch.f (by assumption) ?_ | refine Branch.d (fun _ => ?_) (fun _ => ?_) | refine Branch.mk (fun _ => ?_) (fun _ => ?_) | refine Need.mk (by first | omega | decide | rfl) ?_ | refine Idx.nat (by omega) ?_ | refine Idx.auto (by first | omega | decide) (by first | omega | decide) ?_ | refine Cell.ro rfl ?_ | refine SDraw.all (by kernel_rfl) ?_ | refine Kept.k0 ?_ | refine Kept.k1 ?_ | refine Kept.k2 ?_ | refine Kept.k3 ?_ | refine Kept.k4 ?_))
  | false =>
    by_cases hg : okF id false n = true
    · rw [e _ hg] at hK
      unfold okF at hg
      simp only [Bool.and_eq_true, decide_eq_true_eq, Bool.false_eq_true, if_false] at hg
      rw [Nat.div_eq_of_lt (show id < 2 ^ 11 by omega)] at h11
      repeat' ((conv => whnf); (first | with_reducible refine Val.to _ h11 ?_ | refine Branch.f rfl ?_ | exact Keep.d1 hK | refine New.mk (fun _ => ?_) | refine Look.at0 ?_ | refine Cell.row ?_ | refine Cell.buf ?_ | refine Cells.row rfl ?_ | refine Put.row rfl ?_ | refine Put.buf rfl ?_ | refine Look.at1 ?_ | refine Look.at2 ?_ | refine Look.at3 ?_ | refine Look.at4 ?_ | refine Look.at5 ?_ | refine Look.at6 ?_ | refine Look.at7 ?_ | refine Look.at8 ?_ | with_reducible refine Val.i64 (by omega) (by omega) ?_ | with_reducible refine Val.u8 (by omega) (by omega) ?_ | with_reducible refine Val.u32 (by omega) (by omega) ?_ | with_reducible refine Val.u64 (by omega) (by omega) ?_ | with_reducible refine Val.u8m ?_ | with_reducible refine Val.u32m ?_ | with_reducible refine Val.u64m ?_ | with_reducible refine Val.shr8 ?_ | with_reducible refine Val.shr16 (by decide) ?_ | with_reducible refine Val.shr24 (by decide) ?_ | with_reducible refine Val.raw ?_ | refine Branch.not ?_ | refine Branch.and ?_ | refine Branch.or ?_ | refine Branch.dt (by assumption) ?_ | refine Branch.df (by assumption) ?_ | refine Branch.dt rfl ?_ | refine Branch.dt (by omega) ?_ | refine Branch.df (by omega) ?_ | refine Branch.t rfl ?_ | refine Branch.f rfl ?_ | refine Branch.t (by assumption) ?_ | refine Branch.f (by assumption) ?_ | refine Branch.d (fun _ => ?_) (fun _ => ?_) | refine Branch.mk (fun _ => ?_) (fun _ => ?_) | refine Need.mk (by first | omega | decide | rfl) ?_ | refine Idx.nat (by omega) ?_ | refine Idx.auto (by first | omega | decide) (by first | omega | decide) ?_ | refine Cell.ro rfl ?_ | refine SDraw.all (by kernel_rfl) ?_ | refine Kept.k0 ?_ | refine Kept.k1 ?_ | refine Kept.k2 ?_ | refine Kept.k3 ?_ | refine Kept.k4 ?_))
    · have hg' : okF id false n = false := by simpa using hg
      rw [e _ hg'] at hK
      unfold okF at hg'
      simp only [Bool.and_eq_false_iff, decide_eq_false_iff_not, Bool.false_eq_true, if_false] at hg'
      have hz : ¬ id < 2048 → ¬ ((id / 2 ^ 11 : Nat) : Int) = 0 := fun h => by omega
      have hz2 : id < 2048 → ((id / 2 ^ 11 : Nat) : Int) = 0 := fun h => by omega
      by_cases h1 : id < 2048
      · rw [hz2 h1] at h11
        by_cases h2 : 0 ≤ n
        · repeat' ((conv => whnf); (first | with_reducible refine Val.to _ h11 ?_ | refine Branch.df (by omega) ?_ | refine Branch.dt (by omega) ?_ | refine Branch.f rfl ?_ | exact Keep.d1 hK | refine New.mk (fun _ => ?_) | refine Look.at0 ?_ | refine Cell.row ?_ | refine Cell.buf ?_ | refine Cells.row rfl ?_ | refine Put.row rfl ?_ | refine Put.buf rfl ?_ | refine Look.at1 ?_ | refine Look.at2 ?_ | refine Look.at3 ?_ | refine Look.at4 ?_ | refine Look.at5 ?_ | refine Look.at6 ?_ | refine Look.at7 ?_ | refine Look.at8 ?_ | with_reducible refine Val.i64 (by omega) (by omega) ?_ | with_reducible refine Val.u8 (by omega) (by omega) ?_ | with_reducible refine Val.u32 (by omega) (by omega) ?_ | with_reducible refine Val.u64 (by omega) (by omega) ?_ | with_reducible refine Val.u8m ?_ | with_reducible refine Val.u32m ?_ | with_reducible refine Val.u64m ?_ | with_reducible refine Val.shr8 ?_ | with_reducible refine Val.shr16 (by decide) ?_ | with_reducible refine Val.shr24 (by decide) ?_ | with_reducible refine Val.raw ?_ | refine Branch.not ?_ | refine Branch.and ?_ | refine Branch.or ?_ | refine Branch.dt (by assumption) ?_ | refine Branch.df (by assumption) ?_ | refine Branch.dt rfl ?_ | refine Branch.dt (by omega) ?_ | refine Branch.df (by omega) ?_ | refine Branch.t rfl ?_ | refine Branch.f rfl ?_ | refine Branch.t (by assumption) ?_ | refine Branch.f (by assumption) ?_ | refine Branch.d (fun _ => ?_) (fun _ => ?_) | refine Branch.mk (fun _ => ?_) (fun _ => ?_) | refine Need.mk (by first | omega | decide | rfl) ?_ | refine Idx.nat (by omega) ?_ | refine Idx.auto (by first | omega | decide) (by first | omega | decide) ?_ | refine Cell.ro rfl ?_ | refine SDraw.all (by kernel_rfl) ?_ | refine Kept.k0 ?_ | refine Kept.k1 ?_ | refine Kept.k2 ?_ | refine Kept.k3 ?_ | refine Kept.k4 ?_))
        · repeat' ((conv => whnf); (first | with_reducible refine Val.to _ h11 ?_ | refine Branch.df (by omega) ?_ | refine Branch.dt (by omega) ?_ | refine Branch.f rfl ?_ | exact Keep.d1 hK | refine New.mk (fun _ => ?_) | refine Look.at0 ?_ | refine Cell.row ?_ | refine Cell.buf ?_ | refine Cells.row rfl ?_ | refine Put.row rfl ?_ | refine Put.buf rfl ?_ | refine Look.at1 ?_ | refine Look.at2 ?_ | refine Look.at3 ?_ | refine Look.at4 ?_ | refine Look.at5 ?_ | refine Look.at6 ?_ | refine Look.at7 ?_ | refine Look.at8 ?_ | with_reducible refine Val.i64 (by omega) (by omega) ?_ | with_reducible refine Val.u8 (by omega) (by omega) ?_ | with_reducible refine Val.u32 (by omega) (by omega) ?_ | with_reducible refine Val.u64 (by omega) (by omega) ?_ | with_reducible refine Val.u8m ?_ | with_reducible refine Val.u32m ?_ | with_reducible refine Val.u64m ?_ | with_reducible refine Val.shr8 ?_ | with_reducible refine Val.shr16 (by decide) ?_ | with_reducible refine Val.shr24 (by decide) ?_ | with_reducible refine Val.raw ?_ | refine Branch.not ?_ | refine Branch.and ?_ | refine Branch.or ?_ | refine Branch.dt (by assumption) ?_ | refine Branch.df (by assumption) ?_ | refine Branch.dt rfl ?_ | refine Branch.dt (by omega) ?_ | refine Branch.df (by omega) ?_ | refine Branch.t rfl ?_ | refine Branch.f rfl ?_ | refine Branch.t (by assumption) ?_ | refine Branch.f (by assumption) ?_ | refine Branch.d (fun _ => ?_) (fun _ => ?_) | refine Branch.mk (fun _ => ?_) (fun _ => ?_) | refine Need.mk (by first | omega | decide | rfl) ?_ | refine Idx.nat (by omega) ?_ | refine Idx.auto (by first | omega | decide) (by first | omega | decide) ?_ | refine Cell.ro rfl ?_ | refine SDraw.all (by kernel_rfl) ?_ | refine Kept.k0 ?_ | refine Kept.k1 ?_ | refine Kept.k2 ?_ | refine Kept.k3 ?_ | refine Kept.k4 ?_))
      · have hz := hz h1
        repeat' ((conv => whnf); (first | with_reducible refine Val.to _ h11 ?_ | refine Branch.t (by first | (simp [hz]; done) | omega) ?_ | exact Keep.d1 hK | refine New.mk (fun _ => ?_) | refine Look.at0 ?_ | refine Cell.row ?_ | refine Cell.buf ?_ | refine Cells.row rfl ?_ | refine Put.row rfl ?_ | refine Put.buf rfl ?_ | refine Look.at1 ?_ | refine Look.at2 ?_ | refine Look.at3 ?_ | refine Look.at4 ?_ | refine Look.at5 ?_ | refine Look.at6 ?_ | refine Look.at7 ?_ | refine Look.at8 ?_ | with_reducible refine Val.i64 (by omega) (by omega) ?_ | with_reducible refine Val.u8 (by omega) (by omega) ?_ | with_reducible refine Val.u32 (by omega) (by omega) ?_ | with_reducible refine Val.u64 (by omega) (by omega) ?_ | with_reducible refine Val.u8m ?_ | with_reducible refine Val.u32m ?_ | with_reducible refine Val.u64m ?_ | with_reducible refine Val.shr8 ?_ | with_reducible refine Val.shr16 (by decide) ?_ | with_reducible refine Val.shr24 (by decide) ?_ | with_reducible refine Val.raw ?_ | refine Branch.not ?_ | refine Branch.and ?_ | refine Branch.or ?_ | refine Branch.dt (by assumption) ?_ | refine Branch.df (by assumption) ?_ | refine Branch.dt rfl ?_ | refine Branch.dt (by omega) ?_ | refine Branch.df (by omega) ?_ | refine Branch.t rfl ?_ | refine Branch.f rfl ?_ | refine Branch.t (by assumption) ?_ | refine Branch.f (by assumption) ?_ | refine Branch.d (fun _ => ?_) (fun _ => ?_) | refine Branch.mk (fun _ => ?_) (fun _ => ?_) | refine Need.mk (by first | omega | decide | rfl) ?_ | refine Idx.nat (by omega) ?_ | refine Idx.auto (by first | omega | decide) (by first | omega | decide) ?_ | refine Cell.ro rfl ?_ | refine SDraw.all (by kernel_rfl) ?_ | refine Kept.k0 ?_ | refine Kept.k1 ?_ | refine Kept.k2 ?_ | refine Kept.k3 ?_ | refine Kept.k4 ?_))
theorem c40 (hK : K (frC id x n) H) : SCalls Tryz.prog 40 [mgC id x n p j] H K := by
  refine enter40 ?_
  repeat' ((conv => whnf); (first | exact Keep.d2 hK | refine New.mk (fun _ => ?_) | refine Look.at0 ?_ | refine Cell.row ?_ | refine Cell.buf ?_ | refine Cells.row rfl ?_ | refine Put.row rfl ?_ | refine Put.buf rfl ?_ | refine Look.at1 ?_ | refine Look.at2 ?_ | refine Look.at3 ?_ | refine Look.at4 ?_ | refine Look.at5 ?_ | refine Look.at6 ?_ | refine Look.at7 ?_ | refine Look.at8 ?_ | with_reducible refine Val.i64 (by omega) (by omega) ?_ | with_reducible refine Val.u8 (by omega) (by omega) ?_ | with_reducible refine Val.u32 (by omega) (by omega) ?_ | with_reducible refine Val.u64 (by omega) (by omega) ?_ | with_reducible refine Val.u8m ?_ | with_reducible refine Val.u32m ?_ | with_reducible refine Val.u64m ?_ | with_reducible refine Val.shr8 ?_ | with_reducible refine Val.shr16 (by decide) ?_ | with_reducible refine Val.shr24 (by decide) ?_ | with_reducible refine Val.raw ?_ | refine Branch.not ?_ | refine Branch.and ?_ | refine Branch.or ?_ | refine Branch.dt (by assumption) ?_ | refine Branch.df (by assumption) ?_ | refine Branch.dt rfl ?_ | refine Branch.dt (by omega) ?_ | refine Branch.df (by omega) ?_ | refine Branch.t rfl ?_ | refine Branch.f rfl ?_ | refine Branch.t (by assumption) ?_ | refine Branch.f (by assumption) ?_ | refine Branch.d (fun _ => ?_) (fun _ => ?_) | refine Branch.mk (fun _ => ?_) (fun _ => ?_) | refine Need.mk (by first | omega | decide | rfl) ?_ | refine Idx.nat (by omega) ?_ | refine Idx.auto (by first | omega | decide) (by first | omega | decide) ?_ | refine Cell.ro rfl ?_ | refine SDraw.all (by kernel_rfl) ?_ | refine Kept.k0 ?_ | refine Kept.k1 ?_ | refine Kept.k2 ?_ | refine Kept.k3 ?_ | refine Kept.k4 ?_))
/-- How long a frame is on the wire, with the pause. -/
def lng (n : Int) (x : Bool) : Int := if x then 54 + 8 * n + (53 + 8 * n) / 4 + 13 else 34 + 8 * n + (33 + 8 * n) / 4 + 13
theorem lng_b (h0 : 0 ≤ n) (h8 : n ≤ 8) : 55 ≤ lng n x ∧ lng n x ≤ 160 := by
  unfold lng
  split <;> omega
theorem wq {m : Int} (h1 : 1 ≤ m) (h2 : m ≤ 200) : IntKind.i64.wrap (IntKind.i64.wrap (m + IntKind.i64.wrap ((m - 1).tdiv 4)) + 10) = m + (m - 1) / 4 + 10 := by
  have e1 : (m - 1).tdiv 4 = (m - 1) / 4 := Int.tdiv_eq_ediv_of_nonneg (by omega)
  have e2 : IntKind.i64.wrap ((m - 1) / 4) = (m - 1) / 4 := wrap_i64 (by omega) (by omega)
  have e3 : IntKind.i64.wrap (m + (m - 1) / 4) = m + (m - 1) / 4 := wrap_i64 (by omega) (by omega)
  rw [e1, e2, e3, wrap_i64 (by omega) (by omega)]
theorem c68 (h0 : 0 ≤ n) (h8 : n ≤ 8) (hK : K (.tuple ⟨[.int .i64 (lng n x - 3), .int .i64 0]⟩) H) : SCalls Tryz.prog 68 [.int .i64 n, .bool x] H K := by
  refine enter68 ?_
  have hf : ∀ v, v = lng n x - 3 → Keep H fun H' => K (.tuple ⟨[.int .i64 v, .int .i64 0]⟩) H' := fun v e => by rw [e]; exact Keep.all hK
  have e1 : lng n true - 3 = (54 + 8 * n) + (54 + 8 * n - 1) / 4 + 10 := by
    show 54 + 8 * n + (53 + 8 * n) / 4 + 13 - 3 = _
    omega
  have e2 : lng n false - 3 = (34 + 8 * n) + (34 + 8 * n - 1) / 4 + 10 := by
    show 34 + 8 * n + (33 + 8 * n) / 4 + 13 - 3 = _
    omega
  cases x with
  | true =>
    rw [e1] at hf
    repeat' ((conv => whnf); (first | refine Branch.dt (by omega) ?_ | refine Branch.df (by omega) ?_ | refine Branch.f rfl ?_ | refine Branch.t rfl ?_ | (with_reducible refine hf _ ?_; exact wq (by omega) (by omega)) | refine New.mk (fun _ => ?_) | refine Look.at0 ?_ | refine Cell.row ?_ | refine Cell.buf ?_ | refine Cells.row rfl ?_ | refine Put.row rfl ?_ | refine Put.buf rfl ?_ | refine Look.at1 ?_ | refine Look.at2 ?_ | refine Look.at3 ?_ | refine Look.at4 ?_ | refine Look.at5 ?_ | refine Look.at6 ?_ | refine Look.at7 ?_ | refine Look.at8 ?_ | with_reducible refine Val.i64 (by omega) (by omega) ?_ | with_reducible refine Val.u8 (by omega) (by omega) ?_ | with_reducible refine Val.u32 (by omega) (by omega) ?_ | with_reducible refine Val.u64 (by omega) (by omega) ?_ | with_reducible refine Val.u8m ?_ | with_reducible refine Val.u32m ?_ | with_reducible refine Val.u64m ?_ | with_reducible refine Val.shr8 ?_ | with_reducible refine Val.shr16 (by decide) ?_ | with_reducible refine Val.shr24 (by decide) ?_ | with_reducible refine Val.raw ?_ | refine Branch.not ?_ | refine Branch.and ?_ | refine Branch.or ?_ | refine Branch.dt (by assumption) ?_ | refine Branch.df (by assumption) ?_ | refine Branch.dt rfl ?_ | refine Branch.dt (by omega) ?_ | refine Branch.df (by omega) ?_ | refine Branch.t rfl ?_ | refine Branch.f rfl ?_ | refine Branch.t (by assumption) ?_ | refine Branch.f (by assumption) ?_ | refine Branch.d (fun _ => ?_) (fun _ => ?_) | refine Branch.mk (fun _ => ?_) (fun _ => ?_) | refine Need.mk (by first | omega | decide | rfl) ?_ | refine Idx.nat (by omega) ?_ | refine Idx.auto (by first | omega | decide) (by first | omega | decide) ?_ | refine Cell.ro rfl ?_ | refine SDraw.all (by kernel_rfl) ?_ | refine Kept.k0 ?_ | refine Kept.k1 ?_ | refine Kept.k2 ?_ | refine Kept.k3 ?_ | refine Kept.k4 ?_))
  | false =>
    rw [e2] at hf
    repeat' ((conv => whnf); (first | refine Branch.dt (by omega) ?_ | refine Branch.df (by omega) ?_ | refine Branch.f rfl ?_ | refine Branch.t rfl ?_ | (with_reducible refine hf _ ?_; exact wq (by omega) (by omega)) | refine New.mk (fun _ => ?_) | refine Look.at0 ?_ | refine Cell.row ?_ | refine Cell.buf ?_ | refine Cells.row rfl ?_ | refine Put.row rfl ?_ | refine Put.buf rfl ?_ | refine Look.at1 ?_ | refine Look.at2 ?_ | refine Look.at3 ?_ | refine Look.at4 ?_ | refine Look.at5 ?_ | refine Look.at6 ?_ | refine Look.at7 ?_ | refine Look.at8 ?_ | with_reducible refine Val.i64 (by omega) (by omega) ?_ | with_reducible refine Val.u8 (by omega) (by omega) ?_ | with_reducible refine Val.u32 (by omega) (by omega) ?_ | with_reducible refine Val.u64 (by omega) (by omega) ?_ | with_reducible refine Val.u8m ?_ | with_reducible refine Val.u32m ?_ | with_reducible refine Val.u64m ?_ | with_reducible refine Val.shr8 ?_ | with_reducible refine Val.shr16 (by decide) ?_ | with_reducible refine Val.shr24 (by decide) ?_ | with_reducible refine Val.raw ?_ | refine Branch.not ?_ | refine Branch.and ?_ | refine Branch.or ?_ | refine Branch.dt (by assumption) ?_ | refine Branch.df (by assumption) ?_ | refine Branch.dt rfl ?_ | refine Branch.dt (by omega) ?_ | refine Branch.df (by omega) ?_ | refine Branch.t rfl ?_ | refine Branch.f rfl ?_ | refine Branch.t (by assumption) ?_ | refine Branch.f (by assumption) ?_ | refine Branch.d (fun _ => ?_) (fun _ => ?_) | refine Branch.mk (fun _ => ?_) (fun _ => ?_) | refine Need.mk (by first | omega | decide | rfl) ?_ | refine Idx.nat (by omega) ?_ | refine Idx.auto (by first | omega | decide) (by first | omega | decide) ?_ | refine Cell.ro rfl ?_ | refine SDraw.all (by kernel_rfl) ?_ | refine Kept.k0 ?_ | refine Kept.k1 ?_ | refine Kept.k2 ?_ | refine Kept.k3 ?_ | refine Kept.k4 ?_))
theorem c42 (h0 : 0 ≤ n) (h8 : n ≤ 8) (hK : K (.int .u64 (lng n x)) H) : SCalls Tryz.prog 42 [mgC id x n p j] H K := by
  refine enter42 ?_
  have hb := lng_b (x := x) h0 h8
  have e : lng n x - 3 + 3 = lng n x := by omega
  repeat' ((conv => whnf); (first | refine c68 h0 h8 ?_ | with_reducible refine Val.to (lng n x) (by rw [wrap_i64 (by omega) (by omega)]; omega) ?_ | with_reducible refine Val.to (lng n x) (by rw [wrap_u64]; omega) ?_ | exact Keep.d1 hK | refine New.mk (fun _ => ?_) | refine Look.at0 ?_ | refine Cell.row ?_ | refine Cell.buf ?_ | refine Cells.row rfl ?_ | refine Put.row rfl ?_ | refine Put.buf rfl ?_ | refine Look.at1 ?_ | refine Look.at2 ?_ | refine Look.at3 ?_ | refine Look.at4 ?_ | refine Look.at5 ?_ | refine Look.at6 ?_ | refine Look.at7 ?_ | refine Look.at8 ?_ | with_reducible refine Val.i64 (by omega) (by omega) ?_ | with_reducible refine Val.u8 (by omega) (by omega) ?_ | with_reducible refine Val.u32 (by omega) (by omega) ?_ | with_reducible refine Val.u64 (by omega) (by omega) ?_ | with_reducible refine Val.u8m ?_ | with_reducible refine Val.u32m ?_ | with_reducible refine Val.u64m ?_ | with_reducible refine Val.shr8 ?_ | with_reducible refine Val.shr16 (by decide) ?_ | with_reducible refine Val.shr24 (by decide) ?_ | with_reducible refine Val.raw ?_ | refine Branch.not ?_ | refine Branch.and ?_ | refine Branch.or ?_ | refine Branch.dt (by assumption) ?_ | refine Branch.df (by assumption) ?_ | refine Branch.dt rfl ?_ | refine Branch.dt (by omega) ?_ | refine Branch.df (by omega) ?_ | refine Branch.t rfl ?_ | refine Branch.f rfl ?_ | refine Branch.t (by assumption) ?_ | refine Branch.f (by assumption) ?_ | refine Branch.d (fun _ => ?_) (fun _ => ?_) | refine Branch.mk (fun _ => ?_) (fun _ => ?_) | refine Need.mk (by first | omega | decide | rfl) ?_ | refine Idx.nat (by omega) ?_ | refine Idx.auto (by first | omega | decide) (by first | omega | decide) ?_ | refine Cell.ro rfl ?_ | refine SDraw.all (by kernel_rfl) ?_ | refine Kept.k0 ?_ | refine Kept.k1 ?_ | refine Kept.k2 ?_ | refine Kept.k3 ?_ | refine Kept.k4 ?_))
/-- How often a message is asked for while something waits. -/
theorem c44 {w : Nat} (hp : 1 ≤ p) (hs : w + j + p < 9223372036854775808) (hK : K (.int .u64 (((w + j) / p + 1 : Nat) : Int)) H) : SCalls Tryz.prog 44 [mgC id x n p j, .int .u64 (w : Int)] H K := by
  refine enter44 ?_
  have hf : ∀ v, v = (((w + j) / p + 1 : Nat) : Int) → ∀ q, Keep ((q : Nat × Blk) :: H) fun H' => K (.int .u64 v) H' := fun v e q => by rw [e]; exact Keep.d1 hK
  have hq : ((w + j + p : Nat) : Int).tdiv (p : Int) = (((w + j) / p + 1 : Nat) : Int) := by
    rw [Int.tdiv_eq_ediv_of_nonneg (by omega), ← Int.natCast_ediv, Nat.add_div_right _ hp]
  have hm : (w : Int) + j + 1 + p - 1 = ((w + j + p : Nat) : Int) := by omega
  have hle : (w + j) / p + 1 < 18446744073709551616 := by
    have := Nat.div_le_self (w + j) p
    omega
  have hv : IntKind.u64.wrap (((w : Int) + j + 1 + p - 1).tdiv p) = (((w + j) / p + 1 : Nat) : Int) := by rw [hm, hq]; exact wrap_nat rfl hle
  repeat' ((conv => whnf); (first | with_reducible refine Val.to _ hv ?_ | with_reducible refine Val.u64 (by omega) (by omega) ?_ | refine Need.mk (by simp; omega) ?_ | exact Keep.d1 hK | refine New.mk (fun _ => ?_) | refine Look.at0 ?_ | refine Cell.row ?_ | refine Cell.buf ?_ | refine Cells.row rfl ?_ | refine Put.row rfl ?_ | refine Put.buf rfl ?_ | refine Look.at1 ?_ | refine Look.at2 ?_ | refine Look.at3 ?_ | refine Look.at4 ?_ | refine Look.at5 ?_ | refine Look.at6 ?_ | refine Look.at7 ?_ | refine Look.at8 ?_ | with_reducible refine Val.i64 (by omega) (by omega) ?_ | with_reducible refine Val.u8 (by omega) (by omega) ?_ | with_reducible refine Val.u32 (by omega) (by omega) ?_ | with_reducible refine Val.u64 (by omega) (by omega) ?_ | with_reducible refine Val.u8m ?_ | with_reducible refine Val.u32m ?_ | with_reducible refine Val.u64m ?_ | with_reducible refine Val.shr8 ?_ | with_reducible refine Val.shr16 (by decide) ?_ | with_reducible refine Val.shr24 (by decide) ?_ | with_reducible refine Val.raw ?_ | refine Branch.not ?_ | refine Branch.and ?_ | refine Branch.or ?_ | refine Branch.dt (by assumption) ?_ | refine Branch.df (by assumption) ?_ | refine Branch.dt rfl ?_ | refine Branch.dt (by omega) ?_ | refine Branch.df (by omega) ?_ | refine Branch.t rfl ?_ | refine Branch.f rfl ?_ | refine Branch.t (by assumption) ?_ | refine Branch.f (by assumption) ?_ | refine Branch.d (fun _ => ?_) (fun _ => ?_) | refine Branch.mk (fun _ => ?_) (fun _ => ?_) | refine Need.mk (by first | omega | decide | rfl) ?_ | refine Idx.nat (by omega) ?_ | refine Idx.auto (by first | omega | decide) (by first | omega | decide) ?_ | refine Cell.ro rfl ?_ | refine SDraw.all (by kernel_rfl) ?_ | refine Kept.k0 ?_ | refine Kept.k1 ?_ | refine Kept.k2 ?_ | refine Kept.k3 ?_ | refine Kept.k4 ?_))
theorem c31 {r w : Nat} {bs : List UInt8} {N : Heap} {n : Nat} (hD : Db H) (hN : Bld 88 r [] bs N) (hn : n < 2 ^ 64) (hl : bs.length + (numV n w).1.length ≤ 140737488355328) (hK : ∀ N', Bld 88 r [] (bs ++ (numV n w).1) N' → K (.tuple ⟨[]⟩) (N' ++ H)) :
    SCalls Tryz.prog 31 [ptr r, .int .u64 (n : Int), .int .i64 (w : Int)] (N ++ H) K := by
  refine enter31 ?_
  have h52 : ∀ K2 : Value → Heap → Prop, (∀ N', Bld 88 r [] (bs ++ (numV n w).1) N' → K2 (.tuple ⟨[.int .i64 ((numV n w).1.length : Int), .nilIface]⟩) (N' ++ H)) → SCalls Tryz.prog 58 [ptr r, .string (strOf (numV n w).1)] (N ++ H) K2 :=
    fun K2 hk => SCalls.midH [] H (c58 (pre := []) (T := 88) bt105 hN hl (fun N' h => hk N' h))
  have hD' : Db (N ++ H) := hD.mono fun p hp => List.mem_append_right _ hp
  clear hN hD
  repeat' ((conv => whnf); (first | refine c59 hD' hn ?_ | with_reducible refine h52 _ (fun N' hN' => ?_) | exact Keep.all (hK _ hN') | refine New.mk (fun _ => ?_) | refine Look.at0 ?_ | refine Cell.row ?_ | refine Cell.buf ?_ | refine Cells.row rfl ?_ | refine Put.row rfl ?_ | refine Put.buf rfl ?_ | refine Look.at1 ?_ | refine Look.at2 ?_ | refine Look.at3 ?_ | refine Look.at4 ?_ | refine Look.at5 ?_ | refine Look.at6 ?_ | refine Look.at7 ?_ | refine Look.at8 ?_ | with_reducible refine Val.i64 (by omega) (by omega) ?_ | with_reducible refine Val.u8 (by omega) (by omega) ?_ | with_reducible refine Val.u32 (by omega) (by omega) ?_ | with_reducible refine Val.u64 (by omega) (by omega) ?_ | with_reducible refine Val.u8m ?_ | with_reducible refine Val.u32m ?_ | with_reducible refine Val.u64m ?_ | with_reducible refine Val.shr8 ?_ | with_reducible refine Val.shr16 (by decide) ?_ | with_reducible refine Val.shr24 (by decide) ?_ | with_reducible refine Val.raw ?_ | refine Branch.not ?_ | refine Branch.and ?_ | refine Branch.or ?_ | refine Branch.dt (by assumption) ?_ | refine Branch.df (by assumption) ?_ | refine Branch.dt rfl ?_ | refine Branch.dt (by omega) ?_ | refine Branch.df (by omega) ?_ | refine Branch.t rfl ?_ | refine Branch.f rfl ?_ | refine Branch.t (by assumption) ?_ | refine Branch.f (by assumption) ?_ | refine Branch.d (fun _ => ?_) (fun _ => ?_) | refine Branch.mk (fun _ => ?_) (fun _ => ?_) | refine Need.mk (by first | omega | decide | rfl) ?_ | refine Idx.nat (by omega) ?_ | refine Idx.auto (by first | omega | decide) (by first | omega | decide) ?_ | refine Cell.ro rfl ?_ | refine SDraw.all (by kernel_rfl) ?_ | refine Kept.k0 ?_ | refine Kept.k1 ?_ | refine Kept.k2 ?_ | refine Kept.k3 ?_ | refine Kept.k4 ?_))
theorem c29 {r : Nat} {bs : List UInt8} {N : Heap} (hD : Db H) (hN : Bld 88 r [] bs N) (hl : bs.length ≤ 1000) (hK : ∀ N', Bld 88 r [] (bs ++ [48]) N' → K (.tuple ⟨[]⟩) (N' ++ H)) :
    SCalls Tryz.prog 29 [ptr r, .bool false] (N ++ H) K := by
  refine enter29 ?_
  have h51 : ∀ K2 : Value → Heap → Prop, (∀ N', Bld 88 r [] (bs ++ [48]) N' → K2 (.tuple ⟨[]⟩) (N' ++ H)) → SCalls Tryz.prog 31 [ptr r, .int .u64 0, .int .i64 1] (N ++ H) K2 :=
    fun K2 hk => c31 (K := K2) (w := 1) (n := 0) hD hN (by decide) (by show bs.length + 1 ≤ _; omega) hk
  clear hN hD
  repeat' ((conv => whnf); (first | with_reducible refine h51 _ (fun N' hN' => ?_) | exact Keep.all (hK _ hN') | refine New.mk (fun _ => ?_) | refine Look.at0 ?_ | refine Cell.row ?_ | refine Cell.buf ?_ | refine Cells.row rfl ?_ | refine Put.row rfl ?_ | refine Put.buf rfl ?_ | refine Look.at1 ?_ | refine Look.at2 ?_ | refine Look.at3 ?_ | refine Look.at4 ?_ | refine Look.at5 ?_ | refine Look.at6 ?_ | refine Look.at7 ?_ | refine Look.at8 ?_ | with_reducible refine Val.i64 (by omega) (by omega) ?_ | with_reducible refine Val.u8 (by omega) (by omega) ?_ | with_reducible refine Val.u32 (by omega) (by omega) ?_ | with_reducible refine Val.u64 (by omega) (by omega) ?_ | with_reducible refine Val.u8m ?_ | with_reducible refine Val.u32m ?_ | with_reducible refine Val.u64m ?_ | with_reducible refine Val.shr8 ?_ | with_reducible refine Val.shr16 (by decide) ?_ | with_reducible refine Val.shr24 (by decide) ?_ | with_reducible refine Val.raw ?_ | refine Branch.not ?_ | refine Branch.and ?_ | refine Branch.or ?_ | refine Branch.dt (by assumption) ?_ | refine Branch.df (by assumption) ?_ | refine Branch.dt rfl ?_ | refine Branch.dt (by omega) ?_ | refine Branch.df (by omega) ?_ | refine Branch.t rfl ?_ | refine Branch.f rfl ?_ | refine Branch.t (by assumption) ?_ | refine Branch.f (by assumption) ?_ | refine Branch.d (fun _ => ?_) (fun _ => ?_) | refine Branch.mk (fun _ => ?_) (fun _ => ?_) | refine Need.mk (by first | omega | decide | rfl) ?_ | refine Idx.nat (by omega) ?_ | refine Idx.auto (by first | omega | decide) (by first | omega | decide) ?_ | refine Cell.ro rfl ?_ | refine SDraw.all (by kernel_rfl) ?_ | refine Kept.k0 ?_ | refine Kept.k1 ?_ | refine Kept.k2 ?_ | refine Kept.k3 ?_ | refine Kept.k4 ?_))
theorem c30 {r : Nat} {N : Heap} (hid : okF id x n = true) (hD : Db H) (hN : Bld 88 r [] [] N) (hK : ∀ N', Bld 88 r [] (fldB id x) N' → K (.tuple ⟨[]⟩) (N' ++ H)) :
    SCalls Tryz.prog 30 [ptr r, frC id x n] (N ++ H) K := by
  refine enter30 ?_
  have h18 : shrI .u32 (id : Int) 18 = ((id / 2 ^ 18 : Nat) : Int) := shr_nat (k := .u32) (n := 18) (by decide)
  unfold okF at hid
  have big : (2 : Nat) ^ 64 = 18446744073709551616 := rfl
  cases x with
  | true =>
    simp only [Bool.and_eq_true, decide_eq_true_eq, if_true] at hid
    have hand : bitAnd .u32 (id : Int) 262143 = ((id % 2 ^ 18 : Nat) : Int) := bitMask_nat (k := .u32) rfl (a := id) (n := 18) (by show id < 4294967296; omega) (by decide)
    have n1 : (numV (id / 2 ^ 18) (11 : Nat)).1 = numB 11 (id / 2 ^ 18) := by
      unfold numV
      rw [if_pos ⟨by decide, by decide, by show id / 2 ^ 18 < 2 ^ 11; omega⟩]; rfl
    have n2 : (numV (id % 2 ^ 18) (18 : Nat)).1 = numB 18 (id % 2 ^ 18) := by
      unfold numV
      rw [if_pos ⟨by decide, by decide, by show id % 2 ^ 18 < 2 ^ 18; omega⟩]; rfl
    have h1 : ∀ q (K2 : Value → Heap → Prop), (∀ N', Bld 88 r [] (numB 11 (id / 2 ^ 18)) N' → K2 (.tuple ⟨[]⟩) (q :: (N' ++ H))) → SCalls Tryz.prog 31 [ptr r, .int .u64 ((id / 2 ^ 18 : Nat) : Int), .int .i64 11] (q :: (N ++ H)) K2 := by
      intro q K2 hk
      exact SCalls.under [q] (c31 (w := 11) (n := id / 2 ^ 18) hD hN (by omega) (by rw [n1, numB_len]; decide) (by rw [n1]; exact hk))
    have h2 : ∀ q N1 (K2 : Value → Heap → Prop), Bld 88 r [] (numB 11 (id / 2 ^ 18)) N1 → (∀ N', Bld 88 r [] (numB 11 (id / 2 ^ 18) ++ [49, 49]) N' → K2 (.tuple ⟨[.int .i64 2, .nilIface]⟩) (q :: (N' ++ H))) → SCalls Tryz.prog 58 [ptr r, .string ⟨#[49, 49]⟩] (q :: (N1 ++ H)) K2 :=
      fun q N1 K2 hb hk => SCalls.midH [q] H (c58 (pre := []) (T := 88) (l := [49, 49]) bt105 hb (by rw [numB_len]; decide) (fun N' h => hk N' h))
    have h3 : ∀ q N1 (K2 : Value → Heap → Prop), Bld 88 r [] (numB 11 (id / 2 ^ 18) ++ [49, 49]) N1 → (∀ N', Bld 88 r [] (numB 11 (id / 2 ^ 18) ++ [49, 49] ++ numB 18 (id % 2 ^ 18)) N' → K2 (.tuple ⟨[]⟩) (q :: (N' ++ H))) → SCalls Tryz.prog 31 [ptr r, .int .u64 ((id % 2 ^ 18 : Nat) : Int), .int .i64 18] (q :: (N1 ++ H)) K2 := by
      intro q N1 K2 hb hk
      exact SCalls.under [q] (c31 (w := 18) (n := id % 2 ^ 18) hD hb (by omega) (by rw [n2, List.length_append, numB_len, numB_len]; decide) (by rw [n2]; exact hk))
    have h4 : ∀ q N1 (K2 : Value → Heap → Prop), Bld 88 r [] (numB 11 (id / 2 ^ 18) ++ [49, 49] ++ numB 18 (id % 2 ^ 18)) N1 → (∀ N', Bld 88 r [] (numB 11 (id / 2 ^ 18) ++ [49, 49] ++ numB 18 (id % 2 ^ 18) ++ [48]) N' → K2 (.tuple ⟨[]⟩) (q :: (N' ++ H))) → SCalls Tryz.prog 29 [ptr r, .bool false] (q :: (N1 ++ H)) K2 :=
      fun q N1 K2 hb hk => SCalls.under [q] (c29 hD hb (by rw [List.length_append, List.length_append, numB_len, numB_len]; decide) hk)
    have hk : ∀ q N', Bld 88 r [] (numB 11 (id / 2 ^ 18) ++ [49, 49] ++ numB 18 (id % 2 ^ 18) ++ [48]) N' → Keep (q :: (N' ++ H)) fun H' => K (.tuple ⟨[]⟩) H' := fun q N' h => Keep.d1 (hK N' h)
    have hw1 : id / 2 ^ 18 < 18446744073709551616 := by omega
    have hw2 : id % 2 ^ 18 < 18446744073709551616 := by omega
    clear hN hK
    repeat' ((conv => whnf); (first | with_reducible refine Val.to _ h18 ?_ | with_reducible refine Val.to _ hand ?_ | with_reducible refine h1 _ _ (fun N1 hb1 => ?_) | with_reducible refine h2 _ _ _ hb1 (fun N2 hb2 => ?_) | with_reducible refine h3 _ _ _ hb2 (fun N3 hb3 => ?_) | with_reducible refine h4 _ _ _ hb3 (fun N4 hb4 => ?_) | exact hk _ _ hb4 | refine New.mk (fun _ => ?_) | refine Look.at0 ?_ | refine Cell.row ?_ | refine Cell.buf ?_ | refine Cells.row rfl ?_ | refine Put.row rfl ?_ | refine Put.buf rfl ?_ | refine Look.at1 ?_ | refine Look.at2 ?_ | refine Look.at3 ?_ | refine Look.at4 ?_ | refine Look.at5 ?_ | refine Look.at6 ?_ | refine Look.at7 ?_ | refine Look.at8 ?_ | with_reducible refine Val.i64 (by omega) (by omega) ?_ | with_reducible refine Val.u8 (by omega) (by omega) ?_ | with_reducible refine Val.u32 (by omega) (by omega) ?_ | with_reducible refine Val.u64 (by omega) (by omega) ?_ | with_reducible refine Val.u8m ?_ | with_reducible refine Val.u32m ?_ | with_reducible refine Val.u64m ?_ | with_reducible refine Val.shr8 ?_ | with_reducible refine Val.shr16 (by decide) ?_ | with_reducible refine Val.shr24 (by decide) ?_ | with_reducible refine Val.raw ?_ | refine Branch.not ?_ | refine Branch.and ?_ | refine Branch.or ?_ | refine Branch.dt (by assumption) ?_ | refine Branch.df (by assumption) ?_ | refine Branch.dt rfl ?_ | refine Branch.dt (by omega) ?_ | refine Branch.df (by omega) ?_ | refine Branch.t rfl ?_ | refine Branch.f rfl ?_ | refine Branch.t (by assumption) ?_ | refine Branch.f (by assumption) ?_ | refine Branch.d (fun _ => ?_) (fun _ => ?_) | refine Branch.mk (fun _ => ?_) (fun _ => ?_) | refine Need.mk (by first | omega | decide | rfl) ?_ | refine Idx.nat (by omega) ?_ | refine Idx.auto (by first | omega | decide) (by first | omega | decide) ?_ | refine Cell.ro rfl ?_ | refine SDraw.all (by kernel_rfl) ?_ | refine Kept.k0 ?_ | refine Kept.k1 ?_ | refine Kept.k2 ?_ | refine Kept.k3 ?_ | refine Kept.k4 ?_))
  | false =>
    simp only [Bool.and_eq_true, decide_eq_true_eq, Bool.false_eq_true, if_false] at hid
    have n1 : (numV id (11 : Nat)).1 = numB 11 id := by
      unfold numV
      rw [if_pos ⟨by decide, by decide, by show id < 2 ^ 11; omega⟩]; rfl
    have h1 : ∀ q (K2 : Value → Heap → Prop), (∀ N', Bld 88 r [] (numB 11 id) N' → K2 (.tuple ⟨[]⟩) (q :: (N' ++ H))) → SCalls Tryz.prog 31 [ptr r, .int .u64 (id : Int), .int .i64 11] (q :: (N ++ H)) K2 := by
      intro q K2 hk
      exact SCalls.under [q] (c31 (w := 11) (n := id) hD hN (by omega) (by rw [n1, numB_len]; decide) (by rw [n1]; exact hk))
    have h2 : ∀ q N1 (K2 : Value → Heap → Prop), Bld 88 r [] (numB 11 id) N1 → (∀ N', Bld 88 r [] (numB 11 id ++ [48]) N' → K2 (.tuple ⟨[]⟩) (q :: (N' ++ H))) → SCalls Tryz.prog 29 [ptr r, .bool false] (q :: (N1 ++ H)) K2 :=
      fun q N1 K2 hb hk => SCalls.under [q] (c29 hD hb (by rw [numB_len]; decide) hk)
    have h3 : ∀ q N1 (K2 : Value → Heap → Prop), Bld 88 r [] (numB 11 id ++ [48]) N1 → (∀ N', Bld 88 r [] (numB 11 id ++ [48] ++ [48]) N' → K2 (.tuple ⟨[]⟩) (q :: (N' ++ H))) → SCalls Tryz.prog 29 [ptr r, .bool false] (q :: (N1 ++ H)) K2 :=
      fun q N1 K2 hb hk => SCalls.under [q] (c29 hD hb (by rw [List.length_append, numB_len]; decide) hk)
    have hk : ∀ q N', Bld 88 r [] (numB 11 id ++ [48] ++ [48]) N' → Keep (q :: (N' ++ H)) fun H' => K (.tuple ⟨[]⟩) H' := fun q N' h => Keep.d1 (hK N' h)
    clear hN hK
    repeat' ((conv => whnf); (first | with_reducible refine h1 _ _ (fun N1 hb1 => ?_) | with_reducible refine h2 _ _ _ hb1 (fun N2 hb2 => ?_) | with_reducible refine h3 _ _ _ hb2 (fun N3 hb3 => ?_) | exact hk _ _ hb3 | refine New.mk (fun _ => ?_) | refine Look.at0 ?_ | refine Cell.row ?_ | refine Cell.buf ?_ | refine Cells.row rfl ?_ | refine Put.row rfl ?_ | refine Put.buf rfl ?_ | refine Look.at1 ?_ | refine Look.at2 ?_ | refine Look.at3 ?_ | refine Look.at4 ?_ | refine Look.at5 ?_ | refine Look.at6 ?_ | refine Look.at7 ?_ | refine Look.at8 ?_ | with_reducible refine Val.i64 (by omega) (by omega) ?_ | with_reducible refine Val.u8 (by omega) (by omega) ?_ | with_reducible refine Val.u32 (by omega) (by omega) ?_ | with_reducible refine Val.u64 (by omega) (by omega) ?_ | with_reducible refine Val.u8m ?_ | with_reducible refine Val.u32m ?_ | with_reducible refine Val.u64m ?_ | with_reducible refine Val.shr8 ?_ | with_reducible refine Val.shr16 (by decide) ?_ | with_reducible refine Val.shr24 (by decide) ?_ | with_reducible refine Val.raw ?_ | refine Branch.not ?_ | refine Branch.and ?_ | refine Branch.or ?_ | refine Branch.dt (by assumption) ?_ | refine Branch.df (by assumption) ?_ | refine Branch.dt rfl ?_ | refine Branch.dt (by omega) ?_ | refine Branch.df (by omega) ?_ | refine Branch.t rfl ?_ | refine Branch.f rfl ?_ | refine Branch.t (by assumption) ?_ | refine Branch.f (by assumption) ?_ | refine Branch.d (fun _ => ?_) (fun _ => ?_) | refine Branch.mk (fun _ => ?_) (fun _ => ?_) | refine Need.mk (by first | omega | decide | rfl) ?_ | refine Idx.nat (by omega) ?_ | refine Idx.auto (by first | omega | decide) (by first | omega | decide) ?_ | refine Cell.ro rfl ?_ | refine SDraw.all (by kernel_rfl) ?_ | refine Kept.k0 ?_ | refine Kept.k1 ?_ | refine Kept.k2 ?_ | refine Kept.k3 ?_ | refine Kept.k4 ?_))
theorem c67 (hid : okF id x n = true) (hD : Db H) (hK : K (.string (strOf (fldB id x))) H) : SCalls Tryz.prog 67 [frC id x n] H K := by
  refine enter67 ?_
  have h48 : ∀ r q (K2 : Value → Heap → Prop), (∀ N', Bld 88 r [] (fldB id x) N' → K2 (.tuple ⟨[]⟩) (N' ++ q :: H)) → SCalls Tryz.prog 30 [ptr r, frC id x n] ((r, .row 88 [.pointer none, .slice none 0 0] (0, 0)) :: q :: H) K2 :=
    fun r q K2 hk => c30 (H := q :: H) (N := [(r, .row 88 [.pointer none, .slice none 0 0] (0, 0))]) hid (hD.mono fun p hp => .tail _ hp) (Bld.new (T := 88) (r := r) (pre := [])) hk
  have h49 : ∀ r q N1 (K2 : Value → Heap → Prop), Bld 88 r [] (fldB id x) N1 → (∀ N', K2 (.string (strOf (fldB id x))) (N' ++ q :: H)) → SCalls Tryz.prog 34 [ptr r] (N1 ++ q :: H) K2 :=
    fun r q N1 K2 hb hk => SCalls.midH [] (q :: H) (c34 (pre := []) (T := 88) hb (fun N' _ => hk N'))
  have hk : ∀ (N' : Heap) q, Keep (N' ++ q :: H) fun H' => K (.string (strOf (fldB id x))) H' := fun N' q => Keep.sub _ ((List.sublist_cons_self q H).trans (List.sublist_append_right N' (q :: H))) hK
  clear hK
  repeat' ((conv => whnf); (first | with_reducible refine h48 _ _ _ (fun N1 hb1 => ?_) | with_reducible refine h49 _ _ _ _ hb1 (fun N2 => ?_) | exact hk _ _ | refine New.mk (fun _ => ?_) | refine Look.at0 ?_ | refine Cell.row ?_ | refine Cell.buf ?_ | refine Cells.row rfl ?_ | refine Put.row rfl ?_ | refine Put.buf rfl ?_ | refine Look.at1 ?_ | refine Look.at2 ?_ | refine Look.at3 ?_ | refine Look.at4 ?_ | refine Look.at5 ?_ | refine Look.at6 ?_ | refine Look.at7 ?_ | refine Look.at8 ?_ | with_reducible refine Val.i64 (by omega) (by omega) ?_ | with_reducible refine Val.u8 (by omega) (by omega) ?_ | with_reducible refine Val.u32 (by omega) (by omega) ?_ | with_reducible refine Val.u64 (by omega) (by omega) ?_ | with_reducible refine Val.u8m ?_ | with_reducible refine Val.u32m ?_ | with_reducible refine Val.u64m ?_ | with_reducible refine Val.shr8 ?_ | with_reducible refine Val.shr16 (by decide) ?_ | with_reducible refine Val.shr24 (by decide) ?_ | with_reducible refine Val.raw ?_ | refine Branch.not ?_ | refine Branch.and ?_ | refine Branch.or ?_ | refine Branch.dt (by assumption) ?_ | refine Branch.df (by assumption) ?_ | refine Branch.dt rfl ?_ | refine Branch.dt (by omega) ?_ | refine Branch.df (by omega) ?_ | refine Branch.t rfl ?_ | refine Branch.f rfl ?_ | refine Branch.t (by assumption) ?_ | refine Branch.f (by assumption) ?_ | refine Branch.d (fun _ => ?_) (fun _ => ?_) | refine Branch.mk (fun _ => ?_) (fun _ => ?_) | refine Need.mk (by first | omega | decide | rfl) ?_ | refine Idx.nat (by omega) ?_ | refine Idx.auto (by first | omega | decide) (by first | omega | decide) ?_ | refine Cell.ro rfl ?_ | refine SDraw.all (by kernel_rfl) ?_ | refine Kept.k0 ?_ | refine Kept.k1 ?_ | refine Kept.k2 ?_ | refine Kept.k3 ?_ | refine Kept.k4 ?_))
theorem c39 (hid : id < 4294967296) (hD : Db H) (hK : K (.tuple ⟨[.string (strOf (fV id x n).1), .int .i64 (fV id x n).2]⟩) H) : SCalls Tryz.prog 39 [frC id x n] H K := by
  refine enter39 ?_
  unfold fV at hK
  have hD' : ∀ q : Nat × Blk, Db (q :: H) := fun q => hD.mono fun p hp => .tail _ hp
  cases hg : okF id x n with
  | true =>
    rw [hg] at hK
    have h42 := fun H (K2 : Value → Heap → Prop) (hk : K2 (.int .i64 (if okF id x n then 0 else 1)) H) => c28 (H := H) (K := K2) hid hk
    rw [hg] at h42
    repeat' ((conv => whnf); (first | refine h42 _ _ ?_ | refine Branch.f rfl ?_ | refine c67 hg (hD' _) ?_ | exact Keep.d1 hK | refine New.mk (fun _ => ?_) | refine Look.at0 ?_ | refine Cell.row ?_ | refine Cell.buf ?_ | refine Cells.row rfl ?_ | refine Put.row rfl ?_ | refine Put.buf rfl ?_ | refine Look.at1 ?_ | refine Look.at2 ?_ | refine Look.at3 ?_ | refine Look.at4 ?_ | refine Look.at5 ?_ | refine Look.at6 ?_ | refine Look.at7 ?_ | refine Look.at8 ?_ | with_reducible refine Val.i64 (by omega) (by omega) ?_ | with_reducible refine Val.u8 (by omega) (by omega) ?_ | with_reducible refine Val.u32 (by omega) (by omega) ?_ | with_reducible refine Val.u64 (by omega) (by omega) ?_ | with_reducible refine Val.u8m ?_ | with_reducible refine Val.u32m ?_ | with_reducible refine Val.u64m ?_ | with_reducible refine Val.shr8 ?_ | with_reducible refine Val.shr16 (by decide) ?_ | with_reducible refine Val.shr24 (by decide) ?_ | with_reducible refine Val.raw ?_ | refine Branch.not ?_ | refine Branch.and ?_ | refine Branch.or ?_ | refine Branch.dt (by assumption) ?_ | refine Branch.df (by assumption) ?_ | refine Branch.dt rfl ?_ | refine Branch.dt (by omega) ?_ | refine Branch.df (by omega) ?_ | refine Branch.t rfl ?_ | refine Branch.f rfl ?_ | refine Branch.t (by assumption) ?_ | refine Branch.f (by assumption) ?_ | refine Branch.d (fun _ => ?_) (fun _ => ?_) | refine Branch.mk (fun _ => ?_) (fun _ => ?_) | refine Need.mk (by first | omega | decide | rfl) ?_ | refine Idx.nat (by omega) ?_ | refine Idx.auto (by first | omega | decide) (by first | omega | decide) ?_ | refine Cell.ro rfl ?_ | refine SDraw.all (by kernel_rfl) ?_ | refine Kept.k0 ?_ | refine Kept.k1 ?_ | refine Kept.k2 ?_ | refine Kept.k3 ?_ | refine Kept.k4 ?_))
  | false =>
    rw [hg] at hK
    have h42 := fun H (K2 : Value → Heap → Prop) (hk : K2 (.int .i64 (if okF id x n then 0 else 1)) H) => c28 (H := H) (K := K2) hid hk
    rw [hg] at h42
    repeat' ((conv => whnf); (first | refine h42 _ _ ?_ | refine Branch.t rfl ?_ | exact Keep.d1 hK | refine New.mk (fun _ => ?_) | refine Look.at0 ?_ | refine Cell.row ?_ | refine Cell.buf ?_ | refine Cells.row rfl ?_ | refine Put.row rfl ?_ | refine Put.buf rfl ?_ | refine Look.at1 ?_ | refine Look.at2 ?_ | refine Look.at3 ?_ | refine Look.at4 ?_ | refine Look.at5 ?_ | refine Look.at6 ?_ | refine Look.at7 ?_ | refine Look.at8 ?_ | with_reducible refine Val.i64 (by omega) (by omega) ?_ | with_reducible refine Val.u8 (by omega) (by omega) ?_ | with_reducible refine Val.u32 (by omega) (by omega) ?_ | with_reducible refine Val.u64 (by omega) (by omega) ?_ | with_reducible refine Val.u8m ?_ | with_reducible refine Val.u32m ?_ | with_reducible refine Val.u64m ?_ | with_reducible refine Val.shr8 ?_ | with_reducible refine Val.shr16 (by decide) ?_ | with_reducible refine Val.shr24 (by decide) ?_ | with_reducible refine Val.raw ?_ | refine Branch.not ?_ | refine Branch.and ?_ | refine Branch.or ?_ | refine Branch.dt (by assumption) ?_ | refine Branch.df (by assumption) ?_ | refine Branch.dt rfl ?_ | refine Branch.dt (by omega) ?_ | refine Branch.df (by omega) ?_ | refine Branch.t rfl ?_ | refine Branch.f rfl ?_ | refine Branch.t (by assumption) ?_ | refine Branch.f (by assumption) ?_ | refine Branch.d (fun _ => ?_) (fun _ => ?_) | refine Branch.mk (fun _ => ?_) (fun _ => ?_) | refine Need.mk (by first | omega | decide | rfl) ?_ | refine Idx.nat (by omega) ?_ | refine Idx.auto (by first | omega | decide) (by first | omega | decide) ?_ | refine Cell.ro rfl ?_ | refine SDraw.all (by kernel_rfl) ?_ | refine Kept.k0 ?_ | refine Kept.k1 ?_ | refine Kept.k2 ?_ | refine Kept.k3 ?_ | refine Kept.k4 ?_))
theorem c41 (hid : id < 4294967296) (hD : Db H) (hK : K (.string (strOf (fV id x n).1)) H) : SCalls Tryz.prog 41 [mgC id x n p j] H K := by
  refine enter41 ?_
  have hD' : ∀ q : Nat × Blk, Db (q :: H) := fun q => hD.mono fun p hp => .tail _ hp
  repeat' ((conv => whnf); (first | refine c40 ?_ | refine c39 hid (hD' _) ?_ | exact Keep.d1 hK | refine New.mk (fun _ => ?_) | refine Look.at0 ?_ | refine Cell.row ?_ | refine Cell.buf ?_ | refine Cells.row rfl ?_ | refine Put.row rfl ?_ | refine Put.buf rfl ?_ | refine Look.at1 ?_ | refine Look.at2 ?_ | refine Look.at3 ?_ | refine Look.at4 ?_ | refine Look.at5 ?_ | refine Look.at6 ?_ | refine Look.at7 ?_ | refine Look.at8 ?_ | with_reducible refine Val.i64 (by omega) (by omega) ?_ | with_reducible refine Val.u8 (by omega) (by omega) ?_ | with_reducible refine Val.u32 (by omega) (by omega) ?_ | with_reducible refine Val.u64 (by omega) (by omega) ?_ | with_reducible refine Val.u8m ?_ | with_reducible refine Val.u32m ?_ | with_reducible refine Val.u64m ?_ | with_reducible refine Val.shr8 ?_ | with_reducible refine Val.shr16 (by decide) ?_ | with_reducible refine Val.shr24 (by decide) ?_ | with_reducible refine Val.raw ?_ | refine Branch.not ?_ | refine Branch.and ?_ | refine Branch.or ?_ | refine Branch.dt (by assumption) ?_ | refine Branch.df (by assumption) ?_ | refine Branch.dt rfl ?_ | refine Branch.dt (by omega) ?_ | refine Branch.df (by omega) ?_ | refine Branch.t rfl ?_ | refine Branch.f rfl ?_ | refine Branch.t (by assumption) ?_ | refine Branch.f (by assumption) ?_ | refine Branch.d (fun _ => ?_) (fun _ => ?_) | refine Branch.mk (fun _ => ?_) (fun _ => ?_) | refine Need.mk (by first | omega | decide | rfl) ?_ | refine Idx.nat (by omega) ?_ | refine Idx.auto (by first | omega | decide) (by first | omega | decide) ?_ | refine Cell.ro rfl ?_ | refine SDraw.all (by kernel_rfl) ?_ | refine Kept.k0 ?_ | refine Kept.k1 ?_ | refine Kept.k2 ?_ | refine Kept.k3 ?_ | refine Kept.k4 ?_))
end
end Go.Proofs.YtiaginlnapiijaaGreatDoor.L


/- Ported (port.py) from LdE. -/
set_option linter.unusedVariables false
set_option linter.unusedSimpArgs false
set_option maxRecDepth 100000
set_option maxHeartbeats 4000000
namespace Go.Proofs.YtiaginlnapiijaaGreatDoor.L
open Sx
theorem list_at {α : Type} {L : List α} {j : Nat} (hlt : j < L.length) : ∃ x, L[j]? = some x ∧ L.drop j = x :: L.drop (j + 1) ∧ L.take (j + 1) = L.take j ++ [x] :=
  ⟨L[j], List.getElem?_eq_getElem hlt, List.drop_eq_getElem_cons hlt, List.take_succ_eq_append_getElem hlt⟩
theorem inS_at {α : Type} {f : α → List Value} {k : Nat} {sv : Value} {H : Heap} {L : List α} (h : InS f k sv H L) (hk : ∀ x, (f x).length = k) {j : Nat} {x : α} (hj : L[j]? = some x) :
    ∃ r o c b, sv = .slice (some ⟨r, o, none⟩) L.length c ∧ (r, b) ∈ H ∧ ∀ i v, (f x)[i]? = some v → b.cell (o + j * k + i) = some v := by
  obtain ⟨a, c, rfl, h1, h2⟩ := h
  rcases h2 with rfl | ⟨r, o, b, rfl, hm, hc⟩
  · simp at hj
  · exact ⟨r, o, c, b, rfl, hm, fun i v hv => hc j x i v hj hv (by rw [← hk x]; exact (List.getElem?_eq_some_iff.1 hv).1)⟩
/-- A message. -/
structure Msg where
  (id : Nat) (x : Bool) (n : Int) (p j : Nat)
def Msg.wf (m : Msg) : Prop := m.id < 4294967296 ∧ -9223372036854775808 ≤ m.n ∧ m.n ≤ 9223372036854775807 ∧ m.p < 18446744073709551616 ∧ m.j < 18446744073709551616
abbrev mC (m : Msg) : List Value := [.int .u32 (m.id : Int), .bool m.x, .int .i64 m.n, .int .u64 (m.p : Int), .int .u64 (m.j : Int)]
abbrev fld (m : Msg) : List UInt8 := (fV m.id m.x m.n).1
def badN (n : Int) (p j : Nat) : Bool := decide (n < 0) || decide (8 < n) || decide (p < 1) || decide (4294967296 < p) || decide (p ≤ j)
def chkGo : List Msg → List Msg → Int
  | _, [] => 0
  | pre, m :: r => if badN m.n m.p m.j || !okF m.id m.x m.n then 1 else if pre.any (fun y => decide (fld y = fld m)) then 5 else chkGo (pre ++ [m]) r
def chk (L : List Msg) : Int := if 64 < L.length then 2 else chkGo [] L
abbrev kS : List UInt8 → Value := fun s => .string (strOf s)
theorem hty81 : mapTy Tryz.prog 106 9 4 .string (.bool false) := mapTy.mk' (by kernel_rfl) (by kernel_rfl) (by kernel_rfl)
theorem keysS : Keys .string kS := ⟨fun a => by simp [Go.MapKept.IsKey], fun a b h => by injection h with h; exact strOf_inj h⟩
inductive S15 (A3 A12 A13 A14 : Value) : List Value → Prop
  | mk {r0 r1 r2 r4 r5 r6 r7 r8 r9 r10 r11 r15 r16 r17 r18 r19 r20 r21 r22 r23 r24 r25 r26 r27 r28 r29 r30 r31 r32 r33 r34 r35 r36 r37 r38 r39 r40 r41 r42 r43 r44 r45 r46 r47 r48 r49 r50 r51 r52 r53 r54 r55 r56 r57 r58 : Value} : S15 A3 A12 A13 A14 [r0, r1, r2, A3, r4, r5, r6, r7, r8, r9, r10, r11, A12, A13, A14, r15, r16, r17, r18, r19, r20, r21, r22, r23, r24, r25, r26, r27, r28, r29, r30, r31, r32, r33, r34, r35, r36, r37, r38, r39, r40, r41, r42, r43, r44, r45, r46, r47, r48, r49, r50, r51, r52, r53, r54, r55, r56, r57, r58]
structure T22 where
  (k : Nat) (l : List (Ent (List UInt8))) (c : Nat)
def I22 (pm : Nat) (sv : Value) (L : List Msg) (T : Int) (H : Heap) (y : T22) (S : List Value) (H' : Heap) : Prop :=
  y.k ≤ L.length ∧ y.l.map Ent.key = (L.take y.k).map fld ∧ (∀ e ∈ y.l, e.val = .bool true) ∧ chkGo (L.take y.k) (L.drop y.k) = T ∧ S15 (.map (some pm)) sv (.int .i64 (L.length : Int)) (.int .i64 (y.k : Int)) S ∧ H' = (pm, mapB kS y.l y.c) :: H
section
variable {K : Value → Heap → Prop} {H : Heap} {sv : Value} {L : List Msg}
theorem c15 (hD : Db H) (hin : InS mC 5 sv H L) (hwf : ∀ m ∈ L, m.wf) (h : K (.int .i64 (chk L)) H) : SCalls Tryz.prog 15 [sv] H K := by
  obtain ⟨sa, sc, rfl, hml⟩ := hin.sv
  have hml' : L.length ≤ 9223372036854775807 := by simp only [maxLen] at hml; omega
  refine enter15 ?_
  unfold chk at h
  by_cases hl : 64 < L.length
  · rw [if_pos hl] at h
    repeat' ((conv => whnf); (first | exact Keep.all h | refine New.mk (fun _ => ?_) | refine Look.at0 ?_ | refine Cell.row ?_ | refine Cell.buf ?_ | refine Cells.row rfl ?_ | refine Put.row rfl ?_ | refine Put.buf rfl ?_ | refine Look.at1 ?_ | refine Look.at2 ?_ | refine Look.at3 ?_ | refine Look.at4 ?_ | refine Look.at5 ?_ | refine Look.at6 ?_ | refine Look.at7 ?_ | refine Look.at8 ?_ | with_reducible refine Val.i64 (by omega) (by omega) ?_ | with_reducible refine Val.u8 (by omega) (by omega) ?_ | with_reducible refine Val.u32 (by omega) (by omega) ?_ | with_reducible refine Val.u64 (by omega) (by omega) ?_ | with_reducible refine Val.u8m ?_ | with_reducible refine Val.u32m ?_ | with_reducible refine Val.u64m ?_ | with_reducible refine Val.shr8 ?_ | with_reducible refine Val.shr16 (by decide) ?_ | with_reducible refine Val.shr24 (by decide) ?_ | with_reducible refine Val.raw ?_ | refine Branch.not ?_ | refine Branch.and ?_ | refine Branch.or ?_ | refine Branch.dt (by assumption) ?_ | refine Branch.df (by assumption) ?_ | refine Branch.dt rfl ?_ | refine Branch.dt (by omega) ?_ | refine Branch.df (by omega) ?_ | refine Branch.t rfl ?_ | refine Branch.f rfl ?_ | refine Branch.t (by assumption) ?_ | refine Branch.f (by assumption) ?_ | refine Branch.d (fun _ => ?_) (fun _ => ?_) | refine Branch.mk (fun _ => ?_) (fun _ => ?_) | refine Need.mk (by first | omega | decide | rfl) ?_ | refine Idx.nat (by omega) ?_ | refine Idx.auto (by first | omega | decide) (by first | omega | decide) ?_ | refine Cell.ro rfl ?_ | refine SDraw.all (by kernel_rfl) ?_ | refine Kept.k0 ?_ | refine Kept.k1 ?_ | refine Kept.k2 ?_ | refine Kept.k3 ?_ | refine Kept.k4 ?_))
  · rw [if_neg hl] at h
    generalize hT : chkGo [] L = T at h
    repeat' ((conv => whnf); (first | refine RawV.mkMap kS rfl (fun pm => ?_) | refine New.mk (fun _ => ?_) | refine Look.at0 ?_ | refine Cell.row ?_ | refine Cell.buf ?_ | refine Cells.row rfl ?_ | refine Put.row rfl ?_ | refine Put.buf rfl ?_ | refine Look.at1 ?_ | refine Look.at2 ?_ | refine Look.at3 ?_ | refine Look.at4 ?_ | refine Look.at5 ?_ | refine Look.at6 ?_ | refine Look.at7 ?_ | refine Look.at8 ?_ | with_reducible refine Val.i64 (by omega) (by omega) ?_ | with_reducible refine Val.u8 (by omega) (by omega) ?_ | with_reducible refine Val.u32 (by omega) (by omega) ?_ | with_reducible refine Val.u64 (by omega) (by omega) ?_ | with_reducible refine Val.u8m ?_ | with_reducible refine Val.u32m ?_ | with_reducible refine Val.u64m ?_ | with_reducible refine Val.shr8 ?_ | with_reducible refine Val.shr16 (by decide) ?_ | with_reducible refine Val.shr24 (by decide) ?_ | with_reducible refine Val.raw ?_ | refine Branch.not ?_ | refine Branch.and ?_ | refine Branch.or ?_ | refine Branch.dt (by assumption) ?_ | refine Branch.df (by assumption) ?_ | refine Branch.dt rfl ?_ | refine Branch.dt (by omega) ?_ | refine Branch.df (by omega) ?_ | refine Branch.t rfl ?_ | refine Branch.f rfl ?_ | refine Branch.t (by assumption) ?_ | refine Branch.f (by assumption) ?_ | refine Branch.d (fun _ => ?_) (fun _ => ?_) | refine Branch.mk (fun _ => ?_) (fun _ => ?_) | refine Need.mk (by first | omega | decide | rfl) ?_ | refine Idx.nat (by omega) ?_ | refine Idx.auto (by first | omega | decide) (by first | omega | decide) ?_ | refine Cell.ro rfl ?_ | refine SDraw.all (by kernel_rfl) ?_ | refine Kept.k0 ?_ | refine Kept.k1 ?_ | refine Kept.k2 ?_ | refine Kept.k3 ?_ | refine Kept.k4 ?_))
    refine SLoop.invA (I22 pm (.slice sa L.length sc) L T H) (fun y => L.length - y.k) ⟨0, [], 0⟩ (Keep.all ⟨by simp, by simp, by simp, hT, .mk, rfl⟩) ?_
    rintro ⟨k, l, c2⟩ S H' ⟨hk, hkeys, hvals, hgo, hS, rfl⟩ R hR
    dsimp only at hk hkeys hvals hgo hS hR ⊢
    cases hS
    by_cases hlt : k < L.length
    · obtain ⟨m, hx, hdrop, htake⟩ := list_at hlt
      obtain ⟨r, o, c, b, e1, hm, hc⟩ := inS_at hin (fun _ => rfl) hx
      injection e1 with e1 _ e3
      subst e1
      have hmw := hwf m (List.mem_of_getElem? hx)
      have hin1 : ((L.take k).any fun y => decide (fld y = fld m)) = true ↔ ∃ e ∈ l, e.key = fld m := by
        rw [List.any_eq_true]
        constructor
        · rintro ⟨y, hy, he⟩
          have : fld y ∈ l.map Ent.key := by rw [hkeys]; exact List.mem_map_of_mem hy
          obtain ⟨e, he1, he2⟩ := List.mem_map.1 this
          exact ⟨e, he1, by rw [he2]; exact of_decide_eq_true he⟩
        · rintro ⟨e, he1, he2⟩
          have : e.key ∈ (L.take k).map fld := by rw [← hkeys]; exact List.mem_map_of_mem he1
          obtain ⟨y, hy, he⟩ := List.mem_map.1 this
          exact ⟨y, hy, by rw [he, he2]; simp⟩
      rw [hdrop, chkGo] at hgo
      have hnext : ∀ S (y1 : Nat × Blk), (badN m.n m.p m.j || !okF m.id m.x m.n) = false → ((L.take k).any fun y => decide (fld y = fld m)) = false → S15 (.map (some pm)) (.slice (some ⟨r, o, none⟩) L.length sc) (.int .i64 (L.length : Int)) (.int .i64 ((k + 1 : Nat) : Int)) S → R S (y1 :: (pm, mapB kS (l ++ [⟨fld m, .bool true, c2⟩]) (c2 + 1)) :: H) := fun S y1 h1 h2 h3 => by
        rw [if_neg (by rw [h1]; decide), if_neg (by rw [h2]; decide), ← htake] at hgo
        refine hR ⟨k + 1, l ++ [⟨fld m, .bool true, c2⟩], c2 + 1⟩ _ _ (by show L.length - (k + 1) < L.length - k; omega) (Keep.d1 ⟨by show k + 1 ≤ L.length; omega, ?_, ?_, hgo, h3, rfl⟩)
        · show (l ++ [(⟨fld m, .bool true, c2⟩ : Ent (List UInt8))]).map Ent.key = (L.take (k + 1)).map fld
          rw [List.map_append, hkeys, htake, List.map_append]; rfl
        · intro e he
          rcases List.mem_append.1 he with he | he
          · exact hvals e he
          · obtain rfl := List.mem_singleton.1 he; rfl
      clear hR hT hkeys htake
      have hD2 : ∀ y z : Nat × Blk, Db (y :: z :: H) := fun y z => hD.mono fun p hp => .tail _ (.tail _ hp)
      obtain ⟨id, x, n, p, j⟩ := m
      obtain ⟨w1, w2, w3, w4, w5⟩ := hmw
      have hc : ∀ i v, ([.int .u32 (id : Int), .bool x, .int .i64 n, .int .u64 (p : Int), .int .u64 (j : Int)] : List Value)[i]? = some v → b.cell (o + k * 5 + i) = some v := hc
      dsimp only at hgo hnext hc hx hin1 w1 w2 w3 w4 w5
      cases hb : badN n p j with
      | true =>
        rw [hb, Bool.true_or, if_pos rfl] at hgo
        rw [← hgo] at h
        unfold badN at hb
        simp only [Bool.or_eq_true, decide_eq_true_eq] at hb
        clear hnext hin1
        repeat' ((conv => whnf); (first | refine Look.cells (.tail _ hm) rfl hc ?_ | refine New.mk (fun _ => ?_) | refine Look.at0 ?_ | refine Cell.row ?_ | refine Cell.buf ?_ | refine Cells.row rfl ?_ | refine Put.row rfl ?_ | refine Put.buf rfl ?_ | refine Look.at1 ?_ | refine Look.at2 ?_ | refine Look.at3 ?_ | refine Look.at4 ?_ | refine Look.at5 ?_ | refine Look.at6 ?_ | refine Look.at7 ?_ | refine Look.at8 ?_ | with_reducible refine Val.i64 (by omega) (by omega) ?_ | with_reducible refine Val.u8 (by omega) (by omega) ?_ | with_reducible refine Val.u32 (by omega) (by omega) ?_ | with_reducible refine Val.u64 (by omega) (by omega) ?_ | with_reducible refine Val.u8m ?_ | with_reducible refine Val.u32m ?_ | with_reducible refine Val.u64m ?_ | with_reducible refine Val.shr8 ?_ | with_reducible refine Val.shr16 (by decide) ?_ | with_reducible refine Val.shr24 (by decide) ?_ | with_reducible refine Val.raw ?_ | refine Branch.not ?_ | refine Branch.and ?_ | refine Branch.or ?_ | refine Branch.dt (by assumption) ?_ | refine Branch.df (by assumption) ?_ | refine Branch.dt rfl ?_ | refine Branch.dt (by omega) ?_ | refine Branch.df (by omega) ?_ | refine Branch.t rfl ?_ | refine Branch.f rfl ?_ | refine Branch.t (by assumption) ?_ | refine Branch.f (by assumption) ?_ | refine Branch.d (fun _ => ?_) (fun _ => ?_) | refine Branch.mk (fun _ => ?_) (fun _ => ?_) | refine Need.mk (by first | omega | decide | rfl) ?_ | refine Idx.nat (by omega) ?_ | refine Idx.auto (by first | omega | decide) (by first | omega | decide) ?_ | refine Cell.ro rfl ?_ | refine SDraw.all (by kernel_rfl) ?_ | refine Kept.k0 ?_ | refine Kept.k1 ?_ | refine Kept.k2 ?_ | refine Kept.k3 ?_ | refine Kept.k4 ?_))
        all_goals first
          | (conv => whnf); exact Keep.d2 h
          | (exfalso; omega)
      | false =>
        have hb2 := hb
        unfold badN at hb2
        simp only [Bool.or_eq_false_iff, decide_eq_false_iff_not] at hb2
        obtain ⟨⟨⟨⟨b1, b2⟩, b3⟩, b4⟩, b5⟩ := hb2
        rw [hb, Bool.false_or] at hgo hnext
        have hfld : fV id x n = (fld ⟨id, x, n, p, j⟩, if okF id x n then 0 else 1) := by
          unfold fld fV
          split <;> rfl
        have h34 := fun H (K2 : Value → Heap → Prop) (hD : Db H) (hk : K2 (.tuple ⟨[.string (strOf (fV id x n).1), .int .i64 (fV id x n).2]⟩) H) => c39 (x := x) (n := n) w1 hD hk
        rw [hfld] at h34
        generalize hF : fld ⟨id, x, n, p, j⟩ = F at *
        dsimp only at h34
        cases ho : okF id x n with
        | false =>
          rw [ho, Bool.not_false, if_pos rfl] at hgo
          rw [ho] at h34
          rw [← hgo] at h
          clear hnext hin1
          repeat' ((conv => whnf); (first | refine Look.cells (.tail _ hm) rfl hc ?_ | refine c40 ?_ | refine h34 _ _ (hD2 _ _) ?_ | exact Keep.d2 h | refine New.mk (fun _ => ?_) | refine Look.at0 ?_ | refine Cell.row ?_ | refine Cell.buf ?_ | refine Cells.row rfl ?_ | refine Put.row rfl ?_ | refine Put.buf rfl ?_ | refine Look.at1 ?_ | refine Look.at2 ?_ | refine Look.at3 ?_ | refine Look.at4 ?_ | refine Look.at5 ?_ | refine Look.at6 ?_ | refine Look.at7 ?_ | refine Look.at8 ?_ | with_reducible refine Val.i64 (by omega) (by omega) ?_ | with_reducible refine Val.u8 (by omega) (by omega) ?_ | with_reducible refine Val.u32 (by omega) (by omega) ?_ | with_reducible refine Val.u64 (by omega) (by omega) ?_ | with_reducible refine Val.u8m ?_ | with_reducible refine Val.u32m ?_ | with_reducible refine Val.u64m ?_ | with_reducible refine Val.shr8 ?_ | with_reducible refine Val.shr16 (by decide) ?_ | with_reducible refine Val.shr24 (by decide) ?_ | with_reducible refine Val.raw ?_ | refine Branch.not ?_ | refine Branch.and ?_ | refine Branch.or ?_ | refine Branch.dt (by assumption) ?_ | refine Branch.df (by assumption) ?_ | refine Branch.dt rfl ?_ | refine Branch.dt (by omega) ?_ | refine Branch.df (by omega) ?_ | refine Branch.t rfl ?_ | refine Branch.f rfl ?_ | refine Branch.t (by assumption) ?_ | refine Branch.f (by assumption) ?_ | refine Branch.d (fun _ => ?_) (fun _ => ?_) | refine Branch.mk (fun _ => ?_) (fun _ => ?_) | refine Need.mk (by first | omega | decide | rfl) ?_ | refine Idx.nat (by omega) ?_ | refine Idx.auto (by first | omega | decide) (by first | omega | decide) ?_ | refine Cell.ro rfl ?_ | refine SDraw.all (by kernel_rfl) ?_ | refine Kept.k0 ?_ | refine Kept.k1 ?_ | refine Kept.k2 ?_ | refine Kept.k3 ?_ | refine Kept.k4 ?_))
        | true =>
          rw [ho, Bool.not_true, if_neg (by decide)] at hgo
          rw [ho] at h34 hnext
          repeat' ((conv => whnf); (first | refine Look.cells (.tail _ hm) rfl hc ?_ | refine c40 ?_ | refine h34 _ _ (hD2 _ _) ?_ | refine RawV.look (f := kS) (a := F) rfl hty81 keysS (.tail _ (.head _)) (fun hno => ?_) (fun i e hi he => ?_) | refine RawV.upd (A := [_]) (f := kS) (a := F) rfl hty81 keysS (fun hno2 => ?_) (fun i e hi he => ?_) | (rw [hvals _ (List.mem_of_getElem? hi)]) | refine New.mk (fun _ => ?_) | refine Look.at0 ?_ | refine Cell.row ?_ | refine Cell.buf ?_ | refine Cells.row rfl ?_ | refine Put.row rfl ?_ | refine Put.buf rfl ?_ | refine Look.at1 ?_ | refine Look.at2 ?_ | refine Look.at3 ?_ | refine Look.at4 ?_ | refine Look.at5 ?_ | refine Look.at6 ?_ | refine Look.at7 ?_ | refine Look.at8 ?_ | with_reducible refine Val.i64 (by omega) (by omega) ?_ | with_reducible refine Val.u8 (by omega) (by omega) ?_ | with_reducible refine Val.u32 (by omega) (by omega) ?_ | with_reducible refine Val.u64 (by omega) (by omega) ?_ | with_reducible refine Val.u8m ?_ | with_reducible refine Val.u32m ?_ | with_reducible refine Val.u64m ?_ | with_reducible refine Val.shr8 ?_ | with_reducible refine Val.shr16 (by decide) ?_ | with_reducible refine Val.shr24 (by decide) ?_ | with_reducible refine Val.raw ?_ | refine Branch.not ?_ | refine Branch.and ?_ | refine Branch.or ?_ | refine Branch.dt (by assumption) ?_ | refine Branch.df (by assumption) ?_ | refine Branch.dt rfl ?_ | refine Branch.dt (by omega) ?_ | refine Branch.df (by omega) ?_ | refine Branch.t rfl ?_ | refine Branch.f rfl ?_ | refine Branch.t (by assumption) ?_ | refine Branch.f (by assumption) ?_ | refine Branch.d (fun _ => ?_) (fun _ => ?_) | refine Branch.mk (fun _ => ?_) (fun _ => ?_) | refine Need.mk (by first | omega | decide | rfl) ?_ | refine Idx.nat (by omega) ?_ | refine Idx.auto (by first | omega | decide) (by first | omega | decide) ?_ | refine Cell.ro rfl ?_ | refine SDraw.all (by kernel_rfl) ?_ | refine Kept.k0 ?_ | refine Kept.k1 ?_ | refine Kept.k2 ?_ | refine Kept.k3 ?_ | refine Kept.k4 ?_))
          all_goals (conv => whnf)
          · have hnin : ((L.take k).any fun y => decide (fld y = F)) = false := by
              cases hq : ((L.take k).any fun y => decide (fld y = F)) with
              | false => rfl
              | true =>
                obtain ⟨e, he1, he2⟩ := hin1.1 hq
                exact absurd he2 (hno e he1)
            exact hnext _ _ rfl hnin .mk
          · exact absurd he (hno e (List.mem_of_getElem? hi))
          · rw [if_pos (hin1.2 ⟨e, List.mem_of_getElem? hi, he⟩)] at hgo
            rw [← hgo] at h
            exact Keep.d2 h
    · have e : k = L.length := by omega
      subst e
      rw [List.drop_length, chkGo] at hgo
      rw [← hgo] at h
      repeat' ((conv => whnf); (first | refine New.mk (fun _ => ?_) | refine Look.at0 ?_ | refine Cell.row ?_ | refine Cell.buf ?_ | refine Cells.row rfl ?_ | refine Put.row rfl ?_ | refine Put.buf rfl ?_ | refine Look.at1 ?_ | refine Look.at2 ?_ | refine Look.at3 ?_ | refine Look.at4 ?_ | refine Look.at5 ?_ | refine Look.at6 ?_ | refine Look.at7 ?_ | refine Look.at8 ?_ | with_reducible refine Val.i64 (by omega) (by omega) ?_ | with_reducible refine Val.u8 (by omega) (by omega) ?_ | with_reducible refine Val.u32 (by omega) (by omega) ?_ | with_reducible refine Val.u64 (by omega) (by omega) ?_ | with_reducible refine Val.u8m ?_ | with_reducible refine Val.u32m ?_ | with_reducible refine Val.u64m ?_ | with_reducible refine Val.shr8 ?_ | with_reducible refine Val.shr16 (by decide) ?_ | with_reducible refine Val.shr24 (by decide) ?_ | with_reducible refine Val.raw ?_ | refine Branch.not ?_ | refine Branch.and ?_ | refine Branch.or ?_ | refine Branch.dt (by assumption) ?_ | refine Branch.df (by assumption) ?_ | refine Branch.dt rfl ?_ | refine Branch.dt (by omega) ?_ | refine Branch.df (by omega) ?_ | refine Branch.t rfl ?_ | refine Branch.f rfl ?_ | refine Branch.t (by assumption) ?_ | refine Branch.f (by assumption) ?_ | refine Branch.d (fun _ => ?_) (fun _ => ?_) | refine Branch.mk (fun _ => ?_) (fun _ => ?_) | refine Need.mk (by first | omega | decide | rfl) ?_ | refine Idx.nat (by omega) ?_ | refine Idx.auto (by first | omega | decide) (by first | omega | decide) ?_ | refine Cell.ro rfl ?_ | refine SDraw.all (by kernel_rfl) ?_ | refine Kept.k0 ?_ | refine Kept.k1 ?_ | refine Kept.k2 ?_ | refine Kept.k3 ?_ | refine Kept.k4 ?_))
      all_goals (conv => whnf)
      exact Keep.d1 h
end
end Go.Proofs.YtiaginlnapiijaaGreatDoor.L


/- Ported (port.py) from LdF. -/
set_option linter.unusedVariables false
set_option linter.unusedSimpArgs false
set_option maxRecDepth 100000
set_option maxHeartbeats 4000000
namespace Go.Proofs.YtiaginlnapiijaaGreatDoor.L
open Sx
abbrev tlt (a b : List UInt8) : Bool := Op.bytesLess a b
theorem strLt_of (a b : List UInt8) : strLt (strOf a) (strOf b) = tlt a b := by
  unfold strLt
  rw [ByteArray.toList_eq, ByteArray.toList_eq]; rfl
theorem strGt_of (a b : List UInt8) : (!(strLt (strOf a) (strOf b) || decide (strOf a = strOf b))) = tlt b a := by
  rw [strLt_of, strOf_eq]
  cases h : tlt a b with
  | true =>
    have : tlt b a = false := Hp.bl_asym h
    rw [this]; rfl
  | false =>
    by_cases e : a = b
    · subst e
      rw [show tlt a a = false from Hp.bl_irr a]; simp
    · rw [decide_eq_false e]
      cases h2 : tlt b a with
      | true => rfl
      | false => exact absurd (Hp.bl_tri _ _ h h2) e
/-- A message that can be. -/
structure Good (m : Msg) : Prop where
  id : m.id < 4294967296
  n0 : 0 ≤ m.n
  n8 : m.n ≤ 8
  p1 : 1 ≤ m.p
  p2 : m.p ≤ 4294967296
  j : m.j < m.p
  ok : okF m.id m.x m.n = true
/-- Messages that can be. -/
structure Goods (L : List Msg) : Prop where
  len : L.length ≤ 64
  good : ∀ m ∈ L, Good m
  one : (L.map fld).Nodup
theorem chkGo0 : ∀ (L pre : List Msg), (∀ m ∈ L, m.wf) → chkGo pre L = 0 → (∀ m ∈ L, Good m) ∧ (L.map fld).Nodup ∧ ∀ m ∈ L, ∀ y ∈ pre, fld y ≠ fld m
  | [], pre, _, _ => ⟨(fun _ h => by cases h), List.nodup_nil, (fun _ h => by cases h)⟩
  | m :: r, pre, hw, h => by
    rw [chkGo] at h
    by_cases hb : (badN m.n m.p m.j || !okF m.id m.x m.n) = true
    · rw [if_pos hb] at h; cases h
    · rw [if_neg hb] at h
      by_cases ha : (pre.any fun y => decide (fld y = fld m)) = true
      · rw [if_pos ha] at h; cases h
      · rw [if_neg ha] at h
        obtain ⟨g1, g2, g3⟩ := chkGo0 r (pre ++ [m]) (fun x hx => hw x (.tail _ hx)) h
        have hb : (badN m.n m.p m.j || !okF m.id m.x m.n) = false := by simpa using hb
        unfold badN at hb
        simp only [Bool.or_eq_false_iff, decide_eq_false_iff_not, Bool.not_eq_false'] at hb
        obtain ⟨⟨⟨⟨⟨b1, b2⟩, b3⟩, b4⟩, b5⟩, b6⟩ := hb
        have hm : ∀ y ∈ pre, fld y ≠ fld m := fun y hy he => ha (List.any_eq_true.2 ⟨y, hy, decide_eq_true he⟩)
        refine ⟨fun x hx => ?_, ?_, fun x hx y hy => ?_⟩
        · rcases List.mem_cons.1 hx with rfl | hx
          · exact ⟨(hw _ (.head _)).1, by omega, by omega, by omega, by omega, by omega, b6⟩
          · exact g1 x hx
        · rw [List.map_cons, List.nodup_cons]
          refine ⟨fun hx => ?_, g2⟩
          obtain ⟨y, hy, he⟩ := List.mem_map.1 hx
          exact g3 y hy m (by simp) he.symm
        · rcases List.mem_cons.1 hx with rfl | hx
          · exact hm y hy
          · exact g3 x hx y (List.mem_append_left _ hy)
theorem goods_of {L : List Msg} (hw : ∀ m ∈ L, m.wf) (h : chk L = 0) : Goods L := by
  unfold chk at h
  split at h
  · cases h
  · obtain ⟨g1, g2, _⟩ := chkGo0 L [] hw h
    exact ⟨by omega, g1, g2⟩
theorem Goods.ne {L : List Msg} (h : Goods L) {i k : Nat} {a b : Msg} (hi : L[i]? = some a) (hk : L[k]? = some b) (hik : i ≠ k) : fld a ≠ fld b := by
  intro he
  have h1 : (L.map fld)[i]? = some (fld a) := by rw [List.getElem?_map, hi]; rfl
  have h2 : (L.map fld)[k]? = some (fld a) := by rw [List.getElem?_map, hk, he]; rfl
  have hlt := (List.getElem?_eq_some_iff.1 h1).1
  exact hik ((List.getElem?_inj hlt h.one).1 (by rw [h1, h2]))
/-- How long a message is on the wire. -/
def tm (m : Msg) : Nat := (lng m.n m.x).toNat
theorem Good.tm {m : Msg} (h : Good m) : 55 ≤ tm m ∧ tm m ≤ 160 ∧ lng m.n m.x = (tm m : Int) := by
  have := lng_b (x := m.x) h.n0 h.n8
  unfold L.tm
  omega
def wB (L : List Msg) (m : Msg) : Nat := L.foldl (fun b y => if tlt (fld m) (fld y) then max b (tm y) else b) (tm m)
def wF (L : List Msg) (m : Msg) : List Msg := L.filter fun y => tlt (fld y) (fld m)
def wAdd (w : Nat) (a : Nat) (y : Msg) : Nat := a + tm y * ((w + y.j) / y.p + 1)
def wStep (L : List Msg) (m : Msg) (w : Nat) : Nat := (wF L m).foldl (wAdd w) (wB L m)
def wIter (L : List Msg) (m : Msg) : Nat → Nat → Nat × Bool
  | 0, _ => (0, false)
  | f + 1, w => if m.p < m.j + w + tm m then (0, false) else if wStep L m w = w then (m.j + w + tm m, true) else wIter L m f (wStep L m w)
def worstS (L : List Msg) (m : Msg) : Nat × Bool := wIter L m (m.p + 1) (wB L m)
theorem wAdd_le (w : Nat) : ∀ (F : List Msg) (a : Nat), a ≤ F.foldl (wAdd w) a
  | [], a => Nat.le_refl a
  | y :: F, a => Nat.le_trans (Nat.le_add_right _ _) (wAdd_le w F (wAdd w a y))
theorem wAdd_mono {w w' : Nat} (hw : w ≤ w') : ∀ (F : List Msg) {a a' : Nat}, a ≤ a' → F.foldl (wAdd w) a ≤ F.foldl (wAdd w') a'
  | [], a, a', h => h
  | y :: F, a, a', h => wAdd_mono hw F (Nat.add_le_add h (Nat.mul_le_mul_left _ (Nat.add_le_add_right (Nat.div_le_div_right (Nat.add_le_add_right hw _)) 1)))
theorem wStep_mono (L : List Msg) (m : Msg) {w w' : Nat} (hw : w ≤ w') : wStep L m w ≤ wStep L m w' := wAdd_mono hw _ (Nat.le_refl _)
theorem wB_le (L : List Msg) (m : Msg) (w : Nat) : wB L m ≤ wStep L m w := wAdd_le w _ _
theorem wIter_fuel (L : List Msg) (m : Msg) : ∀ f g w, m.p + 1 ≤ f + w → m.p + 1 ≤ g + w → w ≤ wStep L m w → wIter L m f w = wIter L m g w
  | 0, 0, _, _, _, _ => rfl
  | 0, g + 1, w, h1, _, _ => by
    show (0, false) = _
    rw [wIter, if_pos (by omega)]
  | f + 1, 0, w, _, h2, _ => by
    show _ = (0, false)
    rw [wIter, if_pos (by omega)]
  | f + 1, g + 1, w, h1, h2, hw => by
    rw [wIter, wIter]
    by_cases hp : m.p < m.j + w + tm m
    · rw [if_pos hp, if_pos hp]
    · rw [if_neg hp, if_neg hp]
      by_cases he : wStep L m w = w
      · rw [if_pos he, if_pos he]
      · rw [if_neg he, if_neg he]
        exact wIter_fuel L m f g _ (by omega) (by omega) (wStep_mono L m hw)
theorem wB_b {L : List Msg} (hG : ∀ y ∈ L, Good y) {m : Msg} (h : Good m) (F : List Msg) (hF : ∀ y ∈ F, y ∈ L) : ∀ b, b ≤ 160 → F.foldl (fun b y => if tlt (fld m) (fld y) then max b (tm y) else b) b ≤ 160 := by
  induction F with
  | nil => exact fun b hb => hb
  | cons y F ih =>
    intro b hb
    refine ih (fun z hz => hF z (.tail _ hz)) _ ?_
    have := (hG y (hF y (.head _))).tm
    dsimp only
    split <;> omega
theorem wAdd_b {y : Msg} (h : Good y) {w : Nat} (hw : w ≤ 4294967296) : tm y * ((w + y.j) / y.p + 1) ≤ 1374389534880 := by
  have h1 := h.tm
  have h2 : (w + y.j) / y.p ≤ 8589934591 := Nat.le_trans (Nat.div_le_self _ _) (by have := h.p2; have := h.j; omega)
  exact Nat.le_trans (Nat.mul_le_mul h1.2.1 (Nat.add_le_add_right h2 1)) (by decide)
theorem wSum_b {w : Nat} (hw : w ≤ 4294967296) : ∀ (F : List Msg) (a : Nat), (∀ y ∈ F, Good y) → F.foldl (wAdd w) a ≤ a + F.length * 1374389534880
  | [], a, _ => by simp
  | y :: F, a, h => by
    have h1 := wSum_b hw F (wAdd w a y) (fun z hz => h z (.tail _ hz))
    have h2 := wAdd_b (h y (.head _)) hw
    rw [List.length_cons, Nat.succ_mul]
    show F.foldl (wAdd w) (wAdd w a y) ≤ _
    unfold wAdd at h1 ⊢
    omega
end Go.Proofs.YtiaginlnapiijaaGreatDoor.L


