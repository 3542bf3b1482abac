/- Sx, part L: the words that a walk stops at, one law for each way on. -/
import Derived.Test.YtkegkhhfbfegoaaSxK
set_option linter.unusedVariables false
set_option linter.unusedSimpArgs false
namespace Go.Proofs.Ytkegkhhfbfegoaa.Sx
open Go.RowKit

theorem Val.raw {n : Int} {K : Int → Prop} (h : K n) : Val n K := ⟨n, rfl, h⟩
theorem Val.to {n : Int} {K : Int → Prop} (m : Int) (e : n = m) (h : K m) : Val n K := ⟨m, e, h⟩
section
variable {n : Int} {K : Int → Prop}
theorem wrap_i64 (h1 : -9223372036854775808 ≤ n) (h2 : n ≤ 9223372036854775807) : IntKind.i64.wrap n = n := by
  unfold IntKind.wrap
  by_cases h : n % 18446744073709551616 ≥ 9223372036854775808
  · rw [if_pos (by simpa [IntKind.bits, IntKind.signed] using h)]
    simp only [IntKind.bits]
    omega
  · rw [if_neg (by simpa [IntKind.bits, IntKind.signed] using h)]
    simp only [IntKind.bits]
    omega
theorem wrap_u64 : IntKind.u64.wrap n = n % 18446744073709551616 := by simp [IntKind.wrap, IntKind.bits, IntKind.signed]
theorem wrap_u32 : IntKind.u32.wrap n = n % 4294967296 := by simp [IntKind.wrap, IntKind.bits, IntKind.signed]
theorem wrap_u16 : IntKind.u16.wrap n = n % 65536 := by simp [IntKind.wrap, IntKind.bits, IntKind.signed]
theorem wrap_u8 : IntKind.u8.wrap n = n % 256 := by simp [IntKind.wrap, IntKind.bits, IntKind.signed]
theorem wrap_i32 (h1 : -2147483648 ≤ n) (h2 : n ≤ 2147483647) : IntKind.i32.wrap n = n := by
  unfold IntKind.wrap
  by_cases h : n % 4294967296 ≥ 2147483648
  · rw [if_pos (by simpa [IntKind.bits, IntKind.signed] using h)]
    simp only [IntKind.bits]
    omega
  · rw [if_neg (by simpa [IntKind.bits, IntKind.signed] using h)]
    simp only [IntKind.bits]
    omega
theorem Val.i64 (h1 : -9223372036854775808 ≤ n) (h2 : n ≤ 9223372036854775807) (h : K n) : Val (IntKind.i64.wrap n) K := ⟨n, wrap_i64 h1 h2, h⟩
theorem Val.i32 (h1 : -2147483648 ≤ n) (h2 : n ≤ 2147483647) (h : K n) : Val (IntKind.i32.wrap n) K := ⟨n, wrap_i32 h1 h2, h⟩
theorem Val.u64 (h1 : 0 ≤ n) (h2 : n ≤ 18446744073709551615) (h : K n) : Val (IntKind.u64.wrap n) K := ⟨n, by rw [wrap_u64]; omega, h⟩
theorem Val.u32 (h1 : 0 ≤ n) (h2 : n ≤ 4294967295) (h : K n) : Val (IntKind.u32.wrap n) K := ⟨n, by rw [wrap_u32]; omega, h⟩
theorem Val.u16 (h1 : 0 ≤ n) (h2 : n ≤ 65535) (h : K n) : Val (IntKind.u16.wrap n) K := ⟨n, by rw [wrap_u16]; omega, h⟩
theorem Val.u8 (h1 : 0 ≤ n) (h2 : n ≤ 255) (h : K n) : Val (IntKind.u8.wrap n) K := ⟨n, by rw [wrap_u8]; omega, h⟩
theorem Val.u64m (h : K (n % 18446744073709551616)) : Val (IntKind.u64.wrap n) K := ⟨_, wrap_u64, h⟩
theorem Val.u32m (h : K (n % 4294967296)) : Val (IntKind.u32.wrap n) K := ⟨_, wrap_u32, h⟩
theorem Val.u16m (h : K (n % 65536)) : Val (IntKind.u16.wrap n) K := ⟨_, wrap_u16, h⟩
theorem Val.u8m (h : K (n % 256)) : Val (IntKind.u8.wrap n) K := ⟨_, wrap_u8, h⟩
theorem Val.tdiv {a b : Int} (ha : 0 ≤ a) (hb : 0 ≤ b) (h : Val (a / b) K) : Val (a.tdiv b) K := by rwa [Int.tdiv_eq_ediv_of_nonneg ha]
theorem Val.wtdiv {k : IntKind} {a b : Int} (ha : 0 ≤ a) (h : Val (k.wrap (a / b)) K) : Val (k.wrap (a.tdiv b)) K := by rwa [Int.tdiv_eq_ediv_of_nonneg ha]
theorem Val.tmod {a b : Int} (ha : 0 ≤ a) (h : K (a % b)) : Val (a.tmod b) K := ⟨_, Int.tmod_eq_emod_of_nonneg ha, h⟩
/-- A shift to the right by a number that is known. -/
theorem Val.shr {k : IntKind} {a : Int} {b : Int} (j : Nat) (hb : b = (j : Int)) (hj : j ≤ k.bits) (h : K (a / 2 ^ j)) : Val (shrI k a b) K := by
  refine ⟨_, ?_, h⟩
  subst hb
  unfold shrI
  rw [Int.toNat_natCast, Nat.min_eq_left hj, Int.fdiv_eq_ediv_of_nonneg _ (by exact Int.le_of_lt (Int.pow_pos (by decide)))]
theorem Val.shr8 {k : IntKind} {a : Int} (h : K (a / 256)) : Val (shrI k a 8) K := Val.shr 8 rfl (by cases k <;> decide) h
theorem Val.shr16 {k : IntKind} {a : Int} (hk : 16 ≤ k.bits) (h : K (a / 65536)) : Val (shrI k a 16) K := Val.shr 16 rfl hk h
theorem Val.shr24 {k : IntKind} {a : Int} (hk : 24 ≤ k.bits) (h : K (a / 16777216)) : Val (shrI k a 24) K := Val.shr 24 rfl hk h
theorem Val.shl {k : IntKind} {a : Int} {b : Int} (j : Nat) (hb : b = (j : Int)) (hj : j ≤ k.bits) (h : Val (k.wrap (a * 2 ^ j)) K) : Val (shlI k a b) K := by
  subst hb
  unfold shlI
  rwa [Int.toNat_natCast, Nat.min_eq_left hj]
end
section
variable {b b1 b2 : Bool} {K1 K2 : Prop}
theorem Branch.t (hb : b = true) (h : K1) : Branch b K1 K2 := ⟨fun _ => h, fun e => by rw [hb] at e; cases e⟩
theorem Branch.f (hb : b = false) (h : K2) : Branch b K1 K2 := ⟨fun e => (by rw [hb] at e; cases e), fun _ => h⟩
theorem Branch.dt {p : Prop} [Decidable p] (hp : p) (h : K1) : Branch (decide p) K1 K2 := Branch.t (by simpa using hp) h
theorem Branch.df {p : Prop} [Decidable p] (hp : ¬ p) (h : K2) : Branch (decide p) K1 K2 := Branch.f (by simpa using hp) h
theorem Branch.d {p : Prop} [Decidable p] (h1 : p → K1) (h2 : ¬ p → K2) : Branch (decide p) K1 K2 := ⟨fun e => h1 (by simpa using e), fun e => h2 (by simpa using e)⟩
theorem Branch.not (h : Branch b K2 K1) : Branch (!b) K1 K2 := by
  obtain ⟨h1, h2⟩ := h
  cases b
  · exact ⟨fun _ => h2 rfl, fun e => by cases e⟩
  · exact ⟨fun e => (by cases e), fun _ => h1 rfl⟩
theorem Branch.and (h : Branch b1 (Branch b2 K1 K2) K2) : Branch (b1 && b2) K1 K2 := by
  obtain ⟨h1, h2⟩ := h
  cases b1
  · exact ⟨fun e => (by cases e), fun _ => h2 rfl⟩
  · obtain ⟨h3, h4⟩ := h1 rfl
    exact ⟨fun e => h3 (by simpa using e), fun e => h4 (by simpa using e)⟩
theorem Branch.or (h : Branch b1 K1 (Branch b2 K1 K2)) : Branch (b1 || b2) K1 K2 := by
  obtain ⟨h1, h2⟩ := h
  cases b1
  · obtain ⟨h3, h4⟩ := h2 rfl
    exact ⟨fun e => h3 (by simpa using e), fun e => h4 (by simpa using e)⟩
  · exact ⟨fun _ => h1 rfl, fun e => by cases e⟩
end
theorem Idx.auto {i : Int} {n : Nat} {K : Nat → Prop} (h0 : 0 ≤ i) (h1 : i < (n : Int)) (h : K i.toNat) : Idx i n K := ⟨i.toNat, by omega, by omega, h⟩
theorem Idx.nat {j n : Nat} {K : Nat → Prop} (hj : j < n) (h : K j) : Idx (j : Int) n K := ⟨j, rfl, hj, h⟩
theorem Idx.of {i : Int} {n : Nat} {K : Nat → Prop} (j : Nat) (e : i = (j : Int)) (hj : j < n) (h : K j) : Idx i n K := ⟨j, e, hj, h⟩
section
variable {r : Nat} {b : Blk} {B : Heap} {K : Heap → Blk → Heap → Prop} {x0 x1 x2 x3 x4 x5 x6 x7 x8 x9 x10 x11 : Nat × Blk}
theorem Look.at0 (h : K [] b B) : Look r ((r, b) :: B) K := ⟨[], b, B, rfl, h⟩
theorem Look.at1 (h : K [x0] b B) : Look r (x0 :: (r, b) :: B) K := ⟨[x0], b, B, rfl, h⟩
theorem Look.at2 (h : K [x0, x1] b B) : Look r (x0 :: x1 :: (r, b) :: B) K := ⟨[x0, x1], b, B, rfl, h⟩
theorem Look.at3 (h : K [x0, x1, x2] b B) : Look r (x0 :: x1 :: x2 :: (r, b) :: B) K := ⟨[x0, x1, x2], b, B, rfl, h⟩
theorem Look.at4 (h : K [x0, x1, x2, x3] b B) : Look r (x0 :: x1 :: x2 :: x3 :: (r, b) :: B) K := ⟨[x0, x1, x2, x3], b, B, rfl, h⟩
theorem Look.at5 (h : K [x0, x1, x2, x3, x4] b B) : Look r (x0 :: x1 :: x2 :: x3 :: x4 :: (r, b) :: B) K := ⟨[x0, x1, x2, x3, x4], b, B, rfl, h⟩
theorem Look.at6 (h : K [x0, x1, x2, x3, x4, x5] b B) : Look r (x0 :: x1 :: x2 :: x3 :: x4 :: x5 :: (r, b) :: B) K := ⟨[x0, x1, x2, x3, x4, x5], b, B, rfl, h⟩
theorem Look.at7 (h : K [x0, x1, x2, x3, x4, x5, x6] b B) : Look r (x0 :: x1 :: x2 :: x3 :: x4 :: x5 :: x6 :: (r, b) :: B) K := ⟨[x0, x1, x2, x3, x4, x5, x6], b, B, rfl, h⟩
theorem Look.at8 (h : K [x0, x1, x2, x3, x4, x5, x6, x7] b B) : Look r (x0 :: x1 :: x2 :: x3 :: x4 :: x5 :: x6 :: x7 :: (r, b) :: B) K := ⟨[x0, x1, x2, x3, x4, x5, x6, x7], b, B, rfl, h⟩
theorem Look.at9 (h : K [x0, x1, x2, x3, x4, x5, x6, x7, x8] b B) : Look r (x0 :: x1 :: x2 :: x3 :: x4 :: x5 :: x6 :: x7 :: x8 :: (r, b) :: B) K := ⟨[x0, x1, x2, x3, x4, x5, x6, x7, x8], b, B, rfl, h⟩
theorem Look.at10 (h : K [x0, x1, x2, x3, x4, x5, x6, x7, x8, x9] b B) : Look r (x0 :: x1 :: x2 :: x3 :: x4 :: x5 :: x6 :: x7 :: x8 :: x9 :: (r, b) :: B) K := ⟨[x0, x1, x2, x3, x4, x5, x6, x7, x8, x9], b, B, rfl, h⟩
theorem Look.at11 (h : K [x0, x1, x2, x3, x4, x5, x6, x7, x8, x9, x10] b B) : Look r (x0 :: x1 :: x2 :: x3 :: x4 :: x5 :: x6 :: x7 :: x8 :: x9 :: x10 :: (r, b) :: B) K := ⟨[x0, x1, x2, x3, x4, x5, x6, x7, x8, x9, x10], b, B, rfl, h⟩
theorem Look.at12 (h : K [x0, x1, x2, x3, x4, x5, x6, x7, x8, x9, x10, x11] b B) : Look r (x0 :: x1 :: x2 :: x3 :: x4 :: x5 :: x6 :: x7 :: x8 :: x9 :: x10 :: x11 :: (r, b) :: B) K := ⟨[x0, x1, x2, x3, x4, x5, x6, x7, x8, x9, x10, x11], b, B, rfl, h⟩
end
section
variable {t : TypeId} {cs vs : List Value} {fz : Nat × Nat} {o n N : Nat} {f : Nat → Option Value}
theorem Cell.row {K : Value → Prop} (h : cellK cs o K) : Cell (.row t cs fz) o K := by obtain ⟨v, h1, h2⟩ := cellK_ok h; exact ⟨v, h1, h2⟩
theorem Cell.buf {K : Value → Prop} (h : cellK cs o K) : Cell (.buf t cs N) o K := by obtain ⟨v, h1, h2⟩ := cellK_ok h; exact ⟨v, h1, h2⟩
theorem Cell.ro {K : Value → Prop} {v : Value} (hv : f o = some v) (h : K v) : Cell (.ro f) o K := ⟨v, hv, h⟩
theorem Cell.get {b : Blk} {K : Value → Prop} {v : Value} (hv : b.cell o = some v) (h : K v) : Cell b o K := ⟨v, hv, h⟩
theorem Cells.row {K : List Value → Prop} (hl : Nat.ble (o + n) cs.length = true) (h : sliceK cs o n K) : Cells (.row t cs fz) o n K := by
  have hl := Nat.le_of_ble_eq_true hl
  refine ⟨(cs.drop o).take n, by simp; omega, fun j v hj => ?_, sliceK_ok h⟩
  show cs[o + j]? = some v
  rw [List.getElem?_take] at hj
  split at hj
  · simpa using hj
  · cases hj
theorem Cells.get {b : Blk} {K : List Value → Prop} (vs : List Value) (hl : vs.length = n) (hc : ∀ j v, vs[j]? = some v → b.cell (o + j) = some v) (h : K vs) : Cells b o n K := ⟨vs, hl, hc, h⟩
theorem Put.row {K : Blk → Prop} (hl : Nat.ble (o + vs.length) cs.length = true) (h : putsK cs o vs fun cs' => K (.row t cs' (0, 0))) : Put (.row t cs (0, 0)) o vs K := by
  have hl := Nat.le_of_ble_eq_true hl
  exact ⟨_, ⟨hl, .inl rfl, rfl⟩, putsK_ok hl h⟩
theorem Put.buf {K : Blk → Prop} (hl : Nat.ble (o + vs.length) cs.length = true) (h : putsK cs o vs fun cs' => K (.buf t cs' N)) : Put (.buf t cs N) o vs K := by
  have hl := Nat.le_of_ble_eq_true hl
  exact ⟨_, ⟨hl, rfl⟩, putsK_ok hl h⟩
end
section
variable {P : Program} {s : Scr} {tail : List XO} {K : List Value → Heap → Prop} {l : List Value} {H Hs : Heap} {KP : Prop}
theorem Seen.of : ∀ {Hs H : Heap}, (∀ p ∈ Hs, p ∈ H) → Seen H Hs
  | [], _, _ => .nil
  | p :: Hs, _, h => .same (h p (.head _)) (Seen.of fun q hq => h q (.tail _ hq))
theorem SDraw.all (hm : P.follows .mixedOrders = true) (h : xscr P H s l H fun l' H' => xops P tail l' H' K) : SDraw P s tail K l H := SDraw.held hm H (Seen.of fun _ h => h) h
theorem Kept.k0 (h : KP) : Kept Hs Hs KP := ⟨Seen.of fun _ h => h, h⟩
theorem Kept.k1 {p : Nat × Blk} (h : KP) : Kept Hs (p :: Hs) KP := ⟨Seen.of fun _ h => .tail _ h, h⟩
theorem Kept.k2 {p q : Nat × Blk} (h : KP) : Kept Hs (p :: q :: Hs) KP := ⟨Seen.of fun _ h => .tail _ (.tail _ h), h⟩
theorem Kept.k3 {p q r : Nat × Blk} (h : KP) : Kept Hs (p :: q :: r :: Hs) KP := ⟨Seen.of fun _ h => .tail _ (.tail _ (.tail _ h)), h⟩
theorem Kept.k4 {p q r s : Nat × Blk} (h : KP) : Kept Hs (p :: q :: r :: s :: Hs) KP := ⟨Seen.of fun _ h => .tail _ (.tail _ (.tail _ (.tail _ h))), h⟩
theorem Kept.sub (hs : Hs.Sublist H) (h : KP) : Kept Hs H KP := ⟨Seen.of fun _ hp => hs.subset hp, h⟩
/-- Some cells of a block, by their numbers. -/
def partF : List (Nat × Value) → Nat → Option Value
  | [], _ => none
  | (i, v) :: r, j => match Nat.beq i j with
    | true => some v
    | false => partF r j
def PartOf (b : Blk) : List (Nat × Value) → Prop
  | [] => True
  | (i, v) :: r => b.cell i = some v ∧ PartOf b r
theorem partF_ok {b : Blk} : ∀ {l : List (Nat × Value)}, PartOf b l → ∀ j v, partF l j = some v → b.cell j = some v
  | [], _, j, v, h => by cases h
  | (i, u) :: r, ⟨h1, h2⟩, j, v, h => by
    unfold partF at h
    split at h
    · rename_i e
      injection h with h
      rw [← Nat.eq_of_beq_eq_true e, ← h]; exact h1
    · exact partF_ok h2 j v h
theorem Seen.cells {H Hs : Heap} {r : Nat} {b : Blk} {l : List (Nat × Value)} (hm : (r, b) ∈ H) (hp : PartOf b l) (h : Seen H Hs) : Seen H ((r, .ro (partF l)) :: Hs) := .part hm (partF_ok hp) h
end
section
variable {P : Program} {f : FuncId} {args : List Value} {H : Heap} {K : Value → Heap → Prop}
/-- A contract, where something is known of it alone. -/
theorem SCalls.use {K' : Value → Heap → Prop} (h : SCalls P f args H K') (hk : ∀ v H', K' v H' → K v H') : SCalls P f args H K := h.mono hk
end
section
variable {P : Program} {f : FuncId} {args : List Value} {g : Nat} {b : Blk} {B : Heap} {K : Value → Heap → Prop} {x0 x1 x2 x3 x4 x5 x6 x7 x8 x9 x10 x11 : Nat × Blk}
/-- A contract that knows one block, where more is known. -/
theorem SCalls.atList (A : Heap) (h : SCalls P f args [(g, b)] fun v H' => K v (A ++ (H' ++ B))) : SCalls P f args (A ++ (g, b) :: B) K := by
  have h1 := h.frame (R := A ++ B)
  have hp : (A ++ (g, b) :: B).Perm ([(g, b)] ++ (A ++ B)) := List.perm_middle
  refine (h1.perm hp).mono ?_ |>.keep
  rintro v H' ⟨H1, rfl, hK⟩
  refine Keep.perm _ ?_ hK
  exact (List.append_assoc H1 A B ▸ (List.perm_append_comm.append_right B).trans (by rw [List.append_assoc]) : (H1 ++ (A ++ B)).Perm (A ++ (H1 ++ B)))
theorem SCalls.at0 (h : SCalls P f args [(g, b)] fun v H' => appK H' B fun H2 => K v (H2)) : SCalls P f args ((g, b) :: B) K :=
  SCalls.atList [] (h.mono fun v H' h => (appK_ok (K := fun H2 => K v (H2)) h : K v ((H' ++ B))))
theorem SCalls.at1 (h : SCalls P f args [(g, b)] fun v H' => appK H' B fun H2 => K v (x0 :: H2)) : SCalls P f args (x0 :: (g, b) :: B) K :=
  SCalls.atList [x0] (h.mono fun v H' h => (appK_ok (K := fun H2 => K v (x0 :: H2)) h : K v (x0 :: (H' ++ B))))
theorem SCalls.at2 (h : SCalls P f args [(g, b)] fun v H' => appK H' B fun H2 => K v (x0 :: x1 :: H2)) : SCalls P f args (x0 :: x1 :: (g, b) :: B) K :=
  SCalls.atList [x0, x1] (h.mono fun v H' h => (appK_ok (K := fun H2 => K v (x0 :: x1 :: H2)) h : K v (x0 :: x1 :: (H' ++ B))))
theorem SCalls.at3 (h : SCalls P f args [(g, b)] fun v H' => appK H' B fun H2 => K v (x0 :: x1 :: x2 :: H2)) : SCalls P f args (x0 :: x1 :: x2 :: (g, b) :: B) K :=
  SCalls.atList [x0, x1, x2] (h.mono fun v H' h => (appK_ok (K := fun H2 => K v (x0 :: x1 :: x2 :: H2)) h : K v (x0 :: x1 :: x2 :: (H' ++ B))))
theorem SCalls.at4 (h : SCalls P f args [(g, b)] fun v H' => appK H' B fun H2 => K v (x0 :: x1 :: x2 :: x3 :: H2)) : SCalls P f args (x0 :: x1 :: x2 :: x3 :: (g, b) :: B) K :=
  SCalls.atList [x0, x1, x2, x3] (h.mono fun v H' h => (appK_ok (K := fun H2 => K v (x0 :: x1 :: x2 :: x3 :: H2)) h : K v (x0 :: x1 :: x2 :: x3 :: (H' ++ B))))
theorem SCalls.at5 (h : SCalls P f args [(g, b)] fun v H' => appK H' B fun H2 => K v (x0 :: x1 :: x2 :: x3 :: x4 :: H2)) : SCalls P f args (x0 :: x1 :: x2 :: x3 :: x4 :: (g, b) :: B) K :=
  SCalls.atList [x0, x1, x2, x3, x4] (h.mono fun v H' h => (appK_ok (K := fun H2 => K v (x0 :: x1 :: x2 :: x3 :: x4 :: H2)) h : K v (x0 :: x1 :: x2 :: x3 :: x4 :: (H' ++ B))))
theorem SCalls.at6 (h : SCalls P f args [(g, b)] fun v H' => appK H' B fun H2 => K v (x0 :: x1 :: x2 :: x3 :: x4 :: x5 :: H2)) : SCalls P f args (x0 :: x1 :: x2 :: x3 :: x4 :: x5 :: (g, b) :: B) K :=
  SCalls.atList [x0, x1, x2, x3, x4, x5] (h.mono fun v H' h => (appK_ok (K := fun H2 => K v (x0 :: x1 :: x2 :: x3 :: x4 :: x5 :: H2)) h : K v (x0 :: x1 :: x2 :: x3 :: x4 :: x5 :: (H' ++ B))))
theorem SCalls.at7 (h : SCalls P f args [(g, b)] fun v H' => appK H' B fun H2 => K v (x0 :: x1 :: x2 :: x3 :: x4 :: x5 :: x6 :: H2)) : SCalls P f args (x0 :: x1 :: x2 :: x3 :: x4 :: x5 :: x6 :: (g, b) :: B) K :=
  SCalls.atList [x0, x1, x2, x3, x4, x5, x6] (h.mono fun v H' h => (appK_ok (K := fun H2 => K v (x0 :: x1 :: x2 :: x3 :: x4 :: x5 :: x6 :: H2)) h : K v (x0 :: x1 :: x2 :: x3 :: x4 :: x5 :: x6 :: (H' ++ B))))
theorem SCalls.at8 (h : SCalls P f args [(g, b)] fun v H' => appK H' B fun H2 => K v (x0 :: x1 :: x2 :: x3 :: x4 :: x5 :: x6 :: x7 :: H2)) : SCalls P f args (x0 :: x1 :: x2 :: x3 :: x4 :: x5 :: x6 :: x7 :: (g, b) :: B) K :=
  SCalls.atList [x0, x1, x2, x3, x4, x5, x6, x7] (h.mono fun v H' h => (appK_ok (K := fun H2 => K v (x0 :: x1 :: x2 :: x3 :: x4 :: x5 :: x6 :: x7 :: H2)) h : K v (x0 :: x1 :: x2 :: x3 :: x4 :: x5 :: x6 :: x7 :: (H' ++ B))))
end
section
variable {H : Heap} {K : Heap → Prop} {x0 x1 x2 x3 x4 x5 x6 x7 x8 x9 x10 x11 : Nat × Blk}
theorem Keep.d0 (h : K H) : Keep (H) K := .sub H (.refl _) h
theorem Keep.d1 (h : K H) : Keep (x0 :: H) K := .sub H ((List.sublist_append_right [x0] H)) h
theorem Keep.d2 (h : K H) : Keep (x0 :: x1 :: H) K := .sub H ((List.sublist_append_right [x0, x1] H)) h
theorem Keep.d3 (h : K H) : Keep (x0 :: x1 :: x2 :: H) K := .sub H ((List.sublist_append_right [x0, x1, x2] H)) h
theorem Keep.d4 (h : K H) : Keep (x0 :: x1 :: x2 :: x3 :: H) K := .sub H ((List.sublist_append_right [x0, x1, x2, x3] H)) h
theorem Keep.d5 (h : K H) : Keep (x0 :: x1 :: x2 :: x3 :: x4 :: H) K := .sub H ((List.sublist_append_right [x0, x1, x2, x3, x4] H)) h
theorem Keep.d6 (h : K H) : Keep (x0 :: x1 :: x2 :: x3 :: x4 :: x5 :: H) K := .sub H ((List.sublist_append_right [x0, x1, x2, x3, x4, x5] H)) h
theorem Keep.d7 (h : K H) : Keep (x0 :: x1 :: x2 :: x3 :: x4 :: x5 :: x6 :: H) K := .sub H ((List.sublist_append_right [x0, x1, x2, x3, x4, x5, x6] H)) h
theorem Keep.d8 (h : K H) : Keep (x0 :: x1 :: x2 :: x3 :: x4 :: x5 :: x6 :: x7 :: H) K := .sub H ((List.sublist_append_right [x0, x1, x2, x3, x4, x5, x6, x7] H)) h
end
/-- A law that holds of whatever is not known. -/
theorem SCalls.fin {P : Program} {f : FuncId} {args : List Value} {H : Heap} (h : SCalls P f args H fun v _ => v = .bool true) (w : World) (hw : Holds w H) (hx : ∀ p ∈ H, p.2.excl = false) :
    Calls P f args.toArray w fun e w' => e = .returned (.bool true) ∧ Below w.heap.size w w' := by
  refine (h.toBelow hw hx).mono ?_
  rintro e w' ⟨v, H', rfl, rfl, hb⟩
  exact ⟨rfl, hb⟩
theorem Holds.empty (w : World) : Holds w [] := ⟨fun p hp => (by cases hp), List.Pairwise.nil⟩
theorem wf_u8 {n : Int} (h : (Lit.int .u8 n).wf = true) : 0 ≤ n ∧ n ≤ 255 := by simp [Lit.wf, IntKind.min, IntKind.max, IntKind.signed, IntKind.bits] at h; omega
theorem wf_u16 {n : Int} (h : (Lit.int .u16 n).wf = true) : 0 ≤ n ∧ n ≤ 65535 := by simp [Lit.wf, IntKind.min, IntKind.max, IntKind.signed, IntKind.bits] at h; omega
theorem wf_u32 {n : Int} (h : (Lit.int .u32 n).wf = true) : 0 ≤ n ∧ n ≤ 4294967295 := by simp [Lit.wf, IntKind.min, IntKind.max, IntKind.signed, IntKind.bits] at h; omega
theorem wf_u64 {n : Int} (h : (Lit.int .u64 n).wf = true) : 0 ≤ n ∧ n ≤ 18446744073709551615 := by simp [Lit.wf, IntKind.min, IntKind.max, IntKind.signed, IntKind.bits] at h; omega
theorem wf_i64 {n : Int} (h : (Lit.int .i64 n).wf = true) : -9223372036854775808 ≤ n ∧ n ≤ 9223372036854775807 := by simp [Lit.wf, IntKind.min, IntKind.max, IntKind.signed, IntKind.bits] at h; omega
end Go.Proofs.Ytkegkhhfbfegoaa.Sx
