/- Layer 7: the functions that turn a string into bytes: Encode of the program, in the print's own form. -/
import Derived.Test.YtkajoepgebfjoaaTypesExt
import Derived.Test.YtkajoepgebfjoaaFr
import Derived.Test.YtkajoepgebfjoaaWMore
import Derived.Lib.ConvBytes
import Derived.LoopTactic
import Derived.Outline
set_option linter.unusedVariables false
set_option linter.unusedSimpArgs false
namespace Go.Proofs.Ytkajoepgebfjoaa.Ext
open Go.RowKit Go.Proofs.YtkajoepgebfjoaaW.PrintWords Go.Proofs.YtkajoepgebfjoaaW.PrintLast Go.Proofs.YtkajoepgebfjoaaW.PrintMore Go.Proofs.Ytkajoepgebfjoaa.PE Go.Proofs.Ytkajoepgebfjoaa.TM

/-- A string's bytes as numbers. -/
def bnums (s : ByteArray) : List Int := s.data.toList.map fun b => (b.toNat : Int)
theorem bnums_length (s : ByteArray) : (bnums s).length = s.size := by simp [bnums]
theorem bytesWorld_below (w : World) (e : TypeId) (s : ByteArray) : Below w.heap.size w (Lib.bytesWorld w e s) :=
  ⟨rfl, rfl, rfl, by rw [Lib.bytesWorld_size]; omega, fun k hk => Lib.bytesWorld_at_old w e s k hk⟩

/-- A block of bytes that is only read. -/
theorem V_blk {W : World} {g : Nat} {cur : Array Value} {fr : Nat × Nat} {n cap base : Nat} {xs : List Int} (hb : W.heap[g]? = some (.cells cur 5 fr)) (hl : xs.length = n) (hm : n ≤ 9223372036854775807) (hc : n ≤ cap)
    (hx : ∀ j, j < n → cur[j]? = some (.int .u8 (xs.getD j 0))) (ok : Nat → Prop) (hok : ok g) : Kd.V (Kd.int .u8) 5 W base ok (.slice (some ⟨g, 0, none⟩) n cap) xs := by
  subst hl
  refine Kd.V_mk hc ?_
  intro W' hW
  have hlt : g < W.heap.size := lt_of_block hb
  have hb' : W'.heap[g]? = some (.cells cur 5 fr) := (hW g hok hlt).trans hb
  refine Kd.C_of_reads (d := (0 : Int)) (h1 := fun _ => rfl) ⟨rfl, hm, fun _ => ⟨_, rfl, fun j hj => ?_⟩⟩
  rw [add_plain]
  simp [World.cell?, hb', hx j hj]

theorem bytes_V (w : World) (s : ByteArray) (base : Nat) (hs : s.size ≤ 140737488351232) (ok : Nat → Prop) (hok : ok w.heap.size) :
    Kd.V (Kd.int .u8) 5 (Lib.bytesWorld w 5 s) base ok (.slice (some ⟨w.heap.size, 0, none⟩) s.size (grownCap w s.size 0 5)) (bnums s) := by
  refine V_blk (Lib.bytesWorld_at_new w 5 s) (bnums_length s) (by omega) ?_ (fun j hj => ?_) ok hok
  · exact grownCap_ge _ _ _ _
  · simp [Lib.bytesCells, bnums, Array.getElem?_append, hj]

/-- The k-th byte of a number, the lowest first. -/
def nb (n : Int) (k : Nat) : Int := n / 2 ^ (8 * k) % 256
def lowB (n : Int) (sz : Nat) : List Int := (List.range sz).map (nb n)
/-- A row of bytes of which k are written. -/
def encC (n : Int) (k m : Nat) : List Value := (List.range m).map fun j => .int .u8 (if j < k then nb n j else 0)
theorem encC_length (n : Int) (k m : Nat) : (encC n k m).length = m := by simp [encC]
theorem encC_set (n : Int) (k m : Nat) (hk : k < m) : (encC n k m).set k (.int .u8 (nb n k)) = encC n (k + 1) m := by
  apply List.ext_getElem?
  intro j
  rw [List.getElem?_set]
  unfold encC
  simp only [List.getElem?_map, List.length_map, List.length_range]
  by_cases h : k = j
  · subst h
    simp [hk]
  · rw [if_neg h]
    rcases Nat.lt_or_ge j m with hj | hj
    · rw [List.getElem?_range hj]
      simp only [Option.map_some]
      by_cases h1 : j < k
      · rw [if_pos h1, if_pos (by omega)]
      · rw [if_neg h1, if_neg (by omega)]
    · simp [hj]
theorem encC_get (n : Int) (m j : Nat) (hj : j < m) : (encC n m m)[j]? = some (.int .u8 ((lowB n m).getD j 0)) := by
  simp [encC, lowB, hj]

/-- types.Encode, under its number. -/
def types_Encode.f (a0_0 : Int) (a0_1 : Int) (a0_2 : ByteArray) : Option (List Int × Int) :=
  if Rng a0_1 a0_2 then some (if chk a0_0 a0_1 a0_2 = 0 then ((if (tk a0_0).1 = 0 then bnums a0_2 else lowB a0_1 (tk a0_0).1.toNat), 0) else ([], chk a0_0 a0_1 a0_2)) else none

section
variable (t n : Int) (s : ByteArray) (w : World)

theorem enc_err (e : Int) (hr : Rng n s) (he : chk t n s = e) (h0 : (e != 0) = true) :
    Calls Try.prog 10 #[.agg #[.int .i64 t, .int .u64 n, .string s]] w fun e' w' => e' = .returned (.tuple #[.slice none 0 0, .int .i64 e]) ∧ Below w.heap.size w w' := by
  have hB0 := (Below.refl w.heap.size w).alloc (Nat.le_refl _) (.cells #[.int .i64 t, .int .u64 n, .string s] 25)
  have hC : types_check.f t n s = some e := by unfold types_check.f; rw [if_pos hr, he]
  clear he
  go_enter Try.func10, Try.ntmps10
  go_wp2_with (go_at_call 21; refine (types_check.calls t n s e _ hC).mono ?_; rintro e' W1 ⟨rfl, hb⟩; have hB1 := hB0.trans (hb.mono (by simp)))
  go_ret2
  exact ⟨rfl, hB1⟩

theorem enc_text (hr : Rng n s) (he : chk t n s = 0) (sg is : Bool) (hO : types_of.f 1 t = some (0, sg, is)) :
    Calls Try.prog 10 #[.agg #[.int .i64 t, .int .u64 n, .string s]] w fun e' w' => ∃ v, e' = .returned (.tuple #[v, .int .i64 0]) ∧ Kd.V (Kd.int .u8) 5 w' w.heap.size (fun k_ => w.heap.size ≤ k_) v (bnums s) ∧ Below w.heap.size w w' := by
  have hB0 := (Below.refl w.heap.size w).alloc (Nat.le_refl _) (.cells #[.int .i64 t, .int .u64 n, .string s] 25)
  have hC : types_check.f t n s = some 0 := by unfold types_check.f; rw [if_pos hr, he]
  have hs := hr.2.2
  clear he hr
  have hcv := fun W : World => Lib.run_convert_string_bytes (P := Try.prog) W 9 22 5 s Try.underlying9 Try.underlying22 Try.underlying5
  go_enter Try.func10, Try.ntmps10
  go_wp2_with (first
    | (go_at_call 21; refine (types_check.calls t n s 0 _ hC).mono ?_; rintro e' W1 ⟨rfl, hb⟩; obtain ⟨hl, c0, c1, c2⟩ := box_cells t n s w hb; have hB1 := hB0.trans (hb.mono (by simp)))
    | (go_at_call 20; refine (types_of.calls 1 t 0 sg is _ hO).mono ?_; rintro e' W2 ⟨rfl, hb2⟩; have hs2 := hb2.size; have hl2 : w.heap.size < W2.heap.size := by omega
       have d2 : W2.cell? ⟨w.heap.size, 2, none⟩ = some (.string s) := by rw [hb2.cell (by exact hl)]; exact c2
       have hB2 := hB1.trans (hb2.mono (by omega))))
  refine bodyPost_ret (results_tmp2 rfl _ _ _) rfl ?_
  have hv := bytes_V (W2.alloc (.cells #[.int .i64 0, .bool sg, .bool is] 44)) s w.heap.size hs (fun k_ => w.heap.size ≤ k_) (by simp; omega)
  rw [World.size_alloc] at hv
  refine ⟨_, rfl, hv, ?_⟩
  exact (hB2.alloc (by omega) _).trans ((bytesWorld_below _ 5 s).mono (by simp; omega))

theorem enc_made (n : Int) (m : Nat) : madeCells #[.int .u8 0] m = (encC n 0 m).toArray := by
  apply Array.ext'
  rw [toList_madeCells_one]
  apply List.ext_getElem?
  intro j
  rcases Nat.lt_or_ge j m with hj | hj
  · simp [encC, hj]
  · simp [encC, hj]
theorem info5 : (Try.prog.info? 5).map (fun i => (i.zero, i.size, i.bytes)) = some (some (.int .u8 0), 1, 1) := by kernel_rfl

set_option maxHeartbeats 1000000 in
theorem enc_num (hr : Rng n s) (he : chk t n s = 0) (m : Nat) (hm0 : 0 < m) (hm : m ≤ 8) (sg is : Bool) (hO : types_of.f 1 t = some ((m : Int), sg, is)) :
    Calls Try.prog 10 #[.agg #[.int .i64 t, .int .u64 n, .string s]] w fun e' w' => ∃ v, e' = .returned (.tuple #[v, .int .i64 0]) ∧ Kd.V (Kd.int .u8) 5 w' w.heap.size (fun k_ => w.heap.size ≤ k_) v (lowB n m) ∧ Below w.heap.size w w' := by
  have hB0 := (Below.refl w.heap.size w).alloc (Nat.le_refl _) (.cells #[.int .i64 t, .int .u64 n, .string s] 25)
  have hC : types_check.f t n s = some 0 := by unfold types_check.f; rw [if_pos hr, he]
  have hn0 := hr.1
  have hn1 := hr.2.1
  clear he hr
  have hz : ((m : Int) == 0) = false := by simp; omega
  have hmk := print_make (P := Try.prog) 22 5 .u8 1 Try.underlying22 info5 (by omega) m (by omega)
  go_enter Try.func10, Try.ntmps10
  go_wp2_with (first
    | (go_at_call 21; refine (types_check.calls t n s 0 _ hC).mono ?_; rintro e' W1 ⟨rfl, hb⟩; obtain ⟨hl, c0, c1, c2⟩ := box_cells t n s w hb; have hB1 := hB0.trans (hb.mono (by simp)))
    | (go_at_call 20; refine (types_of.calls 1 t m sg is _ hO).mono ?_; rintro e' W2 ⟨rfl, hb2⟩; have hs2 := hb2.size; have hl2 : w.heap.size < W2.heap.size := by omega
       have d1 : W2.cell? ⟨w.heap.size, 1, none⟩ = some (.int .u64 n) := by rw [hb2.cell (by exact hl)]; exact c1
       have hB2 := hB1.trans (hb2.mono (by omega))))
  have hat := At.new (W2.alloc (.cells #[.int .i64 (m : Int), .bool sg, .bool is] 44)) 5 (encC n 0 m)
  rw [← enc_made n m, World.size_alloc] at hat
  have hB3 := (hB2.alloc (by omega) (.cells #[.int .i64 (m : Int), .bool sg, .bool is] 44)).alloc (by simp; omega) (.cells (madeCells #[.int .u8 0] m) 5)
  have e1 : ((W2.alloc (.cells #[.int .i64 (m : Int), .bool sg, .bool is] 44)).alloc (.cells (madeCells #[.int .u8 0] m) 5)).cell? ⟨w.heap.size, 1, none⟩ = some (.int .u64 n) := by
    rw [World.cell?_alloc_past _ _ _ (by simp; omega), World.cell?_alloc_past _ _ _ hl2]
    exact d1
  clear hmk hO hC hb hb2 c0 c1 c2 d1 hB0 hB1 hB2
  go_loopw [27] (fun i wr => ∃ k : Nat, k ≤ m ∧ i = .int .i64 k ∧ At wr (W2.heap.size + 1) 5 (encC n k m) ∧ wr.cell? ⟨w.heap.size, 1, none⟩ = some (.int .u64 n) ∧ Below w.heap.size w wr) (fun i _ => m - (intOf i).toNat)
  case atStart => exact ⟨0, by omega, rfl, hat, e1, hB3⟩
  case round =>
    clear hat e1 hB3
    obtain ⟨k, hk, rfl, hat, e1, hBr⟩ := hrel
    by_cases hlt : k < m
    · have f1 := hat.cell k (v := .int .u8 0) (by simp [encC, hlt])
      have f2 := hat.free k
      have HA := Lib.hid hat
      clear hat
      go_wp2
      go_roundw

      case rel => exact ⟨k + 1, by omega, by go_num, by rw [← encC_set n k m hlt]; exact HA.out.set k _, by rw [World.cell?_setCell_other _ _ _ _ (by intro h; injection h with h; omega)]; exact e1, hBr.setCell (by simp; omega) _⟩
      case measure => simp [intOf]; omega
    · obtain rfl : k = m := by omega
      have HA := Lib.hid hat
      clear hat
      go_wp2
      go_ret2
      exact ⟨_, rfl, V_blk (cur := (encC n k k).toArray) HA.out (by simp [lowB]) (by omega) (Nat.le_refl _) (fun j hj => by simpa using encC_get n k j hj) _ (by omega), hBr⟩
end

theorem types_Encode.calls (a0_0 : Int) (a0_1 : Int) (a0_2 : ByteArray) (r1 : List Int) (r2 : Int) (w : World) (h : types_Encode.f a0_0 a0_1 a0_2 = some (r1, r2)) :
    Calls Try.prog 10 #[.agg #[.int .i64 a0_0, .int .u64 a0_1, .string a0_2]] w fun e w' => ∃ v0_ : Value, e = .returned (.tuple #[v0_, .int .i64 r2]) ∧ Kd.V (Kd.int .u8) 5 w' w.heap.size (fun k_ => w.heap.size ≤ k_) v0_ r1 ∧ Below w.heap.size w w' := by
  unfold types_Encode.f at h
  split at h
  · rename_i hr
    have hO := of_eq a0_0
    have hc := tk_cases a0_0
    by_cases he : chk a0_0 a0_1 a0_2 = 0
    · rw [if_pos he] at h
      by_cases hz : (tk a0_0).1 = 0
      · rw [if_pos hz] at h
        simp only [Option.some.injEq, Prod.mk.injEq] at h
        obtain ⟨rfl, rfl⟩ := h
        exact enc_text a0_0 a0_1 a0_2 w hr he (tk a0_0).2.1 (tk a0_0).2.2 (by rw [hO, ← hz])
      · rw [if_neg hz] at h
        simp only [Option.some.injEq, Prod.mk.injEq] at h
        obtain ⟨rfl, rfl⟩ := h
        have hc' : (tk a0_0).1 = 1 ∨ (tk a0_0).1 = 2 ∨ (tk a0_0).1 = 4 ∨ (tk a0_0).1 = 8 := by rcases hc with ⟨h, _⟩ | ⟨h, _⟩; exact absurd h hz; exact h
        refine enc_num a0_0 a0_1 a0_2 w hr he (tk a0_0).1.toNat (by omega) (by omega) (tk a0_0).2.1 (tk a0_0).2.2 ?_
        rw [hO, Int.toNat_of_nonneg (by omega)]
    · rw [if_neg he] at h
      simp only [Option.some.injEq, Prod.mk.injEq] at h
      obtain ⟨rfl, rfl⟩ := h
      exact (enc_err a0_0 a0_1 a0_2 w _ hr rfl (by simpa using he)).mono fun _ _ ⟨h1, h2⟩ => ⟨_, h1, Kd.V_nil _ _ _ _ _, h2⟩
  · cases h

/-- strings.Compare, under its number. -/
def strings_Compare.f (a0 : ByteArray) (a1 : ByteArray) : Option Int := some (Lib.compareBytes a0.data.toList a1.data.toList)
theorem strings_Compare.calls (a0 : ByteArray) (a1 : ByteArray) (r : Int) (w : World) (h : strings_Compare.f a0 a1 = some r) :
    Calls Try.prog 26 #[.string a0, .string a1] w fun e w' => e = .returned (.int .i64 r) ∧ Drawn0 w w' := by
  obtain rfl : Lib.compareBytes a0.data.toList a1.data.toList = r := by simpa [strings_Compare.f] using h
  exact (Try.strings_Compare a0 a1 w).mono fun _ _ ⟨h1, h2⟩ => ⟨h1, by rw [h2]; exact Drawn0.refl w⟩
end Go.Proofs.Ytkajoepgebfjoaa.Ext
