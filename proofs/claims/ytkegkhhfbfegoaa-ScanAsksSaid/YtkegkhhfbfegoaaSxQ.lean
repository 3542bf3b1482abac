/- Sx, part Q: make; lists of whole numbers in a buffer. -/
import Derived.Test.YtkegkhhfbfegoaaSxP
import Derived.Laws.MakeOwn
set_option linter.unusedVariables false
set_option linter.unusedSimpArgs false
namespace Go.Proofs.Ytkegkhhfbfegoaa.Sx
open Go.RowKit
section
variable {P : Program} {o : Oper} {t e : TypeId} {xl xc : Operand} {H : Heap} {n bytes : Nat} {K : Value → Heap → Prop} {zv : Value}
theorem made_one (n : Nat) : madeCells #[zv] n = (List.replicate n zv).toArray := by
  apply Array.ext'
  simp only [madeCells, Array.toList_map, Array.toList_range]
  refine List.ext_getElem (by simp) fun i h1 h2 => ?_
  simp [Nat.mod_one]
/-- A slice of n elements of one cell each. -/
theorem RawV.make1 {k : IntKind} (ho : o.op = .makeSlice t xl xc) (ht : tyOk P t e 1 bytes = true) (hz : (P.info? e).bind (·.zero) = some zv) (hc : zv.cells = #[zv]) (hb : bytes * n ≤ 281474976710656) (hn : n ≤ maxLen)
    (h : ∀ r, K (.slice (some ⟨r, 0, none⟩) n n) ((r, .buf e (List.replicate n zv) n) :: H)) : RawV P o [.int k (n : Int), .int k (n : Int)] H K := by
  obtain ⟨h3, i, z, h4, h5, h6, h7, rfl⟩ := tyOk_spec ht
  rw [h4] at hz
  simp only [Option.bind_some] at hz
  rw [h5] at hz
  injection hz with hz
  subst hz
  refine ⟨fun ρ w hm hw => .inl ?_⟩
  rw [ho] at hm
  have hm : [ρ xl, ρ xc] = [.int k (n : Int), .int k (n : Int)] := hm
  injection hm with e1 hm
  injection hm with e2 hm
  have hex : execOp ρ o = (Instr.makeSlice t (.int k (n : Int)) (.int k (n : Int)) >>= fun v => pure (.value v)) := by
    simp only [execOp, ho, e1, e2]
  have hn63 : (n : Int) ≤ 9223372036854775807 := by simp only [maxLen] at hn; omega
  have hb' : (i.bytes : Int) * (n : Int) ≤ 281474976710656 := by
    have h : ((i.bytes * n : Nat) : Int) ≤ 281474976710656 := by omega
    rwa [Int.natCast_mul] at h
  have hr := run_make (P := P) w t e i z h3 h4 h5 k k (n : Int) (n : Int) (by omega) (Int.le_refl _) hb' hn63
  rw [hc, h7, Int.toNat_natCast, Nat.mul_one, made_one] at hr
  have hal := hw.alloc (.cells (List.replicate n z).toArray e) (.buf e (List.replicate n z) n) ⟨[], by simp, by rw [heap_alloc_new, List.append_nil]⟩
  exact ⟨_, _, _, .inl (by rw [hex, Sem.run_bind, hr]; rfl), hal.1, hal.2, h _⟩
end
section
variable {t : TypeId} {N j : Nat} {xs : List Int} {k : IntKind} {v : Int}
theorem Cell.nthI {K : Value → Prop} (hj : xs[j]? = some v) (h : K (.int k v)) : Cell (.buf t (xs.map (Value.int k)) N) (0 + j * 1) K :=
  Cell.get (by show (xs.map (Value.int k))[0 + j * 1]? = _; simp [hj]) h
theorem Put.nthI {K : Blk → Prop} (hj : j < xs.length) (h : K (.buf t ((xs.set j v).map (Value.int k)) N)) : Put (.buf t (xs.map (Value.int k)) N) (0 + j * 1) [.int k v] K := by
  refine ⟨_, ⟨?_, rfl⟩, ?_⟩
  · simp; omega
  · have e : (xs.map (Value.int k)).take (0 + j * 1) ++ [.int k v] ++ (xs.map (Value.int k)).drop (0 + j * 1 + [Value.int k v].length) = (xs.set j v).map (Value.int k) := by
      rw [Nat.zero_add, Nat.mul_one, List.map_set, List.set_eq_take_append_cons_drop, if_pos (by simpa using hj)]
      simp
    rw [e]; exact h
theorem map_set_same {α β : Type} {f : α → β} {l : List α} {i : Nat} {x x' : α} (hj : l[i]? = some x) (hf : f x' = f x) : (l.set i x').map f = l.map f := by
  rw [List.map_set, hf]
  obtain ⟨hlt, rfl⟩ := List.getElem?_eq_some_iff.1 hj
  conv => rhs; rw [← List.set_getElem_self (as := l.map f) (i := i) (by simpa using hlt)]
  simp
end
end Go.Proofs.Ytkegkhhfbfegoaa.Sx
