/- Sx, part M: append on a slice of the call's own (a 'buf'), or on none. -/
import Derived.Test.YtkegkhhfbfegoaaSxL
import Derived.Laws.AppendOwn
set_option linter.unusedVariables false
set_option linter.unusedSimpArgs false
namespace Go.Proofs.Ytkegkhhfbfegoaa.Sx
open Go.RowKit

section
variable {P : Program} {o : Oper} {t e : TypeId} {i : TypeInfo} {z : Value} {xs xx : Operand} {A B H : Heap} {r n cap m c : Nat} {cs news : List Value} {r2 o2 : Nat} {b2 : Blk} {K : Value → Heap → Prop}
theorem run_append_op (ρ : Operand → Value) {u v : Value} (ho : o.op = .call { callee := .builtin .append, args := #[xs, xx], argTypes := #[t, t] }) (hm : o.op.operands.toList.map ρ = [u, v]) :
    execOp ρ o = (Builtin.append_ #[t, t] o.type #[u, v] >>= fun v => pure (.value v)) := by
  rw [ho] at hm
  have hm : [ρ xs, ρ xx] = [u, v] := hm
  injection hm with e1 hm
  injection hm with e2 hm
  simp only [execOp, ho, resolve, invoke, builtin, List.map_toArray, List.map_cons, List.map_nil, e1, e2]
  rfl
/-- On a slice of the call's own. -/
theorem RawV.app (ho : o.op = .call { callee := .builtin .append, args := #[xs, xx], argTypes := #[t, t] })
    (ht : P.underlying t = some (.slice e)) (hi : P.info? e = some i) (hz : i.zero = some z) (hzs : z.cells.size = i.size) (hsz : 0 < i.size)
    (hcs : cs.length = n * i.size) (hcap : n ≤ cap) (hcm : cap ≤ maxLen)
    (h2 : (r2, b2) ∈ A ++ (r, .buf e cs (cap * i.size)) :: B) (hl : news.length = m * i.size) (hn : ∀ j v, news[j]? = some v → b2.cell (o2 + j) = some v) (h1 : ∀ u ∈ news, u.oneCell' = true)
    (h63 : n + m ≤ maxLen) (hb : (n + m) * i.bytes ≤ 140737488355328)
    (h : ∀ r' cap', n + m ≤ cap' → cap' ≤ maxLen → K (.slice (some ⟨r', 0, none⟩) (n + m) cap') ((r', .buf e (cs ++ news) (cap' * i.size)) :: (A ++ B))) :
    RawV P o [.slice (some ⟨r, 0, none⟩) n cap, .slice (some ⟨r2, o2, none⟩) m c] (A ++ (r, .buf e cs (cap * i.size)) :: B) K := by
  refine ⟨fun ρ w hm hw => .inl ?_⟩
  rw [run_append_op ρ ho hm]
  obtain ⟨sl, hsl, hg⟩ := (hw.mid : (Blk.buf e cs (cap * i.size)).At w r)
  have hnews : ∀ j u, news[j]? = some u → w.cell? ((⟨r2, o2, none⟩ : Addr).add j) = some u := fun j u hj => by
    rw [addr_add]; exact cell_at (hw.at_ _ h2) (hn j u hj)
  have hmx : n + m ≤ 9223372036854775807 := by simp only [maxLen] at h63; omega
  have hlen : (cs ++ news).length = (n + m) * i.size := by rw [List.length_append, hcs, hl, Nat.add_mul]
  by_cases hroom : n + m ≤ cap
  · have hfit : n * i.size + news.length ≤ (cs ++ sl).toArray.size := by
      have : (n + m) * i.size ≤ cap * i.size := Nat.mul_le_mul_right _ hroom
      rw [Nat.add_mul] at this
      simp only [List.size_toArray, List.length_append]; omega
    have hr := run_append_room (P := P) w t o.type e i ht hi r n cap _ hg ⟨r2, o2, none⟩ m c news hl hnews h1 hroom hfit
    have hcur : (cs ++ sl).toArray.toList.take (n * i.size) ++ news ++ (cs ++ sl).toArray.toList.drop (n * i.size + news.length) = (cs ++ news) ++ sl.drop news.length := by
      rw [← hcs]
      simp [List.take_left', List.drop_append]
    rw [hcur] at hr
    have hput := hw.put (w' := w.setRow r ((cs ++ news) ++ sl.drop news.length).toArray) (b' := .buf e (cs ++ news) (cap * i.size)) rfl rfl (by simp) rfl rfl rfl (fun k hk => setRow_other w r k _ hk) ⟨sl.drop news.length, by
      have : (n + m) * i.size ≤ cap * i.size := Nat.mul_le_mul_right _ hroom
      rw [Nat.add_mul] at this
      rw [List.length_drop, List.length_append]; omega, setRow_heap w r _ _ e (0, 0) hg⟩
    refine ⟨_, _, _, .inl ?_, hput.1.perm perm_mid, hput.2.permR perm_mid, h r cap hroom hcm⟩
    rw [Sem.run_bind, hr]; rfl
  · have holds : ∀ j u, cs[j]? = some u → w.cell? ((⟨r, 0, none⟩ : Addr).add j) = some u := fun j u hj => by
      rw [addr_add]; exact cell_at (b := .buf e cs (cap * i.size)) ⟨sl, hsl, hg⟩ (by rw [Nat.zero_add]; exact hj)
    have hr := run_append_grow (P := P) w t o.type e i z ht hi hz ⟨r, 0, none⟩ n cap cs hcs holds ⟨r2, o2, none⟩ m c news hl hnews (by omega) (by omega) (growslice_fits (by omega) hb)
    have hge := grownCap_ge w (n + m) cap e
    have hcm' := grownCap_le_maxLen w (n + m) cap e h63
    have hal := (hw.drew (w.drawn + 1)).alloc (.cells (cs.toArray ++ news.toArray ++ Builtin.zeroCells z.cells (grownCap w (n + m) cap e - (n + m))) e) (.buf e (cs ++ news) (grownCap w (n + m) cap e * i.size))
      ⟨(Builtin.zeroCells z.cells (grownCap w (n + m) cap e - (n + m))).toList, by
        rw [hlen, Array.length_toList, size_zeroCells, hzs, ← Nat.add_mul]; congr 1; omega, by
        rw [heap_alloc_new]
        simp⟩
    have hst := (Step.drew w (A ++ (r, .buf e cs (cap * i.size)) :: B) (w.drawn + 1)).trans hal.2
    have hsub : ((w.heap.size, Blk.buf e (cs ++ news) (grownCap w (n + m) cap e * i.size)) :: (A ++ B)).Sublist ((w.heap.size, Blk.buf e (cs ++ news) (grownCap w (n + m) cap e * i.size)) :: (A ++ (r, .buf e cs (cap * i.size)) :: B)) :=
      List.Sublist.cons_cons _ (List.Sublist.append_left (List.sublist_cons_self _ _) _)
    refine ⟨_, _, _, .inl ?_, hal.1.sub hsub, hst.fewer (fun p hp => hsub.subset hp), h w.heap.size (grownCap w (n + m) cap e) hge hcm'⟩
    rw [Sem.run_bind, hr]; rfl
/-- On no slice. -/
theorem RawV.app0 (ho : o.op = .call { callee := .builtin .append, args := #[xs, xx], argTypes := #[t, t] })
    (ht : P.underlying t = some (.slice e)) (hi : P.info? e = some i) (hz : i.zero = some z) (hzs : z.cells.size = i.size) (hsz : 0 < i.size)
    (h2 : (r2, b2) ∈ H) (hl : news.length = m * i.size) (hn : ∀ j v, news[j]? = some v → b2.cell (o2 + j) = some v) (h0 : 0 < m)
    (h63 : m ≤ maxLen) (hb : m * i.bytes ≤ 140737488355328)
    (h : ∀ r' cap', m ≤ cap' → cap' ≤ maxLen → K (.slice (some ⟨r', 0, none⟩) m cap') ((r', .buf e news (cap' * i.size)) :: H)) :
    RawV P o [.slice none 0 0, .slice (some ⟨r2, o2, none⟩) m c] H K := by
  refine ⟨fun ρ w hm hw => .inl ?_⟩
  rw [run_append_op ρ ho hm]
  have hnews : ∀ j u, news[j]? = some u → w.cell? ((⟨r2, o2, none⟩ : Addr).add j) = some u := fun j u hj => by
    rw [addr_add]; exact cell_at (hw.at_ _ h2) (hn j u hj)
  have hmx : m ≤ 9223372036854775807 := by simp only [maxLen] at h63; omega
  have hr := run_append_nil (P := P) w t o.type e i z ht hi hz ⟨r2, o2, none⟩ m c news hl hnews h0 (by omega) (by omega)
  have hge := grownCap_ge w m 0 e
  have hcm' := grownCap_le_maxLen w m 0 e h63
  have hal := (hw.drew (w.drawn + 1)).alloc (.cells (news.toArray ++ Builtin.zeroCells z.cells (grownCap w m 0 e - m)) e) (.buf e news (grownCap w m 0 e * i.size))
    ⟨(Builtin.zeroCells z.cells (grownCap w m 0 e - m)).toList, by
      rw [hl, Array.length_toList, size_zeroCells, hzs, ← Nat.add_mul]; congr 1; omega, by
      rw [heap_alloc_new]
      simp⟩
  have hst := (Step.drew w H (w.drawn + 1)).trans hal.2
  refine ⟨_, _, _, .inl ?_, hal.1, hst, h w.heap.size (grownCap w m 0 e) hge hcm'⟩
  rw [Sem.run_bind, hr]; rfl
/-- Nothing, on no slice. -/
theorem RawV.appn (ho : o.op = .call { callee := .builtin .append, args := #[xs, xx], argTypes := #[t, t] })
    (ht : P.underlying t = some (.slice e)) (hi : P.info? e = some i) {a : Option Addr}
    (h : K (.slice none 0 0) H) :
    RawV P o [.slice none 0 0, .slice a 0 c] H K := by
  refine ⟨fun ρ w hm hw => .inl ?_⟩
  rw [run_append_op ρ ho hm]
  refine ⟨_, w, H, .inl ?_, hw, Step.refl _ _, h⟩
  have hr : (Builtin.append_ #[t, t] o.type #[.slice none 0 0, .slice a 0 c]).run P w = .ok (.slice none 0 0) w := by
    cases a <;> simp [Builtin.append_, run_underlying ht, sizeOf, typeInfo, hi, Builtin.lenOf, Builtin.firstCells, loadCells, loadCellsFrom]
  rw [Sem.run_bind, hr]; rfl
end
end Go.Proofs.Ytkegkhhfbfegoaa.Sx
