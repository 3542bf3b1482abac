/- Layer 26: an image in memory: what is known of it; its readers, by walks. -/
import Derived.Test.YtjnlpaojaikjaaaBSx1
import Derived.Test.YtjnlpaojaikjaaaBX

set_option linter.unusedVariables false
set_option linter.unusedSimpArgs false
set_option maxRecDepth 100000
set_option maxHeartbeats 4000000
namespace Go.Proofs.Ytjnlpaojaikjaaa
open Sx
abbrev ptr (g : Nat) : Value := .pointer (some ⟨g, 0, none⟩)
abbrev cI (n : Int) : List Value := [.int .i64 n]
abbrev cP (r : Nat) : List Value := [ptr r]
abbrev kI : Int → Value := Value.int .i64
abbrev ptrs (ad : List Nat) : List Value := ad.map fun r => .pointer (some ⟨r, 0, none⟩)
theorem list_at {α : Type} {L : List α} {j : Nat} (hlt : j < L.length) : ∃ x, L[j]? = some x ∧ L.drop j = x :: L.drop (j + 1) ∧ L.take (j + 1) = L.take j ++ [x] :=
  ⟨L[j], List.getElem?_eq_getElem hlt, List.drop_eq_getElem_cons hlt, List.take_succ_eq_append_getElem hlt⟩
/-- What a block is, as a number. -/
def kd : Blk → Nat
  | .row t _ _ => t
  | .buf t _ _ => 1000 + t
  | .obj (.map ..) => 2000
  | .obj (.mapIter ..) => 3000
  | .obj _ => 4000
  | .ro _ => 5000
theorem ne_kd {a b : Blk} (h : kd a ≠ kd b) : a ≠ b := fun e => h (by rw [e])
/-- A variable: its producer, its own value, what each consumer saw (the value, the cycle). -/
structure Lv where
  (prod own : Int)
  seen : List (Int × Option (Int × Int))
structure Mc where
  there : List Bool
  vs : List Lv
  cyc : Int
abbrev rowM (gt n ct : Nat) (la : Option Addr) (nl lc : Nat) (cyc : Int) : Blk := .row 67 [.slice (some ⟨gt, 0, none⟩) n ct, .slice la nl lc, .int .u64 cyc] (0, 0)
abbrev rowV (prod own : Int) (m : Nat) : Blk := .row 71 [.int .i64 prod, .int .u64 own, .map (some m)] (0, 0)
abbrev rowS (x c : Int) : Blk := .row 77 [.int .u64 x, .int .u64 c] (0, 0)
def RelE (H : Heap) (e : Ent Int) (s : Int × Option (Int × Int)) : Prop :=
  e.key = s.1 ∧ match s.2 with
    | none => e.val = .pointer none
    | some xc => ∃ gs, e.val = ptr gs ∧ (gs, rowS xc.1 xc.2) ∈ H
structure Ents (H : Heap) (es : List (Ent Int)) (clk : Nat) (seen : List (Int × Option (Int × Int))) : Prop where
  born : ∀ e ∈ es, e.born < clk
  once : (es.map Ent.born).Nodup
  len : es.length = seen.length
  rel : ∀ (j : Nat) e s, es[j]? = some e → seen[j]? = some s → RelE H e s
structure VarAt (H : Heap) (p : Nat × Nat) (v : Lv) : Prop where
  row : (p.1, rowV v.prod v.own p.2) ∈ H
  map : ∃ es clk, (p.2, mapB kI es clk) ∈ H ∧ Ents H es clk v.seen
structure Lv.Ok (n : Nat) (v : Lv) : Prop where
  prod : 0 ≤ v.prod ∧ v.prod < (n : Int)
  keys : ∀ s ∈ v.seen, 0 ≤ s.1 ∧ s.1 < (n : Int)
  once : (v.seen.map Prod.fst).Nodup
/-- A slice of pointers in a buffer, or none. -/
def PB (t : TypeId) (a : Option Addr) (c : Nat) (H : Heap) (ad : List Nat) : Prop := (a = none ∧ ad = [] ∧ c = 0) ∨ ∃ r, a = some ⟨r, 0, none⟩ ∧ ad.length ≤ c ∧ c ≤ maxLen ∧ (r, .buf t (ptrs ad) (c * 1)) ∈ H
structure Mach (gm : Nat) (ids : List (Nat × Nat)) (M : Mc) (H : Heap) : Prop where
  ex : ∃ gt nt ct la lc, (gm, rowM gt M.there.length ct la ids.length lc M.cyc) ∈ H ∧ (gt, .buf 4 (M.there.map Value.bool) nt) ∈ H ∧ PB 68 la lc H (ids.map Prod.fst)
  gn : (ids.map Prod.fst).Nodup
  mn : (ids.map Prod.snd).Nodup
  len : ids.length = M.vs.length
  var : ∀ (j : Nat) p v, ids[j]? = some p → M.vs[j]? = some v → VarAt H p v
  ok : ∀ v ∈ M.vs, v.Ok M.there.length
  few : M.there.length ≤ 127 ∧ M.vs.length ≤ 64
theorem RelE.mono {H H' : Heap} {e : Ent Int} {s : Int × Option (Int × Int)} (h : RelE H e s) (hs : ∀ q ∈ H, kd q.2 = 77 → q ∈ H') : RelE H' e s := by
  obtain ⟨h1, h2⟩ := h
  refine ⟨h1, ?_⟩
  cases hq : s.2 with
  | none => rw [hq] at h2; exact h2
  | some xc =>
    rw [hq] at h2
    obtain ⟨gs, h3, h4⟩ := h2
    exact ⟨gs, h3, hs _ h4 rfl⟩
theorem Ents.mono {H H' : Heap} {es : List (Ent Int)} {clk : Nat} {seen : List (Int × Option (Int × Int))} (h : Ents H es clk seen) (hs : ∀ q ∈ H, kd q.2 = 77 → q ∈ H') : Ents H' es clk seen :=
  ⟨h.born, h.once, h.len, fun j e s he hse => (h.rel j e s he hse).mono hs⟩
theorem VarAt.keep {H H' : Heap} {p : Nat × Nat} {v : Lv} (h : VarAt H p v) (h1 : ∀ q ∈ H, q.1 = p.1 → kd q.2 = 71 → q ∈ H') (h2 : ∀ q ∈ H, q.1 = p.2 → kd q.2 = 2000 → q ∈ H') (h3 : ∀ q ∈ H, kd q.2 = 77 → q ∈ H') : VarAt H' p v := by
  obtain ⟨h4, es, clk, h5, h6⟩ := h
  exact ⟨h1 _ h4 rfl rfl, es, clk, h2 _ h5 rfl rfl, h6.mono h3⟩
theorem PB.keep {t : TypeId} {a : Option Addr} {c : Nat} {H H' : Heap} {ad : List Nat} (h : PB t a c H ad) (hs : ∀ q ∈ H, kd q.2 = 1000 + t → q ∈ H') : PB t a c H' ad := by
  rcases h with h | ⟨r, h1, h2, h3, h4⟩
  · exact .inl h
  · exact .inr ⟨r, h1, h2, h3, hs _ h4 rfl⟩
/-- Kept, where nothing of it is changed. -/
theorem Mach.keep {gm : Nat} {ids : List (Nat × Nat)} {M : Mc} {H H' : Heap} (h : Mach gm ids M H) (hs : ∀ q ∈ H, (kd q.2 = 67 ∨ kd q.2 = 1004 ∨ kd q.2 = 1068 ∨ kd q.2 = 71 ∨ kd q.2 = 2000 ∨ kd q.2 = 77) → q ∈ H') : Mach gm ids M H' := by
  obtain ⟨⟨gt, nt, ct, la, lc, h1, h2, h3⟩, hgn, hmn, hl, hv, hok, hfew⟩ := h
  exact ⟨⟨gt, nt, ct, la, lc, hs _ h1 (.inl rfl), hs _ h2 (.inr (.inl rfl)), h3.keep fun q hq hk => hs q hq (.inr (.inr (.inl hk)))⟩, hgn, hmn, hl,
    fun j p v hp hv' => (hv j p v hp hv').keep (fun q hq _ hk => hs q hq (.inr (.inr (.inr (.inl hk))))) (fun q hq _ hk => hs q hq (.inr (.inr (.inr (.inr (.inl hk)))))) (fun q hq hk => hs q hq (.inr (.inr (.inr (.inr (.inr hk)))))), hok, hfew⟩
theorem Mach.mono {gm : Nat} {ids : List (Nat × Nat)} {M : Mc} {H H' : Heap} (h : Mach gm ids M H) (hs : ∀ q ∈ H, q ∈ H') : Mach gm ids M H' := h.keep fun q hq _ => hs q hq
/-- Kept, where a block of another kind is changed. -/
theorem Mach.put {gm r : Nat} {b b' : Blk} {ids : List (Nat × Nat)} {M : Mc} {H H' : Heap} (h : Mach gm ids M H) (hp : PutH H r b b' H') (hk : kd b ≠ 67 ∧ kd b ≠ 1004 ∧ kd b ≠ 1068 ∧ kd b ≠ 71 ∧ kd b ≠ 2000 ∧ kd b ≠ 77) : Mach gm ids M H' :=
  h.keep fun q hq hq2 => hp.blk hq (ne_kd (by omega))
/-- What a consumer saw. -/
def getS (l : List (Int × Option (Int × Int))) (n : Int) : Option (Option (Int × Int)) := (l.find? fun s => decide (s.1 = n)).map Prod.snd
theorem getS_at : ∀ {l : List (Int × Option (Int × Int))} {n : Int} {j : Nat} {s : Int × Option (Int × Int)}, (l.map Prod.fst).Nodup → l[j]? = some s → s.1 = n → getS l n = some s.2
  | [], n, j, s, _, h, _ => by simp at h
  | y :: l, n, 0, s, _, h, e => by
    simp only [List.getElem?_cons_zero, Option.some.injEq] at h
    subst h
    unfold getS
    rw [List.find?_cons, decide_eq_true e]; rfl
  | y :: l, n, j + 1, s, hn, h, e => by
    obtain ⟨h1, h2⟩ := List.nodup_cons.1 (show (y.1 :: l.map Prod.fst).Nodup from hn)
    have hne : y.1 ≠ n := fun e2 => h1 (by
      rw [e2, ← e]
      exact List.mem_map_of_mem (List.mem_of_getElem? (by simpa using h)))
    have := getS_at (n := n) h2 (by simpa using h) e
    unfold getS at this ⊢
    rw [List.find?_cons, decide_eq_false hne]; exact this
theorem getS_none {l : List (Int × Option (Int × Int))} {n : Int} (h : ∀ s ∈ l, s.1 ≠ n) : getS l n = none := by
  unfold getS
  rw [List.find?_eq_none.2 fun s hs => by simpa using h s hs]; rfl
theorem Ents.no {H : Heap} {es : List (Ent Int)} {clk : Nat} {seen : List (Int × Option (Int × Int))} (h : Ents H es clk seen) {n : Int} (hn : ∀ e ∈ es, e.key ≠ n) : getS seen n = none := by
  refine getS_none fun s hs e => ?_
  obtain ⟨j, hj, rfl⟩ := List.getElem_of_mem hs
  have hje : j < es.length := by rw [h.len]; exact hj
  have := (h.rel j _ _ (List.getElem?_eq_getElem hje) (List.getElem?_eq_getElem hj)).1
  exact hn _ (List.getElem_mem hje) (this.trans e)
theorem Ents.yes {H : Heap} {es : List (Ent Int)} {clk : Nat} {seen : List (Int × Option (Int × Int))} (h : Ents H es clk seen) (ho : (seen.map Prod.fst).Nodup) {n : Int} {j : Nat} {e : Ent Int} (hj : es[j]? = some e) (he : e.key = n) :
    ∃ s, seen[j]? = some s ∧ s.1 = n ∧ getS seen n = some s.2 ∧ RelE H e s := by
  have hlt : j < seen.length := by rw [← h.len]; exact (List.getElem?_eq_some_iff.1 hj).1
  have hs := List.getElem?_eq_getElem hlt
  have hr := h.rel j e _ hj hs
  exact ⟨_, hs, hr.1.symm.trans he, getS_at ho hs (hr.1.symm.trans he), hr⟩
theorem hty69 : mapTy Try.prog 69 3 72 (.int .i64) (.pointer none) := mapTy.mk' (by kernel_rfl) (by kernel_rfl) (by kernel_rfl)
section
variable {o : Oper} {xm xk : Operand} {H : Heap} {K : Value → Heap → Prop} {m clk : Nat} {n : Int} {es : List (Ent Int)} {seen : List (Int × Option (Int × Int))}
theorem RawV.lookS (ho : o.op = .lookup 69 xm xk false) (hm : (m, mapB kI es clk) ∈ H) (hE : Ents H es clk seen) (hs : (seen.map Prod.fst).Nodup)
    (h0 : (getS seen n = none ∨ getS seen n = some none) → K (.pointer none) H) (h2 : ∀ x c gs, getS seen n = some (some (x, c)) → (gs, rowS x c) ∈ H → K (ptr gs) H) : RawV Try.prog o [.map (some m), .int .i64 n] H K := by
  refine RawV.look (f := kI) ho hty69 (keysInt .i64) hm (fun hno => h0 (.inl (hE.no hno))) (fun j e hj he => ?_)
  obtain ⟨s, hsj, hs1, hg, hr⟩ := hE.yes hs hj he
  obtain ⟨_, hr⟩ := hr
  cases hq : s.2 with
  | none =>
    rw [hq] at hr hg
    rw [hr]; exact h0 (.inr hg)
  | some xc =>
    rw [hq] at hr hg
    obtain ⟨gs, h3, h4⟩ := hr
    rw [h3]; exact h2 _ _ _ hg h4
theorem RawV.look2S (ho : o.op = .lookup 69 xm xk true) (hm : (m, mapB kI es clk) ∈ H) (hE : Ents H es clk seen) (hs : (seen.map Prod.fst).Nodup)
    (h0 : getS seen n = none → K (.tuple ⟨[.pointer none, .bool false]⟩) H) (h1 : getS seen n = some none → K (.tuple ⟨[.pointer none, .bool true]⟩) H) (h2 : ∀ x c gs, getS seen n = some (some (x, c)) → (gs, rowS x c) ∈ H → K (.tuple ⟨[ptr gs, .bool true]⟩) H) : RawV Try.prog o [.map (some m), .int .i64 n] H K := by
  refine RawV.look2 (f := kI) ho hty69 (keysInt .i64) hm (fun hno => h0 (hE.no hno)) (fun j e hj he => ?_)
  obtain ⟨s, hsj, hs1, hg, hr⟩ := hE.yes hs hj he
  obtain ⟨_, hr⟩ := hr
  cases hq : s.2 with
  | none =>
    rw [hq] at hr hg
    rw [hr]; exact h1 hg
  | some xc =>
    rw [hq] at hr hg
    obtain ⟨gs, h3, h4⟩ := hr
    rw [h3]; exact h2 _ _ _ hg h4
end
theorem PB.get {t : TypeId} {a : Option Addr} {c : Nat} {H : Heap} {ad : List Nat} (h : PB t a c H ad) {j : Nat} {x : Nat} (hj : ad[j]? = some x) : ∃ r N, a = some ⟨r, 0, none⟩ ∧ (r, Blk.buf t (ptrs ad) N) ∈ H ∧ (Blk.buf t (ptrs ad) N).cell (0 + j * 1) = some (ptr x) := by
  rcases h with ⟨_, rfl, _⟩ | ⟨r, h1, h2, h3, h4⟩
  · simp at hj
  · refine ⟨r, _, h1, h4, ?_⟩
    show (ptrs ad)[0 + j * 1]? = _
    simp [hj]
/-- A variable of it. -/
theorem Mach.at {gm : Nat} {ids : List (Nat × Nat)} {M : Mc} {H : Heap} (h : Mach gm ids M H) {j : Nat} (hj : j < M.vs.length) : ∃ p v, ids[j]? = some p ∧ M.vs[j]? = some v ∧ VarAt H p v ∧ v.Ok M.there.length ∧ (ids.map Prod.fst)[j]? = some p.1 := by
  have h1 : j < ids.length := by rw [h.len]; exact hj
  have g1 := List.getElem?_eq_getElem h1
  have g2 := List.getElem?_eq_getElem hj
  exact ⟨_, _, g1, g2, h.var j _ _ g1 g2, h.ok _ (List.getElem_mem hj), by rw [List.getElem?_map, g1]; rfl⟩
theorem bool_at {l : List Bool} {j N : Nat} {b : Bool} (hj : l[j]? = some b) : (Blk.buf 4 (l.map Value.bool) N).cell (0 + j * 1) = some (.bool b) := by
  show (l.map Value.bool)[0 + j * 1]? = _
  simp [hj]
def Mc.read (M : Mc) (n v : Int) : Int × Int × Bool :=
  if 0 ≤ v ∧ v < (M.vs.length : Int) then (match (M.vs[v.toNat]?).bind fun x => getS x.seen n with | some (some xc) => (xc.1, xc.2, true) | _ => (0, 0, false)) else (0, 0, false)
def Mc.own (M : Mc) (v : Int) : Int := if 0 ≤ v ∧ v < (M.vs.length : Int) then ((M.vs[v.toNat]?).map Lv.own).getD 0 else 0
abbrev rdV (r : Int × Int × Bool) : Value := .tuple ⟨[.int .u64 r.1, .int .u64 r.2.1, .bool r.2.2]⟩
section
variable {K : Value → Heap → Prop} {gm : Nat} {ids : List (Nat × Nat)} {M : Mc} {H : Heap}
theorem c33 (hM : Mach gm ids M H) (n : Int) (h1 : 0 ≤ n ∧ n < (M.there.length : Int) → K (.bool true) H) (h0 : ¬ (0 ≤ n ∧ n < (M.there.length : Int)) → K (.bool false) H) : SCalls Try.prog 33 [ptr gm, .int .i64 n] H K := by
  obtain ⟨gt, nt, ct, la, lc, g1, g2, g3⟩ := hM.ex
  refine enter33 ?_
  by_cases hn : n < (M.there.length : Int)
  · have e : decide (n < (M.there.length : Int)) = true := decide_eq_true hn
    repeat' ((conv => whnf); (first
        | refine Look.mem g1 (fun _ _ _ => ?_)
        | refine New.mk (fun _ => ?_)
        | refine Look.at0 ?_
        | refine Cell.row ?_
        | refine Cell.buf ?_
        | refine Cells.row rfl ?_
        | refine Put.row rfl ?_
        | refine Put.buf rfl ?_
        | refine Look.at1 ?_
        | refine Look.at2 ?_
        | refine Look.at3 ?_
        | refine Look.at4 ?_
        | refine Look.at5 ?_
        | refine Look.at6 ?_
        | refine Look.at7 ?_
        | refine Look.at8 ?_
        | with_reducible refine Val.i64 (by omega) (by omega) ?_
        | with_reducible refine Val.u8 (by omega) (by omega) ?_
        | with_reducible refine Val.u32 (by omega) (by omega) ?_
        | with_reducible refine Val.u64 (by omega) (by omega) ?_
        | with_reducible refine Val.u8m ?_
        | with_reducible refine Val.u32m ?_
        | with_reducible refine Val.u64m ?_
        | with_reducible refine Val.shr8 ?_
        | with_reducible refine Val.shr16 (by decide) ?_
        | with_reducible refine Val.shr24 (by decide) ?_
        | with_reducible refine Val.raw ?_
        | refine Branch.not ?_
        | refine Branch.and ?_
        | refine Branch.or ?_
        | refine Branch.dt (by assumption) ?_
        | refine Branch.df (by assumption) ?_
        | refine Branch.dt rfl ?_
        | refine Branch.dt (by omega) ?_
        | refine Branch.df (by omega) ?_
        | refine Branch.t rfl ?_
        | refine Branch.f rfl ?_
        | refine Branch.t (by assumption) ?_
        | refine Branch.f (by assumption) ?_
        | refine Branch.d (fun _ => ?_) (fun _ => ?_)
        | refine Branch.mk (fun _ => ?_) (fun _ => ?_)
        | refine Need.mk (by first | omega | decide | rfl) ?_
        | refine Idx.nat (by omega) ?_
        | refine Idx.auto (by first | omega | decide) (by first | omega | decide) ?_
        | refine Cell.ro rfl ?_
        | refine SDraw.all (by kernel_rfl) ?_
        | refine Kept.k0 ?_
        | refine Kept.k1 ?_
        | refine Kept.k2 ?_
        | refine Kept.k3 ?_
        | refine Kept.k4 ?_))
    all_goals (conv => whnf)
    all_goals first
      | exact Keep.all (h0 fun e => absurd e.1 (by assumption))
      | (rw [e]; exact Keep.all (h1 ⟨by assumption, hn⟩))
  · have e : decide (n < (M.there.length : Int)) = false := decide_eq_false hn
    repeat' ((conv => whnf); (first
        | refine Look.mem g1 (fun _ _ _ => ?_)
        | refine New.mk (fun _ => ?_)
        | refine Look.at0 ?_
        | refine Cell.row ?_
        | refine Cell.buf ?_
        | refine Cells.row rfl ?_
        | refine Put.row rfl ?_
        | refine Put.buf rfl ?_
        | refine Look.at1 ?_
        | refine Look.at2 ?_
        | refine Look.at3 ?_
        | refine Look.at4 ?_
        | refine Look.at5 ?_
        | refine Look.at6 ?_
        | refine Look.at7 ?_
        | refine Look.at8 ?_
        | with_reducible refine Val.i64 (by omega) (by omega) ?_
        | with_reducible refine Val.u8 (by omega) (by omega) ?_
        | with_reducible refine Val.u32 (by omega) (by omega) ?_
        | with_reducible refine Val.u64 (by omega) (by omega) ?_
        | with_reducible refine Val.u8m ?_
        | with_reducible refine Val.u32m ?_
        | with_reducible refine Val.u64m ?_
        | with_reducible refine Val.shr8 ?_
        | with_reducible refine Val.shr16 (by decide) ?_
        | with_reducible refine Val.shr24 (by decide) ?_
        | with_reducible refine Val.raw ?_
        | refine Branch.not ?_
        | refine Branch.and ?_
        | refine Branch.or ?_
        | refine Branch.dt (by assumption) ?_
        | refine Branch.df (by assumption) ?_
        | refine Branch.dt rfl ?_
        | refine Branch.dt (by omega) ?_
        | refine Branch.df (by omega) ?_
        | refine Branch.t rfl ?_
        | refine Branch.f rfl ?_
        | refine Branch.t (by assumption) ?_
        | refine Branch.f (by assumption) ?_
        | refine Branch.d (fun _ => ?_) (fun _ => ?_)
        | refine Branch.mk (fun _ => ?_) (fun _ => ?_)
        | refine Need.mk (by first | omega | decide | rfl) ?_
        | refine Idx.nat (by omega) ?_
        | refine Idx.auto (by first | omega | decide) (by first | omega | decide) ?_
        | refine Cell.ro rfl ?_
        | refine SDraw.all (by kernel_rfl) ?_
        | refine Kept.k0 ?_
        | refine Kept.k1 ?_
        | refine Kept.k2 ?_
        | refine Kept.k3 ?_
        | refine Kept.k4 ?_))
    all_goals (conv => whnf)
    all_goals first
      | exact Keep.all (h0 fun e => hn e.2)
      | (rw [e]; exact Keep.all (h0 fun e => hn e.2))
theorem c29 (hM : Mach gm ids M H) (n : Int) (h1 : 0 ≤ n ∧ n < (M.vs.length : Int) → K (.bool true) H) (h0 : ¬ (0 ≤ n ∧ n < (M.vs.length : Int)) → K (.bool false) H) : SCalls Try.prog 29 [ptr gm, .int .i64 n] H K := by
  obtain ⟨gt, nt, ct, la, lc, g1, g2, g3⟩ := hM.ex
  rw [← hM.len] at h1 h0
  refine enter29 ?_
  by_cases hn : n < (ids.length : Int)
  · have e : decide (n < (ids.length : Int)) = true := decide_eq_true hn
    repeat' ((conv => whnf); (first
        | refine Look.mem g1 (fun _ _ _ => ?_)
        | refine New.mk (fun _ => ?_)
        | refine Look.at0 ?_
        | refine Cell.row ?_
        | refine Cell.buf ?_
        | refine Cells.row rfl ?_
        | refine Put.row rfl ?_
        | refine Put.buf rfl ?_
        | refine Look.at1 ?_
        | refine Look.at2 ?_
        | refine Look.at3 ?_
        | refine Look.at4 ?_
        | refine Look.at5 ?_
        | refine Look.at6 ?_
        | refine Look.at7 ?_
        | refine Look.at8 ?_
        | with_reducible refine Val.i64 (by omega) (by omega) ?_
        | with_reducible refine Val.u8 (by omega) (by omega) ?_
        | with_reducible refine Val.u32 (by omega) (by omega) ?_
        | with_reducible refine Val.u64 (by omega) (by omega) ?_
        | with_reducible refine Val.u8m ?_
        | with_reducible refine Val.u32m ?_
        | with_reducible refine Val.u64m ?_
        | with_reducible refine Val.shr8 ?_
        | with_reducible refine Val.shr16 (by decide) ?_
        | with_reducible refine Val.shr24 (by decide) ?_
        | with_reducible refine Val.raw ?_
        | refine Branch.not ?_
        | refine Branch.and ?_
        | refine Branch.or ?_
        | refine Branch.dt (by assumption) ?_
        | refine Branch.df (by assumption) ?_
        | refine Branch.dt rfl ?_
        | refine Branch.dt (by omega) ?_
        | refine Branch.df (by omega) ?_
        | refine Branch.t rfl ?_
        | refine Branch.f rfl ?_
        | refine Branch.t (by assumption) ?_
        | refine Branch.f (by assumption) ?_
        | refine Branch.d (fun _ => ?_) (fun _ => ?_)
        | refine Branch.mk (fun _ => ?_) (fun _ => ?_)
        | refine Need.mk (by first | omega | decide | rfl) ?_
        | refine Idx.nat (by omega) ?_
        | refine Idx.auto (by first | omega | decide) (by first | omega | decide) ?_
        | refine Cell.ro rfl ?_
        | refine SDraw.all (by kernel_rfl) ?_
        | refine Kept.k0 ?_
        | refine Kept.k1 ?_
        | refine Kept.k2 ?_
        | refine Kept.k3 ?_
        | refine Kept.k4 ?_))
    all_goals (conv => whnf)
    all_goals first
      | exact Keep.all (h0 fun e => absurd e.1 (by assumption))
      | (rw [e]; exact Keep.all (h1 ⟨by assumption, hn⟩))
  · have e : decide (n < (ids.length : Int)) = false := decide_eq_false hn
    repeat' ((conv => whnf); (first
        | refine Look.mem g1 (fun _ _ _ => ?_)
        | refine New.mk (fun _ => ?_)
        | refine Look.at0 ?_
        | refine Cell.row ?_
        | refine Cell.buf ?_
        | refine Cells.row rfl ?_
        | refine Put.row rfl ?_
        | refine Put.buf rfl ?_
        | refine Look.at1 ?_
        | refine Look.at2 ?_
        | refine Look.at3 ?_
        | refine Look.at4 ?_
        | refine Look.at5 ?_
        | refine Look.at6 ?_
        | refine Look.at7 ?_
        | refine Look.at8 ?_
        | with_reducible refine Val.i64 (by omega) (by omega) ?_
        | with_reducible refine Val.u8 (by omega) (by omega) ?_
        | with_reducible refine Val.u32 (by omega) (by omega) ?_
        | with_reducible refine Val.u64 (by omega) (by omega) ?_
        | with_reducible refine Val.u8m ?_
        | with_reducible refine Val.u32m ?_
        | with_reducible refine Val.u64m ?_
        | with_reducible refine Val.shr8 ?_
        | with_reducible refine Val.shr16 (by decide) ?_
        | with_reducible refine Val.shr24 (by decide) ?_
        | with_reducible refine Val.raw ?_
        | refine Branch.not ?_
        | refine Branch.and ?_
        | refine Branch.or ?_
        | refine Branch.dt (by assumption) ?_
        | refine Branch.df (by assumption) ?_
        | refine Branch.dt rfl ?_
        | refine Branch.dt (by omega) ?_
        | refine Branch.df (by omega) ?_
        | refine Branch.t rfl ?_
        | refine Branch.f rfl ?_
        | refine Branch.t (by assumption) ?_
        | refine Branch.f (by assumption) ?_
        | refine Branch.d (fun _ => ?_) (fun _ => ?_)
        | refine Branch.mk (fun _ => ?_) (fun _ => ?_)
        | refine Need.mk (by first | omega | decide | rfl) ?_
        | refine Idx.nat (by omega) ?_
        | refine Idx.auto (by first | omega | decide) (by first | omega | decide) ?_
        | refine Cell.ro rfl ?_
        | refine SDraw.all (by kernel_rfl) ?_
        | refine Kept.k0 ?_
        | refine Kept.k1 ?_
        | refine Kept.k2 ?_
        | refine Kept.k3 ?_
        | refine Kept.k4 ?_))
    all_goals (conv => whnf)
    all_goals first
      | exact Keep.all (h0 fun e => hn e.2)
      | (rw [e]; exact Keep.all (h0 fun e => hn e.2))
theorem c19 (hM : Mach gm ids M H) (h : K (.int .u64 M.cyc) H) : SCalls Try.prog 19 [ptr gm] H K := by
  obtain ⟨gt, nt, ct, la, lc, g1, g2, g3⟩ := hM.ex
  refine enter19 ?_
  repeat' ((conv => whnf); (first
      | refine Look.mem g1 (fun _ _ _ => ?_)
      | refine New.mk (fun _ => ?_)
      | refine Look.at0 ?_
      | refine Cell.row ?_
      | refine Cell.buf ?_
      | refine Cells.row rfl ?_
      | refine Put.row rfl ?_
      | refine Put.buf rfl ?_
      | refine Look.at1 ?_
      | refine Look.at2 ?_
      | refine Look.at3 ?_
      | refine Look.at4 ?_
      | refine Look.at5 ?_
      | refine Look.at6 ?_
      | refine Look.at7 ?_
      | refine Look.at8 ?_
      | with_reducible refine Val.i64 (by omega) (by omega) ?_
      | with_reducible refine Val.u8 (by omega) (by omega) ?_
      | with_reducible refine Val.u32 (by omega) (by omega) ?_
      | with_reducible refine Val.u64 (by omega) (by omega) ?_
      | with_reducible refine Val.u8m ?_
      | with_reducible refine Val.u32m ?_
      | with_reducible refine Val.u64m ?_
      | with_reducible refine Val.shr8 ?_
      | with_reducible refine Val.shr16 (by decide) ?_
      | with_reducible refine Val.shr24 (by decide) ?_
      | with_reducible refine Val.raw ?_
      | refine Branch.not ?_
      | refine Branch.and ?_
      | refine Branch.or ?_
      | refine Branch.dt (by assumption) ?_
      | refine Branch.df (by assumption) ?_
      | refine Branch.dt rfl ?_
      | refine Branch.dt (by omega) ?_
      | refine Branch.df (by omega) ?_
      | refine Branch.t rfl ?_
      | refine Branch.f rfl ?_
      | refine Branch.t (by assumption) ?_
      | refine Branch.f (by assumption) ?_
      | refine Branch.d (fun _ => ?_) (fun _ => ?_)
      | refine Branch.mk (fun _ => ?_) (fun _ => ?_)
      | refine Need.mk (by first | omega | decide | rfl) ?_
      | refine Idx.nat (by omega) ?_
      | refine Idx.auto (by first | omega | decide) (by first | omega | decide) ?_
      | refine Cell.ro rfl ?_
      | refine SDraw.all (by kernel_rfl) ?_
      | refine Kept.k0 ?_
      | refine Kept.k1 ?_
      | refine Kept.k2 ?_
      | refine Kept.k3 ?_
      | refine Kept.k4 ?_))
  all_goals (conv => whnf)
  exact Keep.all h
theorem c15 (hM : Mach gm ids M H) (v : Int) (h : K (.int .u64 (M.own v)) H) : SCalls Try.prog 15 [ptr gm, .int .i64 v] H K := by
  have hM0 := hM
  obtain ⟨gt, nt, ct, la, lc, g1, g2, g3⟩ := hM.ex
  refine enter15 ?_
  unfold Mc.own at h
  by_cases hv : 0 ≤ v ∧ v < (M.vs.length : Int)
  · rw [if_pos hv] at h
    obtain ⟨p, x, hp, hx, ⟨hrow, _⟩, hok, hp1⟩ := hM.at (j := v.toNat) (by omega)
    obtain ⟨r, N, rfl, hb, hc⟩ := g3.get hp1
    rw [hx] at h
    have hl := hM.len
    repeat' ((conv => whnf); (first
        | refine c29 hM0 v (fun _ => ?_) (fun e => absurd hv e)
        | refine Look.mem g1 (fun _ _ _ => ?_)
        | refine Look.cell hb hc ?_
        | refine Look.mem hrow (fun _ _ _ => ?_)
        | refine Idx.of v.toNat (by omega) (by omega) ?_
        | refine New.mk (fun _ => ?_)
        | refine Look.at0 ?_
        | refine Cell.row ?_
        | refine Cell.buf ?_
        | refine Cells.row rfl ?_
        | refine Put.row rfl ?_
        | refine Put.buf rfl ?_
        | refine Look.at1 ?_
        | refine Look.at2 ?_
        | refine Look.at3 ?_
        | refine Look.at4 ?_
        | refine Look.at5 ?_
        | refine Look.at6 ?_
        | refine Look.at7 ?_
        | refine Look.at8 ?_
        | with_reducible refine Val.i64 (by omega) (by omega) ?_
        | with_reducible refine Val.u8 (by omega) (by omega) ?_
        | with_reducible refine Val.u32 (by omega) (by omega) ?_
        | with_reducible refine Val.u64 (by omega) (by omega) ?_
        | with_reducible refine Val.u8m ?_
        | with_reducible refine Val.u32m ?_
        | with_reducible refine Val.u64m ?_
        | with_reducible refine Val.shr8 ?_
        | with_reducible refine Val.shr16 (by decide) ?_
        | with_reducible refine Val.shr24 (by decide) ?_
        | with_reducible refine Val.raw ?_
        | refine Branch.not ?_
        | refine Branch.and ?_
        | refine Branch.or ?_
        | refine Branch.dt (by assumption) ?_
        | refine Branch.df (by assumption) ?_
        | refine Branch.dt rfl ?_
        | refine Branch.dt (by omega) ?_
        | refine Branch.df (by omega) ?_
        | refine Branch.t rfl ?_
        | refine Branch.f rfl ?_
        | refine Branch.t (by assumption) ?_
        | refine Branch.f (by assumption) ?_
        | refine Branch.d (fun _ => ?_) (fun _ => ?_)
        | refine Branch.mk (fun _ => ?_) (fun _ => ?_)
        | refine Need.mk (by first | omega | decide | rfl) ?_
        | refine Idx.nat (by omega) ?_
        | refine Idx.auto (by first | omega | decide) (by first | omega | decide) ?_
        | refine Cell.ro rfl ?_
        | refine SDraw.all (by kernel_rfl) ?_
        | refine Kept.k0 ?_
        | refine Kept.k1 ?_
        | refine Kept.k2 ?_
        | refine Kept.k3 ?_
        | refine Kept.k4 ?_))
    all_goals (conv => whnf)
    exact Keep.all h
  · rw [if_neg hv] at h
    repeat' ((conv => whnf); (first
        | refine c29 hM0 v (fun e => absurd e hv) (fun _ => ?_)
        | refine New.mk (fun _ => ?_)
        | refine Look.at0 ?_
        | refine Cell.row ?_
        | refine Cell.buf ?_
        | refine Cells.row rfl ?_
        | refine Put.row rfl ?_
        | refine Put.buf rfl ?_
        | refine Look.at1 ?_
        | refine Look.at2 ?_
        | refine Look.at3 ?_
        | refine Look.at4 ?_
        | refine Look.at5 ?_
        | refine Look.at6 ?_
        | refine Look.at7 ?_
        | refine Look.at8 ?_
        | with_reducible refine Val.i64 (by omega) (by omega) ?_
        | with_reducible refine Val.u8 (by omega) (by omega) ?_
        | with_reducible refine Val.u32 (by omega) (by omega) ?_
        | with_reducible refine Val.u64 (by omega) (by omega) ?_
        | with_reducible refine Val.u8m ?_
        | with_reducible refine Val.u32m ?_
        | with_reducible refine Val.u64m ?_
        | with_reducible refine Val.shr8 ?_
        | with_reducible refine Val.shr16 (by decide) ?_
        | with_reducible refine Val.shr24 (by decide) ?_
        | with_reducible refine Val.raw ?_
        | refine Branch.not ?_
        | refine Branch.and ?_
        | refine Branch.or ?_
        | refine Branch.dt (by assumption) ?_
        | refine Branch.df (by assumption) ?_
        | refine Branch.dt rfl ?_
        | refine Branch.dt (by omega) ?_
        | refine Branch.df (by omega) ?_
        | refine Branch.t rfl ?_
        | refine Branch.f rfl ?_
        | refine Branch.t (by assumption) ?_
        | refine Branch.f (by assumption) ?_
        | refine Branch.d (fun _ => ?_) (fun _ => ?_)
        | refine Branch.mk (fun _ => ?_) (fun _ => ?_)
        | refine Need.mk (by first | omega | decide | rfl) ?_
        | refine Idx.nat (by omega) ?_
        | refine Idx.auto (by first | omega | decide) (by first | omega | decide) ?_
        | refine Cell.ro rfl ?_
        | refine SDraw.all (by kernel_rfl) ?_
        | refine Kept.k0 ?_
        | refine Kept.k1 ?_
        | refine Kept.k2 ?_
        | refine Kept.k3 ?_
        | refine Kept.k4 ?_))
    all_goals (conv => whnf)
    exact Keep.all h
theorem c14 (hM : Mach gm ids M H) (n v : Int) (h : K (rdV (M.read n v)) H) : SCalls Try.prog 14 [ptr gm, .int .i64 n, .int .i64 v] H K := by
  have hM0 := hM
  obtain ⟨gt, nt, ct, la, lc, g1, g2, g3⟩ := hM.ex
  refine enter14 ?_
  unfold Mc.read at h
  by_cases hv : 0 ≤ v ∧ v < (M.vs.length : Int)
  · rw [if_pos hv] at h
    obtain ⟨p, x, hp, hx, ⟨hrow, es, clk, hmap, hE⟩, hok, hp1⟩ := hM.at (j := v.toNat) (by omega)
    obtain ⟨r, N, rfl, hb, hc⟩ := g3.get hp1
    rw [hx] at h
    have hl := hM.len
    repeat' ((conv => whnf); (first
        | refine c29 hM0 v (fun _ => ?_) (fun e => absurd hv e)
        | refine Look.mem g1 (fun _ _ _ => ?_)
        | refine Look.cell hb hc ?_
        | refine Look.mem hrow (fun _ _ _ => ?_)
        | refine Idx.of v.toNat (by omega) (by omega) ?_
        | refine RawV.lookS rfl hmap hE hok.once (fun hg => ?_) (fun xv cv gs hg hgs => ?_)
        | refine Look.mem hgs (fun _ _ _ => ?_)
        | refine New.mk (fun _ => ?_)
        | refine Look.at0 ?_
        | refine Cell.row ?_
        | refine Cell.buf ?_
        | refine Cells.row rfl ?_
        | refine Put.row rfl ?_
        | refine Put.buf rfl ?_
        | refine Look.at1 ?_
        | refine Look.at2 ?_
        | refine Look.at3 ?_
        | refine Look.at4 ?_
        | refine Look.at5 ?_
        | refine Look.at6 ?_
        | refine Look.at7 ?_
        | refine Look.at8 ?_
        | with_reducible refine Val.i64 (by omega) (by omega) ?_
        | with_reducible refine Val.u8 (by omega) (by omega) ?_
        | with_reducible refine Val.u32 (by omega) (by omega) ?_
        | with_reducible refine Val.u64 (by omega) (by omega) ?_
        | with_reducible refine Val.u8m ?_
        | with_reducible refine Val.u32m ?_
        | with_reducible refine Val.u64m ?_
        | with_reducible refine Val.shr8 ?_
        | with_reducible refine Val.shr16 (by decide) ?_
        | with_reducible refine Val.shr24 (by decide) ?_
        | with_reducible refine Val.raw ?_
        | refine Branch.not ?_
        | refine Branch.and ?_
        | refine Branch.or ?_
        | refine Branch.dt (by assumption) ?_
        | refine Branch.df (by assumption) ?_
        | refine Branch.dt rfl ?_
        | refine Branch.dt (by omega) ?_
        | refine Branch.df (by omega) ?_
        | refine Branch.t rfl ?_
        | refine Branch.f rfl ?_
        | refine Branch.t (by assumption) ?_
        | refine Branch.f (by assumption) ?_
        | refine Branch.d (fun _ => ?_) (fun _ => ?_)
        | refine Branch.mk (fun _ => ?_) (fun _ => ?_)
        | refine Need.mk (by first | omega | decide | rfl) ?_
        | refine Idx.nat (by omega) ?_
        | refine Idx.auto (by first | omega | decide) (by first | omega | decide) ?_
        | refine Cell.ro rfl ?_
        | refine SDraw.all (by kernel_rfl) ?_
        | refine Kept.k0 ?_
        | refine Kept.k1 ?_
        | refine Kept.k2 ?_
        | refine Kept.k3 ?_
        | refine Kept.k4 ?_))
    all_goals (conv => whnf)
    · simp only [Option.bind_some] at h
      rcases hg with hg | hg <;> rw [hg] at h <;> exact Keep.all h
    · simp only [Option.bind_some] at h
      rw [hg] at h
      exact Keep.all h
  · rw [if_neg hv] at h
    repeat' ((conv => whnf); (first
        | refine c29 hM0 v (fun e => absurd e hv) (fun _ => ?_)
        | refine New.mk (fun _ => ?_)
        | refine Look.at0 ?_
        | refine Cell.row ?_
        | refine Cell.buf ?_
        | refine Cells.row rfl ?_
        | refine Put.row rfl ?_
        | refine Put.buf rfl ?_
        | refine Look.at1 ?_
        | refine Look.at2 ?_
        | refine Look.at3 ?_
        | refine Look.at4 ?_
        | refine Look.at5 ?_
        | refine Look.at6 ?_
        | refine Look.at7 ?_
        | refine Look.at8 ?_
        | with_reducible refine Val.i64 (by omega) (by omega) ?_
        | with_reducible refine Val.u8 (by omega) (by omega) ?_
        | with_reducible refine Val.u32 (by omega) (by omega) ?_
        | with_reducible refine Val.u64 (by omega) (by omega) ?_
        | with_reducible refine Val.u8m ?_
        | with_reducible refine Val.u32m ?_
        | with_reducible refine Val.u64m ?_
        | with_reducible refine Val.shr8 ?_
        | with_reducible refine Val.shr16 (by decide) ?_
        | with_reducible refine Val.shr24 (by decide) ?_
        | with_reducible refine Val.raw ?_
        | refine Branch.not ?_
        | refine Branch.and ?_
        | refine Branch.or ?_
        | refine Branch.dt (by assumption) ?_
        | refine Branch.df (by assumption) ?_
        | refine Branch.dt rfl ?_
        | refine Branch.dt (by omega) ?_
        | refine Branch.df (by omega) ?_
        | refine Branch.t rfl ?_
        | refine Branch.f rfl ?_
        | refine Branch.t (by assumption) ?_
        | refine Branch.f (by assumption) ?_
        | refine Branch.d (fun _ => ?_) (fun _ => ?_)
        | refine Branch.mk (fun _ => ?_) (fun _ => ?_)
        | refine Need.mk (by first | omega | decide | rfl) ?_
        | refine Idx.nat (by omega) ?_
        | refine Idx.auto (by first | omega | decide) (by first | omega | decide) ?_
        | refine Cell.ro rfl ?_
        | refine SDraw.all (by kernel_rfl) ?_
        | refine Kept.k0 ?_
        | refine Kept.k1 ?_
        | refine Kept.k2 ?_
        | refine Kept.k3 ?_
        | refine Kept.k4 ?_))
    all_goals (conv => whnf)
    exact Keep.all h
end
end Go.Proofs.Ytjnlpaojaikjaaa

/- Layer 26: an image's writers: by walks. -/
set_option linter.unusedVariables false
set_option linter.unusedSimpArgs false
set_option maxRecDepth 100000
set_option maxHeartbeats 4000000
namespace Go.Proofs.Ytjnlpaojaikjaaa
open Sx
theorem nodup_ne {α : Type} {l : List α} (h : l.Nodup) {i j : Nat} {a b : α} (hi : l[i]? = some a) (hj : l[j]? = some b) (hij : i ≠ j) : a ≠ b := by
  obtain ⟨g1, rfl⟩ := List.getElem?_eq_some_iff.1 hi
  obtain ⟨g3, rfl⟩ := List.getElem?_eq_some_iff.1 hj
  rcases Nat.lt_or_gt_of_ne hij with hlt | hlt
  · exact List.pairwise_iff_getElem.1 h i j g1 g3 hlt
  · exact (List.pairwise_iff_getElem.1 h j i g3 g1 hlt).symm
theorem getS_no {l : List (Int × Option (Int × Int))} {n : Int} (h : getS l n = none) : ∀ s ∈ l, s.1 ≠ n := by
  intro s hs e
  unfold getS at h
  rw [Option.map_eq_none_iff, List.find?_eq_none] at h
  exact h s hs (decide_eq_true e)
/-- What a consumer saw is changed. -/
def setS (n : Int) (o : Option (Int × Int)) (l : List (Int × Option (Int × Int))) : List (Int × Option (Int × Int)) := l.map fun s => if s.1 = n then (s.1, o) else s
theorem setS_fst (n : Int) (o : Option (Int × Int)) (l : List (Int × Option (Int × Int))) : (setS n o l).map Prod.fst = l.map Prod.fst := by
  unfold setS
  rw [List.map_map]
  refine List.map_congr_left fun s _ => ?_
  show (if s.1 = n then (s.1, o) else s).1 = s.1
  split <;> rfl
theorem setS_no {n : Int} {o : Option (Int × Int)} {l : List (Int × Option (Int × Int))} (h : ∀ s ∈ l, s.1 ≠ n) : setS n o l = l := by
  unfold setS
  conv => rhs; rw [← List.map_id l]
  exact List.map_congr_left fun s hs => by rw [if_neg (h s hs)]; rfl
theorem setS_at {n : Int} {o : Option (Int × Int)} {l : List (Int × Option (Int × Int))} (ho : (l.map Prod.fst).Nodup) {i : Nat} {s : Int × Option (Int × Int)} (hi : l[i]? = some s) (hs : s.1 = n) : setS n o l = l.set i (n, o) := by
  refine List.ext_getElem? fun k => ?_
  unfold setS
  rw [List.getElem?_map, List.getElem?_set]
  by_cases hk : i = k
  · subst hk
    rw [if_pos rfl, if_pos (List.getElem?_eq_some_iff.1 hi).1, hi]
    simp [hs]
  · rw [if_neg hk]
    cases hq : l[k]? with
    | none => rfl
    | some z =>
      have hne : s.1 ≠ z.1 := nodup_ne ho (i := i) (j := k) (by rw [List.getElem?_map, hi]; rfl) (by rw [List.getElem?_map, hq]; rfl) hk
      simp only [Option.map_some]
      rw [if_neg (fun e => hne (hs.trans e.symm))]
section
variable {gm : Nat} {ids : List (Nat × Nat)} {M : Mc} {H H' : Heap}
theorem Mach.setVar (hM : Mach gm ids M H) {j : Nat} {p : Nat × Nat} {v : Lv} (hp : ids[j]? = some p) (hv : M.vs[j]? = some v) {x : Int} (h : PutH H p.1 (rowV v.prod v.own p.2) (rowV v.prod x p.2) H') :
    Mach gm ids { M with vs := M.vs.set j { v with own := x } } H' := by
  obtain ⟨⟨gt, nt, ct, la, lc, h1, h2, h3⟩, hgn, hmn, hl, hvv, hok, hfew⟩ := hM
  have hs : ∀ q ∈ H, kd q.2 ≠ 71 → q ∈ H' := fun q hq hk => h.blk hq (ne_kd hk)
  have hjl := (List.getElem?_eq_some_iff.1 hv).1
  refine ⟨⟨gt, nt, ct, la, lc, hs _ h1 (by show 67 ≠ 71; decide), hs _ h2 (by show 1004 ≠ 71; decide), h3.keep fun q hq hk => hs q hq (by rw [hk]; decide)⟩, hgn, hmn, by rw [hl]; simp, fun k q w hq hw => ?_, fun w hw => ?_, by simpa using hfew⟩
  · by_cases hk : j = k
    · subst hk
      rw [hp] at hq; injection hq with hq; subst hq
      rw [List.getElem?_set, if_pos rfl, if_pos hjl] at hw; injection hw with hw; subst hw
      obtain ⟨g1, es, clk, g2, g3⟩ := hvv j p v hp hv
      exact ⟨h.new, es, clk, hs _ g2 (by show 2000 ≠ 71; decide), g3.mono fun q hq hk => hs q hq (by rw [hk]; decide)⟩
    · rw [List.getElem?_set, if_neg hk] at hw
      refine (hvv k q w hq hw).keep (fun z hz hz1 _ => h.id hz ?_) (fun z hz _ hk => hs z hz (by rw [hk]; decide)) (fun z hz hk => hs z hz (by rw [hk]; decide))
      rw [hz1]
      exact nodup_ne hgn (i := k) (j := j) (by rw [List.getElem?_map, hq]; rfl) (by rw [List.getElem?_map, hp]; rfl) (Ne.symm hk)
  · rcases List.mem_or_eq_of_mem_set hw with hw | rfl
    · exact hok w hw
    · obtain ⟨o1, o2, o3⟩ := hok v (List.mem_of_getElem? hv)
      exact ⟨o1, o2, o3⟩
theorem Mach.setSeen (hM : Mach gm ids M H) {j : Nat} {p : Nat × Nat} {v : Lv} (hp : ids[j]? = some p) (hv : M.vs[j]? = some v) {es : List (Ent Int)} {clk : Nat} (hE : Ents H es clk v.seen) {i : Nat} {e : Ent Int} (he : es[i]? = some e) {n : Int} (hn : e.key = n) {u : Value} {o : Option (Int × Int)}
    (hr : RelE H ⟨n, u, e.born⟩ (n, o)) (h : PutH H p.2 (mapB kI es clk) (mapB kI (es.set i ⟨n, u, e.born⟩) clk) H') :
    Mach gm ids { M with vs := M.vs.set j { v with seen := setS n o v.seen } } H' := by
  obtain ⟨⟨gt, nt, ct, la, lc, h1, h2, h3⟩, hgn, hmn, hl, hvv, hok, hfew⟩ := hM
  have hs : ∀ q ∈ H, kd q.2 ≠ 2000 → q ∈ H' := fun q hq hk => h.blk hq (ne_kd hk)
  have hjl := (List.getElem?_eq_some_iff.1 hv).1
  have hov := hok v (List.mem_of_getElem? hv)
  refine ⟨⟨gt, nt, ct, la, lc, hs _ h1 (by show 67 ≠ 2000; decide), hs _ h2 (by show 1004 ≠ 2000; decide), h3.keep fun q hq hk => hs q hq (by rw [hk]; decide)⟩, hgn, hmn, by rw [hl]; simp, fun k q w hq hw => ?_, fun w hw => ?_, by simpa using hfew⟩
  · by_cases hk : j = k
    · subst hk
      rw [hp] at hq; injection hq with hq; subst hq
      rw [List.getElem?_set, if_pos rfl, if_pos hjl] at hw; injection hw with hw; subst hw
      obtain ⟨g1, _⟩ := hvv j p v hp hv
      refine ⟨hs _ g1 (by show 71 ≠ 2000; decide), _, clk, h.new, ?_⟩
      obtain ⟨s, hsi, hs1, _, _⟩ := hE.yes hov.once he hn
      have hE' := hE.mono (H' := H') fun q hq hk => hs q hq (by rw [hk]; decide)
      have hil := (List.getElem?_eq_some_iff.1 he).1
      refine ⟨fun x hx => ?_, ?_, ?_, fun k' e' s' he' hs' => ?_⟩
      · rcases List.mem_or_eq_of_mem_set hx with hx | rfl
        · exact hE.born x hx
        · exact hE.born e (List.mem_of_getElem? he)
      · have : (es.set i ⟨n, u, e.born⟩).map Ent.born = es.map Ent.born := map_set_same he rfl
        rw [this]; exact hE.once
      · show _ = (setS n o v.seen).length
        rw [List.length_set, hE.len]; unfold setS; rw [List.length_map]
      · have hs' : (setS n o v.seen)[k']? = some s' := hs'
        rw [setS_at hov.once hsi hs1, List.getElem?_set] at hs'
        rw [List.getElem?_set] at he'
        by_cases hk' : i = k'
        · subst hk'
          rw [if_pos rfl, if_pos hil] at he'
          rw [if_pos rfl, if_pos (by rw [← hE.len]; exact hil)] at hs'
          injection he' with he'; injection hs' with hs'
          subst he'; subst hs'
          exact hr.mono fun q hq hk => hs q hq (by rw [hk]; decide)
        · rw [if_neg hk'] at he' hs'
          exact hE'.rel k' e' s' he' hs'
    · rw [List.getElem?_set, if_neg hk] at hw
      refine (hvv k q w hq hw).keep (fun z hz _ hk => hs z hz (by rw [hk]; decide)) (fun z hz hz1 _ => h.id hz ?_) (fun z hz hk => hs z hz (by rw [hk]; decide))
      rw [hz1]
      exact nodup_ne hmn (i := k) (j := j) (by rw [List.getElem?_map, hq]; rfl) (by rw [List.getElem?_map, hp]; rfl) (Ne.symm hk)
  · rcases List.mem_or_eq_of_mem_set hw with hw | rfl
    · exact hok w hw
    · obtain ⟨o1, o2, o3⟩ := hov
      refine ⟨o1, fun s hs => ?_, by show ((setS n o v.seen).map Prod.fst).Nodup; rw [setS_fst]; exact o3⟩
      have : s.1 ∈ (setS n o v.seen).map Prod.fst := List.mem_map_of_mem hs
      rw [setS_fst] at this
      obtain ⟨s', hs', e⟩ := List.mem_map.1 this
      rw [← e]; exact o2 s' hs'
theorem Mach.setThere (hM : Mach gm ids M H) {gt nt ct lc j : Nat} {la : Option Addr} {b : Bool} (h1 : (gm, rowM gt M.there.length ct la ids.length lc M.cyc) ∈ H) (h3 : PB 68 la lc H (ids.map Prod.fst))
    (h : PutH H gt (.buf 4 (M.there.map Value.bool) nt) (.buf 4 ((M.there.set j b).map Value.bool) nt) H') : Mach gm ids { M with there := M.there.set j b } H' := by
  have hs : ∀ q ∈ H, kd q.2 ≠ 1004 → q ∈ H' := fun q hq hk => h.blk hq (ne_kd hk)
  have hl : (M.there.set j b).length = M.there.length := List.length_set ..
  refine ⟨⟨gt, nt, ct, la, lc, by show (gm, rowM gt (M.there.set j b).length ct la ids.length lc M.cyc) ∈ H'; rw [hl]; exact hs _ h1 (by show 67 ≠ 1004; decide), h.new, h3.keep fun q hq hk => hs q hq (by rw [hk]; decide)⟩, hM.gn, hM.mn, hM.len,
    fun k q w hq hw => (hM.var k q w hq hw).keep (fun z hz _ hk => hs z hz (by rw [hk]; decide)) (fun z hz _ hk => hs z hz (by rw [hk]; decide)) (fun z hz hk => hs z hz (by rw [hk]; decide)), fun w hw => by show w.Ok (M.there.set j b).length; rw [hl]; exact hM.ok w hw, by show (M.there.set j b).length ≤ 127 ∧ _; rw [hl]; exact hM.few⟩
theorem Mach.setCyc (hM : Mach gm ids M H) {gt nt ct lc : Nat} {la : Option Addr} {x : Int} (h2 : (gt, Blk.buf 4 (M.there.map Value.bool) nt) ∈ H) (h3 : PB 68 la lc H (ids.map Prod.fst))
    (h : PutH H gm (rowM gt M.there.length ct la ids.length lc M.cyc) (rowM gt M.there.length ct la ids.length lc x) H') : Mach gm ids { M with cyc := x } H' := by
  have hs : ∀ q ∈ H, kd q.2 ≠ 67 → q ∈ H' := fun q hq hk => h.blk hq (ne_kd hk)
  exact ⟨⟨gt, nt, ct, la, lc, h.new, hs _ h2 (by show 1004 ≠ 67; decide), h3.keep fun q hq hk => hs q hq (by rw [hk]; decide)⟩, hM.gn, hM.mn, hM.len,
    fun k q w hq hw => (hM.var k q w hq hw).keep (fun z hz _ hk => hs z hz (by rw [hk]; decide)) (fun z hz _ hk => hs z hz (by rw [hk]; decide)) (fun z hz hk => hs z hz (by rw [hk]; decide)), hM.ok, hM.few⟩
end
section
variable {K : Value → Heap → Prop} {gm : Nat} {ids : List (Nat × Nat)} {M : Mc} {H : Heap}
theorem c28 (hM : Mach gm ids M H) (n : Int) (b : Bool) (h1 : ¬ (0 ≤ n ∧ n < (M.there.length : Int)) → K (.int .i64 1) H) (h6 : M.there[n.toNat]? = some b → 0 ≤ n → K (.int .i64 6) H)
    (h0 : 0 ≤ n → M.there[n.toNat]? = some (!b) → ∀ H', Mach gm ids { M with there := M.there.set n.toNat b } H' → K (.int .i64 0) H') : SCalls Try.prog 28 [ptr gm, .int .i64 n, .bool b] H K := by
  have hM0 := hM
  obtain ⟨gt, nt, ct, la, lc, g1, g2, g3⟩ := hM.ex
  refine enter28 ?_
  by_cases hn : 0 ≤ n ∧ n < (M.there.length : Int)
  · obtain ⟨t, ht, _, _⟩ := list_at (L := M.there) (j := n.toNat) (by omega)
    have hc := bool_at (N := nt) ht
    have hlt : n.toNat < M.there.length := by omega
    have hput : PutOk (.buf 4 (M.there.map Value.bool) nt) (0 + n.toNat * 1) [.bool b] (.buf 4 ((M.there.set n.toNat b).map Value.bool) nt) := PutOk.buf (by simp; omega) (by rw [put_set (by simpa using hlt), List.map_set])
    by_cases htb : t = b
    · subst htb
      repeat' ((conv => whnf); (first
          | refine c33 hM0 n (fun _ => ?_) (fun e => absurd hn e)
          | refine Look.mem g1 (fun _ _ _ => ?_)
          | refine Idx.of n.toNat (by omega) (by omega) ?_
          | refine Look.cell g2 hc ?_
          | refine Branch.t (by rw [beq_self_eq_true]) ?_
          | refine New.mk (fun _ => ?_)
          | refine Look.at0 ?_
          | refine Cell.row ?_
          | refine Cell.buf ?_
          | refine Cells.row rfl ?_
          | refine Put.row rfl ?_
          | refine Put.buf rfl ?_
          | refine Look.at1 ?_
          | refine Look.at2 ?_
          | refine Look.at3 ?_
          | refine Look.at4 ?_
          | refine Look.at5 ?_
          | refine Look.at6 ?_
          | refine Look.at7 ?_
          | refine Look.at8 ?_
          | with_reducible refine Val.i64 (by omega) (by omega) ?_
          | with_reducible refine Val.u8 (by omega) (by omega) ?_
          | with_reducible refine Val.u32 (by omega) (by omega) ?_
          | with_reducible refine Val.u64 (by omega) (by omega) ?_
          | with_reducible refine Val.u8m ?_
          | with_reducible refine Val.u32m ?_
          | with_reducible refine Val.u64m ?_
          | with_reducible refine Val.shr8 ?_
          | with_reducible refine Val.shr16 (by decide) ?_
          | with_reducible refine Val.shr24 (by decide) ?_
          | with_reducible refine Val.raw ?_
          | refine Branch.not ?_
          | refine Branch.and ?_
          | refine Branch.or ?_
          | refine Branch.dt (by assumption) ?_
          | refine Branch.df (by assumption) ?_
          | refine Branch.dt rfl ?_
          | refine Branch.dt (by omega) ?_
          | refine Branch.df (by omega) ?_
          | refine Branch.t rfl ?_
          | refine Branch.f rfl ?_
          | refine Branch.t (by assumption) ?_
          | refine Branch.f (by assumption) ?_
          | refine Branch.d (fun _ => ?_) (fun _ => ?_)
          | refine Branch.mk (fun _ => ?_) (fun _ => ?_)
          | refine Need.mk (by first | omega | decide | rfl) ?_
          | refine Idx.nat (by omega) ?_
          | refine Idx.auto (by first | omega | decide) (by first | omega | decide) ?_
          | refine Cell.ro rfl ?_
          | refine SDraw.all (by kernel_rfl) ?_
          | refine Kept.k0 ?_
          | refine Kept.k1 ?_
          | refine Kept.k2 ?_
          | refine Kept.k3 ?_
          | refine Kept.k4 ?_))
      all_goals (conv => whnf)
      exact Keep.all (h6 ht hn.1)
    · obtain rfl : t = !b := by cases t <;> cases b <;> simp_all
      have hbb : ((!b) == b) = false := by cases b <;> rfl
      repeat' ((conv => whnf); (first
          | refine c33 hM0 n (fun _ => ?_) (fun e => absurd hn e)
          | refine Look.mem g1 (fun _ _ _ => ?_)
          | refine Idx.of n.toNat (by omega) (by omega) ?_
          | refine Look.cell g2 hc ?_
          | refine Branch.f hbb ?_
          | refine Look.put _ g2 hput (fun H' hp => ?_)
          | refine New.mk (fun _ => ?_)
          | refine Look.at0 ?_
          | refine Cell.row ?_
          | refine Cell.buf ?_
          | refine Cells.row rfl ?_
          | refine Put.row rfl ?_
          | refine Put.buf rfl ?_
          | refine Look.at1 ?_
          | refine Look.at2 ?_
          | refine Look.at3 ?_
          | refine Look.at4 ?_
          | refine Look.at5 ?_
          | refine Look.at6 ?_
          | refine Look.at7 ?_
          | refine Look.at8 ?_
          | with_reducible refine Val.i64 (by omega) (by omega) ?_
          | with_reducible refine Val.u8 (by omega) (by omega) ?_
          | with_reducible refine Val.u32 (by omega) (by omega) ?_
          | with_reducible refine Val.u64 (by omega) (by omega) ?_
          | with_reducible refine Val.u8m ?_
          | with_reducible refine Val.u32m ?_
          | with_reducible refine Val.u64m ?_
          | with_reducible refine Val.shr8 ?_
          | with_reducible refine Val.shr16 (by decide) ?_
          | with_reducible refine Val.shr24 (by decide) ?_
          | with_reducible refine Val.raw ?_
          | refine Branch.not ?_
          | refine Branch.and ?_
          | refine Branch.or ?_
          | refine Branch.dt (by assumption) ?_
          | refine Branch.df (by assumption) ?_
          | refine Branch.dt rfl ?_
          | refine Branch.dt (by omega) ?_
          | refine Branch.df (by omega) ?_
          | refine Branch.t rfl ?_
          | refine Branch.f rfl ?_
          | refine Branch.t (by assumption) ?_
          | refine Branch.f (by assumption) ?_
          | refine Branch.d (fun _ => ?_) (fun _ => ?_)
          | refine Branch.mk (fun _ => ?_) (fun _ => ?_)
          | refine Need.mk (by first | omega | decide | rfl) ?_
          | refine Idx.nat (by omega) ?_
          | refine Idx.auto (by first | omega | decide) (by first | omega | decide) ?_
          | refine Cell.ro rfl ?_
          | refine SDraw.all (by kernel_rfl) ?_
          | refine Kept.k0 ?_
          | refine Kept.k1 ?_
          | refine Kept.k2 ?_
          | refine Kept.k3 ?_
          | refine Kept.k4 ?_))
      all_goals (conv => whnf)
      exact Keep.all (h0 hn.1 ht _ (hM0.setThere g1 g3 hp))
  · repeat' ((conv => whnf); (first
        | refine c33 hM0 n (fun e => absurd e hn) (fun _ => ?_)
        | refine New.mk (fun _ => ?_)
        | refine Look.at0 ?_
        | refine Cell.row ?_
        | refine Cell.buf ?_
        | refine Cells.row rfl ?_
        | refine Put.row rfl ?_
        | refine Put.buf rfl ?_
        | refine Look.at1 ?_
        | refine Look.at2 ?_
        | refine Look.at3 ?_
        | refine Look.at4 ?_
        | refine Look.at5 ?_
        | refine Look.at6 ?_
        | refine Look.at7 ?_
        | refine Look.at8 ?_
        | with_reducible refine Val.i64 (by omega) (by omega) ?_
        | with_reducible refine Val.u8 (by omega) (by omega) ?_
        | with_reducible refine Val.u32 (by omega) (by omega) ?_
        | with_reducible refine Val.u64 (by omega) (by omega) ?_
        | with_reducible refine Val.u8m ?_
        | with_reducible refine Val.u32m ?_
        | with_reducible refine Val.u64m ?_
        | with_reducible refine Val.shr8 ?_
        | with_reducible refine Val.shr16 (by decide) ?_
        | with_reducible refine Val.shr24 (by decide) ?_
        | with_reducible refine Val.raw ?_
        | refine Branch.not ?_
        | refine Branch.and ?_
        | refine Branch.or ?_
        | refine Branch.dt (by assumption) ?_
        | refine Branch.df (by assumption) ?_
        | refine Branch.dt rfl ?_
        | refine Branch.dt (by omega) ?_
        | refine Branch.df (by omega) ?_
        | refine Branch.t rfl ?_
        | refine Branch.f rfl ?_
        | refine Branch.t (by assumption) ?_
        | refine Branch.f (by assumption) ?_
        | refine Branch.d (fun _ => ?_) (fun _ => ?_)
        | refine Branch.mk (fun _ => ?_) (fun _ => ?_)
        | refine Need.mk (by first | omega | decide | rfl) ?_
        | refine Idx.nat (by omega) ?_
        | refine Idx.auto (by first | omega | decide) (by first | omega | decide) ?_
        | refine Cell.ro rfl ?_
        | refine SDraw.all (by kernel_rfl) ?_
        | refine Kept.k0 ?_
        | refine Kept.k1 ?_
        | refine Kept.k2 ?_
        | refine Kept.k3 ?_
        | refine Kept.k4 ?_))
    all_goals (conv => whnf)
    exact Keep.all (h1 hn)
end
end Go.Proofs.Ytjnlpaojaikjaaa

/- Layer 26: an image's writers, going on: by walks. -/
set_option linter.unusedVariables false
set_option linter.unusedSimpArgs false
set_option maxRecDepth 100000
set_option maxHeartbeats 4000000
namespace Go.Proofs.Ytjnlpaojaikjaaa
open Sx
def Mc.turn (M : Mc) (n : Int) (b : Bool) : Int × Mc :=
  if 0 ≤ n ∧ n < (M.there.length : Int) then (if M.there[n.toNat]? = some b then (6, M) else (0, { M with there := M.there.set n.toNat b })) else (1, M)
def Mc.write (M : Mc) (nd v x : Int) : Int × Mc :=
  if 0 ≤ nd ∧ nd < (M.there.length : Int) ∧ 0 ≤ v ∧ v < (M.vs.length : Int) then
    (match M.vs[v.toNat]? with
      | some w => if w.prod = nd then (if M.there[nd.toNat]? = some true then (0, { M with vs := M.vs.set v.toNat { w with own := x } }) else (6, M)) else (1, M)
      | none => (1, M))
  else (1, M)
def lostV (n : Int) (v : Lv) : Lv := { v with own := if v.prod = n then 0 else v.own, seen := setS n none v.seen }
def Mc.lost (M : Mc) (n : Int) : Int × Mc := if (M.turn n false).1 = 0 then (0, { (M.turn n false).2 with vs := (M.turn n false).2.vs.map (lostV n) }) else M.turn n false
section
variable {K : Value → Heap → Prop} {gm : Nat} {ids : List (Nat × Nat)} {M : Mc} {H : Heap}
theorem c28t (hM : Mach gm ids M H) (n : Int) (b : Bool) (h : ∀ H', Mach gm ids (M.turn n b).2 H' → K (.int .i64 (M.turn n b).1) H') : SCalls Try.prog 28 [ptr gm, .int .i64 n, .bool b] H K := by
  refine c28 hM n b (fun hn => ?_) (fun ht hn => ?_) (fun hn ht H' hM' => ?_)
  · have e : M.turn n b = (1, M) := by unfold Mc.turn; rw [if_neg hn]
    rw [e] at h; exact h H hM
  · have hlt := (List.getElem?_eq_some_iff.1 ht).1
    have e : M.turn n b = (6, M) := by unfold Mc.turn; rw [if_pos ⟨hn, by omega⟩, if_pos ht]
    rw [e] at h; exact h H hM
  · have hlt := (List.getElem?_eq_some_iff.1 ht).1
    have e : M.turn n b = (0, { M with there := M.there.set n.toNat b }) := by
      unfold Mc.turn
      rw [if_pos ⟨hn, by omega⟩, if_neg (by rw [ht]; intro e; injection e with e; cases b <;> cases e)]
    rw [e] at h; exact h H' hM'
theorem c13 (hM : Mach gm ids M H) (n : Int) (h : ∀ H', Mach gm ids (M.turn n true).2 H' → K (.int .i64 (M.turn n true).1) H') : SCalls Try.prog 13 [ptr gm, .int .i64 n] H K := by
  refine enter13 ?_
  repeat' ((conv => whnf); (first
      | refine c28t hM n true (fun H' hM' => ?_)
      | refine New.mk (fun _ => ?_)
      | refine Look.at0 ?_
      | refine Cell.row ?_
      | refine Cell.buf ?_
      | refine Cells.row rfl ?_
      | refine Put.row rfl ?_
      | refine Put.buf rfl ?_
      | refine Look.at1 ?_
      | refine Look.at2 ?_
      | refine Look.at3 ?_
      | refine Look.at4 ?_
      | refine Look.at5 ?_
      | refine Look.at6 ?_
      | refine Look.at7 ?_
      | refine Look.at8 ?_
      | with_reducible refine Val.i64 (by omega) (by omega) ?_
      | with_reducible refine Val.u8 (by omega) (by omega) ?_
      | with_reducible refine Val.u32 (by omega) (by omega) ?_
      | with_reducible refine Val.u64 (by omega) (by omega) ?_
      | with_reducible refine Val.u8m ?_
      | with_reducible refine Val.u32m ?_
      | with_reducible refine Val.u64m ?_
      | with_reducible refine Val.shr8 ?_
      | with_reducible refine Val.shr16 (by decide) ?_
      | with_reducible refine Val.shr24 (by decide) ?_
      | with_reducible refine Val.raw ?_
      | refine Branch.not ?_
      | refine Branch.and ?_
      | refine Branch.or ?_
      | refine Branch.dt (by assumption) ?_
      | refine Branch.df (by assumption) ?_
      | refine Branch.dt rfl ?_
      | refine Branch.dt (by omega) ?_
      | refine Branch.df (by omega) ?_
      | refine Branch.t rfl ?_
      | refine Branch.f rfl ?_
      | refine Branch.t (by assumption) ?_
      | refine Branch.f (by assumption) ?_
      | refine Branch.d (fun _ => ?_) (fun _ => ?_)
      | refine Branch.mk (fun _ => ?_) (fun _ => ?_)
      | refine Need.mk (by first | omega | decide | rfl) ?_
      | refine Idx.nat (by omega) ?_
      | refine Idx.auto (by first | omega | decide) (by first | omega | decide) ?_
      | refine Cell.ro rfl ?_
      | refine SDraw.all (by kernel_rfl) ?_
      | refine Kept.k0 ?_
      | refine Kept.k1 ?_
      | refine Kept.k2 ?_
      | refine Kept.k3 ?_
      | refine Kept.k4 ?_))
  all_goals (conv => whnf)
  exact Keep.all (h _ hM')
theorem c17 (hM : Mach gm ids M H) (nd v x : Int) (h : ∀ H', Mach gm ids (M.write nd v x).2 H' → K (.int .i64 (M.write nd v x).1) H') : SCalls Try.prog 17 [ptr gm, .int .i64 nd, .int .i64 v, .int .u64 x] H K := by
  have hM0 := hM
  obtain ⟨gt, nt, ct, la, lc, g1, g2, g3⟩ := hM.ex
  refine enter17 ?_
  by_cases hn : 0 ≤ nd ∧ nd < (M.there.length : Int)
  · by_cases hv : 0 ≤ v ∧ v < (M.vs.length : Int)
    · obtain ⟨p, w, hp, hw, hVA, hok, hp1⟩ := hM.at (j := v.toNat) (by omega)
      have hrow := hVA.row
      obtain ⟨r, N, rfl, hb, hc⟩ := g3.get hp1
      have hl := hM.len
      obtain ⟨t, ht, _, _⟩ := list_at (L := M.there) (j := nd.toNat) (by omega)
      have hct := bool_at (N := nt) ht
      by_cases hpr : w.prod = nd
      · cases t with
        | true =>
          have e : M.write nd v x = (0, { M with vs := M.vs.set v.toNat { w with own := x } }) := by
            unfold Mc.write; rw [if_pos ⟨hn.1, hn.2, hv.1, hv.2⟩, hw]; dsimp only; rw [if_pos hpr, if_pos ht]
          rw [e] at h
          repeat' ((conv => whnf); (first
              | refine c33 hM0 nd (fun _ => ?_) (fun e => absurd hn e)
              | refine c29 hM0 v (fun _ => ?_) (fun e => absurd hv e)
              | refine Look.mem g1 (fun _ _ _ => ?_)
              | refine Idx.of v.toNat (by omega) (by omega) ?_
              | refine Idx.of nd.toNat (by omega) (by omega) ?_
              | refine Look.cell hb hc ?_
              | refine Look.cell g2 hct ?_
              | refine Look.put (rowV w.prod x p.2) hrow (PutOk.rowb (by rfl) (by rfl)) (fun H' hp' => ?_)
              | refine Look.mem hrow (fun _ _ _ => ?_)
              | refine New.mk (fun _ => ?_)
              | refine Look.at0 ?_
              | refine Cell.row ?_
              | refine Cell.buf ?_
              | refine Cells.row rfl ?_
              | refine Put.row rfl ?_
              | refine Put.buf rfl ?_
              | refine Look.at1 ?_
              | refine Look.at2 ?_
              | refine Look.at3 ?_
              | refine Look.at4 ?_
              | refine Look.at5 ?_
              | refine Look.at6 ?_
              | refine Look.at7 ?_
              | refine Look.at8 ?_
              | with_reducible refine Val.i64 (by omega) (by omega) ?_
              | with_reducible refine Val.u8 (by omega) (by omega) ?_
              | with_reducible refine Val.u32 (by omega) (by omega) ?_
              | with_reducible refine Val.u64 (by omega) (by omega) ?_
              | with_reducible refine Val.u8m ?_
              | with_reducible refine Val.u32m ?_
              | with_reducible refine Val.u64m ?_
              | with_reducible refine Val.shr8 ?_
              | with_reducible refine Val.shr16 (by decide) ?_
              | with_reducible refine Val.shr24 (by decide) ?_
              | with_reducible refine Val.raw ?_
              | refine Branch.not ?_
              | refine Branch.and ?_
              | refine Branch.or ?_
              | refine Branch.dt (by assumption) ?_
              | refine Branch.df (by assumption) ?_
              | refine Branch.dt rfl ?_
              | refine Branch.dt (by omega) ?_
              | refine Branch.df (by omega) ?_
              | refine Branch.t rfl ?_
              | refine Branch.f rfl ?_
              | refine Branch.t (by assumption) ?_
              | refine Branch.f (by assumption) ?_
              | refine Branch.d (fun _ => ?_) (fun _ => ?_)
              | refine Branch.mk (fun _ => ?_) (fun _ => ?_)
              | refine Need.mk (by first | omega | decide | rfl) ?_
              | refine Idx.nat (by omega) ?_
              | refine Idx.auto (by first | omega | decide) (by first | omega | decide) ?_
              | refine Cell.ro rfl ?_
              | refine SDraw.all (by kernel_rfl) ?_
              | refine Kept.k0 ?_
              | refine Kept.k1 ?_
              | refine Kept.k2 ?_
              | refine Kept.k3 ?_
              | refine Kept.k4 ?_))
          all_goals (conv => whnf)
          exact Keep.all (h _ (hM0.setVar hp hw hp'))
        | false =>
          have e : M.write nd v x = (6, M) := by
            unfold Mc.write; rw [if_pos ⟨hn.1, hn.2, hv.1, hv.2⟩, hw]; dsimp only; rw [if_pos hpr, if_neg (by rw [ht]; decide)]
          rw [e] at h
          repeat' ((conv => whnf); (first
              | refine c33 hM0 nd (fun _ => ?_) (fun e => absurd hn e)
              | refine c29 hM0 v (fun _ => ?_) (fun e => absurd hv e)
              | refine Look.mem g1 (fun _ _ _ => ?_)
              | refine Idx.of v.toNat (by omega) (by omega) ?_
              | refine Idx.of nd.toNat (by omega) (by omega) ?_
              | refine Look.cell hb hc ?_
              | refine Look.cell g2 hct ?_
              | refine Look.mem hrow (fun _ _ _ => ?_)
              | refine New.mk (fun _ => ?_)
              | refine Look.at0 ?_
              | refine Cell.row ?_
              | refine Cell.buf ?_
              | refine Cells.row rfl ?_
              | refine Put.row rfl ?_
              | refine Put.buf rfl ?_
              | refine Look.at1 ?_
              | refine Look.at2 ?_
              | refine Look.at3 ?_
              | refine Look.at4 ?_
              | refine Look.at5 ?_
              | refine Look.at6 ?_
              | refine Look.at7 ?_
              | refine Look.at8 ?_
              | with_reducible refine Val.i64 (by omega) (by omega) ?_
              | with_reducible refine Val.u8 (by omega) (by omega) ?_
              | with_reducible refine Val.u32 (by omega) (by omega) ?_
              | with_reducible refine Val.u64 (by omega) (by omega) ?_
              | with_reducible refine Val.u8m ?_
              | with_reducible refine Val.u32m ?_
              | with_reducible refine Val.u64m ?_
              | with_reducible refine Val.shr8 ?_
              | with_reducible refine Val.shr16 (by decide) ?_
              | with_reducible refine Val.shr24 (by decide) ?_
              | with_reducible refine Val.raw ?_
              | refine Branch.not ?_
              | refine Branch.and ?_
              | refine Branch.or ?_
              | refine Branch.dt (by assumption) ?_
              | refine Branch.df (by assumption) ?_
              | refine Branch.dt rfl ?_
              | refine Branch.dt (by omega) ?_
              | refine Branch.df (by omega) ?_
              | refine Branch.t rfl ?_
              | refine Branch.f rfl ?_
              | refine Branch.t (by assumption) ?_
              | refine Branch.f (by assumption) ?_
              | refine Branch.d (fun _ => ?_) (fun _ => ?_)
              | refine Branch.mk (fun _ => ?_) (fun _ => ?_)
              | refine Need.mk (by first | omega | decide | rfl) ?_
              | refine Idx.nat (by omega) ?_
              | refine Idx.auto (by first | omega | decide) (by first | omega | decide) ?_
              | refine Cell.ro rfl ?_
              | refine SDraw.all (by kernel_rfl) ?_
              | refine Kept.k0 ?_
              | refine Kept.k1 ?_
              | refine Kept.k2 ?_
              | refine Kept.k3 ?_
              | refine Kept.k4 ?_))
          all_goals (conv => whnf)
          exact Keep.all (h _ hM0)
      · have e : M.write nd v x = (1, M) := by
          unfold Mc.write; rw [if_pos ⟨hn.1, hn.2, hv.1, hv.2⟩, hw]; dsimp only; rw [if_neg hpr]
        rw [e] at h
        repeat' ((conv => whnf); (first
            | refine c33 hM0 nd (fun _ => ?_) (fun e => absurd hn e)
            | refine c29 hM0 v (fun _ => ?_) (fun e => absurd hv e)
            | refine Look.mem g1 (fun _ _ _ => ?_)
            | refine Idx.of v.toNat (by omega) (by omega) ?_
            | refine Look.cell hb hc ?_
            | refine Look.mem hrow (fun _ _ _ => ?_)
            | refine New.mk (fun _ => ?_)
            | refine Look.at0 ?_
            | refine Cell.row ?_
            | refine Cell.buf ?_
            | refine Cells.row rfl ?_
            | refine Put.row rfl ?_
            | refine Put.buf rfl ?_
            | refine Look.at1 ?_
            | refine Look.at2 ?_
            | refine Look.at3 ?_
            | refine Look.at4 ?_
            | refine Look.at5 ?_
            | refine Look.at6 ?_
            | refine Look.at7 ?_
            | refine Look.at8 ?_
            | with_reducible refine Val.i64 (by omega) (by omega) ?_
            | with_reducible refine Val.u8 (by omega) (by omega) ?_
            | with_reducible refine Val.u32 (by omega) (by omega) ?_
            | with_reducible refine Val.u64 (by omega) (by omega) ?_
            | with_reducible refine Val.u8m ?_
            | with_reducible refine Val.u32m ?_
            | with_reducible refine Val.u64m ?_
            | with_reducible refine Val.shr8 ?_
            | with_reducible refine Val.shr16 (by decide) ?_
            | with_reducible refine Val.shr24 (by decide) ?_
            | with_reducible refine Val.raw ?_
            | refine Branch.not ?_
            | refine Branch.and ?_
            | refine Branch.or ?_
            | refine Branch.dt (by assumption) ?_
            | refine Branch.df (by assumption) ?_
            | refine Branch.dt rfl ?_
            | refine Branch.dt (by omega) ?_
            | refine Branch.df (by omega) ?_
            | refine Branch.t rfl ?_
            | refine Branch.f rfl ?_
            | refine Branch.t (by assumption) ?_
            | refine Branch.f (by assumption) ?_
            | refine Branch.d (fun _ => ?_) (fun _ => ?_)
            | refine Branch.mk (fun _ => ?_) (fun _ => ?_)
            | refine Need.mk (by first | omega | decide | rfl) ?_
            | refine Idx.nat (by omega) ?_
            | refine Idx.auto (by first | omega | decide) (by first | omega | decide) ?_
            | refine Cell.ro rfl ?_
            | refine SDraw.all (by kernel_rfl) ?_
            | refine Kept.k0 ?_
            | refine Kept.k1 ?_
            | refine Kept.k2 ?_
            | refine Kept.k3 ?_
            | refine Kept.k4 ?_))
        all_goals (conv => whnf)
        exact Keep.all (h _ hM0)
    · have e : M.write nd v x = (1, M) := by unfold Mc.write; rw [if_neg (fun e => hv ⟨e.2.2.1, e.2.2.2⟩)]
      rw [e] at h
      repeat' ((conv => whnf); (first
          | refine c33 hM0 nd (fun _ => ?_) (fun e => absurd hn e)
          | refine c29 hM0 v (fun e => absurd e hv) (fun _ => ?_)
          | refine New.mk (fun _ => ?_)
          | refine Look.at0 ?_
          | refine Cell.row ?_
          | refine Cell.buf ?_
          | refine Cells.row rfl ?_
          | refine Put.row rfl ?_
          | refine Put.buf rfl ?_
          | refine Look.at1 ?_
          | refine Look.at2 ?_
          | refine Look.at3 ?_
          | refine Look.at4 ?_
          | refine Look.at5 ?_
          | refine Look.at6 ?_
          | refine Look.at7 ?_
          | refine Look.at8 ?_
          | with_reducible refine Val.i64 (by omega) (by omega) ?_
          | with_reducible refine Val.u8 (by omega) (by omega) ?_
          | with_reducible refine Val.u32 (by omega) (by omega) ?_
          | with_reducible refine Val.u64 (by omega) (by omega) ?_
          | with_reducible refine Val.u8m ?_
          | with_reducible refine Val.u32m ?_
          | with_reducible refine Val.u64m ?_
          | with_reducible refine Val.shr8 ?_
          | with_reducible refine Val.shr16 (by decide) ?_
          | with_reducible refine Val.shr24 (by decide) ?_
          | with_reducible refine Val.raw ?_
          | refine Branch.not ?_
          | refine Branch.and ?_
          | refine Branch.or ?_
          | refine Branch.dt (by assumption) ?_
          | refine Branch.df (by assumption) ?_
          | refine Branch.dt rfl ?_
          | refine Branch.dt (by omega) ?_
          | refine Branch.df (by omega) ?_
          | refine Branch.t rfl ?_
          | refine Branch.f rfl ?_
          | refine Branch.t (by assumption) ?_
          | refine Branch.f (by assumption) ?_
          | refine Branch.d (fun _ => ?_) (fun _ => ?_)
          | refine Branch.mk (fun _ => ?_) (fun _ => ?_)
          | refine Need.mk (by first | omega | decide | rfl) ?_
          | refine Idx.nat (by omega) ?_
          | refine Idx.auto (by first | omega | decide) (by first | omega | decide) ?_
          | refine Cell.ro rfl ?_
          | refine SDraw.all (by kernel_rfl) ?_
          | refine Kept.k0 ?_
          | refine Kept.k1 ?_
          | refine Kept.k2 ?_
          | refine Kept.k3 ?_
          | refine Kept.k4 ?_))
      all_goals (conv => whnf)
      exact Keep.all (h _ hM0)
  · have e : M.write nd v x = (1, M) := by unfold Mc.write; rw [if_neg (fun e => hn ⟨e.1, e.2.1⟩)]
    rw [e] at h
    repeat' ((conv => whnf); (first
        | refine c33 hM0 nd (fun e => absurd e hn) (fun _ => ?_)
        | refine New.mk (fun _ => ?_)
        | refine Look.at0 ?_
        | refine Cell.row ?_
        | refine Cell.buf ?_
        | refine Cells.row rfl ?_
        | refine Put.row rfl ?_
        | refine Put.buf rfl ?_
        | refine Look.at1 ?_
        | refine Look.at2 ?_
        | refine Look.at3 ?_
        | refine Look.at4 ?_
        | refine Look.at5 ?_
        | refine Look.at6 ?_
        | refine Look.at7 ?_
        | refine Look.at8 ?_
        | with_reducible refine Val.i64 (by omega) (by omega) ?_
        | with_reducible refine Val.u8 (by omega) (by omega) ?_
        | with_reducible refine Val.u32 (by omega) (by omega) ?_
        | with_reducible refine Val.u64 (by omega) (by omega) ?_
        | with_reducible refine Val.u8m ?_
        | with_reducible refine Val.u32m ?_
        | with_reducible refine Val.u64m ?_
        | with_reducible refine Val.shr8 ?_
        | with_reducible refine Val.shr16 (by decide) ?_
        | with_reducible refine Val.shr24 (by decide) ?_
        | with_reducible refine Val.raw ?_
        | refine Branch.not ?_
        | refine Branch.and ?_
        | refine Branch.or ?_
        | refine Branch.dt (by assumption) ?_
        | refine Branch.df (by assumption) ?_
        | refine Branch.dt rfl ?_
        | refine Branch.dt (by omega) ?_
        | refine Branch.df (by omega) ?_
        | refine Branch.t rfl ?_
        | refine Branch.f rfl ?_
        | refine Branch.t (by assumption) ?_
        | refine Branch.f (by assumption) ?_
        | refine Branch.d (fun _ => ?_) (fun _ => ?_)
        | refine Branch.mk (fun _ => ?_) (fun _ => ?_)
        | refine Need.mk (by first | omega | decide | rfl) ?_
        | refine Idx.nat (by omega) ?_
        | refine Idx.auto (by first | omega | decide) (by first | omega | decide) ?_
        | refine Cell.ro rfl ?_
        | refine SDraw.all (by kernel_rfl) ?_
        | refine Kept.k0 ?_
        | refine Kept.k1 ?_
        | refine Kept.k2 ?_
        | refine Kept.k3 ?_
        | refine Kept.k4 ?_))
    all_goals (conv => whnf)
    exact Keep.all (h _ hM0)
inductive S12 (A1 A19 A20 A21 : Value) : List Value → Prop
  | mk {r0 r2 r3 r4 r5 r6 r7 r8 r9 r10 r11 r12 r13 r14 r15 r16 r17 r18 r22 r23 r24 r25 r26 r27 r28 r29 r30 r31 r32 r33 r34 r35 r36 r37 r38 r39 r40 r41 r42 r43 r44 r45 r46 r47 r48 r49 : Value} : S12 A1 A19 A20 A21 [r0, A1, r2, r3, r4, r5, r6, r7, r8, r9, r10, r11, r12, r13, r14, r15, r16, r17, r18, A19, A20, A21, r22, r23, r24, r25, r26, r27, r28, r29, r30, r31, r32, r33, r34, r35, r36, r37, r38, r39, r40, r41, r42, r43, r44, r45, r46, r47, r48, r49]
structure T12 where
  (j : Nat) (H : Heap)
def I12 (n : Int) (la : Option Addr) (nl lc : Nat) (gm : Nat) (ids : List (Nat × Nat)) (M : Mc) (j : Nat) (S : List Value) (H : Heap) : Prop :=
  j ≤ M.vs.length ∧ S12 (.int .i64 n) (.slice la nl lc) (.int .i64 (nl : Int)) (.int .i64 (j : Int)) S ∧ Mach gm ids { M with vs := updTo (lostV n) j M.vs } H ∧ PB 68 la lc H (ids.map Prod.fst)
theorem l12 {Qp : Post} {n : Int} {la : Option Addr} {lc : Nat} (hM : Mach gm ids M H) (hb : PB 68 la lc H (ids.map Prod.fst)) (S : List Value) (hS : S12 (.int .i64 n) (.slice la ids.length lc) (.int .i64 (ids.length : Int)) (.int .i64 0) S)
    (hQ : ∀ S i H', S12 (.int .i64 n) (.slice la ids.length lc) (.int .i64 (ids.length : Int)) i S → Mach gm ids { M with vs := M.vs.map (lostV n) } H' → Qp (.exit 0) S H') : SLoop Try.prog X12_l0 Qp S H := by
  have hlen := hM.len
  have hfew := hM.few
  refine SLoop.invA (I12 n la ids.length lc gm ids M) (fun j => M.vs.length - j) 0 (Keep.all ⟨by omega, hS, by rw [updTo_zero]; exact hM, hb⟩) ?_
  rintro j S H' ⟨hj, hS, hM, hb⟩ R hR
  cases hS
  by_cases hlt : j < M.vs.length
  · obtain ⟨v0, hv0, _, _⟩ := list_at hlt
    obtain ⟨p, v, hp, hv, hVA, hok, hp1⟩ := hM.at (j := j) (by show j < (updTo (lostV n) j M.vs).length; rw [updTo_length]; exact hlt)
    have hv1 : (updTo (lostV n) j M.vs)[j]? = some v := hv
    rw [updTo_nth hv0] at hv1
    injection hv1 with hv1
    subst hv1
    obtain ⟨r, N, rfl, hbm, hc⟩ := hb.get hp1
    have next : ∀ S H2, S12 (.int .i64 n) (.slice (some ⟨r, 0, none⟩) ids.length lc) (.int .i64 (ids.length : Int)) (.int .i64 ((j + 1 : Nat) : Int)) S → Mach gm ids { M with vs := updTo (lostV n) (j + 1) M.vs } H2 → PB 68 (some ⟨r, 0, none⟩) lc H2 (ids.map Prod.fst) → R S H2 := fun S H2 h1 h2 h3 =>
      hR (j + 1) _ _ (by omega) (Keep.all ⟨by omega, h1, h2, h3⟩)
    have hset := updTo_set (f := lostV n) hv0
    have hjl : j < (updTo (lostV n) j M.vs).length := by rw [updTo_length]; exact hlt
    have key : ∀ (o' : Int) (H1 : Heap), o' = (if v0.prod = n then 0 else v0.own) → Mach gm ids { M with vs := (updTo (lostV n) j M.vs).set j { v0 with own := o' } } H1 → PB 68 (some ⟨r, 0, none⟩) lc H1 (ids.map Prod.fst) →
        ∃ es clk, (p.2, mapB kI es clk) ∈ H1 ∧ Ents H1 es clk v0.seen ∧ (p.1, rowV v0.prod o' p.2) ∈ H1 ∧
          (getS v0.seen n = none → ∀ S, S12 (.int .i64 n) (.slice (some ⟨r, 0, none⟩) ids.length lc) (.int .i64 (ids.length : Int)) (.int .i64 ((j + 1 : Nat) : Int)) S → R S H1) ∧
          (∀ i e, es[i]? = some e → e.key = n → ∀ H2, PutH H1 p.2 (mapB kI es clk) (mapB kI (es.set i ⟨n, .pointer none, e.born⟩) clk) H2 → ∀ S, S12 (.int .i64 n) (.slice (some ⟨r, 0, none⟩) ids.length lc) (.int .i64 (ids.length : Int)) (.int .i64 ((j + 1 : Nat) : Int)) S → R S H2) := by
      intro o' H1 ho' h1 h2
      have hj1 : ((updTo (lostV n) j M.vs).set j { v0 with own := o' })[j]? = some { v0 with own := o' } := by rw [List.getElem?_set, if_pos rfl, if_pos hjl]
      obtain ⟨g1, es, clk, g2, g3⟩ := h1.var j p { v0 with own := o' } hp hj1
      refine ⟨es, clk, g2, g3, g1, fun hg S hS => ?_, fun i e hi he H2 hp2 S hS => ?_⟩
      · have e : ({ v0 with own := o' } : Lv) = lostV n v0 := by unfold lostV; rw [setS_no (getS_no hg), ho']
        rw [e, hset] at h1
        exact next S H1 hS h1 h2
      · have h3 := h1.setSeen hp hj1 g3 hi he (u := .pointer none) (o := none) ⟨rfl, rfl⟩ hp2
        have e : ({ v0 with own := o', seen := setS n none v0.seen } : Lv) = lostV n v0 := by unfold lostV; rw [ho']
        have h4 : Mach gm ids { M with vs := ((updTo (lostV n) j M.vs).set j { v0 with own := o' }).set j ({ v0 with own := o', seen := setS n none v0.seen } : Lv) } H2 := h3
        rw [List.set_set, e, hset] at h4
        exact next S H2 hS h4 (h2.keep fun q hq hk => hp2.blk hq (ne_kd (by rw [hk]; show 1068 ≠ 2000; decide)))
    have hrow := hVA.row
    by_cases hpr : v0.prod = n
    · repeat' ((conv => whnf); (first
          | refine Look.cell hbm hc ?_
          | refine Look.put (rowV v0.prod 0 p.2) hrow (PutOk.rowb (by rfl) (by rfl)) (fun H1 hq1 => ?_)
          | refine Look.mem hrow (fun _ _ _ => ?_)
          | refine New.mk (fun _ => ?_)
          | refine Look.at0 ?_
          | refine Cell.row ?_
          | refine Cell.buf ?_
          | refine Cells.row rfl ?_
          | refine Put.row rfl ?_
          | refine Put.buf rfl ?_
          | refine Look.at1 ?_
          | refine Look.at2 ?_
          | refine Look.at3 ?_
          | refine Look.at4 ?_
          | refine Look.at5 ?_
          | refine Look.at6 ?_
          | refine Look.at7 ?_
          | refine Look.at8 ?_
          | with_reducible refine Val.i64 (by omega) (by omega) ?_
          | with_reducible refine Val.u8 (by omega) (by omega) ?_
          | with_reducible refine Val.u32 (by omega) (by omega) ?_
          | with_reducible refine Val.u64 (by omega) (by omega) ?_
          | with_reducible refine Val.u8m ?_
          | with_reducible refine Val.u32m ?_
          | with_reducible refine Val.u64m ?_
          | with_reducible refine Val.shr8 ?_
          | with_reducible refine Val.shr16 (by decide) ?_
          | with_reducible refine Val.shr24 (by decide) ?_
          | with_reducible refine Val.raw ?_
          | refine Branch.not ?_
          | refine Branch.and ?_
          | refine Branch.or ?_
          | refine Branch.dt (by assumption) ?_
          | refine Branch.df (by assumption) ?_
          | refine Branch.dt rfl ?_
          | refine Branch.dt (by omega) ?_
          | refine Branch.df (by omega) ?_
          | refine Branch.t rfl ?_
          | refine Branch.f rfl ?_
          | refine Branch.t (by assumption) ?_
          | refine Branch.f (by assumption) ?_
          | refine Branch.d (fun _ => ?_) (fun _ => ?_)
          | refine Branch.mk (fun _ => ?_) (fun _ => ?_)
          | refine Need.mk (by first | omega | decide | rfl) ?_
          | refine Idx.nat (by omega) ?_
          | refine Idx.auto (by first | omega | decide) (by first | omega | decide) ?_
          | refine Cell.ro rfl ?_
          | refine SDraw.all (by kernel_rfl) ?_
          | refine Kept.k0 ?_
          | refine Kept.k1 ?_
          | refine Kept.k2 ?_
          | refine Kept.k3 ?_
          | refine Kept.k4 ?_))
      obtain ⟨es, clk, k1, k2, k3, k4, k5⟩ := key 0 H1 (by rw [if_pos hpr]) (hM.setVar hp hv hq1) (hb.keep fun q hq hk => hq1.blk hq (ne_kd (by rw [hk]; show 1068 ≠ 71; decide)))
      repeat' ((conv => whnf); (first
          | refine Look.mem k3 (fun _ _ _ => ?_)
          | refine RawV.look2S rfl k1 k2 hok.once (fun hg => ?_) (fun hg => ?_) (fun x c gs hg hgs => ?_)
          | refine RawV.updM (f := kI) rfl hty69 (keysInt .i64) k1 (fun hno H2 hp2 => ?_) (fun i e hi he H2 hp2 => ?_)
          | refine New.mk (fun _ => ?_)
          | refine Look.at0 ?_
          | refine Cell.row ?_
          | refine Cell.buf ?_
          | refine Cells.row rfl ?_
          | refine Put.row rfl ?_
          | refine Put.buf rfl ?_
          | refine Look.at1 ?_
          | refine Look.at2 ?_
          | refine Look.at3 ?_
          | refine Look.at4 ?_
          | refine Look.at5 ?_
          | refine Look.at6 ?_
          | refine Look.at7 ?_
          | refine Look.at8 ?_
          | with_reducible refine Val.i64 (by omega) (by omega) ?_
          | with_reducible refine Val.u8 (by omega) (by omega) ?_
          | with_reducible refine Val.u32 (by omega) (by omega) ?_
          | with_reducible refine Val.u64 (by omega) (by omega) ?_
          | with_reducible refine Val.u8m ?_
          | with_reducible refine Val.u32m ?_
          | with_reducible refine Val.u64m ?_
          | with_reducible refine Val.shr8 ?_
          | with_reducible refine Val.shr16 (by decide) ?_
          | with_reducible refine Val.shr24 (by decide) ?_
          | with_reducible refine Val.raw ?_
          | refine Branch.not ?_
          | refine Branch.and ?_
          | refine Branch.or ?_
          | refine Branch.dt (by assumption) ?_
          | refine Branch.df (by assumption) ?_
          | refine Branch.dt rfl ?_
          | refine Branch.dt (by omega) ?_
          | refine Branch.df (by omega) ?_
          | refine Branch.t rfl ?_
          | refine Branch.f rfl ?_
          | refine Branch.t (by assumption) ?_
          | refine Branch.f (by assumption) ?_
          | refine Branch.d (fun _ => ?_) (fun _ => ?_)
          | refine Branch.mk (fun _ => ?_) (fun _ => ?_)
          | refine Need.mk (by first | omega | decide | rfl) ?_
          | refine Idx.nat (by omega) ?_
          | refine Idx.auto (by first | omega | decide) (by first | omega | decide) ?_
          | refine Cell.ro rfl ?_
          | refine SDraw.all (by kernel_rfl) ?_
          | refine Kept.k0 ?_
          | refine Kept.k1 ?_
          | refine Kept.k2 ?_
          | refine Kept.k3 ?_
          | refine Kept.k4 ?_))
      all_goals (conv => whnf)
      all_goals first
        | exact k4 hg _ .mk
        | exact k5 i e hi he H2 hp2 _ .mk
        | (exfalso; have := k2.no hno; rw [hg] at this; cases this)
        | trace_state
    · have hself : (updTo (lostV n) j M.vs).set j { v0 with own := v0.own } = updTo (lostV n) j M.vs := by
        obtain ⟨hl1, hl2⟩ := List.getElem?_eq_some_iff.1 (updTo_nth (f := lostV n) hv0)
        rw [show ({ v0 with own := v0.own } : Lv) = v0 from rfl, ← hl2, List.set_getElem_self]
      obtain ⟨es, clk, k1, k2, k3, k4, k5⟩ := key v0.own H' (by rw [if_neg hpr]) (by rw [hself]; exact hM) hb
      repeat' ((conv => whnf); (first
          | refine Look.cell hbm hc ?_
          | refine Look.mem k3 (fun _ _ _ => ?_)
          | refine RawV.look2S rfl k1 k2 hok.once (fun hg => ?_) (fun hg => ?_) (fun x c gs hg hgs => ?_)
          | refine RawV.updM (f := kI) rfl hty69 (keysInt .i64) k1 (fun hno H2 hp2 => ?_) (fun i e hi he H2 hp2 => ?_)
          | refine New.mk (fun _ => ?_)
          | refine Look.at0 ?_
          | refine Cell.row ?_
          | refine Cell.buf ?_
          | refine Cells.row rfl ?_
          | refine Put.row rfl ?_
          | refine Put.buf rfl ?_
          | refine Look.at1 ?_
          | refine Look.at2 ?_
          | refine Look.at3 ?_
          | refine Look.at4 ?_
          | refine Look.at5 ?_
          | refine Look.at6 ?_
          | refine Look.at7 ?_
          | refine Look.at8 ?_
          | with_reducible refine Val.i64 (by omega) (by omega) ?_
          | with_reducible refine Val.u8 (by omega) (by omega) ?_
          | with_reducible refine Val.u32 (by omega) (by omega) ?_
          | with_reducible refine Val.u64 (by omega) (by omega) ?_
          | with_reducible refine Val.u8m ?_
          | with_reducible refine Val.u32m ?_
          | with_reducible refine Val.u64m ?_
          | with_reducible refine Val.shr8 ?_
          | with_reducible refine Val.shr16 (by decide) ?_
          | with_reducible refine Val.shr24 (by decide) ?_
          | with_reducible refine Val.raw ?_
          | refine Branch.not ?_
          | refine Branch.and ?_
          | refine Branch.or ?_
          | refine Branch.dt (by assumption) ?_
          | refine Branch.df (by assumption) ?_
          | refine Branch.dt rfl ?_
          | refine Branch.dt (by omega) ?_
          | refine Branch.df (by omega) ?_
          | refine Branch.t rfl ?_
          | refine Branch.f rfl ?_
          | refine Branch.t (by assumption) ?_
          | refine Branch.f (by assumption) ?_
          | refine Branch.d (fun _ => ?_) (fun _ => ?_)
          | refine Branch.mk (fun _ => ?_) (fun _ => ?_)
          | refine Need.mk (by first | omega | decide | rfl) ?_
          | refine Idx.nat (by omega) ?_
          | refine Idx.auto (by first | omega | decide) (by first | omega | decide) ?_
          | refine Cell.ro rfl ?_
          | refine SDraw.all (by kernel_rfl) ?_
          | refine Kept.k0 ?_
          | refine Kept.k1 ?_
          | refine Kept.k2 ?_
          | refine Kept.k3 ?_
          | refine Kept.k4 ?_))
      all_goals (conv => whnf)
      all_goals first
        | exact k4 hg _ .mk
        | exact k5 i e hi he H2 hp2 _ .mk
        | (exfalso; have := k2.no hno; rw [hg] at this; cases this)
        | trace_state
  · have e : j = M.vs.length := by omega
    subst e
    rw [updTo_all (Nat.le_refl _)] at hM
    repeat' ((conv => whnf); (first
        | refine New.mk (fun _ => ?_)
        | refine Look.at0 ?_
        | refine Cell.row ?_
        | refine Cell.buf ?_
        | refine Cells.row rfl ?_
        | refine Put.row rfl ?_
        | refine Put.buf rfl ?_
        | refine Look.at1 ?_
        | refine Look.at2 ?_
        | refine Look.at3 ?_
        | refine Look.at4 ?_
        | refine Look.at5 ?_
        | refine Look.at6 ?_
        | refine Look.at7 ?_
        | refine Look.at8 ?_
        | with_reducible refine Val.i64 (by omega) (by omega) ?_
        | with_reducible refine Val.u8 (by omega) (by omega) ?_
        | with_reducible refine Val.u32 (by omega) (by omega) ?_
        | with_reducible refine Val.u64 (by omega) (by omega) ?_
        | with_reducible refine Val.u8m ?_
        | with_reducible refine Val.u32m ?_
        | with_reducible refine Val.u64m ?_
        | with_reducible refine Val.shr8 ?_
        | with_reducible refine Val.shr16 (by decide) ?_
        | with_reducible refine Val.shr24 (by decide) ?_
        | with_reducible refine Val.raw ?_
        | refine Branch.not ?_
        | refine Branch.and ?_
        | refine Branch.or ?_
        | refine Branch.dt (by assumption) ?_
        | refine Branch.df (by assumption) ?_
        | refine Branch.dt rfl ?_
        | refine Branch.dt (by omega) ?_
        | refine Branch.df (by omega) ?_
        | refine Branch.t rfl ?_
        | refine Branch.f rfl ?_
        | refine Branch.t (by assumption) ?_
        | refine Branch.f (by assumption) ?_
        | refine Branch.d (fun _ => ?_) (fun _ => ?_)
        | refine Branch.mk (fun _ => ?_) (fun _ => ?_)
        | refine Need.mk (by first | omega | decide | rfl) ?_
        | refine Idx.nat (by omega) ?_
        | refine Idx.auto (by first | omega | decide) (by first | omega | decide) ?_
        | refine Cell.ro rfl ?_
        | refine SDraw.all (by kernel_rfl) ?_
        | refine Kept.k0 ?_
        | refine Kept.k1 ?_
        | refine Kept.k2 ?_
        | refine Kept.k3 ?_
        | refine Kept.k4 ?_))
    all_goals (conv => whnf)
    exact hQ _ _ _ .mk hM
theorem c12 (hM : Mach gm ids M H) (n : Int) (h : ∀ H', Mach gm ids (M.lost n).2 H' → K (.int .i64 (M.lost n).1) H') : SCalls Try.prog 12 [ptr gm, .int .i64 n] H K := by
  refine enter12 ?_
  unfold Mc.lost at h
  have hal : (M.turn n false).1 = 0 ∨ (M.turn n false).1 ≠ 0 := by omega
  generalize hr : M.turn n false = r at h hal
  obtain ⟨e, M'⟩ := r
  dsimp only at h hal
  have hc : ∀ K : Value → Heap → Prop, (∀ H', Mach gm ids M' H' → K (.int .i64 e) H') → SCalls Try.prog 28 [ptr gm, .int .i64 n, .bool false] H K := fun K hk => c28t hM n false (by rw [hr]; exact hk)
  rcases hal with rfl | hne
  · rw [if_pos rfl] at h
    repeat' ((conv => whnf); (first
        | refine hc _ (fun H' hM' => ?_)
        | refine New.mk (fun _ => ?_)
        | refine Look.at0 ?_
        | refine Cell.row ?_
        | refine Cell.buf ?_
        | refine Cells.row rfl ?_
        | refine Put.row rfl ?_
        | refine Put.buf rfl ?_
        | refine Look.at1 ?_
        | refine Look.at2 ?_
        | refine Look.at3 ?_
        | refine Look.at4 ?_
        | refine Look.at5 ?_
        | refine Look.at6 ?_
        | refine Look.at7 ?_
        | refine Look.at8 ?_
        | with_reducible refine Val.i64 (by omega) (by omega) ?_
        | with_reducible refine Val.u8 (by omega) (by omega) ?_
        | with_reducible refine Val.u32 (by omega) (by omega) ?_
        | with_reducible refine Val.u64 (by omega) (by omega) ?_
        | with_reducible refine Val.u8m ?_
        | with_reducible refine Val.u32m ?_
        | with_reducible refine Val.u64m ?_
        | with_reducible refine Val.shr8 ?_
        | with_reducible refine Val.shr16 (by decide) ?_
        | with_reducible refine Val.shr24 (by decide) ?_
        | with_reducible refine Val.raw ?_
        | refine Branch.not ?_
        | refine Branch.and ?_
        | refine Branch.or ?_
        | refine Branch.dt (by assumption) ?_
        | refine Branch.df (by assumption) ?_
        | refine Branch.dt rfl ?_
        | refine Branch.dt (by omega) ?_
        | refine Branch.df (by omega) ?_
        | refine Branch.t rfl ?_
        | refine Branch.f rfl ?_
        | refine Branch.t (by assumption) ?_
        | refine Branch.f (by assumption) ?_
        | refine Branch.d (fun _ => ?_) (fun _ => ?_)
        | refine Branch.mk (fun _ => ?_) (fun _ => ?_)
        | refine Need.mk (by first | omega | decide | rfl) ?_
        | refine Idx.nat (by omega) ?_
        | refine Idx.auto (by first | omega | decide) (by first | omega | decide) ?_
        | refine Cell.ro rfl ?_
        | refine SDraw.all (by kernel_rfl) ?_
        | refine Kept.k0 ?_
        | refine Kept.k1 ?_
        | refine Kept.k2 ?_
        | refine Kept.k3 ?_
        | refine Kept.k4 ?_))
    obtain ⟨gt, nt, ct, la, lc, g1, g2, g3⟩ := hM'.ex
    repeat' ((conv => whnf); (first
        | refine Look.mem g1 (fun _ _ _ => ?_)
        | refine New.mk (fun _ => ?_)
        | refine Look.at0 ?_
        | refine Cell.row ?_
        | refine Cell.buf ?_
        | refine Cells.row rfl ?_
        | refine Put.row rfl ?_
        | refine Put.buf rfl ?_
        | refine Look.at1 ?_
        | refine Look.at2 ?_
        | refine Look.at3 ?_
        | refine Look.at4 ?_
        | refine Look.at5 ?_
        | refine Look.at6 ?_
        | refine Look.at7 ?_
        | refine Look.at8 ?_
        | with_reducible refine Val.i64 (by omega) (by omega) ?_
        | with_reducible refine Val.u8 (by omega) (by omega) ?_
        | with_reducible refine Val.u32 (by omega) (by omega) ?_
        | with_reducible refine Val.u64 (by omega) (by omega) ?_
        | with_reducible refine Val.u8m ?_
        | with_reducible refine Val.u32m ?_
        | with_reducible refine Val.u64m ?_
        | with_reducible refine Val.shr8 ?_
        | with_reducible refine Val.shr16 (by decide) ?_
        | with_reducible refine Val.shr24 (by decide) ?_
        | with_reducible refine Val.raw ?_
        | refine Branch.not ?_
        | refine Branch.and ?_
        | refine Branch.or ?_
        | refine Branch.dt (by assumption) ?_
        | refine Branch.df (by assumption) ?_
        | refine Branch.dt rfl ?_
        | refine Branch.dt (by omega) ?_
        | refine Branch.df (by omega) ?_
        | refine Branch.t rfl ?_
        | refine Branch.f rfl ?_
        | refine Branch.t (by assumption) ?_
        | refine Branch.f (by assumption) ?_
        | refine Branch.d (fun _ => ?_) (fun _ => ?_)
        | refine Branch.mk (fun _ => ?_) (fun _ => ?_)
        | refine Need.mk (by first | omega | decide | rfl) ?_
        | refine Idx.nat (by omega) ?_
        | refine Idx.auto (by first | omega | decide) (by first | omega | decide) ?_
        | refine Cell.ro rfl ?_
        | refine SDraw.all (by kernel_rfl) ?_
        | refine Kept.k0 ?_
        | refine Kept.k1 ?_
        | refine Kept.k2 ?_
        | refine Kept.k3 ?_
        | refine Kept.k4 ?_))
    refine l12 hM' g3 _ .mk (fun S i H2 hS hM2 => ?_)
    cases hS
    repeat' ((conv => whnf); (first
        | refine New.mk (fun _ => ?_)
        | refine Look.at0 ?_
        | refine Cell.row ?_
        | refine Cell.buf ?_
        | refine Cells.row rfl ?_
        | refine Put.row rfl ?_
        | refine Put.buf rfl ?_
        | refine Look.at1 ?_
        | refine Look.at2 ?_
        | refine Look.at3 ?_
        | refine Look.at4 ?_
        | refine Look.at5 ?_
        | refine Look.at6 ?_
        | refine Look.at7 ?_
        | refine Look.at8 ?_
        | with_reducible refine Val.i64 (by omega) (by omega) ?_
        | with_reducible refine Val.u8 (by omega) (by omega) ?_
        | with_reducible refine Val.u32 (by omega) (by omega) ?_
        | with_reducible refine Val.u64 (by omega) (by omega) ?_
        | with_reducible refine Val.u8m ?_
        | with_reducible refine Val.u32m ?_
        | with_reducible refine Val.u64m ?_
        | with_reducible refine Val.shr8 ?_
        | with_reducible refine Val.shr16 (by decide) ?_
        | with_reducible refine Val.shr24 (by decide) ?_
        | with_reducible refine Val.raw ?_
        | refine Branch.not ?_
        | refine Branch.and ?_
        | refine Branch.or ?_
        | refine Branch.dt (by assumption) ?_
        | refine Branch.df (by assumption) ?_
        | refine Branch.dt rfl ?_
        | refine Branch.dt (by omega) ?_
        | refine Branch.df (by omega) ?_
        | refine Branch.t rfl ?_
        | refine Branch.f rfl ?_
        | refine Branch.t (by assumption) ?_
        | refine Branch.f (by assumption) ?_
        | refine Branch.d (fun _ => ?_) (fun _ => ?_)
        | refine Branch.mk (fun _ => ?_) (fun _ => ?_)
        | refine Need.mk (by first | omega | decide | rfl) ?_
        | refine Idx.nat (by omega) ?_
        | refine Idx.auto (by first | omega | decide) (by first | omega | decide) ?_
        | refine Cell.ro rfl ?_
        | refine SDraw.all (by kernel_rfl) ?_
        | refine Kept.k0 ?_
        | refine Kept.k1 ?_
        | refine Kept.k2 ?_
        | refine Kept.k3 ?_
        | refine Kept.k4 ?_))
    all_goals (conv => whnf)
    exact Keep.all (h _ hM2)
  · rw [if_neg hne] at h
    repeat' ((conv => whnf); (first
        | refine hc _ (fun H' hM' => ?_)
        | refine New.mk (fun _ => ?_)
        | refine Look.at0 ?_
        | refine Cell.row ?_
        | refine Cell.buf ?_
        | refine Cells.row rfl ?_
        | refine Put.row rfl ?_
        | refine Put.buf rfl ?_
        | refine Look.at1 ?_
        | refine Look.at2 ?_
        | refine Look.at3 ?_
        | refine Look.at4 ?_
        | refine Look.at5 ?_
        | refine Look.at6 ?_
        | refine Look.at7 ?_
        | refine Look.at8 ?_
        | with_reducible refine Val.i64 (by omega) (by omega) ?_
        | with_reducible refine Val.u8 (by omega) (by omega) ?_
        | with_reducible refine Val.u32 (by omega) (by omega) ?_
        | with_reducible refine Val.u64 (by omega) (by omega) ?_
        | with_reducible refine Val.u8m ?_
        | with_reducible refine Val.u32m ?_
        | with_reducible refine Val.u64m ?_
        | with_reducible refine Val.shr8 ?_
        | with_reducible refine Val.shr16 (by decide) ?_
        | with_reducible refine Val.shr24 (by decide) ?_
        | with_reducible refine Val.raw ?_
        | refine Branch.not ?_
        | refine Branch.and ?_
        | refine Branch.or ?_
        | refine Branch.dt (by assumption) ?_
        | refine Branch.df (by assumption) ?_
        | refine Branch.dt rfl ?_
        | refine Branch.dt (by omega) ?_
        | refine Branch.df (by omega) ?_
        | refine Branch.t rfl ?_
        | refine Branch.f rfl ?_
        | refine Branch.t (by assumption) ?_
        | refine Branch.f (by assumption) ?_
        | refine Branch.d (fun _ => ?_) (fun _ => ?_)
        | refine Branch.mk (fun _ => ?_) (fun _ => ?_)
        | refine Need.mk (by first | omega | decide | rfl) ?_
        | refine Idx.nat (by omega) ?_
        | refine Idx.auto (by first | omega | decide) (by first | omega | decide) ?_
        | refine Cell.ro rfl ?_
        | refine SDraw.all (by kernel_rfl) ?_
        | refine Kept.k0 ?_
        | refine Kept.k1 ?_
        | refine Kept.k2 ?_
        | refine Kept.k3 ?_
        | refine Kept.k4 ?_))
    all_goals (conv => whnf)
    exact Keep.all (h _ hM')
end
end Go.Proofs.Ytjnlpaojaikjaaa

/- Layer 26: lists of numbers looked through: by walks. -/
set_option linter.unusedVariables false
set_option linter.unusedSimpArgs false
set_option maxRecDepth 100000
set_option maxHeartbeats 4000000
namespace Go.Proofs.Ytjnlpaojaikjaaa
open Sx
/-- The first j are changed, each by its place. -/
def updIx {α : Type} (f : Nat → α → α) (j : Nat) (l : List α) : List α := l.mapIdx fun i x => if i < j then f i x else x
theorem updIx_zero {α : Type} (f : Nat → α → α) (l : List α) : updIx f 0 l = l := by
  refine List.ext_getElem? fun i => ?_
  unfold updIx
  rw [List.getElem?_mapIdx]
  cases l[i]? <;> simp
theorem updIx_len {α : Type} (f : Nat → α → α) (j : Nat) (l : List α) : (updIx f j l).length = l.length := by unfold updIx; simp
theorem updIx_all {α : Type} {f : Nat → α → α} {j : Nat} {l : List α} (h : l.length ≤ j) : updIx f j l = l.mapIdx f := by
  refine List.ext_getElem? fun i => ?_
  unfold updIx
  rw [List.getElem?_mapIdx, List.getElem?_mapIdx]
  cases hq : l[i]? with
  | none => rfl
  | some x => have := (List.getElem?_eq_some_iff.1 hq).1; simp; intro h'; omega
theorem updIx_nth {α : Type} {f : Nat → α → α} {j : Nat} {l : List α} {x : α} (h : l[j]? = some x) : (updIx f j l)[j]? = some x := by
  unfold updIx
  rw [List.getElem?_mapIdx, h]; simp
theorem updIx_set {α : Type} {f : Nat → α → α} {j : Nat} {l : List α} {x : α} (h : l[j]? = some x) : (updIx f j l).set j (f j x) = updIx f (j + 1) l := by
  refine List.ext_getElem? fun i => ?_
  rw [List.getElem?_set, updIx_len]
  have hl := (List.getElem?_eq_some_iff.1 h).1
  unfold updIx
  rw [List.getElem?_mapIdx, List.getElem?_mapIdx]
  by_cases hij : j = i
  · subst hij
    rw [if_pos rfl, if_pos hl, h]; simp
  · rw [if_neg hij]
    cases hq : l[i]? with
    | none => rfl
    | some y =>
      simp only [Option.map_some]
      by_cases h1 : i < j
      · rw [if_pos h1, if_pos (by omega)]
      · rw [if_neg h1, if_neg (by omega)]
/-- A slice of numbers in a buffer of the call's own, or an empty one. -/
def IB (sv : Value) (H : Heap) (xs : List Int) : Prop := ∃ a c, sv = .slice a xs.length c ∧ xs.length ≤ maxLen ∧ (xs = [] ∨ ∃ r N, a = some ⟨r, 0, none⟩ ∧ (r, Blk.buf 3 (xs.flatMap cI) N) ∈ H)
theorem IB.keep {sv : Value} {H H' : Heap} {xs : List Int} (h : IB sv H xs) (hs : ∀ q ∈ H, kd q.2 = 1003 → q ∈ H') : IB sv H' xs := by
  obtain ⟨a, c, h1, h2, h3⟩ := h
  refine ⟨a, c, h1, h2, ?_⟩
  rcases h3 with h3 | ⟨r, N, h3, h4⟩
  · exact .inl h3
  · exact .inr ⟨r, N, h3, hs _ h4 rfl⟩
theorem IB.inS {sv : Value} {H : Heap} {xs : List Int} (h : IB sv H xs) : InS cI 1 sv H xs := by
  obtain ⟨a, c, rfl, h2, h3⟩ := h
  rcases h3 with rfl | ⟨r, N, rfl, h4⟩
  · exact InS.nil
  · exact InS.buf h4 rfl (fun _ => rfl) h2
inductive S42 (A0 A1 A7 A8 : Value) : List Value → Prop
  | mk {r2 r3 r4 r5 r6 r9 r10 r11 r12 r13 r14 r15 r16 r17 r18 : Value} : S42 A0 A1 A7 A8 [A0, A1, r2, r3, r4, r5, r6, A7, A8, r9, r10, r11, r12, r13, r14, r15, r16, r17, r18]
def I42 (sv : Value) (v : Int) (H : Heap) (xs : List Int) (j : Nat) (S : List Value) (H' : Heap) : Prop := j ≤ xs.length ∧ v ∉ xs.take j ∧ H' = H ∧ S42 sv (.int .i64 v) (.int .i64 (xs.length : Int)) (.int .i64 (j : Int)) S
def I41 (sv fv : Value) (p : Int → Bool) (H : Heap) (xs : List Int) (j : Nat) (S : List Value) (H' : Heap) : Prop := j ≤ xs.length ∧ (∀ x ∈ xs.take j, p x = false) ∧ H' = H ∧ S42 sv fv (.int .i64 (xs.length : Int)) (.int .i64 (j : Int)) S
section
variable {K : Value → Heap → Prop} {sv : Value} {H : Heap} {xs : List Int}
theorem c42 (hin : InS cI 1 sv H xs) (v : Int) (h1 : v ∈ xs → ∀ i : Int, 0 ≤ i → K (.int .i64 i) H) (h0 : v ∉ xs → K (.int .i64 (-1)) H) : SCalls Try.prog 42 [sv, .int .i64 v] H K := by
  obtain ⟨sa, sc, rfl, hml⟩ := hin.sv
  have hml' : xs.length ≤ 9223372036854775807 := by simp only [maxLen] at hml; omega
  refine enter42 ?_
  repeat' ((conv => whnf); (first
      | refine New.mk (fun _ => ?_)
      | refine Look.at0 ?_
      | refine Cell.row ?_
      | refine Cell.buf ?_
      | refine Cells.row rfl ?_
      | refine Put.row rfl ?_
      | refine Put.buf rfl ?_
      | refine Look.at1 ?_
      | refine Look.at2 ?_
      | refine Look.at3 ?_
      | refine Look.at4 ?_
      | refine Look.at5 ?_
      | refine Look.at6 ?_
      | refine Look.at7 ?_
      | refine Look.at8 ?_
      | with_reducible refine Val.i64 (by omega) (by omega) ?_
      | with_reducible refine Val.u8 (by omega) (by omega) ?_
      | with_reducible refine Val.u32 (by omega) (by omega) ?_
      | with_reducible refine Val.u64 (by omega) (by omega) ?_
      | with_reducible refine Val.u8m ?_
      | with_reducible refine Val.u32m ?_
      | with_reducible refine Val.u64m ?_
      | with_reducible refine Val.shr8 ?_
      | with_reducible refine Val.shr16 (by decide) ?_
      | with_reducible refine Val.shr24 (by decide) ?_
      | with_reducible refine Val.raw ?_
      | refine Branch.not ?_
      | refine Branch.and ?_
      | refine Branch.or ?_
      | refine Branch.dt (by assumption) ?_
      | refine Branch.df (by assumption) ?_
      | refine Branch.dt rfl ?_
      | refine Branch.dt (by omega) ?_
      | refine Branch.df (by omega) ?_
      | refine Branch.t rfl ?_
      | refine Branch.f rfl ?_
      | refine Branch.t (by assumption) ?_
      | refine Branch.f (by assumption) ?_
      | refine Branch.d (fun _ => ?_) (fun _ => ?_)
      | refine Branch.mk (fun _ => ?_) (fun _ => ?_)
      | refine Need.mk (by first | omega | decide | rfl) ?_
      | refine Idx.nat (by omega) ?_
      | refine Idx.auto (by first | omega | decide) (by first | omega | decide) ?_
      | refine Cell.ro rfl ?_
      | refine SDraw.all (by kernel_rfl) ?_
      | refine Kept.k0 ?_
      | refine Kept.k1 ?_
      | refine Kept.k2 ?_
      | refine Kept.k3 ?_
      | refine Kept.k4 ?_))
  refine SLoop.invA (I42 (.slice sa xs.length sc) v H xs) (fun j => xs.length - j) 0 (Keep.all ⟨by omega, by simp, rfl, .mk⟩) ?_
  rintro j S H' ⟨hj, hn, rfl, hS⟩ R hR
  cases hS
  by_cases hlt : j < xs.length
  · obtain ⟨x, hx, _, htake⟩ := list_at hlt
    obtain ⟨r, o, c, b, e1, hm, hc⟩ := hin.at1 hx rfl
    injection e1 with e1 _ e3
    subst e1
    repeat' ((conv => whnf); (first
        | refine Look.cell hm hc ?_
        | refine New.mk (fun _ => ?_)
        | refine Look.at0 ?_
        | refine Cell.row ?_
        | refine Cell.buf ?_
        | refine Cells.row rfl ?_
        | refine Put.row rfl ?_
        | refine Put.buf rfl ?_
        | refine Look.at1 ?_
        | refine Look.at2 ?_
        | refine Look.at3 ?_
        | refine Look.at4 ?_
        | refine Look.at5 ?_
        | refine Look.at6 ?_
        | refine Look.at7 ?_
        | refine Look.at8 ?_
        | with_reducible refine Val.i64 (by omega) (by omega) ?_
        | with_reducible refine Val.u8 (by omega) (by omega) ?_
        | with_reducible refine Val.u32 (by omega) (by omega) ?_
        | with_reducible refine Val.u64 (by omega) (by omega) ?_
        | with_reducible refine Val.u8m ?_
        | with_reducible refine Val.u32m ?_
        | with_reducible refine Val.u64m ?_
        | with_reducible refine Val.shr8 ?_
        | with_reducible refine Val.shr16 (by decide) ?_
        | with_reducible refine Val.shr24 (by decide) ?_
        | with_reducible refine Val.raw ?_
        | refine Branch.not ?_
        | refine Branch.and ?_
        | refine Branch.or ?_
        | refine Branch.dt (by assumption) ?_
        | refine Branch.df (by assumption) ?_
        | refine Branch.dt rfl ?_
        | refine Branch.dt (by omega) ?_
        | refine Branch.df (by omega) ?_
        | refine Branch.t rfl ?_
        | refine Branch.f rfl ?_
        | refine Branch.t (by assumption) ?_
        | refine Branch.f (by assumption) ?_
        | refine Branch.d (fun _ => ?_) (fun _ => ?_)
        | refine Branch.mk (fun _ => ?_) (fun _ => ?_)
        | refine Need.mk (by first | omega | decide | rfl) ?_
        | refine Idx.nat (by omega) ?_
        | refine Idx.auto (by first | omega | decide) (by first | omega | decide) ?_
        | refine Cell.ro rfl ?_
        | refine SDraw.all (by kernel_rfl) ?_
        | refine Kept.k0 ?_
        | refine Kept.k1 ?_
        | refine Kept.k2 ?_
        | refine Kept.k3 ?_
        | refine Kept.k4 ?_))
    all_goals (conv => whnf)
    · rename_i he
      exact Keep.all (h1 (he ▸ List.mem_of_getElem? hx) _ (by omega))
    · refine hR (j + 1) _ _ (by omega) (Keep.all ⟨by omega, ?_, rfl, .mk⟩)
      rw [htake]
      intro hm3
      rcases List.mem_append.1 hm3 with hm3 | hm3
      · exact hn hm3
      · exact absurd (List.mem_singleton.1 hm3) (by assumption)
  · have e : j = xs.length := by omega
    subst e
    rw [List.take_length] at hn
    repeat' ((conv => whnf); (first
        | refine New.mk (fun _ => ?_)
        | refine Look.at0 ?_
        | refine Cell.row ?_
        | refine Cell.buf ?_
        | refine Cells.row rfl ?_
        | refine Put.row rfl ?_
        | refine Put.buf rfl ?_
        | refine Look.at1 ?_
        | refine Look.at2 ?_
        | refine Look.at3 ?_
        | refine Look.at4 ?_
        | refine Look.at5 ?_
        | refine Look.at6 ?_
        | refine Look.at7 ?_
        | refine Look.at8 ?_
        | with_reducible refine Val.i64 (by omega) (by omega) ?_
        | with_reducible refine Val.u8 (by omega) (by omega) ?_
        | with_reducible refine Val.u32 (by omega) (by omega) ?_
        | with_reducible refine Val.u64 (by omega) (by omega) ?_
        | with_reducible refine Val.u8m ?_
        | with_reducible refine Val.u32m ?_
        | with_reducible refine Val.u64m ?_
        | with_reducible refine Val.shr8 ?_
        | with_reducible refine Val.shr16 (by decide) ?_
        | with_reducible refine Val.shr24 (by decide) ?_
        | with_reducible refine Val.raw ?_
        | refine Branch.not ?_
        | refine Branch.and ?_
        | refine Branch.or ?_
        | refine Branch.dt (by assumption) ?_
        | refine Branch.df (by assumption) ?_
        | refine Branch.dt rfl ?_
        | refine Branch.dt (by omega) ?_
        | refine Branch.df (by omega) ?_
        | refine Branch.t rfl ?_
        | refine Branch.f rfl ?_
        | refine Branch.t (by assumption) ?_
        | refine Branch.f (by assumption) ?_
        | refine Branch.d (fun _ => ?_) (fun _ => ?_)
        | refine Branch.mk (fun _ => ?_) (fun _ => ?_)
        | refine Need.mk (by first | omega | decide | rfl) ?_
        | refine Idx.nat (by omega) ?_
        | refine Idx.auto (by first | omega | decide) (by first | omega | decide) ?_
        | refine Cell.ro rfl ?_
        | refine SDraw.all (by kernel_rfl) ?_
        | refine Kept.k0 ?_
        | refine Kept.k1 ?_
        | refine Kept.k2 ?_
        | refine Kept.k3 ?_
        | refine Kept.k4 ?_))
    all_goals (conv => whnf)
    exact Keep.all (h0 hn)
theorem c32 (hin : InS cI 1 sv H xs) (v : Int) (h : K (.bool (decide (v ∈ xs))) H) : SCalls Try.prog 32 [sv, .int .i64 v] H K := by
  refine enter32 ?_
  obtain ⟨sa, sc, rfl, hml⟩ := hin.sv
  repeat' ((conv => whnf); (first
      | refine c42 hin v (fun hv i hi => ?_) (fun hv => ?_)
      | refine New.mk (fun _ => ?_)
      | refine Look.at0 ?_
      | refine Cell.row ?_
      | refine Cell.buf ?_
      | refine Cells.row rfl ?_
      | refine Put.row rfl ?_
      | refine Put.buf rfl ?_
      | refine Look.at1 ?_
      | refine Look.at2 ?_
      | refine Look.at3 ?_
      | refine Look.at4 ?_
      | refine Look.at5 ?_
      | refine Look.at6 ?_
      | refine Look.at7 ?_
      | refine Look.at8 ?_
      | with_reducible refine Val.i64 (by omega) (by omega) ?_
      | with_reducible refine Val.u8 (by omega) (by omega) ?_
      | with_reducible refine Val.u32 (by omega) (by omega) ?_
      | with_reducible refine Val.u64 (by omega) (by omega) ?_
      | with_reducible refine Val.u8m ?_
      | with_reducible refine Val.u32m ?_
      | with_reducible refine Val.u64m ?_
      | with_reducible refine Val.shr8 ?_
      | with_reducible refine Val.shr16 (by decide) ?_
      | with_reducible refine Val.shr24 (by decide) ?_
      | with_reducible refine Val.raw ?_
      | refine Branch.not ?_
      | refine Branch.and ?_
      | refine Branch.or ?_
      | refine Branch.dt (by assumption) ?_
      | refine Branch.df (by assumption) ?_
      | refine Branch.dt rfl ?_
      | refine Branch.dt (by omega) ?_
      | refine Branch.df (by omega) ?_
      | refine Branch.t rfl ?_
      | refine Branch.f rfl ?_
      | refine Branch.t (by assumption) ?_
      | refine Branch.f (by assumption) ?_
      | refine Branch.d (fun _ => ?_) (fun _ => ?_)
      | refine Branch.mk (fun _ => ?_) (fun _ => ?_)
      | refine Need.mk (by first | omega | decide | rfl) ?_
      | refine Idx.nat (by omega) ?_
      | refine Idx.auto (by first | omega | decide) (by first | omega | decide) ?_
      | refine Cell.ro rfl ?_
      | refine SDraw.all (by kernel_rfl) ?_
      | refine Kept.k0 ?_
      | refine Kept.k1 ?_
      | refine Kept.k2 ?_
      | refine Kept.k3 ?_
      | refine Kept.k4 ?_))
  all_goals (conv => whnf)
  · rw [decide_eq_true hv] at h
    rw [decide_eq_true (show (0 : Int) ≤ i from hi)]; exact Keep.all h
  · rw [decide_eq_false hv] at h; exact Keep.all h
theorem c41 (hin : InS cI 1 sv H xs) {f : Nat} {cs : List Value} (p : Int → Bool) (hf : ∀ x (K : Value → Heap → Prop), K (.bool (p x)) H → SCalls Try.prog f (.int .i64 x :: cs) H K) (h1 : (∃ x ∈ xs, p x = true) → ∀ i : Int, 0 ≤ i → K (.int .i64 i) H) (h0 : (∀ x ∈ xs, p x = false) → K (.int .i64 (-1)) H) :
    SCalls Try.prog 41 [sv, .func (.func f) ⟨[]⟩ ⟨cs⟩] H K := by
  obtain ⟨sa, sc, rfl, hml⟩ := hin.sv
  have hml' : xs.length ≤ 9223372036854775807 := by simp only [maxLen] at hml; omega
  refine enter41 ?_
  repeat' ((conv => whnf); (first
      | refine New.mk (fun _ => ?_)
      | refine Look.at0 ?_
      | refine Cell.row ?_
      | refine Cell.buf ?_
      | refine Cells.row rfl ?_
      | refine Put.row rfl ?_
      | refine Put.buf rfl ?_
      | refine Look.at1 ?_
      | refine Look.at2 ?_
      | refine Look.at3 ?_
      | refine Look.at4 ?_
      | refine Look.at5 ?_
      | refine Look.at6 ?_
      | refine Look.at7 ?_
      | refine Look.at8 ?_
      | with_reducible refine Val.i64 (by omega) (by omega) ?_
      | with_reducible refine Val.u8 (by omega) (by omega) ?_
      | with_reducible refine Val.u32 (by omega) (by omega) ?_
      | with_reducible refine Val.u64 (by omega) (by omega) ?_
      | with_reducible refine Val.u8m ?_
      | with_reducible refine Val.u32m ?_
      | with_reducible refine Val.u64m ?_
      | with_reducible refine Val.shr8 ?_
      | with_reducible refine Val.shr16 (by decide) ?_
      | with_reducible refine Val.shr24 (by decide) ?_
      | with_reducible refine Val.raw ?_
      | refine Branch.not ?_
      | refine Branch.and ?_
      | refine Branch.or ?_
      | refine Branch.dt (by assumption) ?_
      | refine Branch.df (by assumption) ?_
      | refine Branch.dt rfl ?_
      | refine Branch.dt (by omega) ?_
      | refine Branch.df (by omega) ?_
      | refine Branch.t rfl ?_
      | refine Branch.f rfl ?_
      | refine Branch.t (by assumption) ?_
      | refine Branch.f (by assumption) ?_
      | refine Branch.d (fun _ => ?_) (fun _ => ?_)
      | refine Branch.mk (fun _ => ?_) (fun _ => ?_)
      | refine Need.mk (by first | omega | decide | rfl) ?_
      | refine Idx.nat (by omega) ?_
      | refine Idx.auto (by first | omega | decide) (by first | omega | decide) ?_
      | refine Cell.ro rfl ?_
      | refine SDraw.all (by kernel_rfl) ?_
      | refine Kept.k0 ?_
      | refine Kept.k1 ?_
      | refine Kept.k2 ?_
      | refine Kept.k3 ?_
      | refine Kept.k4 ?_))
  refine SLoop.invA (I41 (.slice sa xs.length sc) (.func (.func f) ⟨[]⟩ ⟨cs⟩) p H xs) (fun j => xs.length - j) 0 (Keep.all ⟨by omega, by simp, rfl, .mk⟩) ?_
  rintro j S H' ⟨hj, hn, rfl, hS⟩ R hR
  cases hS
  by_cases hlt : j < xs.length
  · obtain ⟨x, hx, _, htake⟩ := list_at hlt
    obtain ⟨r, o, c, b, e1, hm, hc⟩ := hin.at1 hx rfl
    injection e1 with e1 _ e3
    subst e1
    repeat' ((conv => whnf); (first
        | refine Look.cell hm hc ?_
        | refine hf x _ ?_
        | refine New.mk (fun _ => ?_)
        | refine Look.at0 ?_
        | refine Cell.row ?_
        | refine Cell.buf ?_
        | refine Cells.row rfl ?_
        | refine Put.row rfl ?_
        | refine Put.buf rfl ?_
        | refine Look.at1 ?_
        | refine Look.at2 ?_
        | refine Look.at3 ?_
        | refine Look.at4 ?_
        | refine Look.at5 ?_
        | refine Look.at6 ?_
        | refine Look.at7 ?_
        | refine Look.at8 ?_
        | with_reducible refine Val.i64 (by omega) (by omega) ?_
        | with_reducible refine Val.u8 (by omega) (by omega) ?_
        | with_reducible refine Val.u32 (by omega) (by omega) ?_
        | with_reducible refine Val.u64 (by omega) (by omega) ?_
        | with_reducible refine Val.u8m ?_
        | with_reducible refine Val.u32m ?_
        | with_reducible refine Val.u64m ?_
        | with_reducible refine Val.shr8 ?_
        | with_reducible refine Val.shr16 (by decide) ?_
        | with_reducible refine Val.shr24 (by decide) ?_
        | with_reducible refine Val.raw ?_
        | refine Branch.not ?_
        | refine Branch.and ?_
        | refine Branch.or ?_
        | refine Branch.dt (by assumption) ?_
        | refine Branch.df (by assumption) ?_
        | refine Branch.dt rfl ?_
        | refine Branch.dt (by omega) ?_
        | refine Branch.df (by omega) ?_
        | refine Branch.t rfl ?_
        | refine Branch.f rfl ?_
        | refine Branch.t (by assumption) ?_
        | refine Branch.f (by assumption) ?_
        | refine Branch.d (fun _ => ?_) (fun _ => ?_)
        | refine Branch.mk (fun _ => ?_) (fun _ => ?_)
        | refine Need.mk (by first | omega | decide | rfl) ?_
        | refine Idx.nat (by omega) ?_
        | refine Idx.auto (by first | omega | decide) (by first | omega | decide) ?_
        | refine Cell.ro rfl ?_
        | refine SDraw.all (by kernel_rfl) ?_
        | refine Kept.k0 ?_
        | refine Kept.k1 ?_
        | refine Kept.k2 ?_
        | refine Kept.k3 ?_
        | refine Kept.k4 ?_))
    all_goals (conv => whnf)
    · rename_i he
      exact Keep.all (h1 ⟨x, List.mem_of_getElem? hx, he⟩ _ (by omega))
    · refine hR (j + 1) _ _ (by omega) (Keep.all ⟨by omega, ?_, rfl, .mk⟩)
      rw [htake]
      intro y hy
      rcases List.mem_append.1 hy with hy | hy
      · exact hn y hy
      · obtain rfl := List.mem_singleton.1 hy; assumption
  · have e : j = xs.length := by omega
    subst e
    rw [List.take_length] at hn
    repeat' ((conv => whnf); (first
        | refine New.mk (fun _ => ?_)
        | refine Look.at0 ?_
        | refine Cell.row ?_
        | refine Cell.buf ?_
        | refine Cells.row rfl ?_
        | refine Put.row rfl ?_
        | refine Put.buf rfl ?_
        | refine Look.at1 ?_
        | refine Look.at2 ?_
        | refine Look.at3 ?_
        | refine Look.at4 ?_
        | refine Look.at5 ?_
        | refine Look.at6 ?_
        | refine Look.at7 ?_
        | refine Look.at8 ?_
        | with_reducible refine Val.i64 (by omega) (by omega) ?_
        | with_reducible refine Val.u8 (by omega) (by omega) ?_
        | with_reducible refine Val.u32 (by omega) (by omega) ?_
        | with_reducible refine Val.u64 (by omega) (by omega) ?_
        | with_reducible refine Val.u8m ?_
        | with_reducible refine Val.u32m ?_
        | with_reducible refine Val.u64m ?_
        | with_reducible refine Val.shr8 ?_
        | with_reducible refine Val.shr16 (by decide) ?_
        | with_reducible refine Val.shr24 (by decide) ?_
        | with_reducible refine Val.raw ?_
        | refine Branch.not ?_
        | refine Branch.and ?_
        | refine Branch.or ?_
        | refine Branch.dt (by assumption) ?_
        | refine Branch.df (by assumption) ?_
        | refine Branch.dt rfl ?_
        | refine Branch.dt (by omega) ?_
        | refine Branch.df (by omega) ?_
        | refine Branch.t rfl ?_
        | refine Branch.f rfl ?_
        | refine Branch.t (by assumption) ?_
        | refine Branch.f (by assumption) ?_
        | refine Branch.d (fun _ => ?_) (fun _ => ?_)
        | refine Branch.mk (fun _ => ?_) (fun _ => ?_)
        | refine Need.mk (by first | omega | decide | rfl) ?_
        | refine Idx.nat (by omega) ?_
        | refine Idx.auto (by first | omega | decide) (by first | omega | decide) ?_
        | refine Cell.ro rfl ?_
        | refine SDraw.all (by kernel_rfl) ?_
        | refine Kept.k0 ?_
        | refine Kept.k1 ?_
        | refine Kept.k2 ?_
        | refine Kept.k3 ?_
        | refine Kept.k4 ?_))
    all_goals (conv => whnf)
    exact Keep.all (h0 hn)
theorem c30 (hin : InS cI 1 sv H xs) {f : Nat} {cs : List Value} (p : Int → Bool) (hf : ∀ x (K : Value → Heap → Prop), K (.bool (p x)) H → SCalls Try.prog f (.int .i64 x :: cs) H K) (h : K (.bool (xs.any p)) H) :
    SCalls Try.prog 30 [sv, .func (.func f) ⟨[]⟩ ⟨cs⟩] H K := by
  refine enter30 ?_
  obtain ⟨sa, sc, rfl, hml⟩ := hin.sv
  repeat' ((conv => whnf); (first
      | refine c41 hin p hf (fun hv i hi => ?_) (fun hv => ?_)
      | refine New.mk (fun _ => ?_)
      | refine Look.at0 ?_
      | refine Cell.row ?_
      | refine Cell.buf ?_
      | refine Cells.row rfl ?_
      | refine Put.row rfl ?_
      | refine Put.buf rfl ?_
      | refine Look.at1 ?_
      | refine Look.at2 ?_
      | refine Look.at3 ?_
      | refine Look.at4 ?_
      | refine Look.at5 ?_
      | refine Look.at6 ?_
      | refine Look.at7 ?_
      | refine Look.at8 ?_
      | with_reducible refine Val.i64 (by omega) (by omega) ?_
      | with_reducible refine Val.u8 (by omega) (by omega) ?_
      | with_reducible refine Val.u32 (by omega) (by omega) ?_
      | with_reducible refine Val.u64 (by omega) (by omega) ?_
      | with_reducible refine Val.u8m ?_
      | with_reducible refine Val.u32m ?_
      | with_reducible refine Val.u64m ?_
      | with_reducible refine Val.shr8 ?_
      | with_reducible refine Val.shr16 (by decide) ?_
      | with_reducible refine Val.shr24 (by decide) ?_
      | with_reducible refine Val.raw ?_
      | refine Branch.not ?_
      | refine Branch.and ?_
      | refine Branch.or ?_
      | refine Branch.dt (by assumption) ?_
      | refine Branch.df (by assumption) ?_
      | refine Branch.dt rfl ?_
      | refine Branch.dt (by omega) ?_
      | refine Branch.df (by omega) ?_
      | refine Branch.t rfl ?_
      | refine Branch.f rfl ?_
      | refine Branch.t (by assumption) ?_
      | refine Branch.f (by assumption) ?_
      | refine Branch.d (fun _ => ?_) (fun _ => ?_)
      | refine Branch.mk (fun _ => ?_) (fun _ => ?_)
      | refine Need.mk (by first | omega | decide | rfl) ?_
      | refine Idx.nat (by omega) ?_
      | refine Idx.auto (by first | omega | decide) (by first | omega | decide) ?_
      | refine Cell.ro rfl ?_
      | refine SDraw.all (by kernel_rfl) ?_
      | refine Kept.k0 ?_
      | refine Kept.k1 ?_
      | refine Kept.k2 ?_
      | refine Kept.k3 ?_
      | refine Kept.k4 ?_))
  all_goals (conv => whnf)
  · rw [show xs.any p = true from List.any_eq_true.2 hv] at h
    rw [decide_eq_true (show (0 : Int) ≤ i from hi)]; exact Keep.all h
  · rw [show xs.any p = false from List.any_eq_false.2 fun x hx => by rw [hv x hx]; decide] at h; exact Keep.all h
end
end Go.Proofs.Ytjnlpaojaikjaaa

/- Layer 26: all see what is not missed: by walks. -/
set_option linter.unusedVariables false
set_option linter.unusedSimpArgs false
set_option maxRecDepth 100000
set_option maxHeartbeats 4000000
namespace Go.Proofs.Ytjnlpaojaikjaaa
open Sx
def incC (c : Int) : Int := IntKind.u64.wrap (c + 1)
def isTh (there : List Bool) (n : Int) : Bool := there[n.toNat]?.getD false
/-- What one sees. -/
def see1 (there : List Bool) (own c : Int) (s : Int × Option (Int × Int)) : Int × Option (Int × Int) := if isTh there s.1 = true then (s.1, some (own, c)) else s
def seeP (there : List Bool) (own c : Int) (ks : List Int) (l : List (Int × Option (Int × Int))) : List (Int × Option (Int × Int)) := l.map fun s => if s.1 ∈ ks then see1 there own c s else s
def syncV (there : List Bool) (missed : List Int) (c : Int) (i : Nat) (v : Lv) : Lv :=
  if isTh there v.prod = true ∧ (i : Int) ∉ missed then { v with seen := v.seen.map (see1 there v.own c) } else v
def Mc.sync (M : Mc) (missed : List Int) : Int × Mc :=
  if missed.any (fun v => !decide (0 ≤ v ∧ v < (M.vs.length : Int))) = true then (1, M) else (0, { M with cyc := incC M.cyc, vs := M.vs.mapIdx (syncV M.there missed (incC M.cyc)) })
theorem see1_fst (there : List Bool) (own c : Int) (s : Int × Option (Int × Int)) : (see1 there own c s).1 = s.1 := by unfold see1; split <;> rfl
theorem seeP_fst (there : List Bool) (own c : Int) (ks : List Int) (l : List (Int × Option (Int × Int))) : (seeP there own c ks l).map Prod.fst = l.map Prod.fst := by
  unfold seeP
  rw [List.map_map]
  refine List.map_congr_left fun s _ => ?_
  show (if s.1 ∈ ks then see1 there own c s else s).1 = s.1
  split
  · exact see1_fst _ _ _ _
  · rfl
theorem seeP_nil (there : List Bool) (own c : Int) (l : List (Int × Option (Int × Int))) : seeP there own c [] l = l := by
  unfold seeP
  conv => rhs; rw [← List.map_id l]
  exact List.map_congr_left fun s _ => by rw [if_neg (by simp)]; rfl
theorem seeP_all {there : List Bool} {own c : Int} {ks : List Int} {l : List (Int × Option (Int × Int))} (h : ∀ s ∈ l, s.1 ∈ ks) : seeP there own c ks l = l.map (see1 there own c) :=
  List.map_congr_left fun s hs => by rw [if_pos (h s hs)]
theorem seeP_yes {there : List Bool} {own c k : Int} {ks : List Int} {l : List (Int × Option (Int × Int))} (ht : isTh there k = true) (hk : k ∉ ks) : setS k (some (own, c)) (seeP there own c ks l) = seeP there own c (ks ++ [k]) l := by
  unfold setS seeP
  rw [List.map_map]
  refine List.map_congr_left fun s _ => ?_
  show (if (if s.1 ∈ ks then see1 there own c s else s).1 = k then ((if s.1 ∈ ks then see1 there own c s else s).1, some (own, c)) else (if s.1 ∈ ks then see1 there own c s else s)) = _
  by_cases h1 : s.1 ∈ ks
  · rw [if_pos h1, if_pos (show s.1 ∈ ks ++ [k] from List.mem_append_left _ h1), see1_fst, if_neg (fun (e : s.1 = k) => hk (by rw [← e]; exact h1))]
  · rw [if_neg h1]
    by_cases h2 : s.1 = k
    · rw [if_pos h2, if_pos (by rw [h2]; simp)]
      unfold see1
      rw [h2, ht, if_pos rfl]
    · rw [if_neg h2, if_neg (by
        intro h3
        rcases List.mem_append.1 h3 with h3 | h3
        · exact h1 h3
        · exact h2 (List.mem_singleton.1 h3))]
theorem seeP_not {there : List Bool} {own c k : Int} {ks : List Int} {l : List (Int × Option (Int × Int))} (ht : isTh there k = false) : seeP there own c ks l = seeP there own c (ks ++ [k]) l := by
  unfold seeP
  refine List.map_congr_left fun s _ => ?_
  by_cases h1 : s.1 ∈ ks
  · rw [if_pos h1, if_pos (show s.1 ∈ ks ++ [k] from List.mem_append_left _ h1)]
  · rw [if_neg h1]
    by_cases h2 : s.1 = k
    · rw [if_pos (by rw [h2]; simp)]
      unfold see1
      rw [h2, ht, if_neg (by decide)]
    · rw [if_neg (by
        intro h3
        rcases List.mem_append.1 h3 with h3 | h3
        · exact h1 h3
        · exact h2 (List.mem_singleton.1 h3))]
theorem filter_less {ks l : List Int} {k : Int} (hl : k ∈ l) (hk : k ∉ ks) : (l.filter fun x => decide (x ∉ ks ++ [k])).length < (l.filter fun x => decide (x ∉ ks)).length := by
  have e : (l.filter fun x => decide (x ∉ ks ++ [k])) = (l.filter fun x => decide (x ∉ ks)).filter fun x => decide (x ≠ k) := by
    rw [List.filter_filter]
    refine List.filter_congr fun x _ => ?_
    by_cases h1 : x ∈ ks <;> by_cases h2 : x = k <;> simp [h1, h2]
  rw [e, List.length_filter_lt_length_iff_exists]
  exact ⟨k, List.mem_filter.2 ⟨hl, decide_eq_true hk⟩, by simp⟩
theorem Ents.set {H H' : Heap} {es : List (Ent Int)} {clk : Nat} {seen : List (Int × Option (Int × Int))} (hE : Ents H es clk seen) (ho : (seen.map Prod.fst).Nodup) {i : Nat} {e : Ent Int} (he : es[i]? = some e) {n : Int} (hn : e.key = n) {u : Value} {o : Option (Int × Int)}
    (hr : RelE H' ⟨n, u, e.born⟩ (n, o)) (hs : ∀ q ∈ H, kd q.2 = 77 → q ∈ H') : Ents H' (es.set i ⟨n, u, e.born⟩) clk (setS n o seen) := by
  obtain ⟨s, hsi, hs1, _, _⟩ := hE.yes ho he hn
  have hE' := hE.mono hs
  have hil := (List.getElem?_eq_some_iff.1 he).1
  refine ⟨fun x hx => ?_, ?_, ?_, fun k' e' s' he' hs' => ?_⟩
  · rcases List.mem_or_eq_of_mem_set hx with hx | rfl
    · exact hE.born x hx
    · exact hE.born e (List.mem_of_getElem? he)
  · have : (es.set i ⟨n, u, e.born⟩).map Ent.born = es.map Ent.born := map_set_same he rfl
    rw [this]; exact hE.once
  · rw [List.length_set, hE.len]; unfold setS; rw [List.length_map]
  · rw [setS_at ho hsi hs1, List.getElem?_set] at hs'
    rw [List.getElem?_set] at he'
    by_cases hk' : i = k'
    · subst hk'
      rw [if_pos rfl, if_pos hil] at he'
      rw [if_pos rfl, if_pos (by rw [← hE.len]; exact hil)] at hs'
      injection he' with he'; injection hs' with hs'
      subst he'; subst hs'
      exact hr
    · rw [if_neg hk'] at he' hs'
      exact hE'.rel k' e' s' he' hs'
section
variable {K : Value → Heap → Prop} {gm : Nat} {ids : List (Nat × Nat)} {M : Mc} {H : Heap}
theorem c31 (hM : Mach gm ids M H) {p2 : Nat} (h2 : (p2, Blk.row 26 [ptr gm] (0, 0)) ∈ H) (v : Int) (h : K (.bool (!decide (0 ≤ v ∧ v < (M.vs.length : Int)))) H) : SCalls Try.prog 31 [.int .i64 v, ptr p2] H K := by
  refine enter31 ?_
  repeat' ((conv => whnf); (first
      | refine Look.mem h2 (fun _ _ _ => ?_)
      | refine c29 hM v (fun hv => ?_) (fun hv => ?_)
      | refine New.mk (fun _ => ?_)
      | refine Look.at0 ?_
      | refine Cell.row ?_
      | refine Cell.buf ?_
      | refine Cells.row rfl ?_
      | refine Put.row rfl ?_
      | refine Put.buf rfl ?_
      | refine Look.at1 ?_
      | refine Look.at2 ?_
      | refine Look.at3 ?_
      | refine Look.at4 ?_
      | refine Look.at5 ?_
      | refine Look.at6 ?_
      | refine Look.at7 ?_
      | refine Look.at8 ?_
      | with_reducible refine Val.i64 (by omega) (by omega) ?_
      | with_reducible refine Val.u8 (by omega) (by omega) ?_
      | with_reducible refine Val.u32 (by omega) (by omega) ?_
      | with_reducible refine Val.u64 (by omega) (by omega) ?_
      | with_reducible refine Val.u8m ?_
      | with_reducible refine Val.u32m ?_
      | with_reducible refine Val.u64m ?_
      | with_reducible refine Val.shr8 ?_
      | with_reducible refine Val.shr16 (by decide) ?_
      | with_reducible refine Val.shr24 (by decide) ?_
      | with_reducible refine Val.raw ?_
      | refine Branch.not ?_
      | refine Branch.and ?_
      | refine Branch.or ?_
      | refine Branch.dt (by assumption) ?_
      | refine Branch.df (by assumption) ?_
      | refine Branch.dt rfl ?_
      | refine Branch.dt (by omega) ?_
      | refine Branch.df (by omega) ?_
      | refine Branch.t rfl ?_
      | refine Branch.f rfl ?_
      | refine Branch.t (by assumption) ?_
      | refine Branch.f (by assumption) ?_
      | refine Branch.d (fun _ => ?_) (fun _ => ?_)
      | refine Branch.mk (fun _ => ?_) (fun _ => ?_)
      | refine Need.mk (by first | omega | decide | rfl) ?_
      | refine Idx.nat (by omega) ?_
      | refine Idx.auto (by first | omega | decide) (by first | omega | decide) ?_
      | refine Cell.ro rfl ?_
      | refine SDraw.all (by kernel_rfl) ?_
      | refine Kept.k0 ?_
      | refine Kept.k1 ?_
      | refine Kept.k2 ?_
      | refine Kept.k3 ?_
      | refine Kept.k4 ?_))
  all_goals (conv => whnf)
  · rw [decide_eq_true hv] at h; exact Keep.all h
  · rw [decide_eq_false hv] at h; exact Keep.all h
inductive S16a (A1 A2 A6 A21 A22 A23 A48 : Value) : List Value → Prop
  | mk {r0 r3 r4 r5 r7 r8 r9 r10 r11 r12 r13 r14 r15 r16 r17 r18 r19 r20 r24 r25 r26 r27 r28 r29 r30 r31 r32 r33 r34 r35 r36 r37 r38 r39 r40 r41 r42 r43 r44 r45 r46 r47 r49 r50 r51 r52 r53 r54 r55 r56 r57 r58 r59 r60 r61 r62 r63 r64 r65 r66 r67 r68 r69 r70 r71 r72 r73 r74 r75 : Value} : S16a A1 A2 A6 A21 A22 A23 A48 [r0, A1, A2, r3, r4, r5, A6, r7, r8, r9, r10, r11, r12, r13, r14, r15, r16, r17, r18, r19, r20, A21, A22, A23, r24, r25, r26, r27, r28, r29, r30, r31, r32, r33, r34, r35, r36, r37, r38, r39, r40, r41, r42, r43, r44, r45, r46, r47, A48, r49, r50, r51, r52, r53, r54, r55, r56, r57, r58, r59, r60, r61, r62, r63, r64, r65, r66, r67, r68, r69, r70, r71, r72, r73, r74, r75]
structure T16a where
  (ks : List Int) (sn : List Nat) (es : List (Ent Int))
def I16a (missed : Value) (xs : List Int) (p2 : Nat) (la : Option Addr) (nl lc : Nat) (gm : Nat) (ids : List (Nat × Nat)) (M : Mc) (j : Nat) (p : Nat × Nat) (v : Lv) (clk q : Nat) (x : T16a) (S : List Value) (H : Heap) : Prop :=
  S16a missed (ptr p2) (ptr p.1) (.slice la nl lc) (.int .i64 (nl : Int)) (.int .i64 (j : Int)) (ptr q) S ∧
  Mach gm ids { M with vs := M.vs.set j { v with seen := seeP M.there v.own M.cyc x.ks v.seen } } H ∧ PB 68 la lc H (ids.map Prod.fst) ∧ (p2, Blk.row 26 [ptr gm] (0, 0)) ∈ H ∧
  (p.2, mapB kI x.es clk) ∈ H ∧ Ents H x.es clk (seeP M.there v.own M.cyc x.ks v.seen) ∧ (q, iterB p.2 clk x.sn clk) ∈ H ∧ (∀ e ∈ x.es, (e.born ∈ x.sn ↔ e.key ∈ x.ks)) ∧ IB missed H xs
theorem l16a {Qp : Post} {missed : Value} {xs : List Int} {p2 q clk j : Nat} {la : Option Addr} {lc : Nat} {p : Nat × Nat} {v : Lv} {es : List (Ent Int)} (hp : ids[j]? = some p) (hv : M.vs[j]? = some v) (hok : v.Ok M.there.length) (hM : Mach gm ids M H) (hb : PB 68 la lc H (ids.map Prod.fst)) (h2 : (p2, Blk.row 26 [ptr gm] (0, 0)) ∈ H)
    (hmp : (p.2, mapB kI es clk) ∈ H) (hE : Ents H es clk v.seen) (hq : (q, iterB p.2 clk [] clk) ∈ H) (hxx : IB missed H xs) (S : List Value)
    (hS : S16a missed (ptr p2) (ptr p.1) (.slice la ids.length lc) (.int .i64 (ids.length : Int)) (.int .i64 (j : Int)) (ptr q) S)
    (hQ : ∀ S H', S16a missed (ptr p2) (ptr p.1) (.slice la ids.length lc) (.int .i64 (ids.length : Int)) (.int .i64 (j : Int)) (ptr q) S → Mach gm ids { M with vs := M.vs.set j { v with seen := v.seen.map (see1 M.there v.own M.cyc) } } H' → PB 68 la lc H' (ids.map Prod.fst) → (p2, Blk.row 26 [ptr gm] (0, 0)) ∈ H' → IB missed H' xs → Qp (.exit 2) S H') :
    SLoop Try.prog X16_l0 Qp S H := by
  have hjl := (List.getElem?_eq_some_iff.1 hv).1
  have hself : M.vs.set j { v with seen := v.seen } = M.vs := by
    obtain ⟨hl1, hl2⟩ := List.getElem?_eq_some_iff.1 hv
    rw [show ({ v with seen := v.seen } : Lv) = v from rfl, ← hl2, List.set_getElem_self]
  refine SLoop.invA (I16a missed xs p2 la ids.length lc gm ids M j p v clk q) (fun x => ((v.seen.map Prod.fst).filter fun k => decide (k ∉ x.ks)).length) ⟨[], [], es⟩ (Keep.all ⟨hS, by rw [seeP_nil, hself]; exact hM, hb, h2, hmp, by rw [seeP_nil]; exact hE, hq, by simp, hxx⟩) ?_
  rintro ⟨ks, sn, es'⟩ S H' ⟨hS, hM', hb', h2', hmp', hE', hq', hks, hx'⟩ R hR
  dsimp only at hS hM' hb' h2' hmp' hE' hq' hks hR ⊢
  cases hS
  have hj1 : (M.vs.set j { v with seen := seeP M.there v.own M.cyc ks v.seen })[j]? = some { v with seen := seeP M.there v.own M.cyc ks v.seen } := by rw [List.getElem?_set, if_pos rfl, if_pos hjl]
  have hrow := (hM'.var j p _ hp hj1).row
  obtain ⟨gt, nt, ct, la2, lc2, g1, g2, g3⟩ := hM'.ex
  have hfst : ∀ {i : Nat} {e : Ent Int}, es'[i]? = some e → ∃ s, v.seen[i]? = some s ∧ s.1 = e.key := by
    intro i e he
    have hil := (List.getElem?_eq_some_iff.1 he).1
    rw [hE'.len] at hil
    have hs := List.getElem?_eq_getElem hil
    have hr := (hE'.rel i e _ he hs).1
    have e1 : (seeP M.there v.own M.cyc ks v.seen)[i].1 = ((seeP M.there v.own M.cyc ks v.seen).map Prod.fst)[i]'(by rw [List.length_map]; exact hil) := by rw [List.getElem_map]
    have hil2 : i < v.seen.length := by have := hil; unfold seeP at this; rw [List.length_map] at this; exact this
    refine ⟨v.seen[i], List.getElem?_eq_getElem hil2, ?_⟩
    rw [hr, e1]
    simp only [seeP_fst, List.getElem_map]
  have hon : (es'.map Ent.key).Nodup := by
    have : es'.map Ent.key = v.seen.map Prod.fst := by
      refine List.ext_getElem? fun i => ?_
      rw [List.getElem?_map, List.getElem?_map]
      cases hq : es'[i]? with
      | none =>
        have : v.seen[i]? = none := by
          rw [List.getElem?_eq_none_iff] at hq ⊢
          have := hE'.len
          unfold seeP at this
          rw [List.length_map] at this
          omega
        rw [this]; rfl
      | some e =>
        obtain ⟨s, hs, he⟩ := hfst hq
        rw [hs]; simp [he]
    rw [this]; exact hok.once
  repeat' ((conv => whnf); (first
      | refine RawV.nextM (f := kI) rfl hmp' hq' hE'.born (Nat.le_refl _) (fun hall => ?_) (fun e he hn H1 hp1 => ?_)
      | refine New.mk (fun _ => ?_)
      | refine Look.at0 ?_
      | refine Cell.row ?_
      | refine Cell.buf ?_
      | refine Cells.row rfl ?_
      | refine Put.row rfl ?_
      | refine Put.buf rfl ?_
      | refine Look.at1 ?_
      | refine Look.at2 ?_
      | refine Look.at3 ?_
      | refine Look.at4 ?_
      | refine Look.at5 ?_
      | refine Look.at6 ?_
      | refine Look.at7 ?_
      | refine Look.at8 ?_
      | with_reducible refine Val.i64 (by omega) (by omega) ?_
      | with_reducible refine Val.u8 (by omega) (by omega) ?_
      | with_reducible refine Val.u32 (by omega) (by omega) ?_
      | with_reducible refine Val.u64 (by omega) (by omega) ?_
      | with_reducible refine Val.u8m ?_
      | with_reducible refine Val.u32m ?_
      | with_reducible refine Val.u64m ?_
      | with_reducible refine Val.shr8 ?_
      | with_reducible refine Val.shr16 (by decide) ?_
      | with_reducible refine Val.shr24 (by decide) ?_
      | with_reducible refine Val.raw ?_
      | refine Branch.not ?_
      | refine Branch.and ?_
      | refine Branch.or ?_
      | refine Branch.dt (by assumption) ?_
      | refine Branch.df (by assumption) ?_
      | refine Branch.dt rfl ?_
      | refine Branch.dt (by omega) ?_
      | refine Branch.df (by omega) ?_
      | refine Branch.t rfl ?_
      | refine Branch.f rfl ?_
      | refine Branch.t (by assumption) ?_
      | refine Branch.f (by assumption) ?_
      | refine Branch.d (fun _ => ?_) (fun _ => ?_)
      | refine Branch.mk (fun _ => ?_) (fun _ => ?_)
      | refine Need.mk (by first | omega | decide | rfl) ?_
      | refine Idx.nat (by omega) ?_
      | refine Idx.auto (by first | omega | decide) (by first | omega | decide) ?_
      | refine Cell.ro rfl ?_
      | refine SDraw.all (by kernel_rfl) ?_
      | refine Kept.k0 ?_
      | refine Kept.k1 ?_
      | refine Kept.k2 ?_
      | refine Kept.k3 ?_
      | refine Kept.k4 ?_))
  all_goals (conv => whnf)
  · rw [seeP_all (fun s hs => ?_)] at hM'
    · exact hQ _ _ .mk hM' hb' h2' hx'
    · obtain ⟨i, hi, rfl⟩ := List.getElem_of_mem hs
      have hie : i < es'.length := by rw [hE'.len]; unfold seeP; rw [List.length_map]; exact hi
      obtain ⟨s, hs2, he⟩ := hfst (List.getElem?_eq_getElem hie)
      rw [List.getElem?_eq_getElem hi] at hs2
      injection hs2 with hs2
      rw [hs2, he]
      exact (hks _ (List.getElem_mem hie)).1 (hall _ (List.getElem_mem hie))
  · have hMa := hM'.put hp1 ⟨by show 3000 ≠ 67; decide, by show 3000 ≠ 1004; decide, by show 3000 ≠ 1068; decide, by show 3000 ≠ 71; decide, by show 3000 ≠ 2000; decide, by show 3000 ≠ 77; decide⟩
    have hs1 : ∀ z ∈ H', kd z.2 ≠ 3000 → z ∈ H1 := fun z hz hk => hp1.blk hz (ne_kd hk)
    have hba := hb'.keep fun z hz hk => hs1 z hz (by rw [hk]; decide)
    have h2a := hs1 _ h2' (by show 26 ≠ 3000; decide)
    have hmpa := hs1 _ hmp' (by show 2000 ≠ 3000; decide)
    have hqa := hp1.new
    have hEa := hE'.mono (H' := H1) fun z hz hk => hs1 z hz (by rw [hk]; decide)
    have hrowa := hs1 _ hrow (by show 71 ≠ 3000; decide)
    have g1a := hs1 _ g1 (by show 67 ≠ 3000; decide)
    have g2a := hs1 _ g2 (by show 1004 ≠ 3000; decide)
    have hu : ∀ y ∈ es', y.born = e.born → y = e := by
      intro y hy hye
      obtain ⟨a, ha, rfl⟩ := List.getElem_of_mem hy
      obtain ⟨b, hb, rfl⟩ := List.getElem_of_mem he
      by_cases hab : a = b
      · subst hab; rfl
      · exact absurd hye (nodup_ne hE'.once (i := a) (j := b) (by rw [List.getElem?_map, List.getElem?_eq_getElem ha]; rfl) (by rw [List.getElem?_map, List.getElem?_eq_getElem hb]; rfl) hab)
    have huk : ∀ y ∈ es', y.key = e.key → y = e := by
      intro y hy hye
      obtain ⟨a, ha, rfl⟩ := List.getElem_of_mem hy
      obtain ⟨b, hb, rfl⟩ := List.getElem_of_mem he
      by_cases hab : a = b
      · subst hab; rfl
      · exact absurd hye (nodup_ne hon (i := a) (j := b) (by rw [List.getElem?_map, List.getElem?_eq_getElem ha]; rfl) (by rw [List.getElem?_map, List.getElem?_eq_getElem hb]; rfl) hab)
    obtain ⟨ie, hie0, hie⟩ := List.getElem_of_mem he
    obtain ⟨s0, hs0, hs0e⟩ := hfst (show es'[ie]? = some e by rw [List.getElem?_eq_getElem hie0, hie])
    have hs0m := List.mem_of_getElem? hs0
    have hkey := hok.keys s0 hs0m
    rw [hs0e] at hkey
    have hkn : e.key ∉ ks := fun h => hn ((hks e he).2 h)
    have hkl : e.key ∈ v.seen.map Prod.fst := by rw [← hs0e]; exact List.mem_map_of_mem hs0m
    have hless := filter_less hkl hkn
    obtain ⟨t, ht, _, _⟩ := list_at (L := M.there) (j := e.key.toNat) (by omega)
    have hct := bool_at (N := nt) ht
    have hth : isTh M.there e.key = t := by unfold isTh; rw [ht]; rfl
    have hks2 : ∀ e' ∈ es', (e'.born ∈ sn ++ [e.born] ↔ e'.key ∈ ks ++ [e.key]) := by
      intro e' he'
      have h1 := hks e' he'
      rw [List.mem_append, List.mem_append, h1, List.mem_singleton, List.mem_singleton]
      constructor
      · rintro (h | h)
        · exact .inl h
        · exact .inr (by rw [hu e' he' h])
      · rintro (h | h)
        · exact .inl h
        · exact .inr (by rw [huk e' he' h])
    cases t with
    | false =>
      have heq := seeP_not (there := M.there) (own := v.own) (c := M.cyc) (ks := ks) (l := v.seen) hth
      rw [heq] at hMa hEa
      repeat' ((conv => whnf); (first
          | refine RawV.entryM (f := kI) rfl hmpa hqa he hu ?_
          | refine Look.mem h2a (fun _ _ _ => ?_)
          | refine Look.mem g1a (fun _ _ _ => ?_)
          | refine Idx.of e.key.toNat (by omega) (by show e.key.toNat < M.there.length; omega) ?_
          | refine Look.cell g2a hct ?_
          | refine New.mk (fun _ => ?_)
          | refine Look.at0 ?_
          | refine Cell.row ?_
          | refine Cell.buf ?_
          | refine Cells.row rfl ?_
          | refine Put.row rfl ?_
          | refine Put.buf rfl ?_
          | refine Look.at1 ?_
          | refine Look.at2 ?_
          | refine Look.at3 ?_
          | refine Look.at4 ?_
          | refine Look.at5 ?_
          | refine Look.at6 ?_
          | refine Look.at7 ?_
          | refine Look.at8 ?_
          | with_reducible refine Val.i64 (by omega) (by omega) ?_
          | with_reducible refine Val.u8 (by omega) (by omega) ?_
          | with_reducible refine Val.u32 (by omega) (by omega) ?_
          | with_reducible refine Val.u64 (by omega) (by omega) ?_
          | with_reducible refine Val.u8m ?_
          | with_reducible refine Val.u32m ?_
          | with_reducible refine Val.u64m ?_
          | with_reducible refine Val.shr8 ?_
          | with_reducible refine Val.shr16 (by decide) ?_
          | with_reducible refine Val.shr24 (by decide) ?_
          | with_reducible refine Val.raw ?_
          | refine Branch.not ?_
          | refine Branch.and ?_
          | refine Branch.or ?_
          | refine Branch.dt (by assumption) ?_
          | refine Branch.df (by assumption) ?_
          | refine Branch.dt rfl ?_
          | refine Branch.dt (by omega) ?_
          | refine Branch.df (by omega) ?_
          | refine Branch.t rfl ?_
          | refine Branch.f rfl ?_
          | refine Branch.t (by assumption) ?_
          | refine Branch.f (by assumption) ?_
          | refine Branch.d (fun _ => ?_) (fun _ => ?_)
          | refine Branch.mk (fun _ => ?_) (fun _ => ?_)
          | refine Need.mk (by first | omega | decide | rfl) ?_
          | refine Idx.nat (by omega) ?_
          | refine Idx.auto (by first | omega | decide) (by first | omega | decide) ?_
          | refine Cell.ro rfl ?_
          | refine SDraw.all (by kernel_rfl) ?_
          | refine Kept.k0 ?_
          | refine Kept.k1 ?_
          | refine Kept.k2 ?_
          | refine Kept.k3 ?_
          | refine Kept.k4 ?_))
      all_goals (conv => whnf)
      exact hR ⟨ks ++ [e.key], sn ++ [e.born], es'⟩ _ _ hless (Keep.all ⟨.mk, hMa, hba, h2a, hmpa, hEa, hqa, hks2, hx'.keep fun z hz hk => hs1 z hz (by rw [hk]; decide)⟩)
    | true =>
      have heq := seeP_yes (there := M.there) (own := v.own) (c := M.cyc) (ks := ks) (l := v.seen) hth hkn
      repeat' ((conv => whnf); (first
          | refine RawV.entryM (f := kI) rfl hmpa hqa he hu ?_
          | refine Look.mem h2a (fun _ _ _ => ?_)
          | refine Look.mem g1a (fun _ _ _ => ?_)
          | refine Idx.of e.key.toNat (by omega) (by show e.key.toNat < M.there.length; omega) ?_
          | refine Look.cell g2a hct ?_
          | refine Look.mem hrowa (fun _ _ _ => ?_)
          | refine New.mk (fun gs => ?_)
          | refine RawV.updM (f := kI) rfl hty69 (keysInt .i64) (.tail _ hmpa) (fun hno H2 hp2 => ?_) (fun i e2 hi he2 H2 hp2 => ?_)
          | refine New.mk (fun _ => ?_)
          | refine Look.at0 ?_
          | refine Cell.row ?_
          | refine Cell.buf ?_
          | refine Cells.row rfl ?_
          | refine Put.row rfl ?_
          | refine Put.buf rfl ?_
          | refine Look.at1 ?_
          | refine Look.at2 ?_
          | refine Look.at3 ?_
          | refine Look.at4 ?_
          | refine Look.at5 ?_
          | refine Look.at6 ?_
          | refine Look.at7 ?_
          | refine Look.at8 ?_
          | with_reducible refine Val.i64 (by omega) (by omega) ?_
          | with_reducible refine Val.u8 (by omega) (by omega) ?_
          | with_reducible refine Val.u32 (by omega) (by omega) ?_
          | with_reducible refine Val.u64 (by omega) (by omega) ?_
          | with_reducible refine Val.u8m ?_
          | with_reducible refine Val.u32m ?_
          | with_reducible refine Val.u64m ?_
          | with_reducible refine Val.shr8 ?_
          | with_reducible refine Val.shr16 (by decide) ?_
          | with_reducible refine Val.shr24 (by decide) ?_
          | with_reducible refine Val.raw ?_
          | refine Branch.not ?_
          | refine Branch.and ?_
          | refine Branch.or ?_
          | refine Branch.dt (by assumption) ?_
          | refine Branch.df (by assumption) ?_
          | refine Branch.dt rfl ?_
          | refine Branch.dt (by omega) ?_
          | refine Branch.df (by omega) ?_
          | refine Branch.t rfl ?_
          | refine Branch.f rfl ?_
          | refine Branch.t (by assumption) ?_
          | refine Branch.f (by assumption) ?_
          | refine Branch.d (fun _ => ?_) (fun _ => ?_)
          | refine Branch.mk (fun _ => ?_) (fun _ => ?_)
          | refine Need.mk (by first | omega | decide | rfl) ?_
          | refine Idx.nat (by omega) ?_
          | refine Idx.auto (by first | omega | decide) (by first | omega | decide) ?_
          | refine Cell.ro rfl ?_
          | refine SDraw.all (by kernel_rfl) ?_
          | refine Kept.k0 ?_
          | refine Kept.k1 ?_
          | refine Kept.k2 ?_
          | refine Kept.k3 ?_
          | refine Kept.k4 ?_))
      all_goals (conv => whnf)
      · exact absurd rfl (hno e he)
      · obtain rfl : e2 = e := huk e2 (List.mem_of_getElem? hi) he2
        have hs2 : ∀ z ∈ H1, kd z.2 ≠ 2000 → z ∈ H2 := fun z hz hk => hp2.blk (.tail _ hz) (ne_kd hk)
        have hgs : (gs, rowS v.own M.cyc) ∈ H2 := hp2.blk (.head _) (ne_kd (by show 77 ≠ 2000; decide))
        have hM2 := (hMa.mono (H' := _ :: H1) fun z hz => .tail _ hz).setSeen hp hj1 (hEa.mono fun z hz _ => .tail _ hz) hi rfl (u := ptr gs) (o := some (v.own, M.cyc)) ⟨rfl, gs, rfl, .head _⟩ hp2
        have hM2 : Mach gm ids { M with vs := (M.vs.set j { v with seen := seeP M.there v.own M.cyc ks v.seen }).set j { v with seen := setS e2.key (some (v.own, M.cyc)) (seeP M.there v.own M.cyc ks v.seen) } } H2 := hM2
        rw [List.set_set, heq] at hM2
        have hE2 := hEa.set (H' := H2) (by rw [seeP_fst]; exact hok.once) hi rfl (u := ptr gs) (o := some (v.own, M.cyc)) ⟨rfl, gs, rfl, hgs⟩ fun z hz hk => hs2 z hz (by rw [hk]; decide)
        rw [heq] at hE2
        refine hR ⟨ks ++ [e2.key], sn ++ [e2.born], es'.set i ⟨e2.key, ptr gs, e2.born⟩⟩ _ _ hless (Keep.all ⟨.mk, hM2, hba.keep fun z hz hk => hs2 z hz (by rw [hk]; decide), hs2 _ h2a (by show 26 ≠ 2000; decide), hp2.new, hE2, hs2 _ hqa (by show 3000 ≠ 2000; decide), fun e' he' => ?_, (hx'.keep fun z hz hk => hs1 z hz (by rw [hk]; decide)).keep fun z hz hk => hs2 z hz (by rw [hk]; decide)⟩)
        rcases List.mem_or_eq_of_mem_set he' with he' | rfl
        · exact hks2 e' he'
        · exact hks2 e2 he
end
end Go.Proofs.Ytjnlpaojaikjaaa

/- Layer 26: all see what is not missed, going on: by walks. -/
set_option linter.unusedVariables false
set_option linter.unusedSimpArgs false
set_option maxRecDepth 100000
set_option maxHeartbeats 4000000
namespace Go.Proofs.Ytjnlpaojaikjaaa
open Sx
inductive S16 (A1 A2 A21 A22 A23 : Value) : List Value → Prop
  | mk {r0 r3 r4 r5 r6 r7 r8 r9 r10 r11 r12 r13 r14 r15 r16 r17 r18 r19 r20 r24 r25 r26 r27 r28 r29 r30 r31 r32 r33 r34 r35 r36 r37 r38 r39 r40 r41 r42 r43 r44 r45 r46 r47 r48 r49 r50 r51 r52 r53 r54 r55 r56 r57 r58 r59 r60 r61 r62 r63 r64 r65 r66 r67 r68 r69 r70 r71 r72 r73 r74 r75 : Value} : S16 A1 A2 A21 A22 A23 [r0, A1, A2, r3, r4, r5, r6, r7, r8, r9, r10, r11, r12, r13, r14, r15, r16, r17, r18, r19, r20, A21, A22, A23, r24, r25, r26, r27, r28, r29, r30, r31, r32, r33, r34, r35, r36, r37, r38, r39, r40, r41, r42, r43, r44, r45, r46, r47, r48, r49, r50, r51, r52, r53, r54, r55, r56, r57, r58, r59, r60, r61, r62, r63, r64, r65, r66, r67, r68, r69, r70, r71, r72, r73, r74, r75]
section
variable {K : Value → Heap → Prop} {gm : Nat} {ids : List (Nat × Nat)} {M : Mc} {H : Heap}
def I16 (sv : Value) (xs : List Int) (p2 : Nat) (la : Option Addr) (nl lc : Nat) (gm : Nat) (ids : List (Nat × Nat)) (M : Mc) (j : Nat) (S : List Value) (H : Heap) : Prop :=
  j ≤ M.vs.length ∧ S16 sv (ptr p2) (.slice la nl lc) (.int .i64 (nl : Int)) (.int .i64 (j : Int)) S ∧ Mach gm ids { M with vs := updIx (syncV M.there xs M.cyc) j M.vs } H ∧ PB 68 la lc H (ids.map Prod.fst) ∧ (p2, Blk.row 26 [ptr gm] (0, 0)) ∈ H ∧ IB sv H xs
theorem l16 {Qp : Post} {sv : Value} {xs : List Int} {p2 : Nat} {la : Option Addr} {lc : Nat} (hM : Mach gm ids M H) (hb : PB 68 la lc H (ids.map Prod.fst)) (h2 : (p2, Blk.row 26 [ptr gm] (0, 0)) ∈ H) (hx : IB sv H xs) (S : List Value)
    (hS : S16 sv (ptr p2) (.slice la ids.length lc) (.int .i64 (ids.length : Int)) (.int .i64 0) S)
    (hQ : ∀ S i H', S16 sv (ptr p2) (.slice la ids.length lc) (.int .i64 (ids.length : Int)) i S → Mach gm ids { M with vs := M.vs.mapIdx (syncV M.there xs M.cyc) } H' → Qp (.exit 0) S H') : SLoop Try.prog X16_l1 Qp S H := by
  have hlen := hM.len
  have hfew := hM.few
  refine SLoop.invA (I16 sv xs p2 la ids.length lc gm ids M) (fun j => M.vs.length - j) 0 (Keep.all ⟨by omega, hS, by rw [updIx_zero]; exact hM, hb, h2, hx⟩) ?_
  rintro j S H' ⟨hj, hS, hM, hb, h2, hx⟩ R hR
  obtain ⟨xa, xc, rfl, hxl, hxx⟩ := hx
  have hx : IB (.slice xa xs.length xc) H' xs := ⟨xa, xc, rfl, hxl, hxx⟩
  clear hxx
  cases hS
  by_cases hlt : j < M.vs.length
  · obtain ⟨v0, hv0, _, _⟩ := list_at hlt
    obtain ⟨p, v, hp, hv, hVA, hok, hp1⟩ := hM.at (j := j) (by show j < (updIx (syncV M.there xs M.cyc) j M.vs).length; rw [updIx_len]; exact hlt)
    have hv1 : (updIx (syncV M.there xs M.cyc) j M.vs)[j]? = some v := hv
    rw [updIx_nth hv0] at hv1
    injection hv1 with hv1
    subst hv1
    have hok : v0.Ok M.there.length := hok
    obtain ⟨r, N, rfl, hbm, hc⟩ := hb.get hp1
    have next : ∀ S H2, S16 (.slice xa xs.length xc) (ptr p2) (.slice (some ⟨r, 0, none⟩) ids.length lc) (.int .i64 (ids.length : Int)) (.int .i64 ((j + 1 : Nat) : Int)) S → Mach gm ids { M with vs := updIx (syncV M.there xs M.cyc) (j + 1) M.vs } H2 → PB 68 (some ⟨r, 0, none⟩) lc H2 (ids.map Prod.fst) → (p2, Blk.row 26 [ptr gm] (0, 0)) ∈ H2 → IB (.slice xa xs.length xc) H2 xs → R S H2 := fun S H2 h1 h2 h3 h4 h5 =>
      hR (j + 1) _ _ (by omega) (Keep.all ⟨by omega, h1, h2, h3, h4, h5⟩)
    have hset := updIx_set (f := syncV M.there xs M.cyc) hv0
    have hself : (updIx (syncV M.there xs M.cyc) j M.vs).set j v0 = updIx (syncV M.there xs M.cyc) j M.vs := by
      obtain ⟨hl1, hl2⟩ := List.getElem?_eq_some_iff.1 (updIx_nth (f := syncV M.there xs M.cyc) hv0)
      rw [← hl2, List.set_getElem_self]
    obtain ⟨gt, nt, ct, la2, lc2, g1, g2, g3⟩ := hM.ex
    have hrow := hVA.row
    obtain ⟨es, clk, hmp, hE⟩ := hVA.map
    obtain ⟨t, ht, _, _⟩ := list_at (L := M.there) (j := v0.prod.toNat) (by have := hok.prod; omega)
    have hct := bool_at (N := nt) ht
    have hth : isTh M.there v0.prod = t := by unfold isTh; rw [ht]; rfl
    have hpr := hok.prod
    have skip : syncV M.there xs M.cyc j v0 = v0 → ∀ S, S16 (.slice xa xs.length xc) (ptr p2) (.slice (some ⟨r, 0, none⟩) ids.length lc) (.int .i64 (ids.length : Int)) (.int .i64 ((j + 1 : Nat) : Int)) S → R S H' := fun he S hS => by
      rw [he, hself] at hset
      exact next S H' hS (by rw [← hset]; exact hM) hb h2 hx
    have hbits : j ≤ 64 := by omega
    cases t with
    | false =>
      have he : syncV M.there xs M.cyc j v0 = v0 := by unfold syncV; rw [hth, if_neg (fun e => by cases e.1)]
      repeat' ((conv => whnf); (first
          | refine Look.cell hbm hc ?_
          | refine Look.mem h2 (fun _ _ _ => ?_)
          | refine Look.mem g1 (fun _ _ _ => ?_)
          | refine Look.mem hrow (fun _ _ _ => ?_)
          | refine Idx.of v0.prod.toNat (by omega) (by show v0.prod.toNat < M.there.length; omega) ?_
          | refine Look.cell g2 hct ?_
          | refine New.mk (fun _ => ?_)
          | refine Look.at0 ?_
          | refine Cell.row ?_
          | refine Cell.buf ?_
          | refine Cells.row rfl ?_
          | refine Put.row rfl ?_
          | refine Put.buf rfl ?_
          | refine Look.at1 ?_
          | refine Look.at2 ?_
          | refine Look.at3 ?_
          | refine Look.at4 ?_
          | refine Look.at5 ?_
          | refine Look.at6 ?_
          | refine Look.at7 ?_
          | refine Look.at8 ?_
          | with_reducible refine Val.i64 (by omega) (by omega) ?_
          | with_reducible refine Val.u8 (by omega) (by omega) ?_
          | with_reducible refine Val.u32 (by omega) (by omega) ?_
          | with_reducible refine Val.u64 (by omega) (by omega) ?_
          | with_reducible refine Val.u8m ?_
          | with_reducible refine Val.u32m ?_
          | with_reducible refine Val.u64m ?_
          | with_reducible refine Val.shr8 ?_
          | with_reducible refine Val.shr16 (by decide) ?_
          | with_reducible refine Val.shr24 (by decide) ?_
          | with_reducible refine Val.raw ?_
          | refine Branch.not ?_
          | refine Branch.and ?_
          | refine Branch.or ?_
          | refine Branch.dt (by assumption) ?_
          | refine Branch.df (by assumption) ?_
          | refine Branch.dt rfl ?_
          | refine Branch.dt (by omega) ?_
          | refine Branch.df (by omega) ?_
          | refine Branch.t rfl ?_
          | refine Branch.f rfl ?_
          | refine Branch.t (by assumption) ?_
          | refine Branch.f (by assumption) ?_
          | refine Branch.d (fun _ => ?_) (fun _ => ?_)
          | refine Branch.mk (fun _ => ?_) (fun _ => ?_)
          | refine Need.mk (by first | omega | decide | rfl) ?_
          | refine Idx.nat (by omega) ?_
          | refine Idx.auto (by first | omega | decide) (by first | omega | decide) ?_
          | refine Cell.ro rfl ?_
          | refine SDraw.all (by kernel_rfl) ?_
          | refine Kept.k0 ?_
          | refine Kept.k1 ?_
          | refine Kept.k2 ?_
          | refine Kept.k3 ?_
          | refine Kept.k4 ?_))
      all_goals (conv => whnf)
      exact skip he _ .mk
    | true =>
      by_cases hmis : (j : Int) ∈ xs
      · have he : syncV M.there xs M.cyc j v0 = v0 := by unfold syncV; rw [if_neg (fun e => e.2 hmis)]
        repeat' ((conv => whnf); (first
            | refine Look.cell hbm hc ?_
            | refine Look.mem h2 (fun _ _ _ => ?_)
            | refine Look.mem g1 (fun _ _ _ => ?_)
            | refine Look.mem hrow (fun _ _ _ => ?_)
            | refine Idx.of v0.prod.toNat (by omega) (by show v0.prod.toNat < M.there.length; omega) ?_
            | refine Look.cell g2 hct ?_
            | refine c32 hx.inS _ ?_
            | refine New.mk (fun _ => ?_)
            | refine Look.at0 ?_
            | refine Cell.row ?_
            | refine Cell.buf ?_
            | refine Cells.row rfl ?_
            | refine Put.row rfl ?_
            | refine Put.buf rfl ?_
            | refine Look.at1 ?_
            | refine Look.at2 ?_
            | refine Look.at3 ?_
            | refine Look.at4 ?_
            | refine Look.at5 ?_
            | refine Look.at6 ?_
            | refine Look.at7 ?_
            | refine Look.at8 ?_
            | with_reducible refine Val.i64 (by omega) (by omega) ?_
            | with_reducible refine Val.u8 (by omega) (by omega) ?_
            | with_reducible refine Val.u32 (by omega) (by omega) ?_
            | with_reducible refine Val.u64 (by omega) (by omega) ?_
            | with_reducible refine Val.u8m ?_
            | with_reducible refine Val.u32m ?_
            | with_reducible refine Val.u64m ?_
            | with_reducible refine Val.shr8 ?_
            | with_reducible refine Val.shr16 (by decide) ?_
            | with_reducible refine Val.shr24 (by decide) ?_
            | with_reducible refine Val.raw ?_
            | refine Branch.not ?_
            | refine Branch.and ?_
            | refine Branch.or ?_
            | refine Branch.dt (by assumption) ?_
            | refine Branch.df (by assumption) ?_
            | refine Branch.dt rfl ?_
            | refine Branch.dt (by omega) ?_
            | refine Branch.df (by omega) ?_
            | refine Branch.t rfl ?_
            | refine Branch.f rfl ?_
            | refine Branch.t (by assumption) ?_
            | refine Branch.f (by assumption) ?_
            | refine Branch.d (fun _ => ?_) (fun _ => ?_)
            | refine Branch.mk (fun _ => ?_) (fun _ => ?_)
            | refine Need.mk (by first | omega | decide | rfl) ?_
            | refine Idx.nat (by omega) ?_
            | refine Idx.auto (by first | omega | decide) (by first | omega | decide) ?_
            | refine Cell.ro rfl ?_
            | refine SDraw.all (by kernel_rfl) ?_
            | refine Kept.k0 ?_
            | refine Kept.k1 ?_
            | refine Kept.k2 ?_
            | refine Kept.k3 ?_
            | refine Kept.k4 ?_))
        all_goals (conv => whnf)
        exact skip he _ .mk
      · have he : syncV M.there xs M.cyc j v0 = { v0 with seen := v0.seen.map (see1 M.there v0.own M.cyc) } := by unfold syncV; rw [hth, if_pos ⟨rfl, hmis⟩]
        repeat' ((conv => whnf); (first
            | refine Look.cell hbm hc ?_
            | refine Look.mem h2 (fun _ _ _ => ?_)
            | refine Look.mem g1 (fun _ _ _ => ?_)
            | refine Look.mem hrow (fun _ _ _ => ?_)
            | refine Idx.of v0.prod.toNat (by omega) (by show v0.prod.toNat < M.there.length; omega) ?_
            | refine Look.cell g2 hct ?_
            | refine c32 hx.inS _ ?_
            | refine RawV.range (f := kI) (k := 3) (e := 72) rfl (by kernel_rfl) hmp (fun q => ?_)
            | refine New.mk (fun _ => ?_)
            | refine Look.at0 ?_
            | refine Cell.row ?_
            | refine Cell.buf ?_
            | refine Cells.row rfl ?_
            | refine Put.row rfl ?_
            | refine Put.buf rfl ?_
            | refine Look.at1 ?_
            | refine Look.at2 ?_
            | refine Look.at3 ?_
            | refine Look.at4 ?_
            | refine Look.at5 ?_
            | refine Look.at6 ?_
            | refine Look.at7 ?_
            | refine Look.at8 ?_
            | with_reducible refine Val.i64 (by omega) (by omega) ?_
            | with_reducible refine Val.u8 (by omega) (by omega) ?_
            | with_reducible refine Val.u32 (by omega) (by omega) ?_
            | with_reducible refine Val.u64 (by omega) (by omega) ?_
            | with_reducible refine Val.u8m ?_
            | with_reducible refine Val.u32m ?_
            | with_reducible refine Val.u64m ?_
            | with_reducible refine Val.shr8 ?_
            | with_reducible refine Val.shr16 (by decide) ?_
            | with_reducible refine Val.shr24 (by decide) ?_
            | with_reducible refine Val.raw ?_
            | refine Branch.not ?_
            | refine Branch.and ?_
            | refine Branch.or ?_
            | refine Branch.dt (by assumption) ?_
            | refine Branch.df (by assumption) ?_
            | refine Branch.dt rfl ?_
            | refine Branch.dt (by omega) ?_
            | refine Branch.df (by omega) ?_
            | refine Branch.t rfl ?_
            | refine Branch.f rfl ?_
            | refine Branch.t (by assumption) ?_
            | refine Branch.f (by assumption) ?_
            | refine Branch.d (fun _ => ?_) (fun _ => ?_)
            | refine Branch.mk (fun _ => ?_) (fun _ => ?_)
            | refine Need.mk (by first | omega | decide | rfl) ?_
            | refine Idx.nat (by omega) ?_
            | refine Idx.auto (by first | omega | decide) (by first | omega | decide) ?_
            | refine Cell.ro rfl ?_
            | refine SDraw.all (by kernel_rfl) ?_
            | refine Kept.k0 ?_
            | refine Kept.k1 ?_
            | refine Kept.k2 ?_
            | refine Kept.k3 ?_
            | refine Kept.k4 ?_))
        refine l16a (M := { M with vs := updIx (syncV M.there xs M.cyc) j M.vs }) hp hv hok (hM.mono fun z hz => .tail _ hz) (hb.keep fun z hz _ => .tail _ hz) (.tail _ h2) (.tail _ hmp) (hE.mono fun z hz _ => .tail _ hz) (.head _) (hx.keep fun z hz _ => .tail _ hz) _ .mk (fun S H2 hS hM2 hb2 h22 hx2 => ?_)
        cases hS
        have hM3 : Mach gm ids { M with vs := (updIx (syncV M.there xs M.cyc) j M.vs).set j { v0 with seen := v0.seen.map (see1 M.there v0.own M.cyc) } } H2 := hM2
        rw [← he, hset] at hM3
        repeat' ((conv => whnf); (first
            | refine New.mk (fun _ => ?_)
            | refine Look.at0 ?_
            | refine Cell.row ?_
            | refine Cell.buf ?_
            | refine Cells.row rfl ?_
            | refine Put.row rfl ?_
            | refine Put.buf rfl ?_
            | refine Look.at1 ?_
            | refine Look.at2 ?_
            | refine Look.at3 ?_
            | refine Look.at4 ?_
            | refine Look.at5 ?_
            | refine Look.at6 ?_
            | refine Look.at7 ?_
            | refine Look.at8 ?_
            | with_reducible refine Val.i64 (by omega) (by omega) ?_
            | with_reducible refine Val.u8 (by omega) (by omega) ?_
            | with_reducible refine Val.u32 (by omega) (by omega) ?_
            | with_reducible refine Val.u64 (by omega) (by omega) ?_
            | with_reducible refine Val.u8m ?_
            | with_reducible refine Val.u32m ?_
            | with_reducible refine Val.u64m ?_
            | with_reducible refine Val.shr8 ?_
            | with_reducible refine Val.shr16 (by decide) ?_
            | with_reducible refine Val.shr24 (by decide) ?_
            | with_reducible refine Val.raw ?_
            | refine Branch.not ?_
            | refine Branch.and ?_
            | refine Branch.or ?_
            | refine Branch.dt (by assumption) ?_
            | refine Branch.df (by assumption) ?_
            | refine Branch.dt rfl ?_
            | refine Branch.dt (by omega) ?_
            | refine Branch.df (by omega) ?_
            | refine Branch.t rfl ?_
            | refine Branch.f rfl ?_
            | refine Branch.t (by assumption) ?_
            | refine Branch.f (by assumption) ?_
            | refine Branch.d (fun _ => ?_) (fun _ => ?_)
            | refine Branch.mk (fun _ => ?_) (fun _ => ?_)
            | refine Need.mk (by first | omega | decide | rfl) ?_
            | refine Idx.nat (by omega) ?_
            | refine Idx.auto (by first | omega | decide) (by first | omega | decide) ?_
            | refine Cell.ro rfl ?_
            | refine SDraw.all (by kernel_rfl) ?_
            | refine Kept.k0 ?_
            | refine Kept.k1 ?_
            | refine Kept.k2 ?_
            | refine Kept.k3 ?_
            | refine Kept.k4 ?_))
        all_goals (conv => whnf)
        exact next _ _ .mk hM3 hb2 h22 hx2
  · have e : j = M.vs.length := by omega
    subst e
    rw [updIx_all (Nat.le_refl _)] at hM
    repeat' ((conv => whnf); (first
        | refine New.mk (fun _ => ?_)
        | refine Look.at0 ?_
        | refine Cell.row ?_
        | refine Cell.buf ?_
        | refine Cells.row rfl ?_
        | refine Put.row rfl ?_
        | refine Put.buf rfl ?_
        | refine Look.at1 ?_
        | refine Look.at2 ?_
        | refine Look.at3 ?_
        | refine Look.at4 ?_
        | refine Look.at5 ?_
        | refine Look.at6 ?_
        | refine Look.at7 ?_
        | refine Look.at8 ?_
        | with_reducible refine Val.i64 (by omega) (by omega) ?_
        | with_reducible refine Val.u8 (by omega) (by omega) ?_
        | with_reducible refine Val.u32 (by omega) (by omega) ?_
        | with_reducible refine Val.u64 (by omega) (by omega) ?_
        | with_reducible refine Val.u8m ?_
        | with_reducible refine Val.u32m ?_
        | with_reducible refine Val.u64m ?_
        | with_reducible refine Val.shr8 ?_
        | with_reducible refine Val.shr16 (by decide) ?_
        | with_reducible refine Val.shr24 (by decide) ?_
        | with_reducible refine Val.raw ?_
        | refine Branch.not ?_
        | refine Branch.and ?_
        | refine Branch.or ?_
        | refine Branch.dt (by assumption) ?_
        | refine Branch.df (by assumption) ?_
        | refine Branch.dt rfl ?_
        | refine Branch.dt (by omega) ?_
        | refine Branch.df (by omega) ?_
        | refine Branch.t rfl ?_
        | refine Branch.f rfl ?_
        | refine Branch.t (by assumption) ?_
        | refine Branch.f (by assumption) ?_
        | refine Branch.d (fun _ => ?_) (fun _ => ?_)
        | refine Branch.mk (fun _ => ?_) (fun _ => ?_)
        | refine Need.mk (by first | omega | decide | rfl) ?_
        | refine Idx.nat (by omega) ?_
        | refine Idx.auto (by first | omega | decide) (by first | omega | decide) ?_
        | refine Cell.ro rfl ?_
        | refine SDraw.all (by kernel_rfl) ?_
        | refine Kept.k0 ?_
        | refine Kept.k1 ?_
        | refine Kept.k2 ?_
        | refine Kept.k3 ?_
        | refine Kept.k4 ?_))
    all_goals (conv => whnf)
    exact hQ _ _ _ .mk hM
theorem c16 (hM : Mach gm ids M H) {sv : Value} {xs : List Int} (hx : IB sv H xs) (h : ∀ H', Mach gm ids (M.sync xs).2 H' → K (.int .i64 (M.sync xs).1) H') : SCalls Try.prog 16 [ptr gm, sv] H K := by
  obtain ⟨xa, xc, rfl, hxl, hxx⟩ := hx
  have hx : IB (.slice xa xs.length xc) H xs := ⟨xa, xc, rfl, hxl, hxx⟩
  clear hxx
  have h31 : ∀ p2 (x : Int) (K : Value → Heap → Prop), K (.bool (!decide (0 ≤ x ∧ x < (M.vs.length : Int)))) ((p2, Blk.row 26 [ptr gm] (0, 0)) :: H) → SCalls Try.prog 31 [.int .i64 x, ptr p2] ((p2, Blk.row 26 [ptr gm] (0, 0)) :: H) K := fun p2 x K hk =>
    c31 (hM.mono fun z hz => .tail _ hz) (.head _) x hk
  obtain ⟨gt, nt, ct, la, lc, g1, g2, g3⟩ := hM.ex
  refine enter16 ?_
  unfold Mc.sync at h
  cases hb : xs.any (fun v => !decide (0 ≤ v ∧ v < (M.vs.length : Int))) with
  | true =>
    rw [hb, if_pos rfl] at h
    repeat' ((conv => whnf); (first
        | refine c30 ((hx.keep fun z hz _ => .tail _ hz).inS) (fun v => !decide (0 ≤ v ∧ v < (M.vs.length : Int))) (h31 _) ?_
        | refine Branch.t hb ?_
        | refine New.mk (fun _ => ?_)
        | refine Look.at0 ?_
        | refine Cell.row ?_
        | refine Cell.buf ?_
        | refine Cells.row rfl ?_
        | refine Put.row rfl ?_
        | refine Put.buf rfl ?_
        | refine Look.at1 ?_
        | refine Look.at2 ?_
        | refine Look.at3 ?_
        | refine Look.at4 ?_
        | refine Look.at5 ?_
        | refine Look.at6 ?_
        | refine Look.at7 ?_
        | refine Look.at8 ?_
        | with_reducible refine Val.i64 (by omega) (by omega) ?_
        | with_reducible refine Val.u8 (by omega) (by omega) ?_
        | with_reducible refine Val.u32 (by omega) (by omega) ?_
        | with_reducible refine Val.u64 (by omega) (by omega) ?_
        | with_reducible refine Val.u8m ?_
        | with_reducible refine Val.u32m ?_
        | with_reducible refine Val.u64m ?_
        | with_reducible refine Val.shr8 ?_
        | with_reducible refine Val.shr16 (by decide) ?_
        | with_reducible refine Val.shr24 (by decide) ?_
        | with_reducible refine Val.raw ?_
        | refine Branch.not ?_
        | refine Branch.and ?_
        | refine Branch.or ?_
        | refine Branch.dt (by assumption) ?_
        | refine Branch.df (by assumption) ?_
        | refine Branch.dt rfl ?_
        | refine Branch.dt (by omega) ?_
        | refine Branch.df (by omega) ?_
        | refine Branch.t rfl ?_
        | refine Branch.f rfl ?_
        | refine Branch.t (by assumption) ?_
        | refine Branch.f (by assumption) ?_
        | refine Branch.d (fun _ => ?_) (fun _ => ?_)
        | refine Branch.mk (fun _ => ?_) (fun _ => ?_)
        | refine Need.mk (by first | omega | decide | rfl) ?_
        | refine Idx.nat (by omega) ?_
        | refine Idx.auto (by first | omega | decide) (by first | omega | decide) ?_
        | refine Cell.ro rfl ?_
        | refine SDraw.all (by kernel_rfl) ?_
        | refine Kept.k0 ?_
        | refine Kept.k1 ?_
        | refine Kept.k2 ?_
        | refine Kept.k3 ?_
        | refine Kept.k4 ?_))
    all_goals (conv => whnf)
    exact Keep.d1 (h _ hM)
  | false =>
    rw [hb, if_neg (by decide)] at h
    have hcy : IntKind.u64.wrap (M.cyc + 1) = incC M.cyc := rfl
    repeat' ((conv => whnf); (first
        | refine c30 ((hx.keep fun z hz _ => .tail _ hz).inS) (fun v => !decide (0 ≤ v ∧ v < (M.vs.length : Int))) (h31 _) ?_
        | refine Branch.f hb ?_
        | refine Look.at0 ?_
        | with_reducible refine ⟨_, hcy, ?_⟩
        | refine Look.put (rowM gt M.there.length ct la ids.length lc (incC M.cyc)) (.tail _ g1) (PutOk.rowb (by rfl) (by rfl)) (fun H' hp' => ?_)
        | refine Look.mem (.tail _ g1) (fun _ _ _ => ?_)
        | refine New.mk (fun _ => ?_)
        | refine Look.at0 ?_
        | refine Cell.row ?_
        | refine Cell.buf ?_
        | refine Cells.row rfl ?_
        | refine Put.row rfl ?_
        | refine Put.buf rfl ?_
        | refine Look.at1 ?_
        | refine Look.at2 ?_
        | refine Look.at3 ?_
        | refine Look.at4 ?_
        | refine Look.at5 ?_
        | refine Look.at6 ?_
        | refine Look.at7 ?_
        | refine Look.at8 ?_
        | with_reducible refine Val.i64 (by omega) (by omega) ?_
        | with_reducible refine Val.u8 (by omega) (by omega) ?_
        | with_reducible refine Val.u32 (by omega) (by omega) ?_
        | with_reducible refine Val.u64 (by omega) (by omega) ?_
        | with_reducible refine Val.u8m ?_
        | with_reducible refine Val.u32m ?_
        | with_reducible refine Val.u64m ?_
        | with_reducible refine Val.shr8 ?_
        | with_reducible refine Val.shr16 (by decide) ?_
        | with_reducible refine Val.shr24 (by decide) ?_
        | with_reducible refine Val.raw ?_
        | refine Branch.not ?_
        | refine Branch.and ?_
        | refine Branch.or ?_
        | refine Branch.dt (by assumption) ?_
        | refine Branch.df (by assumption) ?_
        | refine Branch.dt rfl ?_
        | refine Branch.dt (by omega) ?_
        | refine Branch.df (by omega) ?_
        | refine Branch.t rfl ?_
        | refine Branch.f rfl ?_
        | refine Branch.t (by assumption) ?_
        | refine Branch.f (by assumption) ?_
        | refine Branch.d (fun _ => ?_) (fun _ => ?_)
        | refine Branch.mk (fun _ => ?_) (fun _ => ?_)
        | refine Need.mk (by first | omega | decide | rfl) ?_
        | refine Idx.nat (by omega) ?_
        | refine Idx.auto (by first | omega | decide) (by first | omega | decide) ?_
        | refine Cell.ro rfl ?_
        | refine SDraw.all (by kernel_rfl) ?_
        | refine Kept.k0 ?_
        | refine Kept.k1 ?_
        | refine Kept.k2 ?_
        | refine Kept.k3 ?_
        | refine Kept.k4 ?_))
    rename_i p2 A1 B1 e1
    have hs : ∀ z ∈ H, kd z.2 ≠ 67 → z ∈ H' := fun z hz hk => hp'.blk (.tail _ hz) (ne_kd hk)
    have h2' : (p2, Blk.row 26 [ptr gm] (0, 0)) ∈ H' := hp'.blk (.head _) (ne_kd (by show 26 ≠ 67; decide))
    have hM' := (hM.mono (H' := _ :: H) fun z hz => .tail _ hz).setCyc (.tail _ g2) (g3.keep fun z hz _ => .tail _ hz) hp'
    have g3' := g3.keep fun z hz hk => hs z hz (by rw [hk]; decide)
    have hx' := hx.keep fun z hz hk => hs z hz (by rw [hk]; decide)
    repeat' ((conv => whnf); (first
        | refine Look.mem h2' (fun _ _ _ => ?_)
        | refine Look.mem hp'.new (fun _ _ _ => ?_)
        | refine New.mk (fun _ => ?_)
        | refine Look.at0 ?_
        | refine Cell.row ?_
        | refine Cell.buf ?_
        | refine Cells.row rfl ?_
        | refine Put.row rfl ?_
        | refine Put.buf rfl ?_
        | refine Look.at1 ?_
        | refine Look.at2 ?_
        | refine Look.at3 ?_
        | refine Look.at4 ?_
        | refine Look.at5 ?_
        | refine Look.at6 ?_
        | refine Look.at7 ?_
        | refine Look.at8 ?_
        | with_reducible refine Val.i64 (by omega) (by omega) ?_
        | with_reducible refine Val.u8 (by omega) (by omega) ?_
        | with_reducible refine Val.u32 (by omega) (by omega) ?_
        | with_reducible refine Val.u64 (by omega) (by omega) ?_
        | with_reducible refine Val.u8m ?_
        | with_reducible refine Val.u32m ?_
        | with_reducible refine Val.u64m ?_
        | with_reducible refine Val.shr8 ?_
        | with_reducible refine Val.shr16 (by decide) ?_
        | with_reducible refine Val.shr24 (by decide) ?_
        | with_reducible refine Val.raw ?_
        | refine Branch.not ?_
        | refine Branch.and ?_
        | refine Branch.or ?_
        | refine Branch.dt (by assumption) ?_
        | refine Branch.df (by assumption) ?_
        | refine Branch.dt rfl ?_
        | refine Branch.dt (by omega) ?_
        | refine Branch.df (by omega) ?_
        | refine Branch.t rfl ?_
        | refine Branch.f rfl ?_
        | refine Branch.t (by assumption) ?_
        | refine Branch.f (by assumption) ?_
        | refine Branch.d (fun _ => ?_) (fun _ => ?_)
        | refine Branch.mk (fun _ => ?_) (fun _ => ?_)
        | refine Need.mk (by first | omega | decide | rfl) ?_
        | refine Idx.nat (by omega) ?_
        | refine Idx.auto (by first | omega | decide) (by first | omega | decide) ?_
        | refine Cell.ro rfl ?_
        | refine SDraw.all (by kernel_rfl) ?_
        | refine Kept.k0 ?_
        | refine Kept.k1 ?_
        | refine Kept.k2 ?_
        | refine Kept.k3 ?_
        | refine Kept.k4 ?_))
    refine l16 hM' g3' h2' hx' _ .mk (fun S i H2 hS hM2 => ?_)
    cases hS
    repeat' ((conv => whnf); (first
        | refine New.mk (fun _ => ?_)
        | refine Look.at0 ?_
        | refine Cell.row ?_
        | refine Cell.buf ?_
        | refine Cells.row rfl ?_
        | refine Put.row rfl ?_
        | refine Put.buf rfl ?_
        | refine Look.at1 ?_
        | refine Look.at2 ?_
        | refine Look.at3 ?_
        | refine Look.at4 ?_
        | refine Look.at5 ?_
        | refine Look.at6 ?_
        | refine Look.at7 ?_
        | refine Look.at8 ?_
        | with_reducible refine Val.i64 (by omega) (by omega) ?_
        | with_reducible refine Val.u8 (by omega) (by omega) ?_
        | with_reducible refine Val.u32 (by omega) (by omega) ?_
        | with_reducible refine Val.u64 (by omega) (by omega) ?_
        | with_reducible refine Val.u8m ?_
        | with_reducible refine Val.u32m ?_
        | with_reducible refine Val.u64m ?_
        | with_reducible refine Val.shr8 ?_
        | with_reducible refine Val.shr16 (by decide) ?_
        | with_reducible refine Val.shr24 (by decide) ?_
        | with_reducible refine Val.raw ?_
        | refine Branch.not ?_
        | refine Branch.and ?_
        | refine Branch.or ?_
        | refine Branch.dt (by assumption) ?_
        | refine Branch.df (by assumption) ?_
        | refine Branch.dt rfl ?_
        | refine Branch.dt (by omega) ?_
        | refine Branch.df (by omega) ?_
        | refine Branch.t rfl ?_
        | refine Branch.f rfl ?_
        | refine Branch.t (by assumption) ?_
        | refine Branch.f (by assumption) ?_
        | refine Branch.d (fun _ => ?_) (fun _ => ?_)
        | refine Branch.mk (fun _ => ?_) (fun _ => ?_)
        | refine Need.mk (by first | omega | decide | rfl) ?_
        | refine Idx.nat (by omega) ?_
        | refine Idx.auto (by first | omega | decide) (by first | omega | decide) ?_
        | refine Cell.ro rfl ?_
        | refine SDraw.all (by kernel_rfl) ?_
        | refine Kept.k0 ?_
        | refine Kept.k1 ?_
        | refine Kept.k2 ?_
        | refine Kept.k3 ?_
        | refine Kept.k4 ?_))
    all_goals (conv => whnf)
    exact Keep.all (h _ hM2)
end
end Go.Proofs.Ytjnlpaojaikjaaa

/- Layer 26: whether all is fresh: by walks. -/
set_option linter.unusedVariables false
set_option linter.unusedSimpArgs false
set_option maxRecDepth 100000
set_option maxHeartbeats 4000000
namespace Go.Proofs.Ytjnlpaojaikjaaa
open Sx
def staleV (n cyc : Int) (v : Lv) : Bool := match getS v.seen n with
  | none => false
  | some none => true
  | some (some xc) => !decide (xc.2 = cyc)
def Mc.fresh (M : Mc) (n : Int) : Bool := decide (0 ≤ n ∧ n < (M.there.length : Int)) && isTh M.there n && !M.vs.any (staleV n M.cyc)
inductive S45 (A0 A1 A7 A8 : Value) : List Value → Prop
  | mk {r2 r3 r4 r5 r6 r9 r10 r11 r12 r13 r14 r15 r16 r17 r18 : Value} : S45 A0 A1 A7 A8 [A0, A1, r2, r3, r4, r5, r6, A7, A8, r9, r10, r11, r12, r13, r14, r15, r16, r17, r18]
def I45 (sv fv : Value) (q : Nat → Bool) (H : Heap) (n : Nat) (j : Nat) (S : List Value) (H' : Heap) : Prop := j ≤ n ∧ (∀ i, i < j → q i = false) ∧ H' = H ∧ S45 sv fv (.int .i64 (n : Int)) (.int .i64 (j : Int)) S
section
variable {K : Value → Heap → Prop} {gm : Nat} {ids : List (Nat × Nat)} {M : Mc} {H : Heap}
theorem c45 {t : TypeId} {la : Option Addr} {lc : Nat} {ad : List Nat} (hb : PB t la lc H ad) (hn : ad.length ≤ 1000) {f : Nat} {cs : List Value} (q : Nat → Bool) (hf : ∀ j x, ad[j]? = some x → ∀ K : Value → Heap → Prop, K (.bool (q j)) H → SCalls Try.prog f (ptr x :: cs) H K)
    (h1 : (∃ j, j < ad.length ∧ q j = true) → ∀ i : Int, 0 ≤ i → K (.int .i64 i) H) (h0 : (∀ j, j < ad.length → q j = false) → K (.int .i64 (-1)) H) :
    SCalls Try.prog 45 [.slice la ad.length lc, .func (.func f) ⟨[]⟩ ⟨cs⟩] H K := by
  refine enter45 ?_
  repeat' ((conv => whnf); (first
      | refine New.mk (fun _ => ?_)
      | refine Look.at0 ?_
      | refine Cell.row ?_
      | refine Cell.buf ?_
      | refine Cells.row rfl ?_
      | refine Put.row rfl ?_
      | refine Put.buf rfl ?_
      | refine Look.at1 ?_
      | refine Look.at2 ?_
      | refine Look.at3 ?_
      | refine Look.at4 ?_
      | refine Look.at5 ?_
      | refine Look.at6 ?_
      | refine Look.at7 ?_
      | refine Look.at8 ?_
      | with_reducible refine Val.i64 (by omega) (by omega) ?_
      | with_reducible refine Val.u8 (by omega) (by omega) ?_
      | with_reducible refine Val.u32 (by omega) (by omega) ?_
      | with_reducible refine Val.u64 (by omega) (by omega) ?_
      | with_reducible refine Val.u8m ?_
      | with_reducible refine Val.u32m ?_
      | with_reducible refine Val.u64m ?_
      | with_reducible refine Val.shr8 ?_
      | with_reducible refine Val.shr16 (by decide) ?_
      | with_reducible refine Val.shr24 (by decide) ?_
      | with_reducible refine Val.raw ?_
      | refine Branch.not ?_
      | refine Branch.and ?_
      | refine Branch.or ?_
      | refine Branch.dt (by assumption) ?_
      | refine Branch.df (by assumption) ?_
      | refine Branch.dt rfl ?_
      | refine Branch.dt (by omega) ?_
      | refine Branch.df (by omega) ?_
      | refine Branch.t rfl ?_
      | refine Branch.f rfl ?_
      | refine Branch.t (by assumption) ?_
      | refine Branch.f (by assumption) ?_
      | refine Branch.d (fun _ => ?_) (fun _ => ?_)
      | refine Branch.mk (fun _ => ?_) (fun _ => ?_)
      | refine Need.mk (by first | omega | decide | rfl) ?_
      | refine Idx.nat (by omega) ?_
      | refine Idx.auto (by first | omega | decide) (by first | omega | decide) ?_
      | refine Cell.ro rfl ?_
      | refine SDraw.all (by kernel_rfl) ?_
      | refine Kept.k0 ?_
      | refine Kept.k1 ?_
      | refine Kept.k2 ?_
      | refine Kept.k3 ?_
      | refine Kept.k4 ?_))
  refine SLoop.invA (I45 (.slice la ad.length lc) (.func (.func f) ⟨[]⟩ ⟨cs⟩) q H ad.length) (fun j => ad.length - j) 0 (Keep.all ⟨by omega, fun i hi => by omega, rfl, .mk⟩) ?_
  rintro j S H' ⟨hj, hq, rfl, hS⟩ R hR
  cases hS
  by_cases hlt : j < ad.length
  · obtain ⟨x, hx, _, _⟩ := list_at hlt
    obtain ⟨r, N, rfl, hbm, hc⟩ := hb.get hx
    repeat' ((conv => whnf); (first
        | refine Look.cell hbm hc ?_
        | refine hf j x hx _ ?_
        | refine New.mk (fun _ => ?_)
        | refine Look.at0 ?_
        | refine Cell.row ?_
        | refine Cell.buf ?_
        | refine Cells.row rfl ?_
        | refine Put.row rfl ?_
        | refine Put.buf rfl ?_
        | refine Look.at1 ?_
        | refine Look.at2 ?_
        | refine Look.at3 ?_
        | refine Look.at4 ?_
        | refine Look.at5 ?_
        | refine Look.at6 ?_
        | refine Look.at7 ?_
        | refine Look.at8 ?_
        | with_reducible refine Val.i64 (by omega) (by omega) ?_
        | with_reducible refine Val.u8 (by omega) (by omega) ?_
        | with_reducible refine Val.u32 (by omega) (by omega) ?_
        | with_reducible refine Val.u64 (by omega) (by omega) ?_
        | with_reducible refine Val.u8m ?_
        | with_reducible refine Val.u32m ?_
        | with_reducible refine Val.u64m ?_
        | with_reducible refine Val.shr8 ?_
        | with_reducible refine Val.shr16 (by decide) ?_
        | with_reducible refine Val.shr24 (by decide) ?_
        | with_reducible refine Val.raw ?_
        | refine Branch.not ?_
        | refine Branch.and ?_
        | refine Branch.or ?_
        | refine Branch.dt (by assumption) ?_
        | refine Branch.df (by assumption) ?_
        | refine Branch.dt rfl ?_
        | refine Branch.dt (by omega) ?_
        | refine Branch.df (by omega) ?_
        | refine Branch.t rfl ?_
        | refine Branch.f rfl ?_
        | refine Branch.t (by assumption) ?_
        | refine Branch.f (by assumption) ?_
        | refine Branch.d (fun _ => ?_) (fun _ => ?_)
        | refine Branch.mk (fun _ => ?_) (fun _ => ?_)
        | refine Need.mk (by first | omega | decide | rfl) ?_
        | refine Idx.nat (by omega) ?_
        | refine Idx.auto (by first | omega | decide) (by first | omega | decide) ?_
        | refine Cell.ro rfl ?_
        | refine SDraw.all (by kernel_rfl) ?_
        | refine Kept.k0 ?_
        | refine Kept.k1 ?_
        | refine Kept.k2 ?_
        | refine Kept.k3 ?_
        | refine Kept.k4 ?_))
    all_goals (conv => whnf)
    · rename_i he
      exact Keep.all (h1 ⟨j, hlt, he⟩ _ (by omega))
    · refine hR (j + 1) _ _ (by omega) (Keep.all ⟨by omega, fun i hi => ?_, rfl, .mk⟩)
      by_cases hij : i = j
      · subst hij; assumption
      · exact hq i (by omega)
  · have e : j = ad.length := by omega
    subst e
    repeat' ((conv => whnf); (first
        | refine New.mk (fun _ => ?_)
        | refine Look.at0 ?_
        | refine Cell.row ?_
        | refine Cell.buf ?_
        | refine Cells.row rfl ?_
        | refine Put.row rfl ?_
        | refine Put.buf rfl ?_
        | refine Look.at1 ?_
        | refine Look.at2 ?_
        | refine Look.at3 ?_
        | refine Look.at4 ?_
        | refine Look.at5 ?_
        | refine Look.at6 ?_
        | refine Look.at7 ?_
        | refine Look.at8 ?_
        | with_reducible refine Val.i64 (by omega) (by omega) ?_
        | with_reducible refine Val.u8 (by omega) (by omega) ?_
        | with_reducible refine Val.u32 (by omega) (by omega) ?_
        | with_reducible refine Val.u64 (by omega) (by omega) ?_
        | with_reducible refine Val.u8m ?_
        | with_reducible refine Val.u32m ?_
        | with_reducible refine Val.u64m ?_
        | with_reducible refine Val.shr8 ?_
        | with_reducible refine Val.shr16 (by decide) ?_
        | with_reducible refine Val.shr24 (by decide) ?_
        | with_reducible refine Val.raw ?_
        | refine Branch.not ?_
        | refine Branch.and ?_
        | refine Branch.or ?_
        | refine Branch.dt (by assumption) ?_
        | refine Branch.df (by assumption) ?_
        | refine Branch.dt rfl ?_
        | refine Branch.dt (by omega) ?_
        | refine Branch.df (by omega) ?_
        | refine Branch.t rfl ?_
        | refine Branch.f rfl ?_
        | refine Branch.t (by assumption) ?_
        | refine Branch.f (by assumption) ?_
        | refine Branch.d (fun _ => ?_) (fun _ => ?_)
        | refine Branch.mk (fun _ => ?_) (fun _ => ?_)
        | refine Need.mk (by first | omega | decide | rfl) ?_
        | refine Idx.nat (by omega) ?_
        | refine Idx.auto (by first | omega | decide) (by first | omega | decide) ?_
        | refine Cell.ro rfl ?_
        | refine SDraw.all (by kernel_rfl) ?_
        | refine Kept.k0 ?_
        | refine Kept.k1 ?_
        | refine Kept.k2 ?_
        | refine Kept.k3 ?_
        | refine Kept.k4 ?_))
    all_goals (conv => whnf)
    exact Keep.all (h0 fun i hi => hq i hi)
theorem c39 {t : TypeId} {la : Option Addr} {lc : Nat} {ad : List Nat} (hb : PB t la lc H ad) (hn : ad.length ≤ 1000) {f : Nat} {cs : List Value} (q : Nat → Bool) (hf : ∀ j x, ad[j]? = some x → ∀ K : Value → Heap → Prop, K (.bool (q j)) H → SCalls Try.prog f (ptr x :: cs) H K)
    (h1 : (∃ j, j < ad.length ∧ q j = true) → K (.bool true) H) (h0 : (∀ j, j < ad.length → q j = false) → K (.bool false) H) :
    SCalls Try.prog 39 [.slice la ad.length lc, .func (.func f) ⟨[]⟩ ⟨cs⟩] H K := by
  refine enter39 ?_
  repeat' ((conv => whnf); (first
      | refine c45 hb hn q hf (fun hv i hi => ?_) (fun hv => ?_)
      | refine New.mk (fun _ => ?_)
      | refine Look.at0 ?_
      | refine Cell.row ?_
      | refine Cell.buf ?_
      | refine Cells.row rfl ?_
      | refine Put.row rfl ?_
      | refine Put.buf rfl ?_
      | refine Look.at1 ?_
      | refine Look.at2 ?_
      | refine Look.at3 ?_
      | refine Look.at4 ?_
      | refine Look.at5 ?_
      | refine Look.at6 ?_
      | refine Look.at7 ?_
      | refine Look.at8 ?_
      | with_reducible refine Val.i64 (by omega) (by omega) ?_
      | with_reducible refine Val.u8 (by omega) (by omega) ?_
      | with_reducible refine Val.u32 (by omega) (by omega) ?_
      | with_reducible refine Val.u64 (by omega) (by omega) ?_
      | with_reducible refine Val.u8m ?_
      | with_reducible refine Val.u32m ?_
      | with_reducible refine Val.u64m ?_
      | with_reducible refine Val.shr8 ?_
      | with_reducible refine Val.shr16 (by decide) ?_
      | with_reducible refine Val.shr24 (by decide) ?_
      | with_reducible refine Val.raw ?_
      | refine Branch.not ?_
      | refine Branch.and ?_
      | refine Branch.or ?_
      | refine Branch.dt (by assumption) ?_
      | refine Branch.df (by assumption) ?_
      | refine Branch.dt rfl ?_
      | refine Branch.dt (by omega) ?_
      | refine Branch.df (by omega) ?_
      | refine Branch.t rfl ?_
      | refine Branch.f rfl ?_
      | refine Branch.t (by assumption) ?_
      | refine Branch.f (by assumption) ?_
      | refine Branch.d (fun _ => ?_) (fun _ => ?_)
      | refine Branch.mk (fun _ => ?_) (fun _ => ?_)
      | refine Need.mk (by first | omega | decide | rfl) ?_
      | refine Idx.nat (by omega) ?_
      | refine Idx.auto (by first | omega | decide) (by first | omega | decide) ?_
      | refine Cell.ro rfl ?_
      | refine SDraw.all (by kernel_rfl) ?_
      | refine Kept.k0 ?_
      | refine Kept.k1 ?_
      | refine Kept.k2 ?_
      | refine Kept.k3 ?_
      | refine Kept.k4 ?_))
  all_goals (conv => whnf)
  · rw [decide_eq_true (show (0 : Int) ≤ i from hi)]; exact Keep.all (h1 hv)
  · exact Keep.all (h0 hv)
theorem c40 (hM : Mach gm ids M H) {p2 p3 : Nat} (h2 : (p2, Blk.row 26 [ptr gm] (0, 0)) ∈ H) {n : Int} (h3 : (p3, Blk.row 3 [.int .i64 n] (0, 0)) ∈ H) {j : Nat} {p : Nat × Nat} {v : Lv} (hp : ids[j]? = some p) (hv : M.vs[j]? = some v) (h : K (.bool (staleV n M.cyc v)) H) :
    SCalls Try.prog 40 [ptr p.1, ptr p3, ptr p2] H K := by
  obtain ⟨hrow, es, clk, hmp, hE⟩ := hM.var j p v hp hv
  have hok := hM.ok v (List.mem_of_getElem? hv)
  obtain ⟨gt, nt, ct, la, lc, g1, g2, g3⟩ := hM.ex
  refine enter40 ?_
  unfold staleV at h
  repeat' ((conv => whnf); (first
      | refine SDraw.all (by kernel_rfl) ?_
      | refine Look.mem hrow (fun _ _ _ => ?_)
      | refine Look.mem h3 (fun _ _ _ => ?_)
      | refine Look.mem h2 (fun _ _ _ => ?_)
      | refine Look.mem g1 (fun _ _ _ => ?_)
      | refine RawV.look2S rfl hmp hE hok.once (fun hg => ?_) (fun hg => ?_) (fun x c gs hg hgs => ?_)
      | refine Look.mem hgs (fun _ _ _ => ?_)
      | refine New.mk (fun _ => ?_)
      | refine Look.at0 ?_
      | refine Cell.row ?_
      | refine Cell.buf ?_
      | refine Cells.row rfl ?_
      | refine Put.row rfl ?_
      | refine Put.buf rfl ?_
      | refine Look.at1 ?_
      | refine Look.at2 ?_
      | refine Look.at3 ?_
      | refine Look.at4 ?_
      | refine Look.at5 ?_
      | refine Look.at6 ?_
      | refine Look.at7 ?_
      | refine Look.at8 ?_
      | with_reducible refine Val.i64 (by omega) (by omega) ?_
      | with_reducible refine Val.u8 (by omega) (by omega) ?_
      | with_reducible refine Val.u32 (by omega) (by omega) ?_
      | with_reducible refine Val.u64 (by omega) (by omega) ?_
      | with_reducible refine Val.u8m ?_
      | with_reducible refine Val.u32m ?_
      | with_reducible refine Val.u64m ?_
      | with_reducible refine Val.shr8 ?_
      | with_reducible refine Val.shr16 (by decide) ?_
      | with_reducible refine Val.shr24 (by decide) ?_
      | with_reducible refine Val.raw ?_
      | refine Branch.not ?_
      | refine Branch.and ?_
      | refine Branch.or ?_
      | refine Branch.dt (by assumption) ?_
      | refine Branch.df (by assumption) ?_
      | refine Branch.dt rfl ?_
      | refine Branch.dt (by omega) ?_
      | refine Branch.df (by omega) ?_
      | refine Branch.t rfl ?_
      | refine Branch.f rfl ?_
      | refine Branch.t (by assumption) ?_
      | refine Branch.f (by assumption) ?_
      | refine Branch.d (fun _ => ?_) (fun _ => ?_)
      | refine Branch.mk (fun _ => ?_) (fun _ => ?_)
      | refine Need.mk (by first | omega | decide | rfl) ?_
      | refine Idx.nat (by omega) ?_
      | refine Idx.auto (by first | omega | decide) (by first | omega | decide) ?_
      | refine Cell.ro rfl ?_
      | refine SDraw.all (by kernel_rfl) ?_
      | refine Kept.k0 ?_
      | refine Kept.k1 ?_
      | refine Kept.k2 ?_
      | refine Kept.k3 ?_
      | refine Kept.k4 ?_))
  all_goals (conv => whnf)
  all_goals first
    | (rw [hg] at h; exact Keep.all h)
    | trace_state
theorem c25 (hM : Mach gm ids M H) (n : Int) (h : K (.bool (M.fresh n)) H) : SCalls Try.prog 25 [ptr gm, .int .i64 n] H K := by
  have hM2 : ∀ p3 p2, Mach gm ids M ((p3, Blk.row 3 [.int .i64 n] (0, 0)) :: (p2, Blk.row 26 [ptr gm] (0, 0)) :: H) := fun p3 p2 => hM.mono fun z hz => .tail _ (.tail _ hz)
  obtain ⟨gt, nt, ct, la, lc, g1, g2, g3⟩ := hM.ex
  have hc39 : ∀ p3 p2 (K : Value → Heap → Prop), K (.bool (M.vs.any (staleV n M.cyc))) ((p3, Blk.row 3 [.int .i64 n] (0, 0)) :: (p2, Blk.row 26 [ptr gm] (0, 0)) :: H) → SCalls Try.prog 39 [.slice la ids.length lc, .func (.func 40) ⟨[]⟩ ⟨[ptr p3, ptr p2]⟩] ((p3, Blk.row 3 [.int .i64 n] (0, 0)) :: (p2, Blk.row 26 [ptr gm] (0, 0)) :: H) K := by
    intro p3 p2 K hk
    have hl := hM.len
    have hfew := hM.few
    have e : (ids.map Prod.fst).length = ids.length := by simp
    rw [← e]
    refine c39 (g3.keep fun z hz _ => .tail _ (.tail _ hz)) (by omega) (fun j => ((M.vs[j]?).map (staleV n M.cyc)).getD false) (fun j x hx K hk => ?_) (fun ⟨j, hj, hq⟩ => ?_) (fun hq => ?_)
    · rw [List.getElem?_map] at hx
      cases hp : ids[j]? with
      | none => rw [hp] at hx; cases hx
      | some p =>
        rw [hp] at hx
        injection hx with hx
        subst hx
        have hjv : j < M.vs.length := by rw [← hl]; exact (List.getElem?_eq_some_iff.1 hp).1
        obtain ⟨v, hv, _, _⟩ := list_at hjv
        rw [hv] at hk
        exact c40 (hM2 p3 p2) (.tail _ (.head _)) (.head _) hp hv hk
    · have hjv : j < M.vs.length := by rw [← hl, ← e]; exact hj
      obtain ⟨v, hv, _, _⟩ := list_at hjv
      rw [hv] at hq
      rw [show M.vs.any (staleV n M.cyc) = true from List.any_eq_true.2 ⟨v, List.mem_of_getElem? hv, hq⟩] at hk
      exact hk
    · rw [show M.vs.any (staleV n M.cyc) = false from List.any_eq_false.2 fun v hv => by
        obtain ⟨j, hj, rfl⟩ := List.getElem_of_mem hv
        have := hq j (by rw [e, hl]; exact hj)
        rw [List.getElem?_eq_getElem hj] at this
        simp only [Option.map_some, Option.getD_some] at this
        rw [this]; decide] at hk
      exact hk
  refine enter25 ?_
  unfold Mc.fresh at h
  by_cases hn : 0 ≤ n ∧ n < (M.there.length : Int)
  · obtain ⟨t, ht, _, _⟩ := list_at (L := M.there) (j := n.toNat) (by omega)
    have hct := bool_at (N := nt) ht
    have hth : isTh M.there n = t := by unfold isTh; rw [ht]; rfl
    rw [decide_eq_true hn, hth] at h
    cases t with
    | false =>
      repeat' ((conv => whnf); (first
          | refine SDraw.all (by kernel_rfl) ?_
          | refine c33 (hM2 _ _) n (fun _ => ?_) (fun e => absurd hn e)
          | refine Look.mem (.tail _ (.tail _ g1)) (fun _ _ _ => ?_)
          | refine Idx.of n.toNat (by omega) (by omega) ?_
          | refine Look.cell (.tail _ (.tail _ g2)) hct ?_
          | refine hc39 _ _ _ ?_
          | refine New.mk (fun _ => ?_)
          | refine Look.at0 ?_
          | refine Cell.row ?_
          | refine Cell.buf ?_
          | refine Cells.row rfl ?_
          | refine Put.row rfl ?_
          | refine Put.buf rfl ?_
          | refine Look.at1 ?_
          | refine Look.at2 ?_
          | refine Look.at3 ?_
          | refine Look.at4 ?_
          | refine Look.at5 ?_
          | refine Look.at6 ?_
          | refine Look.at7 ?_
          | refine Look.at8 ?_
          | with_reducible refine Val.i64 (by omega) (by omega) ?_
          | with_reducible refine Val.u8 (by omega) (by omega) ?_
          | with_reducible refine Val.u32 (by omega) (by omega) ?_
          | with_reducible refine Val.u64 (by omega) (by omega) ?_
          | with_reducible refine Val.u8m ?_
          | with_reducible refine Val.u32m ?_
          | with_reducible refine Val.u64m ?_
          | with_reducible refine Val.shr8 ?_
          | with_reducible refine Val.shr16 (by decide) ?_
          | with_reducible refine Val.shr24 (by decide) ?_
          | with_reducible refine Val.raw ?_
          | refine Branch.not ?_
          | refine Branch.and ?_
          | refine Branch.or ?_
          | refine Branch.dt (by assumption) ?_
          | refine Branch.df (by assumption) ?_
          | refine Branch.dt rfl ?_
          | refine Branch.dt (by omega) ?_
          | refine Branch.df (by omega) ?_
          | refine Branch.t rfl ?_
          | refine Branch.f rfl ?_
          | refine Branch.t (by assumption) ?_
          | refine Branch.f (by assumption) ?_
          | refine Branch.d (fun _ => ?_) (fun _ => ?_)
          | refine Branch.mk (fun _ => ?_) (fun _ => ?_)
          | refine Need.mk (by first | omega | decide | rfl) ?_
          | refine Idx.nat (by omega) ?_
          | refine Idx.auto (by first | omega | decide) (by first | omega | decide) ?_
          | refine Cell.ro rfl ?_
          | refine SDraw.all (by kernel_rfl) ?_
          | refine Kept.k0 ?_
          | refine Kept.k1 ?_
          | refine Kept.k2 ?_
          | refine Kept.k3 ?_
          | refine Kept.k4 ?_))
      all_goals (conv => whnf)
      exact Keep.d2 h
    | true =>
      repeat' ((conv => whnf); (first
          | refine SDraw.all (by kernel_rfl) ?_
          | refine c33 (hM2 _ _) n (fun _ => ?_) (fun e => absurd hn e)
          | refine Look.mem (.tail _ (.tail _ g1)) (fun _ _ _ => ?_)
          | refine Idx.of n.toNat (by omega) (by omega) ?_
          | refine Look.cell (.tail _ (.tail _ g2)) hct ?_
          | refine hc39 _ _ _ ?_
          | refine New.mk (fun _ => ?_)
          | refine Look.at0 ?_
          | refine Cell.row ?_
          | refine Cell.buf ?_
          | refine Cells.row rfl ?_
          | refine Put.row rfl ?_
          | refine Put.buf rfl ?_
          | refine Look.at1 ?_
          | refine Look.at2 ?_
          | refine Look.at3 ?_
          | refine Look.at4 ?_
          | refine Look.at5 ?_
          | refine Look.at6 ?_
          | refine Look.at7 ?_
          | refine Look.at8 ?_
          | with_reducible refine Val.i64 (by omega) (by omega) ?_
          | with_reducible refine Val.u8 (by omega) (by omega) ?_
          | with_reducible refine Val.u32 (by omega) (by omega) ?_
          | with_reducible refine Val.u64 (by omega) (by omega) ?_
          | with_reducible refine Val.u8m ?_
          | with_reducible refine Val.u32m ?_
          | with_reducible refine Val.u64m ?_
          | with_reducible refine Val.shr8 ?_
          | with_reducible refine Val.shr16 (by decide) ?_
          | with_reducible refine Val.shr24 (by decide) ?_
          | with_reducible refine Val.raw ?_
          | refine Branch.not ?_
          | refine Branch.and ?_
          | refine Branch.or ?_
          | refine Branch.dt (by assumption) ?_
          | refine Branch.df (by assumption) ?_
          | refine Branch.dt rfl ?_
          | refine Branch.dt (by omega) ?_
          | refine Branch.df (by omega) ?_
          | refine Branch.t rfl ?_
          | refine Branch.f rfl ?_
          | refine Branch.t (by assumption) ?_
          | refine Branch.f (by assumption) ?_
          | refine Branch.d (fun _ => ?_) (fun _ => ?_)
          | refine Branch.mk (fun _ => ?_) (fun _ => ?_)
          | refine Need.mk (by first | omega | decide | rfl) ?_
          | refine Idx.nat (by omega) ?_
          | refine Idx.auto (by first | omega | decide) (by first | omega | decide) ?_
          | refine Cell.ro rfl ?_
          | refine SDraw.all (by kernel_rfl) ?_
          | refine Kept.k0 ?_
          | refine Kept.k1 ?_
          | refine Kept.k2 ?_
          | refine Kept.k3 ?_
          | refine Kept.k4 ?_))
      all_goals (conv => whnf)
      exact Keep.d2 h
  · rw [decide_eq_false hn] at h
    repeat' ((conv => whnf); (first
        | refine SDraw.all (by kernel_rfl) ?_
        | refine c33 (hM2 _ _) n (fun e => absurd e hn) (fun _ => ?_)
        | refine New.mk (fun _ => ?_)
        | refine Look.at0 ?_
        | refine Cell.row ?_
        | refine Cell.buf ?_
        | refine Cells.row rfl ?_
        | refine Put.row rfl ?_
        | refine Put.buf rfl ?_
        | refine Look.at1 ?_
        | refine Look.at2 ?_
        | refine Look.at3 ?_
        | refine Look.at4 ?_
        | refine Look.at5 ?_
        | refine Look.at6 ?_
        | refine Look.at7 ?_
        | refine Look.at8 ?_
        | with_reducible refine Val.i64 (by omega) (by omega) ?_
        | with_reducible refine Val.u8 (by omega) (by omega) ?_
        | with_reducible refine Val.u32 (by omega) (by omega) ?_
        | with_reducible refine Val.u64 (by omega) (by omega) ?_
        | with_reducible refine Val.u8m ?_
        | with_reducible refine Val.u32m ?_
        | with_reducible refine Val.u64m ?_
        | with_reducible refine Val.shr8 ?_
        | with_reducible refine Val.shr16 (by decide) ?_
        | with_reducible refine Val.shr24 (by decide) ?_
        | with_reducible refine Val.raw ?_
        | refine Branch.not ?_
        | refine Branch.and ?_
        | refine Branch.or ?_
        | refine Branch.dt (by assumption) ?_
        | refine Branch.df (by assumption) ?_
        | refine Branch.dt rfl ?_
        | refine Branch.dt (by omega) ?_
        | refine Branch.df (by omega) ?_
        | refine Branch.t rfl ?_
        | refine Branch.f rfl ?_
        | refine Branch.t (by assumption) ?_
        | refine Branch.f (by assumption) ?_
        | refine Branch.d (fun _ => ?_) (fun _ => ?_)
        | refine Branch.mk (fun _ => ?_) (fun _ => ?_)
        | refine Need.mk (by first | omega | decide | rfl) ?_
        | refine Idx.nat (by omega) ?_
        | refine Idx.auto (by first | omega | decide) (by first | omega | decide) ?_
        | refine Cell.ro rfl ?_
        | refine SDraw.all (by kernel_rfl) ?_
        | refine Kept.k0 ?_
        | refine Kept.k1 ?_
        | refine Kept.k2 ?_
        | refine Kept.k3 ?_
        | refine Kept.k4 ?_))
    all_goals (conv => whnf)
    exact Keep.d2 h
end
end Go.Proofs.Ytjnlpaojaikjaaa

