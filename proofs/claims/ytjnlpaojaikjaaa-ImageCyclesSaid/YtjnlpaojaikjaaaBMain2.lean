/- Layer 26: the document's Sync: by walks. -/
import Derived.Test.YtjnlpaojaikjaaaBMain1
import Derived.Test.YtjnlpaojaikjaaaRd
import Derived.Test.YtjnlpaojaikjaaaBSx1
import Derived.Test.YtjnlpaojaikjaaaTy

set_option linter.unusedVariables false
set_option linter.unusedSimpArgs false
set_option maxRecDepth 100000
set_option maxHeartbeats 4000000
namespace Go.Proofs.Ytjnlpaojaikjaaa
open Sx
theorem put_at {α : Type} {l : List α} {o : Nat} {v : α} (hj : o < l.length) : l.take o ++ [v] ++ l.drop (o + [v].length) = l.set o v := by
  rw [List.set_eq_take_append_cons_drop, if_pos hj]; simp
theorem flat_put5 {L : List Sg} {j i : Nat} {s s' : Sg} {u : Value} (hj : L[j]? = some s) (hi : i < 5) (he : s'.cells = s.cells.set i u) : (L.flatMap Sg.cells).take (0 + j * 5 + i) ++ [u] ++ (L.flatMap Sg.cells).drop (0 + j * 5 + i + [u].length) = (L.set j s').flatMap Sg.cells := by
  have hl := flat_len (f := Sg.cells) (k := 5) (fun _ => rfl) L
  have hlt := (List.getElem?_eq_some_iff.1 hj).1
  rw [put_at (by rw [hl]; omega), Nat.zero_add]
  exact flat_set (f := Sg.cells) (k := 5) (fun _ => rfl) hj hi he
theorem flat_fit5 {L : List Sg} {j i : Nat} {s : Sg} {u : Value} (hj : L[j]? = some s) (hi : i < 5) : 0 + j * 5 + i + [u].length ≤ (L.flatMap Sg.cells).length := by
  have hl := flat_len (f := Sg.cells) (k := 5) (fun _ => rfl) L
  have hlt := (List.getElem?_eq_some_iff.1 hj).1
  rw [hl]; simp only [List.length_cons, List.length_nil]; omega
def seeD (there : List Bool) (P own xs : List Int) (c : Int) (s : Sg) : Sg :=
  if (isTh there s.nd && (isTh there (P.getD s.v.toNat 0) && !decide (s.v ∈ xs))) = true then ⟨s.nd, s.v, own.getD s.v.toNat 0, c, true⟩ else s
def Dc.sync (D : Dc) (P xs : List Int) : Int × Dc :=
  if xs.any (fun x => decide (x < 0) || decide ((P.length : Int) ≤ x)) = true then (1, D) else (0, { D with S := D.S.map (seeD D.there P D.own xs (incC D.cyc)), cyc := incC D.cyc })
theorem Doc.put5 {gd : Nat} {sv : Value} {L : List VarI} {I : Heap} {th : List Bool} {ow : List Int} {Sl : List Sg} {cy : Int} {H H1 : Heap} {gt nt ct go lc r N j : Nat} {s s' : Sg} (hD : Doc gd sv L I ⟨th, ow, Sl, cy⟩ H)
    (g1 : (gd, rowD gt th.length ct sv go ow.length (some ⟨r, 0, none⟩) Sl.length lc cy) ∈ H) (g2 : (gt, Blk.buf 4 (th.map Value.bool) nt) ∈ H) (g3 : (go, Blk.buf 35 (ow.map cU) ow.length) ∈ H)
    (hs : Sl[j]? = some s) (hk : s'.nd = s.nd ∧ s'.v = s.v) (hp : PutH H r (.buf 58 (Sl.flatMap Sg.cells) N) (.buf 58 ((Sl.set j s').flatMap Sg.cells) N) H1) :
    Doc gd sv L I ⟨th, ow, Sl.set j s', cy⟩ H1 ∧ (gd, rowD gt th.length ct sv go ow.length (some ⟨r, 0, none⟩) (Sl.set j s').length lc cy) ∈ H1 ∧ (gt, Blk.buf 4 (th.map Value.bool) nt) ∈ H1 ∧ (go, Blk.buf 35 (ow.map cU) ow.length) ∈ H1 := by
  have k1 : (gd, rowD gt th.length ct sv go ow.length (some ⟨r, 0, none⟩) (Sl.set j s').length lc cy) ∈ H1 := by rw [List.length_set]; exact hp.blk g1 (ne_kd (by show 56 ≠ 1058; decide))
  have k2 := hp.blk g2 (ne_kd (by show 1004 ≠ 1058; decide))
  have k3 := hp.blk g3 (ne_kd (by show 1035 ≠ 1058; decide))
  refine ⟨⟨⟨gt, nt, ct, go, _, lc, k1, k2, k3, .inr ⟨r, N, rfl, hp.new⟩⟩, hD.inp, fun p hp2 => ⟨(hD.sub p hp2).1, hp.blk (hD.sub p hp2).2 (ne_kd (by rw [(hD.sub p hp2).1]; show 5000 ≠ 1058; decide))⟩, hD.len, ?_, hD.pr, fun x hx => ?_⟩, k1, k2, k3⟩
  · show (Sl.set j s').length ≤ maxLen ∧ th.length ≤ maxLen
    rw [List.length_set]; exact hD.big
  · have hx : x ∈ Sl.set j s' := hx
    rcases List.mem_or_eq_of_mem_set hx with hx | rfl
    · exact hD.sg x hx
    · have := hD.sg s (List.mem_of_getElem? hs)
      rw [hk.1, hk.2]; exact this
inductive S18 (A0 A1 A5 : Value) : List Value → Prop
  | mk {r2 r3 r4 r6 r7 r8 r9 r10 r11 r12 r13 r14 r15 r16 r17 r18 r19 r20 r21 r22 r23 r24 r25 r26 r27 r28 r29 r30 r31 r32 r33 r34 r35 r36 r37 r38 r39 r40 r41 r42 r43 r44 r45 r46 r47 r48 r49 r50 r51 r52 r53 r54 r55 r56 r57 r58 r59 r60 r61 r62 r63 r64 r65 r66 r67 r68 r69 r70 r71 r72 r73 r74 r75 r76 r77 r78 r79 r80 r81 r82 r83 r84 r85 r86 r87 r88 r89 r90 r91 r92 r93 r94 r95 r96 r97 r98 r99 r100 r101 r102 r103 r104 r105 r106 r107 r108 r109 r110 r111 r112 r113 : Value} : S18 A0 A1 A5 [A0, A1, r2, r3, r4, A5, r6, r7, r8, r9, r10, r11, r12, r13, r14, r15, r16, r17, r18, r19, r20, r21, r22, r23, r24, r25, r26, r27, r28, r29, r30, r31, r32, r33, r34, r35, r36, r37, r38, r39, r40, r41, r42, r43, r44, r45, r46, r47, r48, r49, r50, r51, r52, r53, r54, r55, r56, r57, r58, r59, r60, r61, r62, r63, r64, r65, r66, r67, r68, r69, r70, r71, r72, r73, r74, r75, r76, r77, r78, r79, r80, r81, r82, r83, r84, r85, r86, r87, r88, r89, r90, r91, r92, r93, r94, r95, r96, r97, r98, r99, r100, r101, r102, r103, r104, r105, r106, r107, r108, r109, r110, r111, r112, r113]
inductive S18a (A0 A1 A6 : Value) : List Value → Prop
  | mk {r2 r3 r4 r5 r7 r8 r9 r10 r11 r12 r13 r14 r15 r16 r17 r18 r19 r20 r21 r22 r23 r24 r25 r26 r27 r28 r29 r30 r31 r32 r33 r34 r35 r36 r37 r38 r39 r40 r41 r42 r43 r44 r45 r46 r47 r48 r49 r50 r51 r52 r53 r54 r55 r56 r57 r58 r59 r60 r61 r62 r63 r64 r65 r66 r67 r68 r69 r70 r71 r72 r73 r74 r75 r76 r77 r78 r79 r80 r81 r82 r83 r84 r85 r86 r87 r88 r89 r90 r91 r92 r93 r94 r95 r96 r97 r98 r99 r100 r101 r102 r103 r104 r105 r106 r107 r108 r109 r110 r111 r112 r113 : Value} : S18a A0 A1 A6 [A0, A1, r2, r3, r4, r5, A6, r7, r8, r9, r10, r11, r12, r13, r14, r15, r16, r17, r18, r19, r20, r21, r22, r23, r24, r25, r26, r27, r28, r29, r30, r31, r32, r33, r34, r35, r36, r37, r38, r39, r40, r41, r42, r43, r44, r45, r46, r47, r48, r49, r50, r51, r52, r53, r54, r55, r56, r57, r58, r59, r60, r61, r62, r63, r64, r65, r66, r67, r68, r69, r70, r71, r72, r73, r74, r75, r76, r77, r78, r79, r80, r81, r82, r83, r84, r85, r86, r87, r88, r89, r90, r91, r92, r93, r94, r95, r96, r97, r98, r99, r100, r101, r102, r103, r104, r105, r106, r107, r108, r109, r110, r111, r112, r113]
def I18 (gd : Nat) (mv : Value) (n : Int) (T : Bool) (xs : List Int) (H : Heap) (j : Nat) (S : List Value) (H' : Heap) : Prop :=
  j ≤ xs.length ∧ (xs.drop j).any (fun x => decide (x < 0) || decide (n ≤ x)) = T ∧ S18 (ptr gd) mv (.int .i64 (j : Int)) S ∧ H' = H
def I18a (gd : Nat) (mv sv : Value) (L : List VarI) (I : Heap) (D : Dc) (f : Sg → Sg) (j : Nat) (S : List Value) (H : Heap) : Prop :=
  j ≤ D.S.length ∧ S18a (ptr gd) mv (.int .i64 (j : Int)) S ∧ Doc gd sv L I { D with S := updTo f j D.S } H
section
variable {K : Value → Heap → Prop} {H I : Heap} {gd : Nat} {sv : Value} {L : List VarI} {D : Dc}
theorem c18 (hD : Doc gd sv L I D H) {mv : Value} {xs : List Int} (hx : InS cI 1 mv I xs) (h : ∀ H', Doc gd sv L I (D.sync (prods L) xs).2 H' → K (.int .i64 (D.sync (prods L) xs).1) H') : SCalls Try.prog 18 [ptr gd, mv] H K := by
  obtain ⟨sa, sc, rfl, hml⟩ := hD.inp.sl.sv
  obtain ⟨ma, mc, rfl, hxl⟩ := hx.sv
  have hml' : L.length ≤ 9223372036854775807 := by simp only [maxLen] at hml; omega
  have hxl' : xs.length ≤ 9223372036854775807 := by simp only [maxLen] at hxl; omega
  have hxi := hx.mono fun p hp => (hD.sub p hp).2
  obtain ⟨gt, nt, ct, go, la, lc, g1, g2, g3, g4⟩ := hD.ex
  unfold Dc.sync at h
  rw [List.length_map] at h
  refine enter18 ?_
  repeat' ((conv => whnf); (first
      | refine New.mk (fun _ => ?_)
      | refine Look.at0 ?_
      | refine Cell.row ?_
      | refine Cell.buf ?_
      | refine Cells.row rfl ?_
      | refine Put.row rfl ?_
      | refine Put.buf rfl ?_
      | refine Look.at1 ?_
      | refine Look.at2 ?_
      | refine Look.at3 ?_
      | refine Look.at4 ?_
      | refine Look.at5 ?_
      | refine Look.at6 ?_
      | refine Look.at7 ?_
      | refine Look.at8 ?_
      | with_reducible refine Val.i64 (by omega) (by omega) ?_
      | with_reducible refine Val.u8 (by omega) (by omega) ?_
      | with_reducible refine Val.u32 (by omega) (by omega) ?_
      | with_reducible refine Val.u64 (by omega) (by omega) ?_
      | with_reducible refine Val.u8m ?_
      | with_reducible refine Val.u32m ?_
      | with_reducible refine Val.u64m ?_
      | with_reducible refine Val.shr8 ?_
      | with_reducible refine Val.shr16 (by decide) ?_
      | with_reducible refine Val.shr24 (by decide) ?_
      | with_reducible refine Val.raw ?_
      | refine Branch.not ?_
      | refine Branch.and ?_
      | refine Branch.or ?_
      | refine Branch.dt (by assumption) ?_
      | refine Branch.df (by assumption) ?_
      | refine Branch.dt rfl ?_
      | refine Branch.dt (by omega) ?_
      | refine Branch.df (by omega) ?_
      | refine Branch.t rfl ?_
      | refine Branch.f rfl ?_
      | refine Branch.t (by assumption) ?_
      | refine Branch.f (by assumption) ?_
      | refine Branch.d (fun _ => ?_) (fun _ => ?_)
      | refine Branch.mk (fun _ => ?_) (fun _ => ?_)
      | refine Need.mk (by first | omega | decide | rfl) ?_
      | refine Idx.nat (by omega) ?_
      | refine Idx.auto (by first | omega | decide) (by first | omega | decide) ?_
      | refine Cell.ro rfl ?_
      | refine SDraw.all (by kernel_rfl) ?_
      | refine Kept.k0 ?_
      | refine Kept.k1 ?_
      | refine Kept.k2 ?_
      | refine Kept.k3 ?_
      | refine Kept.k4 ?_))
  generalize hT : xs.any (fun x => decide (x < 0) || decide ((L.length : Int) ≤ x)) = T at h
  refine SLoop.invA (I18 gd (.slice ma xs.length mc) (L.length : Int) T xs H) (fun j => xs.length - j) 0 (Keep.all ⟨by omega, hT, .mk, rfl⟩) ?_
  rintro j S H' ⟨hj, hn, hS, rfl⟩ R hR
  cases hS
  by_cases hlt : j < xs.length
  · obtain ⟨x, hx, hdrop, _⟩ := list_at hlt
    obtain ⟨r, o, c, b, e1, hm, hc⟩ := hxi.at1 hx rfl
    injection e1 with e1 _ e3
    subst e1
    rw [hdrop, List.any_cons] at hn
    clear hT
    repeat' ((conv => whnf); (first
        | refine SDraw.held (by kernel_rfl) [(gd, _), (r, b)] (.same g1 (.same hm .nil)) ?_
        | refine Look.mem (.head _) (fun _ _ _ => ?_)
        | refine Look.cell (.tail _ (.head _)) hc ?_
        | refine New.mk (fun _ => ?_)
        | refine Look.at0 ?_
        | refine Cell.row ?_
        | refine Cell.buf ?_
        | refine Cells.row rfl ?_
        | refine Put.row rfl ?_
        | refine Put.buf rfl ?_
        | refine Look.at1 ?_
        | refine Look.at2 ?_
        | refine Look.at3 ?_
        | refine Look.at4 ?_
        | refine Look.at5 ?_
        | refine Look.at6 ?_
        | refine Look.at7 ?_
        | refine Look.at8 ?_
        | with_reducible refine Val.i64 (by omega) (by omega) ?_
        | with_reducible refine Val.u8 (by omega) (by omega) ?_
        | with_reducible refine Val.u32 (by omega) (by omega) ?_
        | with_reducible refine Val.u64 (by omega) (by omega) ?_
        | with_reducible refine Val.u8m ?_
        | with_reducible refine Val.u32m ?_
        | with_reducible refine Val.u64m ?_
        | with_reducible refine Val.shr8 ?_
        | with_reducible refine Val.shr16 (by decide) ?_
        | with_reducible refine Val.shr24 (by decide) ?_
        | with_reducible refine Val.raw ?_
        | refine Branch.not ?_
        | refine Branch.and ?_
        | refine Branch.or ?_
        | refine Branch.dt (by assumption) ?_
        | refine Branch.df (by assumption) ?_
        | refine Branch.dt rfl ?_
        | refine Branch.dt (by omega) ?_
        | refine Branch.df (by omega) ?_
        | refine Branch.t rfl ?_
        | refine Branch.f rfl ?_
        | refine Branch.t (by assumption) ?_
        | refine Branch.f (by assumption) ?_
        | refine Branch.d (fun _ => ?_) (fun _ => ?_)
        | refine Branch.mk (fun _ => ?_) (fun _ => ?_)
        | refine Need.mk (by first | omega | decide | rfl) ?_
        | refine Idx.nat (by omega) ?_
        | refine Idx.auto (by first | omega | decide) (by first | omega | decide) ?_
        | refine Cell.ro rfl ?_
        | refine SDraw.all (by kernel_rfl) ?_
        | refine Kept.k0 ?_
        | refine Kept.k1 ?_
        | refine Kept.k2 ?_
        | refine Kept.k3 ?_
        | refine Kept.k4 ?_))
    all_goals (conv => whnf)
    · rw [decide_eq_true (by assumption), Bool.true_or, Bool.true_or] at hn
      subst hn
      rw [if_pos rfl] at h
      exact Keep.all (h _ hD)
    · rw [decide_eq_false (by assumption), Bool.false_or, decide_eq_true (by assumption), Bool.true_or] at hn
      subst hn
      rw [if_pos rfl] at h
      exact Keep.all (h _ hD)
    · rw [decide_eq_false (by assumption), Bool.false_or, decide_eq_false (by assumption), Bool.false_or] at hn
      exact hR (j + 1) _ _ (by omega) (Keep.all ⟨by omega, hn, .mk, rfl⟩)
  · have e : j = xs.length := by omega
    subst e
    rw [List.drop_length, List.any_nil] at hn
    subst hn
    rw [if_neg (by decide)] at h
    have hcy : IntKind.u64.wrap (D.cyc + 1) = incC D.cyc := rfl
    repeat' ((conv => whnf); (first
        | with_reducible refine ⟨_, hcy, ?_⟩
        | refine Look.put (rowD gt D.there.length ct (.slice sa L.length sc) go D.own.length la D.S.length lc (incC D.cyc)) g1 (PutOk.rowb (by rfl) (by rfl)) (fun H2 hp => ?_)
        | refine Look.mem g1 (fun _ _ _ => ?_)
        | refine New.mk (fun _ => ?_)
        | refine Look.at0 ?_
        | refine Cell.row ?_
        | refine Cell.buf ?_
        | refine Cells.row rfl ?_
        | refine Put.row rfl ?_
        | refine Put.buf rfl ?_
        | refine Look.at1 ?_
        | refine Look.at2 ?_
        | refine Look.at3 ?_
        | refine Look.at4 ?_
        | refine Look.at5 ?_
        | refine Look.at6 ?_
        | refine Look.at7 ?_
        | refine Look.at8 ?_
        | with_reducible refine Val.i64 (by omega) (by omega) ?_
        | with_reducible refine Val.u8 (by omega) (by omega) ?_
        | with_reducible refine Val.u32 (by omega) (by omega) ?_
        | with_reducible refine Val.u64 (by omega) (by omega) ?_
        | with_reducible refine Val.u8m ?_
        | with_reducible refine Val.u32m ?_
        | with_reducible refine Val.u64m ?_
        | with_reducible refine Val.shr8 ?_
        | with_reducible refine Val.shr16 (by decide) ?_
        | with_reducible refine Val.shr24 (by decide) ?_
        | with_reducible refine Val.raw ?_
        | refine Branch.not ?_
        | refine Branch.and ?_
        | refine Branch.or ?_
        | refine Branch.dt (by assumption) ?_
        | refine Branch.df (by assumption) ?_
        | refine Branch.dt rfl ?_
        | refine Branch.dt (by omega) ?_
        | refine Branch.df (by omega) ?_
        | refine Branch.t rfl ?_
        | refine Branch.f rfl ?_
        | refine Branch.t (by assumption) ?_
        | refine Branch.f (by assumption) ?_
        | refine Branch.d (fun _ => ?_) (fun _ => ?_)
        | refine Branch.mk (fun _ => ?_) (fun _ => ?_)
        | refine Need.mk (by first | omega | decide | rfl) ?_
        | refine Idx.nat (by omega) ?_
        | refine Idx.auto (by first | omega | decide) (by first | omega | decide) ?_
        | refine Cell.ro rfl ?_
        | refine SDraw.all (by kernel_rfl) ?_
        | refine Kept.k0 ?_
        | refine Kept.k1 ?_
        | refine Kept.k2 ?_
        | refine Kept.k3 ?_
        | refine Kept.k4 ?_))
    have hD2 : Doc gd (.slice sa L.length sc) L I { D with S := updTo (seeD D.there (prods L) D.own xs (incC D.cyc)) 0 D.S, cyc := incC D.cyc } H2 := by
      rw [updTo_zero]
      exact ⟨⟨gt, nt, ct, go, la, lc, hp.new, hp.blk g2 (ne_kd (by show 1004 ≠ 56; decide)), hp.blk g3 (ne_kd (by show 1035 ≠ 56; decide)), g4.imp id fun ⟨r, N, e, hm⟩ => ⟨r, N, e, hp.blk hm (ne_kd (by show 1058 ≠ 56; decide))⟩⟩, hD.inp, fun p hp2 => ⟨(hD.sub p hp2).1, hp.blk (hD.sub p hp2).2 (ne_kd (by rw [(hD.sub p hp2).1]; show 5000 ≠ 56; decide))⟩, hD.len, hD.big, hD.pr, hD.sg⟩
    have hpr := hD.pr
    have hsg := hD.sg
    have hbig := hD.big
    have hown := hD.len
    clear g1 g2 g3 g4 hp hD hcy hxi
    obtain ⟨th, ow, Sl, cy⟩ := D
    dsimp only at h hD2 hpr hsg hbig hown
    generalize incC cy = cy1 at h hD2
    refine SLoop.invA (I18a gd (.slice ma xs.length mc) (.slice sa L.length sc) L I ⟨th, ow, Sl, cy1⟩ (seeD th (prods L) ow xs cy1)) (fun j => Sl.length - j) 0 (Keep.all ⟨Nat.zero_le _, .mk, hD2⟩) ?_
    clear hD2
    rintro j S H' ⟨hj, hS, hD⟩ R2 hR2
    dsimp only at hj hD
    cases hS
    have hul : (updTo (seeD th (prods L) ow xs cy1) j Sl).length = Sl.length := updTo_length
    have hSl : Sl.length ≤ 9223372036854775807 := by have := hbig.1; simp only [maxLen] at this; omega
    have hxi := hx.mono fun p hp => (hD.sub p hp).2
    have hin := hD.in
    obtain ⟨gt, nt, ct, go, la, lc, g1, g2, g3, g4⟩ := hD.ex
    dsimp only at g1 g2 g3 g4
    rw [hul] at g1
    by_cases hlt : j < Sl.length
    · obtain ⟨s, hs0, _, _⟩ := list_at hlt
      have hs : (updTo (seeD th (prods L) ow xs cy1) j Sl)[j]? = some s := updTo_nth hs0
      obtain ⟨r, N, rfl, hm⟩ := g4.resolve_left (fun e => by rw [e] at hul; simp only [List.length_nil] at hul; omega)
      obtain ⟨b1, b2, b3, b4⟩ := hsg s (List.mem_of_getElem? hs0)
      have hset := updTo_set (f := seeD th (prods L) ow xs cy1) hs0
      generalize updTo (seeD th (prods L) ow xs cy1) j Sl = U at hs hm hD hset hul
      obtain ⟨w, hw, _, _⟩ := list_at (L := L) (j := s.v.toNat) (by omega)
      obtain ⟨rL, oL, cL, b, e1, hmL, hcL⟩ := inS_at hD.inp.sl (fun _ => rfl) hw
      injection e1 with e1 _ e3
      subst e1
      have hcp : b.cell (oL + s.v.toNat * 2 + 0) = some (.int .i64 w.prod) := hcL 0 _ rfl
      have hwp := hpr w (List.mem_of_getElem? hw)
      obtain ⟨t1, ht1, _, _⟩ := list_at (L := th) (j := s.nd.toNat) (by omega)
      obtain ⟨t2, ht2, _, _⟩ := list_at (L := th) (j := w.prod.toNat) (by omega)
      have hct1 := bool_at (N := nt) ht1
      have hct2 := bool_at (N := nt) ht2
      obtain ⟨o, ho, _, _⟩ := list_at (L := ow) (j := s.v.toNat) (by omega)
      have hco : (Blk.buf 35 (ow.map cU) ow.length).cell (0 + s.v.toNat * 1) = some (.int .u64 o) := by
        show (ow.map cU)[0 + s.v.toNat * 1]? = _
        rw [Nat.zero_add, Nat.mul_one, List.getElem?_map, ho]; rfl
      have hc0 : (Blk.buf 58 (U.flatMap Sg.cells) N).cell (0 + j * 5 + 0) = some (.int .i64 s.nd) := flat_cell5 hs rfl
      have hc1 : (Blk.buf 58 (U.flatMap Sg.cells) N).cell (0 + j * 5 + 1) = some (.int .i64 s.v) := flat_cell5 hs rfl
      have hi1 : isTh th s.nd = t1 := by unfold isTh; rw [ht1]; rfl
      have hP : (prods L).getD s.v.toNat 0 = w.prod := by rw [List.getD_eq_getElem?_getD, List.getElem?_map, hw]; rfl
      have hi2 : isTh th ((prods L).getD s.v.toNat 0) = t2 := by rw [hP]; unfold isTh; rw [ht2]; rfl
      have ho2 : ow.getD s.v.toNat 0 = o := by rw [List.getD_eq_getElem?_getD, ho]; rfl
      have hsee : seeD th (prods L) ow xs cy1 s = if (t1 && (t2 && !decide (s.v ∈ xs))) = true then ⟨s.nd, s.v, o, cy1, true⟩ else s := by
        unfold seeD; rw [hi1, hi2, ho2]
      rw [hsee] at hset
      clear hsee hi1 hP hi2 ho2
      have next : ∀ S s' H2, (if (t1 && (t2 && !decide (s.v ∈ xs))) = true then (⟨s.nd, s.v, o, cy1, true⟩ : Sg) else s) = s' → S18a (ptr gd) (.slice ma xs.length mc) (.int .i64 ((j + 1 : Nat) : Int)) S → Doc gd (.slice (some ⟨rL, oL, none⟩) L.length sc) L I ⟨th, ow, U.set j s', cy1⟩ H2 → R2 S H2 := fun S s' H2 he h1 h2 => by
        rw [he] at hset
        rw [hset] at h2
        exact hR2 (j + 1) _ _ (by show Sl.length - (j + 1) < Sl.length - j; omega) (Keep.all ⟨by show j + 1 ≤ Sl.length; omega, h1, h2⟩)
      have stay : ∀ S, (t1 && (t2 && !decide (s.v ∈ xs))) = false → S18a (ptr gd) (.slice ma xs.length mc) (.int .i64 ((j + 1 : Nat) : Int)) S → R2 S H' := fun S he h1 => by
        refine next S s H' (by rw [he]; rfl) h1 ?_
        have : U.set j s = U := by
          obtain ⟨hl1, hl2⟩ := List.getElem?_eq_some_iff.1 hs
          rw [← hl2, List.set_getElem_self]
        rw [this]; exact hD
      let fS : Nat → Option Value := fun i => if i = 0 + j * 5 + 0 then some (.int .i64 s.nd) else if i = 0 + j * 5 + 1 then some (.int .i64 s.v) else none
      have hf0 : (Blk.ro fS).cell (0 + j * 5 + 0) = some (.int .i64 s.nd) := by show fS _ = _; simp [fS]
      have hf1 : (Blk.ro fS).cell (0 + j * 5 + 1) = some (.int .i64 s.v) := by show fS _ = _; simp [fS]
      have hfp : ∀ {U1 : List Sg} {s1 : Sg}, U1[j]? = some s1 → s1.nd = s.nd → s1.v = s.v → ∀ i v, fS i = some v → (Blk.buf 58 (U1.flatMap Sg.cells) N).cell i = some v := fun {U1 s1} h1 h2 h3 i v hv => by
        simp only [fS] at hv
        split at hv
        · rename_i hi
          subst hi; injection hv with hv; subst hv
          rw [← h2]; exact flat_cell5 h1 rfl
        · split at hv
          · rename_i hi
            subst hi; injection hv with hv; subst hv
            rw [← h3]; exact flat_cell5 h1 rfl
          · cases hv
      obtain ⟨hk5, hmH⟩ := hD.sub _ hmL
      have hk5 : kd b = 5000 := hk5
      let M4 : Heap → Prop := fun H0 => (gd, rowD gt th.length ct (.slice (some ⟨rL, oL, none⟩) L.length sc) go ow.length (some ⟨r, 0, none⟩) Sl.length lc cy1) ∈ H0 ∧ (go, Blk.buf 35 (ow.map cU) ow.length) ∈ H0 ∧ (gt, Blk.buf 4 (th.map Value.bool) nt) ∈ H0 ∧ (rL, b) ∈ H0
      have m4 : M4 H' := ⟨g1, g3, g2, hmH⟩
      have m4p : ∀ {H0 H1 : Heap} {U0 U1 : List Sg}, M4 H0 → PutH H0 r (.buf 58 (U0.flatMap Sg.cells) N) (.buf 58 (U1.flatMap Sg.cells) N) H1 → M4 H1 := fun ⟨a1, a2, a3, a4⟩ hp =>
        ⟨hp.blk a1 (ne_kd (by show 56 ≠ 1058; decide)), hp.blk a2 (ne_kd (by show 1035 ≠ 1058; decide)), hp.blk a3 (ne_kd (by show 1004 ≠ 1058; decide)), hp.blk a4 (ne_kd (by rw [hk5]; show 5000 ≠ 1058; decide))⟩
      have seenP : ∀ {H1 : Heap} {U1 : List Sg} {s1 : Sg}, M4 H1 → (r, Blk.buf 58 (U1.flatMap Sg.cells) N) ∈ H1 → U1[j]? = some s1 → s1.nd = s.nd → s1.v = s.v →
          Seen H1 [(gd, rowD gt th.length ct (.slice (some ⟨rL, oL, none⟩) L.length sc) go ow.length (some ⟨r, 0, none⟩) Sl.length lc cy1), (go, Blk.buf 35 (ow.map cU) ow.length), (gt, Blk.buf 4 (th.map Value.bool) nt), (rL, b), (r, .ro fS)] := fun ⟨a1, a2, a3, a4⟩ hm1 h1 h2 h3 => .same a1 (.same a2 (.same a3 (.same a4 (.part hm1 (hfp h1 h2 h3) .nil))))
      have seen1 := seenP m4 hm hs rfl rfl
      clear_value M4
      clear_value fS
      have hset1 : ∀ {U0 : List Sg} {s0 s1 : Sg}, U0[j]? = some s0 → (U0.set j s1)[j]? = some s1 := fun {U0 s0 s1} h => by rw [List.getElem?_set, if_pos rfl, if_pos (List.getElem?_eq_some_iff.1 h).1]
      clear hset hR2 h
      cases t1 with
      | false =>
        repeat' ((conv => whnf); (first
            | refine Look.mem g1 (fun _ _ _ => ?_)
            | refine SDraw.held (by kernel_rfl) _ seen1 ?_
            | refine Look.mem (.head _) (fun _ _ _ => ?_)
            | refine Idx.of s.nd.toNat (by omega) (by omega) ?_
            | refine Idx.of s.v.toNat (by omega) (by omega) ?_
            | refine Idx.of w.prod.toNat (by omega) (by omega) ?_
            | refine Look.cell (.tail _ (.tail _ (.tail _ (.tail _ (.head _))))) hf0 ?_
            | refine Look.cell (.tail _ (.tail _ (.tail _ (.tail _ (.head _))))) hf1 ?_
            | refine Look.cell (.tail _ (.head _)) hco ?_
            | refine Look.cell (.tail _ (.tail _ (.head _))) hct1 ?_
            | refine Look.cell (.tail _ (.tail _ (.head _))) hct2 ?_
            | refine Look.cell (.tail _ (.tail _ (.tail _ (.head _)))) hcp ?_
            | refine New.mk (fun _ => ?_)
            | refine Look.at0 ?_
            | refine Cell.row ?_
            | refine Cell.buf ?_
            | refine Cells.row rfl ?_
            | refine Put.row rfl ?_
            | refine Put.buf rfl ?_
            | refine Look.at1 ?_
            | refine Look.at2 ?_
            | refine Look.at3 ?_
            | refine Look.at4 ?_
            | refine Look.at5 ?_
            | refine Look.at6 ?_
            | refine Look.at7 ?_
            | refine Look.at8 ?_
            | with_reducible refine Val.i64 (by omega) (by omega) ?_
            | with_reducible refine Val.u8 (by omega) (by omega) ?_
            | with_reducible refine Val.u32 (by omega) (by omega) ?_
            | with_reducible refine Val.u64 (by omega) (by omega) ?_
            | with_reducible refine Val.u8m ?_
            | with_reducible refine Val.u32m ?_
            | with_reducible refine Val.u64m ?_
            | with_reducible refine Val.shr8 ?_
            | with_reducible refine Val.shr16 (by decide) ?_
            | with_reducible refine Val.shr24 (by decide) ?_
            | with_reducible refine Val.raw ?_
            | refine Branch.not ?_
            | refine Branch.and ?_
            | refine Branch.or ?_
            | refine Branch.dt (by assumption) ?_
            | refine Branch.df (by assumption) ?_
            | refine Branch.dt rfl ?_
            | refine Branch.dt (by omega) ?_
            | refine Branch.df (by omega) ?_
            | refine Branch.t rfl ?_
            | refine Branch.f rfl ?_
            | refine Branch.t (by assumption) ?_
            | refine Branch.f (by assumption) ?_
            | refine Branch.d (fun _ => ?_) (fun _ => ?_)
            | refine Branch.mk (fun _ => ?_) (fun _ => ?_)
            | refine Need.mk (by first | omega | decide | rfl) ?_
            | refine Idx.nat (by omega) ?_
            | refine Idx.auto (by first | omega | decide) (by first | omega | decide) ?_
            | refine Cell.ro rfl ?_
            | refine SDraw.all (by kernel_rfl) ?_
            | refine Kept.k0 ?_
            | refine Kept.k1 ?_
            | refine Kept.k2 ?_
            | refine Kept.k3 ?_
            | refine Kept.k4 ?_))
        all_goals (conv => whnf)
        exact stay _ rfl .mk
      | true =>
        cases t2 with
        | false =>
          repeat' ((conv => whnf); (first
              | refine Look.mem g1 (fun _ _ _ => ?_)
              | refine SDraw.held (by kernel_rfl) _ seen1 ?_
              | refine Look.mem (.head _) (fun _ _ _ => ?_)
              | refine Idx.of s.nd.toNat (by omega) (by omega) ?_
              | refine Idx.of s.v.toNat (by omega) (by omega) ?_
              | refine Idx.of w.prod.toNat (by omega) (by omega) ?_
              | refine Look.cell (.tail _ (.tail _ (.tail _ (.tail _ (.head _))))) hf0 ?_
              | refine Look.cell (.tail _ (.tail _ (.tail _ (.tail _ (.head _))))) hf1 ?_
              | refine Look.cell (.tail _ (.head _)) hco ?_
              | refine Look.cell (.tail _ (.tail _ (.head _))) hct1 ?_
              | refine Look.cell (.tail _ (.tail _ (.head _))) hct2 ?_
              | refine Look.cell (.tail _ (.tail _ (.tail _ (.head _)))) hcp ?_
              | refine New.mk (fun _ => ?_)
              | refine Look.at0 ?_
              | refine Cell.row ?_
              | refine Cell.buf ?_
              | refine Cells.row rfl ?_
              | refine Put.row rfl ?_
              | refine Put.buf rfl ?_
              | refine Look.at1 ?_
              | refine Look.at2 ?_
              | refine Look.at3 ?_
              | refine Look.at4 ?_
              | refine Look.at5 ?_
              | refine Look.at6 ?_
              | refine Look.at7 ?_
              | refine Look.at8 ?_
              | with_reducible refine Val.i64 (by omega) (by omega) ?_
              | with_reducible refine Val.u8 (by omega) (by omega) ?_
              | with_reducible refine Val.u32 (by omega) (by omega) ?_
              | with_reducible refine Val.u64 (by omega) (by omega) ?_
              | with_reducible refine Val.u8m ?_
              | with_reducible refine Val.u32m ?_
              | with_reducible refine Val.u64m ?_
              | with_reducible refine Val.shr8 ?_
              | with_reducible refine Val.shr16 (by decide) ?_
              | with_reducible refine Val.shr24 (by decide) ?_
              | with_reducible refine Val.raw ?_
              | refine Branch.not ?_
              | refine Branch.and ?_
              | refine Branch.or ?_
              | refine Branch.dt (by assumption) ?_
              | refine Branch.df (by assumption) ?_
              | refine Branch.dt rfl ?_
              | refine Branch.dt (by omega) ?_
              | refine Branch.df (by omega) ?_
              | refine Branch.t rfl ?_
              | refine Branch.f rfl ?_
              | refine Branch.t (by assumption) ?_
              | refine Branch.f (by assumption) ?_
              | refine Branch.d (fun _ => ?_) (fun _ => ?_)
              | refine Branch.mk (fun _ => ?_) (fun _ => ?_)
              | refine Need.mk (by first | omega | decide | rfl) ?_
              | refine Idx.nat (by omega) ?_
              | refine Idx.auto (by first | omega | decide) (by first | omega | decide) ?_
              | refine Cell.ro rfl ?_
              | refine SDraw.all (by kernel_rfl) ?_
              | refine Kept.k0 ?_
              | refine Kept.k1 ?_
              | refine Kept.k2 ?_
              | refine Kept.k3 ?_
              | refine Kept.k4 ?_))
          all_goals (conv => whnf)
          exact stay _ rfl .mk
        | true =>
          by_cases hmis : s.v ∈ xs
          · have hdec : decide (s.v ∈ xs) = true := decide_eq_true hmis
            repeat' ((conv => whnf); (first
                | refine Look.mem g1 (fun _ _ _ => ?_)
                | refine SDraw.held (by kernel_rfl) _ seen1 ?_
                | refine Look.mem (.head _) (fun _ _ _ => ?_)
                | refine Idx.of s.nd.toNat (by omega) (by omega) ?_
                | refine Idx.of s.v.toNat (by omega) (by omega) ?_
                | refine Idx.of w.prod.toNat (by omega) (by omega) ?_
                | refine Look.cell (.tail _ (.tail _ (.tail _ (.tail _ (.head _))))) hf0 ?_
                | refine Look.cell (.tail _ (.tail _ (.tail _ (.tail _ (.head _))))) hf1 ?_
                | refine Look.cell (.tail _ (.head _)) hco ?_
                | refine Look.cell (.tail _ (.tail _ (.head _))) hct1 ?_
                | refine Look.cell (.tail _ (.tail _ (.head _))) hct2 ?_
                | refine Look.cell (.tail _ (.tail _ (.tail _ (.head _)))) hcp ?_
                | refine c34 hxi s.v ?_
                | rw [hdec]
                | refine New.mk (fun _ => ?_)
                | refine Look.at0 ?_
                | refine Cell.row ?_
                | refine Cell.buf ?_
                | refine Cells.row rfl ?_
                | refine Put.row rfl ?_
                | refine Put.buf rfl ?_
                | refine Look.at1 ?_
                | refine Look.at2 ?_
                | refine Look.at3 ?_
                | refine Look.at4 ?_
                | refine Look.at5 ?_
                | refine Look.at6 ?_
                | refine Look.at7 ?_
                | refine Look.at8 ?_
                | with_reducible refine Val.i64 (by omega) (by omega) ?_
                | with_reducible refine Val.u8 (by omega) (by omega) ?_
                | with_reducible refine Val.u32 (by omega) (by omega) ?_
                | with_reducible refine Val.u64 (by omega) (by omega) ?_
                | with_reducible refine Val.u8m ?_
                | with_reducible refine Val.u32m ?_
                | with_reducible refine Val.u64m ?_
                | with_reducible refine Val.shr8 ?_
                | with_reducible refine Val.shr16 (by decide) ?_
                | with_reducible refine Val.shr24 (by decide) ?_
                | with_reducible refine Val.raw ?_
                | refine Branch.not ?_
                | refine Branch.and ?_
                | refine Branch.or ?_
                | refine Branch.dt (by assumption) ?_
                | refine Branch.df (by assumption) ?_
                | refine Branch.dt rfl ?_
                | refine Branch.dt (by omega) ?_
                | refine Branch.df (by omega) ?_
                | refine Branch.t rfl ?_
                | refine Branch.f rfl ?_
                | refine Branch.t (by assumption) ?_
                | refine Branch.f (by assumption) ?_
                | refine Branch.d (fun _ => ?_) (fun _ => ?_)
                | refine Branch.mk (fun _ => ?_) (fun _ => ?_)
                | refine Need.mk (by first | omega | decide | rfl) ?_
                | refine Idx.nat (by omega) ?_
                | refine Idx.auto (by first | omega | decide) (by first | omega | decide) ?_
                | refine Cell.ro rfl ?_
                | refine SDraw.all (by kernel_rfl) ?_
                | refine Kept.k0 ?_
                | refine Kept.k1 ?_
                | refine Kept.k2 ?_
                | refine Kept.k3 ?_
                | refine Kept.k4 ?_))
            all_goals (conv => whnf)
            exact stay _ (by rw [hdec]; rfl) .mk
          · have hdec : decide (s.v ∈ xs) = false := decide_eq_false hmis
            repeat' ((conv => whnf); (first
                | refine Look.mem g1 (fun _ _ _ => ?_)
                | refine SDraw.held (by kernel_rfl) _ seen1 ?_
                | refine Look.mem (.head _) (fun _ _ _ => ?_)
                | refine Idx.of s.nd.toNat (by omega) (by omega) ?_
                | refine Idx.of s.v.toNat (by omega) (by omega) ?_
                | refine Idx.of w.prod.toNat (by omega) (by omega) ?_
                | refine Look.cell (.tail _ (.tail _ (.tail _ (.tail _ (.head _))))) hf0 ?_
                | refine Look.cell (.tail _ (.tail _ (.tail _ (.tail _ (.head _))))) hf1 ?_
                | refine Look.cell (.tail _ (.head _)) hco ?_
                | refine Look.cell (.tail _ (.tail _ (.head _))) hct1 ?_
                | refine Look.cell (.tail _ (.tail _ (.head _))) hct2 ?_
                | refine Look.cell (.tail _ (.tail _ (.tail _ (.head _)))) hcp ?_
                | refine c34 hxi s.v ?_
                | rw [hdec]
                | refine Look.put (.buf 58 ((U.set j (⟨s.nd, s.v, o, s.c, s.is⟩ : Sg)).flatMap Sg.cells) N) hm (PutOk.buf (flat_fit5 hs (by decide)) (flat_put5 hs (by decide) rfl)) (fun H1 hp1 => ?_)
                | refine Look.put (.buf 58 (((U.set j (⟨s.nd, s.v, o, s.c, s.is⟩ : Sg)).set j (⟨s.nd, s.v, o, cy1, s.is⟩ : Sg)).flatMap Sg.cells) N) hp1.new (PutOk.buf (flat_fit5 (hset1 hs) (by decide)) (flat_put5 (hset1 hs) (by decide) rfl)) (fun H2 hp2 => ?_)
                | refine Look.put (.buf 58 ((((U.set j (⟨s.nd, s.v, o, s.c, s.is⟩ : Sg)).set j (⟨s.nd, s.v, o, cy1, s.is⟩ : Sg)).set j (⟨s.nd, s.v, o, cy1, true⟩ : Sg)).flatMap Sg.cells) N) hp2.new (PutOk.buf (flat_fit5 (hset1 (hset1 hs)) (by decide)) (flat_put5 (hset1 (hset1 hs)) (by decide) rfl)) (fun H3 hp3 => ?_)
                | refine Kept.mk (seenP (m4p m4 hp1) hp1.new (hset1 hs) rfl rfl) ?_
                | refine Kept.mk (seenP (m4p (m4p m4 hp1) hp2) hp2.new (hset1 (hset1 hs)) rfl rfl) ?_
                | refine New.mk (fun _ => ?_)
                | refine Look.at0 ?_
                | refine Cell.row ?_
                | refine Cell.buf ?_
                | refine Cells.row rfl ?_
                | refine Put.row rfl ?_
                | refine Put.buf rfl ?_
                | refine Look.at1 ?_
                | refine Look.at2 ?_
                | refine Look.at3 ?_
                | refine Look.at4 ?_
                | refine Look.at5 ?_
                | refine Look.at6 ?_
                | refine Look.at7 ?_
                | refine Look.at8 ?_
                | with_reducible refine Val.i64 (by omega) (by omega) ?_
                | with_reducible refine Val.u8 (by omega) (by omega) ?_
                | with_reducible refine Val.u32 (by omega) (by omega) ?_
                | with_reducible refine Val.u64 (by omega) (by omega) ?_
                | with_reducible refine Val.u8m ?_
                | with_reducible refine Val.u32m ?_
                | with_reducible refine Val.u64m ?_
                | with_reducible refine Val.shr8 ?_
                | with_reducible refine Val.shr16 (by decide) ?_
                | with_reducible refine Val.shr24 (by decide) ?_
                | with_reducible refine Val.raw ?_
                | refine Branch.not ?_
                | refine Branch.and ?_
                | refine Branch.or ?_
                | refine Branch.dt (by assumption) ?_
                | refine Branch.df (by assumption) ?_
                | refine Branch.dt rfl ?_
                | refine Branch.dt (by omega) ?_
                | refine Branch.df (by omega) ?_
                | refine Branch.t rfl ?_
                | refine Branch.f rfl ?_
                | refine Branch.t (by assumption) ?_
                | refine Branch.f (by assumption) ?_
                | refine Branch.d (fun _ => ?_) (fun _ => ?_)
                | refine Branch.mk (fun _ => ?_) (fun _ => ?_)
                | refine Need.mk (by first | omega | decide | rfl) ?_
                | refine Idx.nat (by omega) ?_
                | refine Idx.auto (by first | omega | decide) (by first | omega | decide) ?_
                | refine Cell.ro rfl ?_
                | refine SDraw.all (by kernel_rfl) ?_
                | refine Kept.k0 ?_
                | refine Kept.k1 ?_
                | refine Kept.k2 ?_
                | refine Kept.k3 ?_
                | refine Kept.k4 ?_))
            all_goals (conv => whnf)
            have e1 := hD.put5 (s' := ⟨s.nd, s.v, o, s.c, s.is⟩) (by rw [hul]; exact g1) g2 g3 hs ⟨rfl, rfl⟩ hp1
            have e2 := e1.1.put5 (s' := ⟨s.nd, s.v, o, cy1, s.is⟩) e1.2.1 e1.2.2.1 e1.2.2.2 (hset1 hs) ⟨rfl, rfl⟩ hp2
            have e3 := e2.1.put5 (s' := ⟨s.nd, s.v, o, cy1, true⟩) e2.2.1 e2.2.2.1 e2.2.2.2 (hset1 (hset1 hs)) ⟨rfl, rfl⟩ hp3
            refine next _ ⟨s.nd, s.v, o, cy1, true⟩ _ (by rw [hdec]; rfl) .mk ?_
            have := e3.1
            rw [List.set_set, List.set_set] at this
            exact this
    · have e : j = Sl.length := by omega
      subst e
      rw [updTo_all (Nat.le_refl _)] at hD
      repeat' ((conv => whnf); (first
          | refine Look.mem g1 (fun _ _ _ => ?_)
          | refine New.mk (fun _ => ?_)
          | refine Look.at0 ?_
          | refine Cell.row ?_
          | refine Cell.buf ?_
          | refine Cells.row rfl ?_
          | refine Put.row rfl ?_
          | refine Put.buf rfl ?_
          | refine Look.at1 ?_
          | refine Look.at2 ?_
          | refine Look.at3 ?_
          | refine Look.at4 ?_
          | refine Look.at5 ?_
          | refine Look.at6 ?_
          | refine Look.at7 ?_
          | refine Look.at8 ?_
          | with_reducible refine Val.i64 (by omega) (by omega) ?_
          | with_reducible refine Val.u8 (by omega) (by omega) ?_
          | with_reducible refine Val.u32 (by omega) (by omega) ?_
          | with_reducible refine Val.u64 (by omega) (by omega) ?_
          | with_reducible refine Val.u8m ?_
          | with_reducible refine Val.u32m ?_
          | with_reducible refine Val.u64m ?_
          | with_reducible refine Val.shr8 ?_
          | with_reducible refine Val.shr16 (by decide) ?_
          | with_reducible refine Val.shr24 (by decide) ?_
          | with_reducible refine Val.raw ?_
          | refine Branch.not ?_
          | refine Branch.and ?_
          | refine Branch.or ?_
          | refine Branch.dt (by assumption) ?_
          | refine Branch.df (by assumption) ?_
          | refine Branch.dt rfl ?_
          | refine Branch.dt (by omega) ?_
          | refine Branch.df (by omega) ?_
          | refine Branch.t rfl ?_
          | refine Branch.f rfl ?_
          | refine Branch.t (by assumption) ?_
          | refine Branch.f (by assumption) ?_
          | refine Branch.d (fun _ => ?_) (fun _ => ?_)
          | refine Branch.mk (fun _ => ?_) (fun _ => ?_)
          | refine Need.mk (by first | omega | decide | rfl) ?_
          | refine Idx.nat (by omega) ?_
          | refine Idx.auto (by first | omega | decide) (by first | omega | decide) ?_
          | refine Cell.ro rfl ?_
          | refine SDraw.all (by kernel_rfl) ?_
          | refine Kept.k0 ?_
          | refine Kept.k1 ?_
          | refine Kept.k2 ?_
          | refine Kept.k3 ?_
          | refine Kept.k4 ?_))
      all_goals (conv => whnf)
      exact Keep.all (h _ hD)
end
end Go.Proofs.Ytjnlpaojaikjaaa

/- Layer 26: the document's Turn: by walks. -/
set_option linter.unusedVariables false
set_option linter.unusedSimpArgs false
set_option maxRecDepth 100000
set_option maxHeartbeats 4000000
namespace Go.Proofs.Ytjnlpaojaikjaaa
open Sx
theorem flat_putA {L : List Sg} {j : Nat} {s s' : Sg} (hj : L[j]? = some s) : (L.flatMap Sg.cells).take (0 + j * 5) ++ s'.cells ++ (L.flatMap Sg.cells).drop (0 + j * 5 + s'.cells.length) = (L.set j s').flatMap Sg.cells := by
  have hlt := (List.getElem?_eq_some_iff.1 hj).1
  have hA : ((L.take j).flatMap Sg.cells).length = j * 5 := by rw [flat_len (f := Sg.cells) (k := 5) (fun _ => rfl), List.length_take]; congr 1; omega
  have e : L = L.take j ++ s :: L.drop (j + 1) := by
    obtain ⟨x, hx, h1, _⟩ := list_at hlt
    rw [hj] at hx; injection hx with hx; subst hx
    rw [← h1, List.take_append_drop]
  have e2 : L.flatMap Sg.cells = (L.take j).flatMap Sg.cells ++ (s.cells ++ (L.drop (j + 1)).flatMap Sg.cells) := by
    conv => lhs; rw [e]
    rw [List.flatMap_append, List.flatMap_cons]
  have e3 : L.set j s' = L.take j ++ s' :: L.drop (j + 1) := by rw [List.set_eq_take_append_cons_drop, if_pos hlt]
  rw [e3, List.flatMap_append, List.flatMap_cons, Nat.zero_add, e2, List.take_left' hA, ← List.append_assoc ((L.take j).flatMap Sg.cells) s.cells, List.drop_left' (by rw [List.length_append, hA]; rfl), List.append_assoc]
def goneS (n : Int) (s : Sg) : Sg := if s.nd = n then ⟨n, s.v, 0, 0, false⟩ else s
def goneO (P : List Int) (n : Int) (i : Nat) (o : Int) : Int := if P[i]? = some n then 0 else o
def Dc.turn (D : Dc) (P : List Int) (n : Int) (b : Bool) : Int × Dc :=
  if 0 ≤ n ∧ n < (D.there.length : Int) then
    (if D.there[n.toNat]? = some b then (6, D) else if b = true then (0, { D with there := D.there.set n.toNat b }) else (0, ⟨D.there.set n.toNat b, D.own.mapIdx (goneO P n), D.S.map (goneS n), D.cyc⟩))
  else (1, D)
theorem Doc.putO {gd : Nat} {sv : Value} {L : List VarI} {I : Heap} {th : List Bool} {ow : List Int} {Sl : List Sg} {cy : Int} {H H1 : Heap} {gt nt ct go lc j : Nat} {la : Option Addr} {x : Int} (hD : Doc gd sv L I ⟨th, ow, Sl, cy⟩ H)
    (g1 : (gd, rowD gt th.length ct sv go ow.length la Sl.length lc cy) ∈ H) (g2 : (gt, Blk.buf 4 (th.map Value.bool) nt) ∈ H) (g4 : Sl = [] ∨ ∃ r N, la = some ⟨r, 0, none⟩ ∧ (r, Blk.buf 58 (Sl.flatMap Sg.cells) N) ∈ H)
    (hp : PutH H go (.buf 35 (ow.map cU) ow.length) (.buf 35 ((ow.set j x).map cU) ow.length) H1) : Doc gd sv L I ⟨th, ow.set j x, Sl, cy⟩ H1 := by
  refine ⟨⟨gt, nt, ct, go, la, lc, ?_, hp.blk g2 (ne_kd (by show 1004 ≠ 1035; decide)), ?_, g4.imp id fun ⟨r, N, e, hm⟩ => ⟨r, N, e, hp.blk hm (ne_kd (by show 1058 ≠ 1035; decide))⟩⟩, hD.inp, fun p hp2 => ⟨(hD.sub p hp2).1, hp.blk (hD.sub p hp2).2 (ne_kd (by rw [(hD.sub p hp2).1]; show 5000 ≠ 1035; decide))⟩, ?_, hD.big, hD.pr, hD.sg⟩
  · show (gd, rowD gt th.length ct sv go (ow.set j x).length la Sl.length lc cy) ∈ H1
    rw [List.length_set]; exact hp.blk g1 (ne_kd (by show 56 ≠ 1035; decide))
  · show (go, Blk.buf 35 ((ow.set j x).map cU) (ow.set j x).length) ∈ H1
    rw [List.length_set]; exact hp.new
  · show (ow.set j x).length = L.length
    rw [List.length_set]; exact hD.len
theorem Doc.putT {gd : Nat} {sv : Value} {L : List VarI} {I : Heap} {th : List Bool} {ow : List Int} {Sl : List Sg} {cy : Int} {H H1 : Heap} {gt nt ct go lc j : Nat} {la : Option Addr} {b : Bool} (hD : Doc gd sv L I ⟨th, ow, Sl, cy⟩ H)
    (g1 : (gd, rowD gt th.length ct sv go ow.length la Sl.length lc cy) ∈ H) (g3 : (go, Blk.buf 35 (ow.map cU) ow.length) ∈ H) (g4 : Sl = [] ∨ ∃ r N, la = some ⟨r, 0, none⟩ ∧ (r, Blk.buf 58 (Sl.flatMap Sg.cells) N) ∈ H)
    (hp : PutH H gt (.buf 4 (th.map Value.bool) nt) (.buf 4 ((th.set j b).map Value.bool) nt) H1) : Doc gd sv L I ⟨th.set j b, ow, Sl, cy⟩ H1 := by
  refine ⟨⟨gt, nt, ct, go, la, lc, ?_, hp.new, hp.blk g3 (ne_kd (by show 1035 ≠ 1004; decide)), g4.imp id fun ⟨r, N, e, hm⟩ => ⟨r, N, e, hp.blk hm (ne_kd (by show 1058 ≠ 1004; decide))⟩⟩, hD.inp, fun p hp2 => ⟨(hD.sub p hp2).1, hp.blk (hD.sub p hp2).2 (ne_kd (by rw [(hD.sub p hp2).1]; show 5000 ≠ 1004; decide))⟩, hD.len, ?_, fun x hx => ?_, fun s hs => ?_⟩
  · show (gd, rowD gt (th.set j b).length ct sv go ow.length la Sl.length lc cy) ∈ H1
    rw [List.length_set]; exact hp.blk g1 (ne_kd (by show 56 ≠ 1004; decide))
  · show Sl.length ≤ maxLen ∧ (th.set j b).length ≤ maxLen
    rw [List.length_set]; exact hD.big
  · show 0 ≤ x.prod ∧ x.prod < ((th.set j b).length : Int)
    rw [List.length_set]; exact hD.pr x hx
  · show 0 ≤ s.nd ∧ s.nd < ((th.set j b).length : Int) ∧ 0 ≤ s.v ∧ s.v < (L.length : Int)
    rw [List.length_set]; exact hD.sg s hs
inductive S27 (A0 A1 A2 A7 : Value) : List Value → Prop
  | mk {r3 r4 r5 r6 r8 r9 r10 r11 r12 r13 r14 r15 r16 r17 r18 r19 r20 r21 r22 r23 r24 r25 r26 r27 r28 r29 r30 r31 r32 r33 r34 r35 r36 r37 r38 r39 r40 r41 r42 r43 r44 r45 r46 r47 r48 r49 r50 r51 r52 r53 r54 r55 r56 r57 r58 r59 r60 r61 r62 r63 r64 r65 r66 r67 r68 r69 r70 r71 r72 r73 r74 r75 r76 r77 r78 r79 r80 r81 r82 r83 r84 r85 r86 r87 r88 r89 r90 r91 r92 r93 r94 r95 r96 r97 r98 r99 r100 r101 r102 r103 : Value} : S27 A0 A1 A2 A7 [A0, A1, A2, r3, r4, r5, r6, A7, r8, r9, r10, r11, r12, r13, r14, r15, r16, r17, r18, r19, r20, r21, r22, r23, r24, r25, r26, r27, r28, r29, r30, r31, r32, r33, r34, r35, r36, r37, r38, r39, r40, r41, r42, r43, r44, r45, r46, r47, r48, r49, r50, r51, r52, r53, r54, r55, r56, r57, r58, r59, r60, r61, r62, r63, r64, r65, r66, r67, r68, r69, r70, r71, r72, r73, r74, r75, r76, r77, r78, r79, r80, r81, r82, r83, r84, r85, r86, r87, r88, r89, r90, r91, r92, r93, r94, r95, r96, r97, r98, r99, r100, r101, r102, r103]
inductive S27a (A0 A1 A2 A8 : Value) : List Value → Prop
  | mk {r3 r4 r5 r6 r7 r9 r10 r11 r12 r13 r14 r15 r16 r17 r18 r19 r20 r21 r22 r23 r24 r25 r26 r27 r28 r29 r30 r31 r32 r33 r34 r35 r36 r37 r38 r39 r40 r41 r42 r43 r44 r45 r46 r47 r48 r49 r50 r51 r52 r53 r54 r55 r56 r57 r58 r59 r60 r61 r62 r63 r64 r65 r66 r67 r68 r69 r70 r71 r72 r73 r74 r75 r76 r77 r78 r79 r80 r81 r82 r83 r84 r85 r86 r87 r88 r89 r90 r91 r92 r93 r94 r95 r96 r97 r98 r99 r100 r101 r102 r103 : Value} : S27a A0 A1 A2 A8 [A0, A1, A2, r3, r4, r5, r6, r7, A8, r9, r10, r11, r12, r13, r14, r15, r16, r17, r18, r19, r20, r21, r22, r23, r24, r25, r26, r27, r28, r29, r30, r31, r32, r33, r34, r35, r36, r37, r38, r39, r40, r41, r42, r43, r44, r45, r46, r47, r48, r49, r50, r51, r52, r53, r54, r55, r56, r57, r58, r59, r60, r61, r62, r63, r64, r65, r66, r67, r68, r69, r70, r71, r72, r73, r74, r75, r76, r77, r78, r79, r80, r81, r82, r83, r84, r85, r86, r87, r88, r89, r90, r91, r92, r93, r94, r95, r96, r97, r98, r99, r100, r101, r102, r103]
def I27 (gd : Nat) (n : Int) (sv : Value) (L : List VarI) (I : Heap) (th : List Bool) (ow : List Int) (Sl : List Sg) (cy : Int) (j : Nat) (S : List Value) (H : Heap) : Prop :=
  j ≤ L.length ∧ S27 (ptr gd) (.int .i64 n) (.bool false) (.int .i64 (j : Int)) S ∧ Doc gd sv L I ⟨th, updIx (goneO (prods L) n) j ow, Sl, cy⟩ H
def I27a (gd : Nat) (n : Int) (sv : Value) (L : List VarI) (I : Heap) (th : List Bool) (ow : List Int) (Sl : List Sg) (cy : Int) (j : Nat) (S : List Value) (H : Heap) : Prop :=
  j ≤ Sl.length ∧ S27a (ptr gd) (.int .i64 n) (.bool false) (.int .i64 (j : Int)) S ∧ Doc gd sv L I ⟨th, ow, updTo (goneS n) j Sl, cy⟩ H
section
variable {K : Value → Heap → Prop} {H I : Heap} {gd : Nat} {sv : Value} {L : List VarI} {D : Dc}
theorem c27 (hD : Doc gd sv L I D H) (n : Int) (b : Bool) (h : ∀ H', Doc gd sv L I (D.turn (prods L) n b).2 H' → K (.int .i64 (D.turn (prods L) n b).1) H') : SCalls Try.prog 27 [ptr gd, .int .i64 n, .bool b] H K := by
  obtain ⟨sa, sc, rfl, hml⟩ := hD.inp.sl.sv
  have hml' : L.length ≤ 9223372036854775807 := by simp only [maxLen] at hml; omega
  obtain ⟨hbS, hbT⟩ := hD.big
  have hbT' : D.there.length ≤ 9223372036854775807 := by simp only [maxLen] at hbT; omega
  have hSl : D.S.length ≤ 9223372036854775807 := by simp only [maxLen] at hbS; omega
  obtain ⟨gt, nt, ct, go, la, lc, g1, g2, g3, g4⟩ := hD.ex
  unfold Dc.turn at h
  refine enter27 ?_
  by_cases hr : 0 ≤ n ∧ n < (D.there.length : Int)
  · rw [if_pos hr] at h
    have n1 : ¬ n < 0 := by omega
    have n2 : ¬ (D.there.length : Int) ≤ n := by omega
    obtain ⟨t, ht, _, _⟩ := list_at (L := D.there) (j := n.toNat) (by omega)
    have hct := bool_at (N := nt) ht
    rw [ht] at h
    by_cases htb : t = b
    · subst htb
      rw [if_pos rfl] at h
      cases t with
      | true =>
        repeat' ((conv => whnf); (first
            | refine Look.mem g1 (fun _ _ _ => ?_)
            | refine Idx.of n.toNat (by omega) (by omega) ?_
            | refine Look.cell g2 hct ?_
            | refine New.mk (fun _ => ?_)
            | refine Look.at0 ?_
            | refine Cell.row ?_
            | refine Cell.buf ?_
            | refine Cells.row rfl ?_
            | refine Put.row rfl ?_
            | refine Put.buf rfl ?_
            | refine Look.at1 ?_
            | refine Look.at2 ?_
            | refine Look.at3 ?_
            | refine Look.at4 ?_
            | refine Look.at5 ?_
            | refine Look.at6 ?_
            | refine Look.at7 ?_
            | refine Look.at8 ?_
            | with_reducible refine Val.i64 (by omega) (by omega) ?_
            | with_reducible refine Val.u8 (by omega) (by omega) ?_
            | with_reducible refine Val.u32 (by omega) (by omega) ?_
            | with_reducible refine Val.u64 (by omega) (by omega) ?_
            | with_reducible refine Val.u8m ?_
            | with_reducible refine Val.u32m ?_
            | with_reducible refine Val.u64m ?_
            | with_reducible refine Val.shr8 ?_
            | with_reducible refine Val.shr16 (by decide) ?_
            | with_reducible refine Val.shr24 (by decide) ?_
            | with_reducible refine Val.raw ?_
            | refine Branch.not ?_
            | refine Branch.and ?_
            | refine Branch.or ?_
            | refine Branch.dt (by assumption) ?_
            | refine Branch.df (by assumption) ?_
            | refine Branch.dt rfl ?_
            | refine Branch.dt (by omega) ?_
            | refine Branch.df (by omega) ?_
            | refine Branch.t rfl ?_
            | refine Branch.f rfl ?_
            | refine Branch.t (by assumption) ?_
            | refine Branch.f (by assumption) ?_
            | refine Branch.d (fun _ => ?_) (fun _ => ?_)
            | refine Branch.mk (fun _ => ?_) (fun _ => ?_)
            | refine Need.mk (by first | omega | decide | rfl) ?_
            | refine Idx.nat (by omega) ?_
            | refine Idx.auto (by first | omega | decide) (by first | omega | decide) ?_
            | refine Cell.ro rfl ?_
            | refine SDraw.all (by kernel_rfl) ?_
            | refine Kept.k0 ?_
            | refine Kept.k1 ?_
            | refine Kept.k2 ?_
            | refine Kept.k3 ?_
            | refine Kept.k4 ?_))
        all_goals (conv => whnf)
        exact Keep.all (h _ hD)
      | false =>
        repeat' ((conv => whnf); (first
            | refine Look.mem g1 (fun _ _ _ => ?_)
            | refine Idx.of n.toNat (by omega) (by omega) ?_
            | refine Look.cell g2 hct ?_
            | refine New.mk (fun _ => ?_)
            | refine Look.at0 ?_
            | refine Cell.row ?_
            | refine Cell.buf ?_
            | refine Cells.row rfl ?_
            | refine Put.row rfl ?_
            | refine Put.buf rfl ?_
            | refine Look.at1 ?_
            | refine Look.at2 ?_
            | refine Look.at3 ?_
            | refine Look.at4 ?_
            | refine Look.at5 ?_
            | refine Look.at6 ?_
            | refine Look.at7 ?_
            | refine Look.at8 ?_
            | with_reducible refine Val.i64 (by omega) (by omega) ?_
            | with_reducible refine Val.u8 (by omega) (by omega) ?_
            | with_reducible refine Val.u32 (by omega) (by omega) ?_
            | with_reducible refine Val.u64 (by omega) (by omega) ?_
            | with_reducible refine Val.u8m ?_
            | with_reducible refine Val.u32m ?_
            | with_reducible refine Val.u64m ?_
            | with_reducible refine Val.shr8 ?_
            | with_reducible refine Val.shr16 (by decide) ?_
            | with_reducible refine Val.shr24 (by decide) ?_
            | with_reducible refine Val.raw ?_
            | refine Branch.not ?_
            | refine Branch.and ?_
            | refine Branch.or ?_
            | refine Branch.dt (by assumption) ?_
            | refine Branch.df (by assumption) ?_
            | refine Branch.dt rfl ?_
            | refine Branch.dt (by omega) ?_
            | refine Branch.df (by omega) ?_
            | refine Branch.t rfl ?_
            | refine Branch.f rfl ?_
            | refine Branch.t (by assumption) ?_
            | refine Branch.f (by assumption) ?_
            | refine Branch.d (fun _ => ?_) (fun _ => ?_)
            | refine Branch.mk (fun _ => ?_) (fun _ => ?_)
            | refine Need.mk (by first | omega | decide | rfl) ?_
            | refine Idx.nat (by omega) ?_
            | refine Idx.auto (by first | omega | decide) (by first | omega | decide) ?_
            | refine Cell.ro rfl ?_
            | refine SDraw.all (by kernel_rfl) ?_
            | refine Kept.k0 ?_
            | refine Kept.k1 ?_
            | refine Kept.k2 ?_
            | refine Kept.k3 ?_
            | refine Kept.k4 ?_))
        all_goals (conv => whnf)
        exact Keep.all (h _ hD)
    · rw [if_neg (by intro e; injection e with e; exact htb e)] at h
      obtain ⟨th, ow, Sl, cy⟩ := D
      dsimp only at h hr n2 ht hct g1 g2 g3 g4 hbT' hSl
      cases b with
      | true =>
        rw [if_pos rfl] at h
        cases t with
        | true => exact absurd rfl htb
        | false =>
          repeat' ((conv => whnf); (first
              | refine Look.mem g1 (fun _ _ _ => ?_)
              | refine Idx.of n.toNat (by omega) (by omega) ?_
              | refine Look.cell g2 hct ?_
              | refine Look.put (.buf 4 ((th.set n.toNat true).map Value.bool) nt) g2 (PutOk.buf (by simp only [List.length_map, List.length_cons, List.length_nil]; omega) (by rw [put_set (by simp only [List.length_map]; omega), List.map_set])) (fun H1 hp => ?_)
              | refine New.mk (fun _ => ?_)
              | refine Look.at0 ?_
              | refine Cell.row ?_
              | refine Cell.buf ?_
              | refine Cells.row rfl ?_
              | refine Put.row rfl ?_
              | refine Put.buf rfl ?_
              | refine Look.at1 ?_
              | refine Look.at2 ?_
              | refine Look.at3 ?_
              | refine Look.at4 ?_
              | refine Look.at5 ?_
              | refine Look.at6 ?_
              | refine Look.at7 ?_
              | refine Look.at8 ?_
              | with_reducible refine Val.i64 (by omega) (by omega) ?_
              | with_reducible refine Val.u8 (by omega) (by omega) ?_
              | with_reducible refine Val.u32 (by omega) (by omega) ?_
              | with_reducible refine Val.u64 (by omega) (by omega) ?_
              | with_reducible refine Val.u8m ?_
              | with_reducible refine Val.u32m ?_
              | with_reducible refine Val.u64m ?_
              | with_reducible refine Val.shr8 ?_
              | with_reducible refine Val.shr16 (by decide) ?_
              | with_reducible refine Val.shr24 (by decide) ?_
              | with_reducible refine Val.raw ?_
              | refine Branch.not ?_
              | refine Branch.and ?_
              | refine Branch.or ?_
              | refine Branch.dt (by assumption) ?_
              | refine Branch.df (by assumption) ?_
              | refine Branch.dt rfl ?_
              | refine Branch.dt (by omega) ?_
              | refine Branch.df (by omega) ?_
              | refine Branch.t rfl ?_
              | refine Branch.f rfl ?_
              | refine Branch.t (by assumption) ?_
              | refine Branch.f (by assumption) ?_
              | refine Branch.d (fun _ => ?_) (fun _ => ?_)
              | refine Branch.mk (fun _ => ?_) (fun _ => ?_)
              | refine Need.mk (by first | omega | decide | rfl) ?_
              | refine Idx.nat (by omega) ?_
              | refine Idx.auto (by first | omega | decide) (by first | omega | decide) ?_
              | refine Cell.ro rfl ?_
              | refine SDraw.all (by kernel_rfl) ?_
              | refine Kept.k0 ?_
              | refine Kept.k1 ?_
              | refine Kept.k2 ?_
              | refine Kept.k3 ?_
              | refine Kept.k4 ?_))
          have hD1 := hD.putT g1 g3 g4 hp
          obtain ⟨gt, nt, ct, go, la, lc, g1, g2, g3, g4⟩ := hD1.ex
          refine SLoop.invA (fun (_ : Unit) S H' => S27 (ptr gd) (.int .i64 n) (.bool true) (.int .i64 0) S ∧ H' = H1) (fun _ => 0) () (Keep.all ⟨.mk, rfl⟩) ?_
          rintro _ S H' ⟨hS, rfl⟩ R hR
          cases hS
          clear hR
          repeat' ((conv => whnf); (first
              | refine Look.mem g1 (fun _ _ _ => ?_)
              | refine New.mk (fun _ => ?_)
              | refine Look.at0 ?_
              | refine Cell.row ?_
              | refine Cell.buf ?_
              | refine Cells.row rfl ?_
              | refine Put.row rfl ?_
              | refine Put.buf rfl ?_
              | refine Look.at1 ?_
              | refine Look.at2 ?_
              | refine Look.at3 ?_
              | refine Look.at4 ?_
              | refine Look.at5 ?_
              | refine Look.at6 ?_
              | refine Look.at7 ?_
              | refine Look.at8 ?_
              | with_reducible refine Val.i64 (by omega) (by omega) ?_
              | with_reducible refine Val.u8 (by omega) (by omega) ?_
              | with_reducible refine Val.u32 (by omega) (by omega) ?_
              | with_reducible refine Val.u64 (by omega) (by omega) ?_
              | with_reducible refine Val.u8m ?_
              | with_reducible refine Val.u32m ?_
              | with_reducible refine Val.u64m ?_
              | with_reducible refine Val.shr8 ?_
              | with_reducible refine Val.shr16 (by decide) ?_
              | with_reducible refine Val.shr24 (by decide) ?_
              | with_reducible refine Val.raw ?_
              | refine Branch.not ?_
              | refine Branch.and ?_
              | refine Branch.or ?_
              | refine Branch.dt (by assumption) ?_
              | refine Branch.df (by assumption) ?_
              | refine Branch.dt rfl ?_
              | refine Branch.dt (by omega) ?_
              | refine Branch.df (by omega) ?_
              | refine Branch.t rfl ?_
              | refine Branch.f rfl ?_
              | refine Branch.t (by assumption) ?_
              | refine Branch.f (by assumption) ?_
              | refine Branch.d (fun _ => ?_) (fun _ => ?_)
              | refine Branch.mk (fun _ => ?_) (fun _ => ?_)
              | refine Need.mk (by first | omega | decide | rfl) ?_
              | refine Idx.nat (by omega) ?_
              | refine Idx.auto (by first | omega | decide) (by first | omega | decide) ?_
              | refine Cell.ro rfl ?_
              | refine SDraw.all (by kernel_rfl) ?_
              | refine Kept.k0 ?_
              | refine Kept.k1 ?_
              | refine Kept.k2 ?_
              | refine Kept.k3 ?_
              | refine Kept.k4 ?_))
          all_goals
            refine SLoop.invA (fun (_ : Unit) S H2 => S27a (ptr gd) (.int .i64 n) (.bool true) (.int .i64 0) S ∧ H2 = H') (fun _ => 0) () (Keep.all ⟨.mk, rfl⟩) ?_
            rintro _ S H' ⟨hS, rfl⟩ R hR
            cases hS
            clear hR
            repeat' ((conv => whnf); (first
                | refine Look.mem g1 (fun _ _ _ => ?_)
                | refine New.mk (fun _ => ?_)
                | refine Look.at0 ?_
                | refine Cell.row ?_
                | refine Cell.buf ?_
                | refine Cells.row rfl ?_
                | refine Put.row rfl ?_
                | refine Put.buf rfl ?_
                | refine Look.at1 ?_
                | refine Look.at2 ?_
                | refine Look.at3 ?_
                | refine Look.at4 ?_
                | refine Look.at5 ?_
                | refine Look.at6 ?_
                | refine Look.at7 ?_
                | refine Look.at8 ?_
                | with_reducible refine Val.i64 (by omega) (by omega) ?_
                | with_reducible refine Val.u8 (by omega) (by omega) ?_
                | with_reducible refine Val.u32 (by omega) (by omega) ?_
                | with_reducible refine Val.u64 (by omega) (by omega) ?_
                | with_reducible refine Val.u8m ?_
                | with_reducible refine Val.u32m ?_
                | with_reducible refine Val.u64m ?_
                | with_reducible refine Val.shr8 ?_
                | with_reducible refine Val.shr16 (by decide) ?_
                | with_reducible refine Val.shr24 (by decide) ?_
                | with_reducible refine Val.raw ?_
                | refine Branch.not ?_
                | refine Branch.and ?_
                | refine Branch.or ?_
                | refine Branch.dt (by assumption) ?_
                | refine Branch.df (by assumption) ?_
                | refine Branch.dt rfl ?_
                | refine Branch.dt (by omega) ?_
                | refine Branch.df (by omega) ?_
                | refine Branch.t rfl ?_
                | refine Branch.f rfl ?_
                | refine Branch.t (by assumption) ?_
                | refine Branch.f (by assumption) ?_
                | refine Branch.d (fun _ => ?_) (fun _ => ?_)
                | refine Branch.mk (fun _ => ?_) (fun _ => ?_)
                | refine Need.mk (by first | omega | decide | rfl) ?_
                | refine Idx.nat (by omega) ?_
                | refine Idx.auto (by first | omega | decide) (by first | omega | decide) ?_
                | refine Cell.ro rfl ?_
                | refine SDraw.all (by kernel_rfl) ?_
                | refine Kept.k0 ?_
                | refine Kept.k1 ?_
                | refine Kept.k2 ?_
                | refine Kept.k3 ?_
                | refine Kept.k4 ?_))
            all_goals (conv => whnf)
            all_goals exact Keep.all (h _ hD1)
      | false =>
        rw [if_neg (by decide)] at h
        cases t with
        | false => exact absurd rfl htb
        | true =>
          repeat' ((conv => whnf); (first
              | refine Look.mem g1 (fun _ _ _ => ?_)
              | refine Idx.of n.toNat (by omega) (by omega) ?_
              | refine Look.cell g2 hct ?_
              | refine Look.put (.buf 4 ((th.set n.toNat false).map Value.bool) nt) g2 (PutOk.buf (by simp only [List.length_map, List.length_cons, List.length_nil]; omega) (by rw [put_set (by simp only [List.length_map]; omega), List.map_set])) (fun H1 hp => ?_)
              | refine New.mk (fun _ => ?_)
              | refine Look.at0 ?_
              | refine Cell.row ?_
              | refine Cell.buf ?_
              | refine Cells.row rfl ?_
              | refine Put.row rfl ?_
              | refine Put.buf rfl ?_
              | refine Look.at1 ?_
              | refine Look.at2 ?_
              | refine Look.at3 ?_
              | refine Look.at4 ?_
              | refine Look.at5 ?_
              | refine Look.at6 ?_
              | refine Look.at7 ?_
              | refine Look.at8 ?_
              | with_reducible refine Val.i64 (by omega) (by omega) ?_
              | with_reducible refine Val.u8 (by omega) (by omega) ?_
              | with_reducible refine Val.u32 (by omega) (by omega) ?_
              | with_reducible refine Val.u64 (by omega) (by omega) ?_
              | with_reducible refine Val.u8m ?_
              | with_reducible refine Val.u32m ?_
              | with_reducible refine Val.u64m ?_
              | with_reducible refine Val.shr8 ?_
              | with_reducible refine Val.shr16 (by decide) ?_
              | with_reducible refine Val.shr24 (by decide) ?_
              | with_reducible refine Val.raw ?_
              | refine Branch.not ?_
              | refine Branch.and ?_
              | refine Branch.or ?_
              | refine Branch.dt (by assumption) ?_
              | refine Branch.df (by assumption) ?_
              | refine Branch.dt rfl ?_
              | refine Branch.dt (by omega) ?_
              | refine Branch.df (by omega) ?_
              | refine Branch.t rfl ?_
              | refine Branch.f rfl ?_
              | refine Branch.t (by assumption) ?_
              | refine Branch.f (by assumption) ?_
              | refine Branch.d (fun _ => ?_) (fun _ => ?_)
              | refine Branch.mk (fun _ => ?_) (fun _ => ?_)
              | refine Need.mk (by first | omega | decide | rfl) ?_
              | refine Idx.nat (by omega) ?_
              | refine Idx.auto (by first | omega | decide) (by first | omega | decide) ?_
              | refine Cell.ro rfl ?_
              | refine SDraw.all (by kernel_rfl) ?_
              | refine Kept.k0 ?_
              | refine Kept.k1 ?_
              | refine Kept.k2 ?_
              | refine Kept.k3 ?_
              | refine Kept.k4 ?_))
          have hD1 := hD.putT g1 g3 g4 hp
          have hlen := hD.len
          dsimp only at hlen
          clear g1 g2 g3 g4 hp hD hbT hbS ht hct hr
          generalize th.set n.toNat false = th1 at hD1 h
          refine SLoop.invA (I27 gd n (.slice sa L.length sc) L I th1 ow Sl cy) (fun j => L.length - j) 0 (Keep.all ⟨Nat.zero_le _, .mk, by rw [updIx_zero]; exact hD1⟩) ?_
          clear hD1
          rintro j S H' ⟨hj, hS, hD⟩ R hR
          cases hS
          have hul : (updIx (goneO (prods L) n) j ow).length = ow.length := updIx_len _ _ _
          have hin := hD.in
          obtain ⟨gt, nt, ct, go, la, lc, g1, g2, g3, g4⟩ := hD.ex
          dsimp only at g1 g2 g3 g4
          by_cases hlt : j < L.length
          · obtain ⟨o, ho0, _, _⟩ := list_at (L := ow) (j := j) (by omega)
            have hset := updIx_set (f := goneO (prods L) n) ho0
            have ho := updIx_nth (f := goneO (prods L) n) ho0
            generalize updIx (goneO (prods L) n) j ow = U at g1 g3 hD hset hul ho
            obtain ⟨w, hw, _, _⟩ := list_at hlt
            obtain ⟨rL, oL, cL, b, e1, hmL, hcL⟩ := inS_at hin.sl (fun _ => rfl) hw
            injection e1 with e1 _ e3
            subst e1
            have hcp : b.cell (oL + j * 2 + 0) = some (.int .i64 w.prod) := hcL 0 _ rfl
            have hP : (prods L)[j]? = some w.prod := by rw [List.getElem?_map, hw]; rfl
            have hf : goneO (prods L) n j o = if w.prod = n then 0 else o := by unfold goneO; rw [hP]; simp only [Option.some.injEq]
            rw [hf] at hset
            have next : ∀ S H2, S27 (ptr gd) (.int .i64 n) (.bool false) (.int .i64 ((j + 1 : Nat) : Int)) S → Doc gd (.slice (some ⟨rL, oL, none⟩) L.length sc) L I ⟨th1, U.set j (if w.prod = n then 0 else o), Sl, cy⟩ H2 → R S H2 := fun S H2 h1 h2 => by
              rw [hset] at h2
              exact hR (j + 1) _ _ (by omega) (Keep.all ⟨by omega, h1, h2⟩)
            clear hset hR h
            by_cases hpn : w.prod = n
            · rw [if_pos hpn] at next
              repeat' ((conv => whnf); (first
                  | refine Look.mem g1 (fun _ _ _ => ?_)
                  | refine Look.cell hmL hcp ?_
                  | refine Look.put (.buf 35 ((U.set j 0).map cU) U.length) g3 (PutOk.buf (by simp only [List.length_map, List.length_cons, List.length_nil]; omega) (by rw [put_set (by simp only [List.length_map]; omega), List.map_set])) (fun H1 hp => ?_)
                  | refine New.mk (fun _ => ?_)
                  | refine Look.at0 ?_
                  | refine Cell.row ?_
                  | refine Cell.buf ?_
                  | refine Cells.row rfl ?_
                  | refine Put.row rfl ?_
                  | refine Put.buf rfl ?_
                  | refine Look.at1 ?_
                  | refine Look.at2 ?_
                  | refine Look.at3 ?_
                  | refine Look.at4 ?_
                  | refine Look.at5 ?_
                  | refine Look.at6 ?_
                  | refine Look.at7 ?_
                  | refine Look.at8 ?_
                  | with_reducible refine Val.i64 (by omega) (by omega) ?_
                  | with_reducible refine Val.u8 (by omega) (by omega) ?_
                  | with_reducible refine Val.u32 (by omega) (by omega) ?_
                  | with_reducible refine Val.u64 (by omega) (by omega) ?_
                  | with_reducible refine Val.u8m ?_
                  | with_reducible refine Val.u32m ?_
                  | with_reducible refine Val.u64m ?_
                  | with_reducible refine Val.shr8 ?_
                  | with_reducible refine Val.shr16 (by decide) ?_
                  | with_reducible refine Val.shr24 (by decide) ?_
                  | with_reducible refine Val.raw ?_
                  | refine Branch.not ?_
                  | refine Branch.and ?_
                  | refine Branch.or ?_
                  | refine Branch.dt (by assumption) ?_
                  | refine Branch.df (by assumption) ?_
                  | refine Branch.dt rfl ?_
                  | refine Branch.dt (by omega) ?_
                  | refine Branch.df (by omega) ?_
                  | refine Branch.t rfl ?_
                  | refine Branch.f rfl ?_
                  | refine Branch.t (by assumption) ?_
                  | refine Branch.f (by assumption) ?_
                  | refine Branch.d (fun _ => ?_) (fun _ => ?_)
                  | refine Branch.mk (fun _ => ?_) (fun _ => ?_)
                  | refine Need.mk (by first | omega | decide | rfl) ?_
                  | refine Idx.nat (by omega) ?_
                  | refine Idx.auto (by first | omega | decide) (by first | omega | decide) ?_
                  | refine Cell.ro rfl ?_
                  | refine SDraw.all (by kernel_rfl) ?_
                  | refine Kept.k0 ?_
                  | refine Kept.k1 ?_
                  | refine Kept.k2 ?_
                  | refine Kept.k3 ?_
                  | refine Kept.k4 ?_))
              all_goals (conv => whnf)
              exact next _ _ .mk (hD.putO g1 g2 g4 hp)
            · rw [if_neg hpn] at next
              repeat' ((conv => whnf); (first
                  | refine Look.mem g1 (fun _ _ _ => ?_)
                  | refine Look.cell hmL hcp ?_
                  | refine New.mk (fun _ => ?_)
                  | refine Look.at0 ?_
                  | refine Cell.row ?_
                  | refine Cell.buf ?_
                  | refine Cells.row rfl ?_
                  | refine Put.row rfl ?_
                  | refine Put.buf rfl ?_
                  | refine Look.at1 ?_
                  | refine Look.at2 ?_
                  | refine Look.at3 ?_
                  | refine Look.at4 ?_
                  | refine Look.at5 ?_
                  | refine Look.at6 ?_
                  | refine Look.at7 ?_
                  | refine Look.at8 ?_
                  | with_reducible refine Val.i64 (by omega) (by omega) ?_
                  | with_reducible refine Val.u8 (by omega) (by omega) ?_
                  | with_reducible refine Val.u32 (by omega) (by omega) ?_
                  | with_reducible refine Val.u64 (by omega) (by omega) ?_
                  | with_reducible refine Val.u8m ?_
                  | with_reducible refine Val.u32m ?_
                  | with_reducible refine Val.u64m ?_
                  | with_reducible refine Val.shr8 ?_
                  | with_reducible refine Val.shr16 (by decide) ?_
                  | with_reducible refine Val.shr24 (by decide) ?_
                  | with_reducible refine Val.raw ?_
                  | refine Branch.not ?_
                  | refine Branch.and ?_
                  | refine Branch.or ?_
                  | refine Branch.dt (by assumption) ?_
                  | refine Branch.df (by assumption) ?_
                  | refine Branch.dt rfl ?_
                  | refine Branch.dt (by omega) ?_
                  | refine Branch.df (by omega) ?_
                  | refine Branch.t rfl ?_
                  | refine Branch.f rfl ?_
                  | refine Branch.t (by assumption) ?_
                  | refine Branch.f (by assumption) ?_
                  | refine Branch.d (fun _ => ?_) (fun _ => ?_)
                  | refine Branch.mk (fun _ => ?_) (fun _ => ?_)
                  | refine Need.mk (by first | omega | decide | rfl) ?_
                  | refine Idx.nat (by omega) ?_
                  | refine Idx.auto (by first | omega | decide) (by first | omega | decide) ?_
                  | refine Cell.ro rfl ?_
                  | refine SDraw.all (by kernel_rfl) ?_
                  | refine Kept.k0 ?_
                  | refine Kept.k1 ?_
                  | refine Kept.k2 ?_
                  | refine Kept.k3 ?_
                  | refine Kept.k4 ?_))
              all_goals (conv => whnf)
              refine next _ _ .mk ?_
              have : U.set j o = U := by
                obtain ⟨hl1, hl2⟩ := List.getElem?_eq_some_iff.1 ho
                rw [← hl2, List.set_getElem_self]
              rw [this]; exact hD
          · have e : j = L.length := by omega
            subst e
            rw [updIx_all (by omega)] at hD g1 g3
            clear hul
            clear hR
            repeat' ((conv => whnf); (first
                | refine Look.mem g1 (fun _ _ _ => ?_)
                | refine New.mk (fun _ => ?_)
                | refine Look.at0 ?_
                | refine Cell.row ?_
                | refine Cell.buf ?_
                | refine Cells.row rfl ?_
                | refine Put.row rfl ?_
                | refine Put.buf rfl ?_
                | refine Look.at1 ?_
                | refine Look.at2 ?_
                | refine Look.at3 ?_
                | refine Look.at4 ?_
                | refine Look.at5 ?_
                | refine Look.at6 ?_
                | refine Look.at7 ?_
                | refine Look.at8 ?_
                | with_reducible refine Val.i64 (by omega) (by omega) ?_
                | with_reducible refine Val.u8 (by omega) (by omega) ?_
                | with_reducible refine Val.u32 (by omega) (by omega) ?_
                | with_reducible refine Val.u64 (by omega) (by omega) ?_
                | with_reducible refine Val.u8m ?_
                | with_reducible refine Val.u32m ?_
                | with_reducible refine Val.u64m ?_
                | with_reducible refine Val.shr8 ?_
                | with_reducible refine Val.shr16 (by decide) ?_
                | with_reducible refine Val.shr24 (by decide) ?_
                | with_reducible refine Val.raw ?_
                | refine Branch.not ?_
                | refine Branch.and ?_
                | refine Branch.or ?_
                | refine Branch.dt (by assumption) ?_
                | refine Branch.df (by assumption) ?_
                | refine Branch.dt rfl ?_
                | refine Branch.dt (by omega) ?_
                | refine Branch.df (by omega) ?_
                | refine Branch.t rfl ?_
                | refine Branch.f rfl ?_
                | refine Branch.t (by assumption) ?_
                | refine Branch.f (by assumption) ?_
                | refine Branch.d (fun _ => ?_) (fun _ => ?_)
                | refine Branch.mk (fun _ => ?_) (fun _ => ?_)
                | refine Need.mk (by first | omega | decide | rfl) ?_
                | refine Idx.nat (by omega) ?_
                | refine Idx.auto (by first | omega | decide) (by first | omega | decide) ?_
                | refine Cell.ro rfl ?_
                | refine SDraw.all (by kernel_rfl) ?_
                | refine Kept.k0 ?_
                | refine Kept.k1 ?_
                | refine Kept.k2 ?_
                | refine Kept.k3 ?_
                | refine Kept.k4 ?_))
            generalize ow.mapIdx (goneO (prods L) n) = ow1 at hD h
            clear g1 g2 g3 g4
            refine SLoop.invA (I27a gd n (.slice sa L.length sc) L I th1 ow1 Sl cy) (fun j => Sl.length - j) 0 (Keep.all ⟨Nat.zero_le _, .mk, by rw [updTo_zero]; exact hD⟩) ?_
            clear hD
            rintro j S H' ⟨hj, hS, hD⟩ R hR
            cases hS
            have hul : (updTo (goneS n) j Sl).length = Sl.length := updTo_length
            obtain ⟨gt, nt, ct, go, la, lc, g1, g2, g3, g4⟩ := hD.ex
            dsimp only at g1 g2 g3 g4
            rw [hul] at g1
            by_cases hlt : j < Sl.length
            · obtain ⟨s, hs0, _, _⟩ := list_at hlt
              have hs : (updTo (goneS n) j Sl)[j]? = some s := updTo_nth hs0
              obtain ⟨r, N, rfl, hm⟩ := g4.resolve_left (fun e => by rw [e] at hul; simp only [List.length_nil] at hul; omega)
              have hset := updTo_set (f := goneS n) hs0
              generalize updTo (goneS n) j Sl = U at hs hm hD hset hul
              have hc0 : (Blk.buf 58 (U.flatMap Sg.cells) N).cell (0 + j * 5 + 0) = some (.int .i64 s.nd) := flat_cell5 hs rfl
              have hc1 : (Blk.buf 58 (U.flatMap Sg.cells) N).cell (0 + j * 5 + 1) = some (.int .i64 s.v) := flat_cell5 hs rfl
              have next : ∀ S H2, S27a (ptr gd) (.int .i64 n) (.bool false) (.int .i64 ((j + 1 : Nat) : Int)) S → Doc gd (.slice sa L.length sc) L I ⟨th1, ow1, U.set j (goneS n s), cy⟩ H2 → R S H2 := fun S H2 h1 h2 => by
                rw [hset] at h2
                exact hR (j + 1) _ _ (by omega) (Keep.all ⟨by omega, h1, h2⟩)
              clear hset hR h
              have hUl : j < U.length := by omega
              have hfl := flat_len (f := Sg.cells) (k := 5) (fun _ => rfl) U
              by_cases hsn : s.nd = n
              · have e : goneS n s = ⟨n, s.v, 0, 0, false⟩ := by unfold goneS; rw [if_pos hsn]
                rw [e] at next
                repeat' ((conv => whnf); (first
                    | refine Look.mem g1 (fun _ _ _ => ?_)
                    | refine SDraw.held (by kernel_rfl) [(gd, _), (r, Blk.buf 58 (U.flatMap Sg.cells) N)] (.same g1 (.same hm .nil)) ?_
                    | refine Look.mem (.head _) (fun _ _ _ => ?_)
                    | refine Look.cell hm hc0 ?_
                    | refine Look.cell (.tail _ (.head _)) hc1 ?_
                    | refine Look.put (.buf 58 ((U.set j (⟨n, s.v, 0, 0, false⟩ : Sg)).flatMap Sg.cells) N) hm (PutOk.buf (by rw [hfl]; simp only [List.length_cons, List.length_nil]; omega) (flat_putA (s' := ⟨n, s.v, 0, 0, false⟩) hs)) (fun H1 hp => ?_)
                    | refine New.mk (fun _ => ?_)
                    | refine Look.at0 ?_
                    | refine Cell.row ?_
                    | refine Cell.buf ?_
                    | refine Cells.row rfl ?_
                    | refine Put.row rfl ?_
                    | refine Put.buf rfl ?_
                    | refine Look.at1 ?_
                    | refine Look.at2 ?_
                    | refine Look.at3 ?_
                    | refine Look.at4 ?_
                    | refine Look.at5 ?_
                    | refine Look.at6 ?_
                    | refine Look.at7 ?_
                    | refine Look.at8 ?_
                    | with_reducible refine Val.i64 (by omega) (by omega) ?_
                    | with_reducible refine Val.u8 (by omega) (by omega) ?_
                    | with_reducible refine Val.u32 (by omega) (by omega) ?_
                    | with_reducible refine Val.u64 (by omega) (by omega) ?_
                    | with_reducible refine Val.u8m ?_
                    | with_reducible refine Val.u32m ?_
                    | with_reducible refine Val.u64m ?_
                    | with_reducible refine Val.shr8 ?_
                    | with_reducible refine Val.shr16 (by decide) ?_
                    | with_reducible refine Val.shr24 (by decide) ?_
                    | with_reducible refine Val.raw ?_
                    | refine Branch.not ?_
                    | refine Branch.and ?_
                    | refine Branch.or ?_
                    | refine Branch.dt (by assumption) ?_
                    | refine Branch.df (by assumption) ?_
                    | refine Branch.dt rfl ?_
                    | refine Branch.dt (by omega) ?_
                    | refine Branch.df (by omega) ?_
                    | refine Branch.t rfl ?_
                    | refine Branch.f rfl ?_
                    | refine Branch.t (by assumption) ?_
                    | refine Branch.f (by assumption) ?_
                    | refine Branch.d (fun _ => ?_) (fun _ => ?_)
                    | refine Branch.mk (fun _ => ?_) (fun _ => ?_)
                    | refine Need.mk (by first | omega | decide | rfl) ?_
                    | refine Idx.nat (by omega) ?_
                    | refine Idx.auto (by first | omega | decide) (by first | omega | decide) ?_
                    | refine Cell.ro rfl ?_
                    | refine SDraw.all (by kernel_rfl) ?_
                    | refine Kept.k0 ?_
                    | refine Kept.k1 ?_
                    | refine Kept.k2 ?_
                    | refine Kept.k3 ?_
                    | refine Kept.k4 ?_))
                all_goals (conv => whnf)
                exact next _ _ .mk (hD.put5 (s' := ⟨n, s.v, 0, 0, false⟩) (by rw [hul]; exact g1) g2 g3 hs ⟨hsn.symm, rfl⟩ hp).1
              · have e : goneS n s = s := by unfold goneS; rw [if_neg hsn]
                rw [e] at next
                repeat' ((conv => whnf); (first
                    | refine Look.mem g1 (fun _ _ _ => ?_)
                    | refine Look.cell hm hc0 ?_
                    | refine New.mk (fun _ => ?_)
                    | refine Look.at0 ?_
                    | refine Cell.row ?_
                    | refine Cell.buf ?_
                    | refine Cells.row rfl ?_
                    | refine Put.row rfl ?_
                    | refine Put.buf rfl ?_
                    | refine Look.at1 ?_
                    | refine Look.at2 ?_
                    | refine Look.at3 ?_
                    | refine Look.at4 ?_
                    | refine Look.at5 ?_
                    | refine Look.at6 ?_
                    | refine Look.at7 ?_
                    | refine Look.at8 ?_
                    | with_reducible refine Val.i64 (by omega) (by omega) ?_
                    | with_reducible refine Val.u8 (by omega) (by omega) ?_
                    | with_reducible refine Val.u32 (by omega) (by omega) ?_
                    | with_reducible refine Val.u64 (by omega) (by omega) ?_
                    | with_reducible refine Val.u8m ?_
                    | with_reducible refine Val.u32m ?_
                    | with_reducible refine Val.u64m ?_
                    | with_reducible refine Val.shr8 ?_
                    | with_reducible refine Val.shr16 (by decide) ?_
                    | with_reducible refine Val.shr24 (by decide) ?_
                    | with_reducible refine Val.raw ?_
                    | refine Branch.not ?_
                    | refine Branch.and ?_
                    | refine Branch.or ?_
                    | refine Branch.dt (by assumption) ?_
                    | refine Branch.df (by assumption) ?_
                    | refine Branch.dt rfl ?_
                    | refine Branch.dt (by omega) ?_
                    | refine Branch.df (by omega) ?_
                    | refine Branch.t rfl ?_
                    | refine Branch.f rfl ?_
                    | refine Branch.t (by assumption) ?_
                    | refine Branch.f (by assumption) ?_
                    | refine Branch.d (fun _ => ?_) (fun _ => ?_)
                    | refine Branch.mk (fun _ => ?_) (fun _ => ?_)
                    | refine Need.mk (by first | omega | decide | rfl) ?_
                    | refine Idx.nat (by omega) ?_
                    | refine Idx.auto (by first | omega | decide) (by first | omega | decide) ?_
                    | refine Cell.ro rfl ?_
                    | refine SDraw.all (by kernel_rfl) ?_
                    | refine Kept.k0 ?_
                    | refine Kept.k1 ?_
                    | refine Kept.k2 ?_
                    | refine Kept.k3 ?_
                    | refine Kept.k4 ?_))
                all_goals (conv => whnf)
                refine next _ _ .mk ?_
                have : U.set j s = U := by
                  obtain ⟨hl1, hl2⟩ := List.getElem?_eq_some_iff.1 hs
                  rw [← hl2, List.set_getElem_self]
                rw [this]; exact hD
            · have e : j = Sl.length := by omega
              subst e
              rw [updTo_all (Nat.le_refl _)] at hD
              repeat' ((conv => whnf); (first
                  | refine Look.mem g1 (fun _ _ _ => ?_)
                  | refine New.mk (fun _ => ?_)
                  | refine Look.at0 ?_
                  | refine Cell.row ?_
                  | refine Cell.buf ?_
                  | refine Cells.row rfl ?_
                  | refine Put.row rfl ?_
                  | refine Put.buf rfl ?_
                  | refine Look.at1 ?_
                  | refine Look.at2 ?_
                  | refine Look.at3 ?_
                  | refine Look.at4 ?_
                  | refine Look.at5 ?_
                  | refine Look.at6 ?_
                  | refine Look.at7 ?_
                  | refine Look.at8 ?_
                  | with_reducible refine Val.i64 (by omega) (by omega) ?_
                  | with_reducible refine Val.u8 (by omega) (by omega) ?_
                  | with_reducible refine Val.u32 (by omega) (by omega) ?_
                  | with_reducible refine Val.u64 (by omega) (by omega) ?_
                  | with_reducible refine Val.u8m ?_
                  | with_reducible refine Val.u32m ?_
                  | with_reducible refine Val.u64m ?_
                  | with_reducible refine Val.shr8 ?_
                  | with_reducible refine Val.shr16 (by decide) ?_
                  | with_reducible refine Val.shr24 (by decide) ?_
                  | with_reducible refine Val.raw ?_
                  | refine Branch.not ?_
                  | refine Branch.and ?_
                  | refine Branch.or ?_
                  | refine Branch.dt (by assumption) ?_
                  | refine Branch.df (by assumption) ?_
                  | refine Branch.dt rfl ?_
                  | refine Branch.dt (by omega) ?_
                  | refine Branch.df (by omega) ?_
                  | refine Branch.t rfl ?_
                  | refine Branch.f rfl ?_
                  | refine Branch.t (by assumption) ?_
                  | refine Branch.f (by assumption) ?_
                  | refine Branch.d (fun _ => ?_) (fun _ => ?_)
                  | refine Branch.mk (fun _ => ?_) (fun _ => ?_)
                  | refine Need.mk (by first | omega | decide | rfl) ?_
                  | refine Idx.nat (by omega) ?_
                  | refine Idx.auto (by first | omega | decide) (by first | omega | decide) ?_
                  | refine Cell.ro rfl ?_
                  | refine SDraw.all (by kernel_rfl) ?_
                  | refine Kept.k0 ?_
                  | refine Kept.k1 ?_
                  | refine Kept.k2 ?_
                  | refine Kept.k3 ?_
                  | refine Kept.k4 ?_))
              all_goals (conv => whnf)
              exact Keep.all (h _ hD)
  · rw [if_neg hr] at h
    repeat' ((conv => whnf); (first
        | refine Look.mem g1 (fun _ _ _ => ?_)
        | refine New.mk (fun _ => ?_)
        | refine Look.at0 ?_
        | refine Cell.row ?_
        | refine Cell.buf ?_
        | refine Cells.row rfl ?_
        | refine Put.row rfl ?_
        | refine Put.buf rfl ?_
        | refine Look.at1 ?_
        | refine Look.at2 ?_
        | refine Look.at3 ?_
        | refine Look.at4 ?_
        | refine Look.at5 ?_
        | refine Look.at6 ?_
        | refine Look.at7 ?_
        | refine Look.at8 ?_
        | with_reducible refine Val.i64 (by omega) (by omega) ?_
        | with_reducible refine Val.u8 (by omega) (by omega) ?_
        | with_reducible refine Val.u32 (by omega) (by omega) ?_
        | with_reducible refine Val.u64 (by omega) (by omega) ?_
        | with_reducible refine Val.u8m ?_
        | with_reducible refine Val.u32m ?_
        | with_reducible refine Val.u64m ?_
        | with_reducible refine Val.shr8 ?_
        | with_reducible refine Val.shr16 (by decide) ?_
        | with_reducible refine Val.shr24 (by decide) ?_
        | with_reducible refine Val.raw ?_
        | refine Branch.not ?_
        | refine Branch.and ?_
        | refine Branch.or ?_
        | refine Branch.dt (by assumption) ?_
        | refine Branch.df (by assumption) ?_
        | refine Branch.dt rfl ?_
        | refine Branch.dt (by omega) ?_
        | refine Branch.df (by omega) ?_
        | refine Branch.t rfl ?_
        | refine Branch.f rfl ?_
        | refine Branch.t (by assumption) ?_
        | refine Branch.f (by assumption) ?_
        | refine Branch.d (fun _ => ?_) (fun _ => ?_)
        | refine Branch.mk (fun _ => ?_) (fun _ => ?_)
        | refine Need.mk (by first | omega | decide | rfl) ?_
        | refine Idx.nat (by omega) ?_
        | refine Idx.auto (by first | omega | decide) (by first | omega | decide) ?_
        | refine Cell.ro rfl ?_
        | refine SDraw.all (by kernel_rfl) ?_
        | refine Kept.k0 ?_
        | refine Kept.k1 ?_
        | refine Kept.k2 ?_
        | refine Kept.k3 ?_
        | refine Kept.k4 ?_))
    all_goals (conv => whnf)
    all_goals first
      | exact Keep.all (h _ hD)
      | omega
end
end Go.Proofs.Ytjnlpaojaikjaaa

/- Layer 26: the document's New: by walks. -/
set_option linter.unusedVariables false
set_option linter.unusedSimpArgs false
set_option maxRecDepth 100000
set_option maxHeartbeats 4000000
namespace Go.Proofs.Ytjnlpaojaikjaaa
open Sx
theorem nodup_le : ∀ (n : Nat) (l : List Int), l.Nodup → (∀ x ∈ l, 0 ≤ x ∧ x < (n : Int)) → l.length ≤ n
  | 0, [], _, _ => Nat.le_refl 0
  | 0, x :: l, _, h => by have := h x (.head _); omega
  | n + 1, l, hn, h => by
    have h1 := nodup_le n (l.erase (n : Int)) (hn.erase _) fun x hx => by
      obtain ⟨h2, h3⟩ := (hn.mem_erase_iff).1 hx
      have := h x h3
      omega
    have h2 := List.length_erase (a := (n : Int)) (l := l)
    split at h2 <;> omega
def sgN (i : Nat) (cons : List Int) : List Sg := cons.map fun c => ⟨c, (i : Int), 0, 0, false⟩
def flatN (L : List VarI) : List Sg := (L.mapIdx fun i x => sgN i x.cons).flatten
def newD (n : Nat) (L : List VarI) : Dc := ⟨List.replicate n true, List.replicate L.length 0, flatN L, 0⟩
theorem flatN_next {L : List VarI} {i : Nat} {x : VarI} (hx : L[i]? = some x) : flatN (L.take (i + 1)) = flatN (L.take i) ++ sgN i x.cons := by
  have hlt := (List.getElem?_eq_some_iff.1 hx).1
  obtain ⟨y, hy, _, ht⟩ := list_at hlt
  rw [hx] at hy; injection hy with hy; subst hy
  unfold flatN
  rw [ht, List.mapIdx_concat, List.flatten_append, List.length_take, Nat.min_eq_left (by omega)]; simp
theorem flatN_le : ∀ (k : Nat) (L : List VarI), (∀ x ∈ L, x.cons.length ≤ 127) → k ≤ L.length → (flatN (L.take k)).length ≤ k * 127
  | 0, L, _, _ => by simp [flatN]
  | k + 1, L, h, hk => by
    obtain ⟨x, hx, _, _⟩ := list_at (L := L) (j := k) (by omega)
    rw [flatN_next hx, List.length_append]
    have h1 := flatN_le k L h (by omega)
    have h2 := h x (List.mem_of_getElem? hx)
    have h3 : (sgN k x.cons).length = x.cons.length := by unfold sgN; rw [List.length_map]
    omega
theorem flatN_ok {L : List VarI} {s : Sg} (hs : s ∈ flatN L) : ∃ x ∈ L, s.nd ∈ x.cons ∧ 0 ≤ s.v ∧ s.v < (L.length : Int) := by
  unfold flatN at hs
  obtain ⟨l, hl, hs⟩ := List.mem_flatten.1 hs
  obtain ⟨i, hi, rfl⟩ := List.mem_mapIdx.1 hl
  unfold sgN at hs
  obtain ⟨c, hc, rfl⟩ := List.mem_map.1 hs
  exact ⟨L[i], List.getElem_mem hi, hc, by show (0 : Int) ≤ (i : Int); omega, by show (i : Int) < _; omega⟩
def BB (a : Option Addr) (c : Nat) (H : Heap) (th : List Bool) : Prop := (a = none ∧ th = [] ∧ c = 0) ∨ ∃ r, a = some ⟨r, 0, none⟩ ∧ th.length ≤ c ∧ c ≤ maxLen ∧ (r, Blk.buf 4 (th.map Value.bool) (c * 1)) ∈ H
def SB (a : Option Addr) (c : Nat) (H : Heap) (l : List Sg) : Prop := (a = none ∧ l = [] ∧ c = 0) ∨ ∃ r, a = some ⟨r, 0, none⟩ ∧ l.length ≤ c ∧ c ≤ maxLen ∧ (r, Blk.buf 58 (l.flatMap Sg.cells) (c * 5)) ∈ H
abbrev rowE (ta : Option Addr) (nt ct : Nat) (sv : Value) (go no : Nat) (la : Option Addr) (ls lc : Nat) : Blk := .row 56 [.slice ta nt ct, sv, .slice (some ⟨go, 0, none⟩) no no, .slice la ls lc, .int .u64 0] (0, 0)
structure Pre (gd go : Nat) (sv : Value) (n : Nat) (I : Heap) (th : List Bool) (Sl : List Sg) (H : Heap) : Prop where
  ex : ∃ ta ct la lc, (gd, rowE ta th.length ct sv go n la Sl.length lc) ∈ H ∧ BB ta ct H th ∧ SB la lc H Sl
  own : (go, Blk.buf 35 (List.replicate n (.int .u64 0)) n) ∈ H
  sub : ∀ p ∈ I, kd p.2 = 5000 ∧ p ∈ H
theorem BB.keep {a : Option Addr} {c : Nat} {H H' : Heap} {l : List Bool} (h : BB a c H l) (hs : ∀ q ∈ H, kd q.2 = 1004 → q ∈ H') : BB a c H' l := by
  rcases h with h | ⟨r, h1, h2, h3, h4⟩
  · exact .inl h
  · exact .inr ⟨r, h1, h2, h3, hs _ h4 rfl⟩
theorem SB.keep {a : Option Addr} {c : Nat} {H H' : Heap} {l : List Sg} (h : SB a c H l) (hs : ∀ q ∈ H, kd q.2 = 1058 → q ∈ H') : SB a c H' l := by
  rcases h with h | ⟨r, h1, h2, h3, h4⟩
  · exact .inl h
  · exact .inr ⟨r, h1, h2, h3, hs _ h4 rfl⟩
inductive S10 (A0 A1 A5 A6 : Value) : List Value → Prop
  | mk {r2 r3 r4 r7 r8 r9 r10 r11 r12 r13 r14 r15 r16 r17 r18 r19 r20 r21 r22 r23 r24 r25 r26 r27 r28 r29 r30 r31 r32 r33 r34 r35 r36 r37 r38 r39 r40 r41 r42 r43 r44 r45 r46 r47 r48 r49 r50 r51 r52 r53 r54 r55 r56 r57 r58 r59 r60 r61 r62 r63 r64 : Value} : S10 A0 A1 A5 A6 [A0, A1, r2, r3, r4, A5, A6, r7, r8, r9, r10, r11, r12, r13, r14, r15, r16, r17, r18, r19, r20, r21, r22, r23, r24, r25, r26, r27, r28, r29, r30, r31, r32, r33, r34, r35, r36, r37, r38, r39, r40, r41, r42, r43, r44, r45, r46, r47, r48, r49, r50, r51, r52, r53, r54, r55, r56, r57, r58, r59, r60, r61, r62, r63, r64]
inductive S10a (A1 A5 A7 : Value) : List Value → Prop
  | mk {r0 r2 r3 r4 r6 r8 r9 r10 r11 r12 r13 r14 r15 r16 r17 r18 r19 r20 r21 r22 r23 r24 r25 r26 r27 r28 r29 r30 r31 r32 r33 r34 r35 r36 r37 r38 r39 r40 r41 r42 r43 r44 r45 r46 r47 r48 r49 r50 r51 r52 r53 r54 r55 r56 r57 r58 r59 r60 r61 r62 r63 r64 : Value} : S10a A1 A5 A7 [r0, A1, r2, r3, r4, A5, r6, A7, r8, r9, r10, r11, r12, r13, r14, r15, r16, r17, r18, r19, r20, r21, r22, r23, r24, r25, r26, r27, r28, r29, r30, r31, r32, r33, r34, r35, r36, r37, r38, r39, r40, r41, r42, r43, r44, r45, r46, r47, r48, r49, r50, r51, r52, r53, r54, r55, r56, r57, r58, r59, r60, r61, r62, r63, r64]
inductive S10b (A1 A5 A7 A8 : Value) : List Value → Prop
  | mk {r0 r2 r3 r4 r6 r9 r10 r11 r12 r13 r14 r15 r16 r17 r18 r19 r20 r21 r22 r23 r24 r25 r26 r27 r28 r29 r30 r31 r32 r33 r34 r35 r36 r37 r38 r39 r40 r41 r42 r43 r44 r45 r46 r47 r48 r49 r50 r51 r52 r53 r54 r55 r56 r57 r58 r59 r60 r61 r62 r63 r64 : Value} : S10b A1 A5 A7 A8 [r0, A1, r2, r3, r4, A5, r6, A7, A8, r9, r10, r11, r12, r13, r14, r15, r16, r17, r18, r19, r20, r21, r22, r23, r24, r25, r26, r27, r28, r29, r30, r31, r32, r33, r34, r35, r36, r37, r38, r39, r40, r41, r42, r43, r44, r45, r46, r47, r48, r49, r50, r51, r52, r53, r54, r55, r56, r57, r58, r59, r60, r61, r62, r63, r64]
def I10a (gd go n : Nat) (sv : Value) (L : List VarI) (I : Heap) (i : Nat) (S : List Value) (H : Heap) : Prop :=
  i ≤ L.length ∧ S10a sv (ptr gd) (.int .i64 (i : Int)) S ∧ Pre gd go sv L.length I (List.replicate n true) (flatN (L.take i)) H
def I10b (gd go n : Nat) (sv : Value) (L : List VarI) (I : Heap) (i : Nat) (cons : List Int) (k : Nat) (S : List Value) (H : Heap) : Prop :=
  k ≤ cons.length ∧ S10b sv (ptr gd) (.int .i64 (i : Int)) (.int .i64 (k : Int)) S ∧ Pre gd go sv L.length I (List.replicate n true) (flatN (L.take i) ++ sgN i (cons.take k)) H
def I10 (gd go n : Nat) (sv : Value) (nv : Nat) (I : Heap) (j : Nat) (S : List Value) (H : Heap) : Prop :=
  j ≤ n ∧ S10 (.int .i64 (n : Int)) sv (ptr gd) (.int .i64 (j : Int)) S ∧ Pre gd go sv nv I (List.replicate j true) [] H
section
variable {K : Value → Heap → Prop} {H I : Heap} {sv : Value} {L : List VarI}
theorem c10 (hin : InV sv I L) (hI : ∀ p ∈ I, kd p.2 = 5000 ∧ p ∈ H) (n : Nat) (hchk : chkV (n : Int) (L.map VarI.lg) = 0) (h : ∀ gd H', Doc gd sv L I (newD n L) H' → K (ptr gd) H') : SCalls Try.prog 10 [.int .i64 (n : Int), sv] H K := by
  obtain ⟨sa, sc, rfl, hml⟩ := hin.sl.sv
  have hml' : L.length ≤ 9223372036854775807 := by simp only [maxLen] at hml; omega
  obtain ⟨hn1, hn2, hl64, hgo⟩ := chk_zero hchk
  rw [List.length_map] at hl64
  have hok := goV_zero hgo
  have hcons : ∀ x ∈ L, 0 ≤ x.prod ∧ x.prod < (n : Int) ∧ (∀ c ∈ x.cons, 0 ≤ c ∧ c < (n : Int)) ∧ x.cons.length ≤ 127 := fun x hx => by
    obtain ⟨h1, h2⟩ := hok x.lg (List.mem_map_of_mem hx)
    have := mk_ok h1 h2
    have h3 : ∀ c ∈ x.cons, 0 ≤ c ∧ c < (n : Int) := fun c hc => this.keys (c, none) (List.mem_map.2 ⟨c, hc, rfl⟩)
    have h4 := nodup_le n x.cons (dup_nodup _ _ h2).1 h3
    exact ⟨this.prod.1, this.prod.2, h3, by omega⟩
  refine enter10 ?_
  repeat' ((conv => whnf); (first
      | refine RawV.make1 (t := 47) (e := 35) (bytes := 8) (zv := .int .u64 0) (n := L.length) rfl (by kernel_rfl) (by kernel_rfl) rfl (by omega) (by unfold maxLen; omega) (fun go => ?_)
      | refine New.mk (fun _ => ?_)
      | refine Look.at0 ?_
      | refine Cell.row ?_
      | refine Cell.buf ?_
      | refine Cells.row rfl ?_
      | refine Put.row rfl ?_
      | refine Put.buf rfl ?_
      | refine Look.at1 ?_
      | refine Look.at2 ?_
      | refine Look.at3 ?_
      | refine Look.at4 ?_
      | refine Look.at5 ?_
      | refine Look.at6 ?_
      | refine Look.at7 ?_
      | refine Look.at8 ?_
      | with_reducible refine Val.i64 (by omega) (by omega) ?_
      | with_reducible refine Val.u8 (by omega) (by omega) ?_
      | with_reducible refine Val.u32 (by omega) (by omega) ?_
      | with_reducible refine Val.u64 (by omega) (by omega) ?_
      | with_reducible refine Val.u8m ?_
      | with_reducible refine Val.u32m ?_
      | with_reducible refine Val.u64m ?_
      | with_reducible refine Val.shr8 ?_
      | with_reducible refine Val.shr16 (by decide) ?_
      | with_reducible refine Val.shr24 (by decide) ?_
      | with_reducible refine Val.raw ?_
      | refine Branch.not ?_
      | refine Branch.and ?_
      | refine Branch.or ?_
      | refine Branch.dt (by assumption) ?_
      | refine Branch.df (by assumption) ?_
      | refine Branch.dt rfl ?_
      | refine Branch.dt (by omega) ?_
      | refine Branch.df (by omega) ?_
      | refine Branch.t rfl ?_
      | refine Branch.f rfl ?_
      | refine Branch.t (by assumption) ?_
      | refine Branch.f (by assumption) ?_
      | refine Branch.d (fun _ => ?_) (fun _ => ?_)
      | refine Branch.mk (fun _ => ?_) (fun _ => ?_)
      | refine Need.mk (by first | omega | decide | rfl) ?_
      | refine Idx.nat (by omega) ?_
      | refine Idx.auto (by first | omega | decide) (by first | omega | decide) ?_
      | refine Cell.ro rfl ?_
      | refine SDraw.all (by kernel_rfl) ?_
      | refine Kept.k0 ?_
      | refine Kept.k1 ?_
      | refine Kept.k2 ?_
      | refine Kept.k3 ?_
      | refine Kept.k4 ?_))
  rename_i gd
  repeat' ((conv => whnf); (first
      | refine New.mk (fun _ => ?_)
      | refine Look.at0 ?_
      | refine Cell.row ?_
      | refine Cell.buf ?_
      | refine Cells.row rfl ?_
      | refine Put.row rfl ?_
      | refine Put.buf rfl ?_
      | refine Look.at1 ?_
      | refine Look.at2 ?_
      | refine Look.at3 ?_
      | refine Look.at4 ?_
      | refine Look.at5 ?_
      | refine Look.at6 ?_
      | refine Look.at7 ?_
      | refine Look.at8 ?_
      | with_reducible refine Val.i64 (by omega) (by omega) ?_
      | with_reducible refine Val.u8 (by omega) (by omega) ?_
      | with_reducible refine Val.u32 (by omega) (by omega) ?_
      | with_reducible refine Val.u64 (by omega) (by omega) ?_
      | with_reducible refine Val.u8m ?_
      | with_reducible refine Val.u32m ?_
      | with_reducible refine Val.u64m ?_
      | with_reducible refine Val.shr8 ?_
      | with_reducible refine Val.shr16 (by decide) ?_
      | with_reducible refine Val.shr24 (by decide) ?_
      | with_reducible refine Val.raw ?_
      | refine Branch.not ?_
      | refine Branch.and ?_
      | refine Branch.or ?_
      | refine Branch.dt (by assumption) ?_
      | refine Branch.df (by assumption) ?_
      | refine Branch.dt rfl ?_
      | refine Branch.dt (by omega) ?_
      | refine Branch.df (by omega) ?_
      | refine Branch.t rfl ?_
      | refine Branch.f rfl ?_
      | refine Branch.t (by assumption) ?_
      | refine Branch.f (by assumption) ?_
      | refine Branch.d (fun _ => ?_) (fun _ => ?_)
      | refine Branch.mk (fun _ => ?_) (fun _ => ?_)
      | refine Need.mk (by first | omega | decide | rfl) ?_
      | refine Idx.nat (by omega) ?_
      | refine Idx.auto (by first | omega | decide) (by first | omega | decide) ?_
      | refine Cell.ro rfl ?_
      | refine SDraw.all (by kernel_rfl) ?_
      | refine Kept.k0 ?_
      | refine Kept.k1 ?_
      | refine Kept.k2 ?_
      | refine Kept.k3 ?_
      | refine Kept.k4 ?_))
  refine SLoop.invA (I10 gd go n (.slice sa L.length sc) L.length I) (fun j => n - j) 0 (Keep.all ⟨Nat.zero_le _, .mk, ⟨none, 0, none, 0, .head _, .inl ⟨rfl, rfl, rfl⟩, .inl ⟨rfl, rfl, rfl⟩⟩, .tail _ (.head _), fun p hp => ⟨(hI p hp).1, .tail _ (.tail _ (hI p hp).2)⟩⟩) ?_
  rintro j S H' ⟨hj, hS, hP⟩ R hR
  cases hS
  obtain ⟨ta, ct, la, lc, g1, g2, g3⟩ := hP.ex
  rw [List.length_replicate] at g1
  by_cases hlt : j < n
  · have hfin : ∀ S H2 r' c', S10 (.int .i64 (n : Int)) (.slice sa L.length sc) (ptr gd) (.int .i64 ((j + 1 : Nat) : Int)) S → j + 1 ≤ c' → c' ≤ maxLen → (gd, rowE (some ⟨r', 0, none⟩) (j + 1) c' (.slice sa L.length sc) go L.length la 0 lc) ∈ H2 → (r', Blk.buf 4 (List.replicate j (Value.bool true) ++ [.bool true]) (c' * 1)) ∈ H2 →
        (∀ z ∈ H', kd z.2 ≠ 56 → kd z.2 ≠ 1004 → z ∈ H2) → R S H2 := fun S H2 r' c' h1 h2 h3 h4 h5 h6 => by
      refine hR (j + 1) _ _ (by omega) (Keep.all ⟨by omega, h1, ⟨some ⟨r', 0, none⟩, c', la, lc, ?_, .inr ⟨r', rfl, by rw [List.length_replicate]; exact h2, h3, ?_⟩, g3.keep fun q hq hk => h6 q hq (by rw [hk]; decide) (by rw [hk]; decide)⟩, h6 _ hP.own (by show 1035 ≠ 56; decide) (by show 1035 ≠ 1004; decide), fun p hp => ⟨(hI p hp).1, h6 p (hP.sub p hp).2 (by rw [(hI p hp).1]; decide) (by rw [(hI p hp).1]; decide)⟩⟩)
      · rw [List.length_replicate]; exact h4
      · rw [List.map_replicate, List.replicate_succ']; exact h5
    clear hR
    rcases g2 with ⟨rfl, hz, rfl⟩ | ⟨rl, rfl, gl1, gl2, gl3⟩
    · have hj0 : j = 0 := by cases j with | zero => rfl | succ j => cases hz
      subst hj0
      repeat' ((conv => whnf); (first
          | refine Look.mem (.tail _ g1) (fun _ _ _ => ?_)
          | refine Look.mem g1 (fun _ _ _ => ?_)
          | refine RawV.app0T (e := 4) (size := 1) (bytes := 1) (m := 1) (news := [.bool true]) rfl (by kernel_rfl) (by decide) (.head _) rfl (fun j v hj => by rw [Nat.zero_add]; exact hj) (by decide) (by unfold maxLen; omega) (by omega) (fun r' c' h1 h2 => ?_)
          | refine Look.put (rowE (some ⟨r', 0, none⟩) 1 c' (.slice sa L.length sc) go L.length la 0 lc) (.tail _ (.tail _ g1)) (PutOk.rowb (by rfl) (by rfl)) (fun H2 hp2 => ?_)
          | refine New.mk (fun _ => ?_)
          | refine Look.at0 ?_
          | refine Cell.row ?_
          | refine Cell.buf ?_
          | refine Cells.row rfl ?_
          | refine Put.row rfl ?_
          | refine Put.buf rfl ?_
          | refine Look.at1 ?_
          | refine Look.at2 ?_
          | refine Look.at3 ?_
          | refine Look.at4 ?_
          | refine Look.at5 ?_
          | refine Look.at6 ?_
          | refine Look.at7 ?_
          | refine Look.at8 ?_
          | with_reducible refine Val.i64 (by omega) (by omega) ?_
          | with_reducible refine Val.u8 (by omega) (by omega) ?_
          | with_reducible refine Val.u32 (by omega) (by omega) ?_
          | with_reducible refine Val.u64 (by omega) (by omega) ?_
          | with_reducible refine Val.u8m ?_
          | with_reducible refine Val.u32m ?_
          | with_reducible refine Val.u64m ?_
          | with_reducible refine Val.shr8 ?_
          | with_reducible refine Val.shr16 (by decide) ?_
          | with_reducible refine Val.shr24 (by decide) ?_
          | with_reducible refine Val.raw ?_
          | refine Branch.not ?_
          | refine Branch.and ?_
          | refine Branch.or ?_
          | refine Branch.dt (by assumption) ?_
          | refine Branch.df (by assumption) ?_
          | refine Branch.dt rfl ?_
          | refine Branch.dt (by omega) ?_
          | refine Branch.df (by omega) ?_
          | refine Branch.t rfl ?_
          | refine Branch.f rfl ?_
          | refine Branch.t (by assumption) ?_
          | refine Branch.f (by assumption) ?_
          | refine Branch.d (fun _ => ?_) (fun _ => ?_)
          | refine Branch.mk (fun _ => ?_) (fun _ => ?_)
          | refine Need.mk (by first | omega | decide | rfl) ?_
          | refine Idx.nat (by omega) ?_
          | refine Idx.auto (by first | omega | decide) (by first | omega | decide) ?_
          | refine Cell.ro rfl ?_
          | refine SDraw.all (by kernel_rfl) ?_
          | refine Kept.k0 ?_
          | refine Kept.k1 ?_
          | refine Kept.k2 ?_
          | refine Kept.k3 ?_
          | refine Kept.k4 ?_))
      all_goals (conv => whnf)
      exact hfin _ H2 r' c' .mk h1 h2 hp2.new (hp2.blk (.head _) (ne_kd (by show 1004 ≠ 56; decide))) (fun z hz a1 a2 => hp2.blk (.tail _ (.tail _ hz)) (ne_kd a1))
    · rw [List.length_replicate] at gl1
      rw [List.map_replicate] at gl3
      repeat' ((conv => whnf); (first
          | refine Look.mem (.tail _ g1) (fun _ _ _ => ?_)
          | refine Look.mem g1 (fun _ _ _ => ?_)
          | refine RawV.appM (e := 4) (size := 1) (bytes := 1) (m := 1) (news := [.bool true]) rfl (by kernel_rfl) (by decide) (.tail _ gl3) (by simp) rfl gl1 gl2 (.head _) rfl (fun j v hj => by rw [Nat.zero_add]; exact hj) (by intro u hu; obtain rfl := List.mem_singleton.1 hu; rfl) (by unfold maxLen; omega) (by omega) (fun r' c' H3 h1 h2 h3 => ?_)
          | refine Look.put (rowE (some ⟨r', 0, none⟩) (j + 1) c' (.slice sa L.length sc) go L.length la 0 lc) (.tail _ (h3 _ (.tail _ g1) (fun e => by injection e with _ e; cases e))) (PutOk.rowb (by rfl) (by rfl)) (fun H2 hp2 => ?_)
          | refine New.mk (fun _ => ?_)
          | refine Look.at0 ?_
          | refine Cell.row ?_
          | refine Cell.buf ?_
          | refine Cells.row rfl ?_
          | refine Put.row rfl ?_
          | refine Put.buf rfl ?_
          | refine Look.at1 ?_
          | refine Look.at2 ?_
          | refine Look.at3 ?_
          | refine Look.at4 ?_
          | refine Look.at5 ?_
          | refine Look.at6 ?_
          | refine Look.at7 ?_
          | refine Look.at8 ?_
          | with_reducible refine Val.i64 (by omega) (by omega) ?_
          | with_reducible refine Val.u8 (by omega) (by omega) ?_
          | with_reducible refine Val.u32 (by omega) (by omega) ?_
          | with_reducible refine Val.u64 (by omega) (by omega) ?_
          | with_reducible refine Val.u8m ?_
          | with_reducible refine Val.u32m ?_
          | with_reducible refine Val.u64m ?_
          | with_reducible refine Val.shr8 ?_
          | with_reducible refine Val.shr16 (by decide) ?_
          | with_reducible refine Val.shr24 (by decide) ?_
          | with_reducible refine Val.raw ?_
          | refine Branch.not ?_
          | refine Branch.and ?_
          | refine Branch.or ?_
          | refine Branch.dt (by assumption) ?_
          | refine Branch.df (by assumption) ?_
          | refine Branch.dt rfl ?_
          | refine Branch.dt (by omega) ?_
          | refine Branch.df (by omega) ?_
          | refine Branch.t rfl ?_
          | refine Branch.f rfl ?_
          | refine Branch.t (by assumption) ?_
          | refine Branch.f (by assumption) ?_
          | refine Branch.d (fun _ => ?_) (fun _ => ?_)
          | refine Branch.mk (fun _ => ?_) (fun _ => ?_)
          | refine Need.mk (by first | omega | decide | rfl) ?_
          | refine Idx.nat (by omega) ?_
          | refine Idx.auto (by first | omega | decide) (by first | omega | decide) ?_
          | refine Cell.ro rfl ?_
          | refine SDraw.all (by kernel_rfl) ?_
          | refine Kept.k0 ?_
          | refine Kept.k1 ?_
          | refine Kept.k2 ?_
          | refine Kept.k3 ?_
          | refine Kept.k4 ?_))
      all_goals (conv => whnf)
      exact hfin _ H2 r' c' .mk h1 h2 hp2.new (hp2.blk (.head _) (ne_kd (by show 1004 ≠ 56; decide))) (fun z hz a1 a2 => hp2.blk (.tail _ (h3 z (.tail _ hz) (fun e => a2 (by rw [e]; rfl)))) (ne_kd a1))
  · have e : j = n := by omega
    subst e
    clear hR g1 g2 g3
    repeat' ((conv => whnf); (first
        | refine New.mk (fun _ => ?_)
        | refine Look.at0 ?_
        | refine Cell.row ?_
        | refine Cell.buf ?_
        | refine Cells.row rfl ?_
        | refine Put.row rfl ?_
        | refine Put.buf rfl ?_
        | refine Look.at1 ?_
        | refine Look.at2 ?_
        | refine Look.at3 ?_
        | refine Look.at4 ?_
        | refine Look.at5 ?_
        | refine Look.at6 ?_
        | refine Look.at7 ?_
        | refine Look.at8 ?_
        | with_reducible refine Val.i64 (by omega) (by omega) ?_
        | with_reducible refine Val.u8 (by omega) (by omega) ?_
        | with_reducible refine Val.u32 (by omega) (by omega) ?_
        | with_reducible refine Val.u64 (by omega) (by omega) ?_
        | with_reducible refine Val.u8m ?_
        | with_reducible refine Val.u32m ?_
        | with_reducible refine Val.u64m ?_
        | with_reducible refine Val.shr8 ?_
        | with_reducible refine Val.shr16 (by decide) ?_
        | with_reducible refine Val.shr24 (by decide) ?_
        | with_reducible refine Val.raw ?_
        | refine Branch.not ?_
        | refine Branch.and ?_
        | refine Branch.or ?_
        | refine Branch.dt (by assumption) ?_
        | refine Branch.df (by assumption) ?_
        | refine Branch.dt rfl ?_
        | refine Branch.dt (by omega) ?_
        | refine Branch.df (by omega) ?_
        | refine Branch.t rfl ?_
        | refine Branch.f rfl ?_
        | refine Branch.t (by assumption) ?_
        | refine Branch.f (by assumption) ?_
        | refine Branch.d (fun _ => ?_) (fun _ => ?_)
        | refine Branch.mk (fun _ => ?_) (fun _ => ?_)
        | refine Need.mk (by first | omega | decide | rfl) ?_
        | refine Idx.nat (by omega) ?_
        | refine Idx.auto (by first | omega | decide) (by first | omega | decide) ?_
        | refine Cell.ro rfl ?_
        | refine SDraw.all (by kernel_rfl) ?_
        | refine Kept.k0 ?_
        | refine Kept.k1 ?_
        | refine Kept.k2 ?_
        | refine Kept.k3 ?_
        | refine Kept.k4 ?_))
    refine SLoop.invA (I10a gd go j (.slice sa L.length sc) L I) (fun i => L.length - i) 0 (Keep.all ⟨Nat.zero_le _, .mk, hP⟩) ?_
    clear hP
    rintro i S H' ⟨hi, hS, hP⟩ R hR
    cases hS
    by_cases hlt : i < L.length
    · obtain ⟨x, hx, _, _⟩ := list_at hlt
      obtain ⟨rL, oL, cL, b, e1, hmI, hcL⟩ := inS_at hin.sl (fun _ => rfl) hx
      injection e1 with e1 _ e3
      subst e1
      have hxm := List.mem_of_getElem? hx
      have hel := hin.el x hxm
      have hxc := (hcons x hxm).2.2.2
      have hfn := flatN_next hx
      have hfl := flatN_le i L (fun x hx => (hcons x hx).2.2.2) (by omega)
      obtain ⟨xpr, xco, xad, xcp⟩ := x
      dsimp only at hel hxc hfn
      have hc1 : b.cell (oL + i * 2 + 1) = some (.slice xad xco.length xcp) := hcL 1 _ rfl
      have hkb : kd b = 5000 := (hP.sub _ hmI).1
      have hnext : ∀ S H2, S10a (.slice (some ⟨rL, oL, none⟩) L.length sc) (ptr gd) (.int .i64 ((i + 1 : Nat) : Int)) S → Pre gd go (.slice (some ⟨rL, oL, none⟩) L.length sc) L.length I (List.replicate j true) (flatN (L.take i) ++ sgN i xco) H2 → R S H2 := fun S H2 h1 h2 => by
        rw [← hfn] at h2
        exact hR (i + 1) _ _ (by omega) (Keep.all ⟨by omega, h1, h2⟩)
      clear hR h hfn
      repeat' ((conv => whnf); (first
          | refine New.mk (fun _ => ?_)
          | refine Look.at0 ?_
          | refine Cell.row ?_
          | refine Cell.buf ?_
          | refine Cells.row rfl ?_
          | refine Put.row rfl ?_
          | refine Put.buf rfl ?_
          | refine Look.at1 ?_
          | refine Look.at2 ?_
          | refine Look.at3 ?_
          | refine Look.at4 ?_
          | refine Look.at5 ?_
          | refine Look.at6 ?_
          | refine Look.at7 ?_
          | refine Look.at8 ?_
          | with_reducible refine Val.i64 (by omega) (by omega) ?_
          | with_reducible refine Val.u8 (by omega) (by omega) ?_
          | with_reducible refine Val.u32 (by omega) (by omega) ?_
          | with_reducible refine Val.u64 (by omega) (by omega) ?_
          | with_reducible refine Val.u8m ?_
          | with_reducible refine Val.u32m ?_
          | with_reducible refine Val.u64m ?_
          | with_reducible refine Val.shr8 ?_
          | with_reducible refine Val.shr16 (by decide) ?_
          | with_reducible refine Val.shr24 (by decide) ?_
          | with_reducible refine Val.raw ?_
          | refine Branch.not ?_
          | refine Branch.and ?_
          | refine Branch.or ?_
          | refine Branch.dt (by assumption) ?_
          | refine Branch.df (by assumption) ?_
          | refine Branch.dt rfl ?_
          | refine Branch.dt (by omega) ?_
          | refine Branch.df (by omega) ?_
          | refine Branch.t rfl ?_
          | refine Branch.f rfl ?_
          | refine Branch.t (by assumption) ?_
          | refine Branch.f (by assumption) ?_
          | refine Branch.d (fun _ => ?_) (fun _ => ?_)
          | refine Branch.mk (fun _ => ?_) (fun _ => ?_)
          | refine Need.mk (by first | omega | decide | rfl) ?_
          | refine Idx.nat (by omega) ?_
          | refine Idx.auto (by first | omega | decide) (by first | omega | decide) ?_
          | refine Cell.ro rfl ?_
          | refine SDraw.all (by kernel_rfl) ?_
          | refine Kept.k0 ?_
          | refine Kept.k1 ?_
          | refine Kept.k2 ?_
          | refine Kept.k3 ?_
          | refine Kept.k4 ?_))
      refine SLoop.invA (I10b gd go j (.slice (some ⟨rL, oL, none⟩) L.length sc) L I i xco) (fun k => xco.length - k) 0 (Keep.all ⟨Nat.zero_le _, .mk, by simpa [sgN] using hP⟩) ?_
      clear hP
      rintro k S H' ⟨hk, hS, hP⟩ R2 hR2
      cases hS
      have hmL := (hP.sub _ hmI).2
      by_cases hlt2 : k < xco.length
      · obtain ⟨y, hy, _, hty⟩ := list_at hlt2
        obtain ⟨r2, o2, c2, b2, e12, hm2, hc2⟩ := hel.at1 hy rfl
        injection e12 with e12 _ e32
        subst e12
        have hm2H := (hP.sub _ hm2).2
        have hk2 : kd b2 = 5000 := (hP.sub _ hm2).1
        have hle : (flatN (L.take i) ++ sgN i (xco.take k)).length ≤ 64 * 127 + 127 := by
          rw [List.length_append]
          unfold sgN
          rw [List.length_map, List.length_take]; omega
        have hnew : flatN (L.take i) ++ sgN i (xco.take (k + 1)) = (flatN (L.take i) ++ sgN i (xco.take k)) ++ [⟨y, (i : Int), 0, 0, false⟩] := by
          rw [hty]; unfold sgN; simp
        obtain ⟨ta, ct, la, lc, g1, g2, g3⟩ := hP.ex
        rw [List.length_replicate] at g1
        have hown := hP.own
        have hsub := hP.sub
        have hfin : ∀ S H2 r' c', S10b (.slice (some ⟨rL, oL, none⟩) L.length sc) (ptr gd) (.int .i64 (i : Int)) (.int .i64 ((k + 1 : Nat) : Int)) S → (flatN (L.take i) ++ sgN i (xco.take k)).length + 1 ≤ c' → c' ≤ maxLen →
            (gd, rowE ta j ct (.slice (some ⟨rL, oL, none⟩) L.length sc) go L.length (some ⟨r', 0, none⟩) ((flatN (L.take i) ++ sgN i (xco.take k)).length + 1) c') ∈ H2 → (r', Blk.buf 58 ((flatN (L.take i) ++ sgN i (xco.take k)).flatMap Sg.cells ++ Sg.cells ⟨y, (i : Int), 0, 0, false⟩) (c' * 5)) ∈ H2 →
            (∀ z ∈ H', kd z.2 ≠ 56 → kd z.2 ≠ 1058 → z ∈ H2) → R2 S H2 := fun S H2 r' c' h1 h2 h3 h4 h5 h6 => by
          refine hR2 (k + 1) _ _ (by omega) (Keep.all ⟨by omega, h1, ⟨ta, ct, some ⟨r', 0, none⟩, c', ?_, g2.keep fun q hq hk => h6 q hq (by rw [hk]; decide) (by rw [hk]; decide), .inr ⟨r', rfl, ?_, h3, ?_⟩⟩, h6 _ hown (by show 1035 ≠ 56; decide) (by show 1035 ≠ 1058; decide), fun p hp => ⟨(hsub p hp).1, h6 p (hsub p hp).2 (by rw [(hsub p hp).1]; decide) (by rw [(hsub p hp).1]; decide)⟩⟩)
          · rw [List.length_replicate, hnew, List.length_append]; exact h4
          · rw [hnew, List.length_append]; exact h2
          · rw [hnew, List.flatMap_append]; simpa using h5
        clear hR2 hnext hP hnew
        generalize flatN (L.take i) ++ sgN i (xco.take k) = U at hle g1 g3 hfin
        have hfl5 := flat_len (f := Sg.cells) (k := 5) (fun _ => rfl) U
        rcases g3 with ⟨rfl, rfl, rfl⟩ | ⟨rl, rfl, gl1, gl2, gl3⟩
        · repeat' ((conv => whnf); (first
              | refine Look.cell hmL hc1 ?_
              | refine SDraw.held (by kernel_rfl) [(gd, _), (rL, b), (r2, b2)] (.same g1 (.same hmL (.same hm2H .nil))) ?_
              | refine Look.mem (.head _) (fun _ _ _ => ?_)
              | refine Look.cell (.tail _ (.head _)) hc1 ?_
              | refine Look.cell (.tail _ (.tail _ (.head _))) hc2 ?_
              | refine Kept.mk (.same (.tail _ g1) (.same (.tail _ hmL) (.same (.tail _ hm2H) .nil))) ?_
              | refine Kept.mk (.same (.tail _ (.tail _ g1)) (.same (.tail _ (.tail _ hmL)) (.same (.tail _ (.tail _ hm2H)) .nil))) ?_
              | refine RawV.app0T (e := 58) (size := 5) (bytes := 40) (m := 1) (news := Sg.cells ⟨y, (i : Int), 0, 0, false⟩) rfl (by kernel_rfl) (by decide) (.head _) rfl (fun j v hj => by rw [Nat.zero_add]; exact hj) (by decide) (by unfold maxLen; omega) (by omega) (fun r' c' h1 h2 => ?_)
              | refine Look.put (rowE ta j ct (.slice (some ⟨rL, oL, none⟩) L.length sc) go L.length (some ⟨r', 0, none⟩) 1 c') (.tail _ (.tail _ g1)) (PutOk.rowb (by rfl) (by rfl)) (fun H2 hp2 => ?_)
              | refine New.mk (fun _ => ?_)
              | refine Look.at0 ?_
              | refine Cell.row ?_
              | refine Cell.buf ?_
              | refine Cells.row rfl ?_
              | refine Put.row rfl ?_
              | refine Put.buf rfl ?_
              | refine Look.at1 ?_
              | refine Look.at2 ?_
              | refine Look.at3 ?_
              | refine Look.at4 ?_
              | refine Look.at5 ?_
              | refine Look.at6 ?_
              | refine Look.at7 ?_
              | refine Look.at8 ?_
              | with_reducible refine Val.i64 (by omega) (by omega) ?_
              | with_reducible refine Val.u8 (by omega) (by omega) ?_
              | with_reducible refine Val.u32 (by omega) (by omega) ?_
              | with_reducible refine Val.u64 (by omega) (by omega) ?_
              | with_reducible refine Val.u8m ?_
              | with_reducible refine Val.u32m ?_
              | with_reducible refine Val.u64m ?_
              | with_reducible refine Val.shr8 ?_
              | with_reducible refine Val.shr16 (by decide) ?_
              | with_reducible refine Val.shr24 (by decide) ?_
              | with_reducible refine Val.raw ?_
              | refine Branch.not ?_
              | refine Branch.and ?_
              | refine Branch.or ?_
              | refine Branch.dt (by assumption) ?_
              | refine Branch.df (by assumption) ?_
              | refine Branch.dt rfl ?_
              | refine Branch.dt (by omega) ?_
              | refine Branch.df (by omega) ?_
              | refine Branch.t rfl ?_
              | refine Branch.f rfl ?_
              | refine Branch.t (by assumption) ?_
              | refine Branch.f (by assumption) ?_
              | refine Branch.d (fun _ => ?_) (fun _ => ?_)
              | refine Branch.mk (fun _ => ?_) (fun _ => ?_)
              | refine Need.mk (by first | omega | decide | rfl) ?_
              | refine Idx.nat (by omega) ?_
              | refine Idx.auto (by first | omega | decide) (by first | omega | decide) ?_
              | refine Cell.ro rfl ?_
              | refine SDraw.all (by kernel_rfl) ?_
              | refine Kept.k0 ?_
              | refine Kept.k1 ?_
              | refine Kept.k2 ?_
              | refine Kept.k3 ?_
              | refine Kept.k4 ?_))
          all_goals (conv => whnf)
          exact hfin _ H2 r' c' .mk h1 h2 hp2.new (hp2.blk (.head _) (ne_kd (by show 1058 ≠ 56; decide))) (fun z hz a1 a2 => hp2.blk (.tail _ (.tail _ hz)) (ne_kd a1))
        · repeat' ((conv => whnf); (first
              | refine Look.cell hmL hc1 ?_
              | refine SDraw.held (by kernel_rfl) [(gd, _), (rL, b), (r2, b2)] (.same g1 (.same hmL (.same hm2H .nil))) ?_
              | refine Look.mem (.head _) (fun _ _ _ => ?_)
              | refine Look.cell (.tail _ (.head _)) hc1 ?_
              | refine Look.cell (.tail _ (.tail _ (.head _))) hc2 ?_
              | refine Kept.mk (.same (.tail _ g1) (.same (.tail _ hmL) (.same (.tail _ hm2H) .nil))) ?_
              | refine Kept.mk (.same (.tail _ (h3 _ (.tail _ g1) (fun e => by injection e with _ e; cases e))) (.same (.tail _ (h3 _ (.tail _ hmL) (fun e => by injection e with _ e; rw [e] at hkb; revert hkb; show 1058 = 5000 → False; decide))) (.same (.tail _ (h3 _ (.tail _ hm2H) (fun e => by injection e with _ e; rw [e] at hk2; revert hk2; show 1058 = 5000 → False; decide))) .nil))) ?_
              | refine RawV.appM (e := 58) (size := 5) (bytes := 40) (m := 1) (news := Sg.cells ⟨y, (i : Int), 0, 0, false⟩) rfl (by kernel_rfl) (by decide) (.tail _ gl3) hfl5 rfl gl1 gl2 (.head _) rfl (fun j v hj => by rw [Nat.zero_add]; exact hj) (by intro u hu; simp only [List.mem_cons, List.not_mem_nil, or_false] at hu; rcases hu with rfl | rfl | rfl | rfl | rfl <;> rfl) (by unfold maxLen; omega) (by omega) (fun r' c' H3 h1 h2 h3 => ?_)
              | refine Look.put (rowE ta j ct (.slice (some ⟨rL, oL, none⟩) L.length sc) go L.length (some ⟨r', 0, none⟩) (U.length + 1) c') (.tail _ (h3 _ (.tail _ g1) (fun e => by injection e with _ e; cases e))) (PutOk.rowb (by rfl) (by rfl)) (fun H2 hp2 => ?_)
              | refine New.mk (fun _ => ?_)
              | refine Look.at0 ?_
              | refine Cell.row ?_
              | refine Cell.buf ?_
              | refine Cells.row rfl ?_
              | refine Put.row rfl ?_
              | refine Put.buf rfl ?_
              | refine Look.at1 ?_
              | refine Look.at2 ?_
              | refine Look.at3 ?_
              | refine Look.at4 ?_
              | refine Look.at5 ?_
              | refine Look.at6 ?_
              | refine Look.at7 ?_
              | refine Look.at8 ?_
              | with_reducible refine Val.i64 (by omega) (by omega) ?_
              | with_reducible refine Val.u8 (by omega) (by omega) ?_
              | with_reducible refine Val.u32 (by omega) (by omega) ?_
              | with_reducible refine Val.u64 (by omega) (by omega) ?_
              | with_reducible refine Val.u8m ?_
              | with_reducible refine Val.u32m ?_
              | with_reducible refine Val.u64m ?_
              | with_reducible refine Val.shr8 ?_
              | with_reducible refine Val.shr16 (by decide) ?_
              | with_reducible refine Val.shr24 (by decide) ?_
              | with_reducible refine Val.raw ?_
              | refine Branch.not ?_
              | refine Branch.and ?_
              | refine Branch.or ?_
              | refine Branch.dt (by assumption) ?_
              | refine Branch.df (by assumption) ?_
              | refine Branch.dt rfl ?_
              | refine Branch.dt (by omega) ?_
              | refine Branch.df (by omega) ?_
              | refine Branch.t rfl ?_
              | refine Branch.f rfl ?_
              | refine Branch.t (by assumption) ?_
              | refine Branch.f (by assumption) ?_
              | refine Branch.d (fun _ => ?_) (fun _ => ?_)
              | refine Branch.mk (fun _ => ?_) (fun _ => ?_)
              | refine Need.mk (by first | omega | decide | rfl) ?_
              | refine Idx.nat (by omega) ?_
              | refine Idx.auto (by first | omega | decide) (by first | omega | decide) ?_
              | refine Cell.ro rfl ?_
              | refine SDraw.all (by kernel_rfl) ?_
              | refine Kept.k0 ?_
              | refine Kept.k1 ?_
              | refine Kept.k2 ?_
              | refine Kept.k3 ?_
              | refine Kept.k4 ?_))
          all_goals (conv => whnf)
          exact hfin _ H2 r' c' .mk h1 h2 hp2.new (hp2.blk (.head _) (ne_kd (by show 1058 ≠ 56; decide))) (fun z hz a1 a2 => hp2.blk (.tail _ (h3 z (.tail _ hz) (fun e => a2 (by rw [e]; rfl)))) (ne_kd a1))
      · have e : k = xco.length := by omega
        subst e
        rw [List.take_length] at hP
        repeat' ((conv => whnf); (first
            | refine Look.cell hmL hc1 ?_
            | refine New.mk (fun _ => ?_)
            | refine Look.at0 ?_
            | refine Cell.row ?_
            | refine Cell.buf ?_
            | refine Cells.row rfl ?_
            | refine Put.row rfl ?_
            | refine Put.buf rfl ?_
            | refine Look.at1 ?_
            | refine Look.at2 ?_
            | refine Look.at3 ?_
            | refine Look.at4 ?_
            | refine Look.at5 ?_
            | refine Look.at6 ?_
            | refine Look.at7 ?_
            | refine Look.at8 ?_
            | with_reducible refine Val.i64 (by omega) (by omega) ?_
            | with_reducible refine Val.u8 (by omega) (by omega) ?_
            | with_reducible refine Val.u32 (by omega) (by omega) ?_
            | with_reducible refine Val.u64 (by omega) (by omega) ?_
            | with_reducible refine Val.u8m ?_
            | with_reducible refine Val.u32m ?_
            | with_reducible refine Val.u64m ?_
            | with_reducible refine Val.shr8 ?_
            | with_reducible refine Val.shr16 (by decide) ?_
            | with_reducible refine Val.shr24 (by decide) ?_
            | with_reducible refine Val.raw ?_
            | refine Branch.not ?_
            | refine Branch.and ?_
            | refine Branch.or ?_
            | refine Branch.dt (by assumption) ?_
            | refine Branch.df (by assumption) ?_
            | refine Branch.dt rfl ?_
            | refine Branch.dt (by omega) ?_
            | refine Branch.df (by omega) ?_
            | refine Branch.t rfl ?_
            | refine Branch.f rfl ?_
            | refine Branch.t (by assumption) ?_
            | refine Branch.f (by assumption) ?_
            | refine Branch.d (fun _ => ?_) (fun _ => ?_)
            | refine Branch.mk (fun _ => ?_) (fun _ => ?_)
            | refine Need.mk (by first | omega | decide | rfl) ?_
            | refine Idx.nat (by omega) ?_
            | refine Idx.auto (by first | omega | decide) (by first | omega | decide) ?_
            | refine Cell.ro rfl ?_
            | refine SDraw.all (by kernel_rfl) ?_
            | refine Kept.k0 ?_
            | refine Kept.k1 ?_
            | refine Kept.k2 ?_
            | refine Kept.k3 ?_
            | refine Kept.k4 ?_))
        all_goals (conv => whnf)
        exact hnext _ _ .mk hP
    · have e : i = L.length := by omega
      subst e
      rw [List.take_length] at hP
      have hsub := hP.sub
      have hown := hP.own
      obtain ⟨ta, ct, la, lc, g1, g2, g3⟩ := hP.ex
      rw [List.length_replicate] at g1
      repeat' ((conv => whnf); (first
          | refine New.mk (fun _ => ?_)
          | refine Look.at0 ?_
          | refine Cell.row ?_
          | refine Cell.buf ?_
          | refine Cells.row rfl ?_
          | refine Put.row rfl ?_
          | refine Put.buf rfl ?_
          | refine Look.at1 ?_
          | refine Look.at2 ?_
          | refine Look.at3 ?_
          | refine Look.at4 ?_
          | refine Look.at5 ?_
          | refine Look.at6 ?_
          | refine Look.at7 ?_
          | refine Look.at8 ?_
          | with_reducible refine Val.i64 (by omega) (by omega) ?_
          | with_reducible refine Val.u8 (by omega) (by omega) ?_
          | with_reducible refine Val.u32 (by omega) (by omega) ?_
          | with_reducible refine Val.u64 (by omega) (by omega) ?_
          | with_reducible refine Val.u8m ?_
          | with_reducible refine Val.u32m ?_
          | with_reducible refine Val.u64m ?_
          | with_reducible refine Val.shr8 ?_
          | with_reducible refine Val.shr16 (by decide) ?_
          | with_reducible refine Val.shr24 (by decide) ?_
          | with_reducible refine Val.raw ?_
          | refine Branch.not ?_
          | refine Branch.and ?_
          | refine Branch.or ?_
          | refine Branch.dt (by assumption) ?_
          | refine Branch.df (by assumption) ?_
          | refine Branch.dt rfl ?_
          | refine Branch.dt (by omega) ?_
          | refine Branch.df (by omega) ?_
          | refine Branch.t rfl ?_
          | refine Branch.f rfl ?_
          | refine Branch.t (by assumption) ?_
          | refine Branch.f (by assumption) ?_
          | refine Branch.d (fun _ => ?_) (fun _ => ?_)
          | refine Branch.mk (fun _ => ?_) (fun _ => ?_)
          | refine Need.mk (by first | omega | decide | rfl) ?_
          | refine Idx.nat (by omega) ?_
          | refine Idx.auto (by first | omega | decide) (by first | omega | decide) ?_
          | refine Cell.ro rfl ?_
          | refine SDraw.all (by kernel_rfl) ?_
          | refine Kept.k0 ?_
          | refine Kept.k1 ?_
          | refine Kept.k2 ?_
          | refine Kept.k3 ?_
          | refine Kept.k4 ?_))
      all_goals (conv => whnf)
      refine Keep.all (h gd _ ?_)
      rcases g2 with ⟨_, hz, _⟩ | ⟨gt, rfl, _, _, g2⟩
      · exfalso; cases j with | zero => omega | succ j => cases hz
      refine ⟨⟨gt, ct * 1, ct, go, la, lc, ?_, g2, ?_, ?_⟩, hin, hsub, ?_, ?_, fun x hx => ?_, fun s hs => ?_⟩
      · show (gd, rowD gt (List.replicate j true).length ct (.slice sa L.length sc) go (List.replicate L.length (0 : Int)).length la (flatN L).length lc 0) ∈ _
        rw [List.length_replicate, List.length_replicate]; exact g1
      · show (go, Blk.buf 35 ((List.replicate L.length (0 : Int)).map cU) (List.replicate L.length (0 : Int)).length) ∈ _
        rw [List.map_replicate, List.length_replicate]; exact hown
      · rcases g3 with ⟨_, h0, _⟩ | ⟨r, rfl, _, _, g3⟩
        · exact .inl h0
        · exact .inr ⟨r, _, rfl, g3⟩
      · show (List.replicate L.length (0 : Int)).length = L.length
        rw [List.length_replicate]
      · have hfl := flatN_le L.length L (fun x hx => (hcons x hx).2.2.2) (Nat.le_refl _)
        rw [List.take_length] at hfl
        show (flatN L).length ≤ maxLen ∧ (List.replicate j true).length ≤ maxLen
        rw [List.length_replicate]
        unfold maxLen; omega
      · show 0 ≤ x.prod ∧ x.prod < ((List.replicate j true).length : Int)
        rw [List.length_replicate]
        exact ⟨(hcons x hx).1, (hcons x hx).2.1⟩
      · obtain ⟨x, hx, h1, h2, h3⟩ := flatN_ok hs
        show 0 ≤ s.nd ∧ s.nd < ((List.replicate j true).length : Int) ∧ 0 ≤ s.v ∧ s.v < (L.length : Int)
        rw [List.length_replicate]
        exact ⟨((hcons x hx).2.2.1 _ h1).1, ((hcons x hx).2.2.1 _ h1).2, h2, h3⟩
end
end Go.Proofs.Ytjnlpaojaikjaaa

/- Layer 26: an image and the document's machine: plain laws. -/
set_option linter.unusedVariables false
set_option linter.unusedSimpArgs false
set_option maxRecDepth 100000
set_option maxHeartbeats 4000000
namespace Go.Proofs.Ytjnlpaojaikjaaa
open Sx
def sg1 (i : Nat) (s : Int × Option (Int × Int)) : Sg := match s.2 with
  | none => ⟨s.1, i, 0, 0, false⟩
  | some xc => ⟨s.1, i, xc.1, xc.2, true⟩
def flatO : Nat → List Lv → List Sg
  | _, [] => []
  | o, v :: r => v.seen.map (sg1 o) ++ flatO (o + 1) r
theorem sg1_nd (i : Nat) (s : Int × Option (Int × Int)) : (sg1 i s).nd = s.1 := by unfold sg1; split <;> rfl
theorem sg1_v (i : Nat) (s : Int × Option (Int × Int)) : (sg1 i s).v = (i : Int) := by unfold sg1; split <;> rfl
structure Rl (P : List Int) (M : Mc) (D : Dc) : Prop where
  there : D.there = M.there
  own : D.own = M.vs.map Lv.own
  S : D.S = flatO 0 M.vs
  cyc : D.cyc = M.cyc
  P : P = M.vs.map Lv.prod
theorem flatO_new : ∀ (L : List VarI) (o : Nat), flatO o ((L.map VarI.lg).map mkLv) = (L.mapIdx fun i x => sgN (i + o) x.cons).flatten
  | [], o => rfl
  | x :: L, o => by
    rw [List.map_cons, List.map_cons, flatO, flatO_new L (o + 1), List.mapIdx_cons, List.flatten_cons, Nat.zero_add]
    congr 1
    · show (x.cons.map fun n => (n, none)).map (sg1 o) = sgN o x.cons
      rw [List.map_map]; rfl
    · congr 2; funext i y; rw [Nat.add_assoc, Nat.add_comm 1 o]
theorem rl_new (n : Nat) (L : List VarI) : Rl (prods L) (newM n (L.map VarI.lg)) (newD n L) := by
  refine ⟨rfl, ?_, ?_, rfl, ?_⟩
  · show List.replicate L.length 0 = ((L.map VarI.lg).map mkLv).map Lv.own
    rw [List.map_map, List.map_map]
    refine (List.eq_replicate_iff.2 ⟨by simp, fun b hb => ?_⟩).symm
    obtain ⟨x, _, rfl⟩ := List.mem_map.1 hb; rfl
  · show flatN L = flatO 0 _
    rw [show (newM n (L.map VarI.lg)).vs = (L.map VarI.lg).map mkLv from rfl, flatO_new]; rfl
  · show _ = ((L.map VarI.lg).map mkLv).map Lv.prod
    rw [List.map_map, List.map_map]; rfl
theorem flatO_congr : ∀ {vs ws : List Lv} (o : Nat), vs.map Lv.seen = ws.map Lv.seen → flatO o vs = flatO o ws
  | [], [], _, _ => rfl
  | [], w :: ws, _, h => by simp at h
  | v :: vs, [], _, h => by simp at h
  | v :: vs, w :: ws, o, h => by
    simp only [List.map_cons, List.cons.injEq] at h
    rw [flatO, flatO, h.1, flatO_congr (o + 1) h.2]
theorem map_set_same {α β : Type} {f : α → β} {l : List α} {j : Nat} {x y : α} (h : l[j]? = some x) (he : f y = f x) : (l.set j y).map f = l.map f := by
  rw [List.map_set, he]
  obtain ⟨hl, rfl⟩ := List.getElem?_eq_some_iff.1 h
  have : (l.map f)[j]'(by simpa using hl) = f l[j] := List.getElem_map _
  rw [← this, List.set_getElem_self]
theorem rl_write {P : List Int} {M : Mc} {D : Dc} (h : Rl P M D) (nd v x : Int) : (D.write P nd v x).1 = (M.write nd v x).1 ∧ Rl P (M.write nd v x).2 (D.write P nd v x).2 := by
  have hPl : P.length = M.vs.length := by rw [h.P, List.length_map]
  unfold Dc.write Mc.write
  rw [h.there, hPl]
  by_cases hr : 0 ≤ nd ∧ nd < (M.there.length : Int) ∧ 0 ≤ v ∧ v < (M.vs.length : Int)
  · rw [if_pos hr, if_pos hr]
    obtain ⟨w, hw, _, _⟩ := list_at (L := M.vs) (j := v.toNat) (by omega)
    have hp : P[v.toNat]? = some w.prod := by rw [h.P, List.getElem?_map, hw]; rfl
    rw [hp, hw]
    dsimp only
    by_cases hpr : w.prod = nd
    · rw [if_pos (by rw [hpr]), if_pos hpr]
      split
      · refine ⟨rfl, ⟨rfl, ?_, ?_, h.cyc, ?_⟩⟩
        · show D.own.set v.toNat x = (M.vs.set v.toNat _).map Lv.own
          rw [List.map_set, h.own]
        · show D.S = flatO 0 (M.vs.set v.toNat _)
          rw [h.S]
          exact flatO_congr 0 (map_set_same (f := Lv.seen) (y := { w with own := x }) hw rfl).symm
        · show P = (M.vs.set v.toNat _).map Lv.prod
          rw [h.P]; exact (map_set_same (f := Lv.prod) (y := { w with own := x }) hw rfl).symm
      · exact ⟨rfl, h⟩
    · rw [if_neg (by intro e; injection e with e; exact hpr e), if_neg hpr]
      exact ⟨rfl, h⟩
  · rw [if_neg hr, if_neg hr]; exact ⟨rfl, h⟩
theorem flatO_sync {th : List Bool} {P own xs : List Int} {c : Int} : ∀ (vs : List Lv) (o : Nat), (∀ i v, vs[i]? = some v → P.getD (o + i) 0 = v.prod ∧ own.getD (o + i) 0 = v.own) →
    flatO o (vs.mapIdx fun i v => syncV th xs c (i + o) v) = (flatO o vs).map (seeD th P own xs c)
  | [], o, _ => rfl
  | v :: vs, o, h => by
    rw [List.mapIdx_cons, flatO, flatO, List.map_append, Nat.zero_add]
    have ih := flatO_sync (th := th) (P := P) (own := own) (xs := xs) (c := c) vs (o + 1) fun i w hw => by
      have := h (i + 1) w (by rw [List.getElem?_cons_succ]; exact hw)
      rw [show o + 1 + i = o + (i + 1) by omega]; exact this
    have e : (fun (i : Nat) (v : Lv) => syncV th xs c (i + 1 + o) v) = fun (i : Nat) (v : Lv) => syncV th xs c (i + (o + 1)) v := by funext i v; rw [show i + 1 + o = i + (o + 1) by omega]
    rw [e, ih]
    congr 1
    have h0 := h 0 v rfl
    rw [Nat.add_zero] at h0
    have hsee : ∀ s, seeD th P own xs c (sg1 o s) = if (isTh th s.1 && (isTh th v.prod && !decide ((o : Int) ∈ xs))) = true then ⟨s.1, o, v.own, c, true⟩ else sg1 o s := fun s => by
      unfold seeD
      rw [sg1_nd, sg1_v, Int.toNat_natCast, h0.1, h0.2]
    rw [List.map_map]
    unfold syncV
    by_cases hc : isTh th v.prod = true ∧ (o : Int) ∉ xs
    · rw [if_pos hc]
      show (v.seen.map (see1 th v.own c)).map (sg1 o) = _
      rw [List.map_map]
      refine List.map_congr_left fun s _ => ?_
      show sg1 o (see1 th v.own c s) = seeD th P own xs c (sg1 o s)
      rw [hsee, hc.1, decide_eq_false hc.2]
      unfold see1
      by_cases ht : isTh th s.1 = true
      · rw [if_pos ht, ht]; rfl
      · rw [if_neg ht]; simp [ht]
    · rw [if_neg hc]
      refine List.map_congr_left fun s _ => ?_
      show sg1 o s = seeD th P own xs c (sg1 o s)
      rw [hsee, if_neg]
      intro hh
      simp only [Bool.and_eq_true, Bool.not_eq_true', decide_eq_false_iff_not] at hh
      exact hc ⟨hh.2.1, hh.2.2⟩
theorem syncV_prod (th : List Bool) (xs : List Int) (c : Int) (i : Nat) (v : Lv) : (syncV th xs c i v).prod = v.prod := by unfold syncV; split <;> rfl
theorem syncV_own (th : List Bool) (xs : List Int) (c : Int) (i : Nat) (v : Lv) : (syncV th xs c i v).own = v.own := by unfold syncV; split <;> rfl
theorem map_mapIdx_same {α β : Type} {f : Nat → α → α} {g : α → β} (h : ∀ i x, g (f i x) = g x) (l : List α) : (l.mapIdx f).map g = l.map g := by
  refine List.ext_getElem? fun i => ?_
  rw [List.getElem?_map, List.getElem?_mapIdx, List.getElem?_map]
  cases l[i]? with
  | none => rfl
  | some x => exact congrArg some (h i x)
theorem rl_sync {P : List Int} {M : Mc} {D : Dc} (h : Rl P M D) (xs : List Int) : (D.sync P xs).1 = (M.sync xs).1 ∧ Rl P (M.sync xs).2 (D.sync P xs).2 := by
  have hPl : P.length = M.vs.length := by rw [h.P, List.length_map]
  unfold Dc.sync Mc.sync
  have e : xs.any (fun x => decide (x < 0) || decide ((P.length : Int) ≤ x)) = xs.any (fun v => !decide (0 ≤ v ∧ v < (M.vs.length : Int))) := by
    congr 1; funext x
    rw [hPl, Bool.eq_iff_iff]
    simp only [Bool.or_eq_true, decide_eq_true_eq, Bool.not_eq_true', decide_eq_false_iff_not]
    omega
  rw [e]
  split
  · exact ⟨rfl, h⟩
  · refine ⟨rfl, ⟨h.there, ?_, ?_, ?_, ?_⟩⟩
    · show D.own = (M.vs.mapIdx _).map Lv.own
      rw [map_mapIdx_same (fun i v => syncV_own _ _ _ i v)]; exact h.own
    · show D.S.map _ = flatO 0 (M.vs.mapIdx _)
      rw [h.S, h.there, h.cyc]
      have := flatO_sync (th := M.there) (P := P) (own := D.own) (xs := xs) (c := incC M.cyc) M.vs 0 fun i v hv => by
        rw [Nat.zero_add, h.P, h.own, List.getD_eq_getElem?_getD, List.getD_eq_getElem?_getD, List.getElem?_map, List.getElem?_map, hv]
        exact ⟨rfl, rfl⟩
      rw [← this]; rfl
    · show incC D.cyc = incC M.cyc
      rw [h.cyc]
    · show P = (M.vs.mapIdx _).map Lv.prod
      rw [map_mapIdx_same (fun i v => syncV_prod _ _ _ i v)]; exact h.P
theorem flatO_lost (n : Int) : ∀ (vs : List Lv) (o : Nat), flatO o (vs.map (lostV n)) = (flatO o vs).map (goneS n)
  | [], _ => rfl
  | v :: vs, o => by
    rw [List.map_cons, flatO, flatO, List.map_append, flatO_lost n vs (o + 1)]
    congr 1
    show (setS n none v.seen).map (sg1 o) = _
    unfold setS
    rw [List.map_map, List.map_map]
    refine List.map_congr_left fun s _ => ?_
    show sg1 o (if s.1 = n then (s.1, none) else s) = goneS n (sg1 o s)
    unfold goneS
    rw [sg1_nd, sg1_v]
    split
    · rename_i e; rw [← e]; rfl
    · rfl
theorem rl_lost {P : List Int} {M : Mc} {D : Dc} (h : Rl P M D) (n : Int) : (D.turn P n false).1 = (M.lost n).1 ∧ Rl P (M.lost n).2 (D.turn P n false).2 := by
  unfold Dc.turn Mc.lost Mc.turn
  rw [h.there]
  by_cases hr : 0 ≤ n ∧ n < (M.there.length : Int)
  · rw [if_pos hr, if_pos hr]
    by_cases ht : M.there[n.toNat]? = some false
    · rw [if_pos ht, if_pos ht, if_neg (fun e => by cases e)]; exact ⟨rfl, h⟩
    · rw [if_neg ht, if_neg ht, if_neg (by decide), if_pos rfl]
      refine ⟨rfl, ⟨rfl, ?_, ?_, h.cyc, ?_⟩⟩
      · show D.own.mapIdx (goneO P n) = (M.vs.map (lostV n)).map Lv.own
        rw [h.own, h.P]
        refine List.ext_getElem? fun i => ?_
        rw [List.getElem?_mapIdx, List.getElem?_map, List.getElem?_map, List.getElem?_map]
        unfold goneO
        rw [List.getElem?_map]
        cases M.vs[i]? with
        | none => rfl
        | some v => simp [lostV]
      · show D.S.map (goneS n) = flatO 0 (M.vs.map (lostV n))
        rw [h.S, flatO_lost]
      · show P = (M.vs.map (lostV n)).map Lv.prod
        rw [h.P, List.map_map]; rfl
  · rw [if_neg hr, if_neg hr, if_neg (fun e => by cases e)]; exact ⟨rfl, h⟩
theorem rl_back {P : List Int} {M : Mc} {D : Dc} (h : Rl P M D) (n : Int) : (D.turn P n true).1 = (M.turn n true).1 ∧ Rl P (M.turn n true).2 (D.turn P n true).2 := by
  unfold Dc.turn Mc.turn
  rw [h.there]
  split
  · split
    · exact ⟨rfl, h⟩
    · rw [if_pos rfl]
      exact ⟨rfl, ⟨rfl, h.own, h.S, h.cyc, h.P⟩⟩
  · exact ⟨rfl, h⟩
theorem flatO_v : ∀ {vs : List Lv} {o : Nat} {s : Sg}, s ∈ flatO o vs → (o : Int) ≤ s.v
  | [], o, s, h => by cases h
  | v :: vs, o, s, h => by
    rw [flatO] at h
    rcases List.mem_append.1 h with h | h
    · obtain ⟨t, _, rfl⟩ := List.mem_map.1 h
      rw [sg1_v]; exact Int.le_refl _
    · have := flatO_v h; omega
theorem flatO_find (n : Int) : ∀ (vs : List Lv) (o k : Nat), (flatO o vs).find? (fun s => decide (s.nd = n ∧ s.v = ((o + k : Nat) : Int))) = (vs[k]?).bind fun v => (v.seen.find? fun s => decide (s.1 = n)).map (sg1 (o + k))
  | [], o, k => rfl
  | v :: vs, o, 0 => by
    rw [flatO, List.find?_append, List.find?_map]
    have e : ((fun s : Sg => decide (s.nd = n ∧ s.v = ((o + 0 : Nat) : Int))) ∘ sg1 o) = fun s => decide (s.1 = n) := by
      funext s; show decide ((sg1 o s).nd = n ∧ (sg1 o s).v = _) = _
      rw [sg1_nd, sg1_v]; simp
    rw [e]
    have e2 : (flatO (o + 1) vs).find? (fun s => decide (s.nd = n ∧ s.v = ((o + 0 : Nat) : Int))) = none := by
      rw [List.find?_eq_none]
      intro s hs
      have := flatO_v hs
      simp; intro _; omega
    rw [e2, Option.or_none]; rfl
  | v :: vs, o, k + 1 => by
    rw [flatO, List.find?_append, List.find?_map]
    have e : v.seen.find? ((fun s : Sg => decide (s.nd = n ∧ s.v = ((o + (k + 1) : Nat) : Int))) ∘ sg1 o) = none := by
      rw [List.find?_eq_none]
      intro s hs
      show ¬ decide ((sg1 o s).nd = n ∧ (sg1 o s).v = _) = true
      rw [sg1_v]; simp; intro _; omega
    rw [e, Option.map_none, Option.none_or, List.getElem?_cons_succ, show o + (k + 1) = o + 1 + k by omega]
    exact flatO_find n vs (o + 1) k
theorem rl_read {P : List Int} {M : Mc} {D : Dc} (h : Rl P M D) (n v : Int) : M.read n v = ((D.read n v).x, (D.read n v).c, (D.read n v).is) := by
  unfold Dc.read Mc.read
  rw [h.S]
  by_cases hv : 0 ≤ v ∧ v < (M.vs.length : Int)
  · rw [if_pos hv]
    have := flatO_find n M.vs 0 v.toNat
    rw [Nat.zero_add, show ((v.toNat : Nat) : Int) = v by omega] at this
    rw [this]
    cases M.vs[v.toNat]? with
    | none => rfl
    | some w =>
      simp only [Option.bind_some]
      unfold getS
      cases w.seen.find? (fun s => decide (s.1 = n)) with
      | none => rfl
      | some s =>
        obtain ⟨k, o⟩ := s
        cases o <;> rfl
  · rw [if_neg hv]
    have : (flatO 0 M.vs).find? (fun s => decide (s.nd = n ∧ s.v = v)) = none := by
      rw [List.find?_eq_none]
      intro s hs hh
      simp at hh
      by_cases h0 : 0 ≤ v
      · have hf := flatO_find n M.vs 0 v.toNat
        rw [Nat.zero_add, show ((v.toNat : Nat) : Int) = v by omega, List.getElem?_eq_none (by omega)] at hf
        have := (List.find?_eq_none.1 hf) s hs
        simp at this
        exact this hh.1 hh.2
      · have := flatO_v hs; omega
    rw [this]; rfl
theorem stale1 (n c : Int) (o : Nat) : ∀ (l : List (Int × Option (Int × Int))), (l.map Prod.fst).Nodup → (l.map (sg1 o)).any (staleS n c) = (match getS l n with
  | none => false
  | some none => true
  | some (some xc) => !decide (xc.2 = c))
  | [], _ => rfl
  | s :: l, h => by
    rw [List.map_cons, List.nodup_cons] at h
    rw [List.map_cons, List.any_cons]
    by_cases hs : s.1 = n
    · have hn : getS l n = none := getS_none fun t ht e => h.1 (by rw [hs, ← e]; exact List.mem_map_of_mem ht)
      have ih := stale1 n c o l h.2
      rw [hn] at ih
      rw [ih, Bool.or_false]
      have hg : getS (s :: l) n = some s.2 := by unfold getS; rw [List.find?_cons_of_pos (by simp [hs])]; rfl
      rw [hg]
      obtain ⟨k, u⟩ := s
      have hs : k = n := hs
      subst hs
      cases u with
      | none => simp [staleS, sg1]
      | some xc => simp [staleS, sg1]; rfl
    · have hg : getS (s :: l) n = getS l n := by unfold getS; rw [List.find?_cons_of_neg (by simp [hs])]
      rw [hg, ← stale1 n c o l h.2]
      have : staleS n c (sg1 o s) = false := by unfold staleS; rw [sg1_nd, decide_eq_false hs]; rfl
      rw [this, Bool.false_or]
theorem flatO_stale (n c : Int) : ∀ (vs : List Lv) (o : Nat), (∀ v ∈ vs, (v.seen.map Prod.fst).Nodup) → (flatO o vs).any (staleS n c) = vs.any (staleV n c)
  | [], _, _ => rfl
  | v :: vs, o, h => by
    rw [flatO, List.any_append, List.any_cons, flatO_stale n c vs (o + 1) (fun w hw => h w (.tail _ hw)), stale1 n c o v.seen (h v (.head _))]
    rfl
theorem rl_fresh {P : List Int} {M : Mc} {D : Dc} (h : Rl P M D) (hok : ∀ v ∈ M.vs, (v.seen.map Prod.fst).Nodup) (n : Int) : M.fresh n = D.fresh n := by
  unfold Dc.fresh Mc.fresh
  rw [h.there, h.S, h.cyc, flatO_stale n M.cyc M.vs 0 hok]
end Go.Proofs.Ytjnlpaojaikjaaa

/- Layer 26: a call by the image and by the document: by walks. -/
set_option linter.unusedVariables false
set_option linter.unusedSimpArgs false
set_option maxRecDepth 100000
set_option maxHeartbeats 4000000
namespace Go.Proofs.Ytjnlpaojaikjaaa
open Sx
structure ActI where
  (kind node v x : Int)
  mis : List Int
  a : Option Addr
  c : Nat
abbrev ActI.cells (y : ActI) : List Value := [.int .i64 y.kind, .int .i64 y.node, .int .i64 y.v, .int .u64 y.x, .slice y.a y.mis.length y.c]
def Mc.act (M : Mc) (y : ActI) : Int × Mc := if y.kind = 0 then M.write y.node y.v y.x else if y.kind = 1 then M.sync y.mis else if y.kind = 2 then M.lost y.node else if y.kind = 3 then M.turn y.node true else (0, M)
def Dc.act (D : Dc) (P : List Int) (y : ActI) : Int × Dc := if y.kind = 0 then D.write P y.node y.v y.x else if y.kind = 1 then D.sync P y.mis else if y.kind = 2 then D.turn P y.node false else if y.kind = 3 then D.turn P y.node true else (0, D)
theorem rl_act {P : List Int} {M : Mc} {D : Dc} (h : Rl P M D) (y : ActI) : (D.act P y).1 = (M.act y).1 ∧ Rl P (M.act y).2 (D.act P y).2 := by
  unfold Dc.act Mc.act
  split
  · exact rl_write h _ _ _
  · split
    · exact rl_sync h _
    · split
      · exact rl_lost h _
      · split
        · exact rl_back h _
        · exact ⟨rfl, h⟩
section
variable {K : Value → Heap → Prop} {Hm Hd I : Heap} {gm gd : Nat} {ids : List (Nat × Nat)} {M : Mc} {sv : Value} {L : List VarI} {D : Dc}
theorem c11 (hM : Mach gm ids M Hm) (hD : Doc gd sv L I D Hd) (hR : Rl (prods L) M D) (y : ActI) (hin : InS cI 1 (.slice y.a y.mis.length y.c) I y.mis) (hbig : y.mis.length * 8 ≤ 140737488355000)
    (h : ∀ Hm' Hd', Mach gm ids (M.act y).2 Hm' → Doc gd sv L I (D.act (prods L) y).2 Hd' → Rl (prods L) (M.act y).2 (D.act (prods L) y).2 → K (.bool true) (Hm' ++ Hd')) : SCalls Try.prog 11 [ptr gm, ptr gd, .agg ⟨y.cells⟩] (Hm ++ Hd) K := by
  obtain ⟨hr1, hr2⟩ := rl_act hR y
  have h := fun Hm' Hd' h1 h2 => h Hm' Hd' h1 h2 hr2
  clear hr2
  obtain ⟨yk, yn, yv, yx, ym, ya, yc⟩ := y
  unfold Mc.act Dc.act at h hr1
  dsimp only at hin hbig h hr1
  refine enter11 ?_
  by_cases k0 : yk = 0
  · subst k0
    rw [if_pos rfl, if_pos rfl] at h hr1
    have hc17 := fun (K : Value → Heap → Prop) hk => c17 (K := K) hM yn yv yx hk
    have hc26 := fun (K : Value → Heap → Prop) hk => c26 (K := K) hD yn yv yx hk
    generalize M.write yn yv yx = rm at hc17 h hr1
    generalize D.write (prods L) yn yv yx = rd at hc26 h hr1
    obtain ⟨em, M1⟩ := rm
    obtain ⟨ed, D1⟩ := rd
    dsimp only at hr1 h hc17 hc26
    subst hr1
    repeat' ((conv => whnf); (first
        | refine SDraw.held (by kernel_rfl) [_] (.same (.head _) .nil) ?_
        | refine SCalls.midH [_] Hd (hc17 _ (fun H1 hM1 => ?_))
        | refine Kept.mk (.same (.head _) .nil) ?_
        | refine SCalls.under (_ :: H1) (hc26 _ (fun H2 hD2 => ?_))
        | refine New.mk (fun _ => ?_)
        | refine Look.at0 ?_
        | refine Cell.row ?_
        | refine Cell.buf ?_
        | refine Cells.row rfl ?_
        | refine Put.row rfl ?_
        | refine Put.buf rfl ?_
        | refine Look.at1 ?_
        | refine Look.at2 ?_
        | refine Look.at3 ?_
        | refine Look.at4 ?_
        | refine Look.at5 ?_
        | refine Look.at6 ?_
        | refine Look.at7 ?_
        | refine Look.at8 ?_
        | with_reducible refine Val.i64 (by omega) (by omega) ?_
        | with_reducible refine Val.u8 (by omega) (by omega) ?_
        | with_reducible refine Val.u32 (by omega) (by omega) ?_
        | with_reducible refine Val.u64 (by omega) (by omega) ?_
        | with_reducible refine Val.u8m ?_
        | with_reducible refine Val.u32m ?_
        | with_reducible refine Val.u64m ?_
        | with_reducible refine Val.shr8 ?_
        | with_reducible refine Val.shr16 (by decide) ?_
        | with_reducible refine Val.shr24 (by decide) ?_
        | with_reducible refine Val.raw ?_
        | refine Branch.not ?_
        | refine Branch.and ?_
        | refine Branch.or ?_
        | refine Branch.dt (by assumption) ?_
        | refine Branch.df (by assumption) ?_
        | refine Branch.dt rfl ?_
        | refine Branch.dt (by omega) ?_
        | refine Branch.df (by omega) ?_
        | refine Branch.t rfl ?_
        | refine Branch.f rfl ?_
        | refine Branch.t (by assumption) ?_
        | refine Branch.f (by assumption) ?_
        | refine Branch.d (fun _ => ?_) (fun _ => ?_)
        | refine Branch.mk (fun _ => ?_) (fun _ => ?_)
        | refine Need.mk (by first | omega | decide | rfl) ?_
        | refine Idx.nat (by omega) ?_
        | refine Idx.auto (by first | omega | decide) (by first | omega | decide) ?_
        | refine Cell.ro rfl ?_
        | refine SDraw.all (by kernel_rfl) ?_
        | refine Kept.k0 ?_
        | refine Kept.k1 ?_
        | refine Kept.k2 ?_
        | refine Kept.k3 ?_
        | refine Kept.k4 ?_))
    all_goals (conv => whnf)
    rw [decide_eq_true rfl]; exact Keep.d1 (h _ _ hM1 hD2)
  · rw [if_neg k0, if_neg k0] at h hr1
    by_cases k1 : yk = 1
    · subst k1
      rw [if_pos rfl, if_pos rfl] at h hr1
      have hinH := hin.mono fun p hp => (hD.sub p hp).2
      have hyl : ym.length ≤ maxLen := by obtain ⟨_, _, _, hl⟩ := hin.sv; exact hl
      repeat' ((conv => whnf); (first
          | refine SDraw.held (by kernel_rfl) [_] (.same (.head _) .nil) ?_
          | refine Kept.mk (.same (.head _) .nil) ?_
          | refine Kept.mk (.same (.tail _ (.head _)) .nil) ?_
          | refine RawV.copyS (L := ym) (f := cI) (k := 1) (bytes := 8) (hinH.mono fun z hz => .tail _ (List.mem_append_right _ hz)) rfl (by kernel_rfl) (by decide) (fun _ => rfl) (fun y u hu => by obtain rfl := List.mem_singleton.1 hu; rfl) (by omega) (fun r3 c3 g1 g2 => ?_)
          | refine SCalls.perm (SCalls.midH [_] Hd (N := (r3, Blk.buf 3 (ym.flatMap cI) (c3 * 1)) :: Hm) (c16 (hM.mono fun z hz => .tail _ hz) (xs := ym) ⟨_, _, rfl, by omega, .inr ⟨r3, _, rfl, .head _⟩⟩ (fun H1 hM1 => ?_))) (List.Perm.swap _ _ _)
          | refine SCalls.under (_ :: H1) (c18 hD hin (fun H2 hD2 => ?_))
          | refine New.mk (fun _ => ?_)
          | refine Look.at0 ?_
          | refine Cell.row ?_
          | refine Cell.buf ?_
          | refine Cells.row rfl ?_
          | refine Put.row rfl ?_
          | refine Put.buf rfl ?_
          | refine Look.at1 ?_
          | refine Look.at2 ?_
          | refine Look.at3 ?_
          | refine Look.at4 ?_
          | refine Look.at5 ?_
          | refine Look.at6 ?_
          | refine Look.at7 ?_
          | refine Look.at8 ?_
          | with_reducible refine Val.i64 (by omega) (by omega) ?_
          | with_reducible refine Val.u8 (by omega) (by omega) ?_
          | with_reducible refine Val.u32 (by omega) (by omega) ?_
          | with_reducible refine Val.u64 (by omega) (by omega) ?_
          | with_reducible refine Val.u8m ?_
          | with_reducible refine Val.u32m ?_
          | with_reducible refine Val.u64m ?_
          | with_reducible refine Val.shr8 ?_
          | with_reducible refine Val.shr16 (by decide) ?_
          | with_reducible refine Val.shr24 (by decide) ?_
          | with_reducible refine Val.raw ?_
          | refine Branch.not ?_
          | refine Branch.and ?_
          | refine Branch.or ?_
          | refine Branch.dt (by assumption) ?_
          | refine Branch.df (by assumption) ?_
          | refine Branch.dt rfl ?_
          | refine Branch.dt (by omega) ?_
          | refine Branch.df (by omega) ?_
          | refine Branch.t rfl ?_
          | refine Branch.f rfl ?_
          | refine Branch.t (by assumption) ?_
          | refine Branch.f (by assumption) ?_
          | refine Branch.d (fun _ => ?_) (fun _ => ?_)
          | refine Branch.mk (fun _ => ?_) (fun _ => ?_)
          | refine Need.mk (by first | omega | decide | rfl) ?_
          | refine Idx.nat (by omega) ?_
          | refine Idx.auto (by first | omega | decide) (by first | omega | decide) ?_
          | refine Cell.ro rfl ?_
          | refine SDraw.all (by kernel_rfl) ?_
          | refine Kept.k0 ?_
          | refine Kept.k1 ?_
          | refine Kept.k2 ?_
          | refine Kept.k3 ?_
          | refine Kept.k4 ?_))
      all_goals (conv => whnf)
      rw [decide_eq_true hr1.symm]; exact Keep.d1 (h _ _ hM1 hD2)
    · rw [if_neg k1, if_neg k1] at h hr1
      by_cases k2 : yk = 2
      · subst k2
        rw [if_pos rfl, if_pos rfl] at h hr1
        have hc17 := fun (K : Value → Heap → Prop) hk => c12 (K := K) hM yn hk
        have hc26 := fun (K : Value → Heap → Prop) hk => c27 (K := K) hD yn false hk
        generalize M.lost yn = rm at hc17 h hr1
        generalize D.turn (prods L) yn false = rd at hc26 h hr1
        obtain ⟨em, M1⟩ := rm
        obtain ⟨ed, D1⟩ := rd
        dsimp only at hr1 h hc17 hc26
        subst hr1
        repeat' ((conv => whnf); (first
            | refine SDraw.held (by kernel_rfl) [_] (.same (.head _) .nil) ?_
            | refine SCalls.midH [_] Hd (hc17 _ (fun H1 hM1 => ?_))
            | refine Kept.mk (.same (.head _) .nil) ?_
            | refine SCalls.under (_ :: H1) (hc26 _ (fun H2 hD2 => ?_))
            | refine New.mk (fun _ => ?_)
            | refine Look.at0 ?_
            | refine Cell.row ?_
            | refine Cell.buf ?_
            | refine Cells.row rfl ?_
            | refine Put.row rfl ?_
            | refine Put.buf rfl ?_
            | refine Look.at1 ?_
            | refine Look.at2 ?_
            | refine Look.at3 ?_
            | refine Look.at4 ?_
            | refine Look.at5 ?_
            | refine Look.at6 ?_
            | refine Look.at7 ?_
            | refine Look.at8 ?_
            | with_reducible refine Val.i64 (by omega) (by omega) ?_
            | with_reducible refine Val.u8 (by omega) (by omega) ?_
            | with_reducible refine Val.u32 (by omega) (by omega) ?_
            | with_reducible refine Val.u64 (by omega) (by omega) ?_
            | with_reducible refine Val.u8m ?_
            | with_reducible refine Val.u32m ?_
            | with_reducible refine Val.u64m ?_
            | with_reducible refine Val.shr8 ?_
            | with_reducible refine Val.shr16 (by decide) ?_
            | with_reducible refine Val.shr24 (by decide) ?_
            | with_reducible refine Val.raw ?_
            | refine Branch.not ?_
            | refine Branch.and ?_
            | refine Branch.or ?_
            | refine Branch.dt (by assumption) ?_
            | refine Branch.df (by assumption) ?_
            | refine Branch.dt rfl ?_
            | refine Branch.dt (by omega) ?_
            | refine Branch.df (by omega) ?_
            | refine Branch.t rfl ?_
            | refine Branch.f rfl ?_
            | refine Branch.t (by assumption) ?_
            | refine Branch.f (by assumption) ?_
            | refine Branch.d (fun _ => ?_) (fun _ => ?_)
            | refine Branch.mk (fun _ => ?_) (fun _ => ?_)
            | refine Need.mk (by first | omega | decide | rfl) ?_
            | refine Idx.nat (by omega) ?_
            | refine Idx.auto (by first | omega | decide) (by first | omega | decide) ?_
            | refine Cell.ro rfl ?_
            | refine SDraw.all (by kernel_rfl) ?_
            | refine Kept.k0 ?_
            | refine Kept.k1 ?_
            | refine Kept.k2 ?_
            | refine Kept.k3 ?_
            | refine Kept.k4 ?_))
        all_goals (conv => whnf)
        rw [decide_eq_true rfl]; exact Keep.d1 (h _ _ hM1 hD2)
      · rw [if_neg k2, if_neg k2] at h hr1
        by_cases k3 : yk = 3
        · subst k3
          rw [if_pos rfl, if_pos rfl] at h hr1
          have hc17 := fun (K : Value → Heap → Prop) hk => c13 (K := K) hM yn hk
          have hc26 := fun (K : Value → Heap → Prop) hk => c27 (K := K) hD yn true hk
          generalize M.turn yn true = rm at hc17 h hr1
          generalize D.turn (prods L) yn true = rd at hc26 h hr1
          obtain ⟨em, M1⟩ := rm
          obtain ⟨ed, D1⟩ := rd
          dsimp only at hr1 h hc17 hc26
          subst hr1
          repeat' ((conv => whnf); (first
              | refine SDraw.held (by kernel_rfl) [_] (.same (.head _) .nil) ?_
              | refine SCalls.midH [_] Hd (hc17 _ (fun H1 hM1 => ?_))
              | refine Kept.mk (.same (.head _) .nil) ?_
              | refine SCalls.under (_ :: H1) (hc26 _ (fun H2 hD2 => ?_))
              | refine New.mk (fun _ => ?_)
              | refine Look.at0 ?_
              | refine Cell.row ?_
              | refine Cell.buf ?_
              | refine Cells.row rfl ?_
              | refine Put.row rfl ?_
              | refine Put.buf rfl ?_
              | refine Look.at1 ?_
              | refine Look.at2 ?_
              | refine Look.at3 ?_
              | refine Look.at4 ?_
              | refine Look.at5 ?_
              | refine Look.at6 ?_
              | refine Look.at7 ?_
              | refine Look.at8 ?_
              | with_reducible refine Val.i64 (by omega) (by omega) ?_
              | with_reducible refine Val.u8 (by omega) (by omega) ?_
              | with_reducible refine Val.u32 (by omega) (by omega) ?_
              | with_reducible refine Val.u64 (by omega) (by omega) ?_
              | with_reducible refine Val.u8m ?_
              | with_reducible refine Val.u32m ?_
              | with_reducible refine Val.u64m ?_
              | with_reducible refine Val.shr8 ?_
              | with_reducible refine Val.shr16 (by decide) ?_
              | with_reducible refine Val.shr24 (by decide) ?_
              | with_reducible refine Val.raw ?_
              | refine Branch.not ?_
              | refine Branch.and ?_
              | refine Branch.or ?_
              | refine Branch.dt (by assumption) ?_
              | refine Branch.df (by assumption) ?_
              | refine Branch.dt rfl ?_
              | refine Branch.dt (by omega) ?_
              | refine Branch.df (by omega) ?_
              | refine Branch.t rfl ?_
              | refine Branch.f rfl ?_
              | refine Branch.t (by assumption) ?_
              | refine Branch.f (by assumption) ?_
              | refine Branch.d (fun _ => ?_) (fun _ => ?_)
              | refine Branch.mk (fun _ => ?_) (fun _ => ?_)
              | refine Need.mk (by first | omega | decide | rfl) ?_
              | refine Idx.nat (by omega) ?_
              | refine Idx.auto (by first | omega | decide) (by first | omega | decide) ?_
              | refine Cell.ro rfl ?_
              | refine SDraw.all (by kernel_rfl) ?_
              | refine Kept.k0 ?_
              | refine Kept.k1 ?_
              | refine Kept.k2 ?_
              | refine Kept.k3 ?_
              | refine Kept.k4 ?_))
          all_goals (conv => whnf)
          rw [decide_eq_true rfl]; exact Keep.d1 (h _ _ hM1 hD2)
        · rw [if_neg k3, if_neg k3] at h hr1
          repeat' ((conv => whnf); (first
              | refine New.mk (fun _ => ?_)
              | refine Look.at0 ?_
              | refine Cell.row ?_
              | refine Cell.buf ?_
              | refine Cells.row rfl ?_
              | refine Put.row rfl ?_
              | refine Put.buf rfl ?_
              | refine Look.at1 ?_
              | refine Look.at2 ?_
              | refine Look.at3 ?_
              | refine Look.at4 ?_
              | refine Look.at5 ?_
              | refine Look.at6 ?_
              | refine Look.at7 ?_
              | refine Look.at8 ?_
              | with_reducible refine Val.i64 (by omega) (by omega) ?_
              | with_reducible refine Val.u8 (by omega) (by omega) ?_
              | with_reducible refine Val.u32 (by omega) (by omega) ?_
              | with_reducible refine Val.u64 (by omega) (by omega) ?_
              | with_reducible refine Val.u8m ?_
              | with_reducible refine Val.u32m ?_
              | with_reducible refine Val.u64m ?_
              | with_reducible refine Val.shr8 ?_
              | with_reducible refine Val.shr16 (by decide) ?_
              | with_reducible refine Val.shr24 (by decide) ?_
              | with_reducible refine Val.raw ?_
              | refine Branch.not ?_
              | refine Branch.and ?_
              | refine Branch.or ?_
              | refine Branch.dt (by assumption) ?_
              | refine Branch.df (by assumption) ?_
              | refine Branch.dt rfl ?_
              | refine Branch.dt (by omega) ?_
              | refine Branch.df (by omega) ?_
              | refine Branch.t rfl ?_
              | refine Branch.f rfl ?_
              | refine Branch.t (by assumption) ?_
              | refine Branch.f (by assumption) ?_
              | refine Branch.d (fun _ => ?_) (fun _ => ?_)
              | refine Branch.mk (fun _ => ?_) (fun _ => ?_)
              | refine Need.mk (by first | omega | decide | rfl) ?_
              | refine Idx.nat (by omega) ?_
              | refine Idx.auto (by first | omega | decide) (by first | omega | decide) ?_
              | refine Cell.ro rfl ?_
              | refine SDraw.all (by kernel_rfl) ?_
              | refine Kept.k0 ?_
              | refine Kept.k1 ?_
              | refine Kept.k2 ?_
              | refine Kept.k3 ?_
              | refine Kept.k4 ?_))
          all_goals (conv => whnf)
          exact Keep.d1 (h _ _ hM hD)
end
end Go.Proofs.Ytjnlpaojaikjaaa

/- Layer 26: whether anything is seen: by walks. -/
set_option linter.unusedVariables false
set_option linter.unusedSimpArgs false
set_option maxRecDepth 100000
set_option maxHeartbeats 4000000
namespace Go.Proofs.Ytjnlpaojaikjaaa
open Sx
def lv0 : Mc := newM 2 [(0, [1])]
theorem lv_ok : chkV 2 [(0, [1])] = 0 := by rfl
theorem lv_w : (lv0.write 0 0 5).1 = 0 := by rfl
theorem lv_s : ((lv0.write 0 0 5).2.sync []).1 = 0 := by rfl
theorem lv_r : ((lv0.write 0 0 5).2.sync []).2.read 1 0 = (5, 1, true) := by rfl
theorem lv_f : ((lv0.write 0 0 5).2.sync []).2.fresh 1 = true := by rfl
theorem c9 : SCalls Try.prog 9 [] [] fun v _ => v = .bool true := by
  refine enter9 (_u := .bool false) ?_
  have hc17 := fun gm ids H hM (K : Value → Heap → Prop) hk => c17 (K := K) (gm := gm) (ids := ids) (M := lv0) (H := H) hM 0 0 5 hk
  have hw := lv_w
  have hs := lv_s
  have hr := lv_r
  have hf := lv_f
  generalize lv0.write 0 0 5 = w at hc17 hw hs hr hf
  obtain ⟨e1, M1⟩ := w
  dsimp only at hw hc17 hs hr hf
  subst hw
  have hc16 := fun gm ids H (hM : Mach gm ids M1 H) (K : Value → Heap → Prop) hk => c16 (K := K) hM (sv := .slice none 0 0) (xs := []) ⟨none, 0, rfl, Nat.zero_le _, .inl rfl⟩ hk
  generalize M1.sync [] = s at hc16 hs hr hf
  obtain ⟨e2, M2⟩ := s
  dsimp only at hs hc16 hr hf
  subst hs
  have hc14 := fun gm ids H (hM : Mach gm ids M2 H) (K : Value → Heap → Prop) hk => c14 (K := K) hM 1 0 hk
  have hc25 := fun gm ids H (hM : Mach gm ids M2 H) (K : Value → Heap → Prop) hk => c25 (K := K) hM 1 hk
  rw [hr] at hc14
  rw [hf] at hc25
  repeat' ((conv => whnf); (first
      | refine New.mk (fun _ => ?_)
      | refine Look.at0 ?_
      | refine Cell.row ?_
      | refine Cell.buf ?_
      | refine Cells.row rfl ?_
      | refine Put.row rfl ?_
      | refine Put.buf rfl ?_
      | refine Look.at1 ?_
      | refine Look.at2 ?_
      | refine Look.at3 ?_
      | refine Look.at4 ?_
      | refine Look.at5 ?_
      | refine Look.at6 ?_
      | refine Look.at7 ?_
      | refine Look.at8 ?_
      | with_reducible refine Val.i64 (by omega) (by omega) ?_
      | with_reducible refine Val.u8 (by omega) (by omega) ?_
      | with_reducible refine Val.u32 (by omega) (by omega) ?_
      | with_reducible refine Val.u64 (by omega) (by omega) ?_
      | with_reducible refine Val.u8m ?_
      | with_reducible refine Val.u32m ?_
      | with_reducible refine Val.u64m ?_
      | with_reducible refine Val.shr8 ?_
      | with_reducible refine Val.shr16 (by decide) ?_
      | with_reducible refine Val.shr24 (by decide) ?_
      | with_reducible refine Val.raw ?_
      | refine Branch.not ?_
      | refine Branch.and ?_
      | refine Branch.or ?_
      | refine Branch.dt (by assumption) ?_
      | refine Branch.df (by assumption) ?_
      | refine Branch.dt rfl ?_
      | refine Branch.dt (by omega) ?_
      | refine Branch.df (by omega) ?_
      | refine Branch.t rfl ?_
      | refine Branch.f rfl ?_
      | refine Branch.t (by assumption) ?_
      | refine Branch.f (by assumption) ?_
      | refine Branch.d (fun _ => ?_) (fun _ => ?_)
      | refine Branch.mk (fun _ => ?_) (fun _ => ?_)
      | refine Need.mk (by first | omega | decide | rfl) ?_
      | refine Idx.nat (by omega) ?_
      | refine Idx.auto (by first | omega | decide) (by first | omega | decide) ?_
      | refine Cell.ro rfl ?_
      | refine SDraw.all (by kernel_rfl) ?_
      | refine Kept.k0 ?_
      | refine Kept.k1 ?_
      | refine Kept.k2 ?_
      | refine Kept.k3 ?_
      | refine Kept.k4 ?_))
  rename_i p1 p2
  have hin : InV (.slice (some ⟨p2, 0, none⟩) 1 1) [(p2, .row 42 [.int .i64 0, .slice (some ⟨p1, 0, none⟩) 1 1] (0, 0)), (p1, .row 3 [.int .i64 1] (0, 0))] [⟨0, [1], some ⟨p1, 0, none⟩, 1⟩] := by
    refine ⟨InS.row (L := [(⟨0, [1], some ⟨p1, 0, none⟩, 1⟩ : VarI)]) (.head _) rfl (fun _ => rfl) (by simp [maxLen]), fun x hx => ?_⟩
    obtain rfl := List.mem_singleton.1 hx
    exact InS.row (L := [(1 : Int)]) (.tail _ (.head _)) rfl (fun _ => rfl) (by simp [maxLen])
  have hc7 := fun (K : Value → Heap → Prop) hk => c7 (K := K) hin (by intro x hx; obtain rfl := List.mem_singleton.1 hx; show 1 * 8 ≤ 140737488355000; omega) (by intro p hp; simp only [List.mem_cons, List.not_mem_nil, or_false] at hp; rcases hp with rfl | rfl; exact ⟨by show 42 ≠ 67; decide, by show 42 ≠ 1068; decide⟩; exact ⟨by show 3 ≠ 67; decide, by show 3 ≠ 1068; decide⟩) 2 (fun hne => absurd lv_ok hne) hk
  repeat' ((conv => whnf); (first
      | refine hc7 _ (fun _ gm ids H1 hM1 => ?_)
      | refine hc17 gm ids H1 hM1 _ (fun H2 hM2 => ?_)
      | refine hc16 gm ids H2 hM2 _ (fun H3 hM3 => ?_)
      | refine hc14 gm ids H3 hM3 _ ?_
      | refine hc25 gm ids H3 hM3 _ ?_
      | refine New.mk (fun _ => ?_)
      | refine Look.at0 ?_
      | refine Cell.row ?_
      | refine Cell.buf ?_
      | refine Cells.row rfl ?_
      | refine Put.row rfl ?_
      | refine Put.buf rfl ?_
      | refine Look.at1 ?_
      | refine Look.at2 ?_
      | refine Look.at3 ?_
      | refine Look.at4 ?_
      | refine Look.at5 ?_
      | refine Look.at6 ?_
      | refine Look.at7 ?_
      | refine Look.at8 ?_
      | with_reducible refine Val.i64 (by omega) (by omega) ?_
      | with_reducible refine Val.u8 (by omega) (by omega) ?_
      | with_reducible refine Val.u32 (by omega) (by omega) ?_
      | with_reducible refine Val.u64 (by omega) (by omega) ?_
      | with_reducible refine Val.u8m ?_
      | with_reducible refine Val.u32m ?_
      | with_reducible refine Val.u64m ?_
      | with_reducible refine Val.shr8 ?_
      | with_reducible refine Val.shr16 (by decide) ?_
      | with_reducible refine Val.shr24 (by decide) ?_
      | with_reducible refine Val.raw ?_
      | refine Branch.not ?_
      | refine Branch.and ?_
      | refine Branch.or ?_
      | refine Branch.dt (by assumption) ?_
      | refine Branch.df (by assumption) ?_
      | refine Branch.dt rfl ?_
      | refine Branch.dt (by omega) ?_
      | refine Branch.df (by omega) ?_
      | refine Branch.t rfl ?_
      | refine Branch.f rfl ?_
      | refine Branch.t (by assumption) ?_
      | refine Branch.f (by assumption) ?_
      | refine Branch.d (fun _ => ?_) (fun _ => ?_)
      | refine Branch.mk (fun _ => ?_) (fun _ => ?_)
      | refine Need.mk (by first | omega | decide | rfl) ?_
      | refine Idx.nat (by omega) ?_
      | refine Idx.auto (by first | omega | decide) (by first | omega | decide) ?_
      | refine Cell.ro rfl ?_
      | refine SDraw.all (by kernel_rfl) ?_
      | refine Kept.k0 ?_
      | refine Kept.k1 ?_
      | refine Kept.k2 ?_
      | refine Kept.k3 ?_
      | refine Kept.k4 ?_))
  all_goals (conv => whnf)
  exact Keep.all rfl
end Go.Proofs.Ytjnlpaojaikjaaa

/- Layer 26: whether an image is the document's: by walks. -/
set_option linter.unusedVariables false
set_option linter.unusedSimpArgs false
set_option maxRecDepth 100000
set_option maxHeartbeats 4000000
namespace Go.Proofs.Ytjnlpaojaikjaaa
open Sx
inductive S22 (A0 A1 A5 : Value) : List Value → Prop
  | mk {r2 r3 r4 r6 r7 r8 r9 r10 r11 r12 r13 r14 r15 r16 r17 r18 r19 r20 r21 r22 r23 r24 r25 r26 r27 r28 r29 r30 r31 r32 r33 r34 r35 r36 r37 r38 r39 r40 r41 r42 r43 r44 r45 r46 r47 r48 r49 r50 r51 r52 r53 r54 r55 r56 r57 r58 r59 r60 r61 r62 r63 r64 r65 r66 r67 r68 r69 r70 r71 r72 r73 r74 r75 r76 r77 r78 r79 r80 r81 r82 r83 r84 r85 r86 r87 r88 r89 r90 r91 r92 r93 r94 r95 r96 r97 r98 r99 r100 r101 r102 r103 r104 r105 r106 r107 r108 r109 r110 r111 : Value} : S22 A0 A1 A5 [A0, A1, r2, r3, r4, A5, r6, r7, r8, r9, r10, r11, r12, r13, r14, r15, r16, r17, r18, r19, r20, r21, r22, r23, r24, r25, r26, r27, r28, r29, r30, r31, r32, r33, r34, r35, r36, r37, r38, r39, r40, r41, r42, r43, r44, r45, r46, r47, r48, r49, r50, r51, r52, r53, r54, r55, r56, r57, r58, r59, r60, r61, r62, r63, r64, r65, r66, r67, r68, r69, r70, r71, r72, r73, r74, r75, r76, r77, r78, r79, r80, r81, r82, r83, r84, r85, r86, r87, r88, r89, r90, r91, r92, r93, r94, r95, r96, r97, r98, r99, r100, r101, r102, r103, r104, r105, r106, r107, r108, r109, r110, r111]
inductive S22a (A0 A1 A5 A6 : Value) : List Value → Prop
  | mk {r2 r3 r4 r7 r8 r9 r10 r11 r12 r13 r14 r15 r16 r17 r18 r19 r20 r21 r22 r23 r24 r25 r26 r27 r28 r29 r30 r31 r32 r33 r34 r35 r36 r37 r38 r39 r40 r41 r42 r43 r44 r45 r46 r47 r48 r49 r50 r51 r52 r53 r54 r55 r56 r57 r58 r59 r60 r61 r62 r63 r64 r65 r66 r67 r68 r69 r70 r71 r72 r73 r74 r75 r76 r77 r78 r79 r80 r81 r82 r83 r84 r85 r86 r87 r88 r89 r90 r91 r92 r93 r94 r95 r96 r97 r98 r99 r100 r101 r102 r103 r104 r105 r106 r107 r108 r109 r110 r111 : Value} : S22a A0 A1 A5 A6 [A0, A1, r2, r3, r4, A5, A6, r7, r8, r9, r10, r11, r12, r13, r14, r15, r16, r17, r18, r19, r20, r21, r22, r23, r24, r25, r26, r27, r28, r29, r30, r31, r32, r33, r34, r35, r36, r37, r38, r39, r40, r41, r42, r43, r44, r45, r46, r47, r48, r49, r50, r51, r52, r53, r54, r55, r56, r57, r58, r59, r60, r61, r62, r63, r64, r65, r66, r67, r68, r69, r70, r71, r72, r73, r74, r75, r76, r77, r78, r79, r80, r81, r82, r83, r84, r85, r86, r87, r88, r89, r90, r91, r92, r93, r94, r95, r96, r97, r98, r99, r100, r101, r102, r103, r104, r105, r106, r107, r108, r109, r110, r111]
def I22 (gm gd : Nat) (n : Nat) (H : Heap) (v : Int) (S : List Value) (H' : Heap) : Prop := -1 ≤ v ∧ v ≤ (n : Int) + 1 ∧ S22 (ptr gm) (ptr gd) (.int .i64 v) S ∧ H' = H
def I22a (gm gd : Nat) (v : Int) (n : Nat) (H : Heap) (k : Int) (S : List Value) (H' : Heap) : Prop := -1 ≤ k ∧ k ≤ (n : Int) + 1 ∧ S22a (ptr gm) (ptr gd) (.int .i64 v) (.int .i64 k) S ∧ H' = H
theorem own_out (M : Mc) (v : Int) (h : ¬ (0 ≤ v ∧ v < (M.vs.length : Int))) : M.own v = 0 := by unfold Mc.own; rw [if_neg h]
section
variable {K : Value → Heap → Prop} {H I : Heap} {gm gd : Nat} {ids : List (Nat × Nat)} {M : Mc} {sv : Value} {L : List VarI} {D : Dc}
theorem c21 {sv : Value} {L : List VarI} (hin : InV sv H L) (hbig : ∀ x ∈ L, x.cons.length * 8 ≤ 140737488355000) (nodes : Int) (h : K (.int .i64 (chkV nodes (L.map VarI.lg))) H) : SCalls Try.prog 21 [.int .i64 nodes, sv] H K := by
  obtain ⟨sa, sc, rfl, _⟩ := hin.sl.sv
  refine enter21 ?_
  repeat' ((conv => whnf); (first
      | refine c23 hin hbig nodes ?_
      | refine New.mk (fun _ => ?_)
      | refine Look.at0 ?_
      | refine Cell.row ?_
      | refine Cell.buf ?_
      | refine Cells.row rfl ?_
      | refine Put.row rfl ?_
      | refine Put.buf rfl ?_
      | refine Look.at1 ?_
      | refine Look.at2 ?_
      | refine Look.at3 ?_
      | refine Look.at4 ?_
      | refine Look.at5 ?_
      | refine Look.at6 ?_
      | refine Look.at7 ?_
      | refine Look.at8 ?_
      | with_reducible refine Val.i64 (by omega) (by omega) ?_
      | with_reducible refine Val.u8 (by omega) (by omega) ?_
      | with_reducible refine Val.u32 (by omega) (by omega) ?_
      | with_reducible refine Val.u64 (by omega) (by omega) ?_
      | with_reducible refine Val.u8m ?_
      | with_reducible refine Val.u32m ?_
      | with_reducible refine Val.u64m ?_
      | with_reducible refine Val.shr8 ?_
      | with_reducible refine Val.shr16 (by decide) ?_
      | with_reducible refine Val.shr24 (by decide) ?_
      | with_reducible refine Val.raw ?_
      | refine Branch.not ?_
      | refine Branch.and ?_
      | refine Branch.or ?_
      | refine Branch.dt (by assumption) ?_
      | refine Branch.df (by assumption) ?_
      | refine Branch.dt rfl ?_
      | refine Branch.dt (by omega) ?_
      | refine Branch.df (by omega) ?_
      | refine Branch.t rfl ?_
      | refine Branch.f rfl ?_
      | refine Branch.t (by assumption) ?_
      | refine Branch.f (by assumption) ?_
      | refine Branch.d (fun _ => ?_) (fun _ => ?_)
      | refine Branch.mk (fun _ => ?_) (fun _ => ?_)
      | refine Need.mk (by first | omega | decide | rfl) ?_
      | refine Idx.nat (by omega) ?_
      | refine Idx.auto (by first | omega | decide) (by first | omega | decide) ?_
      | refine Cell.ro rfl ?_
      | refine SDraw.all (by kernel_rfl) ?_
      | refine Kept.k0 ?_
      | refine Kept.k1 ?_
      | refine Kept.k2 ?_
      | refine Kept.k3 ?_
      | refine Kept.k4 ?_))
  all_goals (conv => whnf)
  exact Keep.all h
theorem c22 (hM : Mach gm ids M H) (hD : Doc gd sv L I D H) (hR : Rl (prods L) M D) (h : K (.bool true) H) : SCalls Try.prog 22 [ptr gm, ptr gd] H K := by
  obtain ⟨sa, sc, rfl, hml⟩ := hD.inp.sl.sv
  obtain ⟨hbS, hbT⟩ := hD.big
  have hbT' : D.there.length ≤ 127 := by rw [hR.there]; exact hM.few.1
  obtain ⟨gt, nt, ct, go, la, lc, g1, g2, g3, g4⟩ := hD.ex
  have hLv : L.length = M.vs.length := by have := congrArg List.length hR.P; simpa using this
  have hml' : L.length ≤ 64 := by have := hM.few.2; omega
  have hcy : M.cyc = D.cyc := hR.cyc.symm
  have ho1 : M.own (-1) = 0 := own_out M (-1) (fun e => absurd e.1 (by decide))
  have ho2 : M.own (L.length : Int) = 0 := own_out M (L.length : Int) (by omega)
  have hc19 : ∀ K : Value → Heap → Prop, K (.int .u64 D.cyc) H → SCalls Try.prog 19 [ptr gm] H K := fun K hk => c19 hM (by rw [hcy]; exact hk)
  have hc15a : ∀ K : Value → Heap → Prop, K (.int .u64 0) H → SCalls Try.prog 15 [ptr gm, .int .i64 (-1)] H K := fun K hk => c15 hM (-1) (by rw [ho1]; exact hk)
  have hc15b : ∀ K : Value → Heap → Prop, K (.int .u64 0) H → SCalls Try.prog 15 [ptr gm, .int .i64 (L.length : Int)] H K := fun K hk => c15 hM _ (by rw [ho2]; exact hk)
  refine enter22 ?_
  repeat' ((conv => whnf); (first
      | refine SDraw.held (by kernel_rfl) [(gd, _)] (.same g1 .nil) ?_
      | refine Look.mem (.head _) (fun _ _ _ => ?_)
      | refine hc19 _ ?_
      | refine hc15a _ ?_
      | refine hc15b _ ?_
      | refine Kept.mk (.same g1 .nil) ?_
      | refine New.mk (fun _ => ?_)
      | refine Look.at0 ?_
      | refine Cell.row ?_
      | refine Cell.buf ?_
      | refine Cells.row rfl ?_
      | refine Put.row rfl ?_
      | refine Put.buf rfl ?_
      | refine Look.at1 ?_
      | refine Look.at2 ?_
      | refine Look.at3 ?_
      | refine Look.at4 ?_
      | refine Look.at5 ?_
      | refine Look.at6 ?_
      | refine Look.at7 ?_
      | refine Look.at8 ?_
      | with_reducible refine Val.i64 (by omega) (by omega) ?_
      | with_reducible refine Val.u8 (by omega) (by omega) ?_
      | with_reducible refine Val.u32 (by omega) (by omega) ?_
      | with_reducible refine Val.u64 (by omega) (by omega) ?_
      | with_reducible refine Val.u8m ?_
      | with_reducible refine Val.u32m ?_
      | with_reducible refine Val.u64m ?_
      | with_reducible refine Val.shr8 ?_
      | with_reducible refine Val.shr16 (by decide) ?_
      | with_reducible refine Val.shr24 (by decide) ?_
      | with_reducible refine Val.raw ?_
      | refine Branch.not ?_
      | refine Branch.and ?_
      | refine Branch.or ?_
      | refine Branch.dt (by assumption) ?_
      | refine Branch.df (by assumption) ?_
      | refine Branch.dt rfl ?_
      | refine Branch.dt (by omega) ?_
      | refine Branch.df (by omega) ?_
      | refine Branch.t rfl ?_
      | refine Branch.f rfl ?_
      | refine Branch.t (by assumption) ?_
      | refine Branch.f (by assumption) ?_
      | refine Branch.d (fun _ => ?_) (fun _ => ?_)
      | refine Branch.mk (fun _ => ?_) (fun _ => ?_)
      | refine Need.mk (by first | omega | decide | rfl) ?_
      | refine Idx.nat (by omega) ?_
      | refine Idx.auto (by first | omega | decide) (by first | omega | decide) ?_
      | refine Cell.ro rfl ?_
      | refine SDraw.all (by kernel_rfl) ?_
      | refine Kept.k0 ?_
      | refine Kept.k1 ?_
      | refine Kept.k2 ?_
      | refine Kept.k3 ?_
      | refine Kept.k4 ?_))
  all_goals try (exfalso; omega)
  refine SLoop.invA (I22 gm gd L.length H) (fun v => ((L.length : Int) + 1 - v).toNat) (-1) (Keep.all ⟨by omega, by omega, .mk, rfl⟩) ?_
  rintro v S H' ⟨hv1, hv2, hS, rfl⟩ R hRR
  cases hS
  by_cases hlt : v ≤ (L.length : Int)
  · have hnext : ∀ S, S22 (ptr gm) (ptr gd) (.int .i64 (v + 1)) S → R S H' := fun S h1 => hRR (v + 1) _ _ (by omega) (Keep.all ⟨by omega, by omega, h1, rfl⟩)
    clear hRR h
    have hov : 0 ≤ v → v < (L.length : Int) → (Blk.buf 35 (D.own.map cU) D.own.length).cell (0 + v.toNat * 1) = some (.int .u64 (M.own v)) := fun h0 h1 => by
      obtain ⟨w, hw, _, _⟩ := list_at (L := M.vs) (j := v.toNat) (by omega)
      have e : D.own[v.toNat]? = some (M.own v) := by
        rw [hR.own, List.getElem?_map]
        unfold Mc.own
        rw [if_pos (by omega), hw]; rfl
      show (D.own.map cU)[0 + v.toNat * 1]? = _
      rw [Nat.zero_add, Nat.mul_one, List.getElem?_map, e]; rfl
    have hlen := hD.len
    repeat' ((conv => whnf); (first
        | refine Look.mem g1 (fun _ _ _ => ?_)
        | refine SDraw.held (by kernel_rfl) [(gd, _), (go, _)] (.same g1 (.same g3 .nil)) ?_
        | refine Look.mem (.head _) (fun _ _ _ => ?_)
        | refine Idx.of v.toNat (by omega) (by omega) ?_
        | refine Look.cell (.tail _ (.head _)) (hov (by assumption) (by assumption)) ?_
        | refine c15 hM v ?_
        | refine Kept.mk (.same g1 (.same g3 .nil)) ?_
        | refine New.mk (fun _ => ?_)
        | refine Look.at0 ?_
        | refine Cell.row ?_
        | refine Cell.buf ?_
        | refine Cells.row rfl ?_
        | refine Put.row rfl ?_
        | refine Put.buf rfl ?_
        | refine Look.at1 ?_
        | refine Look.at2 ?_
        | refine Look.at3 ?_
        | refine Look.at4 ?_
        | refine Look.at5 ?_
        | refine Look.at6 ?_
        | refine Look.at7 ?_
        | refine Look.at8 ?_
        | with_reducible refine Val.i64 (by omega) (by omega) ?_
        | with_reducible refine Val.u8 (by omega) (by omega) ?_
        | with_reducible refine Val.u32 (by omega) (by omega) ?_
        | with_reducible refine Val.u64 (by omega) (by omega) ?_
        | with_reducible refine Val.u8m ?_
        | with_reducible refine Val.u32m ?_
        | with_reducible refine Val.u64m ?_
        | with_reducible refine Val.shr8 ?_
        | with_reducible refine Val.shr16 (by decide) ?_
        | with_reducible refine Val.shr24 (by decide) ?_
        | with_reducible refine Val.raw ?_
        | refine Branch.not ?_
        | refine Branch.and ?_
        | refine Branch.or ?_
        | refine Branch.dt (by assumption) ?_
        | refine Branch.df (by assumption) ?_
        | refine Branch.dt rfl ?_
        | refine Branch.dt (by omega) ?_
        | refine Branch.df (by omega) ?_
        | refine Branch.t rfl ?_
        | refine Branch.f rfl ?_
        | refine Branch.t (by assumption) ?_
        | refine Branch.f (by assumption) ?_
        | refine Branch.d (fun _ => ?_) (fun _ => ?_)
        | refine Branch.mk (fun _ => ?_) (fun _ => ?_)
        | refine Need.mk (by first | omega | decide | rfl) ?_
        | refine Idx.nat (by omega) ?_
        | refine Idx.auto (by first | omega | decide) (by first | omega | decide) ?_
        | refine Cell.ro rfl ?_
        | refine SDraw.all (by kernel_rfl) ?_
        | refine Kept.k0 ?_
        | refine Kept.k1 ?_
        | refine Kept.k2 ?_
        | refine Kept.k3 ?_
        | refine Kept.k4 ?_))
    all_goals try (exfalso; omega)
    all_goals
      refine SLoop.invA (I22a gm gd v D.there.length H') (fun k => ((D.there.length : Int) + 1 - k).toNat) (-1) (Keep.all ⟨by omega, by omega, .mk, rfl⟩) ?_
      rintro k S H2 ⟨hk1, hk2, hS, rfl⟩ R2 hR2
      cases hS
      by_cases hlt2 : k ≤ (D.there.length : Int)
      · have hnext2 : ∀ (S : List Value) p, S22a (ptr gm) (ptr gd) (.int .i64 v) (.int .i64 (k + 1)) S → R2 S (p :: H2) := fun S p h1 => hR2 (k + 1) _ _ (by omega) (Keep.d1 ⟨by omega, by omega, h1, rfl⟩)
        clear hR2 hnext
        have hc14 := fun (K : Value → Heap → Prop) hk => c14 (K := K) hM k v hk
        have hc35 := fun (K : Value → Heap → Prop) hk => c35 (K := K) hD k v hk
        have hc25 := fun (p : Nat × Blk) (K : Value → Heap → Prop) hk => c25 (K := K) (hM.mono (H' := p :: H2) fun z hz => .tail _ hz) k hk
        have hc36 := fun (p : Nat × Blk) (K : Value → Heap → Prop) hk => c36 (K := K) (hD.mono (H' := p :: H2) fun z hz => .tail _ hz) k hk
        rw [rl_read hR k v] at hc14
        rw [rl_fresh hR (fun v hv => (hM.ok v hv).once) k] at hc25
        generalize D.read k v = s at hc14 hc35
        generalize D.fresh k = f at hc25 hc36
        obtain ⟨snd, sv', sx, scc, sis⟩ := s
        dsimp only at hc14 hc35
        cases sis <;> cases f
        all_goals
          repeat' ((conv => whnf); (first
              | refine Look.mem g1 (fun _ _ _ => ?_)
              | refine hc14 _ ?_
              | refine hc35 _ ?_
              | refine hc25 _ _ ?_
              | refine hc36 _ _ ?_
              | refine New.mk (fun _ => ?_)
              | refine Look.at0 ?_
              | refine Cell.row ?_
              | refine Cell.buf ?_
              | refine Cells.row rfl ?_
              | refine Put.row rfl ?_
              | refine Put.buf rfl ?_
              | refine Look.at1 ?_
              | refine Look.at2 ?_
              | refine Look.at3 ?_
              | refine Look.at4 ?_
              | refine Look.at5 ?_
              | refine Look.at6 ?_
              | refine Look.at7 ?_
              | refine Look.at8 ?_
              | with_reducible refine Val.i64 (by omega) (by omega) ?_
              | with_reducible refine Val.u8 (by omega) (by omega) ?_
              | with_reducible refine Val.u32 (by omega) (by omega) ?_
              | with_reducible refine Val.u64 (by omega) (by omega) ?_
              | with_reducible refine Val.u8m ?_
              | with_reducible refine Val.u32m ?_
              | with_reducible refine Val.u64m ?_
              | with_reducible refine Val.shr8 ?_
              | with_reducible refine Val.shr16 (by decide) ?_
              | with_reducible refine Val.shr24 (by decide) ?_
              | with_reducible refine Val.raw ?_
              | refine Branch.not ?_
              | refine Branch.and ?_
              | refine Branch.or ?_
              | refine Branch.dt (by assumption) ?_
              | refine Branch.df (by assumption) ?_
              | refine Branch.dt rfl ?_
              | refine Branch.dt (by omega) ?_
              | refine Branch.df (by omega) ?_
              | refine Branch.t rfl ?_
              | refine Branch.f rfl ?_
              | refine Branch.t (by assumption) ?_
              | refine Branch.f (by assumption) ?_
              | refine Branch.d (fun _ => ?_) (fun _ => ?_)
              | refine Branch.mk (fun _ => ?_) (fun _ => ?_)
              | refine Need.mk (by first | omega | decide | rfl) ?_
              | refine Idx.nat (by omega) ?_
              | refine Idx.auto (by first | omega | decide) (by first | omega | decide) ?_
              | refine Cell.ro rfl ?_
              | refine SDraw.all (by kernel_rfl) ?_
              | refine Kept.k0 ?_
              | refine Kept.k1 ?_
              | refine Kept.k2 ?_
              | refine Kept.k3 ?_
              | refine Kept.k4 ?_))
          all_goals (conv => whnf)
          all_goals first
            | exact hnext2 _ _ .mk
            | exact absurd rfl (by assumption)
      · have e : k = (D.there.length : Int) + 1 := by omega
        subst e
        repeat' ((conv => whnf); (first
            | refine Look.mem g1 (fun _ _ _ => ?_)
            | refine New.mk (fun _ => ?_)
            | refine Look.at0 ?_
            | refine Cell.row ?_
            | refine Cell.buf ?_
            | refine Cells.row rfl ?_
            | refine Put.row rfl ?_
            | refine Put.buf rfl ?_
            | refine Look.at1 ?_
            | refine Look.at2 ?_
            | refine Look.at3 ?_
            | refine Look.at4 ?_
            | refine Look.at5 ?_
            | refine Look.at6 ?_
            | refine Look.at7 ?_
            | refine Look.at8 ?_
            | with_reducible refine Val.i64 (by omega) (by omega) ?_
            | with_reducible refine Val.u8 (by omega) (by omega) ?_
            | with_reducible refine Val.u32 (by omega) (by omega) ?_
            | with_reducible refine Val.u64 (by omega) (by omega) ?_
            | with_reducible refine Val.u8m ?_
            | with_reducible refine Val.u32m ?_
            | with_reducible refine Val.u64m ?_
            | with_reducible refine Val.shr8 ?_
            | with_reducible refine Val.shr16 (by decide) ?_
            | with_reducible refine Val.shr24 (by decide) ?_
            | with_reducible refine Val.raw ?_
            | refine Branch.not ?_
            | refine Branch.and ?_
            | refine Branch.or ?_
            | refine Branch.dt (by assumption) ?_
            | refine Branch.df (by assumption) ?_
            | refine Branch.dt rfl ?_
            | refine Branch.dt (by omega) ?_
            | refine Branch.df (by omega) ?_
            | refine Branch.t rfl ?_
            | refine Branch.f rfl ?_
            | refine Branch.t (by assumption) ?_
            | refine Branch.f (by assumption) ?_
            | refine Branch.d (fun _ => ?_) (fun _ => ?_)
            | refine Branch.mk (fun _ => ?_) (fun _ => ?_)
            | refine Need.mk (by first | omega | decide | rfl) ?_
            | refine Idx.nat (by omega) ?_
            | refine Idx.auto (by first | omega | decide) (by first | omega | decide) ?_
            | refine Cell.ro rfl ?_
            | refine SDraw.all (by kernel_rfl) ?_
            | refine Kept.k0 ?_
            | refine Kept.k1 ?_
            | refine Kept.k2 ?_
            | refine Kept.k3 ?_
            | refine Kept.k4 ?_))
        all_goals (conv => whnf)
        exact hnext _ .mk
  · have e : v = (L.length : Int) + 1 := by omega
    subst e
    repeat' ((conv => whnf); (first
        | refine Look.mem g1 (fun _ _ _ => ?_)
        | refine New.mk (fun _ => ?_)
        | refine Look.at0 ?_
        | refine Cell.row ?_
        | refine Cell.buf ?_
        | refine Cells.row rfl ?_
        | refine Put.row rfl ?_
        | refine Put.buf rfl ?_
        | refine Look.at1 ?_
        | refine Look.at2 ?_
        | refine Look.at3 ?_
        | refine Look.at4 ?_
        | refine Look.at5 ?_
        | refine Look.at6 ?_
        | refine Look.at7 ?_
        | refine Look.at8 ?_
        | with_reducible refine Val.i64 (by omega) (by omega) ?_
        | with_reducible refine Val.u8 (by omega) (by omega) ?_
        | with_reducible refine Val.u32 (by omega) (by omega) ?_
        | with_reducible refine Val.u64 (by omega) (by omega) ?_
        | with_reducible refine Val.u8m ?_
        | with_reducible refine Val.u32m ?_
        | with_reducible refine Val.u64m ?_
        | with_reducible refine Val.shr8 ?_
        | with_reducible refine Val.shr16 (by decide) ?_
        | with_reducible refine Val.shr24 (by decide) ?_
        | with_reducible refine Val.raw ?_
        | refine Branch.not ?_
        | refine Branch.and ?_
        | refine Branch.or ?_
        | refine Branch.dt (by assumption) ?_
        | refine Branch.df (by assumption) ?_
        | refine Branch.dt rfl ?_
        | refine Branch.dt (by omega) ?_
        | refine Branch.df (by omega) ?_
        | refine Branch.t rfl ?_
        | refine Branch.f rfl ?_
        | refine Branch.t (by assumption) ?_
        | refine Branch.f (by assumption) ?_
        | refine Branch.d (fun _ => ?_) (fun _ => ?_)
        | refine Branch.mk (fun _ => ?_) (fun _ => ?_)
        | refine Need.mk (by first | omega | decide | rfl) ?_
        | refine Idx.nat (by omega) ?_
        | refine Idx.auto (by first | omega | decide) (by first | omega | decide) ?_
        | refine Cell.ro rfl ?_
        | refine SDraw.all (by kernel_rfl) ?_
        | refine Kept.k0 ?_
        | refine Kept.k1 ?_
        | refine Kept.k2 ?_
        | refine Kept.k3 ?_
        | refine Kept.k4 ?_))
    all_goals (conv => whnf)
    exact Keep.all h
end
end Go.Proofs.Ytjnlpaojaikjaaa

/- Input slices: from what the row tells of one to what a walk knows of it. -/
set_option linter.unusedVariables false
set_option linter.unusedSimpArgs false
namespace Go.Proofs.Ytjnlpaojaikjaaa
open Sx
theorem inS_of {α : Type} {f : α → List Value} {k B : Nat} {R : World → List Value → Prop} {Good : α → Prop} {w : World} {a : Option Addr} {n c : Nat} (h : SliceAt k B R w a n c) (hk0 : 0 < k) (hk : ∀ x, (f x).length = k) (hR : ∀ cs, R w cs → ∃ x, cs = f x ∧ Good x) :
    ∃ H L, L.length = n ∧ InS f k (.slice a L.length c) H L ∧ (∀ x ∈ L, Good x) ∧ Holds w H ∧ ∀ p ∈ H, p.2.excl = false := by
  have hml : n ≤ maxLen := Nat.le_trans h.1 h.2.1
  by_cases hl : 0 < n
  · obtain ⟨b, o, rfl, hb, hc⟩ := h.plain hk0 hl
    obtain ⟨L, h1, h2⟩ := list_of (P := fun j (m : α) => Good m ∧ ∀ i v, (f m)[i]? = some v → w.cell? ⟨b, o + j * k + i, none⟩ = some v) n fun j hj => by
      obtain ⟨cs, hlc, hcell, hr⟩ := hc j hj
      obtain ⟨x, rfl, hg⟩ := hR cs hr
      refine ⟨x, hg, fun i v hi => ?_⟩
      have hik : i < k := by rw [← hk x]; exact (List.getElem?_eq_some_iff.1 hi).1
      exact (hcell i hik).trans hi
    refine ⟨[(b, .ro fun j => w.cell? ⟨b, j, none⟩)], L, h1, ⟨_, c, rfl, by omega, .inr ⟨b, o, _, rfl, .head _, fun j x i v hj hv hi => (h2 j x hj).2 i v hv⟩⟩, fun x hx => ?_, ⟨fun p hp => ?_, List.pairwise_singleton _ _⟩, fun p hp => ?_⟩
    · obtain ⟨j, hlt, rfl⟩ := List.getElem_of_mem hx
      exact (h2 j _ (List.getElem?_eq_getElem hlt)).1
    · obtain rfl := List.mem_singleton.1 hp
      exact ⟨hb, fun _ _ h => h⟩
    · obtain rfl := List.mem_singleton.1 hp
      rfl
  · obtain rfl : n = 0 := by omega
    exact ⟨[], [], rfl, ⟨a, c, rfl, by simp, .inl rfl⟩, fun x hx => (by cases hx), Holds.empty w, fun p hp => by cases hp⟩
/-- Two inputs, side by side. -/
theorem Holds.join {w : World} {H G : Heap} (h1 : Holds w H) (h2 : Holds w G) (x1 : ∀ p ∈ H, p.2.excl = false) (x2 : ∀ p ∈ G, p.2.excl = false) : Holds w (H ++ G) := by
  refine ⟨fun p hp => ?_, List.pairwise_append.2 ⟨h1.sep, h2.sep, fun p hp q hq hx => ?_⟩⟩
  · rcases List.mem_append.1 hp with hp | hp
    · exact h1.at_ p hp
    · exact h2.at_ p hp
  · rw [x1 p hp, x2 q hq] at hx
    rcases hx with hx | hx <;> cases hx
theorem excl_join {H G : Heap} (x1 : ∀ p ∈ H, p.2.excl = false) (x2 : ∀ p ∈ G, p.2.excl = false) : ∀ p ∈ H ++ G, p.2.excl = false := fun p hp => by
  rcases List.mem_append.1 hp with hp | hp
  · exact x1 p hp
  · exact x2 p hp
end Go.Proofs.Ytjnlpaojaikjaaa

/- Layer 26: the inputs, opened: slices in slices. -/
set_option linter.unusedVariables false
set_option linter.unusedSimpArgs false
set_option maxRecDepth 100000
set_option maxHeartbeats 4000000
namespace Go.Proofs.Ytjnlpaojaikjaaa
open Sx
theorem kd_ro {b : Blk} (h : b.excl = false) : kd b = 5000 := by cases b <;> first | rfl | cases h
theorem inS_conv {α β : Type} {f : α → List Value} {f' : β → List Value} {k : Nat} {sv : Value} {H : Heap} {xs : List α} {ys : List β} (h : InS f k sv H xs) (he : ys.map f' = xs.map f) : InS f' k sv H ys := by
  have hl : ys.length = xs.length := by simpa using congrArg List.length he
  obtain ⟨a, c, rfl, h1, h2⟩ := h
  refine ⟨a, c, by rw [hl], by omega, ?_⟩
  rcases h2 with rfl | ⟨r, o, b, rfl, hm, hc⟩
  · exact .inl (List.eq_nil_of_length_eq_zero hl)
  · refine .inr ⟨r, o, b, rfl, hm, fun j y i v hj hv hi => ?_⟩
    have e : (xs.map f)[j]? = some (f' y) := by rw [← he, List.getElem?_map, hj]; rfl
    rw [List.getElem?_map] at e
    cases hx : xs[j]? with
    | none => rw [hx] at e; cases e
    | some x =>
      rw [hx] at e
      injection e with e
      exact hc j x i v hx (by rw [e]; exact hv) hi
theorem int_of {w : World} {cs : List Value} (h : R3 w cs) : ∃ x : Int, cs = cI x ∧ True := by
  obtain ⟨x, rfl, _⟩ := h; exact ⟨x, rfl, trivial⟩
/-- Lists that lie in the elements of a list. -/
theorem inner_of {β : Type} {w : World} (g : β → Option Addr × Nat × Nat) : ∀ (xs : List β), (∀ x ∈ xs, SliceAt 1 B3 R3 w (g x).1 (g x).2.1 (g x).2.2) →
    ∃ (H : Heap) (ys : List (β × List Int)), ys.map Prod.fst = xs ∧ (∀ y ∈ ys, y.2.length = (g y.1).2.1 ∧ InS cI 1 (.slice (g y.1).1 y.2.length (g y.1).2.2) H y.2 ∧ y.2.length * 8 ≤ 140737488355000) ∧ Holds w H ∧ ∀ p ∈ H, p.2.excl = false
  | [], _ => ⟨[], [], rfl, fun y hy => (by cases hy), Holds.empty w, fun p hp => by cases hp⟩
  | x :: xs, h => by
    obtain ⟨H1, ys, h1, h2, h3, h4⟩ := inner_of g xs fun y hy => h y (.tail _ hy)
    have hx := h x (.head _)
    obtain ⟨H2, l, g1, g2, _, g4, g5⟩ := inS_of (f := cI) (Good := fun _ => True) hx (by decide) (fun _ => rfl) (fun cs hc => int_of hc)
    have hb : (g x).2.1 * 8 ≤ 140737488355000 := by
      have := hx.2.2.1
      have e : B3 = 8 := rfl
      rw [e] at this
      simp only [reachBytes] at this; omega
    refine ⟨H2 ++ H1, (x, l) :: ys, by rw [List.map_cons, h1], fun y hy => ?_, Holds.join g4 h3 g5 h4, excl_join g5 h4⟩
    rcases List.mem_cons.1 hy with rfl | hy
    · refine ⟨g1, ?_, by rw [g1]; exact hb⟩
      have := g2.mono (H' := H2 ++ H1) fun p hp => List.mem_append_left _ hp
      exact this
    · obtain ⟨k1, k2, k3⟩ := h2 y hy
      exact ⟨k1, k2.mono fun p hp => List.mem_append_right _ hp, k3⟩
structure VarJ where
  (p : Int) (a : Option Addr) (n c : Nat)
abbrev VarJ.cells (x : VarJ) : List Value := [.int .i64 x.p, .slice x.a x.n x.c]
theorem inV_of {w : World} {a : Option Addr} {n c : Nat} (h : SliceAt 2 B42 R42 w a n c) : ∃ H L, L.length = n ∧ InV (.slice a L.length c) H L ∧ (∀ x ∈ L, x.cons.length * 8 ≤ 140737488355000) ∧ L.length * 32 ≤ 140737488355000 ∧ Holds w H ∧ ∀ p ∈ H, p.2.excl = false := by
  obtain ⟨H1, xs, h1, h2, h3, h4, h5⟩ := inS_of (f := VarJ.cells) (Good := fun x => SliceAt 1 B3 R3 w x.a x.n x.c) h (by decide) (fun _ => rfl) (fun cs hc => by
    obtain ⟨x0, x1, x2, x3, rfl, _, hs⟩ := hc
    exact ⟨⟨x0, x1, x2, x3⟩, rfl, hs⟩)
  obtain ⟨H2, ys, g1, g2, g3, g4⟩ := inner_of (fun x : VarJ => (x.a, x.n, x.c)) xs h3
  have hl : ys.length = xs.length := by rw [← g1, List.length_map]
  refine ⟨H1 ++ H2, ys.map fun y => (⟨y.1.p, y.2, y.1.a, y.1.c⟩ : VarI), by rw [List.length_map, hl, h1], ⟨?_, fun x hx => ?_⟩, fun x hx => ?_, ?_, Holds.join h4 g3 h5 g4, excl_join h5 g4⟩
  · have := (inS_conv h2 (f' := VarI.cells) (ys := ys.map fun y => (⟨y.1.p, y.2, y.1.a, y.1.c⟩ : VarI)) (by
      rw [List.map_map, ← g1, List.map_map]
      refine List.map_congr_left fun y hy => ?_
      show [Value.int .i64 y.1.p, .slice y.1.a y.2.length y.1.c] = [Value.int .i64 y.1.p, .slice y.1.a y.1.n y.1.c]
      rw [(g2 y hy).1])).mono (H' := H1 ++ H2) fun p hp => List.mem_append_left _ hp
    rw [List.length_map, hl]; exact this
  · obtain ⟨y, hy, rfl⟩ := List.mem_map.1 hx
    exact (g2 y hy).2.1.mono fun p hp => List.mem_append_right _ hp
  · obtain ⟨y, hy, rfl⟩ := List.mem_map.1 hx
    exact (g2 y hy).2.2
  · rw [List.length_map, hl, h1]
    have := h.2.2.1
    have e : B42 = 32 := rfl
    rw [e] at this
    simp only [reachBytes] at this; omega
structure InA (sv : Value) (H : Heap) (Y : List ActI) : Prop where
  sl : InS ActI.cells 5 sv H Y
  el : ∀ y ∈ Y, InS cI 1 (.slice y.a y.mis.length y.c) H y.mis
  big : ∀ y ∈ Y, y.mis.length * 8 ≤ 140737488355000
theorem InA.mono {sv : Value} {H H' : Heap} {Y : List ActI} (h : InA sv H Y) (hs : ∀ q ∈ H, q ∈ H') : InA sv H' Y := ⟨h.sl.mono hs, fun x hx => (h.el x hx).mono hs, h.big⟩
structure ActJ where
  (k n v x : Int) (a : Option Addr) (l c : Nat)
abbrev ActJ.cells (y : ActJ) : List Value := [.int .i64 y.k, .int .i64 y.n, .int .i64 y.v, .int .u64 y.x, .slice y.a y.l y.c]
theorem inA_of {w : World} {a : Option Addr} {n c : Nat} (h : SliceAt 5 B38 R38 w a n c) : ∃ H Y, Y.length = n ∧ InA (.slice a Y.length c) H Y ∧ Holds w H ∧ ∀ p ∈ H, p.2.excl = false := by
  obtain ⟨H1, xs, h1, h2, h3, h4, h5⟩ := inS_of (f := ActJ.cells) (Good := fun x => SliceAt 1 B3 R3 w x.a x.l x.c) h (by decide) (fun _ => rfl) (fun cs hc => by
    obtain ⟨x0, x1, x2, x3, x4, x5, x6, rfl, _, _, _, _, hs⟩ := hc
    exact ⟨⟨x0, x1, x2, x3, x4, x5, x6⟩, rfl, hs⟩)
  obtain ⟨H2, ys, g1, g2, g3, g4⟩ := inner_of (fun x : ActJ => (x.a, x.l, x.c)) xs h3
  have hl : ys.length = xs.length := by rw [← g1, List.length_map]
  refine ⟨H1 ++ H2, ys.map fun y => (⟨y.1.k, y.1.n, y.1.v, y.1.x, y.2, y.1.a, y.1.c⟩ : ActI), by rw [List.length_map, hl, h1], ⟨?_, fun x hx => ?_, fun x hx => ?_⟩, Holds.join h4 g3 h5 g4, excl_join h5 g4⟩
  · have := (inS_conv h2 (f' := ActI.cells) (ys := ys.map fun y => (⟨y.1.k, y.1.n, y.1.v, y.1.x, y.2, y.1.a, y.1.c⟩ : ActI)) (by
      rw [List.map_map, ← g1, List.map_map]
      refine List.map_congr_left fun y hy => ?_
      show [Value.int .i64 y.1.k, .int .i64 y.1.n, .int .i64 y.1.v, .int .u64 y.1.x, .slice y.1.a y.2.length y.1.c] = _
      rw [(g2 y hy).1]; rfl)).mono (H' := H1 ++ H2) fun p hp => List.mem_append_left _ hp
    rw [List.length_map, hl]; exact this
  · obtain ⟨y, hy, rfl⟩ := List.mem_map.1 hx
    exact (g2 y hy).2.1.mono fun p hp => List.mem_append_right _ hp
  · obtain ⟨y, hy, rfl⟩ := List.mem_map.1 hx
    exact (g2 y hy).2.2
end Go.Proofs.Ytjnlpaojaikjaaa

/- Layer 26: what nodes write and see is as the document says: the law. -/
set_option linter.unusedVariables false
set_option linter.unusedSimpArgs false
set_option maxRecDepth 100000
set_option maxHeartbeats 4000000
namespace Go.Proofs.Ytjnlpaojaikjaaa
open Sx
theorem sLeft {P : Program} {f : FuncId} {args : List Value} {N : Heap} {K : Value → Heap → Prop} (B : Heap) (h : SCalls P f args N fun v N' => K v (N' ++ B)) : SCalls P f args (N ++ B) K := SCalls.midH [] B h
theorem hc9 (H : Heap) (K : Value → Heap → Prop) (h : ∀ N, K (.bool true) (N ++ H)) : SCalls Try.prog 9 [] H K := SCalls.any c9 fun v N hv => by subst hv; exact h N
inductive S6 (A0 A1 A2 A7 A10 A11 : Value) : List Value → Prop
  | mk {r3 r4 r5 r6 r8 r9 r12 r13 r14 r15 r16 r17 r18 r19 r20 r21 r22 r23 r24 r25 r26 r27 r28 r29 r30 r31 r32 r33 r34 r35 r36 r37 r38 r39 r40 r41 r42 r43 r44 r45 r46 r47 r48 r49 r50 r51 r52 r53 r54 r55 r56 r57 r58 r59 r60 r61 r62 r63 r64 r65 r66 r67 r68 r69 r70 r71 r72 r73 r74 r75 r76 : Value} : S6 A0 A1 A2 A7 A10 A11 [A0, A1, A2, r3, r4, r5, r6, A7, r8, r9, A10, A11, r12, r13, r14, r15, r16, r17, r18, r19, r20, r21, r22, r23, r24, r25, r26, r27, r28, r29, r30, r31, r32, r33, r34, r35, r36, r37, r38, r39, r40, r41, r42, r43, r44, r45, r46, r47, r48, r49, r50, r51, r52, r53, r54, r55, r56, r57, r58, r59, r60, r61, r62, r63, r64, r65, r66, r67, r68, r69, r70, r71, r72, r73, r74, r75, r76]
structure T6 where
  (j : Nat) (M : Mc) (D : Dc) (ids : List (Nat × Nat)) (Hm Hd : Heap)
def I6 (n0 sv av : Value) (gm gd : Nat) (L : List VarI) (I : Heap) (Y : List ActI) (x : T6) (S : List Value) (H : Heap) : Prop :=
  x.j ≤ Y.length ∧ S6 n0 sv av (ptr gm) (ptr gd) (.int .i64 (x.j : Int)) S ∧ Mach gm x.ids x.M x.Hm ∧ Doc gd sv L I x.D x.Hd ∧ Rl (prods L) x.M x.D ∧ H = x.Hm ++ x.Hd
section
variable {I : Heap} {sv av : Value} {L : List VarI} {Y : List ActI}
theorem acts_c (hin : InV sv I L) (hbig : ∀ x ∈ L, x.cons.length * 8 ≤ 140737488355000) (hL : L.length * 32 ≤ 140737488355000) (hk0 : ∀ p ∈ I, kd p.2 = 5000) (hact : InA av I Y) (nodes : Int) : SCalls Try.prog 6 [.int .i64 nodes, sv, av] I fun v _ => v = .bool true := by
  obtain ⟨sa, sc, rfl, hml⟩ := hin.sl.sv
  obtain ⟨aa, ac, rfl, hyl⟩ := hact.sl.sv
  have hyl' : Y.length ≤ 9223372036854775807 := by simp only [maxLen] at hyl; omega
  have hlg : ∀ Lo : List VarI, Lo.map VarI.lg = L.map VarI.lg → Lo.length = L.length ∧ ∀ x ∈ Lo, x.cons.length * 8 ≤ 140737488355000 := fun Lo he => by
    refine ⟨by simpa using congrArg List.length he, fun x hx => ?_⟩
    have : x.lg ∈ L.map VarI.lg := by rw [← he]; exact List.mem_map_of_mem hx
    obtain ⟨y, hy, e⟩ := List.mem_map.1 this
    have e2 : y.cons = x.cons := congrArg Prod.snd e
    rw [← e2]; exact hbig y hy
  have hc20 : ∀ (H : Heap) (K : Value → Heap → Prop), (∀ p ∈ I, p ∈ H) → K (.int .i64 (chkV nodes (L.map VarI.lg))) H → SCalls Try.prog 20 [.int .i64 nodes, .slice sa L.length sc] H K := fun H K hs hk => c20 (hin.mono hs) nodes hk
  have hc21 : ∀ {q2 c2 : Nat} {Lo2 : List VarI} {H : Heap} (K : Value → Heap → Prop), Lo2.map VarI.lg = L.map VarI.lg → InV (.slice (some ⟨q2, 0, none⟩) L.length c2) H Lo2 → K (.int .i64 (chkV nodes (L.map VarI.lg))) H → SCalls Try.prog 21 [.int .i64 nodes, .slice (some ⟨q2, 0, none⟩) L.length c2] H K := fun {q2 c2 Lo2 H} K h1 h2 hk =>
    c21 h2 (hlg Lo2 h1).2 nodes (by rw [h1]; exact hk)
  refine enter6 ?_
  repeat' ((conv => whnf); (first
      | refine c8 hin hbig hL (fun q c Lo N h1 h2 h3 => ?_)
      | refine New.mk (fun _ => ?_)
      | refine Look.at0 ?_
      | refine Cell.row ?_
      | refine Cell.buf ?_
      | refine Cells.row rfl ?_
      | refine Put.row rfl ?_
      | refine Put.buf rfl ?_
      | refine Look.at1 ?_
      | refine Look.at2 ?_
      | refine Look.at3 ?_
      | refine Look.at4 ?_
      | refine Look.at5 ?_
      | refine Look.at6 ?_
      | refine Look.at7 ?_
      | refine Look.at8 ?_
      | with_reducible refine Val.i64 (by omega) (by omega) ?_
      | with_reducible refine Val.u8 (by omega) (by omega) ?_
      | with_reducible refine Val.u32 (by omega) (by omega) ?_
      | with_reducible refine Val.u64 (by omega) (by omega) ?_
      | with_reducible refine Val.u8m ?_
      | with_reducible refine Val.u32m ?_
      | with_reducible refine Val.u64m ?_
      | with_reducible refine Val.shr8 ?_
      | with_reducible refine Val.shr16 (by decide) ?_
      | with_reducible refine Val.shr24 (by decide) ?_
      | with_reducible refine Val.raw ?_
      | refine Branch.not ?_
      | refine Branch.and ?_
      | refine Branch.or ?_
      | refine Branch.dt (by assumption) ?_
      | refine Branch.df (by assumption) ?_
      | refine Branch.dt rfl ?_
      | refine Branch.dt (by omega) ?_
      | refine Branch.df (by omega) ?_
      | refine Branch.t rfl ?_
      | refine Branch.f rfl ?_
      | refine Branch.t (by assumption) ?_
      | refine Branch.f (by assumption) ?_
      | refine Branch.d (fun _ => ?_) (fun _ => ?_)
      | refine Branch.mk (fun _ => ?_) (fun _ => ?_)
      | refine Need.mk (by first | omega | decide | rfl) ?_
      | refine Idx.nat (by omega) ?_
      | refine Idx.auto (by first | omega | decide) (by first | omega | decide) ?_
      | refine Cell.ro rfl ?_
      | refine SDraw.all (by kernel_rfl) ?_
      | refine Kept.k0 ?_
      | refine Kept.k1 ?_
      | refine Kept.k2 ?_
      | refine Kept.k3 ?_
      | refine Kept.k4 ?_))
  obtain ⟨hl1, hb1⟩ := hlg Lo h1
  have hkN : ∀ p ∈ N, kd p.2 ≠ 67 ∧ kd p.2 ≠ 1068 := fun p hp => by rcases h3 p hp with e | e <;> omega
  have hc7 := fun (K : Value → Heap → Prop) h0 h1 => c7 (K := K) h2 hb1 hkN nodes h0 h1
  rw [h1] at hc7
  by_cases hchk : chkV nodes (L.map VarI.lg) = 0
  · obtain ⟨hn1, hn2, _, _⟩ := chk_zero hchk
    obtain ⟨n, rfl⟩ : ∃ n : Nat, nodes = (n : Int) := ⟨nodes.toNat, by omega⟩
    have hc10 := fun (H : Heap) (hI : ∀ p ∈ I, p ∈ H) (K : Value → Heap → Prop) hk => c10 (K := K) hin (fun p hp => ⟨hk0 p hp, hI p hp⟩) n hchk hk
    rw [hchk] at hc7 hc20 hc21
    rw [Int.toNat_natCast] at hc7
    repeat' ((conv => whnf); (first
        | refine sLeft I (hc7 _ (fun hne => absurd rfl hne) (fun _ gm ids H1 hM => ?_))
        | refine hc20 _ _ (fun p hp => List.mem_append_right _ hp) ?_
        | refine SCalls.under H1 (c8 hin hbig hL (fun q2 c2 Lo2 N2 k1 k2 k3 => ?_))
        | refine hc21 _ k1 (k2.mono fun z hz => List.mem_append_right _ (List.mem_append_left _ hz)) ?_
        | refine SCalls.under H1 (hc10 (N2 ++ I) (fun p hp => List.mem_append_right _ hp) _ (fun gd Hd hD => ?_))
        | refine New.mk (fun _ => ?_)
        | refine Look.at0 ?_
        | refine Cell.row ?_
        | refine Cell.buf ?_
        | refine Cells.row rfl ?_
        | refine Put.row rfl ?_
        | refine Put.buf rfl ?_
        | refine Look.at1 ?_
        | refine Look.at2 ?_
        | refine Look.at3 ?_
        | refine Look.at4 ?_
        | refine Look.at5 ?_
        | refine Look.at6 ?_
        | refine Look.at7 ?_
        | refine Look.at8 ?_
        | with_reducible refine Val.i64 (by omega) (by omega) ?_
        | with_reducible refine Val.u8 (by omega) (by omega) ?_
        | with_reducible refine Val.u32 (by omega) (by omega) ?_
        | with_reducible refine Val.u64 (by omega) (by omega) ?_
        | with_reducible refine Val.u8m ?_
        | with_reducible refine Val.u32m ?_
        | with_reducible refine Val.u64m ?_
        | with_reducible refine Val.shr8 ?_
        | with_reducible refine Val.shr16 (by decide) ?_
        | with_reducible refine Val.shr24 (by decide) ?_
        | with_reducible refine Val.raw ?_
        | refine Branch.not ?_
        | refine Branch.and ?_
        | refine Branch.or ?_
        | refine Branch.dt (by assumption) ?_
        | refine Branch.df (by assumption) ?_
        | refine Branch.dt rfl ?_
        | refine Branch.dt (by omega) ?_
        | refine Branch.df (by omega) ?_
        | refine Branch.t rfl ?_
        | refine Branch.f rfl ?_
        | refine Branch.t (by assumption) ?_
        | refine Branch.f (by assumption) ?_
        | refine Branch.d (fun _ => ?_) (fun _ => ?_)
        | refine Branch.mk (fun _ => ?_) (fun _ => ?_)
        | refine Need.mk (by first | omega | decide | rfl) ?_
        | refine Idx.nat (by omega) ?_
        | refine Idx.auto (by first | omega | decide) (by first | omega | decide) ?_
        | refine Cell.ro rfl ?_
        | refine SDraw.all (by kernel_rfl) ?_
        | refine Kept.k0 ?_
        | refine Kept.k1 ?_
        | refine Kept.k2 ?_
        | refine Kept.k3 ?_
        | refine Kept.k4 ?_))
    refine SLoop.invA (I6 (.int .i64 (n : Int)) (.slice sa L.length sc) (.slice aa Y.length ac) gm gd L I Y) (fun x => Y.length - x.j) ⟨0, _, _, ids, H1, Hd⟩ (Keep.all ⟨Nat.zero_le _, .mk, hM, hD, rl_new n L, rfl⟩) ?_
    clear hM hD hc7 hc20 hc21 hc10 h1 h2 h3 hb1 hl1 hkN k1 k2 k3
    rintro ⟨j, M, D, ids, Hm, Hd⟩ S H' ⟨hj, hS, hM, hD, hR, rfl⟩ R hRR
    dsimp only at hj hS hM hD hR hRR ⊢
    cases hS
    by_cases hlt : j < Y.length
    · obtain ⟨y, hy, _, _⟩ := list_at hlt
      obtain ⟨r, o, c', b, e1, hm, hc⟩ := inS_at hact.sl (fun _ => rfl) hy
      injection e1 with e1 _ e3
      subst e1
      have hym := List.mem_of_getElem? hy
      have hmH : (r, b) ∈ Hm ++ Hd := List.mem_append_right _ (hD.sub _ hm).2
      have hnext : ∀ S Hm' Hd', S6 (.int .i64 (n : Int)) (.slice sa L.length sc) (.slice (some ⟨r, o, none⟩) Y.length ac) (ptr gm) (ptr gd) (.int .i64 ((j + 1 : Nat) : Int)) S → Mach gm ids (M.act y).2 Hm' → Doc gd (.slice sa L.length sc) L I (D.act (prods L) y).2 Hd' → Rl (prods L) (M.act y).2 (D.act (prods L) y).2 → R S (Hm' ++ Hd') := fun S Hm' Hd' g1 g2 g3 g4 =>
        hRR ⟨j + 1, _, _, ids, Hm', Hd'⟩ _ _ (by show Y.length - (j + 1) < Y.length - j; omega) (Keep.all ⟨by show j + 1 ≤ Y.length; omega, g1, g2, g3, g4, rfl⟩)
      clear hRR
      have hc11 := fun (K : Value → Heap → Prop) hk => c11 (K := K) hM hD hR y (hact.el y hym) (hact.big y hym) hk
      repeat' ((conv => whnf); (first
          | refine Look.cells hmH rfl hc ?_
          | refine hc11 _ (fun Hm' Hd' g1 g2 g3 => ?_)
          | refine c22 (g1.mono fun z hz => List.mem_append_left _ hz) (g2.mono fun z hz => List.mem_append_right _ hz) g3 ?_
          | refine New.mk (fun _ => ?_)
          | refine Look.at0 ?_
          | refine Cell.row ?_
          | refine Cell.buf ?_
          | refine Cells.row rfl ?_
          | refine Put.row rfl ?_
          | refine Put.buf rfl ?_
          | refine Look.at1 ?_
          | refine Look.at2 ?_
          | refine Look.at3 ?_
          | refine Look.at4 ?_
          | refine Look.at5 ?_
          | refine Look.at6 ?_
          | refine Look.at7 ?_
          | refine Look.at8 ?_
          | with_reducible refine Val.i64 (by omega) (by omega) ?_
          | with_reducible refine Val.u8 (by omega) (by omega) ?_
          | with_reducible refine Val.u32 (by omega) (by omega) ?_
          | with_reducible refine Val.u64 (by omega) (by omega) ?_
          | with_reducible refine Val.u8m ?_
          | with_reducible refine Val.u32m ?_
          | with_reducible refine Val.u64m ?_
          | with_reducible refine Val.shr8 ?_
          | with_reducible refine Val.shr16 (by decide) ?_
          | with_reducible refine Val.shr24 (by decide) ?_
          | with_reducible refine Val.raw ?_
          | refine Branch.not ?_
          | refine Branch.and ?_
          | refine Branch.or ?_
          | refine Branch.dt (by assumption) ?_
          | refine Branch.df (by assumption) ?_
          | refine Branch.dt rfl ?_
          | refine Branch.dt (by omega) ?_
          | refine Branch.df (by omega) ?_
          | refine Branch.t rfl ?_
          | refine Branch.f rfl ?_
          | refine Branch.t (by assumption) ?_
          | refine Branch.f (by assumption) ?_
          | refine Branch.d (fun _ => ?_) (fun _ => ?_)
          | refine Branch.mk (fun _ => ?_) (fun _ => ?_)
          | refine Need.mk (by first | omega | decide | rfl) ?_
          | refine Idx.nat (by omega) ?_
          | refine Idx.auto (by first | omega | decide) (by first | omega | decide) ?_
          | refine Cell.ro rfl ?_
          | refine SDraw.all (by kernel_rfl) ?_
          | refine Kept.k0 ?_
          | refine Kept.k1 ?_
          | refine Kept.k2 ?_
          | refine Kept.k3 ?_
          | refine Kept.k4 ?_))
      all_goals (conv => whnf)
      all_goals first
        | exact hnext _ _ _ .mk g1 g2 g3
        | trace_state
    · have e : j = Y.length := by omega
      subst e
      repeat' ((conv => whnf); (first
          | refine c22 (hM.mono fun z hz => List.mem_append_left _ hz) (hD.mono fun z hz => List.mem_append_right _ hz) hR ?_
          | refine hc9 _ _ (fun N9 => ?_)
          | refine New.mk (fun _ => ?_)
          | refine Look.at0 ?_
          | refine Cell.row ?_
          | refine Cell.buf ?_
          | refine Cells.row rfl ?_
          | refine Put.row rfl ?_
          | refine Put.buf rfl ?_
          | refine Look.at1 ?_
          | refine Look.at2 ?_
          | refine Look.at3 ?_
          | refine Look.at4 ?_
          | refine Look.at5 ?_
          | refine Look.at6 ?_
          | refine Look.at7 ?_
          | refine Look.at8 ?_
          | with_reducible refine Val.i64 (by omega) (by omega) ?_
          | with_reducible refine Val.u8 (by omega) (by omega) ?_
          | with_reducible refine Val.u32 (by omega) (by omega) ?_
          | with_reducible refine Val.u64 (by omega) (by omega) ?_
          | with_reducible refine Val.u8m ?_
          | with_reducible refine Val.u32m ?_
          | with_reducible refine Val.u64m ?_
          | with_reducible refine Val.shr8 ?_
          | with_reducible refine Val.shr16 (by decide) ?_
          | with_reducible refine Val.shr24 (by decide) ?_
          | with_reducible refine Val.raw ?_
          | refine Branch.not ?_
          | refine Branch.and ?_
          | refine Branch.or ?_
          | refine Branch.dt (by assumption) ?_
          | refine Branch.df (by assumption) ?_
          | refine Branch.dt rfl ?_
          | refine Branch.dt (by omega) ?_
          | refine Branch.df (by omega) ?_
          | refine Branch.t rfl ?_
          | refine Branch.f rfl ?_
          | refine Branch.t (by assumption) ?_
          | refine Branch.f (by assumption) ?_
          | refine Branch.d (fun _ => ?_) (fun _ => ?_)
          | refine Branch.mk (fun _ => ?_) (fun _ => ?_)
          | refine Need.mk (by first | omega | decide | rfl) ?_
          | refine Idx.nat (by omega) ?_
          | refine Idx.auto (by first | omega | decide) (by first | omega | decide) ?_
          | refine Cell.ro rfl ?_
          | refine SDraw.all (by kernel_rfl) ?_
          | refine Kept.k0 ?_
          | refine Kept.k1 ?_
          | refine Kept.k2 ?_
          | refine Kept.k3 ?_
          | refine Kept.k4 ?_))
      all_goals (conv => whnf)
      all_goals exact Keep.sub [] (List.nil_sublist _) rfl
  · generalize chkV nodes (L.map VarI.lg) = e at hc7 hc20 hc21 hchk
    repeat' ((conv => whnf); (first
        | refine sLeft I (hc7 _ (fun hne => ?_) (fun he => absurd he hchk))
        | refine hc20 _ _ (fun p hp => List.mem_append_right _ hp) ?_
        | refine SCalls.under N (c8 hin hbig hL (fun q2 c2 Lo2 N2 k1 k2 k3 => ?_))
        | refine hc21 _ k1 (k2.mono fun z hz => List.mem_append_right _ (List.mem_append_left _ hz)) ?_
        | refine hc9 _ _ (fun N9 => ?_)
        | refine New.mk (fun _ => ?_)
        | refine Look.at0 ?_
        | refine Cell.row ?_
        | refine Cell.buf ?_
        | refine Cells.row rfl ?_
        | refine Put.row rfl ?_
        | refine Put.buf rfl ?_
        | refine Look.at1 ?_
        | refine Look.at2 ?_
        | refine Look.at3 ?_
        | refine Look.at4 ?_
        | refine Look.at5 ?_
        | refine Look.at6 ?_
        | refine Look.at7 ?_
        | refine Look.at8 ?_
        | with_reducible refine Val.i64 (by omega) (by omega) ?_
        | with_reducible refine Val.u8 (by omega) (by omega) ?_
        | with_reducible refine Val.u32 (by omega) (by omega) ?_
        | with_reducible refine Val.u64 (by omega) (by omega) ?_
        | with_reducible refine Val.u8m ?_
        | with_reducible refine Val.u32m ?_
        | with_reducible refine Val.u64m ?_
        | with_reducible refine Val.shr8 ?_
        | with_reducible refine Val.shr16 (by decide) ?_
        | with_reducible refine Val.shr24 (by decide) ?_
        | with_reducible refine Val.raw ?_
        | refine Branch.not ?_
        | refine Branch.and ?_
        | refine Branch.or ?_
        | refine Branch.dt (by assumption) ?_
        | refine Branch.df (by assumption) ?_
        | refine Branch.dt rfl ?_
        | refine Branch.dt (by omega) ?_
        | refine Branch.df (by omega) ?_
        | refine Branch.t rfl ?_
        | refine Branch.f rfl ?_
        | refine Branch.t (by assumption) ?_
        | refine Branch.f (by assumption) ?_
        | refine Branch.d (fun _ => ?_) (fun _ => ?_)
        | refine Branch.mk (fun _ => ?_) (fun _ => ?_)
        | refine Need.mk (by first | omega | decide | rfl) ?_
        | refine Idx.nat (by omega) ?_
        | refine Idx.auto (by first | omega | decide) (by first | omega | decide) ?_
        | refine Cell.ro rfl ?_
        | refine SDraw.all (by kernel_rfl) ?_
        | refine Kept.k0 ?_
        | refine Kept.k1 ?_
        | refine Kept.k2 ?_
        | refine Kept.k3 ?_
        | refine Kept.k4 ?_))
    · conv => whnf
      exact Keep.sub [] (List.nil_sublist _) rfl
    · exfalso
      rename_i hx
      exact hx (by rw [decide_eq_false hchk]; rfl)
end
theorem ImageActsW (a0 : Int) (a1a : Option Addr) (a1l : Nat) (a1c : Nat) (a2a : Option Addr) (a2l : Nat) (a2c : Nat) (w : World) (h0_0 : (Lit.int .i64 a0).wf = true) (h1_0 : SliceAt 2 B42 R42 w a1a a1l a1c) (h2_0 : SliceAt 5 B38 R38 w a2a a2l a2c) :
    Calls Try.prog 6 #[.int .i64 a0, .slice a1a a1l a1c, .slice a2a a2l a2c] w fun e w' => e = .returned (.bool true) ∧ Go.RowKit.Below w.heap.size w w' := by
  obtain ⟨H1, L, rfl, hin, hb, hL, hw1, x1⟩ := inV_of h1_0
  obtain ⟨H2, Y, rfl, hact, hw2, x2⟩ := inA_of h2_0
  have x := excl_join x1 x2
  exact (acts_c (hin.mono fun p hp => List.mem_append_left _ hp) hb hL (fun p hp => kd_ro (x p hp)) (hact.mono fun p hp => List.mem_append_right _ hp) a0).fin w (Holds.join hw1 hw2 x1 x2) x
end Go.Proofs.Ytjnlpaojaikjaaa

