/- Layer 24: of a new net the first one becomes master, just when it has waited: the walk. -/
import Derived.Test.YtmakaofdpoiaaaaFlM
set_option linter.unusedVariables false
set_option linter.unusedSimpArgs false
set_option maxRecDepth 100000
set_option maxHeartbeats 4000000
namespace Go.Proofs.Ytmakaofdpoiaaaa
open Sx
/-- Who leads, and from when on. -/
def Leads (W node : Int) (P : Int → List M → Prop) : Prop := ∀ k l, P k l → (1 ≤ W ∧ W ≤ k → ∃ m, leadL l = some m ∧ m.node = node) ∧ (¬ (1 ≤ W ∧ W ≤ k) → leadL l = none)
theorem led_lead {node : Int} {l : List M} (h : Led node l) : ∃ m, leadL l = some m ∧ m.node = node := by
  obtain ⟨top, h1, h2, h3⟩ := h.top
  cases hf : leadL l with
  | none =>
    have := List.find?_eq_none.1 hf top h1
    simp [h2] at this
  | some m =>
    refine ⟨m, rfl, ?_⟩
    have hm := List.mem_of_find?_eq_some hf
    have h2' : m.is = 2 := by simpa using List.find?_some hf
    by_cases e : m.node = node
    · exact e
    · rcases h.rest m hm e with z | z <;> omega
theorem mach_of2 {slot lost : Int} {L : List Mas} {l : List M} (h : newF slot lost L = .ok l) : ∃ W node P, Mach slot lost W node P ∧ Leads W node P ∧ P 0 l ∧ ((firstF L = none ∧ W = 0) ∨ ∃ f, firstF L = some f ∧ W = key f * slot ∧ 1 ≤ W ∧ node = f.node ∧ 1 ≤ key f ∧ key f ≤ 383) := by
  cases hf : firstF L with
  | none =>
    have hd := dead_new h (firstF_none hf)
    refine ⟨0, 0, fun k l' => Dead l', ?_, ?_, hd, .inl ⟨rfl, rfl⟩⟩
    · intro k l hk hd
      exact ⟨l, by rw [dead_tick slot lost hd, if_neg (by omega)], hd⟩
    · intro k l hd
      exact ⟨fun z => by omega, fun _ => dead_lead hd⟩
  | some f =>
    have hfr := fresh_new h hf
    refine ⟨_, f.node, Phase (key f * slot) f.node l, fun k l' hk hp => phase_tick hfr hk hp, ?_, phase_0 hfr, .inr ⟨f, rfl, rfl, hfr.pos, rfl, ?_⟩⟩
    · rintro k l' (⟨h1, rfl⟩ | ⟨h1, h2⟩)
      · exact ⟨fun z => by omega, fun _ => fresh_lead hfr k⟩
      · exact ⟨fun _ => led_lead h2, fun z => by have := hfr.pos; omega⟩
    · have hb := (newF_map h).2.1 f (firstF_some hf (newF_map h).2.1).1
      unfold Bad at hb
      unfold key; omega
section
variable {K : Value → Heap → Prop} {g cap : Nat} {a : Option Addr} {Bh : Heap} {slot lost : Int} {ms : List PM} {l l' : List M}
/-- A tick, with what is told in front. -/
theorem c12T {t : Option Int} {x0 : Nat × Blk} {H0 : Heap} (hn : Net a cap Bh ms l) (he : tickM slot lost l = (l', t)) (h : ∀ q c ms', 1 ≤ c → Net a cap Bh ms' l' → K (toldV q c t) (toldH q c t ++ (x0 :: (H0 ++ netH g a cap Bh slot lost ms')))) :
    SCalls Try.prog 12 [.pointer (some ⟨g, 0, none⟩)] (x0 :: (H0 ++ netH g a cap Bh slot lost ms)) K := by
  refine SCalls.keep (SCalls.last [x0] H0 (c12E hn he fun q c ms' hq hn' => ?_))
  exact Keep.glue [[x0], H0, toldH q c t, netH g a cap Bh slot lost ms'] [0, 1, 2, 3] [2, 0, 1, 3] [] (by decide) rfl (h q c ms' hq hn')
theorem c13L (hn : Net a cap Bh ms l) (h0 : leadL l = none → K (.slice none 0 0) (netH g a cap Bh slot lost ms)) (h1 : ∀ q m, leadL l = some m → K (.slice (some ⟨q, 0, none⟩) 1 1) (netH g a cap Bh slot lost ms)) :
    SCalls Try.prog 13 [.pointer (some ⟨g, 0, none⟩)] (netH g a cap Bh slot lost ms) K :=
  SCalls.keep (c13N hn (fun e => Keep.all (h0 e)) fun q m e => Keep.d1 (h1 q m e))
theorem c17 {H : Heap} (x : Mas) (s : Int) (hb : ¬ Bad x) (hs : 1 ≤ s ∧ s ≤ 3) (h : K (.int .u64 (key x * s)) H) : SCalls Try.prog 17 [.agg ⟨[.int .i64 x.node, .int .i64 x.prio, .bool x.on]⟩, .int .u64 s] H K := by
  unfold Bad at hb
  have hk : 1 ≤ key x ∧ key x ≤ 383 := by unfold key; omega
  have e : (128 * x.prio + x.node) * s % 18446744073709551616 = key x * s := by
    have u1 : key x * s ≤ 383 * 3 := Int.mul_le_mul hk.2 hs.2 (by omega) (by omega)
    have u2 : 1 * 1 ≤ key x * s := Int.mul_le_mul hk.1 hs.1 (by omega) (by omega)
    exact Int.emod_eq_of_lt (by unfold key at u2; omega) (by unfold key at u1; omega)
  refine SCalls.any (K := fun v N => v = .int .u64 (key x * s) ∧ N = []) (enter17 ?_) (by rintro v N ⟨rfl, rfl⟩; exact h)
  repeat' ((conv => whnf); (first
      | refine New.mk (fun _ => ?_)
      | refine Look.at0 ?_
      | refine Cell.row ?_
      | refine Cell.buf ?_
      | refine Cells.row rfl ?_
      | refine Put.row rfl ?_
      | refine Put.buf rfl ?_
      | refine Look.at1 ?_
      | refine Look.at2 ?_
      | refine Look.at3 ?_
      | refine Look.at4 ?_
      | refine Look.at5 ?_
      | refine Look.at6 ?_
      | refine Look.at7 ?_
      | refine Look.at8 ?_
      | with_reducible refine Val.i64 (by omega) (by omega) ?_
      | with_reducible refine Val.u8 (by omega) (by omega) ?_
      | with_reducible refine Val.u32 (by omega) (by omega) ?_
      | with_reducible refine Val.u64 (by omega) (by omega) ?_
      | with_reducible refine Val.u8m ?_
      | with_reducible refine Val.u32m ?_
      | with_reducible refine Val.u64m ?_
      | with_reducible refine Val.shr8 ?_
      | with_reducible refine Val.shr16 (by decide) ?_
      | with_reducible refine Val.shr24 (by decide) ?_
      | with_reducible refine Val.raw ?_
      | refine Branch.not ?_
      | refine Branch.and ?_
      | refine Branch.or ?_
      | refine Branch.dt (by assumption) ?_
      | refine Branch.df (by assumption) ?_
      | refine Branch.dt rfl ?_
      | refine Branch.dt (by omega) ?_
      | refine Branch.df (by omega) ?_
      | refine Branch.t rfl ?_
      | refine Branch.f rfl ?_
      | refine Branch.t (by assumption) ?_
      | refine Branch.f (by assumption) ?_
      | refine Branch.d (fun _ => ?_) (fun _ => ?_)
      | refine Branch.mk (fun _ => ?_) (fun _ => ?_)
      | refine Need.mk (by first | omega | decide | rfl) ?_
      | refine Idx.nat (by omega) ?_
      | refine Idx.auto (by first | omega | decide) (by first | omega | decide) ?_
      | refine Cell.ro rfl ?_
      | refine SDraw.all (by kernel_rfl) ?_
      | refine Kept.k0 ?_
      | refine Kept.k1 ?_
      | refine Kept.k2 ?_
      | refine Kept.k3 ?_
      | refine Kept.k4 ?_))
  all_goals (conv => whnf)
  all_goals exact Keep.sub [] (List.nil_sublist _) ⟨by rw [e], rfl⟩
end
theorem c16G {K : Value → Heap → Prop} {q c N : Nat} {L : List Mas} (hlen : L.length * 24 ≤ 140737488355328)
    (h : ∀ first any, ((any = false ∧ first = 0 ∧ firstF L = none) ∨ ∃ f, any = true ∧ first = f.node ∧ firstF L = some f) → K (.tuple ⟨[.int .i64 first, .bool any]⟩) []) :
    SCalls Try.prog 16 [.slice (some ⟨q, 0, none⟩) L.length c] [(q, .buf 30 (L.flatMap Mas.cells) N)] K :=
  c16 hlen (fun hf => h _ _ (.inl ⟨rfl, rfl, hf⟩)) (fun f hf => h _ _ (.inr ⟨f, rfl, rfl, hf⟩))
theorem c18B {K : Value → Heap → Prop} {H : Heap} {s lo b : Int} (hs : 0 ≤ s ∧ s ≤ 18446744073709551615) (hl : 0 ≤ lo ∧ lo ≤ 18446744073709551615) (hb : boundF s lo = b) (h : K (.int .u64 b) H) : SCalls Try.prog 18 [.int .u64 s, .int .u64 lo] H K := c18 s lo hs hl (by rw [hb]; exact h)
def waitS (first s : Int) (w : Int) (x : Mas) : Int := if x.node = first then key x * s else w
def waitF (first s : Int) (L : List Mas) : Int := L.foldl (waitS first s) 0
theorem waitF_none {s first : Int} {L : List Mas} (h : ∀ x ∈ L, x.node ≠ first) : waitF first s L = 0 := by
  unfold waitF
  generalize (0 : Int) = w
  induction L generalizing w with
  | nil => rfl
  | cons x L ih =>
    rw [List.foldl_cons, show waitS first s w x = w from if_neg (h x List.mem_cons_self)]
    exact ih (fun y hy => h y (List.mem_cons_of_mem _ hy)) w
theorem waitF_some {s : Int} {L : List Mas} {f : Mas} (hf : f ∈ L) (h : ∀ x ∈ L, x.node = f.node → key x = key f) : waitF f.node s L = key f * s := by
  have go : ∀ (L : List Mas) (w : Int), (∀ x ∈ L, x.node = f.node → key x = key f) → (w = key f * s ∨ f ∈ L) → L.foldl (waitS f.node s) w = key f * s := by
    intro L
    induction L with
    | nil => intro w _ h; rcases h with h | h; exact h; cases h
    | cons x L ih =>
      intro w hL h
      rw [List.foldl_cons]
      refine ih _ (fun y hy => hL y (List.mem_cons_of_mem _ hy)) ?_
      unfold waitS
      by_cases e : x.node = f.node
      · rw [if_pos e, hL x List.mem_cons_self e]; exact .inl rfl
      · rw [if_neg e]
        rcases h with h | h
        · exact .inl h
        · rcases List.mem_cons.1 h with rfl | h
          · exact absurd rfl e
          · exact .inr h
  exact go L 0 h (.inr hf)
theorem waitF_succ {first s : Int} {L : List Mas} {j : Nat} {x : Mas} (hx : L[j]? = some x) : waitF first s (L.take (j + 1)) = waitS first s (waitF first s (L.take j)) x := by
  obtain ⟨hlt, rfl⟩ := List.getElem?_eq_some_iff.1 hx
  unfold waitF
  rw [List.take_succ_eq_append_getElem hlt, List.foldl_append]; rfl
inductive S5a (A1 A3 A5 A6 A7 A8 : Value) : List Value → Prop
  | mk {r0 r2 r4 r9 r10 r11 r12 r13 r14 r15 r16 r17 r18 r19 r20 r21 r22 r23 r24 r25 r26 r27 r28 r29 r30 r31 r32 r33 r34 r35 r36 r37 r38 r39 r40 r41 r42 r43 r44 r45 r46 r47 r48 r49 r50 r51 r52 r53 r54 r55 r56 r57 r58 r59 r60 r61 r62 r63 r64 r65 r66 r67 r68 r69 r70 r71 r72 r73 r74 r75 r76 r77 r78 r79 r80 r81 r82 r83 r84 r85 r86 r87 r88 r89 r90 r91 r92 r93 r94 r95 r96 r97 r98 r99 r100 r101 r102 r103 r104 r105 r106 : Value} : S5a A1 A3 A5 A6 A7 A8 [r0, A1, r2, A3, r4, A5, A6, A7, A8, r9, r10, r11, r12, r13, r14, r15, r16, r17, r18, r19, r20, r21, r22, r23, r24, r25, r26, r27, r28, r29, r30, r31, r32, r33, r34, r35, r36, r37, r38, r39, r40, r41, r42, r43, r44, r45, r46, r47, r48, r49, r50, r51, r52, r53, r54, r55, r56, r57, r58, r59, r60, r61, r62, r63, r64, r65, r66, r67, r68, r69, r70, r71, r72, r73, r74, r75, r76, r77, r78, r79, r80, r81, r82, r83, r84, r85, r86, r87, r88, r89, r90, r91, r92, r93, r94, r95, r96, r97, r98, r99, r100, r101, r102, r103, r104, r105, r106]
inductive S5b (A1 A3 A5 A6 A7 A9 : Value) : List Value → Prop
  | mk {r0 r2 r4 r8 r10 r11 r12 r13 r14 r15 r16 r17 r18 r19 r20 r21 r22 r23 r24 r25 r26 r27 r28 r29 r30 r31 r32 r33 r34 r35 r36 r37 r38 r39 r40 r41 r42 r43 r44 r45 r46 r47 r48 r49 r50 r51 r52 r53 r54 r55 r56 r57 r58 r59 r60 r61 r62 r63 r64 r65 r66 r67 r68 r69 r70 r71 r72 r73 r74 r75 r76 r77 r78 r79 r80 r81 r82 r83 r84 r85 r86 r87 r88 r89 r90 r91 r92 r93 r94 r95 r96 r97 r98 r99 r100 r101 r102 r103 r104 r105 r106 : Value} : S5b A1 A3 A5 A6 A7 A9 [r0, A1, r2, A3, r4, A5, A6, A7, r8, A9, r10, r11, r12, r13, r14, r15, r16, r17, r18, r19, r20, r21, r22, r23, r24, r25, r26, r27, r28, r29, r30, r31, r32, r33, r34, r35, r36, r37, r38, r39, r40, r41, r42, r43, r44, r45, r46, r47, r48, r49, r50, r51, r52, r53, r54, r55, r56, r57, r58, r59, r60, r61, r62, r63, r64, r65, r66, r67, r68, r69, r70, r71, r72, r73, r74, r75, r76, r77, r78, r79, r80, r81, r82, r83, r84, r85, r86, r87, r88, r89, r90, r91, r92, r93, r94, r95, r96, r97, r98, r99, r100, r101, r102, r103, r104, r105, r106]
def I5a (p2 g : Nat) (H1 : Heap) (first : Int) (any : Bool) (s : Int) (L : List Mas) (l : List Value) (H : Heap) : Prop :=
  ∃ j : Nat, j ≤ L.length ∧ S5a (.pointer (some ⟨p2, 0, none⟩)) (.pointer (some ⟨g, 0, none⟩)) (.int .i64 first) (.bool any) (.int .u64 (waitF first s (L.take j))) (.int .i64 (j : Int)) l ∧ H = H1
noncomputable def M5a (n : Nat) (l : List Value) (_ : Heap) : Nat := n - (match getL l 8 with | .int _ i => i.toNat | _ => 0)
def I5b (p2 g : Nat) (F : Blk) (H0 : Heap) (a : Option Addr) (cap : Nat) (Bh : Heap) (s lo first W : Int) (any : Bool) (P : Int → List M → Prop) (l : List Value) (H : Heap) : Prop :=
  ∃ (k : Nat) (la : List M) (ma : List PM), (k : Int) ≤ 384 * s + lo + 2 ∧ P (k : Int) la ∧ Net a cap Bh ma la ∧
    S5b (.pointer (some ⟨p2, 0, none⟩)) (.pointer (some ⟨g, 0, none⟩)) (.int .i64 first) (.bool any) (.int .u64 W) (.int .u64 ((k : Int) + 1)) l ∧ H = (p2, F) :: (H0 ++ netH g a cap Bh s lo ma)
noncomputable def M5b (l : List Value) (_ : Heap) : Nat := 2000 - (match getL l 9 with | .int _ i => i.toNat | _ => 0)
theorem first_sc {sv : Value} {H0 : Heap} {L : List Mas} (hin : InL sv H0 L) (s0 lo0 : Int) (hs0 : 0 ≤ s0 ∧ s0 ≤ 18446744073709551615) (hl0 : 0 ≤ lo0 ∧ lo0 ≤ 18446744073709551615) :
    SCalls Try.prog 5 [.agg ⟨[sv, .int .u64 s0, .int .u64 lo0]⟩] H0 fun v _ => v = .bool true := by
  have hin' := hin
  obtain ⟨sa, sc, rfl, hlen, hcells⟩ := hin'
  obtain ⟨s, es⟩ : ∃ s, s = 1 + s0 % 3 := ⟨_, rfl⟩
  obtain ⟨lo, el⟩ : ∃ lo, lo = 1 + lo0 % 9 := ⟨_, rfl⟩
  have hs : 1 ≤ s ∧ s ≤ 3 := by omega
  have hl : 1 ≤ lo ∧ lo ≤ 9 := by omega
  have hbf : boundF s lo = 384 * s + lo + 2 := by unfold boundF; rw [if_neg (by omega)]
  refine enter5 ?_
  repeat' ((conv => whnf); (first
      | refine c8s es el hs0.1 hl0.1 ⟨_, _, _, rfl⟩ ?_
      | refine SDraw.held (by kernel_rfl) [_] (.same (.head _) .nil) ?_
      | refine Kept.sub (List.Sublist.cons_cons _ (List.nil_sublist _)) ?_
      | refine SCalls.under [_] (c9 hin (fun q c hq hc => ?_))
      | refine c9F hin (fun q c hq hc => ?_)
      | refine c10S (slot := s) (by omega) (fun e he => ?_) (fun ms g a cap Bh l he hn => ?_)
      | refine live_c ?_
      | refine Branch.not (Branch.df (newF_err he) ?_)
      | refine SCalls.atList [_] (c16G hlen (fun first any hfa => ?_))
      | refine New.mk (fun _ => ?_)
      | refine Look.at0 ?_
      | refine Cell.row ?_
      | refine Cell.buf ?_
      | refine Cells.row rfl ?_
      | refine Put.row rfl ?_
      | refine Put.buf rfl ?_
      | refine Look.at1 ?_
      | refine Look.at2 ?_
      | refine Look.at3 ?_
      | refine Look.at4 ?_
      | refine Look.at5 ?_
      | refine Look.at6 ?_
      | refine Look.at7 ?_
      | refine Look.at8 ?_
      | with_reducible refine Val.i64 (by omega) (by omega) ?_
      | with_reducible refine Val.u8 (by omega) (by omega) ?_
      | with_reducible refine Val.u32 (by omega) (by omega) ?_
      | with_reducible refine Val.u64 (by omega) (by omega) ?_
      | with_reducible refine Val.u8m ?_
      | with_reducible refine Val.u32m ?_
      | with_reducible refine Val.u64m ?_
      | with_reducible refine Val.shr8 ?_
      | with_reducible refine Val.shr16 (by decide) ?_
      | with_reducible refine Val.shr24 (by decide) ?_
      | with_reducible refine Val.raw ?_
      | refine Branch.not ?_
      | refine Branch.and ?_
      | refine Branch.or ?_
      | refine Branch.dt (by assumption) ?_
      | refine Branch.df (by assumption) ?_
      | refine Branch.dt rfl ?_
      | refine Branch.dt (by omega) ?_
      | refine Branch.df (by omega) ?_
      | refine Branch.t rfl ?_
      | refine Branch.f rfl ?_
      | refine Branch.t (by assumption) ?_
      | refine Branch.f (by assumption) ?_
      | refine Branch.d (fun _ => ?_) (fun _ => ?_)
      | refine Branch.mk (fun _ => ?_) (fun _ => ?_)
      | refine Need.mk (by first | omega | decide | rfl) ?_
      | refine Idx.nat (by omega) ?_
      | refine Idx.auto (by first | omega | decide) (by first | omega | decide) ?_
      | refine Cell.ro rfl ?_
      | refine SDraw.all (by kernel_rfl) ?_
      | refine Kept.k0 ?_
      | refine Kept.k1 ?_
      | refine Kept.k2 ?_
      | refine Kept.k3 ?_
      | refine Kept.k4 ?_))
  all_goals (conv => whnf)
  · exact Keep.all rfl
  rename_i p2 _ _ _ _
  obtain ⟨W, node, P, hm, hld, hp, hca⟩ := mach_of2 he
  have hbad := (newF_map he).2.1
  have hnd : (L.map Mas.node).Nodup := by
    have h1 := (newF_ok he).nd
    rw [(newF_map he).1, List.map_map] at h1
    have e : M.node ∘ mkM s = Mas.node := funext fun x => by simp only [Function.comp_apply]; unfold mkM; split <;> rfl
    rwa [e] at h1
  have hfacts : (any = false ∧ W = 0 ∧ first = 0 ∧ waitF first s L = 0) ∨ (any = true ∧ waitF first s L = W ∧ 1 ≤ W ∧ W ≤ 383 * s ∧ node = first ∧ 1 ≤ first) := by
    rcases hca with ⟨h1, h2⟩ | ⟨f, h1, h2, h3, h4, h5, h6⟩
    · rcases hfa with ⟨g1, g2, g3⟩ | ⟨f, g1, g2, g3⟩
      · refine .inl ⟨g1, h2, g2, waitF_none fun x hx => ?_⟩
        have := hbad x hx
        unfold Bad at this; omega
      · rw [h1] at g3; cases g3
    · rcases hfa with ⟨g1, g2, g3⟩ | ⟨f', g1, g2, g3⟩
      · rw [h1] at g3; cases g3
      · rw [h1] at g3
        injection g3 with g3
        subst g3
        obtain ⟨k1, k2, k3⟩ := firstF_some h1 hbad
        have := hbad f k1
        unfold Bad at this
        have hw : key f * s ≤ 383 * s := Int.mul_le_mul_of_nonneg_right h6 (by omega)
        refine .inr ⟨g1, ?_, h3, by omega, by rw [h4, g2], by omega⟩
        rw [g2, h2]
        refine waitF_some k1 fun x hx hn => ?_
        obtain ⟨i, hi, rfl⟩ := List.getElem_of_mem hx
        obtain ⟨j, hj, rfl⟩ := List.getElem_of_mem k1
        have : i = j := (List.getElem?_inj (l := L.map Mas.node) (by simpa using hi) hnd).1 (by simp [hi, hj, hn])
        subst this; rfl
  clear hca hfa hnd he
  refine SLoop.inv (I5a p2 g _ first any s L) (M5a L.length) (Keep.all ⟨0, by omega, .mk, rfl⟩) ?_
  rintro S H ⟨j, hj, hS, rfl⟩ R hR
  cases hS
  by_cases hlt : j < L.length
  · obtain ⟨x, hx⟩ : ∃ x, L[j]? = some x := ⟨_, List.getElem?_eq_getElem hlt⟩
    obtain ⟨b, o, f, rfl, rfl, hc⟩ := hcells (by omega)
    have hcx := hc j x hx
    have hb := hbad x (List.mem_of_getElem? hx)
    have hsu := waitF_succ (first := first) (s := s) hx
    have h0 : f (o + j * 3 + 0) = some (.int .i64 x.node) := hcx 0 _ rfl
    unfold waitS at hsu
    repeat' ((conv => whnf); (first
        | refine Look.skip (Look.at0 ?_)
        | refine Cell.ro h0 ?_
        | refine Cells.get [.int .i64 x.node, .int .i64 x.prio, .bool x.on] rfl hcx ?_
        | refine c17 x s hb hs ?_
        | refine Kept.sub (List.Sublist.refl _) ?_
        | refine New.mk (fun _ => ?_)
        | refine Look.at0 ?_
        | refine Cell.row ?_
        | refine Cell.buf ?_
        | refine Cells.row rfl ?_
        | refine Put.row rfl ?_
        | refine Put.buf rfl ?_
        | refine Look.at1 ?_
        | refine Look.at2 ?_
        | refine Look.at3 ?_
        | refine Look.at4 ?_
        | refine Look.at5 ?_
        | refine Look.at6 ?_
        | refine Look.at7 ?_
        | refine Look.at8 ?_
        | with_reducible refine Val.i64 (by omega) (by omega) ?_
        | with_reducible refine Val.u8 (by omega) (by omega) ?_
        | with_reducible refine Val.u32 (by omega) (by omega) ?_
        | with_reducible refine Val.u64 (by omega) (by omega) ?_
        | with_reducible refine Val.u8m ?_
        | with_reducible refine Val.u32m ?_
        | with_reducible refine Val.u64m ?_
        | with_reducible refine Val.shr8 ?_
        | with_reducible refine Val.shr16 (by decide) ?_
        | with_reducible refine Val.shr24 (by decide) ?_
        | with_reducible refine Val.raw ?_
        | refine Branch.not ?_
        | refine Branch.and ?_
        | refine Branch.or ?_
        | refine Branch.dt (by assumption) ?_
        | refine Branch.df (by assumption) ?_
        | refine Branch.dt rfl ?_
        | refine Branch.dt (by omega) ?_
        | refine Branch.df (by omega) ?_
        | refine Branch.t rfl ?_
        | refine Branch.f rfl ?_
        | refine Branch.t (by assumption) ?_
        | refine Branch.f (by assumption) ?_
        | refine Branch.d (fun _ => ?_) (fun _ => ?_)
        | refine Branch.mk (fun _ => ?_) (fun _ => ?_)
        | refine Need.mk (by first | omega | decide | rfl) ?_
        | refine Idx.nat (by omega) ?_
        | refine Idx.auto (by first | omega | decide) (by first | omega | decide) ?_
        | refine Cell.ro rfl ?_
        | refine SDraw.all (by kernel_rfl) ?_
        | refine Kept.k0 ?_
        | refine Kept.k1 ?_
        | refine Kept.k2 ?_
        | refine Kept.k3 ?_
        | refine Kept.k4 ?_))
    all_goals (conv => whnf)
    · rw [if_pos ‹_›] at hsu
      refine hR _ _ (Keep.all ⟨⟨j + 1, by omega, by rw [hsu]; exact .mk, rfl⟩, ?_⟩)
      show L.length - Int.toNat ((j : Int) + 1) < L.length - Int.toNat (j : Int); omega
    · rw [if_neg ‹_›] at hsu
      refine hR _ _ (Keep.all ⟨⟨j + 1, by omega, by rw [hsu]; exact .mk, rfl⟩, ?_⟩)
      show L.length - Int.toNat ((j : Int) + 1) < L.length - Int.toNat (j : Int); omega
  · rw [List.take_of_length_le (by omega)]
    clear hR
    have hj' : j = L.length := by omega
    have hsl : (Value.slice sa L.length sc) = .slice sa L.length sc := rfl
    clear hcells hin
    rcases hfacts with ⟨rfl, hW, hf0, hw⟩ | ⟨rfl, hw, hW1, hW2, hno, hf1⟩
    · rw [hw]
      repeat' ((conv => whnf); (first
          | refine New.mk (fun _ => ?_)
          | refine Look.at0 ?_
          | refine Cell.row ?_
          | refine Cell.buf ?_
          | refine Cells.row rfl ?_
          | refine Put.row rfl ?_
          | refine Put.buf rfl ?_
          | refine Look.at1 ?_
          | refine Look.at2 ?_
          | refine Look.at3 ?_
          | refine Look.at4 ?_
          | refine Look.at5 ?_
          | refine Look.at6 ?_
          | refine Look.at7 ?_
          | refine Look.at8 ?_
          | with_reducible refine Val.i64 (by omega) (by omega) ?_
          | with_reducible refine Val.u8 (by omega) (by omega) ?_
          | with_reducible refine Val.u32 (by omega) (by omega) ?_
          | with_reducible refine Val.u64 (by omega) (by omega) ?_
          | with_reducible refine Val.u8m ?_
          | with_reducible refine Val.u32m ?_
          | with_reducible refine Val.u64m ?_
          | with_reducible refine Val.shr8 ?_
          | with_reducible refine Val.shr16 (by decide) ?_
          | with_reducible refine Val.shr24 (by decide) ?_
          | with_reducible refine Val.raw ?_
          | refine Branch.not ?_
          | refine Branch.and ?_
          | refine Branch.or ?_
          | refine Branch.dt (by assumption) ?_
          | refine Branch.df (by assumption) ?_
          | refine Branch.dt rfl ?_
          | refine Branch.dt (by omega) ?_
          | refine Branch.df (by omega) ?_
          | refine Branch.t rfl ?_
          | refine Branch.f rfl ?_
          | refine Branch.t (by assumption) ?_
          | refine Branch.f (by assumption) ?_
          | refine Branch.d (fun _ => ?_) (fun _ => ?_)
          | refine Branch.mk (fun _ => ?_) (fun _ => ?_)
          | refine Need.mk (by first | omega | decide | rfl) ?_
          | refine Idx.nat (by omega) ?_
          | refine Idx.auto (by first | omega | decide) (by first | omega | decide) ?_
          | refine Cell.ro rfl ?_
          | refine SDraw.all (by kernel_rfl) ?_
          | refine Kept.k0 ?_
          | refine Kept.k1 ?_
          | refine Kept.k2 ?_
          | refine Kept.k3 ?_
          | refine Kept.k4 ?_))
      conv => whnf
      refine SLoop.inv (I5b p2 g _ H0 a cap Bh s lo first 0 false P) M5b (Keep.all ⟨0, l, ms, by omega, hp, hn, by exact .mk, rfl⟩) ?_
      clear hp hn l ms
      rintro S H ⟨k, la, ma, hk, hpa, hna, hS, rfl⟩ R hR
      cases hS
      by_cases hlt2 : (k : Int) + 1 ≤ 384 * s + lo + 2
      · obtain ⟨la', hta, hpa'⟩ := hm k la (by omega) hpa
        rw [if_neg (by omega)] at hta
        repeat' ((conv => whnf); (first
            | refine c18B (by omega) (by omega) hbf ?_
            | refine c12T hna hta (fun _ _ ma' _ hna' => ?_)
            | refine New.mk (fun _ => ?_)
            | refine Look.at0 ?_
            | refine Cell.row ?_
            | refine Cell.buf ?_
            | refine Cells.row rfl ?_
            | refine Put.row rfl ?_
            | refine Put.buf rfl ?_
            | refine Look.at1 ?_
            | refine Look.at2 ?_
            | refine Look.at3 ?_
            | refine Look.at4 ?_
            | refine Look.at5 ?_
            | refine Look.at6 ?_
            | refine Look.at7 ?_
            | refine Look.at8 ?_
            | with_reducible refine Val.i64 (by omega) (by omega) ?_
            | with_reducible refine Val.u8 (by omega) (by omega) ?_
            | with_reducible refine Val.u32 (by omega) (by omega) ?_
            | with_reducible refine Val.u64 (by omega) (by omega) ?_
            | with_reducible refine Val.u8m ?_
            | with_reducible refine Val.u32m ?_
            | with_reducible refine Val.u64m ?_
            | with_reducible refine Val.shr8 ?_
            | with_reducible refine Val.shr16 (by decide) ?_
            | with_reducible refine Val.shr24 (by decide) ?_
            | with_reducible refine Val.raw ?_
            | refine Branch.not ?_
            | refine Branch.and ?_
            | refine Branch.or ?_
            | refine Branch.dt (by assumption) ?_
            | refine Branch.df (by assumption) ?_
            | refine Branch.dt rfl ?_
            | refine Branch.dt (by omega) ?_
            | refine Branch.df (by omega) ?_
            | refine Branch.t rfl ?_
            | refine Branch.f rfl ?_
            | refine Branch.t (by assumption) ?_
            | refine Branch.f (by assumption) ?_
            | refine Branch.d (fun _ => ?_) (fun _ => ?_)
            | refine Branch.mk (fun _ => ?_) (fun _ => ?_)
            | refine Need.mk (by first | omega | decide | rfl) ?_
            | refine Idx.nat (by omega) ?_
            | refine Idx.auto (by first | omega | decide) (by first | omega | decide) ?_
            | refine Cell.ro rfl ?_
            | refine SDraw.all (by kernel_rfl) ?_
            | refine Kept.k0 ?_
            | refine Kept.k1 ?_
            | refine Kept.k2 ?_
            | refine Kept.k3 ?_
            | refine Kept.k4 ?_))
        all_goals (conv => whnf)
        all_goals first
          | (refine hR _ _ (Keep.all ⟨⟨k + 1, la', ma', by omega, hpa', hna', .mk, rfl⟩, ?_⟩)
             show 2000 - Int.toNat ((k : Int) + 1 + 1) < 2000 - Int.toNat ((k : Int) + 1); omega)
          | trace_state
      · have hl0 := (hld k la hpa).2 (by omega)
        repeat' ((conv => whnf); (first
            | refine c18B (by omega) (by omega) hbf ?_
            | refine SCalls.last [_] H0 (c13L hna (fun _ => ?_) (fun q m e => by rw [hl0] at e; cases e))
            | refine live_c ?_
            | refine New.mk (fun _ => ?_)
            | refine Look.at0 ?_
            | refine Cell.row ?_
            | refine Cell.buf ?_
            | refine Cells.row rfl ?_
            | refine Put.row rfl ?_
            | refine Put.buf rfl ?_
            | refine Look.at1 ?_
            | refine Look.at2 ?_
            | refine Look.at3 ?_
            | refine Look.at4 ?_
            | refine Look.at5 ?_
            | refine Look.at6 ?_
            | refine Look.at7 ?_
            | refine Look.at8 ?_
            | with_reducible refine Val.i64 (by omega) (by omega) ?_
            | with_reducible refine Val.u8 (by omega) (by omega) ?_
            | with_reducible refine Val.u32 (by omega) (by omega) ?_
            | with_reducible refine Val.u64 (by omega) (by omega) ?_
            | with_reducible refine Val.u8m ?_
            | with_reducible refine Val.u32m ?_
            | with_reducible refine Val.u64m ?_
            | with_reducible refine Val.shr8 ?_
            | with_reducible refine Val.shr16 (by decide) ?_
            | with_reducible refine Val.shr24 (by decide) ?_
            | with_reducible refine Val.raw ?_
            | refine Branch.not ?_
            | refine Branch.and ?_
            | refine Branch.or ?_
            | refine Branch.dt (by assumption) ?_
            | refine Branch.df (by assumption) ?_
            | refine Branch.dt rfl ?_
            | refine Branch.dt (by omega) ?_
            | refine Branch.df (by omega) ?_
            | refine Branch.t rfl ?_
            | refine Branch.f rfl ?_
            | refine Branch.t (by assumption) ?_
            | refine Branch.f (by assumption) ?_
            | refine Branch.d (fun _ => ?_) (fun _ => ?_)
            | refine Branch.mk (fun _ => ?_) (fun _ => ?_)
            | refine Need.mk (by first | omega | decide | rfl) ?_
            | refine Idx.nat (by omega) ?_
            | refine Idx.auto (by first | omega | decide) (by first | omega | decide) ?_
            | refine Cell.ro rfl ?_
            | refine SDraw.all (by kernel_rfl) ?_
            | refine Kept.k0 ?_
            | refine Kept.k1 ?_
            | refine Kept.k2 ?_
            | refine Kept.k3 ?_
            | refine Kept.k4 ?_))
        all_goals (conv => whnf)
        all_goals first | exact Keep.all rfl | trace_state
    · rw [hw]
      repeat' ((conv => whnf); (first
          | refine New.mk (fun _ => ?_)
          | refine Look.at0 ?_
          | refine Cell.row ?_
          | refine Cell.buf ?_
          | refine Cells.row rfl ?_
          | refine Put.row rfl ?_
          | refine Put.buf rfl ?_
          | refine Look.at1 ?_
          | refine Look.at2 ?_
          | refine Look.at3 ?_
          | refine Look.at4 ?_
          | refine Look.at5 ?_
          | refine Look.at6 ?_
          | refine Look.at7 ?_
          | refine Look.at8 ?_
          | with_reducible refine Val.i64 (by omega) (by omega) ?_
          | with_reducible refine Val.u8 (by omega) (by omega) ?_
          | with_reducible refine Val.u32 (by omega) (by omega) ?_
          | with_reducible refine Val.u64 (by omega) (by omega) ?_
          | with_reducible refine Val.u8m ?_
          | with_reducible refine Val.u32m ?_
          | with_reducible refine Val.u64m ?_
          | with_reducible refine Val.shr8 ?_
          | with_reducible refine Val.shr16 (by decide) ?_
          | with_reducible refine Val.shr24 (by decide) ?_
          | with_reducible refine Val.raw ?_
          | refine Branch.not ?_
          | refine Branch.and ?_
          | refine Branch.or ?_
          | refine Branch.dt (by assumption) ?_
          | refine Branch.df (by assumption) ?_
          | refine Branch.dt rfl ?_
          | refine Branch.dt (by omega) ?_
          | refine Branch.df (by omega) ?_
          | refine Branch.t rfl ?_
          | refine Branch.f rfl ?_
          | refine Branch.t (by assumption) ?_
          | refine Branch.f (by assumption) ?_
          | refine Branch.d (fun _ => ?_) (fun _ => ?_)
          | refine Branch.mk (fun _ => ?_) (fun _ => ?_)
          | refine Need.mk (by first | omega | decide | rfl) ?_
          | refine Idx.nat (by omega) ?_
          | refine Idx.auto (by first | omega | decide) (by first | omega | decide) ?_
          | refine Cell.ro rfl ?_
          | refine SDraw.all (by kernel_rfl) ?_
          | refine Kept.k0 ?_
          | refine Kept.k1 ?_
          | refine Kept.k2 ?_
          | refine Kept.k3 ?_
          | refine Kept.k4 ?_))
      conv => whnf
      refine SLoop.inv (I5b p2 g _ H0 a cap Bh s lo first W true P) M5b (Keep.all ⟨0, l, ms, by omega, hp, hn, by exact .mk, rfl⟩) ?_
      clear hp hn l ms
      rintro S H ⟨k, la, ma, hk, hpa, hna, hS, rfl⟩ R hR
      cases hS
      by_cases hlt2 : (k : Int) + 1 ≤ 384 * s + lo + 2
      · obtain ⟨la', hta, hpa'⟩ := hm k la (by omega) hpa
        by_cases hkW : (k : Int) + 1 = W
        · rw [if_pos hkW] at hta
          repeat' ((conv => whnf); (first
              | refine c18B (by omega) (by omega) hbf ?_
              | refine c12T hna hta (fun _ _ ma' _ hna' => ?_)
              | refine Branch.dt hno ?_
              | refine enter19 ?_
              | refine Keep.all ?_
              | refine New.mk (fun _ => ?_)
              | refine Look.at0 ?_
              | refine Cell.row ?_
              | refine Cell.buf ?_
              | refine Cells.row rfl ?_
              | refine Put.row rfl ?_
              | refine Put.buf rfl ?_
              | refine Look.at1 ?_
              | refine Look.at2 ?_
              | refine Look.at3 ?_
              | refine Look.at4 ?_
              | refine Look.at5 ?_
              | refine Look.at6 ?_
              | refine Look.at7 ?_
              | refine Look.at8 ?_
              | with_reducible refine Val.i64 (by omega) (by omega) ?_
              | with_reducible refine Val.u8 (by omega) (by omega) ?_
              | with_reducible refine Val.u32 (by omega) (by omega) ?_
              | with_reducible refine Val.u64 (by omega) (by omega) ?_
              | with_reducible refine Val.u8m ?_
              | with_reducible refine Val.u32m ?_
              | with_reducible refine Val.u64m ?_
              | with_reducible refine Val.shr8 ?_
              | with_reducible refine Val.shr16 (by decide) ?_
              | with_reducible refine Val.shr24 (by decide) ?_
              | with_reducible refine Val.raw ?_
              | refine Branch.not ?_
              | refine Branch.and ?_
              | refine Branch.or ?_
              | refine Branch.dt (by assumption) ?_
              | refine Branch.df (by assumption) ?_
              | refine Branch.dt rfl ?_
              | refine Branch.dt (by omega) ?_
              | refine Branch.df (by omega) ?_
              | refine Branch.t rfl ?_
              | refine Branch.f rfl ?_
              | refine Branch.t (by assumption) ?_
              | refine Branch.f (by assumption) ?_
              | refine Branch.d (fun _ => ?_) (fun _ => ?_)
              | refine Branch.mk (fun _ => ?_) (fun _ => ?_)
              | refine Need.mk (by first | omega | decide | rfl) ?_
              | refine Idx.nat (by omega) ?_
              | refine Idx.auto (by first | omega | decide) (by first | omega | decide) ?_
              | refine Cell.ro rfl ?_
              | refine SDraw.all (by kernel_rfl) ?_
              | refine Kept.k0 ?_
              | refine Kept.k1 ?_
              | refine Kept.k2 ?_
              | refine Kept.k3 ?_
              | refine Kept.k4 ?_))
          all_goals (conv => whnf)
          all_goals first
            | (refine hR _ _ (Keep.d1 ⟨⟨k + 1, la', ma', by omega, hpa', hna', .mk, rfl⟩, ?_⟩)
               show 2000 - Int.toNat ((k : Int) + 1 + 1) < 2000 - Int.toNat ((k : Int) + 1); omega)
            | trace_state
        · rw [if_neg hkW] at hta
          repeat' ((conv => whnf); (first
              | refine c18B (by omega) (by omega) hbf ?_
              | refine c12T hna hta (fun _ _ ma' _ hna' => ?_)
              | refine New.mk (fun _ => ?_)
              | refine Look.at0 ?_
              | refine Cell.row ?_
              | refine Cell.buf ?_
              | refine Cells.row rfl ?_
              | refine Put.row rfl ?_
              | refine Put.buf rfl ?_
              | refine Look.at1 ?_
              | refine Look.at2 ?_
              | refine Look.at3 ?_
              | refine Look.at4 ?_
              | refine Look.at5 ?_
              | refine Look.at6 ?_
              | refine Look.at7 ?_
              | refine Look.at8 ?_
              | with_reducible refine Val.i64 (by omega) (by omega) ?_
              | with_reducible refine Val.u8 (by omega) (by omega) ?_
              | with_reducible refine Val.u32 (by omega) (by omega) ?_
              | with_reducible refine Val.u64 (by omega) (by omega) ?_
              | with_reducible refine Val.u8m ?_
              | with_reducible refine Val.u32m ?_
              | with_reducible refine Val.u64m ?_
              | with_reducible refine Val.shr8 ?_
              | with_reducible refine Val.shr16 (by decide) ?_
              | with_reducible refine Val.shr24 (by decide) ?_
              | with_reducible refine Val.raw ?_
              | refine Branch.not ?_
              | refine Branch.and ?_
              | refine Branch.or ?_
              | refine Branch.dt (by assumption) ?_
              | refine Branch.df (by assumption) ?_
              | refine Branch.dt rfl ?_
              | refine Branch.dt (by omega) ?_
              | refine Branch.df (by omega) ?_
              | refine Branch.t rfl ?_
              | refine Branch.f rfl ?_
              | refine Branch.t (by assumption) ?_
              | refine Branch.f (by assumption) ?_
              | refine Branch.d (fun _ => ?_) (fun _ => ?_)
              | refine Branch.mk (fun _ => ?_) (fun _ => ?_)
              | refine Need.mk (by first | omega | decide | rfl) ?_
              | refine Idx.nat (by omega) ?_
              | refine Idx.auto (by first | omega | decide) (by first | omega | decide) ?_
              | refine Cell.ro rfl ?_
              | refine SDraw.all (by kernel_rfl) ?_
              | refine Kept.k0 ?_
              | refine Kept.k1 ?_
              | refine Kept.k2 ?_
              | refine Kept.k3 ?_
              | refine Kept.k4 ?_))
          all_goals (conv => whnf)
          all_goals first
            | (refine hR _ _ (Keep.all ⟨⟨k + 1, la', ma', by omega, hpa', hna', .mk, rfl⟩, ?_⟩)
               show 2000 - Int.toNat ((k : Int) + 1 + 1) < 2000 - Int.toNat ((k : Int) + 1); omega)
            | trace_state
      · obtain ⟨tm, hl1, _⟩ := (hld k la hpa).1 (by omega)
        repeat' ((conv => whnf); (first
            | refine c18B (by omega) (by omega) hbf ?_
            | refine SCalls.last [_] H0 (c13L hna (fun e => by rw [hl1] at e; cases e) (fun q m e => ?_))
            | refine live_c ?_
            | refine New.mk (fun _ => ?_)
            | refine Look.at0 ?_
            | refine Cell.row ?_
            | refine Cell.buf ?_
            | refine Cells.row rfl ?_
            | refine Put.row rfl ?_
            | refine Put.buf rfl ?_
            | refine Look.at1 ?_
            | refine Look.at2 ?_
            | refine Look.at3 ?_
            | refine Look.at4 ?_
            | refine Look.at5 ?_
            | refine Look.at6 ?_
            | refine Look.at7 ?_
            | refine Look.at8 ?_
            | with_reducible refine Val.i64 (by omega) (by omega) ?_
            | with_reducible refine Val.u8 (by omega) (by omega) ?_
            | with_reducible refine Val.u32 (by omega) (by omega) ?_
            | with_reducible refine Val.u64 (by omega) (by omega) ?_
            | with_reducible refine Val.u8m ?_
            | with_reducible refine Val.u32m ?_
            | with_reducible refine Val.u64m ?_
            | with_reducible refine Val.shr8 ?_
            | with_reducible refine Val.shr16 (by decide) ?_
            | with_reducible refine Val.shr24 (by decide) ?_
            | with_reducible refine Val.raw ?_
            | refine Branch.not ?_
            | refine Branch.and ?_
            | refine Branch.or ?_
            | refine Branch.dt (by assumption) ?_
            | refine Branch.df (by assumption) ?_
            | refine Branch.dt rfl ?_
            | refine Branch.dt (by omega) ?_
            | refine Branch.df (by omega) ?_
            | refine Branch.t rfl ?_
            | refine Branch.f rfl ?_
            | refine Branch.t (by assumption) ?_
            | refine Branch.f (by assumption) ?_
            | refine Branch.d (fun _ => ?_) (fun _ => ?_)
            | refine Branch.mk (fun _ => ?_) (fun _ => ?_)
            | refine Need.mk (by first | omega | decide | rfl) ?_
            | refine Idx.nat (by omega) ?_
            | refine Idx.auto (by first | omega | decide) (by first | omega | decide) ?_
            | refine Cell.ro rfl ?_
            | refine SDraw.all (by kernel_rfl) ?_
            | refine Kept.k0 ?_
            | refine Kept.k1 ?_
            | refine Kept.k2 ?_
            | refine Kept.k3 ?_
            | refine Kept.k4 ?_))
        all_goals (conv => whnf)
        all_goals first | exact Keep.all rfl | trace_state
theorem FlyingFirstW (a0x0a : Option Addr) (a0x0l : Nat) (a0x0c : Nat) (a0x1 : Int) (a0x2 : Int) (w : World) (h0_0 : SliceAt 3 B30 R30 w a0x0a a0x0l a0x0c) (h0_1 : (Lit.int .u64 a0x1).wf = true) (h0_2 : (Lit.int .u64 a0x2).wf = true) :
    Calls Try.prog 5 #[.agg #[.slice a0x0a a0x0l a0x0c, .int .u64 a0x1, .int .u64 a0x2]] w fun e w' => e = .returned (.bool true) ∧ Go.RowKit.Below w.heap.size w w' := by
  obtain ⟨H, L, rfl, hin, hw, hx⟩ := inL_of h0_0
  exact (first_sc hin a0x1 a0x2 (wf_u64 h0_1) (wf_u64 h0_2)).fin w hw hx
end Go.Proofs.Ytmakaofdpoiaaaa
