/- Layer 24: masters wait, lead and follow as the document says: the loops. -/
import Derived.Test.YtmakaofdpoiaaaaFlZb
set_option linter.unusedVariables false
set_option linter.unusedSimpArgs false
set_option maxRecDepth 100000
set_option maxHeartbeats 4000000
namespace Go.Proofs.Ytmakaofdpoiaaaa
open Sx
inductive S7t (A1 A5 A7 A13 A14 : Value) : List Value → Prop
  | mk {r0 r2 r3 r4 r6 r8 r9 r10 r11 r12 r15 r16 r17 r18 r19 r20 r21 r22 r23 r24 r25 r26 r27 r28 r29 r30 r31 r32 r33 r34 r35 r36 r37 r38 r39 r40 r41 r42 r43 r44 r45 r46 r47 r48 r49 r50 r51 r52 r53 r54 r55 r56 r57 r58 r59 r60 r61 r62 r63 r64 r65 r66 r67 r68 r69 r70 r71 r72 r73 r74 r75 r76 r77 r78 r79 r80 r81 r82 r83 r84 r85 r86 r87 r88 r89 r90 r91 r92 r93 r94 r95 r96 r97 r98 r99 r100 r101 r102 r103 r104 r105 r106 r107 r108 r109 r110 r111 r112 r113 r114 r115 r116 r117 r118 r119 r120 r121 r122 r123 r124 r125 r126 r127 r128 r129 r130 r131 r132 r133 r134 r135 r136 r137 r138 r139 r140 r141 r142 r143 r144 : Value} : S7t A1 A5 A7 A13 A14 [r0, A1, r2, r3, r4, A5, r6, A7, r8, r9, r10, r11, r12, A13, A14, r15, r16, r17, r18, r19, r20, r21, r22, r23, r24, r25, r26, r27, r28, r29, r30, r31, r32, r33, r34, r35, r36, r37, r38, r39, r40, r41, r42, r43, r44, r45, r46, r47, r48, r49, r50, r51, r52, r53, r54, r55, r56, r57, r58, r59, r60, r61, r62, r63, r64, r65, r66, r67, r68, r69, r70, r71, r72, r73, r74, r75, r76, r77, r78, r79, r80, r81, r82, r83, r84, r85, r86, r87, r88, r89, r90, r91, r92, r93, r94, r95, r96, r97, r98, r99, r100, r101, r102, r103, r104, r105, r106, r107, r108, r109, r110, r111, r112, r113, r114, r115, r116, r117, r118, r119, r120, r121, r122, r123, r124, r125, r126, r127, r128, r129, r130, r131, r132, r133, r134, r135, r136, r137, r138, r139, r140, r141, r142, r143, r144]
inductive S7a (A1 A5 A7 A13 : Value) : List Value → Prop
  | mk {r0 r2 r3 r4 r6 r8 r9 r10 r11 r12 r14 r15 r16 r17 r18 r19 r20 r21 r22 r23 r24 r25 r26 r27 r28 r29 r30 r31 r32 r33 r34 r35 r36 r37 r38 r39 r40 r41 r42 r43 r44 r45 r46 r47 r48 r49 r50 r51 r52 r53 r54 r55 r56 r57 r58 r59 r60 r61 r62 r63 r64 r65 r66 r67 r68 r69 r70 r71 r72 r73 r74 r75 r76 r77 r78 r79 r80 r81 r82 r83 r84 r85 r86 r87 r88 r89 r90 r91 r92 r93 r94 r95 r96 r97 r98 r99 r100 r101 r102 r103 r104 r105 r106 r107 r108 r109 r110 r111 r112 r113 r114 r115 r116 r117 r118 r119 r120 r121 r122 r123 r124 r125 r126 r127 r128 r129 r130 r131 r132 r133 r134 r135 r136 r137 r138 r139 r140 r141 r142 r143 r144 : Value} : S7a A1 A5 A7 A13 [r0, A1, r2, r3, r4, A5, r6, A7, r8, r9, r10, r11, r12, A13, r14, r15, r16, r17, r18, r19, r20, r21, r22, r23, r24, r25, r26, r27, r28, r29, r30, r31, r32, r33, r34, r35, r36, r37, r38, r39, r40, r41, r42, r43, r44, r45, r46, r47, r48, r49, r50, r51, r52, r53, r54, r55, r56, r57, r58, r59, r60, r61, r62, r63, r64, r65, r66, r67, r68, r69, r70, r71, r72, r73, r74, r75, r76, r77, r78, r79, r80, r81, r82, r83, r84, r85, r86, r87, r88, r89, r90, r91, r92, r93, r94, r95, r96, r97, r98, r99, r100, r101, r102, r103, r104, r105, r106, r107, r108, r109, r110, r111, r112, r113, r114, r115, r116, r117, r118, r119, r120, r121, r122, r123, r124, r125, r126, r127, r128, r129, r130, r131, r132, r133, r134, r135, r136, r137, r138, r139, r140, r141, r142, r143, r144]
section
variable {K : Value → Heap → Prop} {g cap : Nat} {a : Option Addr} {Bh : Heap} {d r1 r2 r3 r4 c N q : Nat} {slot lost : Int} {ms : List PM} {L : List Mas} {l l' : List M} {Q : Post} {t : Option Int}
theorem c19n {H : Heap} (h : K (.bool true) H) : SCalls Try.prog 19 [.slice none 0 0, .int .i64 0] H K := by
  refine enter19 ?_
  repeat' ((conv => whnf); (first
      | refine New.mk (fun _ => ?_)
      | refine Look.at0 ?_
      | refine Cell.row ?_
      | refine Cell.buf ?_
      | refine Cells.row rfl ?_
      | refine Put.row rfl ?_
      | refine Put.buf rfl ?_
      | refine Look.at1 ?_
      | refine Look.at2 ?_
      | refine Look.at3 ?_
      | refine Look.at4 ?_
      | refine Look.at5 ?_
      | refine Look.at6 ?_
      | refine Look.at7 ?_
      | refine Look.at8 ?_
      | with_reducible refine Val.i64 (by omega) (by omega) ?_
      | with_reducible refine Val.u8 (by omega) (by omega) ?_
      | with_reducible refine Val.u32 (by omega) (by omega) ?_
      | with_reducible refine Val.u64 (by omega) (by omega) ?_
      | with_reducible refine Val.u8m ?_
      | with_reducible refine Val.u32m ?_
      | with_reducible refine Val.u64m ?_
      | with_reducible refine Val.shr8 ?_
      | with_reducible refine Val.shr16 (by decide) ?_
      | with_reducible refine Val.shr24 (by decide) ?_
      | with_reducible refine Val.raw ?_
      | refine Branch.not ?_
      | refine Branch.and ?_
      | refine Branch.or ?_
      | refine Branch.dt (by assumption) ?_
      | refine Branch.df (by assumption) ?_
      | refine Branch.dt rfl ?_
      | refine Branch.dt (by omega) ?_
      | refine Branch.df (by omega) ?_
      | refine Branch.t rfl ?_
      | refine Branch.f rfl ?_
      | refine Branch.t (by assumption) ?_
      | refine Branch.f (by assumption) ?_
      | refine Branch.d (fun _ => ?_) (fun _ => ?_)
      | refine Branch.mk (fun _ => ?_) (fun _ => ?_)
      | refine Need.mk (by first | omega | decide | rfl) ?_
      | refine Idx.nat (by omega) ?_
      | refine Idx.auto (by first | omega | decide) (by first | omega | decide) ?_
      | refine Cell.ro rfl ?_
      | refine SDraw.all (by kernel_rfl) ?_
      | refine Kept.k0 ?_
      | refine Kept.k1 ?_
      | refine Kept.k2 ?_
      | refine Kept.k3 ?_
      | refine Kept.k4 ?_))
  all_goals (conv => whnf)
  all_goals exact Keep.all h
theorem c19s {R : Heap} {n : Int} {q c N : Nat} (hn : ¬ n = 0) (h : K (.bool true) ((q, .buf 3 [.int .i64 n] N) :: R)) : SCalls Try.prog 19 [.slice (some ⟨q, 0, none⟩) 1 c, .int .i64 n] ((q, .buf 3 [.int .i64 n] N) :: R) K := by
  refine enter19 ?_
  repeat' ((conv => whnf); (first
      | refine New.mk (fun _ => ?_)
      | refine Look.at0 ?_
      | refine Cell.row ?_
      | refine Cell.buf ?_
      | refine Cells.row rfl ?_
      | refine Put.row rfl ?_
      | refine Put.buf rfl ?_
      | refine Look.at1 ?_
      | refine Look.at2 ?_
      | refine Look.at3 ?_
      | refine Look.at4 ?_
      | refine Look.at5 ?_
      | refine Look.at6 ?_
      | refine Look.at7 ?_
      | refine Look.at8 ?_
      | with_reducible refine Val.i64 (by omega) (by omega) ?_
      | with_reducible refine Val.u8 (by omega) (by omega) ?_
      | with_reducible refine Val.u32 (by omega) (by omega) ?_
      | with_reducible refine Val.u64 (by omega) (by omega) ?_
      | with_reducible refine Val.u8m ?_
      | with_reducible refine Val.u32m ?_
      | with_reducible refine Val.u64m ?_
      | with_reducible refine Val.shr8 ?_
      | with_reducible refine Val.shr16 (by decide) ?_
      | with_reducible refine Val.shr24 (by decide) ?_
      | with_reducible refine Val.raw ?_
      | refine Branch.not ?_
      | refine Branch.and ?_
      | refine Branch.or ?_
      | refine Branch.dt (by assumption) ?_
      | refine Branch.df (by assumption) ?_
      | refine Branch.dt rfl ?_
      | refine Branch.dt (by omega) ?_
      | refine Branch.df (by omega) ?_
      | refine Branch.t rfl ?_
      | refine Branch.f rfl ?_
      | refine Branch.t (by assumption) ?_
      | refine Branch.f (by assumption) ?_
      | refine Branch.d (fun _ => ?_) (fun _ => ?_)
      | refine Branch.mk (fun _ => ?_) (fun _ => ?_)
      | refine Need.mk (by first | omega | decide | rfl) ?_
      | refine Idx.nat (by omega) ?_
      | refine Idx.auto (by first | omega | decide) (by first | omega | decide) ?_
      | refine Cell.ro rfl ?_
      | refine SDraw.all (by kernel_rfl) ?_
      | refine Kept.k0 ?_
      | refine Kept.k1 ?_
      | refine Kept.k2 ?_
      | refine Kept.k3 ?_
      | refine Kept.k4 ?_))
  all_goals (conv => whnf)
  have e : decide (n = n) = true := decide_eq_true rfl
  rw [e]
  exact Keep.all h
def I7t (b i : Nat) (aA : Option Addr) (nA cA : Nat) (f : Nat → Option Value) (x : ActR) (g : Nat) (a : Option Addr) (cap : Nat) (Bh : Heap) (d r1 r2 r3 r4 c N : Nat) (slot lost : Int) (S : List Value) (H : Heap) : Prop :=
  ∃ (k : Nat) (l : List M) (ms : List PM), (k : Int) ≤ x.ticks ∧ Net a cap Bh ms l ∧ Gd l ∧ S7t (.slice aA nA cA) (.pointer (some ⟨g, 0, none⟩)) (.pointer (some ⟨d, 0, none⟩)) (.int .i64 (i : Int)) (.int .i64 (k : Int)) S ∧ H = (b, .ro f) :: (rN d r1 r2 r3 r4 c N slot lost l ++ netH g a cap Bh slot lost ms)
noncomputable def MT (i : Nat) (n : Int) (l : List Value) (_ : Heap) : Nat := n.toNat - atN l i
theorem l7t {b o i nA cA : Nat} {f : Nat → Option Value} {x : ActR} (hi : i < nA) (hn8 : nA * 16 ≤ 140737488355328) (hx : 0 ≤ x.ticks ∧ x.ticks ≤ 65535) (f2 : f (o + i * 3 + 2) = some (.int .u16 x.ticks)) (hn : Net a cap Bh ms l) (hg : Gd l) (S : List Value)
    (hS : S7t (.slice (some ⟨b, o, none⟩) nA cA) (.pointer (some ⟨g, 0, none⟩)) (.pointer (some ⟨d, 0, none⟩)) (.int .i64 (i : Int)) (.int .i64 0) S)
    (hQ : ∀ S v l ms, Net a cap Bh ms l → Gd l → S7t (.slice (some ⟨b, o, none⟩) nA cA) (.pointer (some ⟨g, 0, none⟩)) (.pointer (some ⟨d, 0, none⟩)) (.int .i64 (i : Int)) v S → Q (.exit 2) S ((b, .ro f) :: (rN d r1 r2 r3 r4 c N slot lost l ++ netH g a cap Bh slot lost ms))) :
    SLoop Try.prog X7_l0 Q S ((b, .ro f) :: (rN d r1 r2 r3 r4 c N slot lost l ++ netH g a cap Bh slot lost ms)) := by
  refine SLoop.inv (I7t b i (some ⟨b, o, none⟩) nA cA f x g a cap Bh d r1 r2 r3 r4 c N slot lost) (MT 14 x.ticks) (Keep.all ⟨0, l, ms, by omega, hn, hg, hS, rfl⟩) ?_
  clear hS hn hg
  rintro S H ⟨k, l, ms, hk, hn, hg, hS, rfl⟩ R hR
  cases hS
  by_cases hlt : (k : Int) < x.ticks
  · obtain ⟨l', t, he⟩ : ∃ l' t, tickM slot lost l = (l', t) := ⟨_, _, rfl⟩
    obtain ⟨hg', ht⟩ := hg.tick he
    have fin : ∀ (S : List Value) (ms : List PM), Net a cap Bh ms l' → S7t (.slice (some ⟨b, o, none⟩) nA cA) (.pointer (some ⟨g, 0, none⟩)) (.pointer (some ⟨d, 0, none⟩)) (.int .i64 (i : Int)) (.int .i64 ((k + 1 : Nat) : Int)) S → atN S 14 = k + 1 → I7t b i (some ⟨b, o, none⟩) nA cA f x g a cap Bh d r1 r2 r3 r4 c N slot lost S ((b, .ro f) :: (rN d r1 r2 r3 r4 c N slot lost l' ++ netH g a cap Bh slot lost ms)) ∧ MT 14 x.ticks S [] < x.ticks.toNat - Int.toNat (k : Int) := by
      rintro S ms h1 h2 h3
      refine ⟨⟨k + 1, l', ms, by omega, h1, hg', h2, rfl⟩, ?_⟩
      unfold MT
      rw [h3]
      omega
    cases t with
    | none =>
      repeat' ((conv => whnf); (first
          | refine Cell.ro f2 ?_
          | refine c12AT ((b, .ro f) :: rN d r1 r2 r3 r4 c N slot lost l) hn he (fun q c' ms' hc' hn' => ?_)
          | refine SCalls.under [(b, .ro f)] (SCalls.front (netH g a cap Bh slot lost _) (c25N hg he ?_))
          | refine c19n ?_
          | refine New.mk (fun _ => ?_)
          | refine Look.at0 ?_
          | refine Cell.row ?_
          | refine Cell.buf ?_
          | refine Cells.row rfl ?_
          | refine Put.row rfl ?_
          | refine Put.buf rfl ?_
          | refine Look.at1 ?_
          | refine Look.at2 ?_
          | refine Look.at3 ?_
          | refine Look.at4 ?_
          | refine Look.at5 ?_
          | refine Look.at6 ?_
          | refine Look.at7 ?_
          | refine Look.at8 ?_
          | with_reducible refine Val.i64 (by omega) (by omega) ?_
          | with_reducible refine Val.u8 (by omega) (by omega) ?_
          | with_reducible refine Val.u32 (by omega) (by omega) ?_
          | with_reducible refine Val.u64 (by omega) (by omega) ?_
          | with_reducible refine Val.u8m ?_
          | with_reducible refine Val.u32m ?_
          | with_reducible refine Val.u64m ?_
          | with_reducible refine Val.shr8 ?_
          | with_reducible refine Val.shr16 (by decide) ?_
          | with_reducible refine Val.shr24 (by decide) ?_
          | with_reducible refine Val.raw ?_
          | refine Branch.not ?_
          | refine Branch.and ?_
          | refine Branch.or ?_
          | refine Branch.dt (by assumption) ?_
          | refine Branch.df (by assumption) ?_
          | refine Branch.dt rfl ?_
          | refine Branch.dt (by omega) ?_
          | refine Branch.df (by omega) ?_
          | refine Branch.t rfl ?_
          | refine Branch.f rfl ?_
          | refine Branch.t (by assumption) ?_
          | refine Branch.f (by assumption) ?_
          | refine Branch.d (fun _ => ?_) (fun _ => ?_)
          | refine Branch.mk (fun _ => ?_) (fun _ => ?_)
          | refine Need.mk (by first | omega | decide | rfl) ?_
          | refine Idx.nat (by omega) ?_
          | refine Idx.auto (by first | omega | decide) (by first | omega | decide) ?_
          | refine Cell.ro rfl ?_
          | refine SDraw.all (by kernel_rfl) ?_
          | refine Kept.k0 ?_
          | refine Kept.k1 ?_
          | refine Kept.k2 ?_
          | refine Kept.k3 ?_
          | refine Kept.k4 ?_))
      all_goals (conv => whnf)
      all_goals exact hR _ _ (Keep.all (fin _ ms' hn' .mk rfl))
    | some n =>
      have hn0 : ¬ n = 0 := fun e => ht (by rw [e])
      repeat' ((conv => whnf); (first
          | refine Cell.ro f2 ?_
          | refine c12AT ((b, .ro f) :: rN d r1 r2 r3 r4 c N slot lost l) hn he (fun q c' ms' hc' hn' => ?_)
          | refine SCalls.under [(_, .buf 3 [.int .i64 n] _), (b, .ro f)] (SCalls.front (netH g a cap Bh slot lost _) (c25N hg he ?_))
          | refine c19s hn0 ?_
          | refine New.mk (fun _ => ?_)
          | refine Look.at0 ?_
          | refine Cell.row ?_
          | refine Cell.buf ?_
          | refine Cells.row rfl ?_
          | refine Put.row rfl ?_
          | refine Put.buf rfl ?_
          | refine Look.at1 ?_
          | refine Look.at2 ?_
          | refine Look.at3 ?_
          | refine Look.at4 ?_
          | refine Look.at5 ?_
          | refine Look.at6 ?_
          | refine Look.at7 ?_
          | refine Look.at8 ?_
          | with_reducible refine Val.i64 (by omega) (by omega) ?_
          | with_reducible refine Val.u8 (by omega) (by omega) ?_
          | with_reducible refine Val.u32 (by omega) (by omega) ?_
          | with_reducible refine Val.u64 (by omega) (by omega) ?_
          | with_reducible refine Val.u8m ?_
          | with_reducible refine Val.u32m ?_
          | with_reducible refine Val.u64m ?_
          | with_reducible refine Val.shr8 ?_
          | with_reducible refine Val.shr16 (by decide) ?_
          | with_reducible refine Val.shr24 (by decide) ?_
          | with_reducible refine Val.raw ?_
          | refine Branch.not ?_
          | refine Branch.and ?_
          | refine Branch.or ?_
          | refine Branch.dt (by assumption) ?_
          | refine Branch.df (by assumption) ?_
          | refine Branch.dt rfl ?_
          | refine Branch.dt (by omega) ?_
          | refine Branch.df (by omega) ?_
          | refine Branch.t rfl ?_
          | refine Branch.f rfl ?_
          | refine Branch.t (by assumption) ?_
          | refine Branch.f (by assumption) ?_
          | refine Branch.d (fun _ => ?_) (fun _ => ?_)
          | refine Branch.mk (fun _ => ?_) (fun _ => ?_)
          | refine Need.mk (by first | omega | decide | rfl) ?_
          | refine Idx.nat (by omega) ?_
          | refine Idx.auto (by first | omega | decide) (by first | omega | decide) ?_
          | refine Cell.ro rfl ?_
          | refine SDraw.all (by kernel_rfl) ?_
          | refine Kept.k0 ?_
          | refine Kept.k1 ?_
          | refine Kept.k2 ?_
          | refine Kept.k3 ?_
          | refine Kept.k4 ?_))
      all_goals (conv => whnf)
      all_goals exact hR _ _ (Keep.d1 (fin _ ms' hn' .mk rfl))
  · have e : (k : Int) = x.ticks := by omega
    repeat' ((conv => whnf); (first
        | refine Cell.ro f2 ?_
        | refine New.mk (fun _ => ?_)
        | refine Look.at0 ?_
        | refine Cell.row ?_
        | refine Cell.buf ?_
        | refine Cells.row rfl ?_
        | refine Put.row rfl ?_
        | refine Put.buf rfl ?_
        | refine Look.at1 ?_
        | refine Look.at2 ?_
        | refine Look.at3 ?_
        | refine Look.at4 ?_
        | refine Look.at5 ?_
        | refine Look.at6 ?_
        | refine Look.at7 ?_
        | refine Look.at8 ?_
        | with_reducible refine Val.i64 (by omega) (by omega) ?_
        | with_reducible refine Val.u8 (by omega) (by omega) ?_
        | with_reducible refine Val.u32 (by omega) (by omega) ?_
        | with_reducible refine Val.u64 (by omega) (by omega) ?_
        | with_reducible refine Val.u8m ?_
        | with_reducible refine Val.u32m ?_
        | with_reducible refine Val.u64m ?_
        | with_reducible refine Val.shr8 ?_
        | with_reducible refine Val.shr16 (by decide) ?_
        | with_reducible refine Val.shr24 (by decide) ?_
        | with_reducible refine Val.raw ?_
        | refine Branch.not ?_
        | refine Branch.and ?_
        | refine Branch.or ?_
        | refine Branch.dt (by assumption) ?_
        | refine Branch.df (by assumption) ?_
        | refine Branch.dt rfl ?_
        | refine Branch.dt (by omega) ?_
        | refine Branch.df (by omega) ?_
        | refine Branch.t rfl ?_
        | refine Branch.f rfl ?_
        | refine Branch.t (by assumption) ?_
        | refine Branch.f (by assumption) ?_
        | refine Branch.d (fun _ => ?_) (fun _ => ?_)
        | refine Branch.mk (fun _ => ?_) (fun _ => ?_)
        | refine Need.mk (by first | omega | decide | rfl) ?_
        | refine Idx.nat (by omega) ?_
        | refine Idx.auto (by first | omega | decide) (by first | omega | decide) ?_
        | refine Cell.ro rfl ?_
        | refine SDraw.all (by kernel_rfl) ?_
        | refine Kept.k0 ?_
        | refine Kept.k1 ?_
        | refine Kept.k2 ?_
        | refine Kept.k3 ?_
        | refine Kept.k4 ?_))
    all_goals (conv => whnf)
    all_goals exact hQ _ _ l ms hn hg .mk
def I7a (svA : Value) (HA : Heap) (nA : Nat) (g : Nat) (a : Option Addr) (cap : Nat) (Bh : Heap) (d r1 r2 r3 r4 c N : Nat) (slot lost : Int) (S : List Value) (H : Heap) : Prop :=
  ∃ (j : Nat) (l : List M) (ms : List PM), j ≤ nA ∧ Net a cap Bh ms l ∧ Gd l ∧ S7a svA (.pointer (some ⟨g, 0, none⟩)) (.pointer (some ⟨d, 0, none⟩)) (.int .i64 (j : Int)) S ∧ H = HA ++ (rN d r1 r2 r3 r4 c N slot lost l ++ netH g a cap Bh slot lost ms)
theorem l7a {svA : Value} {HA : Heap} {A : List ActR} (hin : InA svA HA A) (hn : Net a cap Bh ms l) (hg : Gd l) (S : List Value)
    (hS : S7a svA (.pointer (some ⟨g, 0, none⟩)) (.pointer (some ⟨d, 0, none⟩)) (.int .i64 0) S)
    (hQ : ∀ S v l ms, S7a svA (.pointer (some ⟨g, 0, none⟩)) (.pointer (some ⟨d, 0, none⟩)) v S → Q (.exit 0) S (HA ++ (rN d r1 r2 r3 r4 c N slot lost l ++ netH g a cap Bh slot lost ms))) :
    SLoop Try.prog X7_l1 Q S (HA ++ (rN d r1 r2 r3 r4 c N slot lost l ++ netH g a cap Bh slot lost ms)) := by
  obtain ⟨aA, cA, rfl, h8, htk, hs⟩ := hin
  refine SLoop.inv (I7a _ HA A.length g a cap Bh d r1 r2 r3 r4 c N slot lost) (MM 13 A.length) (Keep.all ⟨0, l, ms, by omega, hn, hg, hS, rfl⟩) ?_
  clear hS hn hg
  rintro S H ⟨j, l, ms, hj, hn, hg, hS, rfl⟩ R hR
  cases hS
  by_cases hlt : j < A.length
  · obtain ⟨b, o, f, rfl, rfl, hc⟩ := hs (by omega)
    obtain ⟨x, hx⟩ : ∃ x, A[j]? = some x := ⟨_, List.getElem?_eq_getElem hlt⟩
    have f0 : f (o + j * 3 + 0) = some (.int .i64 x.node) := hc j x hx 0 _ rfl
    have f1 : f (o + j * 3 + 1) = some (.bool x.on) := hc j x hx 1 _ rfl
    have f2 : f (o + j * 3 + 2) = some (.int .u16 x.ticks) := hc j x hx 2 _ rfl
    have htx := htk x (List.mem_of_getElem? hx)
    have fin : ∀ (S : List Value) (l : List M) (ms : List PM), Net a cap Bh ms l → Gd l → S7a (.slice (some ⟨b, o, none⟩) A.length cA) (.pointer (some ⟨g, 0, none⟩)) (.pointer (some ⟨d, 0, none⟩)) (.int .i64 ((j + 1 : Nat) : Int)) S → atN S 13 = j + 1 → R S ((b, .ro f) :: (rN d r1 r2 r3 r4 c N slot lost l ++ netH g a cap Bh slot lost ms)) := by
      rintro S l ms h1 h2 h3 h4
      refine hR _ _ (Keep.all ⟨⟨j + 1, l, ms, by omega, h1, h2, h3, rfl⟩, ?_⟩)
      unfold MM
      rw [h4]
      show A.length - (j + 1) < A.length - Int.toNat (j : Int)
      omega
    by_cases h0 : x.ticks = 0
    · obtain ⟨code, l', he⟩ : ∃ code l', powL slot l x.node x.on = (code, l') := ⟨_, _, rfl⟩
      have hg' := hg.pow he
      repeat' ((conv => whnf); (first
          | refine SDraw.held (by kernel_rfl) [(b, .ro f)] (.same (.head _) .nil) ?_
          | refine Kept.sub (List.Sublist.cons_cons _ (List.nil_sublist _)) ?_
          | refine Cell.ro f0 ?_
          | refine Cell.ro f1 ?_
          | refine Cell.ro f2 ?_
          | refine SCalls.under [(b, .ro f)] (SCalls.under (rN d r1 r2 r3 r4 c N slot lost l) (c20E hn he (fun ms' hn' => ?_)))
          | refine SCalls.under [(b, .ro f)] (SCalls.front (netH g a cap Bh slot lost _) (c24N hg he ?_))
          | refine New.mk (fun _ => ?_)
          | refine Look.at0 ?_
          | refine Cell.row ?_
          | refine Cell.buf ?_
          | refine Cells.row rfl ?_
          | refine Put.row rfl ?_
          | refine Put.buf rfl ?_
          | refine Look.at1 ?_
          | refine Look.at2 ?_
          | refine Look.at3 ?_
          | refine Look.at4 ?_
          | refine Look.at5 ?_
          | refine Look.at6 ?_
          | refine Look.at7 ?_
          | refine Look.at8 ?_
          | with_reducible refine Val.i64 (by omega) (by omega) ?_
          | with_reducible refine Val.u8 (by omega) (by omega) ?_
          | with_reducible refine Val.u32 (by omega) (by omega) ?_
          | with_reducible refine Val.u64 (by omega) (by omega) ?_
          | with_reducible refine Val.u8m ?_
          | with_reducible refine Val.u32m ?_
          | with_reducible refine Val.u64m ?_
          | with_reducible refine Val.shr8 ?_
          | with_reducible refine Val.shr16 (by decide) ?_
          | with_reducible refine Val.shr24 (by decide) ?_
          | with_reducible refine Val.raw ?_
          | refine Branch.not ?_
          | refine Branch.and ?_
          | refine Branch.or ?_
          | refine Branch.dt (by assumption) ?_
          | refine Branch.df (by assumption) ?_
          | refine Branch.dt rfl ?_
          | refine Branch.dt (by omega) ?_
          | refine Branch.df (by omega) ?_
          | refine Branch.t rfl ?_
          | refine Branch.f rfl ?_
          | refine Branch.t (by assumption) ?_
          | refine Branch.f (by assumption) ?_
          | refine Branch.d (fun _ => ?_) (fun _ => ?_)
          | refine Branch.mk (fun _ => ?_) (fun _ => ?_)
          | refine Need.mk (by first | omega | decide | rfl) ?_
          | refine Idx.nat (by omega) ?_
          | refine Idx.auto (by first | omega | decide) (by first | omega | decide) ?_
          | refine Cell.ro rfl ?_
          | refine SDraw.all (by kernel_rfl) ?_
          | refine Kept.k0 ?_
          | refine Kept.k1 ?_
          | refine Kept.k2 ?_
          | refine Kept.k3 ?_
          | refine Kept.k4 ?_))
      all_goals (conv => whnf)
      all_goals
        refine l7t hlt h8 htx f2 hn' hg' _ .mk (fun S v l ms hn hg hS => ?_)
        cases hS
        repeat' ((conv => whnf); (first
            | refine SCalls.under [(b, .ro f)] (c26 hn hg ?_)
            | refine New.mk (fun _ => ?_)
            | refine Look.at0 ?_
            | refine Cell.row ?_
            | refine Cell.buf ?_
            | refine Cells.row rfl ?_
            | refine Put.row rfl ?_
            | refine Put.buf rfl ?_
            | refine Look.at1 ?_
            | refine Look.at2 ?_
            | refine Look.at3 ?_
            | refine Look.at4 ?_
            | refine Look.at5 ?_
            | refine Look.at6 ?_
            | refine Look.at7 ?_
            | refine Look.at8 ?_
            | with_reducible refine Val.i64 (by omega) (by omega) ?_
            | with_reducible refine Val.u8 (by omega) (by omega) ?_
            | with_reducible refine Val.u32 (by omega) (by omega) ?_
            | with_reducible refine Val.u64 (by omega) (by omega) ?_
            | with_reducible refine Val.u8m ?_
            | with_reducible refine Val.u32m ?_
            | with_reducible refine Val.u64m ?_
            | with_reducible refine Val.shr8 ?_
            | with_reducible refine Val.shr16 (by decide) ?_
            | with_reducible refine Val.shr24 (by decide) ?_
            | with_reducible refine Val.raw ?_
            | refine Branch.not ?_
            | refine Branch.and ?_
            | refine Branch.or ?_
            | refine Branch.dt (by assumption) ?_
            | refine Branch.df (by assumption) ?_
            | refine Branch.dt rfl ?_
            | refine Branch.dt (by omega) ?_
            | refine Branch.df (by omega) ?_
            | refine Branch.t rfl ?_
            | refine Branch.f rfl ?_
            | refine Branch.t (by assumption) ?_
            | refine Branch.f (by assumption) ?_
            | refine Branch.d (fun _ => ?_) (fun _ => ?_)
            | refine Branch.mk (fun _ => ?_) (fun _ => ?_)
            | refine Need.mk (by first | omega | decide | rfl) ?_
            | refine Idx.nat (by omega) ?_
            | refine Idx.auto (by first | omega | decide) (by first | omega | decide) ?_
            | refine Cell.ro rfl ?_
            | refine SDraw.all (by kernel_rfl) ?_
            | refine Kept.k0 ?_
            | refine Kept.k1 ?_
            | refine Kept.k2 ?_
            | refine Kept.k3 ?_
            | refine Kept.k4 ?_))
        (conv => whnf)
        exact fin _ l ms hn hg .mk rfl
    · repeat' ((conv => whnf); (first
          | refine Cell.ro f0 ?_
          | refine Cell.ro f1 ?_
          | refine Cell.ro f2 ?_
          | refine New.mk (fun _ => ?_)
          | refine Look.at0 ?_
          | refine Cell.row ?_
          | refine Cell.buf ?_
          | refine Cells.row rfl ?_
          | refine Put.row rfl ?_
          | refine Put.buf rfl ?_
          | refine Look.at1 ?_
          | refine Look.at2 ?_
          | refine Look.at3 ?_
          | refine Look.at4 ?_
          | refine Look.at5 ?_
          | refine Look.at6 ?_
          | refine Look.at7 ?_
          | refine Look.at8 ?_
          | with_reducible refine Val.i64 (by omega) (by omega) ?_
          | with_reducible refine Val.u8 (by omega) (by omega) ?_
          | with_reducible refine Val.u32 (by omega) (by omega) ?_
          | with_reducible refine Val.u64 (by omega) (by omega) ?_
          | with_reducible refine Val.u8m ?_
          | with_reducible refine Val.u32m ?_
          | with_reducible refine Val.u64m ?_
          | with_reducible refine Val.shr8 ?_
          | with_reducible refine Val.shr16 (by decide) ?_
          | with_reducible refine Val.shr24 (by decide) ?_
          | with_reducible refine Val.raw ?_
          | refine Branch.not ?_
          | refine Branch.and ?_
          | refine Branch.or ?_
          | refine Branch.dt (by assumption) ?_
          | refine Branch.df (by assumption) ?_
          | refine Branch.dt rfl ?_
          | refine Branch.dt (by omega) ?_
          | refine Branch.df (by omega) ?_
          | refine Branch.t rfl ?_
          | refine Branch.f rfl ?_
          | refine Branch.t (by assumption) ?_
          | refine Branch.f (by assumption) ?_
          | refine Branch.d (fun _ => ?_) (fun _ => ?_)
          | refine Branch.mk (fun _ => ?_) (fun _ => ?_)
          | refine Need.mk (by first | omega | decide | rfl) ?_
          | refine Idx.nat (by omega) ?_
          | refine Idx.auto (by first | omega | decide) (by first | omega | decide) ?_
          | refine Cell.ro rfl ?_
          | refine SDraw.all (by kernel_rfl) ?_
          | refine Kept.k0 ?_
          | refine Kept.k1 ?_
          | refine Kept.k2 ?_
          | refine Kept.k3 ?_
          | refine Kept.k4 ?_))
      all_goals (conv => whnf)
      all_goals
        refine l7t hlt h8 htx f2 hn hg _ .mk (fun S v l ms hn hg hS => ?_)
        cases hS
        repeat' ((conv => whnf); (first
            | refine SCalls.under [(b, .ro f)] (c26 hn hg ?_)
            | refine New.mk (fun _ => ?_)
            | refine Look.at0 ?_
            | refine Cell.row ?_
            | refine Cell.buf ?_
            | refine Cells.row rfl ?_
            | refine Put.row rfl ?_
            | refine Put.buf rfl ?_
            | refine Look.at1 ?_
            | refine Look.at2 ?_
            | refine Look.at3 ?_
            | refine Look.at4 ?_
            | refine Look.at5 ?_
            | refine Look.at6 ?_
            | refine Look.at7 ?_
            | refine Look.at8 ?_
            | with_reducible refine Val.i64 (by omega) (by omega) ?_
            | with_reducible refine Val.u8 (by omega) (by omega) ?_
            | with_reducible refine Val.u32 (by omega) (by omega) ?_
            | with_reducible refine Val.u64 (by omega) (by omega) ?_
            | with_reducible refine Val.u8m ?_
            | with_reducible refine Val.u32m ?_
            | with_reducible refine Val.u64m ?_
            | with_reducible refine Val.shr8 ?_
            | with_reducible refine Val.shr16 (by decide) ?_
            | with_reducible refine Val.shr24 (by decide) ?_
            | with_reducible refine Val.raw ?_
            | refine Branch.not ?_
            | refine Branch.and ?_
            | refine Branch.or ?_
            | refine Branch.dt (by assumption) ?_
            | refine Branch.df (by assumption) ?_
            | refine Branch.dt rfl ?_
            | refine Branch.dt (by omega) ?_
            | refine Branch.df (by omega) ?_
            | refine Branch.t rfl ?_
            | refine Branch.f rfl ?_
            | refine Branch.t (by assumption) ?_
            | refine Branch.f (by assumption) ?_
            | refine Branch.d (fun _ => ?_) (fun _ => ?_)
            | refine Branch.mk (fun _ => ?_) (fun _ => ?_)
            | refine Need.mk (by first | omega | decide | rfl) ?_
            | refine Idx.nat (by omega) ?_
            | refine Idx.auto (by first | omega | decide) (by first | omega | decide) ?_
            | refine Cell.ro rfl ?_
            | refine SDraw.all (by kernel_rfl) ?_
            | refine Kept.k0 ?_
            | refine Kept.k1 ?_
            | refine Kept.k2 ?_
            | refine Kept.k3 ?_
            | refine Kept.k4 ?_))
        (conv => whnf)
        exact fin _ l ms hn hg .mk rfl
  · repeat' ((conv => whnf); (first
        | refine New.mk (fun _ => ?_)
        | refine Look.at0 ?_
        | refine Cell.row ?_
        | refine Cell.buf ?_
        | refine Cells.row rfl ?_
        | refine Put.row rfl ?_
        | refine Put.buf rfl ?_
        | refine Look.at1 ?_
        | refine Look.at2 ?_
        | refine Look.at3 ?_
        | refine Look.at4 ?_
        | refine Look.at5 ?_
        | refine Look.at6 ?_
        | refine Look.at7 ?_
        | refine Look.at8 ?_
        | with_reducible refine Val.i64 (by omega) (by omega) ?_
        | with_reducible refine Val.u8 (by omega) (by omega) ?_
        | with_reducible refine Val.u32 (by omega) (by omega) ?_
        | with_reducible refine Val.u64 (by omega) (by omega) ?_
        | with_reducible refine Val.u8m ?_
        | with_reducible refine Val.u32m ?_
        | with_reducible refine Val.u64m ?_
        | with_reducible refine Val.shr8 ?_
        | with_reducible refine Val.shr16 (by decide) ?_
        | with_reducible refine Val.shr24 (by decide) ?_
        | with_reducible refine Val.raw ?_
        | refine Branch.not ?_
        | refine Branch.and ?_
        | refine Branch.or ?_
        | refine Branch.dt (by assumption) ?_
        | refine Branch.df (by assumption) ?_
        | refine Branch.dt rfl ?_
        | refine Branch.dt (by omega) ?_
        | refine Branch.df (by omega) ?_
        | refine Branch.t rfl ?_
        | refine Branch.f rfl ?_
        | refine Branch.t (by assumption) ?_
        | refine Branch.f (by assumption) ?_
        | refine Branch.d (fun _ => ?_) (fun _ => ?_)
        | refine Branch.mk (fun _ => ?_) (fun _ => ?_)
        | refine Need.mk (by first | omega | decide | rfl) ?_
        | refine Idx.nat (by omega) ?_
        | refine Idx.auto (by first | omega | decide) (by first | omega | decide) ?_
        | refine Cell.ro rfl ?_
        | refine SDraw.all (by kernel_rfl) ?_
        | refine Kept.k0 ?_
        | refine Kept.k1 ?_
        | refine Kept.k2 ?_
        | refine Kept.k3 ?_
        | refine Kept.k4 ?_))
    all_goals (conv => whnf)
    exact hQ _ _ l ms .mk
end
end Go.Proofs.Ytmakaofdpoiaaaa
