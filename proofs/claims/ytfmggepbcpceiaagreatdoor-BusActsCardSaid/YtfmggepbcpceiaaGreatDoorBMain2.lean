/- Layer 4: what came of a round is taken in, the program's loop: by walks. -/
import Derived.Test.YtfmggepbcpceiaaGreatDoorBMain1
import Derived.Test.YtfmggepbcpceiaaGreatDoorBX
import Derived.Test.YtfmggepbcpceiaaGreatDoorRd
import Derived.Test.YtfmggepbcpceiaaGreatDoorBSx1
import Derived.Test.YtfmggepbcpceiaaGreatDoorTy
import Derived.Lib.LaidTab
import Derived.Stop.LaidErr

set_option linter.unusedVariables false
set_option linter.unusedSimpArgs false
set_option maxRecDepth 100000
set_option maxHeartbeats 4000000
namespace Go.Proofs.YtfmggepbcpceiaaGreatDoor
open Sx
section
variable {H Z : Heap} {o : Out} {bt : Int} {won : Fm} {rs : List Nat} {ns : List Nd} {e g up t4 t6 : Nat} {na : Option Addr} {nc : Nat}
theorem l39 {Q : Post} {S0 : List Value} {N : Heap} (hw : ∀ x ∈ ns, NdW x) (hn : ns.length ≤ 127) (hrl : rs.length = ns.length) (hsv : InS pC 1 (.slice na ns.length nc) Z rs)
    (h4 : (t4, Blk.row 37 [zi o.win, zi o.bits, .bool o.sent, .slice (some ⟨e, 0, none⟩) ns.length ns.length, .slice (some ⟨g, 0, none⟩) ns.length ns.length] (0, 0)) ∈ Z) (h6 : (t6, Blk.row 32 (frC won) (0, 0)) ∈ Z)
    (hup : gB up (ns.map Nd.up) ns.length ∈ Z) (he : eB e o.errs ns.length ∈ Z) (hg : gB g o.got ns.length ∈ Z) (hel : o.errs.length = ns.length) (hgl : o.got.length = ns.length)
    (hS : S39 (zi bt) (ptr t4) (ptr t6) (.slice (some ⟨up, 0, none⟩) ns.length ns.length) (.slice na ns.length nc) (zi (ns.length : Int)) (zi 0) S0) (hN : NdL rs ns N)
    (hQ : ∀ S N', NdL rs (ns.mapIdx (stl o bt won)) N' → Q (.exit 2) S (N' ++ Z)) : SLoop Tryz.prog X39_l0 Q S0 (N ++ Z) := by
  have hln : (ns.mapIdx (stl o bt won)).length = ns.length := by simp
  obtain ⟨H1, f1, f2⟩ := Foc.of (Z := Z) hN (Nat.zero_le _)
  refine SLoop.invA (I39 o bt t4 t6 up ns.length (.slice na ns.length nc) rs ns (ns.mapIdx (stl o bt won)) Z) (fun k => ns.length - k) 0 (Keep.perm H1 f2 ⟨Nat.zero_le _, hS, f1⟩) ?_
  clear hS hN f1 f2
  rintro k S H' ⟨hk, hS, hF⟩ R0 hR
  by_cases hlt : k < ns.length
  · obtain ⟨x, hx, _⟩ := list_at hlt
    have hxw := hw x (List.mem_of_getElem? hx)
    have hat := mix_at (k := k) hln (by omega)
    rw [hx] at hat
    have hnew : (ns.mapIdx (stl o bt won))[k]? = some (stl o bt won k x) := by rw [List.getElem?_mapIdx, hx]; rfl
    have hset := mix_set (k := k) hln hnew
    have hml := mix_len (k := k) hln (by omega)
    have hml1 := mix_len (k := k + 1) hln (by omega)
    generalize hmx : mixL (ns.mapIdx (stl o bt won)) ns k = mx at *
    cases hF with
    | done h1 h2 => omega
    | @«at» r u x' bv iv M1 M2 R q1 q2 q3 q4 q5 =>
      rw [hat] at q1
      injection q1 with q1
      subst q1
      have hnext : ∀ (x2 : Nd), stl o bt won k x = x2 → ∀ S Y bv' iv' M1' M2' G, BoxO bv' x2.box M1' → Grow frC 12 32 iv' x2.inn M2' → Y.Perm (nB r u x2.on bv' iv' :: uB u x2.u :: (M1' ++ (M2' ++ (R ++ (Z ++ G))))) →
          S39 (zi bt) (ptr t4) (ptr t6) (.slice (some ⟨up, 0, none⟩) ns.length ns.length) (.slice na ns.length nc) (zi (ns.length : Int)) (zi ((k + 1 : Nat) : Int)) S → R0 S Y := by
        intro x2 hx2 S Y bv' iv' M1' M2' G j1 j2 j3 j4
        subst hx2
        obtain ⟨N', m1, m2⟩ := q5 _ bv' iv' M1' M2' j1 j2
        rw [hset] at m1
        obtain ⟨H2, f1, f2⟩ := Foc.of (Z := Z) (k := k + 1) m1 (by omega)
        refine hR (k + 1) S Y (by omega) (Keep.mk (H2 ++ G) H2 ?_ (List.sublist_append_left _ _) ⟨hlt, j4, f1⟩)
        refine j3.trans (List.Perm.trans ?_ (f2.append_right G))
        refine List.Perm.trans ?_ ((m2.append_right Z).append_right G)
        exact perm_glue' (ls := [[nB r u (stl o bt won k x).on bv' iv', uB u (stl o bt won k x).u], M1', M2', R, Z, G]) (p := [0, 1, 2, 3, 4, 5]) (q := [0, 1, 2, 3, 4, 5]) (.refl _) (by simp [glue]) (by simp [glue])
      obtain ⟨r0, oo, c0, b0, e1, m3, m4⟩ := hsv.at1 (v := ptr r) q2 rfl
      rw [hrl] at e1
      injection e1 with e1 _ _
      subst e1
      have hZ : ∀ z ∈ Z, ∀ a b : Nat × Blk, z ∈ a :: b :: (M1 ++ (M2 ++ (R ++ Z))) := fun z hz a b => .tail _ (.tail _ (List.mem_append_right _ (List.mem_append_right _ (List.mem_append_right _ hz))))
      have h72 : ∀ a y (K2 : Value → Heap → Prop), UnW y → (∀ b, K2 (.bool b) (a :: uB u y.idl :: (M1 ++ (M2 ++ (R ++ Z))))) → SCalls Tryz.prog 72 [ptr u, zi 1] (a :: uB u y :: (M1 ++ (M2 ++ (R ++ Z)))) K2 := fun a y K2 hy hk => SCalls.under [a] (c72 hy hk)
      have h63g : ∀ y a (Y : Heap) (K2 : Value → Heap → Prop), K2 (zi y.st) (a :: uB u y :: Y) → SCalls Tryz.prog 63 [ptr u] (a :: uB u y :: Y) K2 := fun y a Y K2 hk => c63 (.tail _ (.head _)) hk
      have huat : (gB up (ns.map Nd.up) ns.length).2.cell (0 + k * 1) = some (.bool x.up) := by
        show ((ns.map Nd.up).map Value.bool)[0 + k * 1]? = _
        rw [Nat.zero_add, Nat.mul_one, List.getElem?_map, List.getElem?_map, hx]; rfl
      have g40 : (Blk.row 37 [zi o.win, zi o.bits, .bool o.sent, .slice (some ⟨e, 0, none⟩) ns.length ns.length, .slice (some ⟨g, 0, none⟩) ns.length ns.length] (0, 0)).cell 0 = some (zi o.win) := rfl
      have hxw2 := hxw.u
      clear hR hQ q5 hset hnew hat hml hml1
      cases hU : x.up with
      | false =>
        rw [hU] at huat
        have hb0 := hxw.up hU
        have hst := stl_down (o := o) (bt := bt) (won := won) (k := k) hU hb0
        obtain ⟨xon, xu, xbox, xinn⟩ := x
        dsimp only at hb0 hst q3 q4 hxw2 hnext ⊢
        subst hb0
        cases q3
        cases hS
        cases xon with
        | true =>
          rw [if_pos rfl] at hst
          have hn := fun S Y => hnext _ hst S Y (.slice none 0 0) iv [] M2 []
          clear hnext
          have h63 := h63g xu.idl
          by_cases ho : xu.idl.st = 2
          · repeat' ((conv => whnf); (first | refine Look.cell (hZ _ m3 _ _) m4 ?_ | refine Look.cell (hZ _ hup _ _) huat ?_ | refine Look.cell (hZ _ h4 _ _) g40 ?_ | refine Idx.nat hlt ?_ | with_reducible refine h72 _ _ _ hxw2 (fun b => ?_) | with_reducible refine h63 _ _ _ ?_ | refine Branch.dt ho ?_ | refine Branch.t rfl ?_ | exact hn _ _ .none q4 (by simp) .mk | refine Look.at0 ?_ | refine Cell.row ?_ | refine Put.row rfl ?_ | with_reducible refine Val.i64 (by omega) (by omega) ?_ | refine Branch.dt (by omega) ?_))
          · repeat' ((conv => whnf); (first | refine Look.cell (hZ _ m3 _ _) m4 ?_ | refine Look.cell (hZ _ hup _ _) huat ?_ | refine Look.cell (hZ _ h4 _ _) g40 ?_ | refine Idx.nat hlt ?_ | with_reducible refine h72 _ _ _ hxw2 (fun b => ?_) | with_reducible refine h63 _ _ _ ?_ | refine Branch.df ho ?_ | refine Branch.t rfl ?_ | exact hn _ _ .none q4 (by simp) .mk | refine Look.at0 ?_ | refine Cell.row ?_ | with_reducible refine Val.i64 (by omega) (by omega) ?_ | refine Branch.dt (by omega) ?_))
        | false =>
          rw [if_neg (by decide)] at hst
          have hn := fun S Y => hnext _ hst S Y (.slice none 0 0) iv [] M2 []
          clear hnext
          have h63 := h63g xu
          by_cases ho : xu.st = 2
          · repeat' ((conv => whnf); (first | refine Look.cell (hZ _ m3 _ _) m4 ?_ | refine Look.cell (hZ _ hup _ _) huat ?_ | refine Look.cell (hZ _ h4 _ _) g40 ?_ | refine Idx.nat hlt ?_ | with_reducible refine h63 _ _ _ ?_ | refine Branch.dt ho ?_ | refine Branch.f rfl ?_ | refine Branch.t rfl ?_ | exact hn _ _ .none q4 (by simp) .mk | refine Look.at0 ?_ | refine Cell.row ?_ | refine Put.row rfl ?_ | with_reducible refine Val.i64 (by omega) (by omega) ?_ | refine Branch.dt (by omega) ?_))
          · repeat' ((conv => whnf); (first | refine Look.cell (hZ _ m3 _ _) m4 ?_ | refine Look.cell (hZ _ hup _ _) huat ?_ | refine Look.cell (hZ _ h4 _ _) g40 ?_ | refine Idx.nat hlt ?_ | with_reducible refine h63 _ _ _ ?_ | refine Branch.df ho ?_ | refine Branch.f rfl ?_ | refine Branch.t rfl ?_ | exact hn _ _ .none q4 (by simp) .mk | refine Look.at0 ?_ | refine Cell.row ?_ | with_reducible refine Val.i64 (by omega) (by omega) ?_ | refine Branch.dt (by omega) ?_))
      | true =>
        rw [hU] at huat
        obtain ⟨hon, hoff, hidl⟩ := up_facts hU
        have g42 : (Blk.row 37 [zi o.win, zi o.bits, .bool o.sent, .slice (some ⟨e, 0, none⟩) ns.length ns.length, .slice (some ⟨g, 0, none⟩) ns.length ns.length] (0, 0)).cell 2 = some (.bool o.sent) := rfl
        have g43 : (Blk.row 37 [zi o.win, zi o.bits, .bool o.sent, .slice (some ⟨e, 0, none⟩) ns.length ns.length, .slice (some ⟨g, 0, none⟩) ns.length ns.length] (0, 0)).cell 3 = some (.slice (some ⟨e, 0, none⟩) ns.length ns.length) := rfl
        have g44 : (Blk.row 37 [zi o.win, zi o.bits, .bool o.sent, .slice (some ⟨e, 0, none⟩) ns.length ns.length, .slice (some ⟨g, 0, none⟩) ns.length ns.length] (0, 0)).cell 4 = some (.slice (some ⟨g, 0, none⟩) ns.length ns.length) := rfl
        have heat : (eB e o.errs ns.length).2.cell (0 + k * 1) = some (zi (o.errs.getD k 0)) := by
          show (o.errs.map zi)[0 + k * 1]? = _
          rw [Nat.zero_add, Nat.mul_one, List.getElem?_map, List.getD_eq_getElem?_getD, List.getElem?_eq_getElem (show k < o.errs.length by omega)]; rfl
        have hgat : (gB g o.got ns.length).2.cell (0 + k * 1) = some (.bool (o.got.getD k false)) := by
          show (o.got.map Value.bool)[0 + k * 1]? = _
          rw [Nat.zero_add, Nat.mul_one, List.getElem?_map, List.getD_eq_getElem?_getD, List.getElem?_eq_getElem (show k < o.got.length by omega)]; rfl
        have h72 : ∀ a (K2 : Value → Heap → Prop), (∀ b, K2 (.bool b) (a :: uB u x.u :: (M1 ++ (M2 ++ (R ++ Z))))) → SCalls Tryz.prog 72 [ptr u, zi 1] (a :: uB u x.u :: (M1 ++ (M2 ++ (R ++ Z)))) K2 := fun a K2 hk => h72 a x.u K2 hxw2 (by rw [hidl]; exact hk)
        have hoks := hxw.inn
        have hse := stl_sent (o := o) (bt := bt) (won := won) (k := k) hU
        have hfa := stl_fail (o := o) (bt := bt) (won := won) (k := k) hU
        have hno := stl_none (o := o) (bt := bt) (won := won) (k := k) hU
        have hgo := stl_got (o := o) (bt := bt) (won := won) (k := k) hU
        have her := stl_err (o := o) (bt := bt) (won := won) (k := k) hU
        have hsa := stl_same (o := o) (bt := bt) (won := won) (k := k) hU
        obtain ⟨xon, xu, xbox, xinn⟩ := x
        dsimp only at hon hoff hidl hse hfa hno hgo her hsa q3 q4 hxw2 hnext h72 hoks ⊢
        subst hon
        have hst2 : ∀ y : Un, y.off = false → ¬ y.st = 2 := fun y h1 h2 => by rw [(Un.st_off y).1 h2] at h1; cases h1
        clear hxw hw hU
        generalize hE : o.errs.getD k 0 = er at *
        generalize hG : o.got.getD k false = gt at *
        cases hS
        by_cases hwin : o.win < 0
        · have hn := fun S Y => hnext _ (hno hwin) S Y bv iv M1 M2 []
          clear hnext hse hfa hno hgo her hsa
          have h63 := h63g xu
          have ho := hst2 xu hoff
          repeat' ((conv => whnf); (first | refine Look.cell (hZ _ m3 _ _) m4 ?_ | refine Look.cell (hZ _ hup _ _) huat ?_ | refine Look.cell (hZ _ h4 _ _) g40 ?_ | refine Look.cell (hZ _ h4 _ _) g42 ?_ | refine Look.cell (hZ _ h4 _ _) g43 ?_ | refine Look.cell (hZ _ h4 _ _) g44 ?_ | refine Look.cell (hZ _ he _ _) heat ?_ | refine Look.cell (hZ _ hg _ _) hgat ?_ | refine Idx.nat hlt ?_ | with_reducible refine h72 _ _ (fun b => ?_) | with_reducible refine h63 _ _ _ ?_ | refine Branch.dt hwin ?_ | refine Branch.df ho ?_ | refine Branch.t rfl ?_ | refine Branch.f rfl ?_ | exact hn _ _ q3 q4 (by simp) .mk | refine Look.at0 ?_ | refine Cell.row ?_ | with_reducible refine Val.i64 (by omega) (by omega) ?_ | refine Branch.dt (by omega) ?_))
        · by_cases hkw : (k : Int) = o.win
          · cases hsn : o.sent with
            | true =>
              have g42 := g42.trans (show some (Value.bool o.sent) = some (Value.bool true) by rw [hsn])
              have hn := fun S Y => hnext _ (hse hkw.symm hsn) S Y (.slice none 0 0) iv [] M2 M1
              clear hnext hse hfa hno hgo her hsa
              have h63 := h63g xu.sent
              have ho := hst2 xu.sent (by unfold Un.sent; rw [hoff]; rfl)
              have h73 : ∀ a (K2 : Value → Heap → Prop), K2 (.tuple ⟨[]⟩) (a :: uB u xu.sent :: (M1 ++ (M2 ++ (R ++ Z)))) → SCalls Tryz.prog 73 [ptr u] (a :: uB u xu :: (M1 ++ (M2 ++ (R ++ Z)))) K2 := fun a K2 hk => SCalls.under [a] (c73 hxw2 hk)
              have hpm : ∀ a b : Nat × Blk, (a :: b :: (M1 ++ (M2 ++ (R ++ Z)))).Perm (a :: b :: ([] ++ (M2 ++ (R ++ (Z ++ M1))))) := fun a b => perm_glue' (ls := [[a, b], M1, M2, R, Z]) (p := [0, 1, 2, 3, 4]) (q := [0, 2, 3, 4, 1]) (by decide) (by simp [glue]) (by simp [glue])
              repeat' ((conv => whnf); (first | refine Look.cell (hZ _ m3 _ _) m4 ?_ | refine Look.cell (hZ _ hup _ _) huat ?_ | refine Look.cell (hZ _ h4 _ _) g40 ?_ | refine Look.cell (hZ _ h4 _ _) g42 ?_ | refine Look.cell (hZ _ h4 _ _) g43 ?_ | refine Look.cell (hZ _ h4 _ _) g44 ?_ | refine Look.cell (hZ _ he _ _) heat ?_ | refine Look.cell (hZ _ hg _ _) hgat ?_ | refine Idx.nat hlt ?_ | with_reducible refine h72 _ _ (fun b => ?_) | with_reducible refine h63 _ _ _ ?_ | with_reducible refine h73 _ _ ?_ | refine Branch.df hwin ?_ | refine Branch.dt hkw ?_ | refine Branch.df ho ?_ | refine Branch.t rfl ?_ | refine Branch.f rfl ?_ | exact hn _ _ .none q4 (hpm _ _) .mk | refine Look.at0 ?_ | refine Cell.row ?_ | refine Put.row rfl ?_ | with_reducible refine Val.i64 (by omega) (by omega) ?_ | refine Branch.dt (by omega) ?_))
            | false =>
              have g42 := g42.trans (show some (Value.bool o.sent) = some (Value.bool false) by rw [hsn])
              have hfa := hfa hkw.symm hsn
              clear hse hno hgo her hsa
              have h74 : ∀ a (K2 : Value → Heap → Prop), K2 (.tuple ⟨[]⟩) (a :: uB u (xu.fail (decide (er = 23))) :: (M1 ++ (M2 ++ (R ++ Z)))) → SCalls Tryz.prog 74 [ptr u, .bool (decide (er = 23))] (a :: uB u xu :: (M1 ++ (M2 ++ (R ++ Z)))) K2 := fun a K2 hk => SCalls.under [a] (c74 hxw2 hk)
              have h63 := h63g (xu.fail (decide (er = 23)))
              cases hof : (xu.fail (decide (er = 23))).off with
              | true =>
                rw [hof, if_pos rfl] at hfa
                have hn := fun S Y => hnext _ hfa S Y (.slice none 0 0) iv [] M2 M1
                clear hnext
                have ho := (Un.st_off (xu.fail (decide (er = 23)))).2 hof
                have hpm : ∀ a b : Nat × Blk, (a :: b :: (M1 ++ (M2 ++ (R ++ Z)))).Perm (a :: b :: ([] ++ (M2 ++ (R ++ (Z ++ M1))))) := fun a b => perm_glue' (ls := [[a, b], M1, M2, R, Z]) (p := [0, 1, 2, 3, 4]) (q := [0, 2, 3, 4, 1]) (by decide) (by simp [glue]) (by simp [glue])
                repeat' ((conv => whnf); (first | refine Look.cell (hZ _ m3 _ _) m4 ?_ | refine Look.cell (hZ _ hup _ _) huat ?_ | refine Look.cell (hZ _ h4 _ _) g40 ?_ | refine Look.cell (hZ _ h4 _ _) g42 ?_ | refine Look.cell (hZ _ h4 _ _) g43 ?_ | refine Look.cell (hZ _ h4 _ _) g44 ?_ | refine Look.cell (hZ _ he _ _) heat ?_ | refine Look.cell (hZ _ hg _ _) hgat ?_ | refine Idx.nat hlt ?_ | with_reducible refine h72 _ _ (fun b => ?_) | with_reducible refine h63 _ _ _ ?_ | with_reducible refine h74 _ _ ?_ | refine Branch.df hwin ?_ | refine Branch.dt hkw ?_ | refine Branch.dt ho ?_ | refine Branch.t rfl ?_ | refine Branch.f rfl ?_ | exact hn _ _ .none q4 (hpm _ _) .mk | refine Look.at0 ?_ | refine Cell.row ?_ | refine Put.row rfl ?_ | with_reducible refine Val.i64 (by omega) (by omega) ?_ | refine Branch.dt (by omega) ?_ | refine SDraw.all (by kernel_rfl) ?_))
              | false =>
                rw [hof, if_neg (by decide)] at hfa
                have hn := fun S Y => hnext _ hfa S Y bv iv M1 M2 []
                clear hnext
                have ho := hst2 _ hof
                repeat' ((conv => whnf); (first | refine Look.cell (hZ _ m3 _ _) m4 ?_ | refine Look.cell (hZ _ hup _ _) huat ?_ | refine Look.cell (hZ _ h4 _ _) g40 ?_ | refine Look.cell (hZ _ h4 _ _) g42 ?_ | refine Look.cell (hZ _ h4 _ _) g43 ?_ | refine Look.cell (hZ _ h4 _ _) g44 ?_ | refine Look.cell (hZ _ he _ _) heat ?_ | refine Look.cell (hZ _ hg _ _) hgat ?_ | refine Idx.nat hlt ?_ | with_reducible refine h72 _ _ (fun b => ?_) | with_reducible refine h63 _ _ _ ?_ | with_reducible refine h74 _ _ ?_ | refine Branch.df hwin ?_ | refine Branch.dt hkw ?_ | refine Branch.df ho ?_ | refine Branch.t rfl ?_ | refine Branch.f rfl ?_ | exact hn _ _ q3 q4 (by simp) .mk | refine Look.at0 ?_ | refine Cell.row ?_ | with_reducible refine Val.i64 (by omega) (by omega) ?_ | refine Branch.dt (by omega) ?_ | refine SDraw.all (by kernel_rfl) ?_))
          · cases gt with
            | true =>
              have hgo := hgo hkw hwin rfl
              clear hse hno her hsa hfa
              have h63 := h63g xu.recv
              have ho := hst2 xu.recv (by unfold Un.recv; rw [hoff]; simp only [Bool.false_eq_true, if_false]; split <;> rfl)
              obtain ⟨ia, ic, rfl, hil⟩ := q4.sv
              by_cases h64 : xinn.length < 64
              · rw [if_pos h64] at hgo
                have hn := fun S Y => hnext _ hgo S Y bv
                clear hnext hgo
                have happ : ∀ q (o : Oper) (xs xx : Operand) (K2 : Value → Heap → Prop), o.op = .call { callee := .builtin .append, args := #[xs, xx], argTypes := #[22, 22] } → (∀ a c M', Grow frC 12 32 (.slice a (xinn.length + 1) c) (xinn ++ [won]) M' → K2 (.slice a (xinn.length + 1) c) (M' ++ ((q, .row 32 (frC won) (0, 0)) :: nB r u true bv (.slice ia xinn.length ic) :: uB u xu :: (M1 ++ (R ++ Z))))) →
                    RawV Tryz.prog o [.slice ia xinn.length ic, .slice (some ⟨q, 0, none⟩) 1 1] ((q, .row 32 (frC won) (0, 0)) :: nB r u true bv (.slice ia xinn.length ic) :: uB u xu :: (M1 ++ (M2 ++ (R ++ Z)))) K2 := by
                  intro q o xs xx K2 ho hk
                  exact RawV.grow1 (A := (q, .row 32 (frC won) (0, 0)) :: nB r u true bv (.slice ia xinn.length ic) :: uB u xu :: M1) (B := R ++ Z) (x := won) (bytes := 24) q4 rfl (.head _) ho (by kernel_rfl) (by decide) frC_len (frC_one won) (by simp only [maxLen]; omega) (by omega) hk
                have hHs : ∀ H' : Heap, nB r u true bv (.slice ia xinn.length ic) ∈ H' → (t6, Blk.row 32 (frC won) (0, 0)) ∈ H' → ∀ p ∈ [nB r u true bv (.slice ia xinn.length ic), (t6, Blk.row 32 (frC won) (0, 0))], p ∈ H' := fun H' k1 k2 p hp => by
                  rcases List.mem_cons.1 hp with rfl | hp
                  · exact k1
                  · obtain rfl := List.mem_singleton.1 hp; exact k2
                have hs0 := hHs (nB r u true bv (.slice ia xinn.length ic) :: uB u xu :: (M1 ++ (M2 ++ (R ++ Z)))) (.head _) (hZ _ h6 _ _)
                have hs1 : ∀ y : Nat × Blk, _ := fun y => hHs (y :: nB r u true bv (.slice ia xinn.length ic) :: uB u xu :: (M1 ++ (M2 ++ (R ++ Z)))) (.tail _ (.head _)) (.tail _ (hZ _ h6 _ _))
                have hs2 : ∀ (M' : Heap) (y : Nat × Blk), _ := fun M' y => hHs (M' ++ (y :: nB r u true bv (.slice ia xinn.length ic) :: uB u xu :: (M1 ++ (R ++ Z)))) (List.mem_append_right _ (.tail _ (.head _))) (List.mem_append_right _ (.tail _ (.tail _ (.tail _ (List.mem_append_right _ (List.mem_append_right _ h6))))))
                have h75 : ∀ (M' : Heap) (y z : Nat × Blk) (K2 : Value → Heap → Prop), K2 (.tuple ⟨[]⟩) ((M' ++ [y]) ++ (z :: uB u xu.recv :: (M1 ++ (R ++ Z)))) → SCalls Tryz.prog 75 [ptr u] ((M' ++ [y]) ++ (z :: uB u xu :: (M1 ++ (R ++ Z)))) K2 := fun M' y z K2 hk => by
                  have := SCalls.under (K := K2) ((M' ++ [y]) ++ [z]) (c75 (p := u) (H := M1 ++ (R ++ Z)) (K := fun v H' => K2 v ((M' ++ [y]) ++ [z] ++ H')) hxw2 (by simpa using hk))
                  simpa using this
                have h63 : ∀ (M' : Heap) (y z : Nat × Blk) (K2 : Value → Heap → Prop), K2 (zi xu.recv.st) ((M' ++ [y]) ++ (z :: uB u xu.recv :: (M1 ++ (R ++ Z)))) → SCalls Tryz.prog 63 [ptr u] ((M' ++ [y]) ++ (z :: uB u xu.recv :: (M1 ++ (R ++ Z)))) K2 := fun M' y z K2 hk => c63 (List.mem_append_right _ (.tail _ (.head _))) hk
                have hput : ∀ a c, PutOk (.row 82 [.bool true, ptr u, bv, .slice ia xinn.length ic] (0, 0)) (0 + 3) [.slice a (xinn.length + 1) c] (.row 82 [.bool true, ptr u, bv, .slice a (xinn.length + 1) c] (0, 0)) := fun a c => PutOk.rowb rfl rfl
                have hpm : ∀ (M' : Heap) (y z w : Nat × Blk), ((M' ++ [y]) ++ (z :: w :: (M1 ++ (R ++ Z)))).Perm (z :: w :: (M1 ++ (M' ++ (R ++ (Z ++ [y]))))) := fun M' y z w => perm_glue' (ls := [M', [y], [z, w], M1, R, Z]) (p := [0, 1, 2, 3, 4, 5]) (q := [2, 3, 0, 4, 5, 1]) (by decide) (by simp [glue]) (by simp [glue])
                repeat' ((conv => whnf); (first | refine SDraw.held (by kernel_rfl) [nB r u true bv (.slice ia xinn.length ic), (t6, Blk.row 32 (frC won) (0, 0))] (Seen.of hs0) ?_ | refine Kept.mk (Seen.of (hs1 _)) ?_ | refine Kept.mk (Seen.of (hs2 _ _)) ?_ | with_reducible refine happ _ _ _ _ _ rfl (fun a' c' M' g1 => ?_) | refine ⟨M' ++ [_], _, _, (by rw [List.append_assoc]; rfl), _, hput _ _, appK_to ?_⟩ | with_reducible refine Look.app ?_ | refine Look.cell (hZ _ m3 _ _) m4 ?_ | refine Look.cell (hZ _ hup _ _) huat ?_ | refine Look.cell (hZ _ h4 _ _) g40 ?_ | refine Look.cell (hZ _ h4 _ _) g42 ?_ | refine Look.cell (hZ _ h4 _ _) g43 ?_ | refine Look.cell (hZ _ h4 _ _) g44 ?_ | refine Look.cell (hZ _ he _ _) heat ?_ | refine Look.cell (hZ _ hg _ _) hgat ?_ | refine Idx.nat hlt ?_ | with_reducible refine h72 _ _ (fun b => ?_) | with_reducible refine h75 _ _ _ _ ?_ | with_reducible refine h63 _ _ _ _ ?_ | refine Branch.df hwin ?_ | refine Branch.df hkw ?_ | refine Branch.df ho ?_ | refine Branch.dt (by omega) ?_ | refine Branch.t rfl ?_ | refine Branch.f rfl ?_ | exact hn _ _ _ M1 M' _ q3 g1 (hpm _ _ _ _) .mk | refine New.mk (fun _ => ?_) | refine Look.at0 ?_ | refine Cell.row ?_ | refine Cells.row rfl ?_ | refine Look.at1 ?_ | with_reducible refine Val.i64 (by omega) (by omega) ?_))
              · rw [if_neg h64] at hgo
                have hn := fun S Y => hnext _ hgo S Y bv (.slice ia xinn.length ic) M1 M2 []
                clear hnext hgo
                have h75 : ∀ a (K2 : Value → Heap → Prop), K2 (.tuple ⟨[]⟩) (a :: uB u xu.recv :: (M1 ++ (M2 ++ (R ++ Z)))) → SCalls Tryz.prog 75 [ptr u] (a :: uB u xu :: (M1 ++ (M2 ++ (R ++ Z)))) K2 := fun a K2 hk => SCalls.under [a] (c75 hxw2 hk)
                repeat' ((conv => whnf); (first | refine Look.cell (hZ _ m3 _ _) m4 ?_ | refine Look.cell (hZ _ hup _ _) huat ?_ | refine Look.cell (hZ _ h4 _ _) g40 ?_ | refine Look.cell (hZ _ h4 _ _) g42 ?_ | refine Look.cell (hZ _ h4 _ _) g43 ?_ | refine Look.cell (hZ _ h4 _ _) g44 ?_ | refine Look.cell (hZ _ he _ _) heat ?_ | refine Look.cell (hZ _ hg _ _) hgat ?_ | refine Idx.nat hlt ?_ | with_reducible refine h72 _ _ (fun b => ?_) | with_reducible refine h75 _ _ ?_ | with_reducible refine h63 _ _ _ ?_ | refine Branch.df hwin ?_ | refine Branch.df hkw ?_ | refine Branch.df ho ?_ | refine Branch.df (by omega) ?_ | refine Branch.t rfl ?_ | refine Branch.f rfl ?_ | exact hn _ _ q3 q4 (by simp) .mk | refine Look.at0 ?_ | refine Cell.row ?_ | with_reducible refine Val.i64 (by omega) (by omega) ?_ | refine Branch.dt (by omega) ?_))
            | false =>
              by_cases he0 : er = 0
              · have hn := fun S Y => hnext _ (hsa hkw hwin rfl he0) S Y bv iv M1 M2 []
                clear hnext hse hfa hno hgo her hsa
                have h63 := h63g xu
                have ho := hst2 xu hoff
                repeat' ((conv => whnf); (first | refine Look.cell (hZ _ m3 _ _) m4 ?_ | refine Look.cell (hZ _ hup _ _) huat ?_ | refine Look.cell (hZ _ h4 _ _) g40 ?_ | refine Look.cell (hZ _ h4 _ _) g42 ?_ | refine Look.cell (hZ _ h4 _ _) g43 ?_ | refine Look.cell (hZ _ h4 _ _) g44 ?_ | refine Look.cell (hZ _ he _ _) heat ?_ | refine Look.cell (hZ _ hg _ _) hgat ?_ | refine Idx.nat hlt ?_ | with_reducible refine h72 _ _ (fun b => ?_) | with_reducible refine h63 _ _ _ ?_ | refine Branch.df hwin ?_ | refine Branch.df hkw ?_ | refine Branch.df ho ?_ | refine Branch.dt he0 ?_ | refine Branch.df he0 ?_ | refine Branch.t rfl ?_ | refine Branch.f rfl ?_ | exact hn _ _ q3 q4 (by simp) .mk | refine Look.at0 ?_ | refine Cell.row ?_ | with_reducible refine Val.i64 (by omega) (by omega) ?_ | refine Branch.not ?_ | refine Branch.dt (by omega) ?_))
              · have hn := fun S Y => hnext _ (her hkw hwin rfl he0) S Y bv iv M1 M2 []
                clear hnext hse hfa hno hgo her hsa
                have h63 := h63g (xu.erred (decide ((k : Int) = bt)))
                have ho := hst2 (xu.erred (decide ((k : Int) = bt))) (by unfold Un.erred; rw [hoff]; rfl)
                have h76 : ∀ a (K2 : Value → Heap → Prop), K2 (.tuple ⟨[]⟩) (a :: uB u (xu.erred (decide ((k : Int) = bt))) :: (M1 ++ (M2 ++ (R ++ Z)))) → SCalls Tryz.prog 76 [ptr u, .bool (decide ((k : Int) = bt))] (a :: uB u xu :: (M1 ++ (M2 ++ (R ++ Z)))) K2 := fun a K2 hk => SCalls.under [a] (c76 hxw2 hk)
                repeat' ((conv => whnf); (first | refine Look.cell (hZ _ m3 _ _) m4 ?_ | refine Look.cell (hZ _ hup _ _) huat ?_ | refine Look.cell (hZ _ h4 _ _) g40 ?_ | refine Look.cell (hZ _ h4 _ _) g42 ?_ | refine Look.cell (hZ _ h4 _ _) g43 ?_ | refine Look.cell (hZ _ h4 _ _) g44 ?_ | refine Look.cell (hZ _ he _ _) heat ?_ | refine Look.cell (hZ _ hg _ _) hgat ?_ | refine Idx.nat hlt ?_ | with_reducible refine h72 _ _ (fun b => ?_) | with_reducible refine h63 _ _ _ ?_ | with_reducible refine h76 _ _ ?_ | refine Branch.df hwin ?_ | refine Branch.df hkw ?_ | refine Branch.df ho ?_ | refine Branch.df he0 ?_ | refine Branch.t rfl ?_ | refine Branch.f rfl ?_ | exact hn _ _ q3 q4 (by simp) .mk | refine Look.at0 ?_ | refine Cell.row ?_ | with_reducible refine Val.i64 (by omega) (by omega) ?_ | refine Branch.not ?_ | refine Branch.dt (by omega) ?_))
  · obtain rfl : k = ns.length := by omega
    cases hF with
    | done h1 h2 =>
      have hall : mixL (ns.mapIdx (stl o bt won)) ns ns.length = ns.mapIdx (stl o bt won) := by
        have := mix_all hln
        rwa [hln] at this
      rw [hall] at h2
      have hq := fun S => hQ S _ h2
      clear hR hQ
      cases hS
      repeat' ((conv => whnf); (first | refine Branch.df (by omega) ?_ | exact hq _))
    | @«at» r u x' bv iv M1 M2 R q1 =>
      have hml := mix_len (k := ns.length) hln (by omega)
      have := (List.getElem?_eq_some_iff.1 q1).1
      omega
end
end Go.Proofs.YtfmggepbcpceiaaGreatDoor


/- Layer 4: what came of a round is taken in, the program's: by walks. -/
set_option linter.unusedVariables false
set_option linter.unusedSimpArgs false
set_option maxRecDepth 100000
set_option maxHeartbeats 4000000
namespace Go.Proofs.YtfmggepbcpceiaaGreatDoor
open Sx
inductive S39a (A0 A2 A4 A6 A7 A38 A39 A40 : Value) : List Value → Prop
  | mk {r1 r3 r5 r8 r9 r10 r11 r12 r13 r14 r15 r16 r17 r18 r19 r20 r21 r22 r23 r24 r25 r26 r27 r28 r29 r30 r31 r32 r33 r34 r35 r36 r37 r41 r42 r43 r44 r45 r46 r47 r48 r49 r50 r51 r52 r53 r54 r55 r56 r57 r58 r59 r60 r61 r62 r63 r64 r65 r66 r67 r68 r69 r70 r71 r72 r73 r74 r75 r76 r77 r78 r79 r80 r81 r82 r83 r84 r85 r86 r87 r88 r89 r90 r91 r92 r93 r94 r95 r96 r97 r98 r99 r100 r101 r102 r103 r104 r105 r106 r107 r108 r109 r110 r111 r112 r113 r114 r115 r116 r117 r118 r119 r120 r121 r122 r123 r124 r125 r126 r127 r128 r129 r130 r131 r132 r133 r134 r135 r136 r137 r138 r139 r140 r141 r142 r143 r144 r145 r146 r147 r148 r149 r150 r151 r152 r153 r154 r155 r156 r157 r158 r159 r160 r161 r162 r163 r164 r165 : Value} : S39a A0 A2 A4 A6 A7 A38 A39 A40 [A0, r1, A2, r3, A4, r5, A6, A7, r8, r9, r10, r11, r12, r13, r14, r15, r16, r17, r18, r19, r20, r21, r22, r23, r24, r25, r26, r27, r28, r29, r30, r31, r32, r33, r34, r35, r36, r37, A38, A39, A40, r41, r42, r43, r44, r45, r46, r47, r48, r49, r50, r51, r52, r53, r54, r55, r56, r57, r58, r59, r60, r61, r62, r63, r64, r65, r66, r67, r68, r69, r70, r71, r72, r73, r74, r75, r76, r77, r78, r79, r80, r81, r82, r83, r84, r85, r86, r87, r88, r89, r90, r91, r92, r93, r94, r95, r96, r97, r98, r99, r100, r101, r102, r103, r104, r105, r106, r107, r108, r109, r110, r111, r112, r113, r114, r115, r116, r117, r118, r119, r120, r121, r122, r123, r124, r125, r126, r127, r128, r129, r130, r131, r132, r133, r134, r135, r136, r137, r138, r139, r140, r141, r142, r143, r144, r145, r146, r147, r148, r149, r150, r151, r152, r153, r154, r155, r156, r157, r158, r159, r160, r161, r162, r163, r164, r165]
section
variable {K : Value → Heap → Prop} {H : Heap} {p : Nat} {s : Bs} {o : Out} {bt : Int} {e g : Nat} {nv : Value} {rs : List Nat}
/-- Who takes part. -/
theorem l39u {Q : Post} {S0 : List Value} {q t4 t6 : Nat} {na : Option Addr} {nc : Nat} (h : BusR p s (.slice na s.ns.length nc) rs H)
    (hS : S39a (ptr p) (zi bt) (ptr t4) (ptr t6) (.slice (some ⟨q, 0, none⟩) s.ns.length s.ns.length) (.slice na s.ns.length nc) (zi (s.ns.length : Int)) (zi 0) S0) (hn : s.ns.length ≤ 127)
    (hQ : ∀ S, S39a (ptr p) (zi bt) (ptr t4) (ptr t6) (.slice (some ⟨q, 0, none⟩) s.ns.length s.ns.length) (.slice na s.ns.length nc) (zi (s.ns.length : Int)) (zi (s.ns.length : Int)) S → Q (.exit 0) S (gB q (s.ns.map Nd.up) s.ns.length :: H)) :
    SLoop Tryz.prog X39_l1 Q S0 (gB q (List.replicate s.ns.length false) s.ns.length :: H) := by
  have hlen : (s.ns.map Nd.up).length = (List.replicate s.ns.length false).length := by simp
  have hln : (s.ns.map Nd.up).length = s.ns.length := by simp
  refine SLoop.invA (fun (k : Nat) S H' => k ≤ s.ns.length ∧ S39a (ptr p) (zi bt) (ptr t4) (ptr t6) (.slice (some ⟨q, 0, none⟩) s.ns.length s.ns.length) (.slice na s.ns.length nc) (zi (s.ns.length : Int)) (zi (k : Int)) S ∧ H' = gB q (mixL (s.ns.map Nd.up) (List.replicate s.ns.length false) k) s.ns.length :: H) (fun k => s.ns.length - k) 0 (Keep.all ⟨Nat.zero_le _, hS, rfl⟩) ?_
  clear hS
  rintro k S H' ⟨hk, hS, rfl⟩ R hR
  cases hS
  by_cases hlt : k < s.ns.length
  · obtain ⟨x, hx, _⟩ := list_at hlt
    obtain ⟨r, u, bv, iv, oo, r0, c, b, k1, k2, e1, k3, k4⟩ := h.at hx
    injection e1 with e1 _ _
    subst e1
    have hat : (s.ns.map Nd.up)[k]? = some x.up := by rw [List.getElem?_map, hx]; rfl
    have hset := mix_set (k := k) hlen hat
    have hml := mix_len (k := k) hlen (by omega)
    have hi : k < (mixL (s.ns.map Nd.up) (List.replicate s.ns.length false) k).length := by omega
    have hnext := fun S hS E (hE : E = mixL (s.ns.map Nd.up) (List.replicate s.ns.length false) (k + 1)) => hR (k + 1) S (gB q E s.ns.length :: H) (by omega) (Keep.all ⟨hlt, hS, by rw [hE]⟩)
    have hn1 := fun S hS => hnext S hS _ hset
    have h32 : ∀ y (K2 : Value → Heap → Prop), K2 (.bool x.up) (y :: H) → SCalls Tryz.prog 32 [ptr r] (y :: H) K2 := fun y K2 hk => c32 (k2.mono fun z hz => .tail _ hz) hk
    clear hR hnext hQ hset k2
    repeat' ((conv => whnf); (first | refine Branch.dt (by omega) ?_ | refine Idx.nat hlt ?_ | refine Look.cell (.tail _ k3) k4 ?_ | with_reducible refine h32 _ _ ?_ | refine Put.nthG (g := Value.bool) _ hi ?_ | exact hn1 _ .mk | refine Look.at0 ?_ | with_reducible refine Val.i64 (by omega) (by omega) ?_))
  · obtain rfl : k = s.ns.length := by omega
    have hall : mixL (s.ns.map Nd.up) (List.replicate s.ns.length false) s.ns.length = s.ns.map Nd.up := by
      have := mix_all hlen
      rwa [hln] at this
    rw [hall]
    have hq := fun S hS => hQ S hS
    clear hR hQ
    repeat' ((conv => whnf); (first | refine Branch.df (by omega) ?_ | exact hq _ .mk))
theorem c39 {F : Heap} (h : BusO p s F) (hw : BsW s) (he : eB e o.errs s.ns.length ∈ H) (hg : gB g o.got s.ns.length ∈ H) (hel : o.errs.length = s.ns.length) (hgl : o.got.length = s.ns.length)
    (hwin : o.win < 0 ∨ ∃ (w : Nat) (x : Nd) (f : Fm), o.win = (w : Int) ∧ s.ns[w]? = some x ∧ x.box = some f)
    (hK : ∀ F', BusO p ⟨s.time, stlN o bt s.ns⟩ F' → K (.tuple ⟨[]⟩) (F' ++ H)) : SCalls Tryz.prog 39 [ptr p, oV o e g s.ns.length, zi bt] (F ++ H) K := by
  have hn2 := hw.n2
  cases h with
  | @mk nv rs Mn N h1 h2 =>
    have hrl := h2.len
    have hin := h1.ins pC_len (fun z hz => hz)
    obtain ⟨na, nc, rfl, hml⟩ := h1.sv
    rw [hrl] at hin h1 ⊢
    have hr : ∀ H' : Heap, (∀ z ∈ bB p (.slice na s.ns.length nc) s.time :: (Mn ++ N), z ∈ H') → BusR p s (.slice na s.ns.length nc) rs H' := fun H' hs => BusO.readX h1 h2 hs
    have hsub : ∀ z ∈ bB p (.slice na s.ns.length nc) s.time :: (Mn ++ N), z ∈ (bB p (.slice na s.ns.length nc) s.time :: (Mn ++ N)) ++ H := fun z hz => List.mem_append_left _ hz
    have hX : ∀ {Q : Post} {S0 : List Value} {q t4 t6 : Nat}, S39a (ptr p) (zi bt) (ptr t4) (ptr t6) (.slice (some ⟨q, 0, none⟩) s.ns.length s.ns.length) (.slice na s.ns.length nc) (zi (s.ns.length : Int)) (zi 0) S0 → ∀ y z : Nat × Blk,
        (∀ S, S39a (ptr p) (zi bt) (ptr t4) (ptr t6) (.slice (some ⟨q, 0, none⟩) s.ns.length s.ns.length) (.slice na s.ns.length nc) (zi (s.ns.length : Int)) (zi (s.ns.length : Int)) S → Q (.exit 0) S (gB q (s.ns.map Nd.up) s.ns.length :: y :: z :: ((bB p (.slice na s.ns.length nc) s.time :: (Mn ++ N)) ++ H))) →
        SLoop Tryz.prog X39_l1 Q S0 ((q, .buf 4 (List.replicate s.ns.length (Value.bool false)) s.ns.length) :: y :: z :: ((bB p (.slice na s.ns.length nc) s.time :: (Mn ++ N)) ++ H)) := by
      intro Q S0 q t4 t6 hS y z hQ
      have e1 : (List.replicate s.ns.length false).map Value.bool = List.replicate s.ns.length (Value.bool false) := by simp
      rw [← e1]
      exact l39u (hr _ fun w hw => .tail _ (.tail _ (hsub w hw))) hS hn2 hQ
    have hY : ∀ {Q : Post} {S0 : List Value} {q t4 t6 : Nat}, S39 (zi bt) (ptr t4) (ptr t6) (.slice (some ⟨q, 0, none⟩) s.ns.length s.ns.length) (.slice na s.ns.length nc) (zi (s.ns.length : Int)) (zi 0) S0 →
        (∀ S N', NdL rs (s.ns.mapIdx (stl o bt (boxAt s.ns o.win))) N' → Q (.exit 2) S (N' ++ (gB q (s.ns.map Nd.up) s.ns.length :: (t6, .row 32 (frC (boxAt s.ns o.win)) (0, 0)) :: (t4, .row 37 [zi o.win, zi o.bits, .bool o.sent, .slice (some ⟨e, 0, none⟩) s.ns.length s.ns.length, .slice (some ⟨g, 0, none⟩) s.ns.length s.ns.length] (0, 0)) :: bB p (.slice na s.ns.length nc) s.time :: (Mn ++ H)))) →
        SLoop Tryz.prog X39_l0 Q S0 (gB q (s.ns.map Nd.up) s.ns.length :: (t6, .row 32 (frC (boxAt s.ns o.win)) (0, 0)) :: (t4, .row 37 [zi o.win, zi o.bits, .bool o.sent, .slice (some ⟨e, 0, none⟩) s.ns.length s.ns.length, .slice (some ⟨g, 0, none⟩) s.ns.length s.ns.length] (0, 0)) :: ((bB p (.slice na s.ns.length nc) s.time :: (Mn ++ N)) ++ H)) := by
      intro Q S0 q t4 t6 hS hQ
      refine SLoop.keep (Keep.perm (N ++ (gB q (s.ns.map Nd.up) s.ns.length :: (t6, .row 32 (frC (boxAt s.ns o.win)) (0, 0)) :: (t4, .row 37 [zi o.win, zi o.bits, .bool o.sent, .slice (some ⟨e, 0, none⟩) s.ns.length s.ns.length, .slice (some ⟨g, 0, none⟩) s.ns.length s.ns.length] (0, 0)) :: bB p (.slice na s.ns.length nc) s.time :: (Mn ++ H))) ?_ ?_)
      · exact perm_glue' (ls := [[gB q (s.ns.map Nd.up) s.ns.length, (t6, .row 32 (frC (boxAt s.ns o.win)) (0, 0)), (t4, .row 37 [zi o.win, zi o.bits, .bool o.sent, .slice (some ⟨e, 0, none⟩) s.ns.length s.ns.length, .slice (some ⟨g, 0, none⟩) s.ns.length s.ns.length] (0, 0)), bB p (.slice na s.ns.length nc) s.time], Mn, N, H]) (p := [0, 1, 2, 3]) (q := [2, 0, 1, 3]) (by decide) (by simp [glue]) (by simp [glue])
      · have hz : ∀ a b c d : Nat × Blk, ∀ z ∈ H, z ∈ a :: b :: c :: d :: (Mn ++ H) := fun a b c d z hz => .tail _ (.tail _ (.tail _ (.tail _ (List.mem_append_right _ hz))))
        exact l39 hw.w hn2 hrl (hin.mono fun z hz => .tail _ (.tail _ (.tail _ (.tail _ (List.mem_append_left _ hz))))) (.tail _ (.tail _ (.head _))) (.tail _ (.head _)) (.head _) (hz _ _ _ _ _ he) (hz _ _ _ _ _ hg) hel hgl hS h2 hQ
    have hfin : ∀ N' (a b c : Nat × Blk), NdL rs (s.ns.mapIdx (stl o bt (boxAt s.ns o.win))) N' → Keep (N' ++ (a :: b :: c :: bB p (.slice na s.ns.length nc) s.time :: (Mn ++ H))) fun H' => K (.tuple ⟨[]⟩) H' := by
      intro N' a b c hN'
      refine Keep.mk (((bB p (.slice na s.ns.length nc) s.time :: (Mn ++ N')) ++ H) ++ [a, b, c]) _ ?_ (List.sublist_append_left _ _) (hK _ (.mk (s := ⟨s.time, stlN o bt s.ns⟩) (by rw [← hrl] at h1 ⊢; exact h1) hN'))
      exact perm_glue' (ls := [N', [a, b, c], [bB p (.slice na s.ns.length nc) s.time], Mn, H]) (p := [0, 1, 2, 3, 4]) (q := [2, 3, 0, 4, 1]) (by decide) (by simp [glue]) (by simp [glue])
    clear hK
    have g0 : (Blk.row 77 [.slice na s.ns.length nc, .int .u64 (s.time : Int)] (0, 0)).cell 0 = some (.slice na s.ns.length nc) := rfl
    have hbm : ∀ a : Nat × Blk, bB p (.slice na s.ns.length nc) s.time ∈ a :: ((bB p (.slice na s.ns.length nc) s.time :: (Mn ++ N)) ++ H) := fun a => .tail _ (.head _)
    rcases hwin with hneg | ⟨w, x, f, hwe, hx, hbx⟩
    · have hbox : boxAt s.ns o.win = z0 := by unfold boxAt; rw [if_pos hneg]
      rw [hbox] at hY hfin
      refine enter39 ?_
      repeat' ((conv => whnf); (first | refine Branch.df (by omega) ?_ | refine RawV.make1 (t := 35) (k := .i64) (e := 4) (bytes := 1) (zv := .bool false) (n := s.ns.length) rfl (by kernel_rfl) (by kernel_rfl) rfl (by omega) (by simp only [maxLen]; omega) (fun g => ?_) | (refine hX .mk _ _ (fun S hS => ?_); cases hS) | (refine hY .mk (fun S N' hN' => ?_)) | exact hfin _ _ _ _ hN' | refine New.mk (fun _ => ?_) | refine Look.at0 ?_ | refine Cell.row ?_ | refine Put.row rfl ?_ | refine Look.at1 ?_ | refine Look.at2 ?_ | refine Look.at3 ?_))
    · have hbox : boxAt s.ns o.win = f := by
        unfold boxAt
        rw [if_neg (by omega), hwe, Int.toNat_natCast, List.getD_eq_getElem?_getD, hx]
        show x.box.getD z0 = f
        rw [hbx]; rfl
      rw [hbox] at hY hfin
      have hwl := (List.getElem?_eq_some_iff.1 hx).1
      have hRd := hr _ hsub
      obtain ⟨r, u, bv, iv, oo, r0, c, b, k1, k2, e1, k3, k4⟩ := hRd.at hx
      injection e1 with e1 _ _
      subst e1
      have hn := k2.n
      have hbox2 := k2.b
      obtain ⟨win, bits, sent, errs, got⟩ := o
      dsimp only at hwe
      subst hwe
      obtain ⟨xon, xu, xbox, xinn⟩ := x
      dsimp only at hbx hn hbox2
      subst hbx
      cases hbox2 with
      | @some q f hm =>
        have gb : (Blk.row 82 [.bool xon, ptr u, .slice (some ⟨q, 0, none⟩) 1 1, iv] (0, 0)).cell 2 = some (.slice (some ⟨q, 0, none⟩) 1 1) := rfl
        have hcf : ∀ i v, (frC f)[i]? = some v → (Blk.row 32 (frC f) (0, 0)).cell (0 + 0 * 12 + i) = some v := fun i v hv => by rw [Nat.zero_mul, Nat.zero_add]; exact hv
        have ht2 : ∀ z ∈ (bB p (.slice (some ⟨r0, oo, none⟩) s.ns.length nc) s.time :: (Mn ++ N)) ++ H, ∀ a b : Nat × Blk, z ∈ a :: b :: ((bB p (.slice (some ⟨r0, oo, none⟩) s.ns.length nc) s.time :: (Mn ++ N)) ++ H) := fun z hz a b => .tail _ (.tail _ hz)
        refine enter39 ?_
        repeat' ((conv => whnf); (first | refine Branch.dt (by omega) ?_ | refine Idx.nat hwl ?_ | refine Look.cell (ht2 _ k3 _ _) k4 ?_ | refine Look.cell (ht2 _ hn _ _) gb ?_ | refine Look.cells (ht2 _ hm _ _) rfl hcf ?_ | refine RawV.make1 (t := 35) (k := .i64) (e := 4) (bytes := 1) (zv := .bool false) (n := s.ns.length) rfl (by kernel_rfl) (by kernel_rfl) rfl (by omega) (by simp only [maxLen]; omega) (fun g => ?_) | (refine hX .mk _ _ (fun S hS => ?_); cases hS) | (refine hY .mk (fun S N' hN' => ?_)) | exact hfin _ _ _ _ hN' | refine New.mk (fun _ => ?_) | refine Look.at0 ?_ | refine Cell.row ?_ | refine Put.row rfl ?_ | refine Look.at1 ?_ | refine Look.at2 ?_ | refine Look.at3 ?_ | refine Branch.t rfl ?_ | refine Idx.auto (by first | omega | decide) (by first | omega | decide) ?_ | refine SDraw.all (by kernel_rfl) ?_))
end
end Go.Proofs.YtfmggepbcpceiaaGreatDoor


/- Layer 4: a new bus, the program's: by walks. -/
set_option linter.unusedVariables false
set_option linter.unusedSimpArgs false
set_option maxRecDepth 100000
set_option maxHeartbeats 4000000
namespace Go.Proofs.YtfmggepbcpceiaaGreatDoor
open Sx
theorem NdL.snoc {r : Nat} {x : Nd} {M : Heap} (h2 : NdO r x M) : ∀ {rs : List Nat} {xs : List Nd} {N : Heap}, NdL rs xs N → NdL (rs ++ [r]) (xs ++ [x]) (N ++ M) := by
  intro rs xs N h
  induction h with
  | nil => simpa using NdL.cons h2 .nil
  | cons h1 _ ih => simpa using NdL.cons h1 ih
inductive S9 (A4 A13 A14 : Value) : List Value → Prop
  | mk {r0 r1 r2 r3 r5 r6 r7 r8 r9 r10 r11 r12 r15 r16 r17 r18 r19 r20 r21 r22 r23 r24 r25 r26 r27 r28 r29 : Value} : S9 A4 A13 A14 [r0, r1, r2, r3, A4, r5, r6, r7, r8, r9, r10, r11, r12, A13, A14, r15, r16, r17, r18, r19, r20, r21, r22, r23, r24, r25, r26, r27, r28, r29]
section
variable {K : Value → Heap → Prop} {H : Heap}
theorem c9 {n : Int} (h0 : ¬ (1 ≤ n ∧ n ≤ 127) → K (.tuple ⟨[.pointer none, zi 1]⟩) H) (h1 : 1 ≤ n ∧ n ≤ 127 → ∀ p F, BusO p ⟨0, List.replicate n.toNat n0⟩ F → K (.tuple ⟨[ptr p, zi 0]⟩) (F ++ H)) : SCalls Tryz.prog 9 [zi n] H K := by
  refine enter9 ?_
  by_cases hn : 1 ≤ n ∧ n ≤ 127
  · obtain ⟨hn1, hn2⟩ := hn
    have hk := h1 ⟨hn1, hn2⟩
    clear h0 h1
    obtain ⟨m, rfl⟩ : ∃ m : Nat, n = (m : Int) := ⟨n.toNat, by omega⟩
    rw [Int.toNat_natCast] at hk
    repeat' ((conv => whnf); (first | refine Branch.df (show ¬ (m : Int) < 1 by omega) ?_ | refine Branch.df (by omega) ?_ | refine New.mk (fun _ => ?_)))
    rename_i p
    refine SLoop.invA (fun (k : Nat) S H' => k ≤ m ∧ S9 (ptr p) (zi (m : Int)) (zi (k : Int)) S ∧ ∃ a c rs Mn N, Grow pC 1 78 (.slice a k c) rs Mn ∧ rs.length = k ∧ NdL rs (List.replicate k n0) N ∧ H' = bB p (.slice a k c) 0 :: (Mn ++ (N ++ H))) (fun k => m - k) 0 (Keep.all ⟨Nat.zero_le _, .mk, none, 0, [], [], [], .nil, rfl, .nil, rfl⟩) ?_
    rintro k S H' ⟨hkm, hS, a, c, rs, Mn, N, hG, hrl, hN, rfl⟩ R hR
    cases hS
    by_cases hlt : k < m
    · have happ : ∀ q r u (o : Oper) (xs xx : Operand) (K2 : Value → Heap → Prop), o.op = .call { callee := .builtin .append, args := #[xs, xx], argTypes := #[75, 75] } → (∀ a' c' M', Grow pC 1 78 (.slice a' (k + 1) c') (rs ++ [r]) M' → K2 (.slice a' (k + 1) c') (M' ++ ((q, .row 78 (pC r) (0, 0)) :: nB r u false (.slice none 0 0) (.slice none 0 0) :: uB u u0 :: bB p (.slice a k c) 0 :: (N ++ H)))) →
          RawV Tryz.prog o [.slice a k c, .slice (some ⟨q, 0, none⟩) 1 1] ((q, .row 78 (pC r) (0, 0)) :: nB r u false (.slice none 0 0) (.slice none 0 0) :: uB u u0 :: bB p (.slice a k c) 0 :: (Mn ++ (N ++ H))) K2 := by
        intro q r u o xs xx K2 ho hk
        refine RawV.grow1 (A := [(q, .row 78 (pC r) (0, 0)), nB r u false (.slice none 0 0) (.slice none 0 0), uB u u0, bB p (.slice a k c) 0]) (B := N ++ H) (x := r) (bytes := 8) hG rfl (.head _) ho (by kernel_rfl) (by decide) pC_len (pC_one r) (by rw [hrl]; simp only [maxLen]; omega) (by rw [hrl]; omega) (fun a' c' M' g1 => ?_)
        rw [hrl] at g1 ⊢
        exact hk a' c' M' g1
      have hnext : ∀ S a' c' M' q r u, Grow pC 1 78 (.slice a' (k + 1) c') (rs ++ [r]) M' → S9 (ptr p) (zi (m : Int)) (zi ((k + 1 : Nat) : Int)) S → R S ((M' ++ [q, nB r u false (.slice none 0 0) (.slice none 0 0), uB u u0]) ++ (bB p (.slice a' (k + 1) c') 0 :: (N ++ H))) := by
        intro S a' c' M' q r u g1 g2
        refine hR (k + 1) S _ (by omega) (Keep.mk ((bB p (.slice a' (k + 1) c') 0 :: (M' ++ ((N ++ (nB r u false (.slice none 0 0) (.slice none 0 0) :: uB u u0 :: ([] ++ []))) ++ H))) ++ [q]) _ ?_ (List.sublist_append_left _ _) ⟨hlt, g2, a', c', rs ++ [r], M', _, g1, by simp [hrl], ?_, rfl⟩)
        · exact perm_glue' (ls := [M', [q], [nB r u false (.slice none 0 0) (.slice none 0 0), uB u u0], [bB p (.slice a' (k + 1) c') 0], N, H]) (p := [0, 1, 2, 3, 4, 5]) (q := [3, 0, 4, 2, 5, 1]) (by decide) (by simp [glue]) (by simp [glue])
        · rw [List.replicate_succ']
          exact hN.snoc (.mk (x := n0) .none .nil)
      have h28 : ∀ X (K2 : Value → Heap → Prop), (∀ u, K2 (ptr u) (uB u u0 :: X)) → SCalls Tryz.prog 28 [] X K2 := fun X K2 hk => c28 hk
      have hput : ∀ a' c', PutOk (.row 77 [.slice a k c, .int .u64 0] (0, 0)) (0 + 0) [.slice a' (k + 1) c'] (.row 77 [.slice a' (k + 1) c', .int .u64 0] (0, 0)) := fun a' c' => PutOk.rowb rfl rfl
      clear hR hk
      repeat' ((conv => whnf); (first | refine Branch.dt (by omega) ?_ | refine SDraw.held (by kernel_rfl) [bB p (.slice a k c) 0] (.same (.head _) .nil) ?_ | refine Kept.mk (Seen.of (fun z hz => by obtain rfl := List.mem_singleton.1 hz; simp)) ?_ | with_reducible refine h28 _ _ (fun u => ?_) | with_reducible refine happ _ _ _ _ _ _ _ rfl (fun a' c' M' g1 => ?_) | refine ⟨M' ++ [_, _, _], _, _, (by rw [List.append_assoc]; rfl), _, hput _ _, appK_to ?_⟩ | exact hnext _ _ _ _ _ _ _ g1 .mk | refine New.mk (fun _ => ?_) | refine Look.at0 ?_ | refine Cell.row ?_ | with_reducible refine Val.i64 (by omega) (by omega) ?_))
    · obtain rfl : k = m := by omega
      have hk2 := hk p _ (.mk (s := ⟨0, List.replicate k n0⟩) hG hN)
      clear hR hk
      repeat' ((conv => whnf); (first | refine Branch.df (by omega) ?_ | exact Keep.all (by simpa using hk2)))
  · have hk := h0 hn
    clear h0 h1
    by_cases h1 : n < 1
    · repeat' ((conv => whnf); (first | refine Branch.dt h1 ?_ | exact Keep.all hk | refine Branch.t rfl ?_))
    · repeat' ((conv => whnf); (first | refine Branch.df h1 ?_ | refine Branch.dt (by omega) ?_ | exact Keep.all hk))
end
end Go.Proofs.YtfmggepbcpceiaaGreatDoor


/- Layer 4, plain: what a round of a bus is made of. -/
set_option linter.unusedVariables false
set_option linter.unusedSimpArgs false
set_option maxRecDepth 100000
set_option maxHeartbeats 4000000
namespace Go.Proofs.YtfmggepbcpceiaaGreatDoor
open Sx
theorem snd1_ok {pre : List Nd} {x : Nd} (h : NdW x) : okF (snd1 pre x).f = true := by
  unfold snd1
  cases hb : x.box with
  | none => rfl
  | some f => exact (h.ok f hb).1
theorem sndN_ok : ∀ (xs pre : List Nd), (∀ x ∈ xs, NdW x) → ∀ s ∈ sndN pre xs, okF s.f = true
  | [], _, _ => by intro s hs; cases hs
  | x :: xs, pre, h => by
    intro s hs
    rw [sndN] at hs
    rcases List.mem_cons.1 hs with rfl | hs
    · exact snd1_ok (h x (.head _))
    · exact sndN_ok xs _ (fun y hy => h y (.tail _ hy)) s hs
theorem sndN_id {xs pre : List Nd} (h : ∀ x ∈ xs, NdW x) : ∀ s ∈ sndN pre xs, s.f.id < 4294967296 := fun s hs => (okF_bd (sndN_ok xs pre h s hs)).1
theorem sndN_at : ∀ (xs pre : List Nd) (i : Nat) (x : Nd), xs[i]? = some x → (sndN pre xs)[i]? = some (snd1 (pre ++ xs.take i) x)
  | [], _, i, x, h => by simp at h
  | y :: xs, pre, 0, x, h => by
    rw [List.getElem?_cons_zero] at h
    injection h with h
    subst h
    simp [sndN]
  | y :: xs, pre, i + 1, x, h => by
    rw [List.getElem?_cons_succ] at h
    rw [sndN, List.getElem?_cons_succ, sndN_at xs (pre ++ [y]) i x h]
    simp
theorem comesV_bits {l : List Sn} {n w : Nat} {fl : List (Int × Int)} (hok : ∀ x ∈ fl, 0 ≤ x.2) (hn : n ≤ 300) : 0 ≤ (comesV l n w (frF l n w fl)).bits ∧ (comesV l n w (frF l n w fl)).bits ≤ 400 := by
  have han := frF_any (l := l) (n := n) (w := w) (fl := fl)
  generalize frF l n w fl = r at *
  unfold comesV
  split
  · rename_i h
    obtain ⟨x, hx, h1, h2, h3⟩ := han h
    have := hok x hx
    dsimp only
    omega
  · split
    · dsimp only; omega
    · split <;> dsimp only <;> omega
theorem comesV_len (l : List Sn) (n w : Nat) (r : Fr) : (comesV l n w r).errs.length = l.length ∧ (comesV l n w r).got.length = l.length ∧ (comesV l n w r).win = (w : Int) := by
  unfold comesV
  split
  · refine ⟨?_, by simp, rfl⟩
    dsimp only
    split <;> simp [stfE]
  · split
    · simp
    · split <;> simp [gotE]
end Go.Proofs.YtfmggepbcpceiaaGreatDoor


/- Layer 4, plain: who takes the frame of a round; a round with its nodes in the other order; a round with a node without power among them. -/
set_option linter.unusedVariables false
set_option linter.unusedSimpArgs false
set_option maxRecDepth 100000
set_option maxHeartbeats 4000000
namespace Go.Proofs.YtfmggepbcpceiaaGreatDoor
open Sx
/-- What a round without an error comes to. -/
theorem round_cases {l : List Sn} {fl : List (Int × Int)} (he : (roundV l fl).e = 0) :
    chkX l.length fl = 0 ∧ ((cand 0 l = [] ∧ roundV l fl = ⟨0, -1, noneV l.length⟩) ∨
      ∃ k w f s, firstV ((cand 0 l).map (·.2)) = (k, 0) ∧ (cand 0 l)[k]? = some (w, f) ∧ l[w]? = some s ∧ s.up = true ∧ s.sends = true ∧ s.f = f ∧
        roundV l fl = ⟨0, if (frF l (encN f) w fl).any then (frF l (encN f) w fl).node else -1, comesV l (encN f) w (frF l (encN f) w fl)⟩) := by
  unfold roundV at he ⊢
  by_cases hc : chkX l.length fl = 0
  · rw [if_pos hc] at he ⊢
    refine ⟨hc, ?_⟩
    unfold winV at he ⊢
    dsimp only at he ⊢
    by_cases hC : cand 0 l = []
    · rw [if_pos hC]; exact .inl ⟨hC, rfl⟩
    · rw [if_neg hC] at he ⊢
      by_cases hr : (firstV ((cand 0 l).map (·.2))).2 = 0
      · rw [if_pos hr] at he ⊢
        refine .inr ?_
        obtain ⟨_, _, _, _, hlt⟩ := firstV_ok hr
        rw [List.length_map] at hlt
        obtain ⟨⟨w, f⟩, hx, _⟩ := list_at hlt
        have hgd : (cand 0 l).getD (firstV ((cand 0 l).map (·.2))).1 (0, z0) = (w, f) := by rw [List.getD_eq_getElem?_getD, hx]; rfl
        rw [hgd]
        obtain ⟨_, s, h1, h2, h3, h4⟩ := cand_mem (List.mem_of_getElem? hx)
        rw [Nat.sub_zero] at h1
        exact ⟨_, w, f, s, by rw [← hr], hx, h1, h2, h3, h4, rfl⟩
      · rw [if_neg hr] at he; exact absurd he hr
  · rw [if_neg hc] at he; exact absurd he hc
/- THE OTHER ORDER -/
end Go.Proofs.YtfmggepbcpceiaaGreatDoor


/- Layer 4, plain: a node without power among the others changes nothing. -/
set_option linter.unusedVariables false
set_option linter.unusedSimpArgs false
set_option maxRecDepth 100000
set_option maxHeartbeats 4000000
namespace Go.Proofs.YtfmggepbcpceiaaGreatDoor
open Sx
/-- One more element, at a place. -/
def ins {α : Type} (g : Nat) (y : α) (l : List α) : List α := l.take g ++ y :: l.drop g
section
variable {α β : Type} {g : Nat} {y : α} {l L : List α}
end
section
variable {g : Nat} {s0 : Sn} {l : List Sn}
end
/- A BUS WITH ONE NODE MORE -/
end Go.Proofs.YtfmggepbcpceiaaGreatDoor


/- Layer 4, plain: a bus stays a bus; rounds of a calm bus. -/
set_option linter.unusedVariables false
set_option linter.unusedSimpArgs false
set_option maxRecDepth 100000
set_option maxHeartbeats 4000000
namespace Go.Proofs.YtfmggepbcpceiaaGreatDoor
open Sx
theorem NdW.stl {x : Nd} (h : NdW x) (o : Out) (bt : Int) (won : Fm) (i : Nat) : NdW (stl o bt won i x) := by
  obtain ⟨hu, hup, hok, hin⟩ := h
  have hu1 : UnW (if x.on then x.u.idl else x.u) := by split; exact hu.idl; exact hu
  obtain ⟨on, u, box, inn⟩ := x
  dsimp only at *
  unfold Go.Proofs.YtfmggepbcpceiaaGreatDoor.stl
  dsimp only
  generalize (if on = true then u.idl else u) = u1 at *
  have key : ∀ x2 : Nd, UnW x2.u → (x2.on = false → x2.box = none) → (∀ f, x2.box = some f → okF f = true ∧ plF f = f) → x2.inn.length ≤ 64 → NdW ⟨x2.on, x2.u, if x2.u.off then none else x2.box, x2.inn⟩ := by
    rintro ⟨on2, u2, box2, inn2⟩ k1 k2 k3 k4
    dsimp only at *
    refine ⟨k1, fun h => ?_, fun f h => ?_, k4⟩
    · unfold Nd.up at h
      dsimp only at h ⊢
      cases ho : u2.off with
      | true => rfl
      | false =>
        rw [ho] at h
        rw [if_neg (by decide)]
        exact k2 (by simpa using h)
    · dsimp only at h
      split at h
      · cases h
      · exact k3 f h
  have hon : on = false → box = none := fun h => hup (by unfold Nd.up; rw [h]; rfl)
  apply key
  · split
    · exact hu1
    · split
      · split
        · exact hu1.sent
        · exact hu1.fail
      · split
        · exact hu1.recv
        · split
          · exact hu1
          · exact hu1.erred
  · split
    · exact hon
    · split
      · split
        · intro _; rfl
        · exact hon
      · split
        · exact hon
        · split
          · exact hon
          · exact hon
  · split
    · exact hok
    · split
      · split
        · intro f hf; cases hf
        · exact hok
      · split
        · exact hok
        · split
          · exact hok
          · exact hok
  · split
    · exact hin
    · split
      · split
        · exact hin
        · exact hin
      · split
        · dsimp only
          split
          · rw [List.length_append, List.length_singleton]; omega
          · exact hin
        · split
          · exact hin
          · exact hin
theorem BsW.put {s : Bs} (h : BsW s) {i : Int} {x : Nd} (hx : NdW x) : BsW (s.put i x) := by
  obtain ⟨h1, h2, h3, h4⟩ := h
  refine ⟨?_, ?_, fun y hy => ?_, h4⟩
  · show 1 ≤ (s.ns.set i.toNat x).length; rw [List.length_set]; exact h1
  · show (s.ns.set i.toNat x).length ≤ 127; rw [List.length_set]; exact h2
  · rcases List.mem_or_eq_of_mem_set hy with h | rfl
    · exact h3 _ h
    · exact hx
theorem UnW.zero : UnW u0 := ⟨by decide, by decide, by decide⟩
theorem NdW.new {on : Bool} : NdW ⟨on, u0, none, []⟩ := ⟨UnW.zero, fun _ => rfl, (fun f h => nomatch h), Nat.zero_le _⟩
theorem BsW.at {s : Bs} (h : BsW s) {i : Int} (hi : s.is i) : NdW (s.at i) := h.w _ (List.mem_of_getElem? (Bs.at_of hi))
theorem BsW.power {s : Bs} (h : BsW s) {i : Int} {on : Bool} : BsW (s.power i on).1 := by
  unfold Bs.power
  split
  · dsimp only
    split
    · exact h
    · exact h.put .new
  · exact h
theorem BsW.submit {s : Bs} (h : BsW s) {i : Int} {f : Fm} (hpp : plF (plF f) = plF f) : BsW (s.submit i f).1 := by
  unfold Bs.submit
  split
  · rename_i hi
    split
    · rename_i hf
      split
      · rename_i hu
        split
        · exact h
        · have hx := h.at hi
          exact h.put ⟨hx.u, fun hn => absurd hu (by rw [show (s.at i).up = false from hn]; decide), fun g hg => by injection hg with hg; subst hg; exact ⟨hf, hpp⟩, hx.inn⟩
      · exact h
    · exact h
  · exact h
theorem BsW.cancel {s : Bs} (h : BsW s) {i : Int} : BsW (s.cancel i).1 := by
  unfold Bs.cancel
  split
  · rename_i hi
    split
    · have hx := h.at hi
      exact h.put ⟨hx.u, fun _ => rfl, (fun g hg => nomatch hg), hx.inn⟩
    · exact h
  · exact h
theorem BsW.fetch {s : Bs} (h : BsW s) {i : Int} : BsW (s.fetch i).1 := by
  unfold Bs.fetch
  split
  · rename_i hi
    have hx := h.at hi
    exact h.put ⟨hx.u, hx.up, hx.ok, Nat.zero_le _⟩
  · exact h
theorem stlN_len (o : Out) (bt : Int) (ns : List Nd) : (stlN o bt ns).length = ns.length := by simp [stlN]
theorem BsW.step {s : Bs} (h : BsW s) {fl : List (Int × Int)} : BsW (s.step fl) := by
  unfold Bs.step
  split
  · refine ⟨?_, ?_, fun x hx => ?_, ?_⟩
    · show 1 ≤ (stlN _ _ _).length; rw [stlN_len]; exact h.n1
    · show (stlN _ _ _).length ≤ 127; rw [stlN_len]; exact h.n2
    · obtain ⟨i, hi⟩ := List.getElem?_of_mem hx
      unfold stlN at hi
      rw [List.getElem?_mapIdx] at hi
      obtain ⟨y, hy, rfl⟩ := Option.map_eq_some_iff.1 hi
      exact (h.w y (List.mem_of_getElem? hy)).stl _ _ _ _
    · exact Nat.mod_lt _ (by decide)
  · exact h
theorem BsW.init {n : Nat} (h1 : 1 ≤ n) (h2 : n ≤ 127) : BsW ⟨0, List.replicate n n0⟩ :=
  ⟨by show 1 ≤ (List.replicate n n0).length; rw [List.length_replicate]; exact h1, by show (List.replicate n n0).length ≤ 127; rw [List.length_replicate]; exact h2, fun x hx => by rw [List.eq_of_mem_replicate hx]; exact .new, (show (0 : Nat) < 18446744073709551616 by decide)⟩
/- ONE SENDER -/
def oneS (m : Nat) (g : Fm) : List Sn := ⟨true, true, g⟩ :: List.replicate m ⟨true, false, z0⟩
theorem cand_no : ∀ (l : List Sn) (k : Nat), (∀ s ∈ l, s.sends = false) → cand k l = []
  | [], _, _ => rfl
  | s :: l, k, h => by
    rw [cand, h s (.head _), Bool.and_false, if_neg (by decide)]
    exact cand_no l _ fun t ht => h t (.tail _ ht)
theorem oneS_cand (m : Nat) (g : Fm) : cand 0 (oneS m g) = [(0, g)] := by
  unfold oneS
  rw [cand, Bool.and_self, if_pos rfl, cand_no _ _ fun s hs => by rw [List.eq_of_mem_replicate hs]]
theorem firstV_one {g : Fm} (hg : okF g = true) : firstV [g] = (0, 0) := by
  unfold firstV
  rw [if_neg (by simp), if_neg (by simp [hg]), if_pos (by simp)]
  simp [bstN]
theorem oneS_up (m : Nat) (g : Fm) : upN (oneS m g) = m + 1 := by
  unfold upN oneS
  rw [List.countP_cons, List.countP_replicate]; simp
theorem oneS_len (m : Nat) (g : Fm) : (oneS m g).length = m + 1 := by simp [oneS]
theorem oneS_got (m : Nat) (g : Fm) : gotE (oneS m g) 0 = false :: List.replicate m true := by
  unfold gotE oneS
  rw [List.mapIdx_cons]
  congr 1
  apply List.ext_getElem?
  intro i
  rw [List.getElem?_mapIdx, List.getElem?_replicate, List.getElem?_replicate]
  split <;> simp
theorem one_calm {m : Nat} {g : Fm} (hg : okF g = true) (h1 : 1 ≤ m) (h2 : m ≤ 100) :
    roundV (oneS m g) [] = ⟨0, -1, ⟨0, (encN g : Int) + 3, true, List.replicate (m + 1) 0, false :: List.replicate m true⟩⟩ := by
  unfold roundV
  have hc : chkX (oneS m g).length [] = 0 := by rw [oneS_len]; unfold chkX; rw [if_neg (by simp; omega)]; rfl
  rw [if_pos hc]
  unfold winV
  dsimp only
  rw [oneS_cand, if_neg (by simp), List.map_cons, List.map_nil, firstV_one hg, if_pos rfl]
  show Rd.mk 0 (-1) (comesV (oneS m g) (encN g) 0 ⟨false, 0, 0, false⟩) = _
  unfold comesV
  rw [if_neg (show ¬ false = true by decide), oneS_up, if_neg (show ¬ m + 1 ≤ 1 by omega), if_neg (show ¬ false = true by decide), oneS_len, oneS_got]
  rfl
end Go.Proofs.YtfmggepbcpceiaaGreatDoor


/- Layer 4, plain: a bus with one sender, round by round. -/
set_option linter.unusedVariables false
set_option linter.unusedSimpArgs false
set_option maxRecDepth 100000
set_option maxHeartbeats 4000000
namespace Go.Proofs.YtfmggepbcpceiaaGreatDoor
open Sx
/-- The one who sends, and the others. -/
def oneB (m a : Nat) (box : Option Fm) (inn : List Fm) (t : Nat) : Bs := ⟨t, ⟨true, ⟨a, 0, false, 0⟩, box, []⟩ :: List.replicate m ⟨true, u0, none, inn⟩⟩
theorem sndN_none : ∀ (m : Nat) (pre : List Nd) (inn : List Fm), sndN pre (List.replicate m ⟨true, u0, none, inn⟩) = List.replicate m ⟨true, false, z0⟩
  | 0, _, _ => rfl
  | m + 1, pre, inn => by
    rw [List.replicate_succ, sndN, sndN_none m, List.replicate_succ]; rfl
theorem oneB_snd (m a : Nat) (g : Fm) (inn : List Fm) (t : Nat) : (oneB m a (some g) inn t).snd = oneS m g := by
  show sndN [] (_ :: _) = _
  rw [sndN, sndN_none]; rfl
theorem stl_rep {o : Out} {bt : Int} {won : Fm} {y y' : Nd} {m : Nat} (h : ∀ i, i < m → stl o bt won (i + 1) y = y') : (List.replicate m y).mapIdx (fun i => stl o bt won (i + 1)) = List.replicate m y' := by
  apply List.ext_getElem?
  intro i
  rw [List.getElem?_mapIdx, List.getElem?_replicate, List.getElem?_replicate]
  split
  · rename_i hi; rw [Option.map_some, h i hi]
  · rfl
theorem rep_getD {α : Type} {m i : Nat} {x y d : α} (h : i < m) : (x :: List.replicate m y).getD (i + 1) d = y := by
  rw [List.getD_cons_succ, List.getD_eq_getElem?_getD, List.getElem?_replicate, if_pos h]; rfl
theorem step_calm {m a : Nat} {g : Fm} {inn : List Fm} {t : Nat} (hg : okF g = true) (h1 : 1 ≤ m) (h2 : m ≤ 100) (hin : inn.length < 64) :
    (oneB m a (some g) inn t).step [] = oneB m (a - 1) none (inn ++ [g]) ((t + (encN g + 3)) % 18446744073709551616) := by
  have hr := one_calm hg h1 h2
  rw [← oneB_snd m a g inn t] at hr
  have hr : (oneB m a (some g) inn t).rd [] = ⟨0, -1, ⟨0, (encN g : Int) + 3, true, List.replicate (m + 1) 0, false :: List.replicate m true⟩⟩ := hr
  unfold Bs.step
  rw [hr, if_pos rfl]
  unfold oneB stlN
  dsimp only
  rw [List.mapIdx_cons, stl_rep (y' := ⟨true, u0, none, inn ++ [g]⟩)]
  · congr 1
  · intro i hi
    unfold stl
    dsimp only
    have hgd : (false :: List.replicate m true).getD (i + 1) false = true := rep_getD hi
    have hne : ¬ (((i + 1 : Nat) : Int) = 0) := by omega
    simp only [hgd, hne, hin]
    rfl
/-- What a round tells, in memory. -/
def OuR (vs : List Value) (o : Out) (H : Heap) : Prop := ∃ se sg, vs = [zi o.win, zi o.bits, .bool o.sent, se, sg] ∧ InS (fun n : Int => [zi n]) 1 se H o.errs ∧ InS (fun b : Bool => [.bool b]) 1 sg H o.got
theorem OuR.mono {vs : List Value} {o : Out} {H H' : Heap} (h : OuR vs o H) (hs : ∀ z ∈ H, z ∈ H') : OuR vs o H' := by
  obtain ⟨se, sg, h1, h2, h3⟩ := h
  exact ⟨se, sg, h1, h2.mono hs, h3.mono hs⟩
theorem OuR.of {o : Out} {e g n : Nat} {H : Heap} (h1 : o.errs.length = n) (h2 : o.got.length = n) (hn : n ≤ 127) (h3 : eB e o.errs n ∈ H) (h4 : gB g o.got n ∈ H) : OuR [zi o.win, zi o.bits, .bool o.sent, .slice (some ⟨e, 0, none⟩) n n, .slice (some ⟨g, 0, none⟩) n n] o H := by
  refine ⟨_, _, rfl, ?_, ?_⟩
  · have := InS.buf (f := fun n : Int => [zi n]) (k := 1) (c := n) h3 (L := o.errs) List.map_eq_flatMap (fun _ => rfl) (by rw [h1]; simp only [maxLen]; omega)
    rwa [h1] at this
  · have := InS.buf (f := fun b : Bool => [Value.bool b]) (k := 1) (c := n) h4 (L := o.got) List.map_eq_flatMap (fun _ => rfl) (by rw [h2]; simp only [maxLen]; omega)
    rwa [h2] at this
theorem OuR.zero {H : Heap} : OuR [zi 0, zi 0, .bool false, .slice none 0 0, .slice none 0 0] zOut H := ⟨_, _, rfl, .nil, .nil⟩
theorem round_zero {l : List Sn} {fl : List (Int × Int)} (h : (roundV l fl).e ≠ 0) : (roundV l fl).o = zOut := by
  unfold roundV at h ⊢
  split
  · rename_i hc
    rw [if_pos hc] at h
    unfold winV at h ⊢
    dsimp only at h ⊢
    split
    · rename_i hC; rw [if_pos hC] at h; exact absurd rfl h
    · rename_i hC
      rw [if_neg hC] at h
      split
      · rename_i hr; rw [if_pos hr] at h; exact absurd rfl h
      · rfl
  · rfl
theorem round_len {l : List Sn} {fl : List (Int × Int)} (h : (roundV l fl).e = 0) : (roundV l fl).o.errs.length = l.length ∧ (roundV l fl).o.got.length = l.length ∧ l.length ≤ 127 := by
  obtain ⟨hc, hr⟩ := round_cases h
  obtain ⟨h127, _⟩ := chkX_ok hc
  rcases hr with ⟨_, e⟩ | ⟨k, w, f, s, _, _, _, _, _, _, e⟩
  · rw [e]; exact ⟨by simp [noneV], by simp [noneV], h127⟩
  · rw [e]
    obtain ⟨h1, h2, _⟩ := comesV_len l (encN f) w (frF l (encN f) w fl)
    exact ⟨h1, h2, h127⟩
end Go.Proofs.YtfmggepbcpceiaaGreatDoor


/- Layer 4: a round of the program's bus: by walks. -/
set_option linter.unusedVariables false
set_option linter.unusedSimpArgs false
set_option maxRecDepth 100000
set_option maxHeartbeats 4000000
namespace Go.Proofs.YtfmggepbcpceiaaGreatDoor
open Sx
theorem rd_win {s : Bs} {fl : List (Int × Int)} (hw : BsW s) (he : (s.rd fl).e = 0) :
    (s.rd fl).o.errs.length = s.ns.length ∧ (s.rd fl).o.got.length = s.ns.length ∧ 0 ≤ (s.rd fl).o.bits ∧ (s.rd fl).o.bits ≤ 400 ∧ (∀ x ∈ fl, 0 ≤ x.1 ∧ x.1 < (s.ns.length : Int) ∧ 0 ≤ x.2) ∧
      ((s.rd fl).o.win < 0 ∧ (s.rd fl).bt = -1 ∨ ∃ (w : Nat) (x : Nd) (f : Fm), (s.rd fl).o.win = (w : Int) ∧ s.ns[w]? = some x ∧ x.box = some f ∧ okF f = true ∧ (s.rd fl).bt = if (frF s.snd (encN f) w fl).any then (frF s.snd (encN f) w fl).node else -1) := by
  have hsl : s.snd.length = s.ns.length := sndN_len _ _
  unfold Bs.rd roundV at he ⊢
  by_cases hc : chkX s.snd.length fl = 0
  · rw [if_pos hc] at he ⊢
    obtain ⟨_, hok⟩ := chkX_ok hc
    unfold winV at he ⊢
    dsimp only at he ⊢
    by_cases hC : cand 0 s.snd = []
    · rw [if_pos hC]
      unfold noneV
      dsimp only
      refine ⟨by simp [hsl], by simp [hsl], by decide, by decide, by rw [hsl] at hok; exact hok, .inl ⟨by decide, rfl⟩⟩
    · rw [if_neg hC] at he ⊢
      by_cases hr : (firstV ((cand 0 s.snd).map (·.2))).2 = 0
      · rw [if_pos hr] at he ⊢
        dsimp only
        obtain ⟨_, hall, _, _, hlt1⟩ := firstV_ok hr
        rw [List.length_map] at hlt1
        obtain ⟨⟨w, f0⟩, hx, _⟩ := list_at hlt1
        have hgd : (cand 0 s.snd).getD (firstV ((cand 0 s.snd).map (·.2))).1 (0, z0) = (w, f0) := by rw [List.getD_eq_getElem?_getD, hx]; rfl
        rw [hgd]
        dsimp only
        obtain ⟨k1, k2, k3⟩ := comesV_len s.snd (encN f0) w (frF s.snd (encN f0) w fl)
        obtain ⟨k4, k5⟩ := comesV_bits (l := s.snd) (n := encN f0) (w := w) (fun x hx => (hok x hx).2.2) (by have := (encN_lt f0).2; omega)
        refine ⟨k1.trans hsl, k2.trans hsl, k4, k5, by rw [hsl] at hok; exact hok, .inr ?_⟩
        obtain ⟨_, sn, h1, h2, h3, h4⟩ := cand_mem (List.mem_of_getElem? hx)
        rw [Nat.sub_zero] at h1
        have hwl : w < s.ns.length := by rw [← hsl]; exact (List.getElem?_eq_some_iff.1 h1).1
        obtain ⟨x, hxw, _⟩ := list_at hwl
        have h5 := sndN_at s.ns [] w x hxw
        have h6 : s.snd[w]? = (sndN [] s.ns)[w]? := rfl
        rw [h6, h5] at h1
        injection h1 with h1
        subst h1
        unfold snd1 at h3 h4
        cases hb : x.box with
        | none => rw [hb] at h3; cases h3
        | some f =>
          rw [hb] at h4
          have h4 : f = f0 := h4
          subst h4
          exact ⟨w, x, f, k3, hxw, hb, (hw.w x (List.mem_of_getElem? hxw)).ok f hb |>.1, rfl⟩
      · rw [if_neg hr] at he
        exact absurd he hr
  · rw [if_neg hc] at he
    exact absurd he hc
end Go.Proofs.YtfmggepbcpceiaaGreatDoor


/- Layer 4: a round of the program's bus: by walks. -/
set_option linter.unusedVariables false
set_option linter.unusedSimpArgs false
set_option maxRecDepth 100000
set_option maxHeartbeats 4000000
namespace Go.Proofs.YtfmggepbcpceiaaGreatDoor
open Sx
section
variable {K : Value → Heap → Prop} {H : Heap} {p : Nat} {s : Bs} {fv : Value} {fl : List (Int × Int)}
theorem c13 {F : Heap} (h : BusO p s F) (hw : BsW s) (hD : Db H) (hf : InS xC 2 fv H fl)
    (hK0 : (s.rd fl).e ≠ 0 → K (.tuple ⟨[oZ, zi (s.rd fl).e]⟩) (F ++ H))
    (hK1 : (s.rd fl).e = 0 → ∀ F' e g, BusO p (s.step fl) F' → K (.tuple ⟨[oV (s.rd fl).o e g s.ns.length, zi 0]⟩) (F' ++ (eB e (s.rd fl).o.errs s.ns.length :: gB g (s.rd fl).o.got s.ns.length :: H))) : SCalls Tryz.prog 13 [ptr p, fv] (F ++ H) K := by
  obtain ⟨fa, fc, rfl, hml2⟩ := hf.sv
  have hn2 := hw.n2
  have hsl : s.snd.length = s.ns.length := sndN_len _ _
  have h36 : ∀ (X : Heap) (K2 : Value → Heap → Prop), (∀ z ∈ F, z ∈ X) → (∀ z ∈ H, z ∈ X) → (∀ a c M, Grow snC 14 57 (.slice a s.ns.length c) s.snd M → K2 (.slice a s.ns.length c) (M ++ X)) → SCalls Tryz.prog 36 [ptr p] X K2 := fun X K2 h1 h2 hk => by
    obtain ⟨nv, rs, hr⟩ := h.read (H := X) h1
    exact c36 (hD.mono h2) hr hw.w hn2 hk
  have h35 : ∀ (X : Heap) a c (M : Heap) (K2 : Value → Heap → Prop), (∀ z ∈ H, z ∈ X) → Grow snC 14 57 (.slice a s.ns.length c) s.snd M → ((s.rd fl).e ≠ 0 → K2 (.tuple ⟨[oZ, zi (s.rd fl).e]⟩) (M ++ X)) → ((s.rd fl).e = 0 → ∀ e g, K2 (.tuple ⟨[oV (s.rd fl).o e g s.ns.length, zi 0]⟩) (eB e (s.rd fl).o.errs s.ns.length :: gB g (s.rd fl).o.got s.ns.length :: (M ++ X))) →
      SCalls Tryz.prog 35 [.slice a s.ns.length c, .slice fa fl.length fc] (M ++ X) K2 := fun X a c M K2 h2 hG k0 k1 => by
    refine c35 (l := s.snd) (hD.mono fun z hz => List.mem_append_right _ (h2 z hz)) (hG.ins snC_len fun z hz => List.mem_append_left _ hz) (sndN_id hw.w) (hf.mono fun z hz => List.mem_append_right _ (h2 z hz)) k0 (fun he e g => ?_)
    have := k1 he e g
    rw [← hsl] at this
    exact this
  have hF1 : ∀ y : Nat × Blk, ∀ z ∈ F, z ∈ y :: (F ++ H) := fun y z hz => .tail _ (List.mem_append_left _ hz)
  have hH1 : ∀ y : Nat × Blk, ∀ z ∈ H, z ∈ y :: (F ++ H) := fun y z hz => .tail _ (List.mem_append_right _ hz)
  by_cases he : (s.rd fl).e = 0
  · obtain ⟨hel, hgl, hb0, hb1, hok, hwn⟩ := rd_win hw he
    have h35 : ∀ (X : Heap) a c (M : Heap) (K2 : Value → Heap → Prop), (∀ z ∈ H, z ∈ X) → Grow snC 14 57 (.slice a s.ns.length c) s.snd M → (∀ e g, K2 (.tuple ⟨[oV (s.rd fl).o e g s.ns.length, zi 0]⟩) (eB e (s.rd fl).o.errs s.ns.length :: gB g (s.rd fl).o.got s.ns.length :: (M ++ X))) → SCalls Tryz.prog 35 [.slice a s.ns.length c, .slice fa fl.length fc] (M ++ X) K2 := fun X a c M K2 h2 hG k0 => h35 X a c M K2 h2 hG (fun h => absurd he h) (fun _ => k0)
    have hk := hK1 he
    have hstep : s.step fl = ⟨(s.time + (s.rd fl).o.bits.toNat) % 18446744073709551616, stlN (s.rd fl).o (s.rd fl).bt s.ns⟩ := by unfold Bs.step; rw [if_pos he]
    rw [hstep] at hk
    clear hK0 hK1 hstep
    generalize hO : (s.rd fl).o = O at *
    generalize (s.rd fl).bt = bt at *
    have hT : ∀ F2, BusO p s F2 → ∃ nv Y, F2 = bB p nv s.time :: Y ∧ ∀ time, BusO p ⟨time, s.ns⟩ (bB p nv time :: Y) := fun F2 h2 => by
      cases h2 with
      | @mk nv rs Mn N g1 g2 => exact ⟨nv, Mn ++ N, rfl, fun time => .mk (s := ⟨time, s.ns⟩) g1 g2⟩
    obtain ⟨nv, Y, rfl, hb2⟩ := hT F h
    have hT4 : (s.time + O.bits.toNat) % 18446744073709551616 < 18446744073709551616 := Nat.mod_lt _ (by decide)
    have hn2' := hn2
    have hF' : ∀ time, ∀ z ∈ bB p nv time :: Y, ∀ (a b c d : Nat × Blk) (M : Heap), z ∈ (a :: b :: c :: (M ++ [d])) ++ (bB p nv time :: (Y ++ H)) := fun time z hz a b c d M => List.mem_append_right _ (List.mem_append_left H hz)
    have hH' : ∀ time, ∀ z ∈ H, ∀ (a b c d : Nat × Blk) (M : Heap), z ∈ (a :: b :: c :: (M ++ [d])) ++ (bB p nv time :: (Y ++ H)) := fun time z hz a b c d M => List.mem_append_right _ (.tail _ (List.mem_append_right _ hz))
    have hbm : ∀ (a b c d : Nat × Blk) (M : Heap), bB p nv s.time ∈ a :: b :: c :: (M ++ (d :: (bB p nv s.time :: (Y ++ H)))) := fun a b c d M => .tail _ (.tail _ (.tail _ (List.mem_append_right _ (.tail _ (.head _)))))
    have g1 : (Blk.row 77 [nv, .int .u64 (s.time : Int)] (0, 0)).cell (0 + 1) = some (.int .u64 (s.time : Int)) := rfl
    have ht := hw.t
    have hsum : IntKind.u64.wrap ((s.time : Int) + O.bits) = (((s.time + O.bits.toNat) % 18446744073709551616 : Nat) : Int) := by
      rw [wrap_u64]; omega
    have hconv : IntKind.u64.wrap O.bits = O.bits := by
      rw [wrap_u64]; omega
    have h36 := fun (X : Heap) (K2 : Value → Heap → Prop) (h1 : ∀ z ∈ bB p nv s.time :: Y, z ∈ X) h2 => h36 X K2 h1 h2
    generalize (s.time + O.bits.toNat) % 18446744073709551616 = T at *
    have hput : PutOk (.row 77 [nv, .int .u64 (s.time : Int)] (0, 0)) (0 + 1) [.int .u64 (T : Int)] (.row 77 [nv, .int .u64 (T : Int)] (0, 0)) := PutOk.rowb rfl rfl
    have hput4 : ∀ e g, PutOk (.row 37 [zi 0, zi 0, .bool false, .slice none 0 0, .slice none 0 0] (0, 0)) 0 [zi O.win, zi O.bits, .bool O.sent, .slice (some ⟨e, 0, none⟩) s.ns.length s.ns.length, .slice (some ⟨g, 0, none⟩) s.ns.length s.ns.length] (.row 37 [zi O.win, zi O.bits, .bool O.sent, .slice (some ⟨e, 0, none⟩) s.ns.length s.ns.length, .slice (some ⟨g, 0, none⟩) s.ns.length s.ns.length] (0, 0)) := fun e g => PutOk.rowb rfl rfl
    have hc6 : ∀ e g, ∀ (j : Nat) v, [zi O.win, zi O.bits, .bool O.sent, .slice (some ⟨e, 0, none⟩) s.ns.length s.ns.length, .slice (some ⟨g, 0, none⟩) s.ns.length s.ns.length][j]? = some v → (Blk.row 37 [zi O.win, zi O.bits, .bool O.sent, .slice (some ⟨e, 0, none⟩) s.ns.length s.ns.length, .slice (some ⟨g, 0, none⟩) s.ns.length s.ns.length] (0, 0)).cell (0 + j) = some v := fun e g j v hv => by rw [Nat.zero_add]; exact hv
    have hb3 := hb2 T
    have heq : ∀ (a b c d : Nat × Blk) (M : Heap), a :: b :: c :: (M ++ (d :: ((bB p nv s.time :: Y) ++ H))) = (a :: b :: c :: (M ++ [d])) ++ (p, .row 77 [nv, .int .u64 (s.time : Int)] (0, 0)) :: (Y ++ H) := by intros; simp [bB]
    have hwin39 : O.win < 0 ∨ ∃ (w : Nat) (x : Nd) (f : Fm), O.win = (w : Int) ∧ s.ns[w]? = some x ∧ x.box = some f := by
      rcases hwn with ⟨h, _⟩ | ⟨w, x, f, k1, k2, k3, _⟩
      · exact .inl h
      · exact .inr ⟨w, x, f, k1, k2, k3⟩
    have heq4 : ∀ (F2 : Heap) (a b c d : Nat × Blk) (M : Heap), F2 ++ (a :: b :: c :: (M ++ (d :: H))) = (F2 ++ (a :: b :: c :: M)) ++ d :: H := by intros; simp
    have h39 : ∀ (a d : Nat × Blk) e g M (K2 : Value → Heap → Prop), (∀ F2, BusO p ⟨T, stlN O bt s.ns⟩ F2 → K2 (.tuple ⟨[]⟩) (F2 ++ (a :: eB e O.errs s.ns.length :: gB g O.got s.ns.length :: (M ++ (d :: H))))) →
        SCalls Tryz.prog 39 [ptr p, oV O e g s.ns.length, zi bt] ((a :: eB e O.errs s.ns.length :: gB g O.got s.ns.length :: (M ++ [d])) ++ (bB p nv T :: (Y ++ H))) K2 := by
      intro a d e g M K2 hk
      refine SCalls.glue [[a, eB e O.errs s.ns.length, gB g O.got s.ns.length], M, [d], bB p nv T :: Y, H] [0, 1, 2, 3, 4] [3, 0, 1, 2, 4] (by decide) (by simp [glue]) ?_
      have e1 : glue [[a, eB e O.errs s.ns.length, gB g O.got s.ns.length], M, [d], bB p nv T :: Y, H] [3, 0, 1, 2, 4] = (bB p nv T :: Y) ++ (a :: eB e O.errs s.ns.length :: gB g O.got s.ns.length :: (M ++ (d :: H))) := by simp [glue]
      rw [e1]
      exact c39 (s := ⟨T, s.ns⟩) hb3 ⟨hw.n1, hw.n2, hw.w, hT4⟩ (.tail _ (.head _)) (.tail _ (.tail _ (.head _))) hel hgl hwin39 hk
    rcases hwn with ⟨hneg, rfl⟩ | ⟨w, x, f, hwe, hx, hbx, hokf, hbt⟩
    · have hfin : ∀ (F2 : Heap) (a d : Nat × Blk) e g M, BusO p ⟨T, stlN O (-1) s.ns⟩ F2 → Keep ((F2 ++ (a :: eB e O.errs s.ns.length :: gB g O.got s.ns.length :: M)) ++ (d :: H)) fun H' => K (.tuple ⟨[oV O e g s.ns.length, zi 0]⟩) H' := fun F2 a d e g M hF2 =>
        Keep.glue [F2, [a], [eB e O.errs s.ns.length, gB g O.got s.ns.length], M, [d], H] [0, 1, 2, 3, 4, 5] [0, 2, 5] [1, 3, 4] (by decide) (by simp [glue]) (by simpa [glue] using hk F2 e g hF2)
      clear hk
      refine enter13 ?_
      repeat' ((conv => whnf); (first | with_reducible refine h36 _ _ (hF1 _) (hH1 _) (fun a c M hG => ?_) | with_reducible refine h35 _ _ _ _ _ (hH1 _) hG (fun e g => ?_) | refine Branch.f rfl ?_ | refine SDraw.all (by kernel_rfl) ?_ | refine Look.cell (hbm _ _ _ _ _) g1 ?_ | with_reducible refine Val.to _ hconv ?_ | with_reducible refine Val.to _ hsum ?_ | refine ⟨_ :: _ :: _ :: (M ++ [_]), _, _, heq _ _ _ _ _, _, hput, appK_to ?_⟩ | refine Branch.df (show ¬ (0 : Int) ≤ O.win by omega) ?_ | refine h39 _ _ _ _ _ _ (fun F2 hF2 => ?_) | refine Look.cells (List.mem_append_right _ (.head _)) rfl (hc6 _ _) ?_ | refine ⟨F2 ++ (_ :: _ :: _ :: M), _, _, heq4 _ _ _ _ _ _, _, hput4 _ _, appK_to ?_⟩ | exact hfin _ _ _ _ _ _ hF2 | refine New.mk (fun _ => ?_) | refine Look.at0 ?_ | refine Cell.row ?_ | refine Cells.row rfl ?_ | refine Put.row rfl ?_))
    · obtain ⟨win, bits, sent, errs, got⟩ := O
      dsimp only at hwe
      subst hwe
      dsimp only at *
      have hwl := (List.getElem?_eq_some_iff.1 hx).1
      have hnb := encN_lt f
      have h36T : ∀ (X : Heap) (K2 : Value → Heap → Prop), (∀ z ∈ bB p nv T :: Y, z ∈ X) → (∀ z ∈ H, z ∈ X) → (∀ a c M, Grow snC 14 57 (.slice a s.ns.length c) s.snd M → K2 (.slice a s.ns.length c) (M ++ X)) → SCalls Tryz.prog 36 [ptr p] X K2 := fun X K2 h1 h2 hk => by
        obtain ⟨nv', rs, hr⟩ := hb3.read (H := X) h1
        exact c36 (hD.mono h2) hr hw.w hn2 hk
      have h37T : ∀ (X : Heap) e g (K2 : Value → Heap → Prop), (∀ z ∈ bB p nv T :: Y, z ∈ X) → (∀ z ∈ H, z ∈ X) → K2 (zi (encN f : Int)) X → SCalls Tryz.prog 37 [ptr p, oV ⟨(w : Int), bits, sent, errs, got⟩ e g s.ns.length] X K2 := fun X e g K2 h1 h2 hk => by
        obtain ⟨nv', rs, hr⟩ := hb3.read (H := X) h1
        exact c37 (w := w) (hD.mono h2) hr hx hbx hokf rfl hk
      have hF2 : ∀ z ∈ bB p nv T :: Y, ∀ (a b c d : Nat × Blk) (M M2 : Heap), z ∈ M2 ++ ((a :: b :: c :: (M ++ [d])) ++ (bB p nv T :: (Y ++ H))) := fun z hz a b c d M M2 => List.mem_append_right _ (hF' T z hz a b c d M)
      have hH2 : ∀ z ∈ H, ∀ (a b c d : Nat × Blk) (M M2 : Heap), z ∈ M2 ++ ((a :: b :: c :: (M ++ [d])) ++ (bB p nv T :: (Y ++ H))) := fun z hz a b c d M M2 => List.mem_append_right _ (hH' T z hz a b c d M)
      have h38 : ∀ (t : Nat) e g a2 c2 (M2 X : Heap) (K2 : Value → Heap → Prop), Grow snC 14 57 (.slice a2 s.ns.length c2) s.snd M2 → (∀ z ∈ H, z ∈ X) →
          K2 (.tuple ⟨[.agg ⟨[zi (frF s.snd (encN f) w fl).node, zi (frF s.snd (encN f) w fl).bit]⟩, .bool (frF s.snd (encN f) w fl).any, .bool (frF s.snd (encN f) w fl).late]⟩) ((t, .row 90 [zi (w : Int), zi bits, .bool sent, .slice (some ⟨e, 0, none⟩) s.ns.length s.ns.length, .slice (some ⟨g, 0, none⟩) s.ns.length s.ns.length, .slice a2 s.ns.length c2, zi (encN f : Int)] (0, 0)) :: (M2 ++ X)) →
          SCalls Tryz.prog 38 [ptr t, .slice fa fl.length fc] ((t, .row 90 [zi (w : Int), zi bits, .bool sent, .slice (some ⟨e, 0, none⟩) s.ns.length s.ns.length, .slice (some ⟨g, 0, none⟩) s.ns.length s.ns.length, .slice a2 s.ns.length c2, zi (encN f : Int)] (0, 0)) :: (M2 ++ X)) K2 := fun t e g a2 c2 M2 X K2 hG2 hs hk => by
        refine c38 (l := s.snd) (w := w) (nn := encN f) (.head _) (hG2.ins snC_len fun z hz => .tail _ (List.mem_append_left _ hz)) (hf.mono fun z hz => .tail _ (List.mem_append_right _ (hs z hz))) (fun x hx => ?_) (by omega) hk
        rw [hsl]
        exact ⟨(hok x hx).1, (hok x hx).2.1⟩
      have hfin : ∀ (F2 : Heap) (x y a d : Nat × Blk) e g (M M2 : Heap), BusO p ⟨T, stlN ⟨(w : Int), bits, sent, errs, got⟩ bt s.ns⟩ F2 → Keep ((x :: y :: (M2 ++ (F2 ++ (a :: eB e errs s.ns.length :: gB g got s.ns.length :: M)))) ++ (d :: H)) fun H' => K (.tuple ⟨[oV ⟨(w : Int), bits, sent, errs, got⟩ e g s.ns.length, zi 0]⟩) H' := fun F2 x y a d e g M M2 hF2 =>
        Keep.glue [[x, y], M2, F2, [a], [eB e errs s.ns.length, gB g got s.ns.length], M, [d], H] [0, 1, 2, 3, 4, 5, 6, 7] [2, 4, 7] [0, 1, 3, 5, 6] (by decide) (by simp [glue]) (by simpa [glue] using hk F2 e g hF2)
      have heq6 : ∀ (F2 M2 : Heap) (x y a b c d : Nat × Blk) (M : Heap), x :: y :: (M2 ++ (F2 ++ (a :: b :: c :: (M ++ (d :: H))))) = (x :: y :: (M2 ++ (F2 ++ (a :: b :: c :: M)))) ++ d :: H := by intros; simp
      have h39' : ∀ (x y a d : Nat × Blk) e g M M2 (K2 : Value → Heap → Prop), (∀ F2, BusO p ⟨T, stlN ⟨(w : Int), bits, sent, errs, got⟩ bt s.ns⟩ F2 → K2 (.tuple ⟨[]⟩) (x :: y :: (M2 ++ (F2 ++ (a :: eB e errs s.ns.length :: gB g got s.ns.length :: (M ++ (d :: H))))))) →
        SCalls Tryz.prog 39 [ptr p, oV ⟨(w : Int), bits, sent, errs, got⟩ e g s.ns.length, zi bt] (x :: y :: (M2 ++ ((a :: eB e errs s.ns.length :: gB g got s.ns.length :: (M ++ [d])) ++ (bB p nv T :: (Y ++ H))))) K2 := fun x y a d e g M M2 K2 hk =>
        SCalls.under (x :: y :: M2) (h39 a d e g M _ fun F2 hF => hk F2 hF)
      generalize frF s.snd (encN f) w fl = r at *
      obtain ⟨any, nd, bit, late⟩ := r
      dsimp only at hbt h38
      have hs6 : ∀ (t6 e g : Nat) (X : Heap), (t6, Blk.row 37 [zi (w : Int), zi bits, .bool sent, .slice (some ⟨e, 0, none⟩) s.ns.length s.ns.length, .slice (some ⟨g, 0, none⟩) s.ns.length s.ns.length] (0, 0)) ∈ X → Seen X [(t6, Blk.row 37 [zi (w : Int), zi bits, .bool sent, .slice (some ⟨e, 0, none⟩) s.ns.length s.ns.length, .slice (some ⟨g, 0, none⟩) s.ns.length s.ns.length] (0, 0))] := fun t6 e g X h => .same h .nil
      dsimp only [oV] at h37T h39' hfin h35 hput4 hc6 h38
      clear hk hb2 hb3 h h39
      cases any with
      | true =>
        rw [if_pos rfl] at hbt
        subst hbt
        refine enter13 ?_
        repeat' ((conv => whnf); (first | with_reducible refine h36 _ _ (hF1 _) (hH1 _) (fun a c M hG => ?_) | with_reducible refine h35 _ _ _ _ _ (hH1 _) hG (fun e g => ?_) | refine SDraw.held (by kernel_rfl) [_, bB p nv s.time] (.same (.head _) (.same (hbm _ _ _ _ _) .nil)) ?_ | with_reducible refine Val.to _ hconv ?_ | with_reducible refine Val.to _ hsum ?_ | refine ⟨_ :: _ :: _ :: (M ++ [_]), _, _, heq _ _ _ _ _, _, hput, appK_to ?_⟩ | refine Branch.dt (show (0 : Int) ≤ (w : Int) by omega) ?_ | refine SDraw.held (by kernel_rfl) [_] (hs6 _ _ _ _ (.head _)) ?_ | refine And.intro ?_ ?_ | with_reducible refine h36T _ _ (fun z hz => hF' T z hz _ _ _ _ _) (fun z hz => hH' T z hz _ _ _ _ _) (fun a2 c2 M2 hG2 => ?_) | with_reducible refine h37T _ _ _ _ (fun z hz => hF' T z hz _ _ _ _ _) (fun z hz => hH' T z hz _ _ _ _ _) ?_ | with_reducible refine h37T _ _ _ _ (fun z hz => hF2 z hz _ _ _ _ _ _) (fun z hz => hH2 z hz _ _ _ _ _ _) ?_ | refine Kept.mk (hs6 _ _ _ _ (.head _)) ?_ | refine Kept.mk (hs6 _ _ _ _ (List.mem_append_right _ (.head _))) ?_ | with_reducible refine h38 _ _ _ _ _ _ _ _ hG2 (fun z hz => hH' T z hz _ _ _ _ _) ?_ | refine Branch.f (by rfl) ?_ | refine Branch.t rfl ?_ | refine Look.cells (.tail _ (.tail _ (List.mem_append_right _ (.head _)))) rfl (hc6 _ _) ?_ | with_reducible refine h39' _ _ _ _ _ _ _ _ _ (fun F2 hF2 => ?_) | refine Look.cells (.tail _ (.tail _ (List.mem_append_right _ (List.mem_append_right _ (.head _))))) rfl (hc6 _ _) ?_ | refine ⟨_ :: _ :: (M2 ++ (F2 ++ (_ :: _ :: _ :: M))), _, _, heq6 _ _ _ _ _ _ _ _ _, _, hput4 _ _, appK_to ?_⟩ | refine Look.cells (List.mem_append_right _ (.head _)) rfl (hc6 _ _) ?_ | exact hfin _ _ _ _ _ _ _ _ _ hF2 | refine New.mk (fun _ => ?_) | refine Look.at0 ?_ | refine Cell.row ?_ | refine Cells.row rfl ?_ | refine Put.row rfl ?_ | refine Look.at1 ?_))
      | false =>
        rw [if_neg (by decide)] at hbt
        subst hbt
        refine enter13 ?_
        repeat' ((conv => whnf); (first | with_reducible refine h36 _ _ (hF1 _) (hH1 _) (fun a c M hG => ?_) | with_reducible refine h35 _ _ _ _ _ (hH1 _) hG (fun e g => ?_) | refine SDraw.held (by kernel_rfl) [_, bB p nv s.time] (.same (.head _) (.same (hbm _ _ _ _ _) .nil)) ?_ | with_reducible refine Val.to _ hconv ?_ | with_reducible refine Val.to _ hsum ?_ | refine ⟨_ :: _ :: _ :: (M ++ [_]), _, _, heq _ _ _ _ _, _, hput, appK_to ?_⟩ | refine Branch.dt (show (0 : Int) ≤ (w : Int) by omega) ?_ | refine SDraw.held (by kernel_rfl) [_] (hs6 _ _ _ _ (.head _)) ?_ | refine And.intro ?_ ?_ | with_reducible refine h36T _ _ (fun z hz => hF' T z hz _ _ _ _ _) (fun z hz => hH' T z hz _ _ _ _ _) (fun a2 c2 M2 hG2 => ?_) | with_reducible refine h37T _ _ _ _ (fun z hz => hF' T z hz _ _ _ _ _) (fun z hz => hH' T z hz _ _ _ _ _) ?_ | with_reducible refine h37T _ _ _ _ (fun z hz => hF2 z hz _ _ _ _ _ _) (fun z hz => hH2 z hz _ _ _ _ _ _) ?_ | refine Kept.mk (hs6 _ _ _ _ (.head _)) ?_ | refine Kept.mk (hs6 _ _ _ _ (List.mem_append_right _ (.head _))) ?_ | with_reducible refine h38 _ _ _ _ _ _ _ _ hG2 (fun z hz => hH' T z hz _ _ _ _ _) ?_ | refine Branch.f rfl ?_ | refine Look.cells (.tail _ (.tail _ (List.mem_append_right _ (.head _)))) rfl (hc6 _ _) ?_ | with_reducible refine h39' _ _ _ _ _ _ _ _ _ (fun F2 hF2 => ?_) | refine Look.cells (.tail _ (.tail _ (List.mem_append_right _ (List.mem_append_right _ (.head _))))) rfl (hc6 _ _) ?_ | refine ⟨_ :: _ :: (M2 ++ (F2 ++ (_ :: _ :: _ :: M))), _, _, heq6 _ _ _ _ _ _ _ _ _, _, hput4 _ _, appK_to ?_⟩ | refine Look.cells (List.mem_append_right _ (.head _)) rfl (hc6 _ _) ?_ | exact hfin _ _ _ _ _ _ _ _ _ hF2 | refine New.mk (fun _ => ?_) | refine Look.at0 ?_ | refine Cell.row ?_ | refine Cells.row rfl ?_ | refine Put.row rfl ?_ | refine Look.at1 ?_))
  · have hk := hK0 he
    have h35 : ∀ (X : Heap) a c (M : Heap) (K2 : Value → Heap → Prop), (∀ z ∈ H, z ∈ X) → Grow snC 14 57 (.slice a s.ns.length c) s.snd M → K2 (.tuple ⟨[oZ, zi (s.rd fl).e]⟩) (M ++ X) → SCalls Tryz.prog 35 [.slice a s.ns.length c, .slice fa fl.length fc] (M ++ X) K2 := fun X a c M K2 h2 hG k0 => h35 X a c M K2 h2 hG (fun _ => k0) (fun h => absurd h he)
    have hb : decide ((s.rd fl).e = 0) = false := decide_eq_false he
    clear hK0 hK1
    have hfin : ∀ (x z : Nat × Blk) (M : Heap), Keep (x :: (M ++ (z :: (F ++ H)))) fun H' => K (.tuple ⟨[oZ, zi (s.rd fl).e]⟩) H' := fun x z M => Keep.glue [[x], M, [z], F ++ H] [0, 1, 2, 3] [3] [0, 1, 2] (by decide) (by simp [glue]) (by simpa [glue] using hk)
    refine enter13 ?_
    repeat' ((conv => whnf); (first | with_reducible refine h36 _ _ (hF1 _) (hH1 _) (fun a c M hG => ?_) | with_reducible refine h35 _ _ _ _ _ (hH1 _) hG ?_ | refine Branch.t (by rw [hb]; rfl) ?_ | refine ⟨_ :: M, _, _, rfl, _, PutOk.rowb (cs' := [zi 0, zi 0, .bool false, .slice none 0 0, .slice none 0 0]) rfl rfl, appK_to ?_⟩ | refine Look.skip (Look.app ?_) | exact hfin _ _ _ | refine New.mk (fun _ => ?_) | refine Look.at0 ?_ | refine Cells.row rfl ?_ | refine Put.row rfl ?_))
end
end Go.Proofs.YtfmggepbcpceiaaGreatDoor


/- Layer 4: a round of the program, two outcomes that are one, whether anything is sent: by walks. -/
set_option linter.unusedVariables false
set_option linter.unusedSimpArgs false
set_option maxRecDepth 100000
set_option maxHeartbeats 4000000
namespace Go.Proofs.YtfmggepbcpceiaaGreatDoor
open Sx
inductive S20a (A2 A3 A5 : Value) : List Value → Prop
  | mk {r0 r1 r4 r6 r7 r8 r9 r10 r11 r12 r13 r14 r15 r16 r17 r18 r19 r20 r21 r22 r23 r24 r25 r26 r27 r28 r29 r30 r31 r32 r33 r34 r35 r36 r37 r38 r39 r40 r41 r42 r43 r44 r45 r46 r47 r48 r49 r50 r51 r52 r53 r54 r55 r56 r57 r58 r59 r60 r61 r62 r63 r64 r65 r66 r67 r68 r69 r70 r71 r72 r73 r74 r75 r76 r77 r78 r79 : Value} : S20a A2 A3 A5 [r0, r1, A2, A3, r4, A5, r6, r7, r8, r9, r10, r11, r12, r13, r14, r15, r16, r17, r18, r19, r20, r21, r22, r23, r24, r25, r26, r27, r28, r29, r30, r31, r32, r33, r34, r35, r36, r37, r38, r39, r40, r41, r42, r43, r44, r45, r46, r47, r48, r49, r50, r51, r52, r53, r54, r55, r56, r57, r58, r59, r60, r61, r62, r63, r64, r65, r66, r67, r68, r69, r70, r71, r72, r73, r74, r75, r76, r77, r78, r79]
inductive S20b (A2 A3 A6 : Value) : List Value → Prop
  | mk {r0 r1 r4 r5 r7 r8 r9 r10 r11 r12 r13 r14 r15 r16 r17 r18 r19 r20 r21 r22 r23 r24 r25 r26 r27 r28 r29 r30 r31 r32 r33 r34 r35 r36 r37 r38 r39 r40 r41 r42 r43 r44 r45 r46 r47 r48 r49 r50 r51 r52 r53 r54 r55 r56 r57 r58 r59 r60 r61 r62 r63 r64 r65 r66 r67 r68 r69 r70 r71 r72 r73 r74 r75 r76 r77 r78 r79 : Value} : S20b A2 A3 A6 [r0, r1, A2, A3, r4, r5, A6, r7, r8, r9, r10, r11, r12, r13, r14, r15, r16, r17, r18, r19, r20, r21, r22, r23, r24, r25, r26, r27, r28, r29, r30, r31, r32, r33, r34, r35, r36, r37, r38, r39, r40, r41, r42, r43, r44, r45, r46, r47, r48, r49, r50, r51, r52, r53, r54, r55, r56, r57, r58, r59, r60, r61, r62, r63, r64, r65, r66, r67, r68, r69, r70, r71, r72, r73, r74, r75, r76, r77, r78, r79]
section
variable {K : Value → Heap → Prop} {H : Heap} {l : List Sn} {lv fv : Value} {fl : List (Int × Int)} {v1 v2 : List Value} {o : Out}
theorem c20 (h1 : OuR v1 o H) (h2 : OuR v2 o H) (hK : K (.bool true) H) : SCalls Tryz.prog 20 [.agg ⟨v1⟩, .agg ⟨v2⟩] H K := by
  obtain ⟨se1, sg1, rfl, he1, hg1⟩ := h1
  obtain ⟨se2, sg2, rfl, he2, hg2⟩ := h2
  obtain ⟨ea, ec, rfl, hml⟩ := he1.sv
  obtain ⟨ga, gc, rfl, hmg⟩ := hg1.sv
  obtain ⟨ea2, ec2, rfl, _⟩ := he2.sv
  obtain ⟨ga2, gc2, rfl, _⟩ := hg2.sv
  obtain ⟨win, bits, sent, errs, got⟩ := o
  dsimp only at *
  simp only [maxLen] at hml hmg
  refine enter20 ?_
  repeat' ((conv => whnf); (first | refine Branch.t (beq_self_eq_true _) ?_ | refine New.mk (fun _ => ?_) | refine Look.at0 ?_ | refine Cell.row ?_ | refine Look.at1 ?_ | refine Branch.not ?_ | refine Branch.dt rfl ?_))
  rename_i r1 r2
  refine SLoop.invA (fun (k : Nat) S H' => k ≤ errs.length ∧ S20a (ptr r1) (ptr r2) (zi (k : Int)) S ∧ H' = (r2, .row 37 [zi win, zi bits, .bool sent, .slice ea2 errs.length ec2, .slice ga2 got.length gc2] (0, 0)) :: (r1, .row 37 [zi win, zi bits, .bool sent, .slice ea errs.length ec, .slice ga got.length gc] (0, 0)) :: H) (fun k => errs.length - k) 0 (Keep.all ⟨Nat.zero_le _, .mk, rfl⟩) ?_
  rintro k S H' ⟨hk, hS, rfl⟩ R hR
  cases hS
  by_cases hlt : k < errs.length
  · obtain ⟨x, hx, _, _⟩ := list_at hlt
    obtain ⟨q1, o1, c1, b1, e1, hm1, hc1⟩ := he1.at1 hx rfl
    obtain ⟨q2, o2, c2, b2, e2, hm2, hc2⟩ := he2.at1 hx rfl
    injection e1 with e1 _ e1c
    injection e2 with e2 _ e2c
    subst e1 e2 e1c e2c
    have hnext : ∀ S H', S20a (ptr r1) (ptr r2) (zi ((k + 1 : Nat) : Int)) S → H' = (r2, .row 37 [zi win, zi bits, .bool sent, .slice (some ⟨q2, o2, none⟩) errs.length ec2, .slice ga2 got.length gc2] (0, 0)) :: (r1, .row 37 [zi win, zi bits, .bool sent, .slice (some ⟨q1, o1, none⟩) errs.length ec, .slice ga got.length gc] (0, 0)) :: H → R S H' := fun S H' g1 g2 => hR (k + 1) S H' (by omega) (Keep.all ⟨hlt, g1, g2⟩)
    clear hR hK
    repeat' ((conv => whnf); (first | refine Branch.dt (show (k : Int) < (errs.length : Int) by omega) ?_ | refine SDraw.all (by kernel_rfl) ?_ | refine Idx.nat hlt ?_ | refine Look.cell (.tail _ (.tail _ hm1)) hc1 ?_ | refine Look.cell (.tail _ (.tail _ hm2)) hc2 ?_ | exact hnext _ _ .mk rfl | refine Look.at0 ?_ | refine Cell.row ?_ | refine Look.at1 ?_ | with_reducible refine Val.i64 (by omega) (by omega) ?_ | refine Branch.not ?_ | refine Branch.dt rfl ?_))
  · obtain rfl : k = errs.length := by omega
    clear hR
    repeat' ((conv => whnf); (first | refine Branch.df (show ¬ (errs.length : Int) < (errs.length : Int) by omega) ?_ | refine Cell.row ?_ | refine Look.at1 ?_))
    refine SLoop.invA (fun (k : Nat) S H' => k ≤ got.length ∧ S20b (ptr r1) (ptr r2) (zi (k : Int)) S ∧ H' = (r2, .row 37 [zi win, zi bits, .bool sent, .slice ea2 errs.length ec2, .slice ga2 got.length gc2] (0, 0)) :: (r1, .row 37 [zi win, zi bits, .bool sent, .slice ea errs.length ec, .slice ga got.length gc] (0, 0)) :: H) (fun k => got.length - k) 0 (Keep.all ⟨Nat.zero_le _, .mk, rfl⟩) ?_
    rintro k S H' ⟨hk, hS, rfl⟩ R hR
    cases hS
    by_cases hlt : k < got.length
    · obtain ⟨x, hx, _, _⟩ := list_at hlt
      obtain ⟨q1, o1, c1, b1, e1, hm1, hc1⟩ := hg1.at1 hx rfl
      obtain ⟨q2, o2, c2, b2, e2, hm2, hc2⟩ := hg2.at1 hx rfl
      injection e1 with e1 _ e1c
      injection e2 with e2 _ e2c
      subst e1 e2 e1c e2c
      have hnext : ∀ S H', S20b (ptr r1) (ptr r2) (zi ((k + 1 : Nat) : Int)) S → H' = (r2, .row 37 [zi win, zi bits, .bool sent, .slice ea2 errs.length ec2, .slice (some ⟨q2, o2, none⟩) got.length gc2] (0, 0)) :: (r1, .row 37 [zi win, zi bits, .bool sent, .slice ea errs.length ec, .slice (some ⟨q1, o1, none⟩) got.length gc] (0, 0)) :: H → R S H' := fun S H' g1 g2 => hR (k + 1) S H' (by omega) (Keep.all ⟨hlt, g1, g2⟩)
      clear hR hK
      repeat' ((conv => whnf); (first | refine Branch.dt (show (k : Int) < (got.length : Int) by omega) ?_ | refine SDraw.all (by kernel_rfl) ?_ | refine Idx.nat hlt ?_ | refine Look.cell (.tail _ (.tail _ hm1)) hc1 ?_ | refine Look.cell (.tail _ (.tail _ hm2)) hc2 ?_ | refine Branch.t (beq_self_eq_true _) ?_ | exact hnext _ _ .mk rfl | refine Look.at0 ?_ | refine Cell.row ?_ | refine Look.at1 ?_ | with_reducible refine Val.i64 (by omega) (by omega) ?_ | refine Branch.not ?_))
    · obtain rfl : k = got.length := by omega
      clear hR
      repeat' ((conv => whnf); (first | refine Branch.df (show ¬ (got.length : Int) < (got.length : Int) by omega) ?_ | exact Keep.d2 hK | refine Cell.row ?_ | refine Look.at1 ?_))
end
end Go.Proofs.YtfmggepbcpceiaaGreatDoor


/- Layer 4: whether anything is sent: by walks. -/
set_option linter.unusedVariables false
set_option linter.unusedSimpArgs false
set_option maxRecDepth 100000
set_option maxHeartbeats 4000000
namespace Go.Proofs.YtfmggepbcpceiaaGreatDoor
open Sx
def f5 : Fm := ⟨5, false, false, 1, 0, 0, 0, 0, 0, 0, 0, 0⟩
section
variable {K : Value → Heap → Prop} {H : Heap}
theorem c16 (hD : Db H) (hK : K (.bool true) H) : SCalls Tryz.prog 16 [] H K := by
  have h9 : ∀ K2 : Value → Heap → Prop, (∀ p F, BusO p ⟨0, [n0, n0]⟩ F → K2 (.tuple ⟨[ptr p, zi 0]⟩) (F ++ H)) → SCalls Tryz.prog 9 [zi 2] H K2 := fun K2 hk => c9 (fun h => absurd (by decide) h) (fun _ p F hF => hk p F hF)
  have h10a : ∀ p F, BusO p ⟨0, [n0, n0]⟩ F → ∀ K2 : Value → Heap → Prop, (∀ F', BusO p ⟨0, [⟨true, u0, none, []⟩, n0]⟩ F' → K2 (zi 0) (F' ++ H)) → SCalls Tryz.prog 10 [ptr p, zi 0, .bool true] (F ++ H) K2 := fun p F hF K2 hk => c10 hF fun F' hF' => hk F' hF'
  have h10b : ∀ p F, BusO p ⟨0, [⟨true, u0, none, []⟩, n0]⟩ F → ∀ K2 : Value → Heap → Prop, (∀ F', BusO p ⟨0, [⟨true, u0, none, []⟩, ⟨true, u0, none, []⟩]⟩ F' → K2 (zi 0) (F' ++ H)) → SCalls Tryz.prog 10 [ptr p, zi 1, .bool true] (F ++ H) K2 := fun p F hF K2 hk => c10 hF fun F' hF' => hk F' hF'
  have h11 : ∀ p F, BusO p ⟨0, [⟨true, u0, none, []⟩, ⟨true, u0, none, []⟩]⟩ F → ∀ K2 : Value → Heap → Prop, (∀ F', BusO p (oneB 1 0 (some f5) [] 0) F' → K2 (zi 0) (F' ++ H)) → SCalls Tryz.prog 11 [ptr p, zi 0, frV f5] (F ++ H) K2 := fun p F hF K2 hk => c11 hF (by decide) fun F' hF' => hk F' hF'
  have hok : okF f5 = true := by decide
  have h13 : ∀ p F, BusO p (oneB 1 0 (some f5) [] 0) F → ∀ K2 : Value → Heap → Prop, (∀ F' e g, BusO p (oneB 1 0 none [f5] ((0 + (encN f5 + 3)) % 18446744073709551616)) F' → K2 (.tuple ⟨[.agg ⟨[zi 0, zi ((encN f5 : Int) + 3), .bool true, .slice (some ⟨e, 0, none⟩) 2 2, .slice (some ⟨g, 0, none⟩) 2 2]⟩, zi 0]⟩) (F' ++ (eB e [0, 0] 2 :: gB g [false, true] 2 :: H))) →
      SCalls Tryz.prog 13 [ptr p, .slice none 0 0] (F ++ H) K2 := fun p F hF K2 hk => by
    have hr := one_calm hok (m := 1) (by decide) (by decide)
    rw [← oneB_snd 1 0 f5 [] 0] at hr
    have hr : (oneB 1 0 (some f5) [] 0).rd [] = ⟨0, -1, ⟨0, (encN f5 : Int) + 3, true, [0, 0], [false, true]⟩⟩ := hr
    have hs := step_calm (m := 1) (a := 0) (inn := []) (t := 0) hok (by decide) (by decide) (by decide)
    have hw : BsW (oneB 1 0 (some f5) [] 0) := by
      refine ⟨by decide, by decide, fun x hx => ?_, by decide⟩
      rcases List.mem_cons.1 hx with rfl | hx
      · exact ⟨UnW.zero, fun h => (nomatch h), (fun f hf => by injection hf with hf; subst hf; exact ⟨hok, by decide⟩), by decide⟩
      · rw [List.eq_of_mem_replicate hx]; exact .new
    refine c13 hF hw hD (fl := []) .nil (fun he => ?_) (fun he F' e g hF' => ?_)
    · rw [hr] at he; exact absurd rfl he
    · rw [hs] at hF'
      have := hk F' e g hF'
      rw [hr]
      exact this
  have h14 : ∀ p F T, BusO p (oneB 1 0 none [f5] T) F → ∀ t X (K2 : Value → Heap → Prop), (∀ F' q c, K2 (.tuple ⟨[.slice (some ⟨q, 0, none⟩) 1 c, zi 0]⟩) (t :: (F' ++ ((q, .buf 32 (frC f5) (c * 12)) :: X)))) → SCalls Tryz.prog 14 [ptr p, zi 1] (t :: (F ++ X)) K2 := fun p F T hF t X K2 hk => by
    refine SCalls.under [t] (c14 hF (fun h => absurd (show (0 : Int) ≤ 1 ∧ (1 : Int) < ((2 : Nat) : Int) by decide) h) (fun _ F' iv M _ hG => ?_))
    have hG : Grow frC 12 32 iv [f5] M := hG
    obtain ⟨a, c, rfl, _⟩ := hG.sv
    obtain ⟨q, rfl, _, _, _, rfl⟩ := hG.inv (by simp)
    exact hk F' q c
  clear hok
  have hfin : ∀ (t q e g : Nat × Blk) F, Keep (t :: (F ++ (q :: e :: g :: H))) fun H' => K (.bool true) H' := fun t q e g F => Keep.glue [[t], F, [q, e, g], H] [0, 1, 2, 3] [3] [0, 1, 2] (by decide) (by simp [glue]) (by simpa [glue] using hK)
  clear hK hD
  refine enter16 (_u := undef) ?_
  repeat' ((conv => whnf); (first | with_reducible refine h9 _ (fun p F hF => ?_) | with_reducible refine h10a _ _ hF _ (fun F1 hF1 => ?_) | with_reducible refine h10b _ _ hF1 _ (fun F2 hF2 => ?_) | refine h11 _ _ hF2 _ (fun F3 hF3 => ?_) | with_reducible refine h13 _ _ hF3 _ (fun F4 e g hF4 => ?_) | with_reducible refine h14 _ _ _ hF4 _ _ _ (fun F5 q c => ?_) | refine Idx.of 1 rfl (by decide) ?_ | refine Idx.of 0 rfl (by decide) ?_ | refine Look.cell (.tail _ (List.mem_append_right _ (.tail _ (.tail _ (.head _))))) (v := .bool true) rfl ?_ | refine Look.cell (.tail _ (List.mem_append_right _ (.head _))) (v := .int .u32 5) rfl ?_ | exact hfin _ _ _ _ _ | refine New.mk (fun _ => ?_) | refine Look.at0 ?_ | refine Cell.row ?_ | refine Put.row rfl ?_ | refine Branch.not ?_ | refine Branch.dt rfl ?_ | refine Branch.t rfl ?_ | refine Branch.f rfl ?_))
end
end Go.Proofs.YtfmggepbcpceiaaGreatDoor


/- Input slices: from what the row tells of one to what a walk knows of it. -/
set_option linter.unusedVariables false
set_option linter.unusedSimpArgs false
namespace Go.Proofs.YtfmggepbcpceiaaGreatDoor
open Sx
theorem inS_of {α : Type} {f : α → List Value} {k B : Nat} {R : World → List Value → Prop} {Good : α → Prop} {w : World} {a : Option Addr} {n c : Nat} (h : SliceAt k B R w a n c) (hk0 : 0 < k) (hk : ∀ x, (f x).length = k) (hR : ∀ cs, R w cs → ∃ x, cs = f x ∧ Good x) :
    ∃ H L, L.length = n ∧ InS f k (.slice a L.length c) H L ∧ (∀ x ∈ L, Good x) ∧ Holds w H ∧ ∀ p ∈ H, p.2.excl = false := by
  have hml : n ≤ maxLen := Nat.le_trans h.1 h.2.1
  by_cases hl : 0 < n
  · obtain ⟨b, o, rfl, hb, hc⟩ := h.plain hk0 hl
    obtain ⟨L, h1, h2⟩ := list_of (P := fun j (m : α) => Good m ∧ ∀ i v, (f m)[i]? = some v → w.cell? ⟨b, o + j * k + i, none⟩ = some v) n fun j hj => by
      obtain ⟨cs, hlc, hcell, hr⟩ := hc j hj
      obtain ⟨x, rfl, hg⟩ := hR cs hr
      refine ⟨x, hg, fun i v hi => ?_⟩
      have hik : i < k := by rw [← hk x]; exact (List.getElem?_eq_some_iff.1 hi).1
      exact (hcell i hik).trans hi
    refine ⟨[(b, .ro fun j => w.cell? ⟨b, j, none⟩)], L, h1, ⟨_, c, rfl, by omega, .inr ⟨b, o, _, rfl, .head _, fun j x i v hj hv hi => (h2 j x hj).2 i v hv⟩⟩, fun x hx => ?_, ⟨fun p hp => ?_, List.pairwise_singleton _ _⟩, fun p hp => ?_⟩
    · obtain ⟨j, hlt, rfl⟩ := List.getElem_of_mem hx
      exact (h2 j _ (List.getElem?_eq_getElem hlt)).1
    · obtain rfl := List.mem_singleton.1 hp
      exact ⟨hb, fun _ _ h => h⟩
    · obtain rfl := List.mem_singleton.1 hp
      rfl
  · obtain rfl : n = 0 := by omega
    exact ⟨[], [], rfl, ⟨a, c, rfl, by simp, .inl rfl⟩, fun x hx => (by cases hx), Holds.empty w, fun p hp => by cases hp⟩
/-- Two inputs, side by side. -/
theorem Holds.join {w : World} {H G : Heap} (h1 : Holds w H) (h2 : Holds w G) (x1 : ∀ p ∈ H, p.2.excl = false) (x2 : ∀ p ∈ G, p.2.excl = false) : Holds w (H ++ G) := by
  refine ⟨fun p hp => ?_, List.pairwise_append.2 ⟨h1.sep, h2.sep, fun p hp q hq hx => ?_⟩⟩
  · rcases List.mem_append.1 hp with hp | hp
    · exact h1.at_ p hp
    · exact h2.at_ p hp
  · rw [x1 p hp, x2 q hq] at hx
    rcases hx with hx | hx <;> cases hx
theorem excl_join {H G : Heap} (x1 : ∀ p ∈ H, p.2.excl = false) (x2 : ∀ p ∈ G, p.2.excl = false) : ∀ p ∈ H ++ G, p.2.excl = false := fun p hp => by
  rcases List.mem_append.1 hp with hp | hp
  · exact x1 p hp
  · exact x2 p hp
end Go.Proofs.YtfmggepbcpceiaaGreatDoor


/- Layer 4: who wins a round: the law, by walks. -/
set_option linter.unusedVariables false
set_option linter.unusedSimpArgs false
set_option maxRecDepth 100000
set_option maxHeartbeats 4000000
namespace Go.Proofs.YtfmggepbcpceiaaGreatDoor
open Sx
section
variable {K : Value → Heap → Prop} {H : Heap} {l : List Sn} {lv fv : Value} {fl : List (Int × Int)}
theorem xC_one (x : Int × Int) : ∀ u ∈ xC x, u.oneCell' = true := by
  intro u hu
  simp only [xC, List.mem_cons, List.not_mem_nil, or_false] at hu
  rcases hu with rfl | rfl <;> rfl
theorem OuR.open {se sg : Value} {o : Out} {H : Heap} (h : OuR [zi o.win, zi o.bits, .bool o.sent, se, sg] o H) : InS (fun n : Int => [zi n]) 1 se H o.errs ∧ InS (fun b : Bool => [.bool b]) 1 sg H o.got := by
  obtain ⟨se', sg', e1, h2, h3⟩ := h
  injection e1 with _ e1
  injection e1 with _ e1
  injection e1 with _ e1
  injection e1 with e2 e1
  injection e1 with e3 _
  subst e2 e3
  exact ⟨h2, h3⟩
end
end Go.Proofs.YtfmggepbcpceiaaGreatDoor


/- Layer 4: what comes in; the law on rounds. -/
set_option linter.unusedVariables false
set_option linter.unusedSimpArgs false
set_option maxRecDepth 100000
set_option maxHeartbeats 4000000
namespace Go.Proofs.YtfmggepbcpceiaaGreatDoor
open Sx
theorem g5 : Tryz.prog.globalNamed "math/bits.deBruijn64tab" = some 5 := by kernel_rfl
theorem g5t : ∃ t, (Tryz.prog.globals[5]?).map (·.type) = some t ∧ Tryz.prog.underlying t = some (.array 64 5) ∧ Tryz.prog.cellsOf t = 64 := ⟨204, by kernel_rfl, by kernel_rfl, by kernel_rfl⟩
theorem db_of {W : World} {d : DataW Unit} {rest : List (String × DataW Unit)} (h : laidMet Tryz.prog (("math/bits.deBruijn32tab", d) :: ("math/bits.deBruijn64tab", Rows.laid_math_bits_deBruijn64tab) :: rest) W) :
    Db [(5, .ro fun j => if j = 1 then some (.int .u8 1) else none)] ∧ Holds W [(5, .ro fun j => if j = 1 then some (.int .u8 1) else none)] ∧ ∀ p ∈ [((5 : Nat), Blk.ro fun j => if j = 1 then some (.int .u8 1) else none)], p.2.excl = false := by
  obtain ⟨t, h1, h2, h3⟩ := g5t
  have hT := Lib.tabIs_of_head (k := .u8) (zs := [0, 1, 56, 2, 57, 49, 28, 3, 61, 58, 42, 50, 38, 29, 17, 4, 62, 47, 59, 36, 45, 43, 51, 22, 53, 39, 33, 30, 24, 18, 12, 5, 63, 55, 48, 27, 60, 41, 37, 16, 46, 35, 44, 21, 52, 32, 23, 11, 54, 26, 40, 15, 34, 20, 31, 10, 25, 14, 19, 9, 13, 8, 7, 6]) g5 h1 h2 (show Tryz.prog.underlying 5 = some (.int .u8) by kernel_rfl) (by kernel_rfl) h3 h.tail
  have hc : W.cell? ⟨5, 1, none⟩ = some (.int .u8 1) := hT.cell g5 1 (by decide)
  refine ⟨⟨_, .head _, rfl⟩, ⟨fun p hp => ?_, List.pairwise_singleton _ _⟩, fun p hp => ?_⟩
  · obtain rfl := List.mem_singleton.1 hp
    refine ⟨World.block_lt_of_cell? W _ hc, fun j v hj => ?_⟩
    by_cases h : j = 1
    · subst h
      injection hj with hj
      subst hj
      exact hc
    · simp only [h, if_false] at hj
      cases hj
  · obtain rfl := List.mem_singleton.1 hp
    rfl
theorem u8_of {x : Int} (h : (Lit.int .u8 x).wf = true) : ∃ b : UInt8, Value.int .u8 x = b8 b := by
  have e := wf_u8 h
  refine ⟨UInt8.ofNat x.toNat, ?_⟩
  have : (UInt8.ofNat x.toNat).toNat = x.toNat := by
    rw [UInt8.toNat_ofNat']
    exact Nat.mod_eq_of_lt (by omega)
  show _ = Value.int .u8 (((UInt8.ofNat x.toNat).toNat : Nat) : Int)
  rw [this, Int.toNat_of_nonneg e.1]
/-- A frame that comes in. -/
theorem frame_of {id n y0 y1 y2 y3 y4 y5 y6 y7 : Int} {x r : Bool} (h0 : (Lit.int .u32 id).wf = true) (h1 : (Lit.int .i64 n).wf = true) (k0 : (Lit.int .u8 y0).wf = true) (k1 : (Lit.int .u8 y1).wf = true) (k2 : (Lit.int .u8 y2).wf = true) (k3 : (Lit.int .u8 y3).wf = true)
    (k4 : (Lit.int .u8 y4).wf = true) (k5 : (Lit.int .u8 y5).wf = true) (k6 : (Lit.int .u8 y6).wf = true) (k7 : (Lit.int .u8 y7).wf = true) :
    ∃ f : Fm, [Value.int .u32 id, .bool x, .bool r, .int .i64 n, .int .u8 y0, .int .u8 y1, .int .u8 y2, .int .u8 y3, .int .u8 y4, .int .u8 y5, .int .u8 y6, .int .u8 y7] = frC f ∧ f.wf := by
  have e0 := wf_u32 h0
  have e1 := wf_i64 h1
  obtain ⟨b0, q0⟩ := u8_of k0
  obtain ⟨b1, q1⟩ := u8_of k1
  obtain ⟨b2, q2⟩ := u8_of k2
  obtain ⟨b3, q3⟩ := u8_of k3
  obtain ⟨b4, q4⟩ := u8_of k4
  obtain ⟨b5, q5⟩ := u8_of k5
  obtain ⟨b6, q6⟩ := u8_of k6
  obtain ⟨b7, q7⟩ := u8_of k7
  obtain ⟨i, rfl⟩ : ∃ i : Nat, id = (i : Int) := ⟨id.toNat, by omega⟩
  refine ⟨⟨i, x, r, n, b0, b1, b2, b3, b4, b5, b6, b7⟩, by rw [q0, q1, q2, q3, q4, q5, q6, q7], (by show i < 4294967296; omega), e1.1, e1.2⟩
def flOk (x : Int × Int) : Prop := (-9223372036854775808 ≤ x.1 ∧ x.1 ≤ 9223372036854775807) ∧ (-9223372036854775808 ≤ x.2 ∧ x.2 ≤ 9223372036854775807)
theorem flip_in {w : World} {cs : List Value} (h : R49 w cs) : ∃ x, cs = xC x ∧ flOk x := by
  obtain ⟨a, b, rfl, h0, h1⟩ := h
  exact ⟨(a, b), rfl, wf_i64 h0, wf_i64 h1⟩
theorem flips_of {w : World} {a : Option Addr} {n c : Nat} (h : SliceAt 2 B49 R49 w a n c) : ∃ H L, L.length = n ∧ InS xC 2 (.slice a L.length c) H L ∧ (∀ x ∈ L, flOk x) ∧ Holds w H ∧ (∀ p ∈ H, p.2.excl = false) ∧ L.length * 16 ≤ 140737488355328 := by
  obtain ⟨H, L, e, hin, hwf, hw, hx⟩ := inS_of (f := xC) (Good := flOk) h (by decide) xC_len (fun cs hc => flip_in hc)
  have hb := h.2.2.1
  simp only [reachBytes, B49] at hb
  exact ⟨H, L, e, hin, hwf, hw, hx, by omega⟩
end Go.Proofs.YtfmggepbcpceiaaGreatDoor


/- Layer 4: senders and flips in the other order; the law on that: by walks. -/
set_option linter.unusedVariables false
set_option linter.unusedSimpArgs false
set_option maxRecDepth 100000
set_option maxHeartbeats 4000000
namespace Go.Proofs.YtfmggepbcpceiaaGreatDoor
open Sx
section
variable {K : Value → Heap → Prop} {H : Heap} {l : List Sn} {lv fv : Value} {fl : List (Int × Int)}
end
end Go.Proofs.YtfmggepbcpceiaaGreatDoor


/- Layer 4: a bus (or two) somewhere in memory, beside what is only read: the calls on it. -/
set_option linter.unusedVariables false
set_option linter.unusedSimpArgs false
set_option maxRecDepth 100000
set_option maxHeartbeats 4000000
namespace Go.Proofs.YtfmggepbcpceiaaGreatDoor
open Sx
/-- Two objects and what is only read, wherever these lie. -/
def Own (A B : Heap → Prop) (R H : Heap) : Prop := ∃ F G X, A F ∧ B G ∧ H.Perm (F ++ (G ++ X)) ∧ ∀ z ∈ R, z ∈ X
def NoB (G : Heap) : Prop := G = []
section
variable {A B : Heap → Prop} {R R' H H' : Heap} {z : Nat × Blk} {M : Heap}
theorem Own.mem (h : Own A B R H) : ∀ z ∈ R, z ∈ H := fun z hz => by
  obtain ⟨F, G, X, _, _, hp, hs⟩ := h
  exact hp.symm.subset (List.mem_append_right _ (List.mem_append_right _ (hs z hz)))
theorem Own.less (h : Own A B R H) (hs : ∀ z ∈ R', z ∈ R) : Own A B R' H := by
  obtain ⟨F, G, X, h1, h2, hp, h3⟩ := h
  exact ⟨F, G, X, h1, h2, hp, fun z hz => h3 z (hs z hz)⟩
theorem Own.app (h : Own A B R H) : Own A B (M ++ R) (M ++ H) := by
  obtain ⟨F, G, X, h1, h2, hp, h3⟩ := h
  refine ⟨F, G, M ++ X, h1, h2, (hp.append_left M).trans ?_, fun z hz => ?_⟩
  · exact perm_glue' (ls := [M, F, G, X]) (p := [0, 1, 2, 3]) (q := [1, 2, 0, 3]) (by decide) (by simp [glue]) (by simp [glue])
  · rcases List.mem_append.1 hz with hz | hz
    · exact List.mem_append_left _ hz
    · exact List.mem_append_right _ (h3 z hz)
theorem Own.cons (h : Own A B R H) : Own A B (z :: R) (z :: H) := Own.app (M := [z]) h
theorem Own.skip (h : Own A B R H) : Own A B R (z :: H) := (Own.cons h).less fun _ hz => .tail _ hz
theorem Own.swap (h : Own A B R H) : Own B A R H := by
  obtain ⟨F, G, X, h1, h2, hp, h3⟩ := h
  refine ⟨G, F, X, h2, h1, hp.trans ?_, h3⟩
  exact perm_glue' (ls := [F, G, X]) (p := [0, 1, 2]) (q := [1, 0, 2]) (by decide) (by simp [glue]) (by simp [glue])
theorem Own.none (hs : ∀ z ∈ R, z ∈ H) : Own NoB NoB R H := ⟨[], [], H, rfl, rfl, .refl _, hs⟩
theorem InS.one {α : Type} {f : α → List Value} {k p c : Nat} {t : TypeId} {fz : Nat × Nat} {x : α} (hm : (p, .row t (f x) fz) ∈ R) (hk : ∀ x, (f x).length = k) : InS f k (.slice (some ⟨p, 0, none⟩) 1 c) R [x] :=
  InS.row (L := [x]) hm (by simp) hk (show (1 : Nat) ≤ maxLen by decide)
end
section
variable {B : Heap → Prop} {R H : Heap} {K : Value → Heap → Prop} {p : Nat} {s : Bs} {i : Int} {on : Bool} {f : Fm} {fl : List (Int × Int)} {fv : Value}
theorem h9 {n : Nat} (h : Own NoB B R H) (h1 : 1 ≤ n) (h2 : n ≤ 127) (hK : ∀ p H', Own (BusO p ⟨0, List.replicate n n0⟩) B R H' → K (.tuple ⟨[ptr p, zi 0]⟩) H') : SCalls Tryz.prog 9 [zi (n : Int)] H K := by
  obtain ⟨F, G, X, h3, h4, hp, h5⟩ := h
  refine c9 (fun hn => absurd (by omega) hn) (fun _ p F' hF' => ?_)
  rw [Int.toNat_natCast] at hF'
  refine hK p _ ⟨F', G, X, hF', h4, ?_, h5⟩
  rw [show F = [] from h3, List.nil_append] at hp
  exact hp.append_left F'
theorem h10 (h : Own (BusO p s) B R H) (hK : ∀ H', Own (BusO p (s.power i on).1) B R H' → K (zi (s.power i on).2) H') : SCalls Tryz.prog 10 [ptr p, zi i, .bool on] H K := by
  obtain ⟨F, G, X, h3, h4, hp, h5⟩ := h
  exact SCalls.perm (c10 h3 fun F' hF' => hK _ ⟨F', G, X, hF', h4, .refl _, h5⟩) hp
theorem h11 (h : Own (BusO p s) B R H) (hid : f.id < 4294967296) (hK : ∀ H', Own (BusO p (s.submit i f).1) B R H' → K (zi (s.submit i f).2) H') : SCalls Tryz.prog 11 [ptr p, zi i, frV f] H K := by
  obtain ⟨F, G, X, h3, h4, hp, h5⟩ := h
  exact SCalls.perm (c11 h3 hid fun F' hF' => hK _ ⟨F', G, X, hF', h4, .refl _, h5⟩) hp
theorem h54 (h : Own (BusO p s) B R H) (hK : ∀ H', Own (BusO p (s.cancel i).1) B R H' → K (.bool (s.cancel i).2) H') : SCalls Tryz.prog 54 [ptr p, zi i] H K := by
  obtain ⟨F, G, X, h3, h4, hp, h5⟩ := h
  exact SCalls.perm (c54 h3 fun F' hF' => hK _ ⟨F', G, X, hF', h4, .refl _, h5⟩) hp
theorem h14 (h : Own (BusO p s) B R H) (hi : s.is i) (hK : ∀ H' iv M, Own (BusO p (s.fetch i).1) B (M ++ R) H' → Grow frC 12 32 iv (s.at i).inn M → K (.tuple ⟨[iv, zi 0]⟩) H') : SCalls Tryz.prog 14 [ptr p, zi i] H K := by
  obtain ⟨F, G, X, h3, h4, hp, h5⟩ := h
  refine SCalls.perm (c14 h3 (fun hn => absurd hi hn) fun _ F' iv M hF' hM => hK _ iv M ⟨F', G, M ++ X, hF', h4, ?_, fun z hz => ?_⟩ hM) hp
  · exact perm_glue' (ls := [F', M, G, X]) (p := [0, 1, 2, 3]) (q := [0, 2, 1, 3]) (by decide) (by simp [glue]) (by simp [glue])
  · rcases List.mem_append.1 hz with hz | hz
    · exact List.mem_append_left _ hz
    · exact List.mem_append_right _ (h5 z hz)
theorem h14n (h : Own (BusO p s) B R H) (hi : ¬ s.is i) (hK : K (.tuple ⟨[.slice none 0 0, zi 1]⟩) H) : SCalls Tryz.prog 14 [ptr p, zi i] H K := by
  obtain ⟨F, G, X, h3, h4, hp, h5⟩ := h
  refine SCalls.perm (SCalls.keep (c14 h3 (fun _ => Keep.perm _ hp.symm hK) fun h => absurd h hi)) hp
theorem h24 (h : Own (BusO p s) B R H) (hK : K (.int .u64 (s.time : Int)) H) : SCalls Tryz.prog 24 [ptr p] H K := by
  obtain ⟨F, G, X, h3, h4, hp, h5⟩ := h
  obtain ⟨nv, rs, hr⟩ := h3.read (H := H) fun z hz => hp.symm.subset (List.mem_append_left _ hz)
  exact c24 hr hK
theorem h13 (h : Own (BusO p s) B R H) (hw : BsW s) (hD : Db R) (hf : InS xC 2 fv R fl)
    (hK : ∀ ea ec ga gc N H', Own (BusO p (s.step fl)) B (N ++ R) H' → OuR [zi (s.rd fl).o.win, zi (s.rd fl).o.bits, .bool (s.rd fl).o.sent, .slice ea (s.rd fl).o.errs.length ec, .slice ga (s.rd fl).o.got.length gc] (s.rd fl).o (N ++ R) →
      K (.tuple ⟨[.agg ⟨[zi (s.rd fl).o.win, zi (s.rd fl).o.bits, .bool (s.rd fl).o.sent, .slice ea (s.rd fl).o.errs.length ec, .slice ga (s.rd fl).o.got.length gc]⟩, zi (s.rd fl).e]⟩) H') : SCalls Tryz.prog 13 [ptr p, fv] H K := by
  obtain ⟨F, G, X, h3, h4, hp, h5⟩ := h
  have h6 : ∀ z ∈ R, z ∈ G ++ X := fun z hz => List.mem_append_right _ (h5 z hz)
  refine SCalls.perm (c13 h3 hw (hD.mono h6) (hf.mono h6) (fun he => ?_) (fun he F' e g hF' => ?_)) hp
  · have hz : (s.rd fl).o = zOut := round_zero he
    have hs : s.step fl = s := by unfold Bs.step; rw [if_neg he]
    have := hK none 0 none 0 [] (F ++ (G ++ X)) (by rw [hs]; exact ⟨F, G, X, h3, h4, .refl _, h5⟩) (by rw [hz]; exact .zero)
    rw [hz] at this
    exact this
  · obtain ⟨l1, l2, l3⟩ := round_len he
    have hn : s.snd.length = s.ns.length := sndN_len _ _
    rw [hn] at l1 l2 l3
    have hO := OuR.of (H := eB e (s.rd fl).o.errs s.ns.length :: gB g (s.rd fl).o.got s.ns.length :: R) l1 l2 l3 (.head _) (.tail _ (.head _))
    have l1' : (s.rd fl).o.errs.length = s.ns.length := l1
    have l2' : (s.rd fl).o.got.length = s.ns.length := l2
    have := hK (some ⟨e, 0, none⟩) s.ns.length (some ⟨g, 0, none⟩) s.ns.length [eB e (s.rd fl).o.errs s.ns.length, gB g (s.rd fl).o.got s.ns.length] (F' ++ (eB e (s.rd fl).o.errs s.ns.length :: gB g (s.rd fl).o.got s.ns.length :: (G ++ X)))
      ⟨F', G, eB e (s.rd fl).o.errs s.ns.length :: gB g (s.rd fl).o.got s.ns.length :: X, hF', h4, perm_glue' (ls := [F', [eB e (s.rd fl).o.errs s.ns.length, gB g (s.rd fl).o.got s.ns.length], G, X]) (p := [0, 1, 2, 3]) (q := [0, 2, 1, 3]) (by decide) (by simp [glue]) (by simp [glue]), fun z hz => by
        rcases List.mem_cons.1 hz with rfl | hz
        · exact .head _
        · rcases List.mem_cons.1 hz with rfl | hz
          · exact .tail _ (.head _)
          · exact .tail _ (.tail _ (h5 z hz))⟩ (by rw [l1', l2']; exact hO)
    rw [l1', l2', he] at this
    exact this
theorem h16 {A : Heap → Prop} (h : Own A B R H) (hD : Db R) (hK : K (.bool true) H) : SCalls Tryz.prog 16 [] H K := c16 (hD.mono h.mem) hK
end
/- POWER FOR ALL -/
def pN : Nd := ⟨true, u0, none, []⟩
/- PLAIN FRAMES -/
theorem zs_zs (f : Fm) (m : Nat) : zs (zs f m 8) m 8 = zs f m 8 := by
  unfold zs
  dsimp only
  congr 1 <;> (split <;> rfl)
theorem nb_pl (f : Fm) : nb (plF f) = nb f := rfl
theorem pl_pl (f : Fm) : plF (plF f) = plF f := by
  show zs (plF f) (nb (plF f)) 8 = plF f
  rw [nb_pl]
  exact zs_zs f (nb f)
end Go.Proofs.YtfmggepbcpceiaaGreatDoor


/- Layer 4: where the winner's last bit is flipped: the law, by walks. -/
set_option linter.unusedVariables false
set_option linter.unusedSimpArgs false
set_option maxRecDepth 100000
set_option maxHeartbeats 4000000
namespace Go.Proofs.YtfmggepbcpceiaaGreatDoor
open Sx
section
variable {H : Heap} {f : Fm}
/-- What is still to be fetched. -/
def Left (n k : Nat) (g : Fm) (s : Bs) : Prop := s.ns.length = n ∧ ∀ j : Nat, k ≤ j → j < n → (s.at (j : Int)).inn = [g, g]
theorem Left.next {n k : Nat} {g : Fm} {s : Bs} (h : Left n k g s) : Left n (k + 1) g (s.fetch (k : Int)).1 := by
  obtain ⟨h1, h2⟩ := h
  unfold Bs.fetch
  split
  · refine ⟨by unfold Bs.put; simpa using h1, fun j hj hjn => ?_⟩
    have := h2 j (by omega) hjn
    unfold Bs.at Bs.put at *
    dsimp only at *
    rw [Int.toNat_natCast, Int.toNat_natCast, List.getD_eq_getElem?_getD, List.getElem?_set_ne (by omega)]
    rw [Int.toNat_natCast, List.getD_eq_getElem?_getD] at this
    exact this
  · exact ⟨h1, fun j hj hjn => h2 j (by omega) hjn⟩
end
end Go.Proofs.YtfmggepbcpceiaaGreatDoor


/- Layer 4, plain: a calm round of a bus, whoever sends. -/
set_option linter.unusedVariables false
set_option linter.unusedSimpArgs false
set_option maxRecDepth 100000
set_option maxHeartbeats 4000000
namespace Go.Proofs.YtfmggepbcpceiaaGreatDoor
open Sx
/-- All have power, and nothing went wrong yet. -/
def AllC (ns : List Nd) : Prop := ∀ x ∈ ns, x.on = true ∧ x.u = u0
theorem AllC.up {ns : List Nd} (h : AllC ns) {x : Nd} (hx : x ∈ ns) : x.up = true := by
  obtain ⟨h1, h2⟩ := h x hx
  unfold Nd.up
  rw [h1, h2]; rfl
end Go.Proofs.YtfmggepbcpceiaaGreatDoor


/- Layer 4: a calm bus sends all that waits: the law, by walks. -/
set_option linter.unusedVariables false
set_option linter.unusedSimpArgs false
set_option maxRecDepth 100000
set_option maxHeartbeats 4000000
namespace Go.Proofs.YtfmggepbcpceiaaGreatDoor
open Sx
/-- How many wait. -/
def bxs (s : Bs) : List (Option Fm) := s.ns.map (·.box)
def nbx (s : Bs) : Nat := (bxs s).countP Option.isSome
theorem cnt_set {l : List (Option Fm)} {i : Nat} {o o' : Option Fm} (h : l[i]? = some o) : (l.set i o').countP Option.isSome + (if o.isSome then 1 else 0) = l.countP Option.isSome + if o'.isSome then 1 else 0 := by
  have e := list_set (x' := o') h
  have e2 := list_split h
  rw [e]
  conv => rhs; rw [e2]
  rw [List.countP_append, List.countP_append, List.countP_cons, List.countP_cons]
  omega
structure En (n : Nat) (s : Bs) : Prop where
  c : AllC s.ns
  w : BsW s
  l : s.ns.length = n + 1
  t : s.ns[n]? = some pN
def Box (s : Bs) (g : Fm) : Prop := some g ∈ bxs s
theorem Box.at {s : Bs} {g : Fm} (h : Box s g) : ∃ (j : Nat) (y : Nd), s.ns[j]? = some y ∧ y.box = some g := by
  obtain ⟨y, hy, hb⟩ := List.mem_map.1 h
  obtain ⟨j, hj⟩ := List.getElem?_of_mem hy
  exact ⟨j, y, hj, hb⟩
/-- Frames are being handed in. -/
structure Su (n k : Nat) (s : Bs) : Prop where
  c : AllC s.ns
  w : BsW s
  l : s.ns.length = n + 1
  t : ∀ j, k ≤ j → j ≤ n → s.ns[j]? = some pN
theorem Su.end {n : Nat} {s : Bs} (h : Su n n s) : En n s := ⟨h.c, h.w, h.l, h.t n (Nat.le_refl _) (Nat.le_refl _)⟩
theorem Su.init {n : Nat} (hn : n ≤ 100) : Su n 0 ⟨0, List.replicate (n + 1) pN⟩ ∧ nbx ⟨0, List.replicate (n + 1) pN⟩ = 0 := by
  refine ⟨⟨fun x hx => ?_, ⟨by simp, by simp; omega, fun x hx => ?_, by simp⟩, by simp, fun j _ hj => ?_⟩, ?_⟩
  · rw [List.eq_of_mem_replicate hx]; exact ⟨rfl, rfl⟩
  · rw [List.eq_of_mem_replicate hx]; exact .new
  · show (List.replicate (n + 1) pN)[j]? = _
    rw [List.getElem?_replicate, if_pos (by omega)]
  · unfold nbx bxs
    simp [pN]
theorem Su.sub {n k : Nat} {s : Bs} {f : Fm} (h : Su n k s) (hk : k < n) : Su n (k + 1) (s.submit (k : Int) f).1 ∧ (s.submit (k : Int) f).2 = erF f ∧ nbx (s.submit (k : Int) f).1 = nbx s + if okF f then 1 else 0 := by
  have hi : s.is (k : Int) := by unfold Bs.is; rw [h.l]; omega
  have hx := h.t k (Nat.le_refl _) (by omega)
  have hat := Bs.at_of hi
  rw [Int.toNat_natCast, hx] at hat
  injection hat with hat
  have hw := h.w.submit (i := (k : Int)) (f := f) (pl_pl f)
  unfold Bs.submit erF at *
  rw [if_pos hi] at hw ⊢
  rw [← hat] at hw ⊢
  cases hok : okF f with
  | true =>
    rw [hok, if_pos rfl, if_pos (show pN.up = true from rfl), if_neg (show ¬ pN.box.isSome = true by decide)] at hw
    rw [if_pos rfl, if_pos (show pN.up = true from rfl), if_neg (show ¬ pN.box.isSome = true by decide), if_pos rfl, if_pos rfl]
    unfold Bs.put at hw ⊢
    dsimp only at hw ⊢
    rw [Int.toNat_natCast] at hw ⊢
    refine ⟨⟨fun y hy => ?_, hw, by simpa using h.l, fun j hj hjn => ?_⟩, rfl, ?_⟩
    · rcases List.mem_or_eq_of_mem_set hy with hy | rfl
      · exact h.c y hy
      · exact ⟨rfl, rfl⟩
    · show (s.ns.set k _)[j]? = _
      rw [List.getElem?_set_ne (by omega)]
      exact h.t j (by omega) hjn
    · unfold nbx bxs
      dsimp only
      rw [List.map_set]
      have := cnt_set (l := s.ns.map (·.box)) (i := k) (o := none) (o' := some (plF f)) (by rw [List.getElem?_map, hx]; rfl)
      simpa using this
  | false =>
    rw [if_neg (show ¬ false = true by decide), if_neg (show ¬ false = true by decide), if_neg (show ¬ false = true by decide)]
    exact ⟨⟨h.c, h.w, h.l, fun j hj hjn => h.t j (by omega) hjn⟩, rfl, rfl⟩
end Go.Proofs.YtfmggepbcpceiaaGreatDoor


/- Layer 4: a calm bus sends all that waits: the law, by walks. -/
set_option linter.unusedVariables false
set_option linter.unusedSimpArgs false
set_option maxRecDepth 100000
set_option maxHeartbeats 4000000
namespace Go.Proofs.YtfmggepbcpceiaaGreatDoor
open Sx
section
variable {P : Program} {o : Oper} {vs : List Value} {H H2 : Heap} {K : Value → Heap → Prop}
theorem RawV.perm (hp : H.Perm H2) (h : RawV P o vs H2 K) : RawV P o vs H K := by
  refine ⟨fun ρ w hm hw => ?_⟩
  rcases h.run ρ w hm (hw.perm hp) with ⟨v, w', H', hr, g1, g2, g3⟩ | ⟨f, args, hr, hc⟩
  · exact .inl ⟨v, w', H', hr, g1, g2.permL hp.symm, g3⟩
  · refine .inr ⟨f, args, hr, hc.mono ?_⟩
    rintro e w' ⟨v, H', rfl, g1, g2, g3⟩
    exact ⟨v, H', rfl, g1, g2.permL hp.symm, g3⟩
end
/-- A slice of frames that grows. -/
abbrev Gr (v : Value) (L : List Fm) : Heap → Prop := fun G => Grow frC 12 32 v L G
section
variable {A : Heap → Prop} {R H : Heap}
theorem Own.zero {q : Nat} {B : Heap → Prop} (h : Own A B R H) : Own A (Gr (.slice (some ⟨q, 0, .none⟩) 0 0) []) R ((q, .buf 32 [] 0) :: H) := by
  obtain ⟨F, G, X, h1, h2, hp, h3⟩ := h
  refine ⟨F, [(q, .buf 32 [] (0 * 12))], G ++ X, h1, .zero, (List.Perm.cons _ hp).trans ?_, fun z hz => List.mem_append_right _ (h3 z hz)⟩
  exact perm_glue' (ls := [[(q, .buf 32 [] 0)], F, G, X]) (p := [0, 1, 2, 3]) (q := [1, 0, 2, 3]) (by decide) (by simp [glue]) (by simp [glue])
end
section
variable {H R : Heap} {la : Option Addr} {lc n p : Nat} {l : List Fm}
end
end Go.Proofs.YtfmggepbcpceiaaGreatDoor


/- Layer 4: a calm bus sends all that waits: the law. -/
set_option linter.unusedVariables false
set_option linter.unusedSimpArgs false
set_option maxRecDepth 100000
set_option maxHeartbeats 4000000
namespace Go.Proofs.YtfmggepbcpceiaaGreatDoor
open Sx
theorem InS.take {α : Type} {f : α → List Value} {k : Nat} {a : Option Addr} {c n : Nat} {H : Heap} {l : List α} (h : InS f k (.slice a l.length c) H l) (hn : n ≤ l.length) : InS f k (.slice a n c) H (l.take n) := by
  obtain ⟨a2, c2, e2, hml, h4⟩ := h
  injection e2 with e2 _ e3
  subst e2 e3
  have hl : (l.take n).length = n := by simp; omega
  refine ⟨a, c, by rw [hl], by omega, ?_⟩
  rcases h4 with rfl | ⟨r, o, b, h5, h6, h7⟩
  · exact .inl (by simp)
  · refine .inr ⟨r, o, b, h5, h6, fun j x i v hj hv hi => h7 j x i v ?_ hv hi⟩
    rw [List.getElem?_take] at hj
    split at hj
    · exact hj
    · cases hj
theorem Own.gr {A : Heap → Prop} {R H : Heap} {v : Value} {L : List Fm} (h : Own A (Gr v L) R H) : InS frC 12 v H L := by
  obtain ⟨F, G, X, h1, h2, hp, h3⟩ := h
  exact Grow.ins h2 frC_len fun z hz => hp.symm.subset (List.mem_append_right _ (List.mem_append_left _ hz))
section
variable {H : Heap}
end
end Go.Proofs.YtfmggepbcpceiaaGreatDoor


/- Layer 4, plain: a bus with one node more, without power: call by call. -/
set_option linter.unusedVariables false
set_option linter.unusedSimpArgs false
set_option maxRecDepth 100000
set_option maxHeartbeats 4000000
namespace Go.Proofs.YtfmggepbcpceiaaGreatDoor
open Sx
section
variable {g : Nat} {a : Bs} {i : Int}
end
end Go.Proofs.YtfmggepbcpceiaaGreatDoor


/- Layer 4: a node without power changes nothing: the law, by walks. -/
set_option linter.unusedVariables false
set_option linter.unusedSimpArgs false
set_option maxRecDepth 100000
set_option maxHeartbeats 4000000
namespace Go.Proofs.YtfmggepbcpceiaaGreatDoor
open Sx
section
variable {K : Value → Heap → Prop} {R H : Heap} {p q t7 g : Nat} {a : Bs} {i : Int}
end
end Go.Proofs.YtfmggepbcpceiaaGreatDoor


/- Layer 4: a node without power changes nothing: the law. -/
set_option linter.unusedVariables false
set_option linter.unusedSimpArgs false
set_option maxRecDepth 100000
set_option maxHeartbeats 4000000
namespace Go.Proofs.YtfmggepbcpceiaaGreatDoor
open Sx
section
variable {R H : Heap} {p q t7 g : Nat}
end
end Go.Proofs.YtfmggepbcpceiaaGreatDoor


/- Layer 4: the document's bus in memory: one node of it: by walks. -/
set_option linter.unusedVariables false
set_option linter.unusedSimpArgs false
set_option maxRecDepth 100000
set_option maxHeartbeats 4000000
namespace Go.Proofs.YtfmggepbcpceiaaGreatDoor
open Sx
section
variable {t : TypeId} {pre c post vs : List Value} {N O j k : Nat} {v : Value} {K : Blk → Prop}
theorem at_o (hO : O = pre.length) (h : c[j]? = some v) : (Blk.buf t (pre ++ (c ++ post)) N).cell (O + j) = some v := by subst hO; exact at_un h
theorem at_o2 (hO : O = pre.length) (h : c[j + k]? = some v) : (Blk.buf t (pre ++ (c ++ post)) N).cell (O + j + k) = some v := by subst hO; rw [Nat.add_assoc]; exact at_un h
theorem Put.o (hO : O = pre.length) (hj : Nat.ble (j + vs.length) c.length = true) (h : K (.buf t (pre ++ ((c.take j ++ vs ++ c.drop (j + vs.length)) ++ post)) N)) : Put (.buf t (pre ++ (c ++ post)) N) (O + j) vs K := by
  subst hO
  have hj := Nat.le_of_ble_eq_true hj
  refine ⟨_, PutOk.buf (cs' := pre ++ ((c.take j ++ vs ++ c.drop (j + vs.length)) ++ post)) ?_ ?_, h⟩
  · simp; omega
  · rw [List.take_append, List.drop_append, List.take_of_length_le (by omega), List.drop_of_length_le (by omega), show pre.length + j - pre.length = j by omega, show pre.length + j + vs.length - pre.length = j + vs.length by omega, List.take_append_of_le_length (by omega), List.drop_append_of_le_length hj]
    simp
theorem Put.o0 (hO : O = pre.length) (hj : Nat.beq vs.length c.length = true) (h : K (.buf t (pre ++ (vs ++ post)) N)) : Put (.buf t (pre ++ (c ++ post)) N) O vs K := by
  subst hO
  have hj := Nat.eq_of_beq_eq_true hj
  refine ⟨_, PutOk.buf (cs' := pre ++ (vs ++ post)) ?_ ?_, h⟩
  · simp; omega
  · rw [List.take_append_of_le_length (Nat.le_refl _), List.take_of_length_le (Nat.le_refl _), List.drop_append, List.drop_of_length_le (by omega), show pre.length + vs.length - pre.length = vs.length by omega, List.drop_append_of_le_length (by omega), List.drop_of_length_le (by omega)]
    simp
end
/-- A node of the document's. -/
abbrev dC (x : Nd) (iv : Value) : List Value := .bool x.on :: (uC x.u ++ (.bool x.box.isSome :: (frC (x.box.getD z0) ++ [iv])))
structure Dn where
  (x : Nd) (iv : Value)
def dnC (d : Dn) : List Value := dC d.x d.iv
theorem dnC_len (d : Dn) : (dnC d).length = 19 := rfl
abbrev dR (q b n c t : Nat) : Nat × Blk := (q, .row 116 [.slice (some ⟨b, 0, none⟩) n c, .int .u64 (t : Int)] (0, 0))
inductive DocO (q : Nat) (s : Bs) : Heap → Prop
  | mk {b c : Nat} {ds : List Dn} {G : Heap} : ds.map (·.x) = s.ns → (∀ d ∈ ds, InS frC 12 d.iv G d.x.inn) → DocO q s (dR q b s.ns.length c s.time :: (b, .buf 126 (ds.flatMap dnC) (c * 19)) :: G)
theorem DocO.focus {q : Nat} {s : Bs} {F : Heap} {i : Int} (h : DocO q s F) (hi : s.is i) :
    ∃ b c pre post iv N G, F = dR q b s.ns.length c s.time :: (b, .buf 126 (pre ++ (dC (s.at i) iv ++ post)) N) :: G ∧ 0 + i.toNat * 19 = pre.length ∧ InS frC 12 iv G (s.at i).inn ∧ i.toNat < s.ns.length ∧
      ∀ x' iv' X t, InS frC 12 iv' (X ++ G) x'.inn → DocO q ⟨t, s.ns.set i.toNat x'⟩ (dR q b s.ns.length c t :: (b, .buf 126 (pre ++ (dC x' iv' ++ post)) N) :: (X ++ G)) := by
  obtain ⟨hi0, hi1⟩ := hi
  have hil : i.toNat < s.ns.length := by omega
  cases h with
  | @mk b c ds G h1 h2 =>
    have hdl : ds.length = s.ns.length := by rw [← h1, List.length_map]
    obtain ⟨d, hd, _, _⟩ := list_at (show i.toNat < ds.length by omega)
    have hat : s.at i = d.x := by
      unfold Bs.at
      rw [List.getD_eq_getElem?_getD, ← h1, List.getElem?_map, hd]; rfl
    have hsp := list_split hd
    have hcs : ds.flatMap dnC = (ds.take i.toNat).flatMap dnC ++ (dnC d ++ (ds.drop (i.toNat + 1)).flatMap dnC) := by
      conv => lhs; rw [hsp]
      rw [List.flatMap_append, List.flatMap_cons]
    refine ⟨b, c, (ds.take i.toNat).flatMap dnC, (ds.drop (i.toNat + 1)).flatMap dnC, d.iv, c * 19, G, by rw [hcs, hat]; rfl, ?_, by rw [hat]; exact h2 d (List.mem_of_getElem? hd), hil, fun x' iv' X t hin => ?_⟩
    · rw [flat_len dnC_len, List.length_take, Nat.zero_add]
      congr 1; omega
    · have hset := list_set (x' := (⟨x', iv'⟩ : Dn)) hd
      have hcs' : (ds.set i.toNat ⟨x', iv'⟩).flatMap dnC = (ds.take i.toNat).flatMap dnC ++ (dC x' iv' ++ (ds.drop (i.toNat + 1)).flatMap dnC) := by
        rw [hset, List.flatMap_append, List.flatMap_cons]; rfl
      have := DocO.mk (q := q) (s := ⟨t, s.ns.set i.toNat x'⟩) (b := b) (c := c) (ds := ds.set i.toNat ⟨x', iv'⟩) (G := X ++ G) (by rw [List.map_set, h1]) (fun e he => by
        rcases List.mem_or_eq_of_mem_set he with he | rfl
        · exact (h2 e he).mono fun z hz => List.mem_append_right _ hz
        · exact hin)
      rw [hcs'] at this
      simpa using this
theorem DocO.row {q : Nat} {s : Bs} {F : Heap} (h : DocO q s F) : ∃ b c, dR q b s.ns.length c s.time ∈ F := by
  cases h with
  | mk h1 h2 => exact ⟨_, _, .head _⟩
section
variable {K : Value → Heap → Prop} {F H : Heap} {q b n c t : Nat} {s : Bs} {i : Int} {on : Bool} {f : Fm}
theorem c61 (hm : dR q b n c t ∈ H) (hK : K (.bool (decide (0 ≤ i ∧ i < (n : Int)))) H) : SCalls Tryz.prog 61 [ptr q, zi i] H K := by
  have g0 : (Blk.row 116 [.slice (some ⟨b, 0, none⟩) n c, .int .u64 (t : Int)] (0, 0)).cell 0 = some (.slice (some ⟨b, 0, none⟩) n c) := rfl
  refine enter61 ?_
  by_cases h0 : 0 ≤ i
  · have hk : K (.bool (decide (i < (n : Int)))) H := by simpa [h0] using hK
    repeat' ((conv => whnf); (first | refine Branch.dt h0 ?_ | refine Look.cell hm g0 ?_ | exact Keep.all hk))
  · have hk : K (.bool false) H := by simpa [h0] using hK
    repeat' ((conv => whnf); (first | refine Branch.df h0 ?_ | exact Keep.all hk))
theorem is_dec (s : Bs) (i : Int) : decide (0 ≤ i ∧ i < (s.ns.length : Int)) = decide (s.is i) := by unfold Bs.is; rfl
theorem c61s (h : DocO q s F) (hs : ∀ z ∈ F, z ∈ H) (hK : K (.bool (decide (s.is i))) H) : SCalls Tryz.prog 61 [ptr q, zi i] H K := by
  obtain ⟨b, c, hr⟩ := h.row
  exact c61 (hs _ hr) (by rw [is_dec]; exact hK)
theorem c52 (h : DocO q s F) (hK : ∀ F', DocO q (s.power i on).1 F' → K (zi (s.power i on).2) (F' ++ H)) : SCalls Tryz.prog 52 [ptr q, zi i, .bool on] (F ++ H) K := by
  unfold Bs.power at hK
  have h61 : ∀ K2 : Value → Heap → Prop, K2 (.bool (decide (s.is i))) (F ++ H) → SCalls Tryz.prog 61 [ptr q, zi i] (F ++ H) K2 := fun K2 hk => c61s h (fun z hz => List.mem_append_left _ hz) hk
  by_cases hi : s.is i
  · rw [if_pos hi] at hK
    rw [decide_eq_true hi] at h61
    have hps := Bs.put_self hi
    have hi0 := hi.1
    obtain ⟨b, c, pre, post, iv, N, G, rfl, hpre, hin, hil, hback⟩ := h.focus hi
    have hbs := fun x' iv' h => hback x' iv' [] s.time h
    unfold Bs.put at hK hps
    clear hback h
    by_cases hon : (s.at i).on = on
    · rw [if_pos hon] at hK
      have hk := hK _ (by have := hbs (s.at i) iv hin; rw [hps] at this; exact this)
      clear hK hbs hps
      generalize s.at i = y at *
      obtain ⟨yon, yu, ybox, yinn⟩ := y
      dsimp only at hon
      subst hon
      refine enter52 ?_
      repeat' ((conv => whnf); (first | with_reducible refine h61 _ ?_ | refine Idx.of i.toNat (by omega) hil ?_ | refine Cell.get (at_o hpre rfl) ?_ | refine Branch.t (beq_self_eq_true _) ?_ | exact Keep.all hk | refine Look.at0 ?_ | refine Cell.row ?_ | refine Look.at1 ?_ | refine Branch.not ?_ | refine Branch.t rfl ?_))
    · rw [if_neg hon] at hK
      have hk := hK _ (hbs ⟨on, u0, none, []⟩ (.slice none 0 0) .nil)
      clear hK hbs hps
      generalize s.at i = y at *
      obtain ⟨yon, yu, ybox, yinn⟩ := y
      dsimp only at hon
      have hne : (yon == on) = false := by simpa using hon
      refine enter52 ?_
      repeat' ((conv => whnf); (first | with_reducible refine h61 _ ?_ | refine Idx.of i.toNat (by omega) hil ?_ | refine Cell.get (at_o hpre rfl) ?_ | refine Branch.f hne ?_ | refine Put.o0 hpre rfl ?_ | exact Keep.all hk | refine Look.at0 ?_ | refine Cell.row ?_ | refine Look.at1 ?_ | refine Branch.not ?_ | refine Branch.t rfl ?_))
  · rw [if_neg hi] at hK
    rw [decide_eq_false hi] at h61
    have hk := hK F h
    clear hK
    refine enter52 ?_
    repeat' ((conv => whnf); (first | with_reducible refine h61 _ ?_ | exact Keep.all hk | refine Branch.not ?_ | refine Branch.f rfl ?_))
end
end Go.Proofs.YtfmggepbcpceiaaGreatDoor


/- Layer 4: the document's bus: frames in, back, and out: by walks. -/
set_option linter.unusedVariables false
set_option linter.unusedSimpArgs false
set_option maxRecDepth 100000
set_option maxHeartbeats 4000000
namespace Go.Proofs.YtfmggepbcpceiaaGreatDoor
open Sx
section
variable {K : Value → Heap → Prop} {F H : Heap} {q : Nat} {s : Bs} {i : Int} {f : Fm}
theorem c57 (h : DocO q s F) (hK0 : ¬ s.is i → K (.tuple ⟨[.slice none 0 0, zi 1]⟩) (F ++ H))
    (hK1 : s.is i → ∀ F' iv, DocO q (s.fetch i).1 F' → InS frC 12 iv (F' ++ H) (s.at i).inn → K (.tuple ⟨[iv, zi 0]⟩) (F' ++ H)) : SCalls Tryz.prog 57 [ptr q, zi i] (F ++ H) K := by
  have h61 : ∀ K2 : Value → Heap → Prop, K2 (.bool (decide (s.is i))) (F ++ H) → SCalls Tryz.prog 61 [ptr q, zi i] (F ++ H) K2 := fun K2 hk => c61s h (fun z hz => List.mem_append_left _ hz) hk
  by_cases hi : s.is i
  · have hK := hK1 hi
    unfold Bs.fetch at hK
    rw [if_pos hi] at hK
    rw [decide_eq_true hi] at h61
    have hi0 := hi.1
    obtain ⟨b, c, pre, post, iv, N, G, rfl, hpre, hin, hil, hback⟩ := h.focus hi
    have hk := hK _ iv (hback ⟨(s.at i).on, (s.at i).u, (s.at i).box, []⟩ (.slice none 0 0) [] s.time .nil) (hin.mono fun z hz => .tail _ (.tail _ (List.mem_append_left _ hz)))
    clear hback h hK hK0 hK1
    obtain ⟨ia, ic, rfl, _⟩ := hin.sv
    generalize s.at i = y at *
    obtain ⟨yon, yu, ybox, yinn⟩ := y
    dsimp only at hk ⊢
    refine enter57 ?_
    repeat' ((conv => whnf); (first | with_reducible refine h61 _ ?_ | refine Idx.of i.toNat (by omega) hil ?_ | refine Cell.get (at_o hpre rfl) ?_ | refine Put.o hpre rfl ?_ | exact Keep.all hk | refine Look.at0 ?_ | refine Cell.row ?_ | refine Look.at1 ?_ | refine Branch.not ?_ | refine Branch.t rfl ?_))
  · rw [decide_eq_false hi] at h61
    have hk := hK0 hi
    clear hK0 hK1
    refine enter57 ?_
    repeat' ((conv => whnf); (first | with_reducible refine h61 _ ?_ | exact Keep.all hk | refine Branch.not ?_ | refine Branch.f rfl ?_))
theorem c55 (h : DocO q s F) (hK : ∀ F', DocO q (s.cancel i).1 F' → K (.bool (s.cancel i).2) (F' ++ H)) : SCalls Tryz.prog 55 [ptr q, zi i] (F ++ H) K := by
  unfold Bs.cancel at hK
  have h61 : ∀ K2 : Value → Heap → Prop, K2 (.bool (decide (s.is i))) (F ++ H) → SCalls Tryz.prog 61 [ptr q, zi i] (F ++ H) K2 := fun K2 hk => c61s h (fun z hz => List.mem_append_left _ hz) hk
  by_cases hi : s.is i
  · rw [if_pos hi] at hK
    rw [decide_eq_true hi] at h61
    have hps := Bs.put_self hi
    have hi0 := hi.1
    obtain ⟨b, c, pre, post, iv, N, G, rfl, hpre, hin, hil, hback⟩ := h.focus hi
    have hbs := fun x' iv' h => hback x' iv' [] s.time h
    unfold Bs.put at hK hps
    clear hback h
    cases hb : (s.at i).box with
    | none =>
      rw [hb, if_neg (by decide)] at hK
      have hk := hK _ (by have := hbs (s.at i) iv hin; rw [hps] at this; exact this)
      clear hK hbs hps
      generalize s.at i = y at *
      obtain ⟨yon, yu, ybox, yinn⟩ := y
      dsimp only at hb
      subst hb
      refine enter55 ?_
      repeat' ((conv => whnf); (first | with_reducible refine h61 _ ?_ | refine Idx.of i.toNat (by omega) hil ?_ | refine Cell.get (at_o hpre rfl) ?_ | refine Branch.f rfl ?_ | refine Branch.t rfl ?_ | exact Keep.all hk | refine Look.at0 ?_ | refine Cell.row ?_ | refine Look.at1 ?_))
    | some f =>
      rw [hb, if_pos (show (some f : Option Fm).isSome = true from rfl)] at hK
      have hk := hK _ (hbs ⟨(s.at i).on, (s.at i).u, none, (s.at i).inn⟩ iv hin)
      clear hK hbs hps
      generalize s.at i = y at *
      obtain ⟨yon, yu, ybox, yinn⟩ := y
      dsimp only at hb hk
      subst hb
      refine enter55 ?_
      repeat' ((conv => whnf); (first | with_reducible refine h61 _ ?_ | refine Idx.of i.toNat (by omega) hil ?_ | refine Cell.get (at_o hpre rfl) ?_ | refine Branch.f rfl ?_ | refine SDraw.held (by kernel_rfl) [] .nil ?_ | refine Kept.sub (List.nil_sublist _) ?_ | refine And.intro ?_ ?_ | refine Put.o hpre rfl ?_ | exact Keep.all hk | refine Look.at0 ?_ | refine Cell.row ?_ | refine Look.at1 ?_))
  · rw [if_neg hi] at hK
    rw [decide_eq_false hi] at h61
    have hk := hK F h
    clear hK
    refine enter55 ?_
    repeat' ((conv => whnf); (first | with_reducible refine h61 _ ?_ | refine Branch.t rfl ?_ | exact Keep.all hk))
theorem c53 (h : DocO q s F) (hK : ∀ F', DocO q (s.submit i f).1 F' → K (zi (s.submit i f).2) (F' ++ H)) : SCalls Tryz.prog 53 [ptr q, zi i, frV f] (F ++ H) K := by
  unfold Bs.submit at hK
  have h61 : ∀ (y : Nat × Blk) (K2 : Value → Heap → Prop), K2 (.bool (decide (s.is i))) (y :: (F ++ H)) → SCalls Tryz.prog 61 [ptr q, zi i] (y :: (F ++ H)) K2 := fun y K2 hk => c61s h (fun z hz => .tail _ (List.mem_append_left _ hz)) hk
  have h22 : ∀ X (K2 : Value → Heap → Prop), K2 (zi (erF f)) X → SCalls Tryz.prog 22 [frV f] X K2 := fun X K2 hk => c22 hk
  have h12 : ∀ X (K2 : Value → Heap → Prop), K2 (frV (plF f)) X → SCalls Tryz.prog 12 [frV f] X K2 := fun X K2 hk => c12 hk
  unfold erF at h22
  by_cases hi : s.is i
  · rw [if_pos hi] at hK
    rw [decide_eq_true hi] at h61
    have hps := Bs.put_self hi
    have hi0 := hi.1
    obtain ⟨b, c, pre, post, iv, N, G, rfl, hpre, hin, hil, hback⟩ := h.focus hi
    have hbs := fun x' iv' h => hback x' iv' [] s.time h
    unfold Bs.put at hK hps
    have hself := hbs (s.at i) iv hin
    rw [hps] at hself
    clear hback h
    cases hok : okF f with
    | false =>
      rw [hok, if_neg (by decide)] at hK
      rw [hok] at h22
      have hk := hK _ hself
      clear hK hbs hps hself
      refine enter53 ?_
      repeat' ((conv => whnf); (first | with_reducible refine h61 _ _ ?_ | with_reducible refine h22 _ _ ?_ | exact Keep.d1 hk | refine New.mk (fun _ => ?_) | refine Look.at0 ?_ | refine Cells.row rfl ?_ | refine Branch.not ?_ | refine Branch.t rfl ?_ | refine Branch.f rfl ?_))
    | true =>
      rw [hok, if_pos rfl] at hK
      rw [hok, if_pos rfl] at h22
      cases hu : (s.at i).up with
      | false =>
        rw [hu, if_neg (by decide)] at hK
        have hk := hK _ hself
        clear hK hbs hps hself
        generalize s.at i = y at *
        obtain ⟨yon, ⟨us, ur, uoff, uid⟩, ybox, yinn⟩ := y
        unfold Nd.up at hu
        dsimp only at hu
        refine enter53 ?_
        cases yon with
        | false =>
          repeat' ((conv => whnf); (first | with_reducible refine h61 _ _ ?_ | with_reducible refine h22 _ _ ?_ | refine Idx.of i.toNat (by omega) hil ?_ | refine Cell.get (at_o hpre rfl) ?_ | refine Branch.t rfl ?_ | exact Keep.d1 hk | refine New.mk (fun _ => ?_) | refine Look.at0 ?_ | refine Cell.row ?_ | refine Cells.row rfl ?_ | refine Look.at1 ?_ | refine Look.at2 ?_ | refine Branch.not ?_))
        | true =>
          obtain rfl : uoff = true := by simpa using hu
          repeat' ((conv => whnf); (first | with_reducible refine h61 _ _ ?_ | with_reducible refine h22 _ _ ?_ | refine Idx.of i.toNat (by omega) hil ?_ | refine Cell.get (at_o hpre rfl) ?_ | refine Cell.get (at_o2 hpre rfl) ?_ | refine Branch.t rfl ?_ | refine Branch.f rfl ?_ | exact Keep.d1 hk | refine New.mk (fun _ => ?_) | refine Look.at0 ?_ | refine Cell.row ?_ | refine Cells.row rfl ?_ | refine Look.at1 ?_ | refine Look.at2 ?_))
      | true =>
        rw [hu, if_pos rfl] at hK
        cases hb : (s.at i).box with
        | some g =>
          rw [hb, if_pos (show (some g : Option Fm).isSome = true from rfl)] at hK
          have hk := hK _ hself
          clear hK hbs hps hself
          generalize s.at i = y at *
          obtain ⟨yon, ⟨us, ur, uoff, uid⟩, ybox, yinn⟩ := y
          unfold Nd.up at hu
          dsimp only at hu hb
          subst hb
          obtain ⟨rfl, rfl⟩ : yon = true ∧ uoff = false := by simpa using hu
          refine enter53 ?_
          repeat' ((conv => whnf); (first | with_reducible refine h61 _ _ ?_ | with_reducible refine h22 _ _ ?_ | refine Idx.of i.toNat (by omega) hil ?_ | refine Cell.get (at_o hpre rfl) ?_ | refine Cell.get (at_o2 hpre rfl) ?_ | refine Branch.f rfl ?_ | refine Branch.t rfl ?_ | exact Keep.d1 hk | refine New.mk (fun _ => ?_) | refine Look.at0 ?_ | refine Cell.row ?_ | refine Cells.row rfl ?_ | refine Look.at1 ?_ | refine Look.at2 ?_))
        | none =>
          rw [hb, if_neg (by decide)] at hK
          have hk := hK _ (hbs ⟨(s.at i).on, (s.at i).u, some (plF f), (s.at i).inn⟩ iv hin)
          clear hK hbs hps hself
          generalize s.at i = y at *
          obtain ⟨yon, ⟨us, ur, uoff, uid⟩, ybox, yinn⟩ := y
          unfold Nd.up at hu
          dsimp only at hu hb hk
          subst hb
          obtain ⟨rfl, rfl⟩ : yon = true ∧ uoff = false := by simpa using hu
          refine enter53 ?_
          repeat' ((conv => whnf); (first | with_reducible refine h61 _ _ ?_ | with_reducible refine h22 _ _ ?_ | with_reducible refine h12 _ _ ?_ | refine Idx.of i.toNat (by omega) hil ?_ | refine Cell.get (at_o hpre rfl) ?_ | refine Cell.get (at_o2 hpre rfl) ?_ | refine Branch.f rfl ?_ | refine Put.o hpre rfl ?_ | exact Keep.d1 hk | refine New.mk (fun _ => ?_) | refine Look.at0 ?_ | refine Cell.row ?_ | refine Cells.row rfl ?_ | refine Look.at1 ?_ | refine Look.at2 ?_))
  · rw [if_neg hi] at hK
    rw [decide_eq_false hi] at h61
    have hk := hK F h
    clear hK
    refine enter53 ?_
    repeat' ((conv => whnf); (first | with_reducible refine h61 _ _ ?_ | exact Keep.d1 hk | refine New.mk (fun _ => ?_) | refine Branch.not ?_ | refine Branch.f rfl ?_))
end
end Go.Proofs.YtfmggepbcpceiaaGreatDoor


/- Layer 4: a new bus, the document's: by walks. -/
set_option linter.unusedVariables false
set_option linter.unusedSimpArgs false
set_option maxRecDepth 100000
set_option maxHeartbeats 4000000
namespace Go.Proofs.YtfmggepbcpceiaaGreatDoor
open Sx Go.RowKit
theorem made_many {zc : List Value} {n k : Nat} (hk : zc.length = k) (h0 : 0 < k) : madeCells zc.toArray (n * k) = ((List.replicate n zc).flatMap id).toArray := by
  apply Array.ext'
  simp only [madeCells, Array.toList_map, Array.toList_range]
  have hl : ((List.replicate n zc).flatMap id).length = n * k := by
    rw [List.length_flatMap]; simp [hk]
  have hz : ∀ (n i : Nat), i < n * k → ((List.replicate n zc).flatMap id)[i]? = zc[i % k]? := by
    intro n
    induction n with
    | zero => intro i hi; omega
    | succ n ih =>
      intro i hi
      rw [List.replicate_succ, List.flatMap_cons]
      show (zc ++ (List.replicate n zc).flatMap id)[i]? = _
      by_cases hik : i < k
      · rw [List.getElem?_append_left (by omega), Nat.mod_eq_of_lt hik]
      · rw [List.getElem?_append_right (by omega), hk, ih (i - k) (by rw [Nat.add_mul] at hi; omega)]
        congr 1
        exact (Nat.mod_eq_sub_mod (by omega)).symm
  apply List.ext_getElem?
  intro i
  by_cases hi : i < n * k
  · rw [hz n i hi]
    have hm := Nat.mod_lt i h0
    rw [List.getElem?_map, List.getElem?_range hi, Option.map_some, List.getElem?_eq_getElem (by omega)]
    simp [hk, hm, Array.getD]
  · rw [List.getElem?_eq_none (by simp; omega), List.getElem?_eq_none (by omega)]
theorem RawV.makeN {P : Program} {o : Oper} {t e : TypeId} {xl xc : Operand} {H : Heap} {n k bytes : Nat} {K : Value → Heap → Prop} {zv : Value} {zc : List Value} {kk : IntKind} (ho : o.op = .makeSlice t xl xc) (ht : tyOk P t e k bytes = true) (h0 : 0 < k) (hz : (P.info? e).bind (·.zero) = some zv) (hc : zv.cells = zc.toArray) (hb : bytes * n ≤ 281474976710656) (hn : n ≤ maxLen)
    (h : ∀ r, K (.slice (some ⟨r, 0, none⟩) n n) ((r, .buf e ((List.replicate n zc).flatMap id) (n * k)) :: H)) : RawV P o [.int kk (n : Int), .int kk (n : Int)] H K := by
  obtain ⟨h3, i, z, h4, h5, h6, h7, rfl⟩ := tyOk_spec ht
  rw [h4] at hz
  simp only [Option.bind_some] at hz
  rw [h5] at hz
  injection hz with hz
  subst hz
  refine ⟨fun ρ w hm hw => .inl ?_⟩
  rw [ho] at hm
  have hm : [ρ xl, ρ xc] = [.int kk (n : Int), .int kk (n : Int)] := hm
  injection hm with e1 hm
  injection hm with e2 hm
  have hex : execOp ρ o = (Instr.makeSlice t (.int kk (n : Int)) (.int kk (n : Int)) >>= fun v => pure (.value v)) := by
    simp only [execOp, ho, e1, e2]
  have hn63 : (n : Int) ≤ 9223372036854775807 := by simp only [maxLen] at hn; omega
  have hb' : (i.bytes : Int) * (n : Int) ≤ 281474976710656 := by
    have h : ((i.bytes * n : Nat) : Int) ≤ 281474976710656 := by omega
    rwa [Int.natCast_mul] at h
  have hzl : zc.length = k := by rw [hc] at h6; simp at h6; omega
  have hr := run_make (P := P) w t e i z h3 h4 h5 kk kk (n : Int) (n : Int) (by omega) (Int.le_refl _) hb' hn63
  rw [hc, h7, Int.toNat_natCast, made_many hzl h0] at hr
  have hal := hw.alloc (.cells ((List.replicate n zc).flatMap id).toArray e) (.buf e ((List.replicate n zc).flatMap id) (n * k)) ⟨[], by rw [List.length_flatMap]; simp [hzl], by rw [heap_alloc_new, List.append_nil]⟩
  exact ⟨_, _, _, .inl (by rw [hex, Sem.run_bind, hr]; rfl), hal.1, hal.2, h _⟩
def d0n : Dn := ⟨n0, .slice none 0 0⟩
theorem ty114 : tyOk Tryz.prog 114 126 19 96 = true := by kernel_rfl
theorem zero126 : ∃ zv, (Tryz.prog.info? 126).bind (·.zero) = some zv ∧ zv.cells = (dnC d0n).toArray := ⟨.agg (dnC d0n).toArray, by kernel_rfl, by kernel_rfl⟩
section
variable {K : Value → Heap → Prop} {H : Heap}
theorem c25 {n : Int} (h0 : ¬ (1 ≤ n ∧ n ≤ 127) → K (.tuple ⟨[.pointer none, zi 1]⟩) H) (h1 : 1 ≤ n ∧ n ≤ 127 → ∀ q F, DocO q ⟨0, List.replicate n.toNat n0⟩ F → K (.tuple ⟨[ptr q, zi 0]⟩) (F ++ H)) : SCalls Tryz.prog 25 [zi n] H K := by
  refine enter25 ?_
  by_cases hn : 1 ≤ n ∧ n ≤ 127
  · obtain ⟨hn1, hn2⟩ := hn
    have hk := h1 ⟨hn1, hn2⟩
    clear h0 h1
    obtain ⟨m, rfl⟩ : ∃ m : Nat, n = (m : Int) := ⟨n.toNat, by omega⟩
    rw [Int.toNat_natCast] at hk
    obtain ⟨zv, z1, z2⟩ := zero126
    have hk2 : ∀ q b, K (.tuple ⟨[ptr q, zi 0]⟩) (dR q b m m 0 :: (b, .buf 126 ((List.replicate m (dnC d0n)).flatMap id) (m * 19)) :: H) := fun q b => by
      have hd := DocO.mk (q := q) (b := b) (c := m) (s := ⟨0, List.replicate m n0⟩) (ds := List.replicate m d0n) (G := []) (by simp [d0n]) (fun d hd => by rw [List.eq_of_mem_replicate hd]; exact .nil)
      have := hk q _ hd
      rw [show (⟨0, List.replicate m n0⟩ : Bs).ns.length = m by simp] at this
      have e : (List.replicate m (dnC d0n)).flatMap id = (List.replicate m d0n).flatMap dnC := by
        rw [← List.map_replicate, List.flatMap_map]; rfl
      rw [e]
      exact this
    repeat' ((conv => whnf); (first | refine Branch.df (show ¬ (m : Int) < 1 by omega) ?_ | refine Branch.df (show ¬ (127 : Int) < (m : Int) by omega) ?_ | refine RawV.makeN (t := 114) (e := 126) (k := 19) (bytes := 96) (n := m) rfl ty114 (by decide) z1 z2 (by omega) (by simp only [maxLen]; omega) (fun b => ?_) | exact Keep.all (hk2 _ _) | refine New.mk (fun _ => ?_)))
  · have hk := h0 hn
    clear h0 h1
    by_cases h1 : n < 1
    · repeat' ((conv => whnf); (first | refine Branch.dt h1 ?_ | exact Keep.all hk | refine Branch.t rfl ?_))
    · repeat' ((conv => whnf); (first | refine Branch.df h1 ?_ | refine Branch.dt (show (127 : Int) < n by omega) ?_ | exact Keep.all hk))
end
end Go.Proofs.YtfmggepbcpceiaaGreatDoor


/- Layer 4: the document's nodes as they go into a round: by walks. -/
set_option linter.unusedVariables false
set_option linter.unusedSimpArgs false
set_option maxRecDepth 100000
set_option maxHeartbeats 4000000
namespace Go.Proofs.YtfmggepbcpceiaaGreatDoor
open Sx
inductive S87a (A0 A3 A4 : Value) : List Value → Prop
  | mk {r1 r2 r5 r6 r7 r8 r9 r10 r11 r12 r13 r14 r15 r16 r17 r18 r19 r20 r21 r22 r23 r24 r25 r26 r27 r28 r29 r30 r31 r32 r33 r34 r35 r36 r37 r38 r39 r40 r41 r42 r43 r44 r45 r46 r47 r48 r49 r50 r51 r52 r53 r54 r55 r56 r57 r58 r59 r60 r61 r62 r63 r64 r65 r66 r67 r68 r69 r70 r71 r72 r73 r74 r75 r76 r77 r78 r79 r80 r81 r82 r83 r84 r85 r86 r87 r88 r89 r90 r91 r92 r93 r94 r95 r96 r97 r98 r99 r100 r101 r102 r103 : Value} : S87a A0 A3 A4 [A0, r1, r2, A3, A4, r5, r6, r7, r8, r9, r10, r11, r12, r13, r14, r15, r16, r17, r18, r19, r20, r21, r22, r23, r24, r25, r26, r27, r28, r29, r30, r31, r32, r33, r34, r35, r36, r37, r38, r39, r40, r41, r42, r43, r44, r45, r46, r47, r48, r49, r50, r51, r52, r53, r54, r55, r56, r57, r58, r59, r60, r61, r62, r63, r64, r65, r66, r67, r68, r69, r70, r71, r72, r73, r74, r75, r76, r77, r78, r79, r80, r81, r82, r83, r84, r85, r86, r87, r88, r89, r90, r91, r92, r93, r94, r95, r96, r97, r98, r99, r100, r101, r102, r103]
inductive S87b (A0 A3 A4 A5 A6 : Value) : List Value → Prop
  | mk {r1 r2 r7 r8 r9 r10 r11 r12 r13 r14 r15 r16 r17 r18 r19 r20 r21 r22 r23 r24 r25 r26 r27 r28 r29 r30 r31 r32 r33 r34 r35 r36 r37 r38 r39 r40 r41 r42 r43 r44 r45 r46 r47 r48 r49 r50 r51 r52 r53 r54 r55 r56 r57 r58 r59 r60 r61 r62 r63 r64 r65 r66 r67 r68 r69 r70 r71 r72 r73 r74 r75 r76 r77 r78 r79 r80 r81 r82 r83 r84 r85 r86 r87 r88 r89 r90 r91 r92 r93 r94 r95 r96 r97 r98 r99 r100 r101 r102 r103 : Value} : S87b A0 A3 A4 A5 A6 [A0, r1, r2, A3, A4, A5, A6, r7, r8, r9, r10, r11, r12, r13, r14, r15, r16, r17, r18, r19, r20, r21, r22, r23, r24, r25, r26, r27, r28, r29, r30, r31, r32, r33, r34, r35, r36, r37, r38, r39, r40, r41, r42, r43, r44, r45, r46, r47, r48, r49, r50, r51, r52, r53, r54, r55, r56, r57, r58, r59, r60, r61, r62, r63, r64, r65, r66, r67, r68, r69, r70, r71, r72, r73, r74, r75, r76, r77, r78, r79, r80, r81, r82, r83, r84, r85, r86, r87, r88, r89, r90, r91, r92, r93, r94, r95, r96, r97, r98, r99, r100, r101, r102, r103]
/-- Whoever has a frame, and power: one of its field is sent. -/
theorem snd_box {ns : List Nd} : ∀ (j : Nat) (y : Nd) (g : Fm), ns[j]? = some y → y.box = some g → y.up = true → ∃ (i : Nat) (t : Sn), i ≤ j ∧ (sndN [] ns)[i]? = some t ∧ t.sends = true ∧ fld t.f = fld g := by
  intro j
  induction j using Nat.strongRecOn with
  | _ j ih =>
    intro y g hy hg hup
    have hs := sndN_at ns [] j y hy
    rw [List.nil_append] at hs
    have hf : snd1 (ns.take j) y = ⟨y.up, y.up && !((ns.take j).any fun y => fldO y g), g⟩ := by unfold snd1; rw [hg]
    cases ha : (ns.take j).any fun y => fldO y g with
    | false =>
      rw [hf, hup, ha] at hs
      exact ⟨j, _, Nat.le_refl _, hs, rfl, rfl⟩
    | true =>
      obtain ⟨z, hz, h1⟩ := List.any_eq_true.1 ha
      obtain ⟨i, hi⟩ := List.getElem?_of_mem hz
      have hil := (List.getElem?_eq_some_iff.1 hi).1
      rw [List.length_take] at hil
      rw [List.getElem?_take, if_pos (by omega)] at hi
      unfold fldO at h1
      cases hb : z.box with
      | none => rw [hb] at h1; cases h1
      | some g' =>
        rw [hb] at h1
        simp only [Bool.and_eq_true, decide_eq_true_eq] at h1
        obtain ⟨i', t, k0, k1, k2, k3⟩ := ih i (by omega) z g' hi hb h1.1
        exact ⟨i', t, by omega, k1, k2, k3.trans h1.2⟩
def sameF (f : Fm) (t : Sn) : Bool := t.sends && decide (fld t.f = fld f)
theorem same_any (pre : List Nd) (f : Fm) : (sndN [] pre).any (sameF f) = pre.any fun y => fldO y f := by
  rw [Bool.eq_iff_iff, List.any_eq_true, List.any_eq_true]
  constructor
  · rintro ⟨t, ht, h1⟩
    unfold sameF at h1
    simp only [Bool.and_eq_true, decide_eq_true_eq] at h1
    obtain ⟨h1, h2⟩ := h1
    obtain ⟨i, hi⟩ := List.getElem?_of_mem ht
    have hl := (List.getElem?_eq_some_iff.1 hi).1
    rw [sndN_len] at hl
    obtain ⟨x, hx, _⟩ := list_at hl
    rw [sndN_at _ _ _ _ hx] at hi
    injection hi with hi
    subst hi
    refine ⟨x, List.mem_of_getElem? hx, ?_⟩
    unfold snd1 at h1 h2
    unfold fldO
    cases hb : x.box with
    | none => rw [hb] at h1; cases h1
    | some g =>
      rw [hb] at h1 h2
      dsimp only at h1 h2 ⊢
      rw [Bool.and_eq_true] at h1
      rw [h1.1, h2]; simp
  · rintro ⟨y, hy, h1⟩
    unfold fldO at h1
    cases hb : y.box with
    | none => rw [hb] at h1; cases h1
    | some g =>
      rw [hb] at h1
      simp only [Bool.and_eq_true, decide_eq_true_eq] at h1
      obtain ⟨j, hj⟩ := List.getElem?_of_mem hy
      obtain ⟨i, t, _, k1, k2, k3⟩ := snd_box j y g hj hb h1.1
      refine ⟨t, List.mem_of_getElem? k1, ?_⟩
      unfold sameF
      rw [k2, k3, h1.2]; simp
/-- A node as the document puts it into a round. -/
theorem snd1_doc (pre : List Nd) (x : Nd) : snd1 pre x = ⟨x.up, x.up && x.box.isSome && !(sndN [] pre).any (sameF (x.box.getD z0)), x.box.getD z0⟩ := by
  unfold snd1
  cases hb : x.box with
  | none => simp
  | some f =>
    dsimp only
    rw [Option.isSome_some, Bool.and_true, Option.getD_some, same_any]
theorem cellD {ds : List Dn} {i j o N : Nat} {d : Dn} {v : Value} (hd : ds[i]? = some d) (ho : o = i * 19 + j) (hv : (dnC d)[j]? = some v) : (Blk.buf 126 (ds.flatMap dnC) N).cell o = some v := by
  subst ho
  have hj : j < 19 := by have := (List.getElem?_eq_some_iff.1 hv).1; rwa [dnC_len] at this
  show (ds.flatMap dnC)[i * 19 + j]? = some v
  rw [flat_nth dnC_len hd hj]; exact hv
section
variable {K : Value → Heap → Prop} {H HH : Heap} {q b n c t : Nat}
theorem l87b {Q : Post} {S0 : List Value} {k t5 : Nat} {a : Option Addr} {c1 : Nat} {L : List Sn} {up s0 : Bool} {F : Fm} (hk : L.length = k) (hk2 : k ≤ 127) (hL : InS snC 14 (.slice a k c1) H L) (hok : ∀ t ∈ L, okF t.f = true) (hokF : okF F = true)
    (hS : S87b (ptr q) (.slice a k c1) (zi (k : Int)) (ptr t5) (zi 0) S0)
    (hQ : ∀ S j, S87b (ptr q) (.slice a k c1) (zi (k : Int)) (ptr t5) (zi j) S → Q (.exit 2) S ((t5, .row 57 (snC ⟨up, s0 && !L.any (sameF F), F⟩) (0, 0)) :: H)) :
    SLoop Tryz.prog X87_l0 Q S0 ((t5, .row 57 (snC ⟨up, s0, F⟩) (0, 0)) :: H) := by
  refine SLoop.invA (fun (j : Nat) S H' => j ≤ k ∧ S87b (ptr q) (.slice a k c1) (zi (k : Int)) (ptr t5) (zi (j : Int)) S ∧ H' = (t5, .row 57 (snC ⟨up, s0 && !(L.take j).any (sameF F), F⟩) (0, 0)) :: H) (fun j => k - j) 0 (Keep.all ⟨Nat.zero_le _, hS, by simp⟩) ?_
  clear hS
  rintro j S H' ⟨hj, hS, rfl⟩ R2 hR
  have hdone : (s0 && !(L.take j).any (sameF F)) = false ∨ j = k → (s0 && !(L.take j).any (sameF F)) = (s0 && !L.any (sameF F)) := by
    rintro (h | rfl)
    · rw [h]
      cases s0 with
      | false => rfl
      | true =>
        rw [Bool.true_and, Bool.not_eq_false'] at h
        obtain ⟨y, hy, h1⟩ := List.any_eq_true.1 h
        rw [List.any_eq_true.2 ⟨y, List.mem_of_mem_take hy, h1⟩]; rfl
    · rw [← hk, List.take_length]
  by_cases hlt : j < k
  · obtain ⟨y, hy, _, htk⟩ := list_at (show j < L.length by omega)
    have hnx : (L.take (j + 1)).any (sameF F) = ((L.take j).any (sameF F) || sameF F y) := by
      rw [htk, List.any_append]; simp
    have hoy := hok y (List.mem_of_getElem? hy)
    have hnext : ∀ S X, S87b (ptr q) (.slice a k c1) (zi (k : Int)) (ptr t5) (zi ((j + 1 : Nat) : Int)) S → X = (t5, .row 57 (snC ⟨up, s0 && !((L.take j).any (sameF F) || sameF F y), F⟩) (0, 0)) :: H → R2 S X := fun S X g1 g2 => hR (j + 1) S X (by omega) (Keep.all ⟨hlt, g1, by rw [hnx]; exact g2⟩)
    have hq := fun S h (e : (s0 && !(L.take j).any (sameF F)) = false) => hdone (.inl e) ▸ hQ S (j : Int) h
    obtain ⟨lr, lo, lc2, lb, e1, hlb, hlcc⟩ := inS_at (by rw [← hk] at hL; exact hL) snC_len hy
    rw [hk] at e1
    injection e1 with e1 _ e3
    subst e1 e3
    have hfr : ∀ (i : Nat) v, (frC y.f)[i]? = some v → lb.cell (lo + j * 14 + 2 + i) = some v := fun i v hv => by
      rw [Nat.add_assoc]
      refine hlcc (2 + i) v ?_
      rw [Nat.add_comm]; exact hv
    have hse : lb.cell (lo + j * 14 + 1) = some (.bool y.sends) := hlcc 1 _ rfl
    have h106 : ∀ f, okF f = true → ∀ X (K2 : Value → Heap → Prop), K2 (.tuple ⟨[.string (strOf (fld f)), zi 0]⟩) X → SCalls Tryz.prog 106 [frV f] X K2 := fun f hf X K2 hk => c106 (by unfold fV; rw [if_pos hf]; exact hk)
    have h106y := h106 y.f hoy
    have h106F := h106 F hokF
    have hF2 : ∀ bb, ∀ (i : Nat) v, (frC F)[i]? = some v → (Blk.row 57 (snC ⟨up, bb, F⟩) (0, 0)).cell (0 + 2 + i) = some v := fun bb i v hv => by
      show (snC ⟨up, bb, F⟩)[0 + 2 + i]? = some v
      rw [show 0 + 2 + i = i + 1 + 1 by omega]; exact hv
    clear hR hQ hdone h106
    generalize hA : (L.take j).any (sameF F) = A at *
    unfold sameF at hnext
    cases hs : (s0 && !A) with
    | false =>
      have hq := fun S h => hq S h hs
      rw [hs] at hq
      clear hnext
      cases hS
      repeat' ((conv => whnf); (first | refine Branch.dt (show (j : Int) < (k : Int) by omega) ?_ | exact hq _ .mk | refine Look.at0 ?_ | refine Cell.row ?_ | refine Branch.f rfl ?_))
    | true =>
      obtain ⟨rfl, rfl⟩ : s0 = true ∧ A = false := by simpa using hs
      simp only [Bool.true_and, Bool.false_or] at hnext
      obtain ⟨yu, ys, yf⟩ := y
      dsimp only at hnext hse hfr h106y hoy
      cases ys with
      | false =>
        have hn2 := hnext
        clear hnext
        cases hS
        repeat' ((conv => whnf); (first | refine Branch.dt (show (j : Int) < (k : Int) by omega) ?_ | refine Idx.nat hlt ?_ | refine Look.cells (.tail _ hlb) rfl hfr ?_ | refine h106y _ _ ?_ | refine Cells.get _ rfl (hF2 _) ?_ | refine h106F _ _ ?_ | refine Look.cell (.tail _ hlb) hse ?_ | refine Branch.t rfl ?_ | refine Branch.f rfl ?_ | exact hn2 _ _ .mk rfl | refine Look.at0 ?_ | refine Cell.row ?_ | with_reducible refine Val.i64 (by omega) (by omega) ?_))
      | true =>
        by_cases he : fld yf = fld F
        · have hes : strOf (fld yf) = strOf (fld F) := by rw [he]
          rw [decide_eq_true he] at hnext
          have hn2 := hnext
          clear hnext
          cases hS
          repeat' ((conv => whnf); (first | refine Branch.dt (show (j : Int) < (k : Int) by omega) ?_ | refine Idx.nat hlt ?_ | refine Look.cells (.tail _ hlb) rfl hfr ?_ | refine h106y _ _ ?_ | refine Cells.get _ rfl (hF2 _) ?_ | refine h106F _ _ ?_ | refine Look.cell (.tail _ hlb) hse ?_ | refine Branch.dt hes ?_ | refine Branch.t rfl ?_ | exact hn2 _ _ .mk rfl | refine Look.at0 ?_ | refine Cell.row ?_ | refine Put.row rfl ?_ | with_reducible refine Val.i64 (by omega) (by omega) ?_))
        · have hes : ¬ strOf (fld yf) = strOf (fld F) := fun h => he (strOf_inj h)
          rw [decide_eq_false he] at hnext
          have hn2 := hnext
          clear hnext
          cases hS
          repeat' ((conv => whnf); (first | refine Branch.dt (show (j : Int) < (k : Int) by omega) ?_ | refine Idx.nat hlt ?_ | refine Look.cells (.tail _ hlb) rfl hfr ?_ | refine h106y _ _ ?_ | refine Cells.get _ rfl (hF2 _) ?_ | refine h106F _ _ ?_ | refine Look.cell (.tail _ hlb) hse ?_ | refine Branch.df hes ?_ | refine Branch.t rfl ?_ | exact hn2 _ _ .mk rfl | refine Look.at0 ?_ | refine Cell.row ?_ | with_reducible refine Val.i64 (by omega) (by omega) ?_))
  · obtain rfl : j = k := by omega
    have hq := fun S h => hdone (.inr rfl) ▸ hQ S (j : Int) h
    clear hR hQ hdone
    generalize (s0 && !(L.take j).any (sameF F)) = bb at *
    cases hS
    repeat' ((conv => whnf); (first | refine Branch.df (show ¬ (j : Int) < (j : Int) by omega) ?_ | exact hq _ .mk | refine Branch.f rfl ?_))
theorem c87 {N : Nat} {ds : List Dn} {s : Bs} (hm : dR q b s.ns.length c t ∈ H) (hb : (b, .buf 126 (ds.flatMap dnC) N) ∈ H) (hds : ds.map (·.x) = s.ns) (hw : ∀ x ∈ s.ns, NdW x) (hn : s.ns.length ≤ 127)
    (hK : ∀ a c M, Grow snC 14 57 (.slice a s.ns.length c) (sndN [] s.ns) M → K (.slice a s.ns.length c) (M ++ H)) : SCalls Tryz.prog 87 [ptr q] H K := by
  have g0 : (Blk.row 116 [.slice (some ⟨b, 0, none⟩) s.ns.length c, .int .u64 (t : Int)] (0, 0)).cell 0 = some (.slice (some ⟨b, 0, none⟩) s.ns.length c) := rfl
  refine enter87 ?_
  repeat' ((conv => whnf); (first | refine New.mk (fun _ => ?_)))
  rename_i q0
  refine SLoop.toBuf (A := []) ?_
  refine SLoop.invA (fun (k : Nat) S H' => k ≤ s.ns.length ∧ ∃ a c1 M, Grow snC 14 57 (.slice a k c1) (sndN [] (s.ns.take k)) M ∧ S87a (ptr q) (.slice a k c1) (zi (k : Int)) S ∧ H' = M ++ H) (fun k => s.ns.length - k) 0 (Keep.all ⟨Nat.zero_le _, _, 0, _, .zero, .mk, rfl⟩) ?_
  rintro k S H' ⟨hk, a, c1, M, hG, hS, rfl⟩ R hR
  have hr0 : dR q b s.ns.length c t ∈ M ++ H := List.mem_append_right _ hm
  have hb0 : (b, Blk.buf 126 (ds.flatMap dnC) N) ∈ M ++ H := List.mem_append_right _ hb
  by_cases hlt : k < s.ns.length
  · obtain ⟨x, hx, _, htake⟩ := list_at hlt
    have hxw := hw x (List.mem_of_getElem? hx)
    have hlen : (sndN [] (s.ns.take k)).length = k := by rw [sndN_len, List.length_take]; omega
    have hdl : ds.length = s.ns.length := by rw [← hds, List.length_map]
    obtain ⟨⟨dx, iv⟩, hd, _, _⟩ := list_at (show k < ds.length by omega)
    obtain rfl : dx = x := by
      have : (ds.map (·.x))[k]? = some x := by rw [hds]; exact hx
      rw [List.getElem?_map, hd] at this
      injection this
    have hsn := sndN_snoc dx (s.ns.take k) []
    rw [← htake, List.nil_append, snd1_doc] at hsn
    have hokL : ∀ y ∈ sndN [] (s.ns.take k), okF y.f = true := sndN_ok _ _ fun y hy => hw y (List.mem_of_mem_take hy)
    have hokF : okF (dx.box.getD z0) = true := by
      cases hbx : dx.box with
      | none => rfl
      | some f => exact (hxw.ok f hbx).1
    have hLI : ∀ z : Heap, (∀ w ∈ M, w ∈ z) → InS snC 14 (.slice a k c1) z (sndN [] (s.ns.take k)) := fun z hz => hG.ins snC_len hz
    have happ : ∀ (sn : Sn) r y (o : Oper) (xs xx : Operand) (K2 : Value → Heap → Prop), o.op = .call { callee := .builtin .append, args := #[xs, xx], argTypes := #[51, 51] } → (∀ a' c' M', Grow snC 14 57 (.slice a' (k + 1) c') (sndN [] (s.ns.take k) ++ [sn]) M' → K2 (.slice a' (k + 1) c') (M' ++ ((r, .row 57 (snC sn) (0, 0)) :: y :: H))) →
        RawV Tryz.prog o [.slice a k c1, .slice (some ⟨r, 0, none⟩) 1 1] ((r, .row 57 (snC sn) (0, 0)) :: y :: (M ++ H)) K2 := by
      intro sn r y o xs xx K2 ho hk2
      refine RawV.grow1 (A := [(r, .row 57 (snC sn) (0, 0)), y]) (B := H) (x := sn) (bytes := 32) hG rfl (.head _) ho (by kernel_rfl) (by decide) snC_len (snC_one sn) (by rw [hlen]; simp only [maxLen]; omega) (by rw [hlen]; omega) (fun a' c' M' g1 => ?_)
      rw [hlen] at g1 ⊢
      exact hk2 a' c' M' g1
    have hnext : ∀ S a' c' M' r y, Grow snC 14 57 (.slice a' (k + 1) c') (sndN [] (s.ns.take k) ++ [⟨dx.up, dx.up && dx.box.isSome && !(sndN [] (s.ns.take k)).any (sameF (dx.box.getD z0)), dx.box.getD z0⟩]) M' → S87a (ptr q) (.slice a' (k + 1) c') (zi ((k + 1 : Nat) : Int)) S → R S (M' ++ (r :: y :: H)) := fun S a' c' M' r y g1 g2 =>
      hR (k + 1) S _ (by omega) (Keep.glue [M', [r, y], H] [0, 1, 2] [0, 2] [1] (by decide) (by simp [glue]) ⟨hlt, a', c', M', by rw [hsn]; exact g1, g2, by simp [glue]⟩)
    have e0 : (Blk.buf 126 (ds.flatMap dnC) N).cell (0 + k * 19 + 0) = some (.bool dx.on) := cellD (j := 0) hd (by omega) rfl
    have e3 : (Blk.buf 126 (ds.flatMap dnC) N).cell (0 + k * 19 + 1 + 2) = some (.bool dx.u.off) := cellD (j := 3) hd (by omega) rfl
    have e5 : (Blk.buf 126 (ds.flatMap dnC) N).cell (0 + k * 19 + 5) = some (.bool dx.box.isSome) := cellD (j := 5) hd (by omega) rfl
    have e6 : ∀ (i : Nat) v, (frC (dx.box.getD z0))[i]? = some v → (Blk.buf 126 (ds.flatMap dnC) N).cell (0 + k * 19 + 6 + i) = some v := fun i v hv => by
      have hi : i < 12 := by have := (List.getElem?_eq_some_iff.1 hv).1; rwa [frC_len] at this
      refine cellD (j := 6 + i) hd (by omega) ?_
      have : dnC ⟨dx, iv⟩ = (.bool dx.on :: (uC dx.u ++ [.bool dx.box.isSome])) ++ (frC (dx.box.getD z0) ++ [iv]) := rfl
      rw [this, List.getElem?_append_right (by simp), List.getElem?_append_left (by simp; omega)]
      simpa using hv
    have hinn : ∀ {Q : Post} {S0 : List Value} {t5 : Nat} {up s0 : Bool}, S87b (ptr q) (.slice a k c1) (zi (k : Int)) (ptr t5) (zi 0) S0 →
        (∀ S j, S87b (ptr q) (.slice a k c1) (zi (k : Int)) (ptr t5) (zi j) S → Q (.exit 2) S ((t5, .row 57 (snC ⟨up, s0 && !(sndN [] (s.ns.take k)).any (sameF (dx.box.getD z0)), dx.box.getD z0⟩) (0, 0)) :: (M ++ H))) →
        SLoop Tryz.prog X87_l0 Q S0 ((t5, .row 57 (snC ⟨up, s0, dx.box.getD z0⟩) (0, 0)) :: (M ++ H)) := fun hS hQ => l87b hlen (by omega) (hLI _ fun w hw => List.mem_append_left _ hw) hokL hokF hS hQ
    have hcs : ∀ sn : Sn, ∀ (i : Nat) v, (snC sn)[i]? = some v → (Blk.row 57 (snC sn) (0, 0)).cell (0 + i) = some v := fun sn i v hv => by rw [Nat.zero_add]; exact hv
    clear hR hK hsn htake hd hokL hokF hLI hxw
    unfold Nd.up at hnext
    obtain ⟨xon, ⟨us, ur, uoff, uid⟩, xbox, xinn⟩ := dx
    dsimp only at e0 e3 e5 e6 hnext hinn
    generalize hbs : xbox.isSome = bs at *
    generalize xbox.getD z0 = F at *
    generalize (sndN [] (s.ns.take k)).any (sameF F) = A at *
    cases hS
    cases xon with
    | false =>
      simp only [Bool.false_and] at hnext
      repeat' ((conv => whnf); (first | refine Look.cell hr0 g0 ?_ | refine Look.cell (.tail _ hr0) g0 ?_ | refine Branch.dt (show (k : Int) < (s.ns.length : Int) by omega) ?_ | refine Idx.nat hlt ?_ | refine Look.cell hb0 e0 ?_ | refine Look.cells (.tail _ hb0) rfl e6 ?_ | (refine hinn (up := false) (s0 := false) .mk (fun S j hS => ?_); cases hS) | refine Cells.get _ rfl (hcs _) ?_ | with_reducible refine happ _ _ _ _ _ _ _ rfl (fun a' c' M' g1 => ?_) | exact hnext _ _ _ _ _ _ g1 .mk | refine New.mk (fun _ => ?_) | refine Look.at0 ?_ | refine Cell.row ?_ | refine Put.row rfl ?_ | with_reducible refine Val.i64 (by omega) (by omega) ?_ | refine Branch.f rfl ?_))
    | true =>
      cases uoff with
      | true =>
        simp only [Bool.true_and, Bool.not_true, Bool.false_and] at hnext
        repeat' ((conv => whnf); (first | refine Look.cell hr0 g0 ?_ | refine Look.cell (.tail _ hr0) g0 ?_ | refine Branch.dt (show (k : Int) < (s.ns.length : Int) by omega) ?_ | refine Idx.nat hlt ?_ | refine Look.cell hb0 e0 ?_ | refine Look.cell hb0 e3 ?_ | refine Look.cells (.tail _ hb0) rfl e6 ?_ | (refine hinn (up := false) (s0 := false) .mk (fun S j hS => ?_); cases hS) | refine Cells.get _ rfl (hcs _) ?_ | with_reducible refine happ _ _ _ _ _ _ _ rfl (fun a' c' M' g1 => ?_) | exact hnext _ _ _ _ _ _ g1 .mk | refine New.mk (fun _ => ?_) | refine Look.at0 ?_ | refine Cell.row ?_ | refine Put.row rfl ?_ | with_reducible refine Val.i64 (by omega) (by omega) ?_ | refine Branch.not ?_ | refine Branch.t rfl ?_))
      | false =>
        simp only [Bool.true_and, Bool.not_false] at hnext
        repeat' ((conv => whnf); (first | refine Look.cell hr0 g0 ?_ | refine Look.cell (.tail _ hr0) g0 ?_ | refine Branch.dt (show (k : Int) < (s.ns.length : Int) by omega) ?_ | refine Idx.nat hlt ?_ | refine Look.cell hb0 e0 ?_ | refine Look.cell hb0 e3 ?_ | refine Branch.t rfl ?_ | refine Look.cell (.tail _ hb0) e5 ?_ | refine Look.cells (.tail _ hb0) rfl e6 ?_ | (refine hinn (up := true) (s0 := bs) .mk (fun S j hS => ?_); cases hS) | refine Cells.get _ rfl (hcs _) ?_ | with_reducible refine happ _ _ _ _ _ _ _ rfl (fun a' c' M' g1 => ?_) | exact hnext _ _ _ _ _ _ g1 .mk | refine New.mk (fun _ => ?_) | refine Look.at0 ?_ | refine Cell.row ?_ | refine Put.row rfl ?_ | with_reducible refine Val.i64 (by omega) (by omega) ?_))
  · obtain rfl : k = s.ns.length := by omega
    rw [List.take_length] at hG
    have hk := hK a c1 M hG
    clear hR hK
    cases hS
    repeat' ((conv => whnf); (first | refine Look.cell hr0 g0 ?_ | refine Branch.df (by omega) ?_ | exact Keep.all hk))
end
end Go.Proofs.YtfmggepbcpceiaaGreatDoor


/- Layer 4: what came of a round is taken in, the document's loop: by walks. -/
set_option linter.unusedVariables false
set_option linter.unusedSimpArgs false
set_option maxRecDepth 100000
set_option maxHeartbeats 4000000
namespace Go.Proofs.YtfmggepbcpceiaaGreatDoor
open Sx
inductive S56 (A0 A4 A6 A7 A8 A10 : Value) : List Value → Prop
  | mk {r1 r2 r3 r5 r9 r11 r12 r13 r14 r15 r16 r17 r18 r19 r20 r21 r22 r23 r24 r25 r26 r27 r28 r29 r30 r31 r32 r33 r34 r35 r36 r37 r38 r39 r40 r41 r42 r43 r44 r45 r46 r47 r48 r49 r50 r51 r52 r53 r54 r55 r56 r57 r58 r59 r60 r61 r62 r63 r64 r65 r66 r67 r68 r69 r70 r71 r72 r73 r74 r75 r76 r77 r78 r79 r80 r81 r82 r83 r84 r85 r86 r87 r88 r89 r90 r91 r92 r93 r94 r95 r96 r97 r98 r99 r100 r101 r102 r103 r104 r105 r106 r107 r108 r109 r110 r111 r112 r113 r114 r115 r116 r117 r118 r119 r120 r121 r122 r123 r124 r125 r126 r127 r128 r129 r130 r131 r132 r133 r134 r135 r136 r137 r138 r139 r140 r141 r142 r143 r144 r145 r146 r147 r148 r149 r150 r151 r152 r153 r154 : Value} : S56 A0 A4 A6 A7 A8 A10 [A0, r1, r2, r3, A4, r5, A6, A7, A8, r9, A10, r11, r12, r13, r14, r15, r16, r17, r18, r19, r20, r21, r22, r23, r24, r25, r26, r27, r28, r29, r30, r31, r32, r33, r34, r35, r36, r37, r38, r39, r40, r41, r42, r43, r44, r45, r46, r47, r48, r49, r50, r51, r52, r53, r54, r55, r56, r57, r58, r59, r60, r61, r62, r63, r64, r65, r66, r67, r68, r69, r70, r71, r72, r73, r74, r75, r76, r77, r78, r79, r80, r81, r82, r83, r84, r85, r86, r87, r88, r89, r90, r91, r92, r93, r94, r95, r96, r97, r98, r99, r100, r101, r102, r103, r104, r105, r106, r107, r108, r109, r110, r111, r112, r113, r114, r115, r116, r117, r118, r119, r120, r121, r122, r123, r124, r125, r126, r127, r128, r129, r130, r131, r132, r133, r134, r135, r136, r137, r138, r139, r140, r141, r142, r143, r144, r145, r146, r147, r148, r149, r150, r151, r152, r153, r154]
theorem Un.idl_on {u : Un} (h : u.off = false) : u.idl = u := by unfold Un.idl; rw [h]; rfl
theorem Un.sent_on {u : Un} (h : u.off = false) : u.sent.off = false := by unfold Un.sent; split <;> exact h
theorem Un.recv_on {u : Un} (h : u.off = false) : u.recv.off = false := by
  unfold Un.recv
  split
  · exact h
  · split <;> exact h
theorem Un.erred_on {u : Un} {q : Bool} (h : u.off = false) : (u.erred q).off = false := by unfold Un.erred; split <;> exact h
/-- The first k nodes have taken in what came of a round. -/
def nsK (o : Out) (bt : Int) (won : Fm) (k : Nat) (ns : List Nd) : List Nd := ns.mapIdx fun i x => if i < k then stl o bt won i x else x
theorem nsK_zero {o : Out} {bt : Int} {won : Fm} {ns : List Nd} : nsK o bt won 0 ns = ns := by
  unfold nsK
  apply List.ext_getElem?
  intro i
  rw [List.getElem?_mapIdx]
  simp
theorem nsK_all {o : Out} {bt : Int} {won : Fm} {ns : List Nd} : nsK o bt won ns.length ns = ns.mapIdx (stl o bt won) := by
  unfold nsK
  apply List.ext_getElem?
  intro i
  rw [List.getElem?_mapIdx, List.getElem?_mapIdx]
  by_cases hi : i < ns.length
  · obtain ⟨x, hx, _⟩ := list_at hi
    rw [hx, Option.map_some, Option.map_some, if_pos hi]
  · rw [List.getElem?_eq_none (by omega)]; rfl
theorem nsK_len {o : Out} {bt : Int} {won : Fm} {ns : List Nd} {k : Nat} : (nsK o bt won k ns).length = ns.length := by simp [nsK]
theorem nsK_at {o : Out} {bt : Int} {won : Fm} {ns : List Nd} {k : Nat} : (nsK o bt won k ns)[k]? = ns[k]? := by
  unfold nsK
  rw [List.getElem?_mapIdx]
  cases ns[k]? with
  | none => rfl
  | some x => rw [Option.map_some, if_neg (by omega)]
theorem nsK_set {o : Out} {bt : Int} {won : Fm} {ns : List Nd} {k : Nat} {x : Nd} (hx : ns[k]? = some x) : (nsK o bt won k ns).set k (stl o bt won k x) = nsK o bt won (k + 1) ns := by
  have hl := (List.getElem?_eq_some_iff.1 hx).1
  apply List.ext_getElem?
  intro i
  by_cases hi : i = k
  · subst hi
    rw [List.getElem?_set_self (by rw [nsK_len]; exact hl)]
    unfold nsK
    rw [List.getElem?_mapIdx, hx, Option.map_some, if_pos (by omega)]
  · rw [List.getElem?_set_ne (Ne.symm hi)]
    unfold nsK
    rw [List.getElem?_mapIdx, List.getElem?_mapIdx]
    congr 1
    funext x
    by_cases h : i < k
    · rw [if_pos h, if_pos (by omega)]
    · rw [if_neg h, if_neg (by omega)]
/-- A unit in a node in a buffer. -/
abbrev unC (on : Bool) (u : Un) (rest : List Value) : List Value := .bool on :: (uC u ++ rest)
theorem node_vB {b N : Nat} {pre post rest : List Value} {on : Bool} {u : Un} : (b, Blk.buf 126 (pre ++ (unC on u rest ++ post)) N) = vB b (pre ++ [.bool on]) (uC u) (rest ++ post) N := by
  show (b, Blk.buf 126 _ N) = (b, Blk.buf 126 _ N)
  congr 2
  simp
theorem node_pP {b O : Nat} {pre : List Value} {on : Bool} (h : O = pre.length) : Value.pointer (some ⟨b, O + 1, none⟩) = pP b (pre ++ [.bool on]) := by
  subst h
  show Value.pointer (some ⟨b, pre.length + 1, none⟩) = Value.pointer (some ⟨b, (pre ++ [Value.bool on]).length, none⟩)
  rw [List.length_append]; rfl
section
variable {K : Value → Heap → Prop} {P Y : Heap} {b N O : Nat} {u : Un} {pre post rest : List Value} {on : Bool}
theorem d88 (hO : O = pre.length) (hw : UnW u) (hK : ∀ bb, K (.bool bb) (P ++ ((b, .buf 126 (pre ++ (unC on u.idl rest ++ post)) N) :: Y))) : SCalls Tryz.prog 88 [.pointer (some ⟨b, O + 1, none⟩), zi 1] (P ++ ((b, .buf 126 (pre ++ (unC on u rest ++ post)) N) :: Y)) K := by
  rw [node_pP (on := on) hO, node_vB]
  exact SCalls.under P (c88 hw fun bb => by rw [← node_vB]; exact hK bb)
theorem d89 (hO : O = pre.length) (hw : UnW u) (hK : K (.tuple ⟨[]⟩) (P ++ ((b, .buf 126 (pre ++ (unC on u.sent rest ++ post)) N) :: Y))) : SCalls Tryz.prog 89 [.pointer (some ⟨b, O + 1, none⟩)] (P ++ ((b, .buf 126 (pre ++ (unC on u rest ++ post)) N) :: Y)) K := by
  rw [node_pP (on := on) hO, node_vB]
  exact SCalls.under P (c89 hw (by rw [← node_vB]; exact hK))
theorem d91 (hO : O = pre.length) (hw : UnW u) (hK : K (.tuple ⟨[]⟩) (P ++ ((b, .buf 126 (pre ++ (unC on u.recv rest ++ post)) N) :: Y))) : SCalls Tryz.prog 91 [.pointer (some ⟨b, O + 1, none⟩)] (P ++ ((b, .buf 126 (pre ++ (unC on u rest ++ post)) N) :: Y)) K := by
  rw [node_pP (on := on) hO, node_vB]
  exact SCalls.under P (c91 hw (by rw [← node_vB]; exact hK))
theorem d90 {qq : Bool} (hO : O = pre.length) (hw : UnW u) (hK : K (.tuple ⟨[]⟩) (P ++ ((b, .buf 126 (pre ++ (unC on (u.fail qq) rest ++ post)) N) :: Y))) : SCalls Tryz.prog 90 [.pointer (some ⟨b, O + 1, none⟩), .bool qq] (P ++ ((b, .buf 126 (pre ++ (unC on u rest ++ post)) N) :: Y)) K := by
  rw [node_pP (on := on) hO, node_vB]
  exact SCalls.under P (c90 hw (by rw [← node_vB]; exact hK))
theorem d92 {qq : Bool} (hO : O = pre.length) (hw : UnW u) (hK : K (.tuple ⟨[]⟩) (P ++ ((b, .buf 126 (pre ++ (unC on (u.erred qq) rest ++ post)) N) :: Y))) : SCalls Tryz.prog 92 [.pointer (some ⟨b, O + 1, none⟩), .bool qq] (P ++ ((b, .buf 126 (pre ++ (unC on u rest ++ post)) N) :: Y)) K := by
  rw [node_pP (on := on) hO, node_vB]
  exact SCalls.under P (c92 hw (by rw [← node_vB]; exact hK))
end
end Go.Proofs.YtfmggepbcpceiaaGreatDoor


/- Layer 4: what came of a round is taken in, the document's loop: by walks. -/
set_option linter.unusedVariables false
set_option linter.unusedSimpArgs false
set_option maxRecDepth 100000
set_option maxHeartbeats 4000000
namespace Go.Proofs.YtfmggepbcpceiaaGreatDoor
open Sx
theorem PutOk.o {t : TypeId} {pre c post vs : List Value} {N O j : Nat} (hO : O = pre.length) (hj : Nat.ble (j + vs.length) c.length = true) : PutOk (.buf t (pre ++ (c ++ post)) N) (O + j) vs (.buf t (pre ++ ((c.take j ++ vs ++ c.drop (j + vs.length)) ++ post)) N) := by
  subst hO
  have hj := Nat.le_of_ble_eq_true hj
  refine PutOk.buf ?_ ?_
  · simp; omega
  · rw [List.take_append, List.drop_append, List.take_of_length_le (by omega), List.drop_of_length_le (by omega), show pre.length + j - pre.length = j by omega, show pre.length + j + vs.length - pre.length = j + vs.length by omega, List.take_append_of_le_length (by omega), List.drop_append_of_le_length hj]
    simp
theorem get_at {l : List Int} {k : Nat} {x d : Int} (h : l[k]? = some x) : l.getD k d = x := by rw [List.getD_eq_getElem?_getD, h]; rfl
theorem get_atb {l : List Bool} {k : Nat} {x d : Bool} (h : l[k]? = some x) : l.getD k d = x := by rw [List.getD_eq_getElem?_getD, h]; rfl
section
variable {X : Heap} {q t7 T : Nat} {ns : List Nd} {o : Out} {bt : Int} {la ea ga : Option Addr} {lc ec gc : Nat}
theorem l56 {Q : Post} {S0 : List Value} {F : Heap} {z4 : Value} (hw : ∀ x ∈ ns, NdW x) (hn : ns.length ≤ 127) (h7 : (t7, Blk.row 37 [zi o.win, zi o.bits, .bool o.sent, .slice ea ns.length ec, .slice ga ns.length gc] (0, 0)) ∈ X)
    (hes : InS (fun n : Int => [zi n]) 1 (.slice ea ns.length ec) X o.errs) (hgs : InS (fun b : Bool => [.bool b]) 1 (.slice ga ns.length gc) X o.got) (hel : o.errs.length = ns.length) (hgl : o.got.length = ns.length)
    (hL : InS snC 14 (.slice la ns.length lc) X (sndN [] ns)) (hwin : o.win < 0 ∨ ∃ (w : Nat) (x : Nd) (f : Fm), o.win = (w : Int) ∧ ns[w]? = some x ∧ x.box = some f) (hF : DocO q ⟨T, ns⟩ F)
    (hS : S56 (ptr q) z4 (.slice la ns.length lc) (ptr t7) (zi bt) (zi 0) S0)
    (hQ : ∀ S F', DocO q ⟨T, ns.mapIdx (stl o bt (boxAt ns o.win))⟩ F' → S56 (ptr q) z4 (.slice la ns.length lc) (ptr t7) (zi bt) (zi (ns.length : Int)) S → Q (.exit 0) S (F' ++ X)) : SLoop Tryz.prog X56_l0 Q S0 (F ++ X) := by
  generalize hwon : boxAt ns o.win = won at *
  refine SLoop.invA (fun (k : Nat) S H' => k ≤ ns.length ∧ S56 (ptr q) z4 (.slice la ns.length lc) (ptr t7) (zi bt) (zi (k : Int)) S ∧ ∃ F, DocO q ⟨T, nsK o bt won k ns⟩ F ∧ H' = F ++ X) (fun k => ns.length - k) 0 (Keep.all ⟨Nat.zero_le _, hS, F, by rw [nsK_zero]; exact hF, rfl⟩) ?_
  clear hS hF
  rintro k S H' ⟨hk, hS, F, hF, rfl⟩ R hR
  by_cases hlt : k < ns.length
  · obtain ⟨x, hx, _, _⟩ := list_at hlt
    have hxw := hw x (List.mem_of_getElem? hx)
    have hi : (⟨T, nsK o bt won k ns⟩ : Bs).is (k : Int) := by unfold Bs.is; dsimp only; rw [nsK_len]; omega
    have hat : (⟨T, nsK o bt won k ns⟩ : Bs).at (k : Int) = x := by
      unfold Bs.at
      dsimp only
      rw [Int.toNat_natCast, List.getD_eq_getElem?_getD, nsK_at, hx]; rfl
    obtain ⟨b, c, pre, post, iv, N, G, rfl, hpre, hin, _, hback⟩ := hF.focus hi
    rw [hat] at hin ⊢
    dsimp only at hback hin ⊢
    rw [nsK_len] at hback ⊢
    rw [Int.toNat_natCast] at hpre hback
    obtain ⟨er, he1, _, _⟩ := list_at (show k < o.errs.length by omega)
    obtain ⟨gt, hg1, _, _⟩ := list_at (show k < o.got.length by omega)
    have hgE := get_at (d := 0) he1
    have hgG := get_atb (d := false) hg1
    obtain ⟨eb0, eo, ec2, eb, e1, heb, hec⟩ := (by have := hes; rw [← hel] at this; exact this : InS (fun n : Int => [zi n]) 1 (.slice ea o.errs.length ec) X o.errs).at1 he1 rfl
    obtain ⟨gb0, go, gc2, gb, e2, hgb, hgc⟩ := (by have := hgs; rw [← hgl] at this; exact this : InS (fun b : Bool => [.bool b]) 1 (.slice ga o.got.length gc) X o.got).at1 hg1 rfl
    have hsx := sndN_at ns [] k x hx
    have hLl : (sndN [] ns).length = ns.length := sndN_len _ _
    have hLI := hL
    rw [← hLl] at hLI
    obtain ⟨lr, lo, lc2, lb, e3, hlb, hlcc⟩ := inS_at hLI snC_len hsx
    injection e1 with e1 _ e1c
    injection e2 with e2 _ e2c
    injection e3 with e3 _ e3c
    subst e1 e2 e3 e1c e2c e3c
    have hupE : (snd1 ([] ++ ns.take k) x).up = x.up := by unfold snd1; split <;> rfl
    have hlu : lb.cell (lo + k * 14 + 0) = some (.bool x.up) := by rw [← hupE]; exact hlcc 0 _ rfl
    have g0 : (Blk.row 37 [zi o.win, zi o.bits, .bool o.sent, .slice (some ⟨eb0, eo, none⟩) ns.length ec, .slice (some ⟨gb0, go, none⟩) ns.length gc] (0, 0)).cell (0 + 0) = some (zi o.win) := rfl
    have g2 : (Blk.row 37 [zi o.win, zi o.bits, .bool o.sent, .slice (some ⟨eb0, eo, none⟩) ns.length ec, .slice (some ⟨gb0, go, none⟩) ns.length gc] (0, 0)).cell (0 + 2) = some (.bool o.sent) := rfl
    have g3 : (Blk.row 37 [zi o.win, zi o.bits, .bool o.sent, .slice (some ⟨eb0, eo, none⟩) ns.length ec, .slice (some ⟨gb0, go, none⟩) ns.length gc] (0, 0)).cell (0 + 3) = some (.slice (some ⟨eb0, eo, none⟩) ns.length ec) := rfl
    have g4 : (Blk.row 37 [zi o.win, zi o.bits, .bool o.sent, .slice (some ⟨eb0, eo, none⟩) ns.length ec, .slice (some ⟨gb0, go, none⟩) ns.length gc] (0, 0)).cell (0 + 4) = some (.slice (some ⟨gb0, go, none⟩) ns.length gc) := rfl
    have hkn : k < ns.length := hlt
    have hke : k < o.errs.length := by omega
    have hkg : k < o.got.length := by omega
    have hX : ∀ (y z : Nat × Blk) {w : Nat × Blk}, w ∈ X → w ∈ y :: z :: (G ++ X) := fun y z w h => .tail _ (.tail _ (List.mem_append_right _ h))
    have hset := fun x' (h : stl o bt won k x = x') => (h ▸ nsK_set hx : (nsK o bt won k ns).set k x' = nsK o bt won (k + 1) ns)
    have hn0 : ∀ x', stl o bt won k x = x' → x'.inn = x.inn → ∀ S, S56 (ptr q) z4 (.slice (some ⟨lr, lo, none⟩) ns.length lc) (ptr t7) (zi bt) (zi ((k + 1 : Nat) : Int)) S → R S (dR q b ns.length c T :: (b, .buf 126 (pre ++ (dC x' iv ++ post)) N) :: (G ++ X)) := fun x' hst hii S g1 =>
      hR (k + 1) S _ (by omega) (Keep.all ⟨hlt, g1, _, by have := hback x' iv [] T (by rw [hii]; exact hin); rw [hset x' hst] at this; exact this, rfl⟩)
    have hn1 : ∀ x', stl o bt won k x = x' → ∀ a' c' M', x'.inn = x.inn ++ [won] → Grow frC 12 32 (.slice a' (x.inn.length + 1) c') (x.inn ++ [won]) M' → ∀ S r2, S56 (ptr q) z4 (.slice (some ⟨lr, lo, none⟩) ns.length lc) (ptr t7) (zi bt) (zi ((k + 1 : Nat) : Int)) S → R S ((M' ++ [r2, dR q b ns.length c T]) ++ ((b, .buf 126 (pre ++ (dC x' (.slice a' (x.inn.length + 1) c') ++ post)) N) :: (G ++ X))) := fun x' hst a' c' M' hii hG S r2 g1 => by
      have hd := hback x' (.slice a' (x.inn.length + 1) c') M' T (by rw [hii]; exact hG.ins frC_len fun z hz => List.mem_append_left _ hz)
      rw [hset x' hst] at hd
      exact hR (k + 1) S _ (by omega) (Keep.glue [M', [r2], [dR q b ns.length c T], [(b, .buf 126 (pre ++ (dC x' (.slice a' (x.inn.length + 1) c') ++ post)) N)], G, X] [0, 1, 2, 3, 4, 5] [2, 3, 0, 4, 5] [1] (by decide) (by simp [glue]) ⟨hlt, g1, _, hd, by simp [glue]⟩)
    have hdown := stl_down (o := o) (bt := bt) (won := won) (k := k) (x := x)
    have hnone := stl_none (o := o) (bt := bt) (won := won) (k := k) (x := x)
    have hsent := stl_sent (o := o) (bt := bt) (won := won) (k := k) (x := x)
    have hfail := stl_fail (o := o) (bt := bt) (won := won) (k := k) (x := x)
    have hgot := stl_got (o := o) (bt := bt) (won := won) (k := k) (x := x)
    have herr := stl_err (o := o) (bt := bt) (won := won) (k := k) (x := x)
    have hsame := stl_same (o := o) (bt := bt) (won := won) (k := k) (x := x)
    rw [hgE] at hfail herr hsame
    rw [hgG] at hgot herr hsame
    have hwf : o.win < 0 ∨ ∃ w : Nat, o.win = (w : Int) ∧ w < ns.length ∧ ∃ wb, (lr, wb) ∈ X ∧ ∀ (i : Nat) v, (frC won)[i]? = some v → wb.cell (lo + w * 14 + 2 + i) = some v := by
      rcases hwin with h | ⟨w, y, f, k1, k2, k3⟩
      · exact .inl h
      · have hwl := (List.getElem?_eq_some_iff.1 k2).1
        obtain ⟨lr', lo', lc', lb', e3', hlb', hlcc'⟩ := inS_at hLI snC_len (sndN_at ns [] w y k2)
        injection e3' with e3' _ _
        injection e3' with e3'
        injection e3' with e3' e4'
        subst e3' e4'
        refine .inr ⟨w, k1, hwl, lb', hlb', fun i v hv => ?_⟩
        have hbw : (snd1 ([] ++ ns.take w) y).f = won := by
          rw [← hwon]
          unfold boxAt snd1
          rw [if_neg (by omega), k1, Int.toNat_natCast, List.getD_eq_getElem?_getD, k2, k3]
          show f = y.box.getD z0
          rw [k3]; rfl
        rw [Nat.add_assoc]
        refine hlcc' (2 + i) v ?_
        rw [← hbw] at hv
        rw [Nat.add_comm]; exact hv
    have hxu := hxw.u
    have hxup := hxw.up
    have hin2 := hin
    clear hR hQ hback hset hat hi hsx hLI hlcc hupE he1 hg1 hes hgs hL hwin hxw hgE hgG
    obtain ⟨xon, xu, xbox, xinn⟩ := x
    unfold Nd.up at hlu hxup hdown hnone hsent hfail hgot herr hsame
    dsimp only at hn0 hn1 hin hxup hlu hdown hnone hsent hfail hgot herr hsame hxu hin2
    have h88 : ∀ (rest : List Value) (K2 : Value → Heap → Prop), (∀ bb, K2 (.bool bb) (dR q b ns.length c T :: (b, .buf 126 (pre ++ (unC true xu.idl rest ++ post)) N) :: (G ++ X))) → SCalls Tryz.prog 88 [.pointer (some ⟨b, 0 + k * 19 + 1, none⟩), zi 1] (dR q b ns.length c T :: (b, .buf 126 (pre ++ (unC true xu rest ++ post)) N) :: (G ++ X)) K2 := fun rest K2 hk => d88 (P := [_]) hpre hxu hk
    cases xon with
    | false =>
      have hb0 := hxup rfl
      subst hb0
      have hst := hdown rfl rfl
      have hn2 := hn0 _ hst rfl
      clear hn0 hn1 hdown hnone hsent hfail hgot herr hsame
      obtain ⟨us, ur, uoff, uid⟩ := xu
      cases hS
      by_cases hwn : o.win < 0
      · repeat' ((conv => whnf); (first | refine Look.cell (hX _ _ h7) g0 ?_ | refine Look.cell (hX _ _ h7) g2 ?_ | refine Look.cell (hX _ _ h7) g3 ?_ | refine Look.cell (hX _ _ h7) g4 ?_ | refine Look.cell (hX _ _ hlb) hlu ?_ | refine Look.cell (hX _ _ heb) hec ?_ | refine Look.cell (hX _ _ hgb) hgc ?_ | refine Idx.nat hkn ?_ | refine Idx.nat hke ?_ | refine Idx.nat hkg ?_ | refine Branch.dt (show (k : Int) < (ns.length : Int) by omega) ?_ | refine Cell.get (at_o hpre rfl) ?_ | refine Branch.dt hwn ?_ | refine Branch.f rfl ?_ | refine Branch.t rfl ?_ | exact hn2 _ .mk | refine Look.at0 ?_ | refine Cell.row ?_ | refine Look.at1 ?_ | with_reducible refine Val.i64 (by omega) (by omega) ?_))
      · repeat' ((conv => whnf); (first | refine Look.cell (hX _ _ h7) g0 ?_ | refine Look.cell (hX _ _ h7) g2 ?_ | refine Look.cell (hX _ _ h7) g3 ?_ | refine Look.cell (hX _ _ h7) g4 ?_ | refine Look.cell (hX _ _ hlb) hlu ?_ | refine Look.cell (hX _ _ heb) hec ?_ | refine Look.cell (hX _ _ hgb) hgc ?_ | refine Idx.nat hkn ?_ | refine Idx.nat hke ?_ | refine Idx.nat hkg ?_ | refine Branch.dt (show (k : Int) < (ns.length : Int) by omega) ?_ | refine Cell.get (at_o hpre rfl) ?_ | refine Branch.df hwn ?_ | refine Branch.f rfl ?_ | refine Branch.t rfl ?_ | exact hn2 _ .mk | refine Look.at0 ?_ | refine Cell.row ?_ | refine Look.at1 ?_ | with_reducible refine Val.i64 (by omega) (by omega) ?_))
    | true =>
      have h88 := h88 (.bool xbox.isSome :: (frC (xbox.getD z0) ++ [iv]))
      cases hof : xu.off with
      | true =>
        rw [hof] at hlu hxup hdown
        have hb0 := hxup rfl
        subst hb0
        have hst := hdown rfl rfl
        have hn2 := hn0 _ hst rfl
        clear hn0 hn1 hdown hnone hsent hfail hgot herr hsame
        cases hS
        by_cases hwn : o.win < 0
        · repeat' ((conv => whnf); (first | refine Look.cell (hX _ _ h7) g0 ?_ | refine Look.cell (hX _ _ h7) g2 ?_ | refine Look.cell (hX _ _ h7) g3 ?_ | refine Look.cell (hX _ _ h7) g4 ?_ | refine Look.cell (hX _ _ hlb) hlu ?_ | refine Look.cell (hX _ _ heb) hec ?_ | refine Look.cell (hX _ _ hgb) hgc ?_ | refine Idx.nat hkn ?_ | refine Idx.nat hke ?_ | refine Idx.nat hkg ?_ | refine Branch.dt (show (k : Int) < (ns.length : Int) by omega) ?_ | refine Cell.get (at_o hpre rfl) ?_ | refine h88 _ (fun bb => ?_) | refine Branch.dt hwn ?_ | refine Branch.f rfl ?_ | refine Branch.t rfl ?_ | exact hn2 _ .mk | refine Look.at0 ?_ | refine Cell.row ?_ | refine Look.at1 ?_ | with_reducible refine Val.i64 (by omega) (by omega) ?_))
        · repeat' ((conv => whnf); (first | refine Look.cell (hX _ _ h7) g0 ?_ | refine Look.cell (hX _ _ h7) g2 ?_ | refine Look.cell (hX _ _ h7) g3 ?_ | refine Look.cell (hX _ _ h7) g4 ?_ | refine Look.cell (hX _ _ hlb) hlu ?_ | refine Look.cell (hX _ _ heb) hec ?_ | refine Look.cell (hX _ _ hgb) hgc ?_ | refine Idx.nat hkn ?_ | refine Idx.nat hke ?_ | refine Idx.nat hkg ?_ | refine Branch.dt (show (k : Int) < (ns.length : Int) by omega) ?_ | refine Cell.get (at_o hpre rfl) ?_ | refine h88 _ (fun bb => ?_) | refine Branch.df hwn ?_ | refine Branch.f rfl ?_ | refine Branch.t rfl ?_ | exact hn2 _ .mk | refine Look.at0 ?_ | refine Cell.row ?_ | refine Look.at1 ?_ | with_reducible refine Val.i64 (by omega) (by omega) ?_))
      | false =>
        rw [hof] at hlu hnone hsent hfail hgot herr hsame
        rw [Un.idl_on hof] at h88
        clear hdown
        by_cases hwn : o.win < 0
        · have hst := hnone rfl hwn
          have hn2 := hn0 _ hst rfl
          clear hn0 hn1 hnone hsent hfail hgot herr hsame
          cases hS
          repeat' ((conv => whnf); (first | refine Look.cell (hX _ _ h7) g0 ?_ | refine Look.cell (hX _ _ h7) g2 ?_ | refine Look.cell (hX _ _ h7) g3 ?_ | refine Look.cell (hX _ _ h7) g4 ?_ | refine Look.cell (hX _ _ hlb) hlu ?_ | refine Look.cell (hX _ _ heb) hec ?_ | refine Look.cell (hX _ _ hgb) hgc ?_ | refine Idx.nat hkn ?_ | refine Idx.nat hke ?_ | refine Idx.nat hkg ?_ | refine Branch.dt (show (k : Int) < (ns.length : Int) by omega) ?_ | refine Cell.get (at_o hpre rfl) ?_ | refine h88 _ (fun bb => ?_) | refine Branch.dt hwn ?_ | refine Branch.f rfl ?_ | refine Branch.t rfl ?_ | exact hn2 _ .mk | refine Look.at0 ?_ | refine Cell.row ?_ | refine Look.at1 ?_ | with_reducible refine Val.i64 (by omega) (by omega) ?_))
        · have hwn' : ¬ o.win < 0 := hwn
          by_cases hkw : (k : Int) = o.win
          · clear hgot herr hsame hnone
            cases hsn : o.sent with
            | true =>
              have g2 := g2.trans (show some (Value.bool o.sent) = some (Value.bool true) by rw [hsn])
              have hst := hsent rfl hkw.symm hsn
              have hn2 := hn0 _ hst rfl
              have hso := Un.sent_on hof
              have h89 : ∀ (rest : List Value) (K2 : Value → Heap → Prop), K2 (.tuple ⟨[]⟩) (dR q b ns.length c T :: (b, .buf 126 (pre ++ (unC true xu.sent rest ++ post)) N) :: (G ++ X)) → SCalls Tryz.prog 89 [.pointer (some ⟨b, 0 + k * 19 + 1, none⟩)] (dR q b ns.length c T :: (b, .buf 126 (pre ++ (unC true xu rest ++ post)) N) :: (G ++ X)) K2 := fun rest K2 hk => d89 (P := [_]) hpre hxu hk
              have h89 := h89 (.bool false :: (frC z0 ++ [iv]))
              clear hn0 hn1 hsent hfail
              cases hS
              repeat' ((conv => whnf); (first | refine Look.cell (hX _ _ h7) g0 ?_ | refine Look.cell (hX _ _ h7) g2 ?_ | refine Look.cell (hX _ _ h7) g3 ?_ | refine Look.cell (hX _ _ h7) g4 ?_ | refine Look.cell (hX _ _ hlb) hlu ?_ | refine Look.cell (hX _ _ heb) hec ?_ | refine Look.cell (hX _ _ hgb) hgc ?_ | refine Idx.nat hkn ?_ | refine Idx.nat hke ?_ | refine Idx.nat hkg ?_ | refine Branch.dt (show (k : Int) < (ns.length : Int) by omega) ?_ | refine Cell.get (at_o hpre rfl) ?_ | refine h88 _ (fun bb => ?_) | refine Branch.df hwn ?_ | refine Branch.dt hkw ?_ | refine h89 _ ?_ | refine Put.o hpre rfl ?_ | refine Cell.get (at_o2 hpre rfl) ?_ | refine Branch.f hso ?_ | refine Branch.f rfl ?_ | refine Branch.t rfl ?_ | exact hn2 _ .mk | refine Look.at0 ?_ | refine Cell.row ?_ | refine Look.at1 ?_ | with_reducible refine Val.i64 (by omega) (by omega) ?_))
            | false =>
              have g2 := g2.trans (show some (Value.bool o.sent) = some (Value.bool false) by rw [hsn])
              have hst := hfail rfl hkw.symm hsn
              have h90 : ∀ (rest : List Value) (K2 : Value → Heap → Prop), K2 (.tuple ⟨[]⟩) (dR q b ns.length c T :: (b, .buf 126 (pre ++ (unC true (xu.fail (decide (er = 23))) rest ++ post)) N) :: (G ++ X)) → SCalls Tryz.prog 90 [.pointer (some ⟨b, 0 + k * 19 + 1, none⟩), .bool (decide (er = 23))] (dR q b ns.length c T :: (b, .buf 126 (pre ++ (unC true xu rest ++ post)) N) :: (G ++ X)) K2 := fun rest K2 hk => d90 (P := [_]) hpre hxu hk
              have h90 := h90 (.bool xbox.isSome :: (frC (xbox.getD z0) ++ [iv]))
              cases hfo : (xu.fail (decide (er = 23))).off with
              | true =>
                rw [hfo, if_pos rfl] at hst
                have hn2 := hn0 _ hst rfl
                clear hn0 hn1 hsent hfail
                cases hS
                repeat' ((conv => whnf); (first | refine Look.cell (hX _ _ h7) g0 ?_ | refine Look.cell (hX _ _ h7) g2 ?_ | refine Look.cell (hX _ _ h7) g3 ?_ | refine Look.cell (hX _ _ h7) g4 ?_ | refine Look.cell (hX _ _ hlb) hlu ?_ | refine Look.cell (hX _ _ heb) hec ?_ | refine Look.cell (hX _ _ hgb) hgc ?_ | refine Idx.nat hkn ?_ | refine Idx.nat hke ?_ | refine Idx.nat hkg ?_ | refine Branch.dt (show (k : Int) < (ns.length : Int) by omega) ?_ | refine Cell.get (at_o hpre rfl) ?_ | refine h88 _ (fun bb => ?_) | refine Branch.df hwn ?_ | refine Branch.dt hkw ?_ | refine SDraw.all (by kernel_rfl) ?_ | refine h90 _ ?_ | refine Put.o hpre rfl ?_ | refine Cell.get (at_o2 hpre rfl) ?_ | refine Branch.t hfo ?_ | refine Branch.f rfl ?_ | refine Branch.t rfl ?_ | exact hn2 _ .mk | refine Look.at0 ?_ | refine Cell.row ?_ | refine Look.at1 ?_ | with_reducible refine Val.i64 (by omega) (by omega) ?_))
              | false =>
                rw [hfo, if_neg (by decide)] at hst
                have hn2 := hn0 _ hst rfl
                clear hn0 hn1 hsent hfail
                cases hS
                repeat' ((conv => whnf); (first | refine Look.cell (hX _ _ h7) g0 ?_ | refine Look.cell (hX _ _ h7) g2 ?_ | refine Look.cell (hX _ _ h7) g3 ?_ | refine Look.cell (hX _ _ h7) g4 ?_ | refine Look.cell (hX _ _ hlb) hlu ?_ | refine Look.cell (hX _ _ heb) hec ?_ | refine Look.cell (hX _ _ hgb) hgc ?_ | refine Idx.nat hkn ?_ | refine Idx.nat hke ?_ | refine Idx.nat hkg ?_ | refine Branch.dt (show (k : Int) < (ns.length : Int) by omega) ?_ | refine Cell.get (at_o hpre rfl) ?_ | refine h88 _ (fun bb => ?_) | refine Branch.df hwn ?_ | refine Branch.dt hkw ?_ | refine SDraw.all (by kernel_rfl) ?_ | refine h90 _ ?_ | refine Cell.get (at_o2 hpre rfl) ?_ | refine Branch.f hfo ?_ | refine Branch.f rfl ?_ | refine Branch.t rfl ?_ | exact hn2 _ .mk | refine Look.at0 ?_ | refine Cell.row ?_ | refine Look.at1 ?_ | with_reducible refine Val.i64 (by omega) (by omega) ?_))
          · clear hsent hfail hnone
            cases gt with
            | true =>
              have hst := hgot rfl hkw hwn rfl
              have hro := Un.recv_on hof
              obtain ⟨ia, ic, rfl, hil⟩ := hin.sv
              have h91 : ∀ (P Y : Heap) (rest : List Value) (K2 : Value → Heap → Prop), K2 (.tuple ⟨[]⟩) (P ++ ((b, .buf 126 (pre ++ (unC true xu.recv rest ++ post)) N) :: Y)) → SCalls Tryz.prog 91 [.pointer (some ⟨b, 0 + k * 19 + 1, none⟩)] (P ++ ((b, .buf 126 (pre ++ (unC true xu rest ++ post)) N) :: Y)) K2 := fun P Y rest K2 hk => d91 hpre hxu hk
              by_cases h64 : xinn.length < 64
              · rw [if_pos h64] at hst
                have hn2 := hn1 _ hst
                clear hn0 hn1 herr hsame hgot
                obtain ⟨w, hwe, hwl, wb, hwb, hwc⟩ := hwf.resolve_left hwn
                have hY0 : ∀ z : Nat × Blk, z ∈ X → z ∈ dR q b ns.length c T :: (b, Blk.buf 126 (pre ++ (unC true xu (.bool xbox.isSome :: (frC (xbox.getD z0) ++ [.slice ia xinn.length ic])) ++ post)) N) :: (G ++ X) := fun z hz => .tail _ (.tail _ (List.mem_append_right _ hz))
                have hinG : InS frC 12 (.slice ia xinn.length ic) (dR q b ns.length c T :: (b, Blk.buf 126 (pre ++ (unC true xu (.bool xbox.isSome :: (frC (xbox.getD z0) ++ [.slice ia xinn.length ic])) ++ post)) N) :: (G ++ X)) xinn := hin.mono fun z hz => .tail _ (.tail _ (List.mem_append_left _ hz))
                have hput : ∀ v, PutOk (.buf 126 (pre ++ (unC true xu (.bool xbox.isSome :: (frC (xbox.getD z0) ++ [.slice ia xinn.length ic])) ++ post)) N) (0 + k * 19 + 18) [v] (.buf 126 (pre ++ (unC true xu (.bool xbox.isSome :: (frC (xbox.getD z0) ++ [v])) ++ post)) N) := fun v => PutOk.o (j := 18) hpre rfl
                have hbY : (b, Blk.buf 126 (pre ++ (unC true xu (.bool xbox.isSome :: (frC (xbox.getD z0) ++ [.slice ia xinn.length ic])) ++ post)) N) ∈ dR q b ns.length c T :: (b, Blk.buf 126 (pre ++ (unC true xu (.bool xbox.isSome :: (frC (xbox.getD z0) ++ [.slice ia xinn.length ic])) ++ post)) N) :: (G ++ X) := .tail _ (.head _)
                have g18 : (Blk.buf 126 (pre ++ (unC true xu (.bool xbox.isSome :: (frC (xbox.getD z0) ++ [.slice ia xinn.length ic])) ++ post)) N).cell (0 + k * 19 + 18) = some (.slice ia xinn.length ic) := at_o hpre rfl
                have h88 := fun (K2 : Value → Heap → Prop) hk => h88 K2 hk
                have heq : ∀ (M' : Heap) (y z w : Nat × Blk), M' ++ (y :: z :: w :: (G ++ X)) = (M' ++ [y, z]) ++ (w :: (G ++ X)) := by intros; simp
                have hY : ∃ bb, (b, Blk.buf 126 (pre ++ (unC true xu (.bool xbox.isSome :: (frC (xbox.getD z0) ++ [.slice ia xinn.length ic])) ++ post)) N) = bb := ⟨_, rfl⟩
                have happA : ∀ r2 q2 c2 (o : Oper) (xs xx : Operand) (Y : Heap) (K2 : Value → Heap → Prop), o.op = .call { callee := .builtin .append, args := #[xs, xx], argTypes := #[22, 22] } → xinn.length ≤ c2 → c2 ≤ maxLen → (∀ a' c' M', Grow frC 12 32 (.slice a' (xinn.length + 1) c') (xinn ++ [won]) M' → K2 (.slice a' (xinn.length + 1) c') (M' ++ ((r2, .row 32 (frC won) (0, 0)) :: Y))) →
                    RawV Tryz.prog o [.slice (some ⟨q2, 0, none⟩) xinn.length c2, .slice (some ⟨r2, 0, none⟩) 1 1] ((r2, .row 32 (frC won) (0, 0)) :: (q2, .buf 32 (xinn.flatMap frC) (c2 * 12)) :: Y) K2 := fun r2 q2 c2 o xs xx Y K2 ho h1 h2 hk =>
                  RawV.grow1 (A := [(r2, .row 32 (frC won) (0, 0))]) (M := [(q2, .buf 32 (xinn.flatMap frC) (c2 * 12))]) (B := Y) (x := won) (bytes := 24) (.buf h1 h2) rfl (.head _) ho (by kernel_rfl) (by decide) frC_len (frC_one won) (by simp only [maxLen]; omega) (by omega) hk
                have happB : ∀ r2 q2 c2 (o : Oper) (xs xx : Operand) (Y : Heap) (K2 : Value → Heap → Prop), o.op = .call { callee := .builtin .append, args := #[xs, xx], argTypes := #[22, 22] } → xinn.length ≤ c2 → c2 ≤ maxLen → (∀ a' c' M', Grow frC 12 32 (.slice a' (xinn.length + 1) c') (xinn ++ [won]) M' → K2 (.slice a' (xinn.length + 1) c') (M' ++ ((r2, .row 32 (frC won) (0, 0)) :: Y))) →
                    RawV Tryz.prog o [.slice (some ⟨q2, 0, none⟩) xinn.length c2, .slice (some ⟨r2, 0, none⟩) 1 1] ((q2, .buf 32 (xinn.flatMap frC) (c2 * 12)) :: (r2, .row 32 (frC won) (0, 0)) :: Y) K2 := fun r2 q2 c2 o xs xx Y K2 ho h1 h2 hk =>
                  RawV.grow1 (A := []) (M := [(q2, .buf 32 (xinn.flatMap frC) (c2 * 12))]) (B := (r2, .row 32 (frC won) (0, 0)) :: Y) (x := won) (bytes := 24) (.buf h1 h2) rfl (.tail _ (.head _)) ho (by kernel_rfl) (by decide) frC_len (frC_one won) (by simp only [maxLen]; omega) (by omega) hk
                have hcpA : ∀ r1 (o : Oper) (xs xx : Operand) (Y : Heap) (K2 : Value → Heap → Prop), InS frC 12 (.slice ia xinn.length ic) Y xinn → o.op = .call { callee := .builtin .append, args := #[xs, xx], argTypes := #[22, 22] } → (∀ q2 c2, xinn.length ≤ c2 → c2 ≤ maxLen → K2 (.slice (some ⟨q2, 0, none⟩) xinn.length c2) ((q2, .buf 32 (xinn.flatMap frC) (c2 * 12)) :: Y)) →
                    RawV Tryz.prog o [.slice (some ⟨r1, 0, none⟩) 0 0, .slice ia xinn.length ic] ((r1, .row 32 [] (0, 0)) :: Y) K2 := fun r1 o xs xx Y K2 hi ho hk => RawV.copyS (bytes := 24) hi ho (by kernel_rfl) (by decide) frC_len frC_one (by omega) hk
                have hcpB : ∀ r1 (y : Nat × Blk) (o : Oper) (xs xx : Operand) (Y : Heap) (K2 : Value → Heap → Prop), InS frC 12 (.slice ia xinn.length ic) Y xinn → o.op = .call { callee := .builtin .append, args := #[xs, xx], argTypes := #[22, 22] } → (∀ q2 c2, xinn.length ≤ c2 → c2 ≤ maxLen → K2 (.slice (some ⟨q2, 0, none⟩) xinn.length c2) ((q2, .buf 32 (xinn.flatMap frC) (c2 * 12)) :: y :: Y)) →
                    RawV Tryz.prog o [.slice (some ⟨r1, 0, none⟩) 0 0, .slice ia xinn.length ic] (y :: (r1, .row 32 [] (0, 0)) :: Y) K2 := fun r1 y o xs xx Y K2 hi ho hk => RawV.perm (.swap _ _ _) (hcpA r1 o xs xx (y :: Y) K2 (hi.mono fun z hz => .tail _ hz) ho hk)
                have h7Y := hY0 _ h7
                have hwY := hY0 _ hwb
                have hinG1 : ∀ y : Nat × Blk, InS frC 12 (.slice ia xinn.length ic) (y :: dR q b ns.length c T :: (b, Blk.buf 126 (pre ++ (unC true xu (.bool xbox.isSome :: (frC (xbox.getD z0) ++ [.slice ia xinn.length ic])) ++ post)) N) :: (G ++ X)) xinn := fun y => hinG.mono fun z hz => .tail _ hz
                have hsn0 : ∀ X' : Heap, (∀ z ∈ dR q b ns.length c T :: (b, Blk.buf 126 (pre ++ (unC true xu (.bool xbox.isSome :: (frC (xbox.getD z0) ++ [.slice ia xinn.length ic])) ++ post)) N) :: (G ++ X), z ∈ X') → Seen X' [(b, Blk.buf 126 (pre ++ (unC true xu (.bool xbox.isSome :: (frC (xbox.getD z0) ++ [.slice ia xinn.length ic])) ++ post)) N), (t7, Blk.row 37 [zi o.win, zi o.bits, .bool o.sent, .slice (some ⟨eb0, eo, none⟩) ns.length ec, .slice (some ⟨gb0, go, none⟩) ns.length gc] (0, 0)), (lr, wb)] :=
                  fun X' hs => .same (hs _ hbY) (.same (hs _ h7Y) (.same (hs _ hwY) .nil))
                clear h88 hbY hY
                have h88 : ∀ K2 : Value → Heap → Prop, (∀ bb, K2 (.bool bb) (dR q b ns.length c T :: (b, .buf 126 (pre ++ (unC true xu (.bool xbox.isSome :: (frC (xbox.getD z0) ++ [.slice ia xinn.length ic])) ++ post)) N) :: (G ++ X))) → SCalls Tryz.prog 88 [.pointer (some ⟨b, 0 + k * 19 + 1, none⟩), zi 1] (dR q b ns.length c T :: (b, .buf 126 (pre ++ (unC true xu (.bool xbox.isSome :: (frC (xbox.getD z0) ++ [.slice ia xinn.length ic])) ++ post)) N) :: (G ++ X)) K2 := fun K2 hk => d88 (P := [_]) hpre hxu (by rw [Un.idl_on hof]; exact hk)
                cases hS
                repeat' ((conv => whnf); (first | refine Look.cell (hX _ _ h7) g0 ?_ | refine Look.cell (hX _ _ h7) g2 ?_ | refine Look.cell (hX _ _ h7) g3 ?_ | refine Look.cell (hX _ _ h7) g4 ?_ | refine Look.cell (hX _ _ hlb) hlu ?_ | refine Look.cell (hX _ _ heb) hec ?_ | refine Look.cell (hX _ _ hgb) hgc ?_ | refine Idx.nat hkn ?_ | refine Idx.nat hke ?_ | refine Idx.nat hkg ?_ | refine Branch.dt (show (k : Int) < (ns.length : Int) by omega) ?_ | refine Cell.get (at_o hpre rfl) ?_ | refine h88 _ (fun bb => ?_) | refine Branch.df hwn ?_ | refine Branch.df hkw ?_ | refine Branch.dt (show (xinn.length : Int) < 64 by omega) ?_ | refine SDraw.held (by kernel_rfl) _ (hsn0 _ fun z hz => hz) ?_ | refine Look.cell (.head _) g18 ?_ | refine Look.cell (.tail _ (.head _)) g0 ?_ | refine Idx.of w hwe hwl ?_ | refine Look.cells (.tail _ (.tail _ (.head _))) rfl hwc ?_ | refine And.intro ?_ ?_ | with_reducible refine hcpA _ _ _ _ _ _ hinG rfl (fun q2 c2 j1 j2 => ?_) | with_reducible refine hcpA _ _ _ _ _ _ (hinG1 _) rfl (fun q2 c2 j1 j2 => ?_) | with_reducible refine hcpB _ _ _ _ _ _ _ hinG rfl (fun q2 c2 j1 j2 => ?_) | with_reducible refine happA _ _ _ _ _ _ _ _ rfl j1 j2 (fun a' c' M' g1 => ?_) | with_reducible refine happB _ _ _ _ _ _ _ _ rfl j1 j2 (fun a' c' M' g1 => ?_) | refine Kept.mk (hsn0 _ fun z hz => .tail _ hz) ?_ | refine Kept.mk (hsn0 _ fun z hz => .tail _ (.tail _ hz)) ?_ | refine Kept.mk (hsn0 _ fun z hz => List.mem_append_right _ (.tail _ hz)) ?_ | refine ⟨M' ++ [_, _], _, _, heq _ _ _ _, _, hput _, appK_to ?_⟩ | refine h91 (M' ++ [_, _]) _ (.bool xbox.isSome :: (frC (xbox.getD z0) ++ [.slice a' (xinn.length + 1) c'])) _ ?_ | refine Look.app ?_ | refine Cell.get (at_o2 hpre rfl) ?_ | refine Branch.f hro ?_ | refine Branch.f rfl ?_ | refine Branch.t rfl ?_ | exact hn2 _ _ _ rfl g1 _ _ .mk | refine New.mk (fun _ => ?_) | refine Look.at0 ?_ | refine Cell.row ?_ | refine Look.at1 ?_ | with_reducible refine Val.i64 (by omega) (by omega) ?_))
              · rw [if_neg h64] at hst
                have hn2 := hn0 _ hst rfl
                have h91 : ∀ K2 : Value → Heap → Prop, K2 (.tuple ⟨[]⟩) (dR q b ns.length c T :: (b, .buf 126 (pre ++ (unC true xu.recv (.bool xbox.isSome :: (frC (xbox.getD z0) ++ [.slice ia xinn.length ic])) ++ post)) N) :: (G ++ X)) → SCalls Tryz.prog 91 [.pointer (some ⟨b, 0 + k * 19 + 1, none⟩)] (dR q b ns.length c T :: (b, .buf 126 (pre ++ (unC true xu (.bool xbox.isSome :: (frC (xbox.getD z0) ++ [.slice ia xinn.length ic])) ++ post)) N) :: (G ++ X)) K2 := fun K2 hk => h91 [_] _ _ K2 hk
                clear hn0 hn1 herr hsame hgot
                cases hS
                repeat' ((conv => whnf); (first | refine Look.cell (hX _ _ h7) g0 ?_ | refine Look.cell (hX _ _ h7) g2 ?_ | refine Look.cell (hX _ _ h7) g3 ?_ | refine Look.cell (hX _ _ h7) g4 ?_ | refine Look.cell (hX _ _ hlb) hlu ?_ | refine Look.cell (hX _ _ heb) hec ?_ | refine Look.cell (hX _ _ hgb) hgc ?_ | refine Idx.nat hkn ?_ | refine Idx.nat hke ?_ | refine Idx.nat hkg ?_ | refine Branch.dt (show (k : Int) < (ns.length : Int) by omega) ?_ | refine Cell.get (at_o hpre rfl) ?_ | refine h88 _ (fun bb => ?_) | refine Branch.df hwn ?_ | refine Branch.df hkw ?_ | refine Branch.df (show ¬ (xinn.length : Int) < 64 by omega) ?_ | refine h91 _ ?_ | refine Cell.get (at_o2 hpre rfl) ?_ | refine Branch.f hro ?_ | refine Branch.f rfl ?_ | refine Branch.t rfl ?_ | exact hn2 _ .mk | refine Look.at0 ?_ | refine Cell.row ?_ | refine Look.at1 ?_ | with_reducible refine Val.i64 (by omega) (by omega) ?_))
            | false =>
              clear hgot
              by_cases he0 : er = 0
              · have hst := hsame rfl hkw hwn rfl he0
                have hn2 := hn0 _ hst rfl
                clear hn0 hn1 herr hsame
                cases hS
                repeat' ((conv => whnf); (first | refine Look.cell (hX _ _ h7) g0 ?_ | refine Look.cell (hX _ _ h7) g2 ?_ | refine Look.cell (hX _ _ h7) g3 ?_ | refine Look.cell (hX _ _ h7) g4 ?_ | refine Look.cell (hX _ _ hlb) hlu ?_ | refine Look.cell (hX _ _ heb) hec ?_ | refine Look.cell (hX _ _ hgb) hgc ?_ | refine Idx.nat hkn ?_ | refine Idx.nat hke ?_ | refine Idx.nat hkg ?_ | refine Branch.dt (show (k : Int) < (ns.length : Int) by omega) ?_ | refine Cell.get (at_o hpre rfl) ?_ | refine h88 _ (fun bb => ?_) | refine Branch.df hwn ?_ | refine Branch.df hkw ?_ | refine Branch.dt he0 ?_ | refine Cell.get (at_o2 hpre rfl) ?_ | refine Branch.f hof ?_ | refine Branch.f rfl ?_ | refine Branch.t rfl ?_ | exact hn2 _ .mk | refine Look.at0 ?_ | refine Cell.row ?_ | refine Look.at1 ?_ | with_reducible refine Val.i64 (by omega) (by omega) ?_ | refine Branch.not ?_))
              · have hst := herr rfl hkw hwn rfl he0
                have hn2 := hn0 _ hst rfl
                have heo := Un.erred_on (q := decide ((k : Int) = bt)) hof
                have h92 : ∀ (rest : List Value) (K2 : Value → Heap → Prop), K2 (.tuple ⟨[]⟩) (dR q b ns.length c T :: (b, .buf 126 (pre ++ (unC true (xu.erred (decide ((k : Int) = bt))) rest ++ post)) N) :: (G ++ X)) → SCalls Tryz.prog 92 [.pointer (some ⟨b, 0 + k * 19 + 1, none⟩), .bool (decide ((k : Int) = bt))] (dR q b ns.length c T :: (b, .buf 126 (pre ++ (unC true xu rest ++ post)) N) :: (G ++ X)) K2 := fun rest K2 hk => d92 (P := [_]) hpre hxu hk
                have h92 := h92 (.bool xbox.isSome :: (frC (xbox.getD z0) ++ [iv]))
                clear hn0 hn1 herr hsame
                cases hS
                repeat' ((conv => whnf); (first | refine Look.cell (hX _ _ h7) g0 ?_ | refine Look.cell (hX _ _ h7) g2 ?_ | refine Look.cell (hX _ _ h7) g3 ?_ | refine Look.cell (hX _ _ h7) g4 ?_ | refine Look.cell (hX _ _ hlb) hlu ?_ | refine Look.cell (hX _ _ heb) hec ?_ | refine Look.cell (hX _ _ hgb) hgc ?_ | refine Idx.nat hkn ?_ | refine Idx.nat hke ?_ | refine Idx.nat hkg ?_ | refine Branch.dt (show (k : Int) < (ns.length : Int) by omega) ?_ | refine Cell.get (at_o hpre rfl) ?_ | refine h88 _ (fun bb => ?_) | refine Branch.df hwn ?_ | refine Branch.df hkw ?_ | refine Branch.df he0 ?_ | refine h92 _ ?_ | refine Cell.get (at_o2 hpre rfl) ?_ | refine Branch.f heo ?_ | refine Branch.f rfl ?_ | refine Branch.t rfl ?_ | exact hn2 _ .mk | refine Look.at0 ?_ | refine Cell.row ?_ | refine Look.at1 ?_ | with_reducible refine Val.i64 (by omega) (by omega) ?_ | refine Branch.not ?_))
  · obtain rfl : k = ns.length := by omega
    rw [nsK_all] at hF
    have hq := fun S h => hQ S F hF h
    obtain ⟨b, c, hrow⟩ := hF.row
    have gr : (Blk.row 116 [.slice (some ⟨b, 0, none⟩) (ns.mapIdx (stl o bt won)).length c, .int .u64 (T : Int)] (0, 0)).cell 0 = some (.slice (some ⟨b, 0, none⟩) (ns.mapIdx (stl o bt won)).length c) := rfl
    have hll : (ns.mapIdx (stl o bt won)).length = ns.length := by simp
    clear hR hQ
    cases hS
    repeat' ((conv => whnf); (first | refine Look.cell (List.mem_append_left _ hrow) gr ?_ | refine Branch.df (show ¬ (ns.length : Int) < ((ns.mapIdx (stl o bt won)).length : Int) by omega) ?_ | exact hq _ .mk))
end
end Go.Proofs.YtfmggepbcpceiaaGreatDoor


/- Layer 4: a round of the document's bus: by walks. -/
set_option linter.unusedVariables false
set_option linter.unusedSimpArgs false
set_option maxRecDepth 100000
set_option maxHeartbeats 4000000
namespace Go.Proofs.YtfmggepbcpceiaaGreatDoor
open Sx
theorem round_bt {l : List Sn} {fl : List (Int × Int)} (he : (roundV l fl).e ≠ 0) : (roundV l fl).bt = -1 := by
  unfold roundV at he ⊢
  split
  · rename_i hc
    rw [if_pos hc] at he
    unfold winV at he ⊢
    dsimp only at he ⊢
    split
    · rfl
    · rename_i hC
      rw [if_neg hC] at he
      split
      · rename_i hr; rw [if_pos hr] at he; exact absurd rfl he
      · rfl
  · rfl
section
variable {K : Value → Heap → Prop} {F H : Heap} {q : Nat} {s : Bs} {lv fv : Value} {fl : List (Int × Int)} {l : List Sn}
theorem c19n (hl : InS snC 14 lv H l) (hwf : ∀ s ∈ l, s.f.id < 4294967296) (hf : InS xC 2 fv H fl)
    (hK : ∀ ea ec ga gc N, OuR [zi (roundV l fl).o.win, zi (roundV l fl).o.bits, .bool (roundV l fl).o.sent, .slice ea (roundV l fl).o.errs.length ec, .slice ga (roundV l fl).o.got.length gc] (roundV l fl).o N →
      K (.tuple ⟨[.agg ⟨[zi (roundV l fl).o.win, zi (roundV l fl).o.bits, .bool (roundV l fl).o.sent, .slice ea (roundV l fl).o.errs.length ec, .slice ga (roundV l fl).o.got.length gc]⟩, zi (roundV l fl).bt, zi (roundV l fl).e]⟩) (N ++ H)) : SCalls Tryz.prog 19 [lv, fv] H K := by
  refine c19 hl hwf hf (fun he => ?_) (fun he e g => ?_)
  · have hz := round_zero he
    have := hK none 0 none 0 [] (by rw [hz]; exact .zero)
    rw [hz, round_bt he] at this
    exact this
  · obtain ⟨l1, l2, l3⟩ := round_len he
    have hO := OuR.of (H := [eB e (roundV l fl).o.errs l.length, gB g (roundV l fl).o.got l.length]) l1 l2 l3 (.head _) (.tail _ (.head _))
    have := hK (some ⟨e, 0, none⟩) l.length (some ⟨g, 0, none⟩) l.length [eB e (roundV l fl).o.errs l.length, gB g (roundV l fl).o.got l.length] (by rw [l1, l2]; exact hO)
    rw [l1, l2, he] at this
    exact this
theorem c56 (h : DocO q s F) (hw : BsW s) (hf : InS xC 2 fv H fl)
    (hK : ∀ ea ec ga gc N F', DocO q (s.step fl) F' → OuR [zi (s.rd fl).o.win, zi (s.rd fl).o.bits, .bool (s.rd fl).o.sent, .slice ea (s.rd fl).o.errs.length ec, .slice ga (s.rd fl).o.got.length gc] (s.rd fl).o N →
      K (.tuple ⟨[.agg ⟨[zi (s.rd fl).o.win, zi (s.rd fl).o.bits, .bool (s.rd fl).o.sent, .slice ea (s.rd fl).o.errs.length ec, .slice ga (s.rd fl).o.got.length gc]⟩, zi (s.rd fl).e]⟩) (F' ++ (N ++ H))) : SCalls Tryz.prog 56 [ptr q, fv] (F ++ H) K := by
  obtain ⟨fa, fc, rfl, _⟩ := hf.sv
  cases h with
  | @mk b c ds G hds hin =>
    have h87 : ∀ (y : Nat × Blk) (K2 : Value → Heap → Prop), (∀ a c1 M, Grow snC 14 57 (.slice a s.ns.length c1) (sndN [] s.ns) M → K2 (.slice a s.ns.length c1) (M ++ (y :: dR q b s.ns.length c s.time :: (b, .buf 126 (ds.flatMap dnC) (c * 19)) :: (G ++ H)))) →
        SCalls Tryz.prog 87 [ptr q] (y :: dR q b s.ns.length c s.time :: (b, .buf 126 (ds.flatMap dnC) (c * 19)) :: (G ++ H)) K2 := fun y K2 hk => c87 (.tail _ (.head _)) (.tail _ (.tail _ (.head _))) hds hw.w hw.n2 hk
    have h19 : ∀ a c1 M (y : Nat × Blk) (K2 : Value → Heap → Prop), Grow snC 14 57 (.slice a s.ns.length c1) (sndN [] s.ns) M → (∀ ea ec ga gc N, OuR [zi (s.rd fl).o.win, zi (s.rd fl).o.bits, .bool (s.rd fl).o.sent, .slice ea (s.rd fl).o.errs.length ec, .slice ga (s.rd fl).o.got.length gc] (s.rd fl).o N →
        K2 (.tuple ⟨[.agg ⟨[zi (s.rd fl).o.win, zi (s.rd fl).o.bits, .bool (s.rd fl).o.sent, .slice ea (s.rd fl).o.errs.length ec, .slice ga (s.rd fl).o.got.length gc]⟩, zi (s.rd fl).bt, zi (s.rd fl).e]⟩) (N ++ (M ++ (y :: dR q b s.ns.length c s.time :: (b, .buf 126 (ds.flatMap dnC) (c * 19)) :: (G ++ H))))) →
        SCalls Tryz.prog 19 [.slice a s.ns.length c1, .slice fa fl.length fc] (M ++ (y :: dR q b s.ns.length c s.time :: (b, .buf 126 (ds.flatMap dnC) (c * 19)) :: (G ++ H))) K2 := fun a c1 M y K2 hG hk => by
      have hLI := hG.ins snC_len (H := M ++ (y :: dR q b s.ns.length c s.time :: (b, .buf 126 (ds.flatMap dnC) (c * 19)) :: (G ++ H))) fun z hz => List.mem_append_left _ hz
      exact c19n (l := sndN [] s.ns) hLI (sndN_id hw.w) (hf.mono fun z hz => List.mem_append_right _ (.tail _ (.tail _ (.tail _ (List.mem_append_right _ hz))))) hk
    have hc5 : ∀ (w bi : Int) (se : Bool) (ea : Option Addr) (n1 ec : Nat) (ga : Option Addr) (n2 gc : Nat), ∀ (j : Nat) v, [zi w, zi bi, .bool se, .slice ea n1 ec, .slice ga n2 gc][j]? = some v → (Blk.row 37 [zi w, zi bi, .bool se, .slice ea n1 ec, .slice ga n2 gc] (0, 0)).cell (0 + j) = some v := fun w bi se ea n1 ec ga n2 gc j v h => by rw [Nat.zero_add]; exact h
    have hput4 : ∀ (w bi : Int) (se : Bool) (ea : Option Addr) (n1 ec : Nat) (ga : Option Addr) (n2 gc : Nat), PutOk (.row 37 [zi 0, zi 0, .bool false, .slice none 0 0, .slice none 0 0] (0, 0)) 0 [zi w, zi bi, .bool se, .slice ea n1 ec, .slice ga n2 gc] (.row 37 [zi w, zi bi, .bool se, .slice ea n1 ec, .slice ga n2 gc] (0, 0)) := fun w bi se ea n1 ec ga n2 gc => PutOk.rowb rfl rfl
    have hrl := fun he => round_len (l := s.snd) (fl := fl) he
    have hlen : s.snd.length = s.ns.length := sndN_len _ _
    have hwinR := fun he => rd_win hw (fl := fl) he
    have hstep : s.step fl = if (s.rd fl).e = 0 then ⟨(s.time + (s.rd fl).o.bits.toNat) % 18446744073709551616, stlN (s.rd fl).o (s.rd fl).bt s.ns⟩ else s := rfl
    by_cases he : (s.rd fl).e = 0
    · rw [if_pos he] at hstep
      rw [hstep] at hK
      obtain ⟨l1, l2, hb0, hb1, _, hwc⟩ := hwinR he
      have hwin : (s.rd fl).o.win < 0 ∨ ∃ (w : Nat) (x : Nd) (f : Fm), (s.rd fl).o.win = (w : Int) ∧ s.ns[w]? = some x ∧ x.box = some f := by
        rcases hwc with ⟨h, _⟩ | ⟨w, x, f, k1, k2, k3, _⟩
        · exact .inl h
        · exact .inr ⟨w, x, f, k1, k2, k3⟩
      have hww := hw.w
      have hn2 := hw.n2
      have ht := hw.t
      rw [he] at hK h19
      clear hwinR hrl hstep he hwc
      generalize (s.rd fl).o = O at *
      generalize (s.rd fl).bt = bt at *
      have hsum : IntKind.u64.wrap ((s.time : Int) + O.bits) = (((s.time + O.bits.toNat) % 18446744073709551616 : Nat) : Int) := by rw [wrap_u64]; omega
      have hconv : IntKind.u64.wrap O.bits = O.bits := by rw [wrap_u64]; omega
      generalize (s.time + O.bits.toNat) % 18446744073709551616 = T at *
      obtain ⟨win, bits, sent, errs, got⟩ := O
      dsimp only at *
      have hrow : ∀ (a d : Nat × Blk) (N M : Heap), dR q b s.ns.length c s.time ∈ a :: (N ++ (M ++ (d :: dR q b s.ns.length c s.time :: (b, Blk.buf 126 (ds.flatMap dnC) (c * 19)) :: (G ++ H)))) := fun a d N M => .tail _ (List.mem_append_right _ (List.mem_append_right _ (.tail _ (.head _))))
      have g1 : (Blk.row 116 [.slice (some ⟨b, 0, none⟩) s.ns.length c, .int .u64 (s.time : Int)] (0, 0)).cell (0 + 1) = some (.int .u64 (s.time : Int)) := rfl
      have heq : ∀ (a d : Nat × Blk) (N M : Heap), a :: (N ++ (M ++ (d :: dR q b s.ns.length c s.time :: (b, Blk.buf 126 (ds.flatMap dnC) (c * 19)) :: (G ++ H)))) = (a :: (N ++ (M ++ [d]))) ++ (q, .row 116 [.slice (some ⟨b, 0, none⟩) s.ns.length c, .int .u64 (s.time : Int)] (0, 0)) :: ((b, Blk.buf 126 (ds.flatMap dnC) (c * 19)) :: (G ++ H)) := by intros; simp [dR]
      have hput : PutOk (.row 116 [.slice (some ⟨b, 0, none⟩) s.ns.length c, .int .u64 (s.time : Int)] (0, 0)) (0 + 1) [.int .u64 (T : Int)] (.row 116 [.slice (some ⟨b, 0, none⟩) s.ns.length c, .int .u64 (T : Int)] (0, 0)) := PutOk.rowb rfl rfl
      have hloop : ∀ {Q : Post} {S0 : List Value} {z4 : Value} {t7 a c1 ea ec ga gc N M} (d : Nat × Blk), Grow snC 14 57 (.slice a s.ns.length c1) (sndN [] s.ns) M → OuR [zi win, zi bits, .bool sent, .slice ea errs.length ec, .slice ga got.length gc] ⟨win, bits, sent, errs, got⟩ N →
          S56 (ptr q) z4 (.slice a s.ns.length c1) (ptr t7) (zi bt) (zi 0) S0 →
          (∀ S F', DocO q ⟨T, stlN ⟨win, bits, sent, errs, got⟩ bt s.ns⟩ F' → S56 (ptr q) z4 (.slice a s.ns.length c1) (ptr t7) (zi bt) (zi (s.ns.length : Int)) S → Q (.exit 0) S (F' ++ ((t7, .row 37 [zi win, zi bits, .bool sent, .slice ea errs.length ec, .slice ga got.length gc] (0, 0)) :: (N ++ (M ++ (d :: H)))))) →
          SLoop Tryz.prog X56_l0 Q S0 (((t7, .row 37 [zi win, zi bits, .bool sent, .slice ea errs.length ec, .slice ga got.length gc] (0, 0)) :: (N ++ (M ++ [d]))) ++ ((q, .row 116 [.slice (some ⟨b, 0, none⟩) s.ns.length c, .int .u64 (T : Int)] (0, 0)) :: ((b, Blk.buf 126 (ds.flatMap dnC) (c * 19)) :: (G ++ H)))) := by
        intro Q S0 z4 t7 a c1 ea ec ga gc N M d hG hO hS hQ
        obtain ⟨hes, hgs⟩ := OuR.open (o := ⟨win, bits, sent, errs, got⟩) hO
        dsimp only at hes hgs
        rw [l1] at hes hQ ⊢
        rw [l2] at hgs hQ ⊢
        have hd : DocO q ⟨T, s.ns⟩ (dR q b s.ns.length c T :: (b, .buf 126 (ds.flatMap dnC) (c * 19)) :: G) := DocO.mk (s := ⟨T, s.ns⟩) hds hin
        refine SLoop.keep (Keep.perm ((dR q b s.ns.length c T :: (b, .buf 126 (ds.flatMap dnC) (c * 19)) :: G) ++ ((t7, .row 37 [zi win, zi bits, .bool sent, .slice ea s.ns.length ec, .slice ga s.ns.length gc] (0, 0)) :: (N ++ (M ++ (d :: H))))) ?_ ?_)
        · exact perm_glue' (ls := [[(t7, .row 37 [zi win, zi bits, .bool sent, .slice ea s.ns.length ec, .slice ga s.ns.length gc] (0, 0))], N, M, [d], [dR q b s.ns.length c T, (b, .buf 126 (ds.flatMap dnC) (c * 19))], G, H]) (p := [0, 1, 2, 3, 4, 5, 6]) (q := [4, 5, 0, 1, 2, 3, 6]) (by decide) (by simp [glue]) (by simp [glue])
        · exact l56 (o := ⟨win, bits, sent, errs, got⟩) hww hn2 (.head _) (hes.mono fun z hz => .tail _ (List.mem_append_left _ hz)) (hgs.mono fun z hz => .tail _ (List.mem_append_left _ hz)) l1 l2 (hG.ins snC_len fun z hz => .tail _ (List.mem_append_right _ (List.mem_append_left _ hz))) hwin hd hS hQ
      have heq4 : ∀ (F' N M : Heap) (a d : Nat × Blk), F' ++ (a :: (N ++ (M ++ (d :: H)))) = (F' ++ (a :: (N ++ M))) ++ d :: H := by intros; simp
      have hfin : ∀ (F' N M : Heap) (a d : Nat × Blk) ea ec ga gc, DocO q ⟨T, stlN ⟨win, bits, sent, errs, got⟩ bt s.ns⟩ F' → OuR [zi win, zi bits, .bool sent, .slice ea errs.length ec, .slice ga got.length gc] ⟨win, bits, sent, errs, got⟩ N → Keep ((F' ++ (a :: (N ++ M))) ++ d :: H) fun H' => K (.tuple ⟨[.agg ⟨[zi win, zi bits, .bool sent, .slice ea errs.length ec, .slice ga got.length gc]⟩, zi 0]⟩) H' := fun F' N M a d ea ec ga gc hd hO =>
        Keep.glue [F', [a], N, M, [d], H] [0, 1, 2, 3, 4, 5] [0, 2, 5] [1, 3, 4] (by decide) (by simp [glue]) (by simpa [glue] using hK ea ec ga gc N F' hd hO)
      clear hK hw hds hin
      refine enter56 ?_
      repeat' ((conv => whnf); (first | refine h87 _ _ (fun a c1 M hG => ?_) | with_reducible refine h19 _ _ _ _ _ hG (fun ea ec ga gc N hO => ?_) | refine Branch.f rfl ?_ | refine SDraw.all (by kernel_rfl) ?_ | refine Look.cell (hrow _ _ _ _) g1 ?_ | with_reducible refine Val.to _ hconv ?_ | with_reducible refine Val.to _ hsum ?_ | refine ⟨_ :: (N ++ (M ++ [_])), _, _, heq _ _ _ _, _, hput, appK_to ?_⟩ | (refine hloop _ hG hO .mk (fun S F' hd hS => ?_); cases hS) | refine Look.cells (List.mem_append_right _ (.head _)) rfl (hc5 _ _ _ _ _ _ _ _ _) ?_ | refine ⟨F' ++ (_ :: (N ++ M)), _, _, heq4 _ _ _ _ _, _, hput4 _ _ _ _ _ _ _ _ _, appK_to ?_⟩ | exact hfin _ _ _ _ _ _ _ _ _ hd hO | refine New.mk (fun _ => ?_) | refine Look.at0 ?_ | refine Cell.row ?_ | refine Put.row rfl ?_))
    · rw [if_neg he] at hstep
      rw [hstep] at hK
      clear hwinR hrl hstep hlen
      have hd0 : DocO q s (dR q b s.ns.length c s.time :: (b, .buf 126 (ds.flatMap dnC) (c * 19)) :: G) := .mk hds hin
      generalize s.rd fl = r at *
      obtain ⟨e, bt, ⟨win, bits, sent, errs, got⟩⟩ := r
      dsimp only at *
      have heq4 : ∀ (N M : Heap) (a d : Nat × Blk) (Y : Heap), a :: (N ++ (M ++ (d :: Y))) = (a :: (N ++ M)) ++ d :: Y := by intros; simp
      have hfin : ∀ (N M : Heap) (a d : Nat × Blk) ea ec ga gc, OuR [zi win, zi bits, .bool sent, .slice ea errs.length ec, .slice ga got.length gc] ⟨win, bits, sent, errs, got⟩ N → Keep ((a :: (N ++ M)) ++ d :: dR q b s.ns.length c s.time :: (b, .buf 126 (ds.flatMap dnC) (c * 19)) :: (G ++ H)) fun H' => K (.tuple ⟨[.agg ⟨[zi win, zi bits, .bool sent, .slice ea errs.length ec, .slice ga got.length gc]⟩, zi e]⟩) H' := fun N M a d ea ec ga gc hO =>
        Keep.glue [[a], N, M, [d], [dR q b s.ns.length c s.time, (b, .buf 126 (ds.flatMap dnC) (c * 19))], G, H] [0, 1, 2, 3, 4, 5, 6] [4, 5, 1, 6] [0, 2, 3] (by decide) (by simp [glue]) (by simpa [glue] using hK ea ec ga gc N _ hd0 hO)
      clear hK hw
      refine enter56 ?_
      repeat' ((conv => whnf); (first | refine h87 _ _ (fun a c1 M hG => ?_) | with_reducible refine h19 _ _ _ _ _ hG (fun ea ec ga gc N hO => ?_) | refine Branch.df he ?_ | refine ⟨_ :: (N ++ M), _, _, heq4 _ _ _ _ _, _, hput4 _ _ _ _ _ _ _ _ _, appK_to ?_⟩ | refine Look.cells (List.mem_append_right _ (.head _)) rfl (hc5 _ _ _ _ _ _ _ _ _) ?_ | exact hfin _ _ _ _ _ _ _ _ hO | refine New.mk (fun _ => ?_) | refine Look.at0 ?_ | refine Cells.row rfl ?_ | refine Put.row rfl ?_ | refine Branch.not ?_))
end
end Go.Proofs.YtfmggepbcpceiaaGreatDoor


/- Layer 4: what happens on a bus, the program's and the document's: by walks. -/
set_option linter.unusedVariables false
set_option linter.unusedSimpArgs false
set_option maxRecDepth 100000
set_option maxHeartbeats 4000000
namespace Go.Proofs.YtfmggepbcpceiaaGreatDoor
open Sx
inductive S58 (A0 A1 A5 : Value) : List Value → Prop
  | mk {r2 r3 r4 r6 r7 r8 r9 r10 r11 r12 r13 r14 r15 r16 r17 r18 r19 r20 r21 r22 r23 r24 r25 : Value} : S58 A0 A1 A5 [A0, A1, r2, r3, r4, A5, r6, r7, r8, r9, r10, r11, r12, r13, r14, r15, r16, r17, r18, r19, r20, r21, r22, r23, r24, r25]
section
variable {B : Heap → Prop} {R H : Heap} {K : Value → Heap → Prop} {q : Nat} {s : Bs} {i : Int} {on : Bool} {f : Fm} {fl : List (Int × Int)} {fv : Value}
theorem k52 (h : Own (DocO q s) B R H) (hK : ∀ H', Own (DocO q (s.power i on).1) B R H' → K (zi (s.power i on).2) H') : SCalls Tryz.prog 52 [ptr q, zi i, .bool on] H K := by
  obtain ⟨F, G, X, h3, h4, hp, h5⟩ := h
  exact SCalls.perm (c52 h3 fun F' hF' => hK _ ⟨F', G, X, hF', h4, .refl _, h5⟩) hp
theorem k53 (h : Own (DocO q s) B R H) (hK : ∀ H', Own (DocO q (s.submit i f).1) B R H' → K (zi (s.submit i f).2) H') : SCalls Tryz.prog 53 [ptr q, zi i, frV f] H K := by
  obtain ⟨F, G, X, h3, h4, hp, h5⟩ := h
  exact SCalls.perm (c53 h3 fun F' hF' => hK _ ⟨F', G, X, hF', h4, .refl _, h5⟩) hp
theorem k55 (h : Own (DocO q s) B R H) (hK : ∀ H', Own (DocO q (s.cancel i).1) B R H' → K (.bool (s.cancel i).2) H') : SCalls Tryz.prog 55 [ptr q, zi i] H K := by
  obtain ⟨F, G, X, h3, h4, hp, h5⟩ := h
  exact SCalls.perm (c55 h3 fun F' hF' => hK _ ⟨F', G, X, hF', h4, .refl _, h5⟩) hp
theorem k57 (h : Own (DocO q s) B R H) (hi : s.is i) (hK : ∀ H' iv, Own (DocO q (s.fetch i).1) B R H' → InS frC 12 iv H' (s.at i).inn → K (.tuple ⟨[iv, zi 0]⟩) H') : SCalls Tryz.prog 57 [ptr q, zi i] H K := by
  obtain ⟨F, G, X, h3, h4, hp, h5⟩ := h
  exact SCalls.perm (c57 h3 (fun hn => absurd hi hn) fun _ F' iv hF' hin => hK _ iv ⟨F', G, X, hF', h4, .refl _, h5⟩ hin) hp
theorem k57n (h : Own (DocO q s) B R H) (hi : ¬ s.is i) (hK : K (.tuple ⟨[.slice none 0 0, zi 1]⟩) H) : SCalls Tryz.prog 57 [ptr q, zi i] H K := by
  obtain ⟨F, G, X, h3, h4, hp, h5⟩ := h
  exact SCalls.perm (SCalls.keep (c57 h3 (fun _ => Keep.perm _ hp.symm hK) fun h => absurd h hi)) hp
theorem k56 (h : Own (DocO q s) B R H) (hw : BsW s) (hf : InS xC 2 fv R fl)
    (hK : ∀ ea ec ga gc N H', Own (DocO q (s.step fl)) B (N ++ R) H' → OuR [zi (s.rd fl).o.win, zi (s.rd fl).o.bits, .bool (s.rd fl).o.sent, .slice ea (s.rd fl).o.errs.length ec, .slice ga (s.rd fl).o.got.length gc] (s.rd fl).o (N ++ R) →
      K (.tuple ⟨[.agg ⟨[zi (s.rd fl).o.win, zi (s.rd fl).o.bits, .bool (s.rd fl).o.sent, .slice ea (s.rd fl).o.errs.length ec, .slice ga (s.rd fl).o.got.length gc]⟩, zi (s.rd fl).e]⟩) H') : SCalls Tryz.prog 56 [ptr q, fv] H K := by
  obtain ⟨F, G, X, h3, h4, hp, h5⟩ := h
  refine SCalls.perm (c56 h3 hw (hf.mono fun z hz => List.mem_append_right _ (h5 z hz)) fun ea ec ga gc N F' hF' hO => hK ea ec ga gc N _ ⟨F', G, N ++ X, hF', h4, ?_, fun z hz => ?_⟩ (hO.mono fun z hz => List.mem_append_left _ hz)) hp
  · exact perm_glue' (ls := [F', N, G, X]) (p := [0, 1, 2, 3]) (q := [0, 2, 1, 3]) (by decide) (by simp [glue]) (by simp [glue])
  · rcases List.mem_append.1 hz with hz | hz
    · exact List.mem_append_left _ hz
    · exact List.mem_append_right _ (h5 z hz)
theorem Own.doc (h : Own (DocO q s) B R H) : ∃ (b c : Nat) (ds : List Dn), dR q b s.ns.length c s.time ∈ H ∧ (b, Blk.buf 126 (ds.flatMap dnC) (c * 19)) ∈ H ∧ ds.map (·.x) = s.ns := by
  obtain ⟨F, G, X, h3, h4, hp, h5⟩ := h
  have hs : ∀ z ∈ F, z ∈ H := fun z hz => hp.symm.subset (List.mem_append_left _ hz)
  cases h3 with
  | mk h1 h2 => exact ⟨_, _, _, hs _ (.head _), hs _ (.tail _ (.head _)), h1⟩
end
section
variable {K : Value → Heap → Prop} {H : Heap}
theorem c58 {v1 v2 : Value} {L : List Fm} (h1 : InS frC 12 v1 H L) (h2 : InS frC 12 v2 H L) (hK : K (.bool true) H) : SCalls Tryz.prog 58 [v1, v2] H K := by
  obtain ⟨a1, c1, rfl, hml⟩ := h1.sv
  obtain ⟨a2, c2, rfl, _⟩ := h2.sv
  simp only [maxLen] at hml
  have hd : (!decide ((L.length : Int) = (L.length : Int))) = false := by simp
  refine enter58 ?_
  repeat' ((conv => whnf); (first | refine Branch.f hd ?_))
  refine SLoop.invA (fun (k : Nat) S H' => k ≤ L.length ∧ S58 (.slice a1 L.length c1) (.slice a2 L.length c2) (zi (k : Int)) S ∧ H' = H) (fun k => L.length - k) 0 (Keep.all ⟨Nat.zero_le _, .mk, rfl⟩) ?_
  rintro k S H' ⟨hk, hS, rfl⟩ R hR
  by_cases hlt : k < L.length
  · obtain ⟨x, hx, _, _⟩ := list_at hlt
    obtain ⟨r, o, cc, b, e1, hb, hcx⟩ := inS_at h1 frC_len hx
    obtain ⟨r', o', cc', b', e1', hb', hcx'⟩ := inS_at h2 frC_len hx
    injection e1 with e1 _ e3
    injection e1' with e1' _ e3'
    subst e1 e3 e1' e3'
    have hnext : ∀ S, S58 (.slice (some ⟨r, o, none⟩) L.length c1) (.slice (some ⟨r', o', none⟩) L.length c2) (zi ((k + 1 : Nat) : Int)) S → R S H' := fun S g => hR (k + 1) S H' (by omega) (Keep.all ⟨hlt, g, rfl⟩)
    clear hR hK
    cases hS
    obtain ⟨id, x, rm, nn, d0, d1, d2, d3, d4, d5, d6, d7⟩ := x
    dsimp only [frC] at hcx hcx'
    repeat' ((conv => whnf); (first | refine Branch.dt (show (k : Int) < (L.length : Int) by omega) ?_ | refine SDraw.all (by kernel_rfl) ?_ | refine Idx.nat hlt ?_ | refine Look.cells hb rfl hcx ?_ | refine Look.cells hb' rfl hcx' ?_ | refine Branch.t (beq_self_eq_true _) ?_ | exact hnext _ .mk | with_reducible refine Val.i64 (by omega) (by omega) ?_ | refine Branch.not ?_ | refine Branch.and ?_ | refine Branch.dt rfl ?_))
  · obtain rfl : k = L.length := by omega
    clear hR
    cases hS
    repeat' ((conv => whnf); (first | refine Branch.df (by omega) ?_ | exact Keep.all hK))
end
/-- Something that happens on a bus. -/
structure Ac where
  (kind node : Int) (on : Bool) (f : Fm) (fl : List (Int × Int)) (fa : Option Addr) (fc : Nat) (times : Nat)
abbrev Ac.cells (a : Ac) : List Value := [zi a.kind, zi a.node, .bool a.on, .int .u32 (a.f.id : Int), .bool a.f.x, .bool a.f.r, .int .i64 a.f.n, b8 a.f.d0, b8 a.f.d1, b8 a.f.d2, b8 a.f.d3, b8 a.f.d4, b8 a.f.d5, b8 a.f.d6, b8 a.f.d7, .slice a.fa a.fl.length a.fc, .int .u8 (a.times : Int)]
theorem Ac.cells_len (a : Ac) : a.cells.length = 17 := rfl
def Bs.act (s : Bs) (a : Ac) : Bs :=
  if a.kind = 0 then (s.power a.node a.on).1 else if a.kind = 1 then (s.submit a.node a.f).1 else if a.kind = 2 then (s.cancel a.node).1 else if a.kind = 3 then s.step a.fl else if a.kind = 4 then (s.fetch a.node).1 else s
theorem BsW.act {s : Bs} (h : BsW s) (a : Ac) : BsW (s.act a) := by
  unfold Bs.act
  split
  · exact h.power
  · split
    · exact h.submit (pl_pl _)
    · split
      · exact h.cancel
      · split
        · exact h.step
        · split
          · exact h.fetch
          · exact h
end Go.Proofs.YtfmggepbcpceiaaGreatDoor


