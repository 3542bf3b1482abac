/- Sx, part I: loops, calls, what is left behind. -/
import Derived.Test.YtkegkhhfbfegoaaSxH
set_option linter.unusedVariables false
set_option linter.unusedSimpArgs false
namespace Go.Proofs.Ytkegkhhfbfegoaa.Sx
open Go.RowKit

/-- Part of what is known is kept. -/
inductive Keep (H : Heap) (K : Heap → Prop) : Prop
  | mk (H1 H' : Heap) : H.Perm H1 → H'.Sublist H1 → K H' → Keep H K
theorem Keep.sub {H : Heap} {K : Heap → Prop} (H' : Heap) (hs : H'.Sublist H) (h : K H') : Keep H K := ⟨H, H', .refl _, hs, h⟩
theorem Keep.all {H : Heap} {K : Heap → Prop} (h : K H) : Keep H K := ⟨H, H, .refl _, .refl _, h⟩
theorem Keep.perm {H : Heap} {K : Heap → Prop} (H' : Heap) (hp : H.Perm H') (h : K H') : Keep H K := ⟨H', H', hp, .refl _, h⟩
theorem Keep.ok {H : Heap} {K : Heap → Prop} {w0 w : World} {H0 : Heap} (h : Keep H K) (hw : Holds w H) (hs : Step w0 H0 w H) : ∃ H', Holds w H' ∧ Step w0 H0 w H' ∧ K H' := by
  obtain ⟨H1, H', hp, hsub, hK⟩ := h
  exact ⟨H', (hw.perm hp).sub hsub, (hs.permR hp).fewer (fun p hp => hsub.subset hp), hK⟩
theorem Keep.mono {H : Heap} {K K' : Heap → Prop} (h : Keep H K) (hk : ∀ H', K H' → K' H') : Keep H K' := by
  obtain ⟨H1, H', hp, hsub, hK⟩ := h
  exact ⟨H1, H', hp, hsub, hk _ hK⟩

section
variable {P : Program} {x : XCode} {Q : Post} {l : List Value} {H : Heap}
theorem After.trans {w w1 w2 : World} {H1 : Heap} {e : Exit} {a : Act} (hs : Step w H w1 H1) (h : After w1 H1 Q e a w2) : After w H Q e a w2 := by
  obtain ⟨l', H', h1, h2, h3, h4⟩ := h
  exact ⟨l', H', h1, h2, hs.trans h3, h4⟩
theorem SLoop.keep (h : Keep H fun H' => SLoop P x Q l H') : SLoop P x Q l H := by
  refine ⟨fun c hc w hw => ?_⟩
  obtain ⟨H', h1, h2, h3⟩ := h.ok hw (Step.refl _ _)
  exact (h3.run c hc w h1).mono fun e a w' h => h.trans h2
theorem SLoop.round (h : xc P x (thenQ (SLoop P x Q) Q) l H) : SLoop P x Q l H := by
  refine ⟨fun c hc w hw => LoopAt.round ?_⟩
  subst hc
  refine wp_mono (xc_ok c _ l H h w hw) ?_
  rintro e a' w' ⟨l', H', rfl, h1, h2, h3⟩
  cases e with
  | normal => exact (h3.run c rfl w' h1).mono fun e a w2 h => h.trans h2
  | exit id => exact ⟨l', H', rfl, h1, h2, h3⟩
  | goto id => exact ⟨l', H', rfl, h1, h2, h3⟩
  | ret => exact ⟨l', H', rfl, h1, h2, h3⟩
  | panic id => exact ⟨l', H', rfl, h1, h2, h3⟩
  | outgrown => exact ⟨l', H', rfl, h1, h2, h3⟩
/-- A loop by what holds at the head of each round (I), and a number that each round makes less. -/
theorem SLoop.inv (I : List Value → Heap → Prop) (μ : List Value → Heap → Nat) (h0 : Keep H fun H' => I l H')
    (round : ∀ l H, I l H → ∀ R : List Value → Heap → Prop, (∀ l' H', Keep H' (fun H'' => I l' H'' ∧ μ l' H'' < μ l H) → R l' H') → xc P x (thenQ R Q) l H) : SLoop P x Q l H := by
  refine SLoop.keep (h0.mono ?_)
  intro H' hI
  have key : ∀ n l H, μ l H = n → I l H → SLoop P x Q l H := by
    intro n
    induction n using Nat.strongRecOn with
    | _ n ih =>
      intro l H hn hI
      refine SLoop.round (round l H hI _ fun l' H' hk => SLoop.keep (hk.mono ?_))
      rintro H'' ⟨h1, h2⟩
      exact ih _ (hn ▸ h2) l' H'' rfl h1
  exact key _ l H' rfl hI

/- RESULTS -/
inductive RV where
  | tmp (t : Nat)
  | cell (a : Nat) (agg : Bool) (n : Nat)
def cRes (P : Program) : List ResultVar → Option (List RV)
  | [] => some []
  | .tmp t :: r => match cRes P r with
    | some l => some (.tmp t :: l)
    | none => none
  | .cell a t :: r => match aggOf P t, cRes P r with
    | some (b, n), some l => some (.cell a b n :: l)
    | _, _ => none
def resK (rs : List RV) : List Value → Heap → (List Value → Prop) → Prop :=
  List.rec (motive := fun _ => List Value → Heap → (List Value → Prop) → Prop) (fun _ _ K => K [])
    (fun r _ ih l H K => RV.casesOn (motive := fun _ => Prop) r (fun t => forceV (getL l t) fun v => ih l H fun vs => K (v :: vs)) fun a agg n => loadK agg n (getL l a) H fun v => ih l H fun vs => K (v :: vs)) rs
def oneK (vs : List Value) (K : Value → Prop) : Prop := match vs with
  | [v] => K v
  | vs => K (.tuple ⟨vs⟩)
/-- What is to be shown at a function's end. -/
def retQ (rs : List RV) (K : Value → Heap → Prop) : Post := fun e l H => match e with
  | .normal => resK rs l H fun vs => oneK vs fun v => Keep H fun H' => K v H'
  | .ret => resK rs l H fun vs => oneK vs fun v => Keep H fun H' => K v H'
  | _ => False

theorem resK_ok {w : World} (hw : Holds w H) : ∀ {rvs : List ResultVar} {rs : List RV} {K : List Value → Prop}, cRes P rvs = some rs → resK rs l H K →
    ∃ vs, (rvs.mapM (m := Sem) fun
      | .tmp t => pure (l.toArray.getD t undef)
      | .cell a t => do loadVar t (← asAddr (l.toArray.getD a undef))).run P w = .ok vs w ∧ vs.length = rvs.length ∧ K vs
  | [], rs, K, h, hK => by simp [cRes] at h; subst h; exact ⟨[], rfl, rfl, hK⟩
  | .tmp t :: r, rs, K, h, hK => by
    unfold cRes at h
    split at h
    · rename_i l' hl
      injection h with h
      subst h
      obtain ⟨vs, h1, h2, h3⟩ := resK_ok hw hl (forceV_ok (K := fun v => resK l' l H fun vs => K (v :: vs)) hK)
      refine ⟨getL l t :: vs, ?_, by simp [h2], h3⟩
      simp only [List.mapM_cons, Sem.run_bind, Sem.run_pure, Result.andThen_ok, getL_eq]
      simp only [getL_eq] at h1
      erw [h1]
      rfl
    · cases h
  | .cell a t :: r, rs, K, h, hK => by
    unfold cRes at h
    split at h
    · rename_i b n l' ha hl
      injection h with h
      subst h
      obtain ⟨u, g1, g2⟩ := load_ok (H := H) (K := fun v => resK l' l H fun vs => K (v :: vs)) ha hK
      obtain ⟨vs, h1, h2, h3⟩ := resK_ok hw hl g2
      refine ⟨u :: vs, ?_, by simp [h2], h3⟩
      have g := g1 w hw.at_
      have e : getL l a = getL l a := rfl
      simp only [List.mapM_cons, Sem.run_bind, getL_eq]
      have hload : ∃ ad, getL l a = .pointer (some ad) := by
        have hK' : loadK b n (getL l a) H (fun v => resK l' l H fun vs => K (v :: vs)) := hK
        unfold loadK at hK'
        split at hK'
        · rename_i r o he; exact ⟨_, he⟩
        · exact hK'.elim
      obtain ⟨ad, had⟩ := hload
      rw [had] at g ⊢
      simp only [Instr.loadAt, Instr.sureAddr, Sem.run_bind, Sem.run_pure, Result.andThen_ok] at g
      simp only [asAddr, Sem.run_pure, Result.andThen_ok, g]
      simp only [getL_eq] at h1
      erw [h1]
      rfl
    · cases h

/-- A call, by the callee's text. -/
theorem SCalls.enterBy {f : FuncId} {fn : Func} {c : Code} {rs : List RV} {args : List Value} {K : Value → Heap → Prop} (hf : P.funcs[f]? = some fn) (hent : ∀ args w, (callFunc f args).run P w = .ok (.enter f args) w) (hb : fn.body = some c)
    (hx : compile P c = x) (hr : cRes P fn.results.toList = some rs) (h : xc P x (retQ rs K) (args ++ List.replicate (fn.ntmps - args.length) undef) H) : SCalls P f args H K := by
  refine ⟨fun w => hent _ w, fun w hw => calls_of_wp hf hb ?_⟩
  subst hx
  have h1 := xc_ok c _ _ H h w hw
  have e : (act (args ++ List.replicate (fn.ntmps - args.length) undef)) = { tmps := args.toArray ++ Array.replicate (fn.ntmps - args.toArray.size) undef, defers := [] } := by
    simp [act]
  rw [← e]
  refine wp_mono h1 ?_
  rintro e a' w' ⟨l', H', rfl, h2, h3, h4⟩
  have fin : (resK rs l' H' fun vs => oneK vs fun v => Keep H' fun H' => K v H') → ∃ v, (results fn l'.toArray).run P w' = .ok v w' ∧ ∃ v' H'', (Ending.returned v = .returned v' ∧ Holds w' H'' ∧ Step w H w' H'' ∧ K v' H'') := by
    intro h4
    obtain ⟨vs, g1, g2, g3⟩ := resK_ok h2 hr h4
    have hres : (results fn l'.toArray).run P w' = .ok (if h : vs.toArray.size = 1 then vs.toArray[0] else .tuple vs.toArray) w' := by
      unfold results
      rw [Array.mapM_eq_mapM_toList]
      simp only [Sem.run_bind, Sem.run_map]
      erw [g1]
      simp only [Result.andThen_ok, Sem.run_pure]
    refine ⟨_, hres, ?_⟩
    have g4 : Keep H' fun H' => K (if h : vs.toArray.size = 1 then vs.toArray[0] else .tuple vs.toArray) H' := by
      match vs, g3 with
      | [v], g3 => exact g3
      | [], g3 => exact g3
      | a :: b :: r, g3 => simpa [oneK] using g3
    obtain ⟨H'', k1, k2, k3⟩ := g4.ok h2 h3
    exact ⟨_, H'', rfl, k1, k2, k3⟩
  cases e with
  | normal =>
    obtain ⟨v, k1, k2⟩ := fin h4
    exact ⟨rfl, v, k1, k2⟩
  | ret =>
    obtain ⟨v, k1, k2⟩ := fin h4
    exact ⟨rfl, v, k1, k2⟩
  | exit id => exact h4.elim
  | goto id => exact h4.elim
  | panic id => exact h4.elim
  | outgrown => exact h4.elim

variable {f : FuncId} {args : List Value} {K K' : Value → Heap → Prop}
theorem SCalls.mono (h : SCalls P f args H K) (hk : ∀ v H', K v H' → K' v H') : SCalls P f args H K' :=
  ⟨h.enter, fun w hw => (h.run w hw).mono fun e w' ⟨v, H', h1, h2, h3, h4⟩ => ⟨v, H', h1, h2, h3, hk _ _ h4⟩⟩
/-- The same beside whatever else is known. -/
theorem SCalls.frame {R : Heap} (h : SCalls P f args H K) : SCalls P f args (H ++ R) fun v H' => ∃ H1, H' = H1 ++ R ∧ K v H1 := by
  refine ⟨h.enter, fun w hw => (h.run w (hw.sub (List.sublist_append_left _ _))).mono fun e w' ⟨v, H', h1, h2, h3, h4⟩ => ?_⟩
  obtain ⟨g1, g2⟩ := hw.frame h3 h2
  exact ⟨v, _, h1, g1, g2, H', rfl, h4⟩
theorem SCalls.perm {H2 : Heap} (h : SCalls P f args H2 K) (hp : H.Perm H2) : SCalls P f args H K :=
  ⟨h.enter, fun w hw => (h.run w (hw.perm hp)).mono fun e w' ⟨v, H', h1, h2, h3, h4⟩ => ⟨v, H', h1, h2, h3.permL hp.symm, h4⟩⟩
theorem SCalls.keep (h : SCalls P f args H fun v H' => Keep H' fun H'' => K v H'') : SCalls P f args H K :=
  ⟨h.enter, fun w hw => (h.run w hw).mono fun e w' ⟨v, H', h1, h2, h3, h4⟩ => by
    obtain ⟨H'', g1, g2, g3⟩ := h4.ok h2 h3
    exact ⟨v, H'', h1, g1, g2, g3⟩⟩
/-- A contract for nothing that is known, anywhere. -/
theorem SCalls.any (h : SCalls P f args [] K) (hk : ∀ v N, K v N → K' v (N ++ H)) : SCalls P f args H K' := by
  have := h.frame (R := H)
  refine SCalls.mono (by simpa using this) ?_
  rintro v H' ⟨N, rfl, h⟩
  exact hk v N h
/-- Of a contract in the kit's own words: it makes memory only. -/
theorem SCalls.ofBelow {v : Value} (hent : ∀ w, (callFunc f args.toArray).run P w = .ok (.enter f args.toArray) w) (h : ∀ w, Holds w H → Calls P f args.toArray w fun e w' => e = .returned v ∧ Below w.heap.size w w') (hK : K v H) : SCalls P f args H K := by
  refine ⟨hent, fun w hw => (h w hw).mono ?_⟩
  rintro e w' ⟨rfl, hb⟩
  have hfr : Fr (E H) w w' := ⟨hb.os, hb.tape, hb.output, hb.size, fun k hk _ => hb.block k hk⟩
  exact ⟨v, H, rfl, ⟨fun p hp => (hw.at_ p hp).same (hb.block _ (hw.at_ p hp).lt) hb.size, hw.sep⟩, ⟨hfr, (Step.refl w H).ids⟩, hK⟩
/-- To a contract in the kit's own words. -/
theorem SCalls.toBelow (h : SCalls P f args H K) {w : World} (hw : Holds w H) (hx : ∀ p ∈ H, p.2.excl = false) : Calls P f args.toArray w fun e w' => ∃ v H', e = .returned v ∧ K v H' ∧ Below w.heap.size w w' := by
  refine (h.run w hw).mono ?_
  rintro e w' ⟨v, H', h1, h2, h3, h4⟩
  refine ⟨v, H', h1, h4, h3.fr.os, h3.fr.tape, h3.fr.output, h3.fr.size, fun k hk => h3.fr.block k hk ?_⟩
  rintro ⟨p, hp, he, _⟩
  rw [hx p hp] at he
  cases he
end
end Go.Proofs.Ytkegkhhfbfegoaa.Sx
