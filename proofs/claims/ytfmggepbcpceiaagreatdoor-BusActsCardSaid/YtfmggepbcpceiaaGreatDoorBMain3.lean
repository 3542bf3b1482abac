/- Layer 4: something happens, to the program's bus and to the document's: by walks. -/
import Derived.Test.YtfmggepbcpceiaaGreatDoorBMain2

set_option linter.unusedVariables false
set_option linter.unusedSimpArgs false
set_option maxRecDepth 100000
set_option maxHeartbeats 4000000
namespace Go.Proofs.YtfmggepbcpceiaaGreatDoor
open Sx
section
variable {R H : Heap} {K : Value → Heap → Prop} {p q : Nat} {s : Bs} {a : Ac}
theorem c26 (h : Own (BusO p s) (DocO q s) R H) (hw : BsW s) (hD : Db R) (hf : InS xC 2 (.slice a.fa a.fl.length a.fc) R a.fl) (hbf : a.fl.length * 16 ≤ 140737488355328) (hid : a.f.id < 4294967296)
    (hK : ∀ H', Own (BusO p (s.act a)) (DocO q (s.act a)) R H' → K (.bool true) H') : SCalls Tryz.prog 26 [ptr p, ptr q, .agg ⟨a.cells⟩] H K := by
  have hk1 : ∀ (e : Int) H', Own (BusO p (s.act a)) (DocO q (s.act a)) R H' → K (.bool (decide (e = e))) H' := fun e H' h => by rw [decide_eq_true rfl]; exact hK H' h
  have hk2 : ∀ (e : Bool) H', Own (BusO p (s.act a)) (DocO q (s.act a)) R H' → K (.bool (e == e)) H' := fun e H' h => by rw [beq_self_eq_true]; exact hK H' h
  have hle : ∀ (t : Nat × Blk) {A B : Heap → Prop} {X : Heap}, Own A B (t :: R) X → Own A B R X := fun t A B X h => h.less fun z hz => .tail _ hz
  have hcf : ∀ (i : Nat) v, (frC a.f)[i]? = some v → (Blk.row 71 a.cells (0, 0)).cell (0 + 3 + i) = some v := fun i v hv => by
    have hi : i < 12 := by have := (List.getElem?_eq_some_iff.1 hv).1; rwa [frC_len] at this
    show a.cells[0 + 3 + i]? = some v
    have : a.cells = [zi a.kind, zi a.node, .bool a.on] ++ (frC a.f ++ [.slice a.fa a.fl.length a.fc, .int .u8 (a.times : Int)]) := rfl
    rw [this, List.getElem?_append_right (by simp), List.getElem?_append_left (by rw [frC_len]; simp; omega)]
    simpa using hv
  unfold Bs.act at hK hk1 hk2
  by_cases h0 : a.kind = 0
  · simp only [if_pos h0] at hK
    have hk5 : ∀ (e : Int) H', Own (BusO p (s.power a.node a.on).1) (DocO q (s.power a.node a.on).1) R H' → K (.bool (decide (e = e))) H' := fun e H' h => by rw [decide_eq_true rfl]; exact hK H' h
    have hA : ∀ (t : Nat × Blk) (K2 : Value → Heap → Prop), (∀ H', Own (BusO p (s.power a.node a.on).1) (DocO q s) (t :: R) H' → K2 (zi (s.power a.node a.on).2) H') → SCalls Tryz.prog 10 [ptr p, zi a.node, .bool a.on] (t :: H) K2 := fun t K2 hk => h10 h.cons hk
    have hB : ∀ (t : Nat × Blk) X, Own (BusO p (s.power a.node a.on).1) (DocO q s) (t :: R) X → ∀ K2 : Value → Heap → Prop, (∀ H', Own (BusO p (s.power a.node a.on).1) (DocO q (s.power a.node a.on).1) (t :: R) H' → K2 (zi (s.power a.node a.on).2) H') → SCalls Tryz.prog 52 [ptr q, zi a.node, .bool a.on] X K2 := fun t X h2 K2 hk => k52 h2.swap fun H' h' => hk H' h'.swap
    generalize (s.power a.node a.on).1 = s2 at *
    generalize (s.power a.node a.on).2 = e2 at *
    obtain ⟨kind, node, on, f, fl, fa, fc, times⟩ := a
    dsimp only at *
    subst h0
    clear hK hk1 hk2 h
    refine enter26 ?_
    repeat' ((conv => whnf); (first | refine SDraw.held (by kernel_rfl) [_] (.same (.head _) .nil) ?_ | with_reducible refine hA _ _ (fun H1 h1 => ?_) | refine Kept.mk (.same (h1.mem _ (.head _)) .nil) ?_ | with_reducible refine hB _ _ h1 _ (fun H2 h2 => ?_) | exact Keep.all (hk5 _ _ (hle _ h2)) | refine New.mk (fun _ => ?_) | refine Look.at0 ?_ | refine Cell.row ?_ | refine Branch.dt rfl ?_))
  · simp only [if_neg h0] at hK hk1 hk2
    by_cases h1 : a.kind = 1
    · simp only [if_pos h1] at hK
      have hk5 : ∀ (e : Int) H', Own (BusO p (s.submit a.node a.f).1) (DocO q (s.submit a.node a.f).1) R H' → K (.bool (decide (e = e))) H' := fun e H' h => by rw [decide_eq_true rfl]; exact hK H' h
      have hA : ∀ (t : Nat × Blk) (K2 : Value → Heap → Prop), (∀ H', Own (BusO p (s.submit a.node a.f).1) (DocO q s) (t :: R) H' → K2 (zi (s.submit a.node a.f).2) H') → SCalls Tryz.prog 11 [ptr p, zi a.node, frV a.f] (t :: H) K2 := fun t K2 hk => h11 h.cons hid hk
      have hB : ∀ (t : Nat × Blk) X, Own (BusO p (s.submit a.node a.f).1) (DocO q s) (t :: R) X → ∀ K2 : Value → Heap → Prop, (∀ H', Own (BusO p (s.submit a.node a.f).1) (DocO q (s.submit a.node a.f).1) (t :: R) H' → K2 (zi (s.submit a.node a.f).2) H') → SCalls Tryz.prog 53 [ptr q, zi a.node, frV a.f] X K2 := fun t X h2 K2 hk => k53 h2.swap fun H' h' => hk H' h'.swap
      generalize (s.submit a.node a.f).1 = s2 at *
      generalize (s.submit a.node a.f).2 = e2 at *
      obtain ⟨kind, node, on, f, fl, fa, fc, times⟩ := a
      dsimp only at *
      subst h1
      clear hK hk1 hk2 h
      refine enter26 ?_
      repeat' ((conv => whnf); (first | refine SDraw.held (by kernel_rfl) [_] (.same (.head _) .nil) ?_ | refine Look.cells (.head _) rfl hcf ?_ | with_reducible refine hA _ _ (fun H1 h1 => ?_) | refine Kept.mk (.same (h1.mem _ (.head _)) .nil) ?_ | with_reducible refine hB _ _ h1 _ (fun H2 h2 => ?_) | exact Keep.all (hk5 _ _ (hle _ h2)) | refine New.mk (fun _ => ?_) | refine Look.at0 ?_ | refine Cell.row ?_ | refine Branch.df (by assumption) ?_ | refine Branch.dt rfl ?_))
    · simp only [if_neg h1] at hK hk1 hk2
      by_cases h2 : a.kind = 2
      · simp only [if_pos h2] at hk2
        have hA : ∀ (t : Nat × Blk) (K2 : Value → Heap → Prop), (∀ H', Own (BusO p (s.cancel a.node).1) (DocO q s) (t :: R) H' → K2 (.bool (s.cancel a.node).2) H') → SCalls Tryz.prog 54 [ptr p, zi a.node] (t :: H) K2 := fun t K2 hk => h54 h.cons hk
        have hB : ∀ (t : Nat × Blk) X, Own (BusO p (s.cancel a.node).1) (DocO q s) (t :: R) X → ∀ K2 : Value → Heap → Prop, (∀ H', Own (BusO p (s.cancel a.node).1) (DocO q (s.cancel a.node).1) (t :: R) H' → K2 (.bool (s.cancel a.node).2) H') → SCalls Tryz.prog 55 [ptr q, zi a.node] X K2 := fun t X h2 K2 hk => k55 h2.swap fun H' h' => hk H' h'.swap
        generalize (s.cancel a.node).1 = s2 at *
        generalize (s.cancel a.node).2 = e2 at *
        obtain ⟨kind, node, on, f, fl, fa, fc, times⟩ := a
        dsimp only at *
        subst h2
        clear hK hk1 h
        refine enter26 ?_
        repeat' ((conv => whnf); (first | refine SDraw.held (by kernel_rfl) [_] (.same (.head _) .nil) ?_ | with_reducible refine hA _ _ (fun H1 h1 => ?_) | refine Kept.mk (.same (h1.mem _ (.head _)) .nil) ?_ | with_reducible refine hB _ _ h1 _ (fun H2 h2 => ?_) | exact Keep.all (hk2 _ _ (hle _ h2)) | refine New.mk (fun _ => ?_) | refine Look.at0 ?_ | refine Cell.row ?_ | refine Branch.df (by assumption) ?_ | refine Branch.dt rfl ?_))
      · simp only [if_neg h2] at hK hk1 hk2
        by_cases h3 : a.kind = 3
        · simp only [if_pos h3] at hK
          have hk5 : ∀ (e : Int) H', Own (BusO p (s.step a.fl)) (DocO q (s.step a.fl)) R H' → K (.bool (decide (e = e))) H' := fun e H' h => by rw [decide_eq_true rfl]; exact hK H' h
          have hfl : a.fl.length ≤ maxLen := by obtain ⟨_, _, _, h⟩ := hf.sv; exact h
          have hcp : ∀ r (t : Nat × Blk) (o : Oper) (xs xx : Operand) (K2 : Value → Heap → Prop), o.op = .call { callee := .builtin .append, args := #[xs, xx], argTypes := #[46, 46] } → (∀ qq c, K2 (.slice (some ⟨qq, 0, none⟩) a.fl.length c) ((qq, .buf 49 (a.fl.flatMap xC) (c * 2)) :: t :: H)) →
              RawV Tryz.prog o [.slice (some ⟨r, 0, none⟩) 0 0, .slice a.fa a.fl.length a.fc] ((r, .row 49 [] (0, 0)) :: t :: H) K2 := fun r t o xs xx K2 ho hk => RawV.copyS (bytes := 16) (hf.mono fun z hz => .tail _ (h.mem z hz)) ho (by kernel_rfl) (by decide) xC_len xC_one hbf (fun qq c _ _ => hk qq c)
          have hA : ∀ qq c (t : Nat × Blk) (K2 : Value → Heap → Prop), (∀ ea ec ga gc N H1, Own (BusO p (s.step a.fl)) (DocO q s) (N ++ ((qq, .buf 49 (a.fl.flatMap xC) (c * 2)) :: t :: R)) H1 → OuR [zi (s.rd a.fl).o.win, zi (s.rd a.fl).o.bits, .bool (s.rd a.fl).o.sent, .slice ea (s.rd a.fl).o.errs.length ec, .slice ga (s.rd a.fl).o.got.length gc] (s.rd a.fl).o (N ++ ((qq, .buf 49 (a.fl.flatMap xC) (c * 2)) :: t :: R)) →
                K2 (.tuple ⟨[.agg ⟨[zi (s.rd a.fl).o.win, zi (s.rd a.fl).o.bits, .bool (s.rd a.fl).o.sent, .slice ea (s.rd a.fl).o.errs.length ec, .slice ga (s.rd a.fl).o.got.length gc]⟩, zi (s.rd a.fl).e]⟩) H1) →
              SCalls Tryz.prog 13 [ptr p, .slice (some ⟨qq, 0, none⟩) a.fl.length c] ((qq, .buf 49 (a.fl.flatMap xC) (c * 2)) :: t :: H) K2 := fun qq c t K2 hk =>
            h13 (h.cons (z := t)).cons hw (hD.mono fun z hz => .tail _ (.tail _ hz)) (InS.buf (.head _) rfl xC_len hfl) hk
          have hB : ∀ (t7 qq t : Nat × Blk) (N H1 : Heap), Own (BusO p (s.step a.fl)) (DocO q s) (N ++ (qq :: t :: R)) H1 → ∀ (K2 : Value → Heap → Prop), (∀ ea ec ga gc N2 H2, Own (BusO p (s.step a.fl)) (DocO q (s.step a.fl)) (N2 ++ (t7 :: (N ++ (qq :: t :: R)))) H2 → OuR [zi (s.rd a.fl).o.win, zi (s.rd a.fl).o.bits, .bool (s.rd a.fl).o.sent, .slice ea (s.rd a.fl).o.errs.length ec, .slice ga (s.rd a.fl).o.got.length gc] (s.rd a.fl).o (N2 ++ (t7 :: (N ++ (qq :: t :: R)))) →
                K2 (.tuple ⟨[.agg ⟨[zi (s.rd a.fl).o.win, zi (s.rd a.fl).o.bits, .bool (s.rd a.fl).o.sent, .slice ea (s.rd a.fl).o.errs.length ec, .slice ga (s.rd a.fl).o.got.length gc]⟩, zi (s.rd a.fl).e]⟩) H2) →
              SCalls Tryz.prog 56 [ptr q, .slice a.fa a.fl.length a.fc] (t7 :: H1) K2 := fun t7 qq t N H1 h1 K2 hk =>
            k56 (h1.cons (z := t7)).swap hw (hf.mono fun z hz => .tail _ (List.mem_append_right _ (.tail _ (.tail _ hz)))) fun ea ec ga gc N2 H2 h2 hO => hk ea ec ga gc N2 H2 h2.swap hO
          have hC : ∀ (t9 : Nat × Blk) (R2 H2 : Heap), Own (BusO p (s.step a.fl)) (DocO q (s.step a.fl)) R2 H2 → ∀ (K2 : Value → Heap → Prop), K2 (.int .u64 ((s.step a.fl).time : Int)) (t9 :: H2) → SCalls Tryz.prog 24 [ptr p] (t9 :: H2) K2 := fun t9 R2 H2 h2 K2 hk => h24 h2.skip hk
          have hee : decide ((s.rd a.fl).e = (s.rd a.fl).e) = true := decide_eq_true rfl
          have hle2 : ∀ (t7 qq t : Nat × Blk) (N N2 X : Heap) {A B : Heap → Prop}, Own A B (N2 ++ (t7 :: (N ++ (qq :: t :: R)))) X → Own A B R X := fun t7 qq t N N2 X A B h => h.less fun z hz => List.mem_append_right _ (.tail _ (List.mem_append_right _ (.tail _ (.tail _ hz))))
          have hmt : ∀ (N : Heap) (qq t : Nat × Blk), t ∈ N ++ (qq :: t :: R) := fun N qq t => List.mem_append_right _ (.tail _ (.head _))
          have hm7 : ∀ (N2 : Heap) (t7 : Nat × Blk) (Y : Heap), t7 ∈ N2 ++ (t7 :: Y) := fun N2 t7 Y => List.mem_append_right _ (.head _)
          have hmY : ∀ (N2 : Heap) (t7 : Nat × Blk) (Y : Heap), ∀ z ∈ Y, z ∈ N2 ++ (t7 :: Y) := fun N2 t7 Y z hz => List.mem_append_right _ (.tail _ hz)
          generalize s.step a.fl = s2 at *
          generalize s.rd a.fl = rd at *
          obtain ⟨e, bt, ⟨win, bits, sent, errs, got⟩⟩ := rd
          obtain ⟨kind, node, on, f, fl, fa, fc, times⟩ := a
          dsimp only at *
          subst h3
          have gf : (Blk.row 71 (Ac.cells ⟨3, node, on, f, fl, fa, fc, times⟩) (0, 0)).cell (0 + 15) = some (.slice fa fl.length fc) := rfl
          clear hK hk1 hk2 h hf hw hD
          refine enter26 ?_
          repeat' ((conv => whnf); (first | with_reducible refine hcp _ _ _ _ _ _ rfl (fun qq c => ?_) | with_reducible refine hA _ _ _ _ (fun ea ec ga gc N H1 h1 o1 => ?_) | refine Look.cell (.tail _ (h1.mem _ (hmt _ _ _))) gf ?_ | with_reducible refine hB _ _ _ _ _ h1 _ (fun ea2 ec2 ga2 gc2 N2 H2 h2 o2 => ?_) | (obtain ⟨db, dc, dds, hd1, _, _⟩ := Own.doc h2.swap; refine SDraw.held (by kernel_rfl) [_, _, dR q db _ dc _] (.same (.tail _ (h2.mem _ (hm7 _ _ _))) (.same (.head _) (.same (.tail _ hd1) .nil))) ?_) | refine c20 (o1.mono fun z hz => .tail _ (h2.mem _ (hmY _ _ _ z hz))) (o2.mono fun z hz => .tail _ (h2.mem _ hz)) ?_ | refine Kept.mk (.same (.tail _ (h2.mem _ (hm7 _ _ _))) (.same (.head _) (.same (.tail _ hd1) .nil))) ?_ | with_reducible refine hC _ _ _ h2 _ ?_ | refine Branch.t rfl ?_ | refine Branch.t hee ?_ | exact Keep.all (hk5 _ _ (hle2 _ _ _ _ _ _ h2.skip)) | refine New.mk (fun _ => ?_) | refine Look.at0 ?_ | refine Cell.row ?_ | refine Cells.row rfl ?_ | refine Put.row rfl ?_ | refine Look.at1 ?_ | refine Look.at2 ?_ | refine Branch.df (by assumption) ?_))
        · simp only [if_neg h3] at hK hk1 hk2
          by_cases h4 : a.kind = 4
          · simp only [if_pos h4] at hK hk1
            have hne : ∀ m : Int, (m = m) := fun _ => rfl
            by_cases hi : s.is a.node
            · have hA : ∀ (t : Nat × Blk) (K2 : Value → Heap → Prop), (∀ H' aa n c M, Own (BusO p (s.fetch a.node).1) (DocO q s) (M ++ (t :: R)) H' → InS frC 12 (.slice aa n c) M (s.at a.node).inn → K2 (.tuple ⟨[.slice aa n c, zi 0]⟩) H') → SCalls Tryz.prog 14 [ptr p, zi a.node] (t :: H) K2 := fun t K2 hk => h14 h.cons hi fun H' iv M h' hG => by
                have hin := hG.ins frC_len (H := M) fun z hz => hz
                obtain ⟨aa, c, rfl, _⟩ := hG.sv
                exact hk H' aa _ c M h' hin
              have hB : ∀ (M : Heap) (t : Nat × Blk) X, Own (BusO p (s.fetch a.node).1) (DocO q s) (M ++ (t :: R)) X → ∀ K2 : Value → Heap → Prop, (∀ H' aa n c, Own (BusO p (s.fetch a.node).1) (DocO q (s.fetch a.node).1) (M ++ (t :: R)) H' → InS frC 12 (.slice aa n c) H' (s.at a.node).inn → K2 (.tuple ⟨[.slice aa n c, zi 0]⟩) H') → SCalls Tryz.prog 57 [ptr q, zi a.node] X K2 := fun M t X h2 K2 hk => k57 h2.swap hi fun H' iv h' hin => by
                have hin' := hin
                obtain ⟨aa, c, rfl, _⟩ := hin.sv
                exact hk H' aa _ c h'.swap hin'
              have hle2 : ∀ (M : Heap) (t : Nat × Blk) {A B : Heap → Prop} {X : Heap}, Own A B (M ++ (t :: R)) X → Own A B R X := fun M t A B X h => h.less fun z hz => List.mem_append_right _ (.tail _ hz)
              have hmm : ∀ (M : Heap) (t : Nat × Blk), t ∈ M ++ (t :: R) := fun M t => List.mem_append_right _ (.head _)
              generalize (s.fetch a.node).1 = s2 at *
              generalize (s.at a.node).inn = L at *
              obtain ⟨kind, node, on, f, fl, fa, fc, times⟩ := a
              dsimp only at *
              subst h4
              have gn : (Blk.row 71 (Ac.cells ⟨4, node, on, f, fl, fa, fc, times⟩) (0, 0)).cell (0 + 1) = some (zi node) := rfl
              clear hk1 hk2 h
              refine enter26 ?_
              repeat' ((conv => whnf); (first | with_reducible refine hA _ _ (fun H1 aa n c M h1 i1 => ?_) | refine Look.cell (h1.mem _ (hmm _ _)) gn ?_ | with_reducible refine hB _ _ _ h1 _ (fun H2 ab nb cb h2 i2 => ?_) | refine c58 (i1.mono fun z hz => h2.mem _ (List.mem_append_left _ hz)) i2 ?_ | refine Branch.t rfl ?_ | exact Keep.all (hK _ (hle2 _ _ h2)) | refine New.mk (fun _ => ?_) | refine Look.at0 ?_ | refine Cell.row ?_ | refine Branch.df (by assumption) ?_))
            · have hA : ∀ (t : Nat × Blk) (K2 : Value → Heap → Prop), K2 (.tuple ⟨[.slice none 0 0, zi 1]⟩) (t :: H) → SCalls Tryz.prog 14 [ptr p, zi a.node] (t :: H) K2 := fun t K2 hk => h14n h.cons (R := t :: R) hi hk
              have hB : ∀ (t : Nat × Blk) (K2 : Value → Heap → Prop), K2 (.tuple ⟨[.slice none 0 0, zi 1]⟩) (t :: H) → SCalls Tryz.prog 57 [ptr q, zi a.node] (t :: H) K2 := fun t K2 hk => k57n (h.cons (z := t)).swap hi hk
              have hfe : (s.fetch a.node).1 = s := by unfold Bs.fetch; rw [if_neg hi]
              rw [hfe] at hK
              have hk := hK H h
              obtain ⟨kind, node, on, f, fl, fa, fc, times⟩ := a
              dsimp only at *
              subst h4
              clear hk1 hk2 hK h
              refine enter26 ?_
              repeat' ((conv => whnf); (first | with_reducible refine hA _ _ ?_ | with_reducible refine hB _ _ ?_ | refine c58 (L := []) .nil .nil ?_ | refine Branch.t rfl ?_ | exact Keep.d1 hk | refine New.mk (fun _ => ?_) | refine Look.at0 ?_ | refine Cell.row ?_ | refine Branch.df (by assumption) ?_))
          · simp only [if_neg h4] at hK
            have hk := hK H h
            clear hk1 hk2 hK h
            obtain ⟨kind, node, on, f, fl, fa, fc, times⟩ := a
            dsimp only at *
            refine enter26 ?_
            repeat' ((conv => whnf); (first | refine Branch.df h0 ?_ | refine Branch.df h1 ?_ | refine Branch.df h2 ?_ | refine Branch.df h3 ?_ | refine Branch.df h4 ?_ | exact Keep.d1 hk | refine New.mk (fun _ => ?_) | refine Look.at0 ?_ | refine Cell.row ?_))
end
end Go.Proofs.YtfmggepbcpceiaaGreatDoor


/- Layer 4: whether a bus is the document's: by walks. -/
set_option linter.unusedVariables false
set_option linter.unusedSimpArgs false
set_option maxRecDepth 100000
set_option maxHeartbeats 4000000
namespace Go.Proofs.YtfmggepbcpceiaaGreatDoor
open Sx
inductive S27 (A0 A1 A5 : Value) : List Value → Prop
  | mk {r2 r3 r4 r6 r7 r8 r9 r10 r11 r12 r13 r14 r15 r16 r17 r18 r19 r20 r21 r22 r23 r24 r25 r26 r27 r28 r29 r30 r31 r32 r33 r34 r35 r36 r37 r38 r39 r40 r41 r42 r43 r44 r45 r46 r47 r48 r49 r50 r51 r52 r53 r54 r55 r56 r57 r58 r59 r60 r61 r62 r63 r64 r65 r66 r67 r68 r69 r70 r71 r72 r73 r74 r75 r76 r77 r78 r79 r80 r81 r82 r83 r84 r85 r86 r87 r88 r89 r90 r91 r92 r93 r94 r95 r96 r97 r98 r99 r100 r101 r102 r103 r104 r105 r106 r107 r108 r109 r110 r111 r112 r113 r114 r115 r116 r117 : Value} : S27 A0 A1 A5 [A0, A1, r2, r3, r4, A5, r6, r7, r8, r9, r10, r11, r12, r13, r14, r15, r16, r17, r18, r19, r20, r21, r22, r23, r24, r25, r26, r27, r28, r29, r30, r31, r32, r33, r34, r35, r36, r37, r38, r39, r40, r41, r42, r43, r44, r45, r46, r47, r48, r49, r50, r51, r52, r53, r54, r55, r56, r57, r58, r59, r60, r61, r62, r63, r64, r65, r66, r67, r68, r69, r70, r71, r72, r73, r74, r75, r76, r77, r78, r79, r80, r81, r82, r83, r84, r85, r86, r87, r88, r89, r90, r91, r92, r93, r94, r95, r96, r97, r98, r99, r100, r101, r102, r103, r104, r105, r106, r107, r108, r109, r110, r111, r112, r113, r114, r115, r116, r117]
theorem node_at {ds : List Dn} {i : Nat} {d : Dn} (hd : ds[i]? = some d) : ∃ pre post, ds.flatMap dnC = pre ++ (dnC d ++ post) ∧ 0 + i * 19 = pre.length := by
  refine ⟨(ds.take i).flatMap dnC, (ds.drop (i + 1)).flatMap dnC, ?_, ?_⟩
  · conv => lhs; rw [list_split hd]
    rw [List.flatMap_append, List.flatMap_cons]
  · have := (List.getElem?_eq_some_iff.1 hd).1
    rw [flat_len dnC_len, List.length_take, Nat.zero_add]
    congr 1; omega
theorem d64 {K : Value → Heap → Prop} {H : Heap} {b N i : Nat} {ds : List Dn} {d : Dn} (hm : (b, Blk.buf 126 (ds.flatMap dnC) N) ∈ H) (hd : ds[i]? = some d) (hK : K (zi d.x.u.st) H) : SCalls Tryz.prog 64 [.pointer (some ⟨b, 0 + i * 19 + 1, none⟩)] H K := by
  obtain ⟨pre, post, e, hpre⟩ := node_at hd
  have e2 : (b, Blk.buf 126 (ds.flatMap dnC) N) = vB b (pre ++ [.bool d.x.on]) (uC d.x.u) ((.bool d.x.box.isSome :: (frC (d.x.box.getD z0) ++ [d.iv])) ++ post) N := by
    rw [e]
    exact node_vB
  rw [e2] at hm
  rw [node_pP (on := d.x.on) hpre]
  exact SCalls.seen1 hm (fun K2 hk => c64 hk) hK
section
variable {B : Heap → Prop} {R H : Heap} {K : Value → Heap → Prop} {p q : Nat} {s : Bs} {i : Int}
theorem k59 (h : Own (BusO p s) B R H) (h0 : ¬ s.is i → K (.tuple ⟨[frV z0, .bool false]⟩) H) (h1 : s.is i → K (.tuple ⟨[frV ((s.at i).box.getD z0), .bool (s.at i).box.isSome]⟩) H) : SCalls Tryz.prog 59 [ptr p, zi i] H K := by
  obtain ⟨F, G, X, h3, h4, hp, h5⟩ := h
  obtain ⟨nv, rs, hr⟩ := h3.read (H := H) fun z hz => hp.symm.subset (List.mem_append_left _ hz)
  exact c59 hr h0 h1
theorem k60 (h : Own (BusO p s) B R H) (h0 : ¬ s.is i → K (.tuple ⟨[.pointer none, zi 1]⟩) H) (h1 : s.is i → ∀ u, uB u (s.at i).u ∈ H → K (.tuple ⟨[ptr u, zi 0]⟩) H) : SCalls Tryz.prog 60 [ptr p, zi i] H K := by
  obtain ⟨F, G, X, h3, h4, hp, h5⟩ := h
  obtain ⟨nv, rs, hr⟩ := h3.read (H := H) fun z hz => hp.symm.subset (List.mem_append_left _ hz)
  exact c60 hr h0 h1
theorem c27 (h : Own (BusO p s) (DocO q s) R H) (hw : BsW s) (hK : ∀ H', Own (BusO p s) (DocO q s) R H' → K (.bool true) H') : SCalls Tryz.prog 27 [ptr p, ptr q] H K := by
  have hn1 := hw.n1
  have hn2 := hw.n2
  refine enter27 ?_
  skip
  refine SLoop.invA (fun (k : Nat) S H' => k ≤ s.ns.length + 2 ∧ S27 (ptr p) (ptr q) (zi ((k : Int) - 1)) S ∧ Own (BusO p s) (DocO q s) R H') (fun k => s.ns.length + 2 - k) 0 (Keep.all ⟨Nat.zero_le _, .mk, h⟩) ?_
  clear h
  rintro k S H' ⟨hk, hS, h⟩ R2 hR
  obtain ⟨b, c, ds, hd1, hd2, hd3⟩ := Own.doc h.swap
  have hdl : ds.length = s.ns.length := by rw [← hd3, List.length_map]
  have gr : (Blk.row 116 [.slice (some ⟨b, 0, none⟩) s.ns.length c, .int .u64 (s.time : Int)] (0, 0)).cell 0 = some (.slice (some ⟨b, 0, none⟩) s.ns.length c) := rfl
  by_cases hlt : k < s.ns.length + 2
  · have hnext : ∀ S H2, S27 (ptr p) (ptr q) (zi ((k : Int) - 1 + 1)) S → Own (BusO p s) (DocO q s) R H2 → R2 S H2 := fun S H2 g1 g2 => hR (k + 1) S H2 (by omega) (Keep.all ⟨by omega, by rw [show ((k + 1 : Nat) : Int) - 1 = (k : Int) - 1 + 1 by omega]; exact g1, g2⟩)
    clear hR hK
    by_cases hi : s.is ((k : Int) - 1)
    · obtain ⟨j, rfl⟩ : ∃ j : Nat, k = j + 1 := ⟨k - 1, by have := hi.1; omega⟩
      have hkj : (((j + 1 : Nat) : Int) - 1) = (j : Int) := by omega
      rw [hkj] at hi hS hnext
      have hjl : j < s.ns.length := by have := hi.2; omega
      have hat := Bs.at_of hi
      rw [Int.toNat_natCast] at hat
      obtain ⟨⟨dx, iv⟩, hd, _, _⟩ := list_at (show j < ds.length by omega)
      obtain rfl : s.at (j : Int) = dx := by
        have h1 : (ds.map (·.x))[j]? = some (s.at (j : Int)) := by rw [hd3]; exact hat
        rw [List.getElem?_map, hd] at h1
        injection h1 with h1
        exact h1.symm
      have h59 : ∀ (K2 : Value → Heap → Prop), K2 (.tuple ⟨[frV ((s.at (j : Int)).box.getD z0), .bool (s.at (j : Int)).box.isSome]⟩) H' → SCalls Tryz.prog 59 [ptr p, zi (j : Int)] H' K2 := fun K2 hk => k59 h (fun hn => absurd hi hn) (fun _ => hk)
      have h60 : ∀ (y : Nat × Blk) (K2 : Value → Heap → Prop), (∀ u, uB u (s.at (j : Int)).u ∈ y :: H' → K2 (.tuple ⟨[ptr u, zi 0]⟩) (y :: H')) → SCalls Tryz.prog 60 [ptr p, zi (j : Int)] (y :: H') K2 := fun y K2 hk => k60 h.skip (fun hn => absurd hi hn) (fun _ => hk)
      have h61 : ∀ (y : Nat × Blk) (K2 : Value → Heap → Prop), K2 (.bool true) (y :: H') → SCalls Tryz.prog 61 [ptr q, zi (j : Int)] (y :: H') K2 := fun y K2 hk => c61 (.tail _ hd1) (by rw [is_dec, decide_eq_true hi]; exact hk)
      have h64 : ∀ (y : Nat × Blk) (K2 : Value → Heap → Prop), K2 (zi (s.at (j : Int)).u.st) (y :: H') → SCalls Tryz.prog 64 [.pointer (some ⟨b, 0 + j * 19 + 1, none⟩)] (y :: H') K2 := fun y K2 hk => d64 (.tail _ hd2) hd hk
      have e5 : (Blk.buf 126 (ds.flatMap dnC) (c * 19)).cell (0 + j * 19 + 5) = some (.bool (s.at (j : Int)).box.isSome) := cellD (j := 5) hd (by omega) rfl
      have e1 : (Blk.buf 126 (ds.flatMap dnC) (c * 19)).cell (0 + j * 19 + 1 + 0) = some (zi ((s.at (j : Int)).u.s : Int)) := cellD (j := 1) hd (by omega) rfl
      have e2 : (Blk.buf 126 (ds.flatMap dnC) (c * 19)).cell (0 + j * 19 + 1 + 1) = some (zi ((s.at (j : Int)).u.r : Int)) := cellD (j := 2) hd (by omega) rfl
      have e6 : ∀ (i : Nat) v, (frC ((s.at (j : Int)).box.getD z0))[i]? = some v → (Blk.buf 126 (ds.flatMap dnC) (c * 19)).cell (0 + j * 19 + 6 + i) = some v := fun i v hv => by
        have hi : i < 12 := by have := (List.getElem?_eq_some_iff.1 hv).1; rwa [frC_len] at this
        refine cellD (j := 6 + i) hd (by omega) ?_
        have : dnC ⟨s.at (j : Int), iv⟩ = (.bool (s.at (j : Int)).on :: (uC (s.at (j : Int)).u ++ [.bool (s.at (j : Int)).box.isSome])) ++ (frC ((s.at (j : Int)).box.getD z0) ++ [iv]) := rfl
        rw [this, List.getElem?_append_right (by simp), List.getElem?_append_left (by simp; omega)]
        simpa using hv
      have hu : UnW (s.at (j : Int)).u := (hw.at hi).u
      have h62 : ∀ (y : Nat × Blk) u, uB u (s.at (j : Int)).u ∈ y :: H' → ∀ (K2 : Value → Heap → Prop), K2 (.tuple ⟨[zi ((s.at (j : Int)).u.s : Int), zi ((s.at (j : Int)).u.r : Int)]⟩) (y :: H') → SCalls Tryz.prog 62 [ptr u] (y :: H') K2 := fun y u hm K2 hk => c62 hm hk
      have h63 : ∀ (y : Nat × Blk) u, uB u (s.at (j : Int)).u ∈ y :: H' → ∀ (K2 : Value → Heap → Prop), K2 (zi (s.at (j : Int)).u.st) (y :: H') → SCalls Tryz.prog 63 [ptr u] (y :: H') K2 := fun y u hm K2 hk => c63 hm hk
      clear hat hd hd3 hi hw
      generalize (s.at (j : Int)).u.st = st at *
      generalize s.at (j : Int) = x at *
      obtain ⟨xon, ⟨us, ur, uoff, uid⟩, xbox, xinn⟩ := x
      dsimp only at *
      generalize xbox.isSome = bs at *
      generalize xbox.getD z0 = F at *
      obtain ⟨id, fx, rm, nn, d0, d1, d2, d3, d4, d5, d6, d7⟩ := F
      dsimp only [frC, frV] at h59 e6
      have n1 : (!decide ((us : Int) = (us : Int))) = false := by simp
      have n2 : (!decide ((ur : Int) = (ur : Int))) = false := by simp
      have n3 : (!decide (st = st)) = false := by simp
      cases hS
      repeat' ((conv => whnf); (first | refine Look.cell hd1 gr ?_ | refine Look.cell (.tail _ hd1) gr ?_ | refine Branch.dt (show (j : Int) ≤ (s.ns.length : Int) by omega) ?_ | with_reducible refine h59 _ ?_ | with_reducible refine h60 _ _ (fun u hmu => ?_) | with_reducible refine h61 _ _ ?_ | refine SDraw.all (by kernel_rfl) ?_ | refine Idx.nat hjl ?_ | refine Look.cell (.tail _ hd2) e5 ?_ | refine Look.cell (.tail _ hd2) e1 ?_ | refine Look.cell (.tail _ hd2) e2 ?_ | refine Look.cells (.tail _ hd2) rfl e6 ?_ | with_reducible refine h62 _ _ hmu _ ?_ | with_reducible refine h63 _ _ hmu _ ?_ | with_reducible refine h64 _ _ ?_ | refine Branch.f n1 ?_ | refine Branch.f n2 ?_ | refine Branch.f n3 ?_ | refine Branch.t (beq_self_eq_true _) ?_ | refine Branch.f rfl ?_ | exact hnext _ _ .mk h.skip | refine New.mk (fun _ => ?_) | refine Look.at0 ?_ | refine Cells.row rfl ?_ | refine Put.row rfl ?_ | with_reducible refine Val.i64 (by omega) (by omega) ?_ | refine Branch.not ?_ | refine Branch.and ?_ | refine Branch.dt rfl ?_ | refine Kept.k0 ?_))
    · have h59 : ∀ (K2 : Value → Heap → Prop), K2 (.tuple ⟨[frV z0, .bool false]⟩) H' → SCalls Tryz.prog 59 [ptr p, zi ((k : Int) - 1)] H' K2 := fun K2 hk => k59 h (fun _ => hk) (fun h => absurd h hi)
      have h60 : ∀ (y : Nat × Blk) (K2 : Value → Heap → Prop), K2 (.tuple ⟨[.pointer none, zi 1]⟩) (y :: H') → SCalls Tryz.prog 60 [ptr p, zi ((k : Int) - 1)] (y :: H') K2 := fun y K2 hk => k60 h.skip (fun _ => hk) (fun h => absurd h hi)
      have h61 : ∀ (y : Nat × Blk) (K2 : Value → Heap → Prop), K2 (.bool false) (y :: H') → SCalls Tryz.prog 61 [ptr q, zi ((k : Int) - 1)] (y :: H') K2 := fun y K2 hk => c61 (.tail _ hd1) (by rw [is_dec, decide_eq_false hi]; exact hk)
      clear hw hd3 hd2
      cases hS
      repeat' ((conv => whnf); (first | refine Look.cell hd1 gr ?_ | refine Look.cell (.tail _ hd1) gr ?_ | refine Branch.dt (show (k : Int) - 1 ≤ (s.ns.length : Int) by omega) ?_ | with_reducible refine h59 _ ?_ | with_reducible refine h60 _ _ ?_ | with_reducible refine h61 _ _ ?_ | refine Branch.t rfl ?_ | refine Branch.f rfl ?_ | exact hnext _ _ .mk h.skip | refine New.mk (fun _ => ?_) | refine Look.at0 ?_ | refine Put.row rfl ?_ | with_reducible refine Val.i64 (by omega) (by omega) ?_))
  · obtain rfl : k = s.ns.length + 2 := by omega
    have hk := hK _ h
    clear hR hK
    cases hS
    repeat' ((conv => whnf); (first | refine Look.cell hd1 gr ?_ | refine Branch.df (show ¬ ((s.ns.length + 2 : Nat) : Int) - 1 ≤ (s.ns.length : Int) by omega) ?_ | exact Keep.all hk))
end
end Go.Proofs.YtfmggepbcpceiaaGreatDoor


/- Layer 4: whatever happens, a bus is the document's: the law, by walks. -/
set_option linter.unusedVariables false
set_option linter.unusedSimpArgs false
set_option maxRecDepth 100000
set_option maxHeartbeats 4000000
namespace Go.Proofs.YtfmggepbcpceiaaGreatDoor
open Sx
inductive S8a (A1 A5 A7 A9 : Value) : List Value → Prop
  | mk {r0 r2 r3 r4 r6 r8 r10 r11 r12 r13 r14 r15 r16 r17 r18 r19 r20 r21 r22 r23 r24 r25 r26 r27 r28 r29 r30 r31 r32 r33 r34 r35 r36 r37 r38 r39 r40 r41 r42 r43 r44 r45 r46 r47 r48 r49 r50 r51 r52 r53 r54 r55 r56 r57 r58 r59 r60 r61 r62 : Value} : S8a A1 A5 A7 A9 [r0, A1, r2, r3, r4, A5, r6, A7, r8, A9, r10, r11, r12, r13, r14, r15, r16, r17, r18, r19, r20, r21, r22, r23, r24, r25, r26, r27, r28, r29, r30, r31, r32, r33, r34, r35, r36, r37, r38, r39, r40, r41, r42, r43, r44, r45, r46, r47, r48, r49, r50, r51, r52, r53, r54, r55, r56, r57, r58, r59, r60, r61, r62]
inductive S8b (A1 A5 A7 A9 A10 : Value) : List Value → Prop
  | mk {r0 r2 r3 r4 r6 r8 r11 r12 r13 r14 r15 r16 r17 r18 r19 r20 r21 r22 r23 r24 r25 r26 r27 r28 r29 r30 r31 r32 r33 r34 r35 r36 r37 r38 r39 r40 r41 r42 r43 r44 r45 r46 r47 r48 r49 r50 r51 r52 r53 r54 r55 r56 r57 r58 r59 r60 r61 r62 : Value} : S8b A1 A5 A7 A9 A10 [r0, A1, r2, r3, r4, A5, r6, A7, r8, A9, A10, r11, r12, r13, r14, r15, r16, r17, r18, r19, r20, r21, r22, r23, r24, r25, r26, r27, r28, r29, r30, r31, r32, r33, r34, r35, r36, r37, r38, r39, r40, r41, r42, r43, r44, r45, r46, r47, r48, r49, r50, r51, r52, r53, r54, r55, r56, r57, r58, r59, r60, r61, r62]
/-- What is asked of what happens. -/
structure AcOk (a : Ac) (H : Heap) : Prop where
  f : InS xC 2 (.slice a.fa a.fl.length a.fc) H a.fl
  b : a.fl.length * 16 ≤ 140737488355328
  i : a.f.id < 4294967296
  t : a.times ≤ 255
theorem AcOk.mono {a : Ac} {H H' : Heap} (h : AcOk a H) (hs : ∀ z ∈ H, z ∈ H') : AcOk a H' := ⟨h.f.mono hs, h.b, h.i, h.t⟩
section
variable {R H : Heap} {p q : Nat}
theorem l8b {Q : Post} {S0 : List Value} {la : Option Addr} {n lc j : Nat} {acts : List Ac} {a : Ac} {s : Bs} (hl : InS Ac.cells 17 (.slice la n lc) R acts) (hn : acts.length = n) (hj : acts[j]? = some a) (ha : AcOk a R) (hD : Db R) (hB : Own (BusO p s) (DocO q s) R H) (hw : BsW s)
    (hS : S8b (.slice la n lc) (ptr p) (ptr q) (zi (j : Int)) (zi 0) S0)
    (hQ : ∀ S k H' s, S8b (.slice la n lc) (ptr p) (ptr q) (zi (j : Int)) (zi k) S → Own (BusO p s) (DocO q s) R H' → BsW s → Q (.exit 2) S H') : SLoop Tryz.prog X8_l0 Q S0 H := by
  have ht := ha.t
  refine SLoop.invA (fun (k : Nat) S H' => k ≤ a.times + 1 ∧ S8b (.slice la n lc) (ptr p) (ptr q) (zi (j : Int)) (zi (k : Int)) S ∧ ∃ s, Own (BusO p s) (DocO q s) R H' ∧ BsW s) (fun k => a.times + 1 - k) 0 (Keep.all ⟨Nat.zero_le _, hS, s, hB, hw⟩) ?_
  clear hS hB hw s
  rintro k S H' ⟨hk, hS, s, hB, hw⟩ R2 hR
  have hjn : j < n := by rw [← hn]; exact (List.getElem?_eq_some_iff.1 hj).1
  obtain ⟨lr, lo, lc2, lb, e1, hlb, hlcc⟩ := inS_at hl Ac.cells_len hj
  rw [hn] at e1
  injection e1 with e1 _ e3
  subst e1 e3
  have h16 : lb.cell (lo + j * 17 + 16) = some (.int .u8 (a.times : Int)) := hlcc 16 _ rfl
  have hm := hB.mem _ hlb
  by_cases hlt : k < a.times + 1
  · have h26 : ∀ K2 : Value → Heap → Prop, (∀ H2, Own (BusO p (s.act a)) (DocO q (s.act a)) R H2 → K2 (.bool true) H2) → SCalls Tryz.prog 26 [ptr p, ptr q, .agg ⟨a.cells⟩] H' K2 := fun K2 hk2 => c26 hB hw hD ha.f ha.b ha.i hk2
    have hwa := hw.act a
    have hnext : ∀ S H2, S8b (.slice (some ⟨lr, lo, none⟩) n lc) (ptr p) (ptr q) (zi (j : Int)) (zi ((k + 1 : Nat) : Int)) S → Own (BusO p (s.act a)) (DocO q (s.act a)) R H2 → R2 S H2 := fun S H2 g1 g2 => hR (k + 1) S H2 (by omega) (Keep.all ⟨by omega, g1, _, g2, hwa⟩)
    clear hR hQ hB hw
    obtain ⟨kind, node, on, f, fl, fa, fc, times⟩ := a
    dsimp only at *
    dsimp only [Ac.cells] at h26 hlcc
    cases hS
    repeat' ((conv => whnf); (first | refine Idx.nat hjn ?_ | refine Look.cell hm h16 ?_ | refine Branch.dt (show (k : Int) ≤ (times : Int) by omega) ?_ | refine Look.cells hm rfl hlcc ?_ | refine h26 _ (fun H2 h2 => ?_) | refine Branch.f rfl ?_ | exact hnext _ _ .mk h2 | with_reducible refine Val.i64 (by omega) (by omega) ?_))
  · obtain rfl : k = a.times + 1 := by omega
    have hq := fun S h => hQ S ((a.times + 1 : Nat) : Int) _ s h hB hw
    clear hR hQ hB
    cases hS
    repeat' ((conv => whnf); (first | refine Idx.nat hjn ?_ | refine Look.cell hm h16 ?_ | refine Branch.df (show ¬ ((a.times + 1 : Nat) : Int) ≤ (a.times : Int) by omega) ?_ | exact hq _ .mk | with_reducible refine Val.i64 (by omega) (by omega) ?_))
theorem acts_c {av : Value} {acts : List Ac} {n : Int} (hD : Db H) (hl : InS Ac.cells 17 av H acts) (ha : ∀ a ∈ acts, AcOk a H) : SCalls Tryz.prog 8 [zi n, av] H fun v _ => v = .bool true := by
  obtain ⟨la, lc, rfl, hml⟩ := hl.sv
  simp only [maxLen] at hml
  refine enter8 ?_
  by_cases hn : 1 ≤ n ∧ n ≤ 127
  · obtain ⟨m, rfl⟩ : ∃ m : Nat, n = (m : Int) := ⟨n.toNat, by omega⟩
    have hk9 : ∀ K2 : Value → Heap → Prop, (∀ p H', Own (BusO p ⟨0, List.replicate m n0⟩) NoB H H' → K2 (.tuple ⟨[ptr p, zi 0]⟩) H') → SCalls Tryz.prog 9 [zi (m : Int)] H K2 := fun K2 hk => h9 (Own.none fun z hz => hz) (by omega) (by omega) hk
    have hk25 : ∀ p H1, Own (BusO p ⟨0, List.replicate m n0⟩) NoB H H1 → ∀ K2 : Value → Heap → Prop, (∀ q H', Own (BusO p ⟨0, List.replicate m n0⟩) (DocO q ⟨0, List.replicate m n0⟩) H H' → K2 (.tuple ⟨[ptr q, zi 0]⟩) H') → SCalls Tryz.prog 25 [zi (m : Int)] H1 K2 := fun p H1 h1 K2 hk => by
      obtain ⟨F, G, X, h3, h4, hp, h5⟩ := h1
      refine c25 (fun h => absurd hn h) (fun _ q F' hF' => ?_)
      rw [Int.toNat_natCast] at hF'
      refine hk q _ ⟨F, F', X, h3, hF', ?_, h5⟩
      rw [show G = [] from h4, List.nil_append] at hp
      refine (hp.append_left F').trans ?_
      exact perm_glue' (ls := [F', F, X]) (p := [0, 1, 2]) (q := [1, 0, 2]) (by decide) (by simp [glue]) (by simp [glue])
    have hw0 : BsW ⟨0, List.replicate m n0⟩ := BsW.init (by omega) (by omega)
    have hk27 : ∀ p q s H1, Own (BusO p s) (DocO q s) H H1 → BsW s → ∀ K2 : Value → Heap → Prop, (∀ H', Own (BusO p s) (DocO q s) H H' → K2 (.bool true) H') → SCalls Tryz.prog 27 [ptr p, ptr q] H1 K2 := fun p q s H1 h1 hw K2 hk => c27 h1 hw hk
    have hk16 : ∀ (A B : Heap → Prop) X, Own A B H X → ∀ K2 : Value → Heap → Prop, K2 (.bool true) X → SCalls Tryz.prog 16 [] X K2 := fun A B X h K2 hk => h16 h hD hk
    repeat' ((conv => whnf); (first | with_reducible refine hk9 _ (fun p H1 h1 => ?_) | with_reducible refine hk25 _ _ h1 _ (fun q H2 h2 => ?_) | refine Branch.f rfl ?_))
    refine SLoop.invA (fun (j : Nat) S H' => j ≤ acts.length ∧ S8a (.slice la acts.length lc) (ptr p) (ptr q) (zi (j : Int)) S ∧ ∃ s, Own (BusO p s) (DocO q s) H H' ∧ BsW s) (fun j => acts.length - j) 0 (Keep.all ⟨Nat.zero_le _, .mk, _, h2, hw0⟩) ?_
    clear h1 h2
    rintro j S H' ⟨hj, hS, s, hB, hw⟩ R2 hR
    by_cases hlt : j < acts.length
    · obtain ⟨a, hja, _, _⟩ := list_at hlt
      have hao := ha a (List.mem_of_getElem? hja)
      have hnext : ∀ S H2 s, S8a (.slice la acts.length lc) (ptr p) (ptr q) (zi ((j + 1 : Nat) : Int)) S → Own (BusO p s) (DocO q s) H H2 → BsW s → R2 S H2 := fun S H2 s g1 g2 g3 => hR (j + 1) S H2 (by omega) (Keep.all ⟨hlt, g1, s, g2, g3⟩)
      clear hR hk9 hk25
      cases hS
      repeat' ((conv => whnf); (first | refine Branch.dt (show (j : Int) < (acts.length : Int) by omega) ?_ | (refine l8b hl rfl hja hao hD hB hw .mk (fun S k H3 s3 hS h3 hw3 => ?_); cases hS) | with_reducible refine hk27 _ _ _ _ h3 hw3 _ (fun H4 h4 => ?_) | refine Branch.f rfl ?_ | exact hnext _ _ _ .mk h4 hw3 | with_reducible refine Val.i64 (by omega) (by omega) ?_))
    · obtain rfl : j = acts.length := by omega
      clear hR hk9 hk25
      cases hS
      repeat' ((conv => whnf); (first | refine Branch.df (by omega) ?_ | with_reducible refine hk16 _ _ _ hB _ ?_ | exact Keep.all rfl))
  · have hk9 : ∀ K2 : Value → Heap → Prop, K2 (.tuple ⟨[.pointer none, zi 1]⟩) H → SCalls Tryz.prog 9 [zi n] H K2 := fun K2 hk => c9 (fun _ => hk) (fun h => absurd h hn)
    have hk25 : ∀ K2 : Value → Heap → Prop, K2 (.tuple ⟨[.pointer none, zi 1]⟩) H → SCalls Tryz.prog 25 [zi n] H K2 := fun K2 hk => c25 (fun _ => hk) (fun h => absurd h hn)
    repeat' ((conv => whnf); (first | with_reducible refine hk9 _ ?_ | with_reducible refine hk25 _ ?_ | refine c16 hD ?_ | refine Branch.f rfl ?_ | refine Branch.t rfl ?_ | exact Keep.all rfl))
end
end Go.Proofs.YtfmggepbcpceiaaGreatDoor


/- Layer 4: the laws, of what the rows tell. -/
set_option linter.unusedVariables false
set_option linter.unusedSimpArgs false
set_option maxRecDepth 100000
set_option maxHeartbeats 4000000
namespace Go.Proofs.YtfmggepbcpceiaaGreatDoor
open Sx
/-- Flips that lie in the elements of a list. -/
theorem inner_of {β : Type} {w : World} (g : β → Option Addr × Nat × Nat) : ∀ (xs : List β), (∀ x ∈ xs, SliceAt 2 B49 R49 w (g x).1 (g x).2.1 (g x).2.2) →
    ∃ (H : Heap) (ys : List (β × List (Int × Int))), ys.map Prod.fst = xs ∧ (∀ y ∈ ys, y.2.length = (g y.1).2.1 ∧ InS xC 2 (.slice (g y.1).1 y.2.length (g y.1).2.2) H y.2 ∧ y.2.length * 16 ≤ 140737488355328) ∧ Holds w H ∧ ∀ p ∈ H, p.2.excl = false
  | [], _ => ⟨[], [], rfl, fun y hy => (by cases hy), Holds.empty w, fun p hp => by cases hp⟩
  | x :: xs, h => by
    obtain ⟨H1, ys, h1, h2, h3, h4⟩ := inner_of g xs fun y hy => h y (.tail _ hy)
    obtain ⟨H2, l, g1, g2, _, g4, g5, g6⟩ := flips_of (h x (.head _))
    refine ⟨H2 ++ H1, (x, l) :: ys, by rw [List.map_cons, h1], fun y hy => ?_, Holds.join g4 h3 g5 h4, excl_join g5 h4⟩
    rcases List.mem_cons.1 hy with rfl | hy
    · exact ⟨g1, g2.mono (H' := H2 ++ H1) fun p hp => List.mem_append_left _ hp, g6⟩
    · obtain ⟨k1, k2, k3⟩ := h2 y hy
      exact ⟨k1, k2.mono fun p hp => List.mem_append_right _ hp, k3⟩
theorem inS_conv {α β : Type} {f : α → List Value} {f' : β → List Value} {k : Nat} {sv : Value} {H : Heap} {xs : List α} {ys : List β} (h : InS f k sv H xs) (he : ys.map f' = xs.map f) : InS f' k sv H ys := by
  have hl : ys.length = xs.length := by simpa using congrArg List.length he
  obtain ⟨a, c, rfl, h1, h2⟩ := h
  refine ⟨a, c, by rw [hl], by omega, ?_⟩
  rcases h2 with rfl | ⟨r, o, b, rfl, hm, hc⟩
  · exact .inl (List.eq_nil_of_length_eq_zero hl)
  · refine .inr ⟨r, o, b, rfl, hm, fun j y i v hj hv hi => ?_⟩
    have e : (xs.map f)[j]? = some (f' y) := by rw [← he, List.getElem?_map, hj]; rfl
    rw [List.getElem?_map] at e
    cases hx : xs[j]? with
    | none => rw [hx] at e; cases e
    | some x =>
      rw [hx] at e
      injection e with e
      exact hc j x i v hx (by rw [e]; exact hv) hi
structure AcJ where
  (kind node : Int) (on : Bool) (f : Fm) (fa : Option Addr) (fn fc : Nat) (times : Nat)
abbrev AcJ.cells (a : AcJ) : List Value := [zi a.kind, zi a.node, .bool a.on, .int .u32 (a.f.id : Int), .bool a.f.x, .bool a.f.r, .int .i64 a.f.n, b8 a.f.d0, b8 a.f.d1, b8 a.f.d2, b8 a.f.d3, b8 a.f.d4, b8 a.f.d5, b8 a.f.d6, b8 a.f.d7, .slice a.fa a.fn a.fc, .int .u8 (a.times : Int)]
theorem act_in {w : World} {cs : List Value} (h : R71 w cs) : ∃ x : AcJ, cs = x.cells ∧ (SliceAt 2 B49 R49 w x.fa x.fn x.fc ∧ x.f.id < 4294967296 ∧ x.times ≤ 255) := by
  obtain ⟨x0, x1, x2, y0, y1, y2, y3, d0, d1, d2, d3, d4, d5, d6, d7, x4a, x4l, x4c, x5, rfl, h0, h1, k0, k1, g0, g1, g2, g3, g4, g5, g6, g7, hs, h5⟩ := h
  obtain ⟨f, hf, hw⟩ := frame_of (x := y1) (r := y2) k0 k1 g0 g1 g2 g3 g4 g5 g6 g7
  have hb := wf_u8 h5
  obtain ⟨b, rfl⟩ : ∃ b : Nat, x5 = (b : Int) := ⟨x5.toNat, by omega⟩
  refine ⟨⟨x0, x1, x2, f, x4a, x4l, x4c, b⟩, ?_, hs, hw.1, by show b ≤ 255; omega⟩
  have := congrArg (fun l => zi x0 :: zi x1 :: Value.bool x2 :: (l ++ [.slice x4a x4l x4c, .int .u8 (b : Int)])) hf
  exact this
theorem acts_of {w : World} {a : Option Addr} {n c : Nat} (h : SliceAt 17 B71 R71 w a n c) : ∃ H L, L.length = n ∧ InS Ac.cells 17 (.slice a L.length c) H L ∧ (∀ x ∈ L, AcOk x H) ∧ Holds w H ∧ ∀ p ∈ H, p.2.excl = false := by
  obtain ⟨H1, xs, h1, h2, h3, h4, h5⟩ := inS_of (f := AcJ.cells) (Good := fun x => SliceAt 2 B49 R49 w x.fa x.fn x.fc ∧ x.f.id < 4294967296 ∧ x.times ≤ 255) h (by decide) (fun _ => rfl) (fun cs hc => act_in hc)
  obtain ⟨H2, ys, g1, g2, g3, g4⟩ := inner_of (fun x : AcJ => (x.fa, x.fn, x.fc)) xs fun x hx => (h3 x hx).1
  have hl : ys.length = xs.length := by rw [← g1, List.length_map]
  refine ⟨H1 ++ H2, ys.map fun y => (⟨y.1.kind, y.1.node, y.1.on, y.1.f, y.2, y.1.fa, y.1.fc, y.1.times⟩ : Ac), by rw [List.length_map, hl, h1], ?_, fun x hx => ?_, Holds.join h4 g3 h5 g4, excl_join h5 g4⟩
  · have := (inS_conv h2 (f' := Ac.cells) (ys := ys.map fun y => (⟨y.1.kind, y.1.node, y.1.on, y.1.f, y.2, y.1.fa, y.1.fc, y.1.times⟩ : Ac)) (by
      rw [List.map_map, ← g1, List.map_map]
      refine List.map_congr_left fun y hy => ?_
      have e := (g2 y hy).1
      dsimp only at e
      simp only [Function.comp, Ac.cells, AcJ.cells]
      rw [e])).mono (H' := H1 ++ H2) fun p hp => List.mem_append_left _ hp
    rw [List.length_map, hl]; exact this
  · obtain ⟨y, hy, rfl⟩ := List.mem_map.1 hx
    obtain ⟨k1, k2, k3⟩ := g2 y hy
    have hy1 : y.1 ∈ xs := by rw [← g1]; exact List.mem_map.2 ⟨y, hy, rfl⟩
    exact ⟨k2.mono fun p hp => List.mem_append_right _ hp, k3, (h3 _ hy1).2.1, (h3 _ hy1).2.2⟩
theorem BusActsW (a0 : Int) (a1a : Option Addr) (a1l : Nat) (a1c : Nat) (w : World) (h0_0 : (Lit.int .i64 a0).wf = true) (h1_0 : SliceAt 17 B71 R71 w a1a a1l a1c) (hL : laidMet Tryz.prog Rows.busActsRow.laid w) :
    Calls Tryz.prog 8 #[.int .i64 a0, .slice a1a a1l a1c] w fun e w' => e = .returned (.bool true) ∧ Go.RowKit.Below w.heap.size w w' := by
  obtain ⟨hD, hw, hx⟩ := db_of hL
  obtain ⟨H, L, rfl, hin, hok, hw2, x2⟩ := acts_of h1_0
  exact (acts_c (hD.mono fun p hp => List.mem_append_left _ hp) (hin.mono fun p hp => List.mem_append_right _ hp) (fun a ha => (hok a ha).mono fun p hp => List.mem_append_right _ hp)).fin w (Holds.join hw hw2 hx x2) (excl_join hx x2)
end Go.Proofs.YtfmggepbcpceiaaGreatDoor


