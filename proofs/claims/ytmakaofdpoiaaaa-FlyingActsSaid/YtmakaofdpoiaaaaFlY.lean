/- Layer 24: the document's new net, whole. -/
import Derived.Test.YtmakaofdpoiaaaaFlX
set_option linter.unusedVariables false
set_option linter.unusedSimpArgs false
set_option maxRecDepth 100000
set_option maxHeartbeats 40000000
namespace Go.Proofs.Ytmakaofdpoiaaaa
open Sx
section
variable {K : Value → Heap → Prop} {d r1 r2 r3 r4 n c N : Nat} {slot lost : Int} {L : List Mas} {l l' : List M} {Q : Post}
theorem l21d {sv : Value} {H H0 : Heap} (hin : InL sv H L) (hlen : L.length ≤ 8) (hb : ∀ x ∈ L, ¬ Bad x) (S : List Value) (hS : S21c sv (.pointer (some ⟨d, 0, none⟩)) (.int .i64 0) S)
    (hg : Gets H0 ([(d, .row 76 [.slice (some ⟨r1, 0, none⟩) L.length c, .slice (some ⟨r2, 0, none⟩) L.length L.length, .slice (some ⟨r3, 0, none⟩) L.length L.length, .slice (some ⟨r4, 0, none⟩) L.length L.length, .int .u64 slot, .int .u64 lost] (0, 0)),
      (r1, .buf 30 (L.flatMap Mas.cells) N), (r2, .buf 3 (List.replicate L.length (.int .i64 0)) L.length), (r3, .buf 23 (List.replicate L.length (.int .u64 0)) L.length), (r4, .buf 3 (List.replicate L.length (.int .i64 0)) L.length)] ++ H))
    (hQ : ∀ S v, S21c sv (.pointer (some ⟨d, 0, none⟩)) v S → Q (.exit 4) S (rM d r1 r2 r3 r4 L.length c N slot lost L (L.map (mkM slot)) ++ H)) :
    SLoop Try.prog X21_l0 Q S H0 := SLoop.keep (Keep.gets hg (l21c hin hlen hb S hS hQ))
theorem c21 {sv : Value} {H : Heap} (hin : InL sv H L) (hsl : 0 ≤ slot ∧ slot ≤ 18446744073709551615) (hlo : 0 ≤ lost ∧ lost ≤ 18446744073709551615)
    (hE : ∀ e, newF slot lost L = .error e → K (.tuple ⟨[.pointer none, .int .i64 e]⟩) H)
    (hN : ∀ d r1 r2 r3 r4 c N l, newF slot lost L = .ok l → K (.tuple ⟨[.pointer (some ⟨d, 0, none⟩), .int .i64 0]⟩) (rM d r1 r2 r3 r4 L.length c N slot lost L l ++ H)) :
    SCalls Try.prog 21 [sv, .int .u64 slot, .int .u64 lost] H K := by
  have hin' := hin
  obtain ⟨a, c, rfl, hbb, hs⟩ := hin'
  refine enter21 ?_
  by_cases h8 : 8 < L.length
  · have hE := hE 2 (by unfold newF; exact if_pos h8)
    repeat' ((conv => whnf); (first
        | refine New.mk (fun _ => ?_)
        | refine Look.at0 ?_
        | refine Cell.row ?_
        | refine Cell.buf ?_
        | refine Cells.row rfl ?_
        | refine Put.row rfl ?_
        | refine Put.buf rfl ?_
        | refine Look.at1 ?_
        | refine Look.at2 ?_
        | refine Look.at3 ?_
        | refine Look.at4 ?_
        | refine Look.at5 ?_
        | refine Look.at6 ?_
        | refine Look.at7 ?_
        | refine Look.at8 ?_
        | with_reducible refine Val.i64 (by omega) (by omega) ?_
        | with_reducible refine Val.u8 (by omega) (by omega) ?_
        | with_reducible refine Val.u32 (by omega) (by omega) ?_
        | with_reducible refine Val.u64 (by omega) (by omega) ?_
        | with_reducible refine Val.u8m ?_
        | with_reducible refine Val.u32m ?_
        | with_reducible refine Val.u64m ?_
        | with_reducible refine Val.shr8 ?_
        | with_reducible refine Val.shr16 (by decide) ?_
        | with_reducible refine Val.shr24 (by decide) ?_
        | with_reducible refine Val.raw ?_
        | refine Branch.not ?_
        | refine Branch.and ?_
        | refine Branch.or ?_
        | refine Branch.dt (by assumption) ?_
        | refine Branch.df (by assumption) ?_
        | refine Branch.dt rfl ?_
        | refine Branch.dt (by omega) ?_
        | refine Branch.df (by omega) ?_
        | refine Branch.t rfl ?_
        | refine Branch.f rfl ?_
        | refine Branch.t (by assumption) ?_
        | refine Branch.f (by assumption) ?_
        | refine Branch.d (fun _ => ?_) (fun _ => ?_)
        | refine Branch.mk (fun _ => ?_) (fun _ => ?_)
        | refine Need.mk (by first | omega | decide | rfl) ?_
        | refine Idx.nat (by omega) ?_
        | refine Idx.auto (by first | omega | decide) (by first | omega | decide) ?_
        | refine Cell.ro rfl ?_
        | refine SDraw.all (by kernel_rfl) ?_
        | refine Kept.k0 ?_
        | refine Kept.k1 ?_
        | refine Kept.k2 ?_
        | refine Kept.k3 ?_
        | refine Kept.k4 ?_))
    all_goals (conv => whnf)
    exact Keep.all hE
  have hlen : L.length ≤ 8 := by omega
  repeat' ((conv => whnf); (first
      | refine l21a hin hlen _ .mk (fun S e he hS => ?_) (fun S v acc he hS => ?_)
      | refine New.mk (fun _ => ?_)
      | refine Look.at0 ?_
      | refine Cell.row ?_
      | refine Cell.buf ?_
      | refine Cells.row rfl ?_
      | refine Put.row rfl ?_
      | refine Put.buf rfl ?_
      | refine Look.at1 ?_
      | refine Look.at2 ?_
      | refine Look.at3 ?_
      | refine Look.at4 ?_
      | refine Look.at5 ?_
      | refine Look.at6 ?_
      | refine Look.at7 ?_
      | refine Look.at8 ?_
      | with_reducible refine Val.i64 (by omega) (by omega) ?_
      | with_reducible refine Val.u8 (by omega) (by omega) ?_
      | with_reducible refine Val.u32 (by omega) (by omega) ?_
      | with_reducible refine Val.u64 (by omega) (by omega) ?_
      | with_reducible refine Val.u8m ?_
      | with_reducible refine Val.u32m ?_
      | with_reducible refine Val.u64m ?_
      | with_reducible refine Val.shr8 ?_
      | with_reducible refine Val.shr16 (by decide) ?_
      | with_reducible refine Val.shr24 (by decide) ?_
      | with_reducible refine Val.raw ?_
      | refine Branch.not ?_
      | refine Branch.and ?_
      | refine Branch.or ?_
      | refine Branch.dt (by assumption) ?_
      | refine Branch.df (by assumption) ?_
      | refine Branch.dt rfl ?_
      | refine Branch.dt (by omega) ?_
      | refine Branch.df (by omega) ?_
      | refine Branch.t rfl ?_
      | refine Branch.f rfl ?_
      | refine Branch.t (by assumption) ?_
      | refine Branch.f (by assumption) ?_
      | refine Branch.d (fun _ => ?_) (fun _ => ?_)
      | refine Branch.mk (fun _ => ?_) (fun _ => ?_)
      | refine Need.mk (by first | omega | decide | rfl) ?_
      | refine Idx.nat (by omega) ?_
      | refine Idx.auto (by first | omega | decide) (by first | omega | decide) ?_
      | refine Cell.ro rfl ?_
      | refine SDraw.all (by kernel_rfl) ?_
      | refine Kept.k0 ?_
      | refine Kept.k1 ?_
      | refine Kept.k2 ?_
      | refine Kept.k3 ?_
      | refine Kept.k4 ?_))
  · cases hS
    conv => whnf
    exact Keep.all (hE e (by unfold newF; rw [if_neg h8, he]))
  · cases hS
    obtain ⟨hmap, hb⟩ := newGo_map he
    rw [List.nil_append] at hmap
    have hE1 : (slot < 1 ∨ 65536 < slot ∨ lost < 1 ∨ 4294967296 < lost) → newF slot lost L = .error 1 := fun h => by unfold newF; rw [if_neg h8, he]; exact if_pos h
    have hOk : ¬ (slot < 1 ∨ 65536 < slot ∨ lost < 1 ∨ 4294967296 < lost) → newF slot lost L = .ok acc := fun h => by unfold newF; rw [if_neg h8, he]; exact if_neg h
    subst hmap
    by_cases hz : slot < 1 ∨ 65536 < slot ∨ lost < 1 ∨ 4294967296 < lost
    · have hE := hE 1 (hE1 hz)
      repeat' ((conv => whnf); (first
          | refine New.mk (fun _ => ?_)
          | refine Look.at0 ?_
          | refine Cell.row ?_
          | refine Cell.buf ?_
          | refine Cells.row rfl ?_
          | refine Put.row rfl ?_
          | refine Put.buf rfl ?_
          | refine Look.at1 ?_
          | refine Look.at2 ?_
          | refine Look.at3 ?_
          | refine Look.at4 ?_
          | refine Look.at5 ?_
          | refine Look.at6 ?_
          | refine Look.at7 ?_
          | refine Look.at8 ?_
          | with_reducible refine Val.i64 (by omega) (by omega) ?_
          | with_reducible refine Val.u8 (by omega) (by omega) ?_
          | with_reducible refine Val.u32 (by omega) (by omega) ?_
          | with_reducible refine Val.u64 (by omega) (by omega) ?_
          | with_reducible refine Val.u8m ?_
          | with_reducible refine Val.u32m ?_
          | with_reducible refine Val.u64m ?_
          | with_reducible refine Val.shr8 ?_
          | with_reducible refine Val.shr16 (by decide) ?_
          | with_reducible refine Val.shr24 (by decide) ?_
          | with_reducible refine Val.raw ?_
          | refine Branch.not ?_
          | refine Branch.and ?_
          | refine Branch.or ?_
          | refine Branch.dt (by assumption) ?_
          | refine Branch.df (by assumption) ?_
          | refine Branch.dt rfl ?_
          | refine Branch.dt (by omega) ?_
          | refine Branch.df (by omega) ?_
          | refine Branch.t rfl ?_
          | refine Branch.f rfl ?_
          | refine Branch.t (by assumption) ?_
          | refine Branch.f (by assumption) ?_
          | refine Branch.d (fun _ => ?_) (fun _ => ?_)
          | refine Branch.mk (fun _ => ?_) (fun _ => ?_)
          | refine Need.mk (by first | omega | decide | rfl) ?_
          | refine Idx.nat (by omega) ?_
          | refine Idx.auto (by first | omega | decide) (by first | omega | decide) ?_
          | refine Cell.ro rfl ?_
          | refine SDraw.all (by kernel_rfl) ?_
          | refine Kept.k0 ?_
          | refine Kept.k1 ?_
          | refine Kept.k2 ?_
          | refine Kept.k3 ?_
          | refine Kept.k4 ?_))
      all_goals (conv => whnf)
      all_goals first
        | exact Keep.all hE
        | (exfalso; omega)
        | trace_state
    · have hN := fun d r1 r2 r3 r4 c N => hN d r1 r2 r3 r4 c N _ (hOk hz)
      clear hE hE1 hOk he
      rcases L with _ | ⟨m, L⟩
      · repeat' ((conv => whnf); (first
            | refine And.intro ?_ ?_
            | refine SDraw.held (by kernel_rfl) [] .nil ?_
            | refine Kept.sub (List.nil_sublist _) ?_
            | refine RawV.make1 (t := 36) (k := .i64) (bytes := 8) (e := 3) (zv := .int .i64 0) rfl (by kernel_rfl) (by kernel_rfl) rfl (by omega) (by unfold maxLen; omega) (fun r => ?_)
            | refine RawV.make1 (t := 74) (k := .i64) (bytes := 8) (e := 23) (zv := .int .u64 0) rfl (by kernel_rfl) (by kernel_rfl) rfl (by omega) (by unfold maxLen; omega) (fun r => ?_)
            | (refine RawV.toBuf (A := []) ?_; refine RawV.appE (bytes := 24) (size := 3) (e := 30) rfl (by kernel_rfl) (Nat.le_refl 0) ?_)
            | (refine RawV.toBuf (A := [_]) ?_; refine RawV.appE (bytes := 24) (size := 3) (e := 30) rfl (by kernel_rfl) (Nat.le_refl 0) ?_)
            | (refine RawV.toBuf (A := [_, _]) ?_; refine RawV.appE (bytes := 24) (size := 3) (e := 30) rfl (by kernel_rfl) (Nat.le_refl 0) ?_)
            | (refine RawV.toBuf (A := [_, _, _]) ?_; refine RawV.appE (bytes := 24) (size := 3) (e := 30) rfl (by kernel_rfl) (Nat.le_refl 0) ?_)
            | refine New.mk (fun _ => ?_)
            | refine Look.at0 ?_
            | refine Cell.row ?_
            | refine Cell.buf ?_
            | refine Cells.row rfl ?_
            | refine Put.row rfl ?_
            | refine Put.buf rfl ?_
            | refine Look.at1 ?_
            | refine Look.at2 ?_
            | refine Look.at3 ?_
            | refine Look.at4 ?_
            | refine Look.at5 ?_
            | refine Look.at6 ?_
            | refine Look.at7 ?_
            | refine Look.at8 ?_
            | with_reducible refine Val.i64 (by omega) (by omega) ?_
            | with_reducible refine Val.u8 (by omega) (by omega) ?_
            | with_reducible refine Val.u32 (by omega) (by omega) ?_
            | with_reducible refine Val.u64 (by omega) (by omega) ?_
            | with_reducible refine Val.u8m ?_
            | with_reducible refine Val.u32m ?_
            | with_reducible refine Val.u64m ?_
            | with_reducible refine Val.shr8 ?_
            | with_reducible refine Val.shr16 (by decide) ?_
            | with_reducible refine Val.shr24 (by decide) ?_
            | with_reducible refine Val.raw ?_
            | refine Branch.not ?_
            | refine Branch.and ?_
            | refine Branch.or ?_
            | refine Branch.dt (by assumption) ?_
            | refine Branch.df (by assumption) ?_
            | refine Branch.dt rfl ?_
            | refine Branch.dt (by omega) ?_
            | refine Branch.df (by omega) ?_
            | refine Branch.t rfl ?_
            | refine Branch.f rfl ?_
            | refine Branch.t (by assumption) ?_
            | refine Branch.f (by assumption) ?_
            | refine Branch.d (fun _ => ?_) (fun _ => ?_)
            | refine Branch.mk (fun _ => ?_) (fun _ => ?_)
            | refine Need.mk (by first | omega | decide | rfl) ?_
            | refine Idx.nat (by omega) ?_
            | refine Idx.auto (by first | omega | decide) (by first | omega | decide) ?_
            | refine Cell.ro rfl ?_
            | refine SDraw.all (by kernel_rfl) ?_
            | refine Kept.k0 ?_
            | refine Kept.k1 ?_
            | refine Kept.k2 ?_
            | refine Kept.k3 ?_
            | refine Kept.k4 ?_))
        all_goals
          refine l21d (L := []) hin hlen hb _ .mk (by
            repeat (first | refine Gets.pick 0 rfl ?_ | refine Gets.pick 1 rfl ?_ | refine Gets.pick 2 rfl ?_ | refine Gets.pick 3 rfl ?_ | refine Gets.pick 4 rfl ?_ | refine Gets.pick 5 rfl ?_)
            exact Gets.d0) (fun S v hS => ?_)
          cases hS
          repeat' ((conv => whnf); (first
              | refine New.mk (fun _ => ?_)
              | refine Look.at0 ?_
              | refine Cell.row ?_
              | refine Cell.buf ?_
              | refine Cells.row rfl ?_
              | refine Put.row rfl ?_
              | refine Put.buf rfl ?_
              | refine Look.at1 ?_
              | refine Look.at2 ?_
              | refine Look.at3 ?_
              | refine Look.at4 ?_
              | refine Look.at5 ?_
              | refine Look.at6 ?_
              | refine Look.at7 ?_
              | refine Look.at8 ?_
              | with_reducible refine Val.i64 (by omega) (by omega) ?_
              | with_reducible refine Val.u8 (by omega) (by omega) ?_
              | with_reducible refine Val.u32 (by omega) (by omega) ?_
              | with_reducible refine Val.u64 (by omega) (by omega) ?_
              | with_reducible refine Val.u8m ?_
              | with_reducible refine Val.u32m ?_
              | with_reducible refine Val.u64m ?_
              | with_reducible refine Val.shr8 ?_
              | with_reducible refine Val.shr16 (by decide) ?_
              | with_reducible refine Val.shr24 (by decide) ?_
              | with_reducible refine Val.raw ?_
              | refine Branch.not ?_
              | refine Branch.and ?_
              | refine Branch.or ?_
              | refine Branch.dt (by assumption) ?_
              | refine Branch.df (by assumption) ?_
              | refine Branch.dt rfl ?_
              | refine Branch.dt (by omega) ?_
              | refine Branch.df (by omega) ?_
              | refine Branch.t rfl ?_
              | refine Branch.f rfl ?_
              | refine Branch.t (by assumption) ?_
              | refine Branch.f (by assumption) ?_
              | refine Branch.d (fun _ => ?_) (fun _ => ?_)
              | refine Branch.mk (fun _ => ?_) (fun _ => ?_)
              | refine Need.mk (by first | omega | decide | rfl) ?_
              | refine Idx.nat (by omega) ?_
              | refine Idx.auto (by first | omega | decide) (by first | omega | decide) ?_
              | refine Cell.ro rfl ?_
              | refine SDraw.all (by kernel_rfl) ?_
              | refine Kept.k0 ?_
              | refine Kept.k1 ?_
              | refine Kept.k2 ?_
              | refine Kept.k3 ?_
              | refine Kept.k4 ?_))
          (conv => whnf)
          exact Keep.all (hN _ _ _ _ _ _ _)
      · obtain ⟨b, o, f, rfl, rfl, hc⟩ := hs (by simp)
        generalize hL : m :: L = L' at *
        have hn : ∀ j v, (L'.flatMap Mas.cells)[j]? = some v → (Blk.ro f).cell (o + j) = some v := by
          intro j v hj
          obtain ⟨j', i, x, rfl, hi, hx, hv⟩ := flat_inv Mas.len hj
          have := hc j' x hx i v hv
          show f _ = some v
          rw [← Nat.add_assoc]; exact this
        have h1 : ∀ u ∈ L'.flatMap Mas.cells, u.oneCell' = true := by
          intro u hu
          obtain ⟨x, _, hx⟩ := List.mem_flatMap.1 hu
          simp only [Mas.cells, List.mem_cons, List.not_mem_nil, or_false] at hx
          rcases hx with rfl | rfl | rfl <;> rfl
        repeat' ((conv => whnf); (first
            | refine And.intro ?_ ?_
            | refine SDraw.held (by kernel_rfl) [] .nil ?_
            | refine Kept.sub (List.nil_sublist _) ?_
            | refine RawV.make1 (t := 36) (k := .i64) (bytes := 8) (e := 3) (zv := .int .i64 0) rfl (by kernel_rfl) (by kernel_rfl) rfl (by omega) (by unfold maxLen; omega) (fun r => ?_)
            | refine RawV.make1 (t := 74) (k := .i64) (bytes := 8) (e := 23) (zv := .int .u64 0) rfl (by kernel_rfl) (by kernel_rfl) rfl (by omega) (by unfold maxLen; omega) (fun r => ?_)
            | (refine RawV.toBuf (A := []) ?_; refine RawV.appT (A := []) (n := 0) (cap := 0) (m := L'.length) (cs := []) (news := L'.flatMap Mas.cells) (r2 := b) (o2 := o) (b2 := .ro f) (size := 3) (bytes := 24) (e := 30) rfl (by kernel_rfl) (by decide) rfl rfl (Nat.le_refl 0) (Nat.zero_le _) (by repeat (first | exact List.Mem.head _ | apply List.Mem.tail)) (flat_len Mas.len _) hn h1 (by unfold maxLen; omega) (by omega) (fun r' cap' g1 g2 => ?_))
            | (refine RawV.toBuf (A := [_]) ?_; refine RawV.appT (A := [_]) (n := 0) (cap := 0) (m := L'.length) (cs := []) (news := L'.flatMap Mas.cells) (r2 := b) (o2 := o) (b2 := .ro f) (size := 3) (bytes := 24) (e := 30) rfl (by kernel_rfl) (by decide) rfl rfl (Nat.le_refl 0) (Nat.zero_le _) (by repeat (first | exact List.Mem.head _ | apply List.Mem.tail)) (flat_len Mas.len _) hn h1 (by unfold maxLen; omega) (by omega) (fun r' cap' g1 g2 => ?_))
            | (refine RawV.toBuf (A := [_, _]) ?_; refine RawV.appT (A := [_, _]) (n := 0) (cap := 0) (m := L'.length) (cs := []) (news := L'.flatMap Mas.cells) (r2 := b) (o2 := o) (b2 := .ro f) (size := 3) (bytes := 24) (e := 30) rfl (by kernel_rfl) (by decide) rfl rfl (Nat.le_refl 0) (Nat.zero_le _) (by repeat (first | exact List.Mem.head _ | apply List.Mem.tail)) (flat_len Mas.len _) hn h1 (by unfold maxLen; omega) (by omega) (fun r' cap' g1 g2 => ?_))
            | (refine RawV.toBuf (A := [_, _, _]) ?_; refine RawV.appT (A := [_, _, _]) (n := 0) (cap := 0) (m := L'.length) (cs := []) (news := L'.flatMap Mas.cells) (r2 := b) (o2 := o) (b2 := .ro f) (size := 3) (bytes := 24) (e := 30) rfl (by kernel_rfl) (by decide) rfl rfl (Nat.le_refl 0) (Nat.zero_le _) (by repeat (first | exact List.Mem.head _ | apply List.Mem.tail)) (flat_len Mas.len _) hn h1 (by unfold maxLen; omega) (by omega) (fun r' cap' g1 g2 => ?_))
            | refine New.mk (fun _ => ?_)
            | refine Look.at0 ?_
            | refine Cell.row ?_
            | refine Cell.buf ?_
            | refine Cells.row rfl ?_
            | refine Put.row rfl ?_
            | refine Put.buf rfl ?_
            | refine Look.at1 ?_
            | refine Look.at2 ?_
            | refine Look.at3 ?_
            | refine Look.at4 ?_
            | refine Look.at5 ?_
            | refine Look.at6 ?_
            | refine Look.at7 ?_
            | refine Look.at8 ?_
            | with_reducible refine Val.i64 (by omega) (by omega) ?_
            | with_reducible refine Val.u8 (by omega) (by omega) ?_
            | with_reducible refine Val.u32 (by omega) (by omega) ?_
            | with_reducible refine Val.u64 (by omega) (by omega) ?_
            | with_reducible refine Val.u8m ?_
            | with_reducible refine Val.u32m ?_
            | with_reducible refine Val.u64m ?_
            | with_reducible refine Val.shr8 ?_
            | with_reducible refine Val.shr16 (by decide) ?_
            | with_reducible refine Val.shr24 (by decide) ?_
            | with_reducible refine Val.raw ?_
            | refine Branch.not ?_
            | refine Branch.and ?_
            | refine Branch.or ?_
            | refine Branch.dt (by assumption) ?_
            | refine Branch.df (by assumption) ?_
            | refine Branch.dt rfl ?_
            | refine Branch.dt (by omega) ?_
            | refine Branch.df (by omega) ?_
            | refine Branch.t rfl ?_
            | refine Branch.f rfl ?_
            | refine Branch.t (by assumption) ?_
            | refine Branch.f (by assumption) ?_
            | refine Branch.d (fun _ => ?_) (fun _ => ?_)
            | refine Branch.mk (fun _ => ?_) (fun _ => ?_)
            | refine Need.mk (by first | omega | decide | rfl) ?_
            | refine Idx.nat (by omega) ?_
            | refine Idx.auto (by first | omega | decide) (by first | omega | decide) ?_
            | refine Cell.ro rfl ?_
            | refine SDraw.all (by kernel_rfl) ?_
            | refine Kept.k0 ?_
            | refine Kept.k1 ?_
            | refine Kept.k2 ?_
            | refine Kept.k3 ?_
            | refine Kept.k4 ?_))
        all_goals
          rw [Nat.zero_add]
          refine l21d (L := L') hin hlen hb _ .mk (by
            repeat (first | refine Gets.pick 0 rfl ?_ | refine Gets.pick 1 rfl ?_ | refine Gets.pick 2 rfl ?_ | refine Gets.pick 3 rfl ?_ | refine Gets.pick 4 rfl ?_ | refine Gets.pick 5 rfl ?_)
            exact Gets.d0) (fun S v hS => ?_)
          cases hS
          repeat' ((conv => whnf); (first
              | refine New.mk (fun _ => ?_)
              | refine Look.at0 ?_
              | refine Cell.row ?_
              | refine Cell.buf ?_
              | refine Cells.row rfl ?_
              | refine Put.row rfl ?_
              | refine Put.buf rfl ?_
              | refine Look.at1 ?_
              | refine Look.at2 ?_
              | refine Look.at3 ?_
              | refine Look.at4 ?_
              | refine Look.at5 ?_
              | refine Look.at6 ?_
              | refine Look.at7 ?_
              | refine Look.at8 ?_
              | with_reducible refine Val.i64 (by omega) (by omega) ?_
              | with_reducible refine Val.u8 (by omega) (by omega) ?_
              | with_reducible refine Val.u32 (by omega) (by omega) ?_
              | with_reducible refine Val.u64 (by omega) (by omega) ?_
              | with_reducible refine Val.u8m ?_
              | with_reducible refine Val.u32m ?_
              | with_reducible refine Val.u64m ?_
              | with_reducible refine Val.shr8 ?_
              | with_reducible refine Val.shr16 (by decide) ?_
              | with_reducible refine Val.shr24 (by decide) ?_
              | with_reducible refine Val.raw ?_
              | refine Branch.not ?_
              | refine Branch.and ?_
              | refine Branch.or ?_
              | refine Branch.dt (by assumption) ?_
              | refine Branch.df (by assumption) ?_
              | refine Branch.dt rfl ?_
              | refine Branch.dt (by omega) ?_
              | refine Branch.df (by omega) ?_
              | refine Branch.t rfl ?_
              | refine Branch.f rfl ?_
              | refine Branch.t (by assumption) ?_
              | refine Branch.f (by assumption) ?_
              | refine Branch.d (fun _ => ?_) (fun _ => ?_)
              | refine Branch.mk (fun _ => ?_) (fun _ => ?_)
              | refine Need.mk (by first | omega | decide | rfl) ?_
              | refine Idx.nat (by omega) ?_
              | refine Idx.auto (by first | omega | decide) (by first | omega | decide) ?_
              | refine Cell.ro rfl ?_
              | refine SDraw.all (by kernel_rfl) ?_
              | refine Kept.k0 ?_
              | refine Kept.k1 ?_
              | refine Kept.k2 ?_
              | refine Kept.k3 ?_
              | refine Kept.k4 ?_))
          (conv => whnf)
          exact Keep.all (hN _ _ _ _ _ _ _)
end
end Go.Proofs.Ytmakaofdpoiaaaa
