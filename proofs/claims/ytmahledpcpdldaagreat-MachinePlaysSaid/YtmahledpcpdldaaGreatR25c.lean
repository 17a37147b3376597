/- The reference's machine: held, Link, Unlink, Retype. -/
import Derived.Test.YtmahledpcpdldaaGreatR25b
import Derived.Test.YtmahledpcpdldaaGreatGNeed
set_option linter.unusedVariables false
set_option linter.unusedSimpArgs false
namespace Go.Proofs.YtmahledpcpdldaaGreat
open Go.RowKit
theorem r6_type {w : World} {a g cap : Nat} {t : TypS} (f : Int) (h : RTypIs w a g cap t) : Calls Tryz.prog 95 #[.pointer (some ⟨a, 0, none⟩), .int .i64 f] w fun e w' => ∃ x y z, e = .returned (.agg #[.int .i64 (t.type f), .int .i64 x, .int .i64 y, .int .i64 z]) ∧ Below w.heap.size w w' := by
  refine (r6_of a g cap t f w h).mono fun e w' ⟨he, hb⟩ => ?_
  unfold TypS.type
  by_cases hc : t.can f = 0
  · rw [if_pos hc] at he ⊢; exact ⟨_, _, _, he, hb⟩
  · rw [if_neg hc] at he ⊢; exact ⟨_, _, _, he, hb⟩
set_option maxHeartbeats 2000000 in
theorem r25_held (R : RB) (m : Mach) (room : Int) (cur : Nat → Int) (k r t l e a : Int) (w : World) (h : RMachIs w R m room cur) : Calls Tryz.prog 172 #[.pointer (some ⟨R.b, 0, none⟩), .agg #[.int .i64 k, .int .i64 r, .int .i64 t, .int .i64 l, .int .i64 e, .int .i64 a]] w fun e w' =>
    e = .returned (.tuple #[.int .i64 (m.needF k t), .bool (m.needB k t), .int .i64 (m.needE k t)]) ∧ Below w.heap.size w w' := by
  have hbA : ∀ o, Below w.heap.size w (w.alloc o) := fun o => by (refine Touch.below0 ?_; (repeat' (first | (with_reducible exact Touch.refl _ _) | (with_reducible assumption) | (with_reducible refine Touch.drew ?_) | (with_reducible refine Touch.drewN ?_ _) | (with_reducible refine Touch.alloc ?_ _) | (with_reducible refine Touch.setCell ?_ _ _ _ ?_) | (with_reducible refine Touch.step (by assumption) ?_) | (with_reducible refine Touch.stepT (by assumption) ?_ ?_) | (intro _; first | rfl | trivial | omega | (simp; done) | (simp; omega)) | (intro _ _; first | omega | (simp; done) | (simp; omega)))))
  generalize hk : hB k = q
  cases q
  · obtain ⟨e1, e2, e3, e4⟩ := Mach.need_no (m := m) (t := t) hk
    rw [e1, e2, e3]
    have HF := Lib.hid e4; have HB := Lib.hid hk
    have HT := Lib.hid (rfl : m.typ.type t = m.typ.type t)
    clear e1 e2 e3 e4 hk
    go_enter Tryz.func172, Tryz.ntmps172
    go_wp2_with (first | ((go_at_call 242; (with_reducible refine (r9_holds _ _ _ _ _ _ _).mono ?_); rintro e w' ⟨rfl, hb1⟩); rw [HF.out, HB.out]; have hbw := (hbA _).trans (hb1.mono (hbA _).size); have hm := h.after hbw; obtain ⟨g0, g1, g2, g3, g4, g5, g6, g7⟩ := ptr_cells hm) | ((go_at_call 95; (with_reducible refine (r6_type _ hm.typ).mono ?_); rintro e w' ⟨x1, x2, x3, rfl, hb2⟩); rw [HT.out]))
    go_ret3
    exact ⟨rfl, hbw⟩
  by_cases ht : m.typ.type t = 2
  · obtain ⟨e1, e2, e3, e4⟩ := Mach.need_yes hk ht
    rw [e1, e2, e3]
    have HF := Lib.hid e4; have HB := Lib.hid hk; have HT := Lib.hid ht
    clear e1 e2 e3 e4 hk ht
    go_enter Tryz.func172, Tryz.ntmps172
    go_wp2_with (first | ((go_at_call 242; (with_reducible refine (r9_holds _ _ _ _ _ _ _).mono ?_); rintro e w' ⟨rfl, hb1⟩); rw [HF.out, HB.out]; have hbw := (hbA _).trans (hb1.mono (hbA _).size); have hm := h.after hbw; obtain ⟨g0, g1, g2, g3, g4, g5, g6, g7⟩ := ptr_cells hm) | ((go_at_call 95; (with_reducible refine (r6_type _ hm.typ).mono ?_); rintro e w' ⟨x1, x2, x3, rfl, hb2⟩); rw [HT.out]))
    go_ret3
    exact ⟨rfl, hbw.trans (hb2.mono hbw.size)⟩
  · obtain ⟨e1, e2, e3, e4⟩ := Mach.need_bad hk ht
    rw [e1, e2, e3]
    have HF := Lib.hid e4; have HB := Lib.hid hk
    obtain ⟨y, hy⟩ : ∃ y, m.typ.type t = y := ⟨_, rfl⟩
    rw [hy] at ht
    have HT := Lib.hid hy
    clear e1 e2 e3 e4 hk hy
    go_enter Tryz.func172, Tryz.ntmps172
    go_wp2_with (first | ((go_at_call 242; (with_reducible refine (r9_holds _ _ _ _ _ _ _).mono ?_); rintro e w' ⟨rfl, hb1⟩); rw [HF.out, HB.out]; have hbw := (hbA _).trans (hb1.mono (hbA _).size); have hm := h.after hbw; obtain ⟨g0, g1, g2, g3, g4, g5, g6, g7⟩ := ptr_cells hm) | ((go_at_call 95; (with_reducible refine (r6_type _ hm.typ).mono ?_); rintro e w' ⟨x1, x2, x3, rfl, hb2⟩); rw [HT.out]))
    go_ret3
    exact ⟨rfl, hbw.trans (hb2.mono hbw.size)⟩
set_option maxHeartbeats 2000000 in
theorem r25_link (R : RB) (m : Mach) (room : Int) (cur : Nat → Int) (k r t l e a : Int) (w : World) (h : RMachIs w R m room cur) (ok : m.Ok) : Calls Tryz.prog 72 #[.pointer (some ⟨R.b, 0, none⟩), .agg #[.int .i64 k, .int .i64 r, .int .i64 t, .int .i64 l, .int .i64 e, .int .i64 a]] w fun e w' =>
    e = .returned (.int .i64 (m.linkE k t)) ∧ RMachIs w' R (m.link k t) room cur ∧ Touch (· = R.tg) w w' := by
  have hbA : ∀ o, Below w.heap.size w (w.alloc o) := fun o => by (refine Touch.below0 ?_; (repeat' (first | (with_reducible exact Touch.refl _ _) | (with_reducible assumption) | (with_reducible refine Touch.drew ?_) | (with_reducible refine Touch.drewN ?_ _) | (with_reducible refine Touch.alloc ?_ _) | (with_reducible refine Touch.setCell ?_ _ _ _ ?_) | (with_reducible refine Touch.step (by assumption) ?_) | (with_reducible refine Touch.stepT (by assumption) ?_ ?_) | (intro _; first | rfl | trivial | omega | (simp; done) | (simp; omega)) | (intro _ _; first | omega | (simp; done) | (simp; omega)))))
  have e0 := h.e0lt
  unfold Mach.linkE Mach.link
  generalize hq : m.needB k t = q
  cases q
  · rw [if_neg (by decide), if_neg (by decide)]
    obtain ⟨f, hf⟩ : ∃ f, m.needF k t = f := ⟨_, rfl⟩
    have HF := Lib.hid hf; have HB := Lib.hid hq
    rcases Mach.need_E (m := m) (k := k) (t := t) with he | he
    · rw [he]; have HE := Lib.hid he; clear he hq hf
      go_enter Tryz.func72, Tryz.ntmps72
      go_wp2_with ((go_at_call 172; (with_reducible refine (r25_held R m room cur k r t l e a _ (h.after (hbA _))).mono ?_); rintro e w' ⟨rfl, hb1⟩); rw [HF.out, HB.out, HE.out]; have hbw := (hbA _).trans (hb1.mono (hbA _).size); have hm := h.after hbw; obtain ⟨g0, g1, g2, g3, g4, g5, g6, g7⟩ := ptr_cells hm)
      go_ret
      exact ⟨rfl, hm, Touch.of_below hbw⟩
    · rw [he]; have HE := Lib.hid he; clear he hq hf
      go_enter Tryz.func72, Tryz.ntmps72
      go_wp2_with ((go_at_call 172; (with_reducible refine (r25_held R m room cur k r t l e a _ (h.after (hbA _))).mono ?_); rintro e w' ⟨rfl, hb1⟩); rw [HF.out, HB.out, HE.out]; have hbw := (hbA _).trans (hb1.mono (hbA _).size); have hm := h.after hbw; obtain ⟨g0, g1, g2, g3, g4, g5, g6, g7⟩ := ptr_cells hm)
      go_ret
      exact ⟨rfl, hm, Touch.of_below hbw⟩
  · rw [if_pos rfl, if_pos rfl]
    obtain ⟨he, hf⟩ := Mach.need_EB hq
    have HF := Lib.hid hf; have HB := Lib.hid hq; have HE := Lib.hid he; clear hq hf he
    go_enter Tryz.func72, Tryz.ntmps72
    go_wp2_with (first
      | ((go_at_call 172; (with_reducible refine (r25_held R m room cur k r t l e a _ (h.after (hbA _))).mono ?_); rintro e w' ⟨rfl, hb1⟩); rw [HF.out, HB.out, HE.out]; have hbw := (hbA _).trans (hb1.mono (hbA _).size); have hm := h.after hbw; obtain ⟨g0, g1, g2, g3, g4, g5, g6, g7⟩ := ptr_cells hm)
      | (go_at_call 173; (with_reducible refine (r6_ref _ _ _ _ _ _ hm.typ ok.typ).mono ?_); rintro e w' ⟨rfl, ht2, hx2⟩))
    go_ret
    exact ⟨rfl, hm.settyp hx2 ht2, (Touch.of_below hbw).trans2 hx2 (fun i _ hi => hi)⟩
set_option maxHeartbeats 2000000 in
theorem r25_unlink (R : RB) (m : Mach) (room : Int) (cur : Nat → Int) (k r t l e a : Int) (w : World) (h : RMachIs w R m room cur) (ok : m.Ok) : Calls Tryz.prog 74 #[.pointer (some ⟨R.b, 0, none⟩), .agg #[.int .i64 k, .int .i64 r, .int .i64 t, .int .i64 l, .int .i64 e, .int .i64 a]] w fun e w' =>
    e = .returned (.int .i64 (m.unlinkE k t)) ∧ RMachIs w' R (m.unlink k t) room cur ∧ Touch (· = R.tg) w w' := by
  have hbA : ∀ o, Below w.heap.size w (w.alloc o) := fun o => by (refine Touch.below0 ?_; (repeat' (first | (with_reducible exact Touch.refl _ _) | (with_reducible assumption) | (with_reducible refine Touch.drew ?_) | (with_reducible refine Touch.drewN ?_ _) | (with_reducible refine Touch.alloc ?_ _) | (with_reducible refine Touch.setCell ?_ _ _ _ ?_) | (with_reducible refine Touch.step (by assumption) ?_) | (with_reducible refine Touch.stepT (by assumption) ?_ ?_) | (intro _; first | rfl | trivial | omega | (simp; done) | (simp; omega)) | (intro _ _; first | omega | (simp; done) | (simp; omega)))))
  have e0 := h.e0lt
  unfold Mach.unlinkE Mach.unlink
  generalize hq : m.needB k t = q
  cases q
  · rw [if_neg (by decide), if_neg (by decide)]
    obtain ⟨f, hf⟩ : ∃ f, m.needF k t = f := ⟨_, rfl⟩
    have HF := Lib.hid hf; have HB := Lib.hid hq
    rcases Mach.need_E (m := m) (k := k) (t := t) with he | he
    · rw [he]; have HE := Lib.hid he; clear he hq hf
      go_enter Tryz.func74, Tryz.ntmps74
      go_wp2_with ((go_at_call 172; (with_reducible refine (r25_held R m room cur k r t l e a _ (h.after (hbA _))).mono ?_); rintro e w' ⟨rfl, hb1⟩); rw [HF.out, HB.out, HE.out]; have hbw := (hbA _).trans (hb1.mono (hbA _).size); have hm := h.after hbw; obtain ⟨g0, g1, g2, g3, g4, g5, g6, g7⟩ := ptr_cells hm)
      go_ret
      exact ⟨rfl, hm, Touch.of_below hbw⟩
    · rw [he]; have HE := Lib.hid he; clear he hq hf
      go_enter Tryz.func74, Tryz.ntmps74
      go_wp2_with ((go_at_call 172; (with_reducible refine (r25_held R m room cur k r t l e a _ (h.after (hbA _))).mono ?_); rintro e w' ⟨rfl, hb1⟩); rw [HF.out, HB.out, HE.out]; have hbw := (hbA _).trans (hb1.mono (hbA _).size); have hm := h.after hbw; obtain ⟨g0, g1, g2, g3, g4, g5, g6, g7⟩ := ptr_cells hm)
      go_ret
      exact ⟨rfl, hm, Touch.of_below hbw⟩
  · rw [if_pos rfl, if_pos rfl]
    obtain ⟨he, hf⟩ := Mach.need_EB hq
    have HF := Lib.hid hf; have HB := Lib.hid hq; have HE := Lib.hid he; clear hq hf he
    go_enter Tryz.func74, Tryz.ntmps74
    go_upto_region 4 with (((go_at_call 172; (with_reducible refine (r25_held R m room cur k r t l e a _ (h.after (hbA _))).mono ?_); rintro e w' ⟨rfl, hb1⟩); rw [HF.out, HB.out, HE.out]; have hbw := (hbA _).trans (hb1.mono (hbA _).size); have hm := h.after hbw; obtain ⟨g0, g1, g2, g3, g4, g5, g6, g7⟩ := ptr_cells hm))
    obtain ⟨wo, hwo⟩ : ∃ x : World, x = w' := ⟨_, rfl⟩
    subst hwo
    have hD : RMachIs wo.drew R m room cur := hm.after ((Below.refl _ wo).drew)
    have q0 := hm.q0
    have kT : ∀ y, Touch (· = R.tg) wo y → y.cell? ⟨R.b, 4, none⟩ = some (.pointer (some ⟨R.ta, 0, none⟩)) ∧ y.cell? ⟨R.b, 1, none⟩ = some (.pointer (some ⟨R.cv, 0, none⟩)) ∧ y.cell? ⟨R.cv, 0, none⟩ = some (.int .i64 m.clk.now) := fun y hy => by
      rw [cell_of (hy.at hm.box (by omega)), cell_of (hy.at hm.box (by omega)), cell_of (hy.at hm.clk.box (by have := hm.q2; have := hm.q3; omega))]; exact ⟨rfl, rfl, rfl⟩
    have d0 : Touch (· = R.tg) wo wo.drew := (Touch.refl _ wo).drew
    clear g0 g1 g2 g3 g4 g5 g6 g7
    go_region_held3 (fun y => y.cell? ⟨R.b, 4, none⟩ = some (.pointer (some ⟨R.ta, 0, none⟩)) ∧ y.cell? ⟨R.b, 1, none⟩ = some (.pointer (some ⟨R.cv, 0, none⟩)) ∧ y.cell? ⟨R.cv, 0, none⟩ = some (.int .i64 m.clk.now))
      (first | (with_reducible exact kT _ d0) | (with_reducible refine kT _ ?_; with_reducible assumption))
      (first | (go_at_call 174; (with_reducible refine (r6_unref _ _ _ _ _ _ _ hD.typ ok.typ).mono ?_); rintro e w' ⟨rfl, ht2, hx2⟩; have hx3 := d0.trans hx2))
    go_wp2
    go_ret
    exact ⟨rfl, hm.settyp hx3 ht2, (Touch.of_below hbw).trans2 hx3 (fun i _ hi => hi)⟩
theorem r6_ofW {w : World} {a g cap : Nat} {t : TypS} (f : Int) (h : RTypIs w a g cap t) : Calls Tryz.prog 95 #[.pointer (some ⟨a, 0, none⟩), .int .i64 f] w fun e w' => ∃ x y, e = .returned (.agg #[.int .i64 x, .int .i64 y, .int .i64 (t.freed f), .int .i64 (t.was f)]) ∧ Below w.heap.size w w' := by
  refine (r6_of a g cap t f w h).mono fun e w' ⟨he, hb⟩ => ?_
  unfold TypS.freed TypS.was
  by_cases hc : t.can f = 0
  · rw [if_pos hc] at he ⊢; rw [if_pos hc]; exact ⟨_, _, he, hb⟩
  · rw [if_neg hc] at he ⊢; rw [if_neg hc]; exact ⟨_, _, he, hb⟩
set_option maxHeartbeats 4000000 in
theorem r25_retype (R : RB) (m : Mach) (room : Int) (cur : Nat → Int) (f kd : Int) (w : World) (h : RMachIs w R m room cur) (ok : m.Ok) : Calls Tryz.prog 17 #[.pointer (some ⟨R.b, 0, none⟩), .int .i64 f, .int .i64 kd] w fun e w' =>
    e = .returned (.int .i64 (m.retypeE f kd)) ∧ RMachIs w' R (m.retype f kd) room cur ∧ Touch (fun x => R.e0 ≤ x) w w' := by
  obtain ⟨g0, g1, g2, g3, g4, g5, g6, g7⟩ := ptr_cells h
  have e0 := h.e0lt
  have q0 := h.q0
  have hlb : R.b < w.heap.size := lt_of_block h.box
  unfold Mach.retypeE Mach.retype
  have okt := ok.mem
  by_cases he : m.typ.retypeE f kd (m.seen f) = 0
  · rw [if_pos he, if_pos he]
    have HE := Lib.hid he; clear he
    go_enter Tryz.func17, Tryz.ntmps17
    go_upto_region 2 with ((go_at_call 95; (with_reducible refine (r6_ofW _ h.typ).mono ?_); rintro e w' ⟨x1, x2, rfl, hb1⟩))
    have hlb1 := Nat.lt_of_lt_of_le hlb hb1.size
    have hx := heap_new w' (.cells #[.int .i64 x1, .int .i64 x2, .int .i64 (m.typ.freed f), .int .i64 (m.typ.was f)] 158 (0, 0))
    have hbw : Below w.heap.size w (w'.alloc (.cells #[.int .i64 x1, .int .i64 x2, .int .i64 (m.typ.freed f), .int .i64 (m.typ.was f)] 158 (0, 0))) := hb1.alloc hb1.size _
    have hxg : w'.heap.size ≠ R.tg := by have := h.typ.ltg; have := hb1.size; omega
    generalize w'.alloc (.cells #[.int .i64 x1, .int .i64 x2, .int .i64 (m.typ.freed f), .int .i64 (m.typ.was f)] 158 (0, 0)) = wo at *
    generalize w'.heap.size = N at *
    have hm := h.after hbw
    clear h g0 g1 g2 g3 g4 g5 g6 g7
    have hD : RMachIs wo.drew R m room cur := hm.after ((Below.refl _ wo).drew)
    have kT : ∀ y, Touch (· = R.tg) wo y → y.cell? ⟨R.b, 4, none⟩ = some (.pointer (some ⟨R.ta, 0, none⟩)) ∧ y.cell? ⟨R.b, 1, none⟩ = some (.pointer (some ⟨R.cv, 0, none⟩)) ∧ y.cell? ⟨N, 3, none⟩ = some (.int .i64 (m.typ.was f)) ∧ y.cell? ⟨N, 2, none⟩ = some (.int .i64 (m.typ.freed f)) := fun y hy => by
      rw [cell_of (hy.at hm.box (by omega)), cell_of (hy.at hm.box (by omega)), cell_of (hy.at hx hxg), cell_of (hy.at hx hxg)]; exact ⟨rfl, rfl, rfl, rfl⟩
    have d0 : Touch (· = R.tg) wo wo.drew := (Touch.refl _ wo).drew
    go_region_held3 (fun y => y.cell? ⟨R.b, 4, none⟩ = some (.pointer (some ⟨R.ta, 0, none⟩)) ∧ y.cell? ⟨R.b, 1, none⟩ = some (.pointer (some ⟨R.cv, 0, none⟩)) ∧ y.cell? ⟨N, 3, none⟩ = some (.int .i64 (m.typ.was f)) ∧ y.cell? ⟨N, 2, none⟩ = some (.int .i64 (m.typ.freed f)))
      (first | (with_reducible exact kT _ d0) | (with_reducible refine kT _ ?_; with_reducible assumption))
      (first
        | (go_at_call 111; (with_reducible refine (r8_for _ _ _ _ _ hD.clkAt ok.clk).mono ?_); rintro e w' ⟨rfl, hb2⟩; rw [show m.clk.quiet (m.typ.was f) (m.typ.freed f) = m.seen f from rfl]; have d1 : Touch (· = R.tg) wo w' := d0.trans (Touch.of_below hb2); have hD2 := hD.after hb2)
        | (go_at_call 110; (with_reducible refine (r6_retype _ _ _ _ _ _ _ _ hD2.typ).mono ?_); rintro e w' ⟨rfl, ht2, hx2⟩; have hx3 := d1.trans hx2; have h2 := hD2.settyp hx2 ht2))
    obtain ⟨k0, k1, k2, k3, k4, k5, k6, k7⟩ := ptr_cells h2
    rw [HE.out]
    go_wp2_with ((go_at_call 112; (with_reducible refine (r2_clear _ _ _ _ h2.mem okt).mono ?_); rintro e w' ⟨rfl, hm5, hx5⟩))
    go_ret
    have q1 := hm.q1.2.2.2.2
    refine ⟨rfl, h2.setmem hx5 hm5 (by unfold MemS.clear; split <;> rfl), ?_⟩
    exact ((Touch.of_below hbw).trans2 hx3 (fun i _ hi => by omega)).trans2 hx5 (fun i _ ⟨j, hj, e⟩ => by have := q1 j hj; show R.e0 ≤ i; omega)
  · rw [if_neg he, if_neg he]
    have HE := Lib.hid he
    have hne : ¬ m.typ.retypeE f kd (m.seen f) = 0 := he
    go_enter Tryz.func17, Tryz.ntmps17
    go_upto_region 2 with ((go_at_call 95; (with_reducible refine (r6_ofW _ h.typ).mono ?_); rintro e w' ⟨x1, x2, rfl, hb1⟩))
    have hlb1 := Nat.lt_of_lt_of_le hlb hb1.size
    have hx := heap_new w' (.cells #[.int .i64 x1, .int .i64 x2, .int .i64 (m.typ.freed f), .int .i64 (m.typ.was f)] 158 (0, 0))
    have hbw : Below w.heap.size w (w'.alloc (.cells #[.int .i64 x1, .int .i64 x2, .int .i64 (m.typ.freed f), .int .i64 (m.typ.was f)] 158 (0, 0))) := hb1.alloc hb1.size _
    have hxg : w'.heap.size ≠ R.tg := by have := h.typ.ltg; have := hb1.size; omega
    generalize w'.alloc (.cells #[.int .i64 x1, .int .i64 x2, .int .i64 (m.typ.freed f), .int .i64 (m.typ.was f)] 158 (0, 0)) = wo at *
    generalize w'.heap.size = N at *
    have hm := h.after hbw
    clear h g0 g1 g2 g3 g4 g5 g6 g7
    have hD : RMachIs wo.drew R m room cur := hm.after ((Below.refl _ wo).drew)
    have kT : ∀ y, Touch (· = R.tg) wo y → y.cell? ⟨R.b, 4, none⟩ = some (.pointer (some ⟨R.ta, 0, none⟩)) ∧ y.cell? ⟨R.b, 1, none⟩ = some (.pointer (some ⟨R.cv, 0, none⟩)) ∧ y.cell? ⟨N, 3, none⟩ = some (.int .i64 (m.typ.was f)) ∧ y.cell? ⟨N, 2, none⟩ = some (.int .i64 (m.typ.freed f)) := fun y hy => by
      rw [cell_of (hy.at hm.box (by omega)), cell_of (hy.at hm.box (by omega)), cell_of (hy.at hx hxg), cell_of (hy.at hx hxg)]; exact ⟨rfl, rfl, rfl, rfl⟩
    have d0 : Touch (· = R.tg) wo wo.drew := (Touch.refl _ wo).drew
    go_region_held3 (fun y => y.cell? ⟨R.b, 4, none⟩ = some (.pointer (some ⟨R.ta, 0, none⟩)) ∧ y.cell? ⟨R.b, 1, none⟩ = some (.pointer (some ⟨R.cv, 0, none⟩)) ∧ y.cell? ⟨N, 3, none⟩ = some (.int .i64 (m.typ.was f)) ∧ y.cell? ⟨N, 2, none⟩ = some (.int .i64 (m.typ.freed f)))
      (first | (with_reducible exact kT _ d0) | (with_reducible refine kT _ ?_; with_reducible assumption))
      (first
        | (go_at_call 111; (with_reducible refine (r8_for _ _ _ _ _ hD.clkAt ok.clk).mono ?_); rintro e w' ⟨rfl, hb2⟩; rw [show m.clk.quiet (m.typ.was f) (m.typ.freed f) = m.seen f from rfl]; have d1 : Touch (· = R.tg) wo w' := d0.trans (Touch.of_below hb2); have hD2 := hD.after hb2)
        | (go_at_call 110; (with_reducible refine (r6_retype _ _ _ _ _ _ _ _ hD2.typ).mono ?_); rintro e w' ⟨rfl, ht2, hx2⟩; have hx3 := d1.trans hx2; have h2 := hD2.settyp hx2 ht2))
    rw [TypS.retype, if_neg HE.out] at h2
    go_wp2
    go_ret
    exact ⟨rfl, h2, (Touch.of_below hbw).trans2 hx3 (fun i _ hi => by omega)⟩
end Go.Proofs.YtmahledpcpdldaaGreat
