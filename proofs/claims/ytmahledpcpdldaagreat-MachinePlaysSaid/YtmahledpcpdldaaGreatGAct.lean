/- Several texts in one: Act25, Act25b. -/
import Derived.Test.YtmahledpcpdldaaGreatGMX
import Derived.Deep.RegionHeld3
/- Act25 -/
set_option linter.unusedVariables false
set_option linter.unusedSimpArgs false
namespace Go.Proofs.YtmahledpcpdldaaGreat
open Go.RowKit
theorem Mach.retype_clk (m : Mach) (f kd : Int) : (m.retype f kd).clk.n = m.clk.n := by unfold Mach.retype; split <;> rfl
theorem Mach.link_clk (m : Mach) (f kd : Int) : (m.link f kd).clk.n = m.clk.n := by unfold Mach.link; split <;> rfl
theorem Mach.unlink_clk (m : Mach) (f kd : Int) : (m.unlink f kd).clk.n = m.clk.n := by unfold Mach.unlink; split <;> rfl
theorem Mach.link_ok {m : Mach} (ok : m.Ok) (f kd : Int) : (m.link f kd).Ok := by
  unfold Mach.link; split
  · exact Mach.typ_ok ok (TypS.ref_ok ok.typ _)
  · exact ok
theorem Mach.unlink_ok {m : Mach} (ok : m.Ok) (f kd : Int) : (m.unlink f kd).Ok := by
  unfold Mach.unlink; split
  · exact Mach.typ_ok ok (TypS.unref_ok ok.typ _ ok.clk.t1)
  · exact ok
section
variable {a b c0 c1 c2 c3 c4 c5 : Int} {w : World} {B : MBl} {R : RB} {m : Mach} {room : Int} {x lo : Nat}
set_option maxHeartbeats 4000000 in
set_option maxRecDepth 100000 in
theorem act25_ret0 (h : Both w B R m room x lo) (ha : (Lit.int .i64 a).wf = true) : Calls Tryz.prog 10 #[.pointer (some ⟨B.b, 0, none⟩), .pointer (some ⟨R.b, 0, none⟩), .int .i64 0, .int .i64 a, .int .i64 b, .agg #[.int .i64 c0, .int .i64 c1, .int .i64 c2, .int .i64 c3, .int .i64 c4, .int .i64 c5]] w fun e w' =>
    e = .returned (.bool true) ∧ ∃ B' m', Both w' B' R m' room x lo ∧ B'.b = B.b ∧ m'.clk.n = m.clk.n ∧ Touch (fun y => lo ≤ y) w w' := by
  have hw0 : Below w.heap.size w (w.alloc (.cells #[.int .i64 c0, .int .i64 c1, .int .i64 c2, .int .i64 c3, .int .i64 c4, .int .i64 c5] 38 (0, 0))) := by (refine Touch.below0 ?_; (repeat' (first | (with_reducible exact Touch.refl _ _) | (with_reducible assumption) | (with_reducible refine Touch.drew ?_) | (with_reducible refine Touch.drewN ?_ _) | (with_reducible refine Touch.alloc ?_ _) | (with_reducible refine Touch.setCell ?_ _ _ _ ?_) | (with_reducible refine Touch.step (by assumption) ?_) | (with_reducible refine Touch.stepT (by assumption) ?_ ?_) | (intro _; first | rfl | trivial | omega | (simp; done) | (simp; omega)) | (intro _ _; first | omega | (simp; done) | (simp; omega)))))
  have hX := heap_new w (.cells #[.int .i64 c0, .int .i64 c1, .int .i64 c2, .int .i64 c3, .int .i64 c4, .int .i64 c5] 38 (0, 0))
  have h1 := h.after hw0
  have ok := h.ok
  have hlb : R.b < w.heap.size := lt_of_block h.r.box
  have hltg := h.r.typ.ltg
  have hfb := h.fr.b
  have hfe := h.fr.e
  have q0 := h.r.q0
  have e0 := h.r.e0lt
  have nX : ¬ B.wr m.clk.n.toNat w.heap.size := fun e => by have := h.wlt _ e; omega
  have okM := Mach.retype_ok ok a b
  have hn := Mach.retype_clk m a b
  have P := fun w h => mach_retype B m a b w h ok ha
  have Q := fun w h => r25_retype R m room B.cur a b w h ok
  generalize m.retype a b = M at *
  generalize m.retypeE a b = E at *
  go_enter Tryz.func10, Tryz.ntmps10
  go_wp2_with (first
    | ((go_at_call 16; (with_reducible refine (P _ h1.p.mach).mono ?_); rintro e w' ⟨rfl, hp, ht⟩); have hp2 := h1.p.own hp ht hn; have hr := h1.rkeep (Both.own ht))
    | ((go_at_call 17; (with_reducible refine (Q _ hr).mono ?_); rintro e w' ⟨rfl, hr2, ht2⟩)))
  go_ret
  exact ⟨ret_bool (by simp), B, M, h1.both hp2 ht2 hr2 okM hn, rfl, hn, (Touch.of_below hw0).trans ((h1.tlo (Both.own ht)).trans (h1.rlo ht2))⟩
set_option maxHeartbeats 4000000 in
set_option maxRecDepth 100000 in
theorem act25_ret1 (h : Both w B R m room x lo) (ha : (Lit.int .i64 a).wf = true) : Calls Tryz.prog 10 #[.pointer (some ⟨B.b, 0, none⟩), .pointer (some ⟨R.b, 0, none⟩), .int .i64 1, .int .i64 a, .int .i64 b, .agg #[.int .i64 c0, .int .i64 c1, .int .i64 c2, .int .i64 c3, .int .i64 c4, .int .i64 c5]] w fun e w' =>
    e = .returned (.bool true) ∧ ∃ B' m', Both w' B' R m' room x lo ∧ B'.b = B.b ∧ m'.clk.n = m.clk.n ∧ Touch (fun y => lo ≤ y) w w' := by
  have hw0 : Below w.heap.size w (w.alloc (.cells #[.int .i64 c0, .int .i64 c1, .int .i64 c2, .int .i64 c3, .int .i64 c4, .int .i64 c5] 38 (0, 0))) := by (refine Touch.below0 ?_; (repeat' (first | (with_reducible exact Touch.refl _ _) | (with_reducible assumption) | (with_reducible refine Touch.drew ?_) | (with_reducible refine Touch.drewN ?_ _) | (with_reducible refine Touch.alloc ?_ _) | (with_reducible refine Touch.setCell ?_ _ _ _ ?_) | (with_reducible refine Touch.step (by assumption) ?_) | (with_reducible refine Touch.stepT (by assumption) ?_ ?_) | (intro _; first | rfl | trivial | omega | (simp; done) | (simp; omega)) | (intro _ _; first | omega | (simp; done) | (simp; omega)))))
  have hX := heap_new w (.cells #[.int .i64 c0, .int .i64 c1, .int .i64 c2, .int .i64 c3, .int .i64 c4, .int .i64 c5] 38 (0, 0))
  have h1 := h.after hw0
  have ok := h.ok
  have hlb : R.b < w.heap.size := lt_of_block h.r.box
  have hltg := h.r.typ.ltg
  have hfb := h.fr.b
  have hfe := h.fr.e
  have q0 := h.r.q0
  have e0 := h.r.e0lt
  have nX : ¬ B.wr m.clk.n.toNat w.heap.size := fun e => by have := h.wlt _ e; omega
  have okM := Mach.retype_ok ok a b
  have hn := Mach.retype_clk m a b
  have P := fun w h => mach_retype B m a b w h ok ha
  have Q := fun w h => r25_retype R m room B.cur a b w h ok
  generalize m.retype a b = M at *
  generalize m.retypeE a b = E at *
  go_enter Tryz.func10, Tryz.ntmps10
  go_wp2_with (first
    | ((go_at_call 16; (with_reducible refine (P _ h1.p.mach).mono ?_); rintro e w' ⟨rfl, hp, ht⟩); have hp2 := h1.p.own hp ht hn; have hr := h1.rkeep (Both.own ht))
    | ((go_at_call 17; (with_reducible refine (Q _ hr).mono ?_); rintro e w' ⟨rfl, hr2, ht2⟩)))
  go_ret
  exact ⟨ret_bool (by simp), B, M, h1.both hp2 ht2 hr2 okM hn, rfl, hn, (Touch.of_below hw0).trans ((h1.tlo (Both.own ht)).trans (h1.rlo ht2))⟩
set_option maxHeartbeats 4000000 in
set_option maxRecDepth 100000 in
theorem act25_link (h : Both w B R m room x lo) : Calls Tryz.prog 10 #[.pointer (some ⟨B.b, 0, none⟩), .pointer (some ⟨R.b, 0, none⟩), .int .i64 2, .int .i64 a, .int .i64 b, .agg #[.int .i64 c0, .int .i64 c1, .int .i64 c2, .int .i64 c3, .int .i64 c4, .int .i64 c5]] w fun e w' =>
    e = .returned (.bool true) ∧ ∃ B' m', Both w' B' R m' room x lo ∧ B'.b = B.b ∧ m'.clk.n = m.clk.n ∧ Touch (fun y => lo ≤ y) w w' := by
  have hw0 : Below w.heap.size w (w.alloc (.cells #[.int .i64 c0, .int .i64 c1, .int .i64 c2, .int .i64 c3, .int .i64 c4, .int .i64 c5] 38 (0, 0))) := by (refine Touch.below0 ?_; (repeat' (first | (with_reducible exact Touch.refl _ _) | (with_reducible assumption) | (with_reducible refine Touch.drew ?_) | (with_reducible refine Touch.drewN ?_ _) | (with_reducible refine Touch.alloc ?_ _) | (with_reducible refine Touch.setCell ?_ _ _ _ ?_) | (with_reducible refine Touch.step (by assumption) ?_) | (with_reducible refine Touch.stepT (by assumption) ?_ ?_) | (intro _; first | rfl | trivial | omega | (simp; done) | (simp; omega)) | (intro _ _; first | omega | (simp; done) | (simp; omega)))))
  have hX := heap_new w (.cells #[.int .i64 c0, .int .i64 c1, .int .i64 c2, .int .i64 c3, .int .i64 c4, .int .i64 c5] 38 (0, 0))
  have h1 := h.after hw0
  have ok := h.ok
  have hlb : R.b < w.heap.size := lt_of_block h.r.box
  have hltg := h.r.typ.ltg
  have hfb := h.fr.b
  have hfe := h.fr.e
  have q0 := h.r.q0
  have e0 := h.r.e0lt
  have nX : ¬ B.wr m.clk.n.toNat w.heap.size := fun e => by have := h.wlt _ e; omega
  have okM := Mach.link_ok ok c0 c2
  have hn := Mach.link_clk m c0 c2
  have P := fun w h => mach_link B m c0 c1 c2 c3 c4 c5 w h ok
  have Q := fun w h => r25_link R m room B.cur c0 c1 c2 c3 c4 c5 w h ok
  generalize m.link c0 c2 = M at *
  generalize m.linkE c0 c2 = E at *
  go_enter Tryz.func10, Tryz.ntmps10
  go_upto_region 6 with (fail)
  generalize w.alloc (.cells #[.int .i64 c0, .int .i64 c1, .int .i64 c2, .int .i64 c3, .int .i64 c4, .int .i64 c5] 38 (0, 0)) = W at *
  have kT : ∀ y, Touch (fun z => B.wr m.clk.n.toNat z ∨ z = R.tg) W y → y.cell? ⟨w.heap.size, 0, none⟩ = some (.int .i64 c0) ∧ y.cell? ⟨w.heap.size, 1, none⟩ = some (.int .i64 c1) ∧ y.cell? ⟨w.heap.size, 2, none⟩ = some (.int .i64 c2) ∧ y.cell? ⟨w.heap.size, 3, none⟩ = some (.int .i64 c3) ∧ y.cell? ⟨w.heap.size, 4, none⟩ = some (.int .i64 c4) ∧ y.cell? ⟨w.heap.size, 5, none⟩ = some (.int .i64 c5) := fun y hT => by
    have q := hT.at hX (fun e => by
      rcases e with e | e
      · exact nX e
      · omega)
    have z0 := cell_of q 0; have z1 := cell_of q 1; have z2 := cell_of q 2; have z3 := cell_of q 3; have z4 := cell_of q 4; have z5 := cell_of q 5
    dsimp at z0 z1 z2 z3 z4 z5
    exact ⟨z0, z1, z2, z3, z4, z5⟩
  have b0 : Below W.heap.size W W.drew := (Below.refl _ W).drew
  have d0 : Touch (fun z => B.wr m.clk.n.toNat z ∨ z = R.tg) W W.drew := Touch.of_below b0
  have hD := h1.after b0
  go_region_held3 (fun y => y.cell? ⟨w.heap.size, 0, none⟩ = some (.int .i64 c0) ∧ y.cell? ⟨w.heap.size, 1, none⟩ = some (.int .i64 c1) ∧ y.cell? ⟨w.heap.size, 2, none⟩ = some (.int .i64 c2) ∧ y.cell? ⟨w.heap.size, 3, none⟩ = some (.int .i64 c3) ∧ y.cell? ⟨w.heap.size, 4, none⟩ = some (.int .i64 c4) ∧ y.cell? ⟨w.heap.size, 5, none⟩ = some (.int .i64 c5)) (first | (with_reducible exact kT _ d0) | (with_reducible refine kT _ ?_; with_reducible assumption))
    (first
      | (go_at_call 71; (with_reducible refine (P _ hD.p.mach).mono ?_); rintro e w' ⟨rfl, hp, ht⟩; have hp2 := hD.p.own hp ht hn; have hr := hD.rkeep (Both.own ht); have t1 : Touch (fun z => B.wr m.clk.n.toNat z ∨ z = R.tg) W w' := d0.trans (ht.mono (fun _ _ hx => .inl (.inl hx))))
      | (go_at_call 72; (with_reducible refine (Q _ hr).mono ?_); rintro e w' ⟨rfl, hr2, ht2⟩; have t2 : Touch (fun z => B.wr m.clk.n.toNat z ∨ z = R.tg) W w' := t1.trans (ht2.mono (fun _ _ hx => .inr hx)); have h2 := hD.both hp2 (ht2.mono (fun i _ (hi : i = R.tg) => by subst hi; exact e0.2.1)) hr2 okM hn))
  go_wp2
  go_ret
  refine ⟨ret_bool (by simp), B, M, h2, rfl, hn, (Touch.of_below hw0).trans (t2.mono (fun i _ hi => ?_))⟩
  rcases hi with hi | hi
  · exact h.wlo i hi
  · have := h.lo3; subst hi; omega
set_option maxHeartbeats 4000000 in
set_option maxRecDepth 100000 in
theorem act25_unlink (h : Both w B R m room x lo) : Calls Tryz.prog 10 #[.pointer (some ⟨B.b, 0, none⟩), .pointer (some ⟨R.b, 0, none⟩), .int .i64 3, .int .i64 a, .int .i64 b, .agg #[.int .i64 c0, .int .i64 c1, .int .i64 c2, .int .i64 c3, .int .i64 c4, .int .i64 c5]] w fun e w' =>
    e = .returned (.bool true) ∧ ∃ B' m', Both w' B' R m' room x lo ∧ B'.b = B.b ∧ m'.clk.n = m.clk.n ∧ Touch (fun y => lo ≤ y) w w' := by
  have hw0 : Below w.heap.size w (w.alloc (.cells #[.int .i64 c0, .int .i64 c1, .int .i64 c2, .int .i64 c3, .int .i64 c4, .int .i64 c5] 38 (0, 0))) := by (refine Touch.below0 ?_; (repeat' (first | (with_reducible exact Touch.refl _ _) | (with_reducible assumption) | (with_reducible refine Touch.drew ?_) | (with_reducible refine Touch.drewN ?_ _) | (with_reducible refine Touch.alloc ?_ _) | (with_reducible refine Touch.setCell ?_ _ _ _ ?_) | (with_reducible refine Touch.step (by assumption) ?_) | (with_reducible refine Touch.stepT (by assumption) ?_ ?_) | (intro _; first | rfl | trivial | omega | (simp; done) | (simp; omega)) | (intro _ _; first | omega | (simp; done) | (simp; omega)))))
  have hX := heap_new w (.cells #[.int .i64 c0, .int .i64 c1, .int .i64 c2, .int .i64 c3, .int .i64 c4, .int .i64 c5] 38 (0, 0))
  have h1 := h.after hw0
  have ok := h.ok
  have hlb : R.b < w.heap.size := lt_of_block h.r.box
  have hltg := h.r.typ.ltg
  have hfb := h.fr.b
  have hfe := h.fr.e
  have q0 := h.r.q0
  have e0 := h.r.e0lt
  have nX : ¬ B.wr m.clk.n.toNat w.heap.size := fun e => by have := h.wlt _ e; omega
  have okM := Mach.unlink_ok ok c0 c2
  have hn := Mach.unlink_clk m c0 c2
  have P := fun w h => mach_unlink B m c0 c1 c2 c3 c4 c5 w h ok
  have Q := fun w h => r25_unlink R m room B.cur c0 c1 c2 c3 c4 c5 w h ok
  generalize m.unlink c0 c2 = M at *
  generalize m.unlinkE c0 c2 = E at *
  go_enter Tryz.func10, Tryz.ntmps10
  go_upto_region 8 with (fail)
  generalize w.alloc (.cells #[.int .i64 c0, .int .i64 c1, .int .i64 c2, .int .i64 c3, .int .i64 c4, .int .i64 c5] 38 (0, 0)) = W at *
  have kT : ∀ y, Touch (fun z => B.wr m.clk.n.toNat z ∨ z = R.tg) W y → y.cell? ⟨w.heap.size, 0, none⟩ = some (.int .i64 c0) ∧ y.cell? ⟨w.heap.size, 1, none⟩ = some (.int .i64 c1) ∧ y.cell? ⟨w.heap.size, 2, none⟩ = some (.int .i64 c2) ∧ y.cell? ⟨w.heap.size, 3, none⟩ = some (.int .i64 c3) ∧ y.cell? ⟨w.heap.size, 4, none⟩ = some (.int .i64 c4) ∧ y.cell? ⟨w.heap.size, 5, none⟩ = some (.int .i64 c5) := fun y hT => by
    have q := hT.at hX (fun e => by
      rcases e with e | e
      · exact nX e
      · omega)
    have z0 := cell_of q 0; have z1 := cell_of q 1; have z2 := cell_of q 2; have z3 := cell_of q 3; have z4 := cell_of q 4; have z5 := cell_of q 5
    dsimp at z0 z1 z2 z3 z4 z5
    exact ⟨z0, z1, z2, z3, z4, z5⟩
  have b0 : Below W.heap.size W W.drew := (Below.refl _ W).drew
  have d0 : Touch (fun z => B.wr m.clk.n.toNat z ∨ z = R.tg) W W.drew := Touch.of_below b0
  have hD := h1.after b0
  go_region_held3 (fun y => y.cell? ⟨w.heap.size, 0, none⟩ = some (.int .i64 c0) ∧ y.cell? ⟨w.heap.size, 1, none⟩ = some (.int .i64 c1) ∧ y.cell? ⟨w.heap.size, 2, none⟩ = some (.int .i64 c2) ∧ y.cell? ⟨w.heap.size, 3, none⟩ = some (.int .i64 c3) ∧ y.cell? ⟨w.heap.size, 4, none⟩ = some (.int .i64 c4) ∧ y.cell? ⟨w.heap.size, 5, none⟩ = some (.int .i64 c5)) (first | (with_reducible exact kT _ d0) | (with_reducible refine kT _ ?_; with_reducible assumption))
    (first
      | (go_at_call 73; (with_reducible refine (P _ hD.p.mach).mono ?_); rintro e w' ⟨rfl, hp, ht⟩; have hp2 := hD.p.own hp ht hn; have hr := hD.rkeep (Both.own ht); have t1 : Touch (fun z => B.wr m.clk.n.toNat z ∨ z = R.tg) W w' := d0.trans (ht.mono (fun _ _ hx => .inl (.inl hx))))
      | (go_at_call 74; (with_reducible refine (Q _ hr).mono ?_); rintro e w' ⟨rfl, hr2, ht2⟩; have t2 : Touch (fun z => B.wr m.clk.n.toNat z ∨ z = R.tg) W w' := t1.trans (ht2.mono (fun _ _ hx => .inr hx)); have h2 := hD.both hp2 (ht2.mono (fun i _ (hi : i = R.tg) => by subst hi; exact e0.2.1)) hr2 okM hn))
  go_wp2
  go_ret
  refine ⟨ret_bool (by simp), B, M, h2, rfl, hn, (Touch.of_below hw0).trans (t2.mono (fun i _ hi => ?_))⟩
  rcases hi with hi | hi
  · exact h.wlo i hi
  · have := h.lo3; subst hi; omega
set_option maxHeartbeats 4000000 in
set_option maxRecDepth 100000 in
theorem act25_flush (h : Both w B R m room x lo) : Calls Tryz.prog 10 #[.pointer (some ⟨B.b, 0, none⟩), .pointer (some ⟨R.b, 0, none⟩), .int .i64 4, .int .i64 a, .int .i64 b, .agg #[.int .i64 c0, .int .i64 c1, .int .i64 c2, .int .i64 c3, .int .i64 c4, .int .i64 c5]] w fun e w' =>
    e = .returned (.bool true) ∧ ∃ B' m', Both w' B' R m' room x lo ∧ B'.b = B.b ∧ m'.clk.n = m.clk.n ∧ Touch (fun y => lo ≤ y) w w' := by
  have hw0 : Below w.heap.size w (w.alloc (.cells #[.int .i64 c0, .int .i64 c1, .int .i64 c2, .int .i64 c3, .int .i64 c4, .int .i64 c5] 38 (0, 0))) := by (refine Touch.below0 ?_; (repeat' (first | (with_reducible exact Touch.refl _ _) | (with_reducible assumption) | (with_reducible refine Touch.drew ?_) | (with_reducible refine Touch.drewN ?_ _) | (with_reducible refine Touch.alloc ?_ _) | (with_reducible refine Touch.setCell ?_ _ _ _ ?_) | (with_reducible refine Touch.step (by assumption) ?_) | (with_reducible refine Touch.stepT (by assumption) ?_ ?_) | (intro _; first | rfl | trivial | omega | (simp; done) | (simp; omega)) | (intro _ _; first | omega | (simp; done) | (simp; omega)))))
  have hX := heap_new w (.cells #[.int .i64 c0, .int .i64 c1, .int .i64 c2, .int .i64 c3, .int .i64 c4, .int .i64 c5] 38 (0, 0))
  have h1 := h.after hw0
  have ok := h.ok
  have hlb : R.b < w.heap.size := lt_of_block h.r.box
  have hltg := h.r.typ.ltg
  have hfb := h.fr.b
  have hfe := h.fr.e
  have q0 := h.r.q0
  have e0 := h.r.e0lt
  have nX : ¬ B.wr m.clk.n.toNat w.heap.size := fun e => by have := h.wlt _ e; omega
  have okM := Mach.clk_ok ok (Clk.flush_ok ok.clk a) (Clk.flush_n _ a)
  have hn := Clk.flush_n m.clk a
  have P := fun w h => mach_flushX B m a w h ok
  have Q := fun w h => r25_flush R m room B.cur a w h ok
  generalize m.clk.flush a = M at *
  generalize m.clk.can a = E at *
  go_enter Tryz.func10, Tryz.ntmps10
  go_wp2_with (first
    | ((go_at_call 75; (with_reducible refine (P _ h1.p.mach).mono ?_); rintro e w' ⟨rfl, hp, ht⟩); have hp2 := h1.p.own hp ht hn; have hr := h1.rkeep (Both.own ht))
    | ((go_at_call 76; (with_reducible refine (Q _ hr).mono ?_); rintro e w' ⟨rfl, hr2, ht2⟩)))
  go_ret
  exact ⟨ret_bool (by simp), B, _, h1.both hp2 ht2 hr2 okM hn, rfl, hn, (Touch.of_below hw0).trans ((h1.tlo (Both.own ht)).trans (h1.rlo ht2))⟩
set_option maxHeartbeats 4000000 in
set_option maxRecDepth 100000 in
theorem act25_cur (h : Both w B R m room x lo) : Calls Tryz.prog 10 #[.pointer (some ⟨B.b, 0, none⟩), .pointer (some ⟨R.b, 0, none⟩), .int .i64 5, .int .i64 a, .int .i64 b, .agg #[.int .i64 c0, .int .i64 c1, .int .i64 c2, .int .i64 c3, .int .i64 c4, .int .i64 c5]] w fun e w' =>
    e = .returned (.bool true) ∧ ∃ B' m', Both w' B' R m' room x lo ∧ B'.b = B.b ∧ m'.clk.n = m.clk.n ∧ Touch (fun y => lo ≤ y) w w' := by
  have hw0 : Below w.heap.size w (w.alloc (.cells #[.int .i64 c0, .int .i64 c1, .int .i64 c2, .int .i64 c3, .int .i64 c4, .int .i64 c5] 38 (0, 0))) := by (refine Touch.below0 ?_; (repeat' (first | (with_reducible exact Touch.refl _ _) | (with_reducible assumption) | (with_reducible refine Touch.drew ?_) | (with_reducible refine Touch.drewN ?_ _) | (with_reducible refine Touch.alloc ?_ _) | (with_reducible refine Touch.setCell ?_ _ _ _ ?_) | (with_reducible refine Touch.step (by assumption) ?_) | (with_reducible refine Touch.stepT (by assumption) ?_ ?_) | (intro _; first | rfl | trivial | omega | (simp; done) | (simp; omega)) | (intro _ _; first | omega | (simp; done) | (simp; omega)))))
  have hX := heap_new w (.cells #[.int .i64 c0, .int .i64 c1, .int .i64 c2, .int .i64 c3, .int .i64 c4, .int .i64 c5] 38 (0, 0))
  have h1 := h.after hw0
  have ok := h.ok
  have hlb : R.b < w.heap.size := lt_of_block h.r.box
  have hltg := h.r.typ.ltg
  have hfb := h.fr.b
  have hfe := h.fr.e
  have q0 := h.r.q0
  have e0 := h.r.e0lt
  have nX : ¬ B.wr m.clk.n.toNat w.heap.size := fun e => by have := h.wlt _ e; omega
  have P := fun w h => mach_setcur B m a b w h ok
  have Q := fun w h => r25_setcur R m room B.cur a b w h ok
  go_enter Tryz.func10, Tryz.ntmps10
  go_wp2_with (first
    | ((go_at_call 77; (with_reducible refine (P _ h1.p).mono ?_); rintro e w' ⟨rfl, hp, ht⟩); have ht1 : Touch (B.wr m.clk.n.toNat) _ w' := ht.mono (fun _ _ hx => .inr hx); have hr := h1.rkeep ht1)
    | ((go_at_call 78; (with_reducible refine (Q _ hr).mono ?_); rintro e w' ⟨rfl, hr2, ht2⟩)))
  go_ret
  exact ⟨ret_bool (by simp), curB m B a b, m, h1.bothC hp ht2 hr2, rfl, rfl, (Touch.of_below hw0).trans ((h1.tlo ht1).trans (h1.rlo ht2))⟩
end
end Go.Proofs.YtmahledpcpdldaaGreat
/- Act25b -/
set_option linter.unusedVariables false
set_option linter.unusedSimpArgs false
namespace Go.Proofs.YtmahledpcpdldaaGreat
open Go.RowKit
section
variable {a b c0 c1 c2 c3 c4 c5 : Int} {w w' : World} {B : MBl} {R : RB} {m : Mach} {room : Int} {x lo : Nat}
theorem Touch.wcb (h : Touch (· = B.cb) w w') : Touch (fun y => B.own y) w w' := h.mono (fun _ _ hx => .inr (.inl hx))
/-- What any act on both may write. -/
def MBl.wrR (B : MBl) (R : RB) (n z : Nat) : Prop := B.wr n z ∨ R.e0 ≤ z
theorem Touch.wrL {n : Nat} (h : Touch (fun y => B.own y) w w') : Touch (B.wrR R n) w w' := h.mono (fun _ _ hx => .inl (.inl hx))
theorem Touch.wrG {n : Nat} (h : Touch (fun y => R.e0 ≤ y) w w') : Touch (B.wrR R n) w w' := h.mono (fun _ _ hx => .inr hx)
theorem Both.wrlo (h : Both w B R m room x lo) {n : Nat} (hn : n = m.clk.n.toNat) {w1 w2 : World} (ht : Touch (B.wrR R n) w1 w2) : Touch (fun y => lo ≤ y) w1 w2 := ht.mono (fun i _ hi => by
  subst hn
  rcases hi with hi | hi
  · exact h.wlo i hi
  · exact Nat.le_trans h.lo3 hi)
set_option maxHeartbeats 4000000 in
set_option maxRecDepth 100000 in
theorem act25_clock (h : Both w B R m room x lo) : Calls Tryz.prog 10 #[.pointer (some ⟨B.b, 0, none⟩), .pointer (some ⟨R.b, 0, none⟩), .int .i64 6, .int .i64 a, .int .i64 b, .agg #[.int .i64 c0, .int .i64 c1, .int .i64 c2, .int .i64 c3, .int .i64 c4, .int .i64 c5]] w fun e w' =>
    e = .returned (.bool true) ∧ ∃ B' m', Both w' B' R m' room x lo ∧ B'.b = B.b ∧ m'.clk.n = m.clk.n ∧ Touch (fun y => lo ≤ y) w w' := by
  have hw0 : Below w.heap.size w (w.alloc (.cells #[.int .i64 c0, .int .i64 c1, .int .i64 c2, .int .i64 c3, .int .i64 c4, .int .i64 c5] 38 (0, 0))) := by (refine Touch.below0 ?_; (repeat' (first | (with_reducible exact Touch.refl _ _) | (with_reducible assumption) | (with_reducible refine Touch.drew ?_) | (with_reducible refine Touch.drewN ?_ _) | (with_reducible refine Touch.alloc ?_ _) | (with_reducible refine Touch.setCell ?_ _ _ _ ?_) | (with_reducible refine Touch.step (by assumption) ?_) | (with_reducible refine Touch.stepT (by assumption) ?_ ?_) | (intro _; first | rfl | trivial | omega | (simp; done) | (simp; omega)) | (intro _ _; first | omega | (simp; done) | (simp; omega)))))
  have hX := heap_new w (.cells #[.int .i64 c0, .int .i64 c1, .int .i64 c2, .int .i64 c3, .int .i64 c4, .int .i64 c5] 38 (0, 0))
  have h1 := h.after hw0
  have ok := h.ok
  have hlb : R.b < w.heap.size := lt_of_block h.r.box
  have hltg := h.r.typ.ltg
  have hfb := h.fr.b
  have hfe := h.fr.e
  have q0 := h.r.q0
  have e0 := h.r.e0lt
  have nX : ¬ B.wr m.clk.n.toNat w.heap.size := fun e => by have := h.wlt _ e; omega
  have hn1 := Clk.step_n m.clk a
  have hn2 := (Clk.enter_n (m.clk.step a) a).trans hn1
  have ok1 := Mach.clk_ok ok (Clk.step_ok ok.clk a) hn1
  have ok2 := Mach.clk_ok ok1 (Clk.enter_ok ok1.clk a) (Clk.enter_n (m.clk.step a) a)
  have P1 := fun w h => clk_step B.cb m.clk a w h ok.clk
  have Q1 := fun w h => r3_stepB R.cv R.b1 R.b2 R.b3 R.c1 R.c2 R.c3 m.clk a w h ok.clk
  have P2 := fun w h => clk_enter B.cb (m.clk.step a) a w h ok1.clk
  have Q2 := fun w h => r3_enterB R.cv R.b1 R.b2 R.b3 R.c1 R.c2 R.c3 (m.clk.step a) a w h ok1.clk
  have hcb : ∀ k, (k = R.cv ∨ k = R.b1 ∨ k = R.b2 ∨ k = R.b3) → R.e0 ≤ k := fun k hk => by omega
  generalize hC2 : (m.clk.step a).enter a = C2 at *
  generalize hC1 : m.clk.step a = C1 at *
  generalize m.clk.stepE a = E1 at *
  generalize C1.can a = E2 at *
  go_enter Tryz.func10, Tryz.ntmps10
  go_upto_region 16 with (fail)
  generalize w.alloc (.cells #[.int .i64 c0, .int .i64 c1, .int .i64 c2, .int .i64 c3, .int .i64 c4, .int .i64 c5] 38 (0, 0)) = W at *
  have hbx := h1.r.box
  have nR : ¬ B.wrR R m.clk.n.toNat R.b := fun e => by
    rcases e with e | e
    · have := h.wlt _ e; omega
    · omega
  have kT : ∀ y, Touch (B.wrR R m.clk.n.toNat) W y → y.cell? ⟨R.b, 1, none⟩ = some (.pointer (some ⟨R.cv, 0, none⟩)) := fun y hT => by
    rw [cell_of (hT.at hbx nR)]; rfl
  have b0 : Below W.heap.size W W.drew := (Below.refl _ W).drew
  have d0 : Touch (B.wrR R m.clk.n.toNat) W W.drew := Touch.of_below b0
  have hD := h1.after b0
  go_region_held3 (fun y => y.cell? ⟨R.b, 1, none⟩ = some (.pointer (some ⟨R.cv, 0, none⟩))) (first | (with_reducible exact kT _ d0) | (with_reducible refine kT _ ?_; with_reducible assumption))
    (first
      | ((go_at_call 79; (with_reducible refine (mach_clock _ _ _ hD.p.mach).mono ?_); rintro e w' ⟨rfl, rfl⟩))
      | (go_at_call 80; (with_reducible refine (P1 _ hD.p.mach.clk).mono ?_); rintro e w' ⟨rfl, hp, ht⟩; have hp1 := hD.p.own (hD.p.mach.setclk ht hp hn1) ht.wcb hn1; have hr := hD.rkeep (Both.own ht.wcb); have t1 : Touch (B.wrR R m.clk.n.toNat) W w' := d0.trans ht.wcb.wrL)
      | (go_at_call 81; (with_reducible refine (Q1 _ hr.clk).mono ?_); rintro e w' ⟨rfl, hr2, ht2⟩; have h2 := hD.both hp1 (ht2.mono (fun k _ hk => hcb k hk)) (hr.setclk ht2 hr2 hn1) ok1 hn1; have t2 : Touch (B.wrR R m.clk.n.toNat) W w' := t1.trans (ht2.mono (fun k _ hk => hcb k hk)).wrG)
      | ((go_at_call 79; (with_reducible refine (mach_clock _ _ _ h2.p.mach).mono ?_); rintro e w' ⟨rfl, rfl⟩))
      | (go_at_call 82; (with_reducible refine (P2 _ h2.p.mach.clk).mono ?_); rintro e w' ⟨rfl, hq, ht3⟩; have hp3 := h2.p.own (h2.p.mach.setclk ht3 hq (hn2.trans hn1.symm)) ht3.wcb (hn2.trans hn1.symm); have hr3 := h2.rkeep (Both.own ht3.wcb); have t3 : Touch (B.wrR R m.clk.n.toNat) W w' := t2.trans ht3.wcb.wrL)
      | (go_at_call 83; (with_reducible refine (Q2 _ hr3.clk).mono ?_); rintro e w' ⟨rfl, hr4, ht4⟩; have h4 := h2.both hp3 (ht4.mono (fun k _ hk => hcb k hk)) (hr3.setclk ht4 hr4 (hn2.trans hn1.symm)) ok2 (hn2.trans hn1.symm); have t4 : Touch (B.wrR R m.clk.n.toNat) W w' := t3.trans (ht4.mono (fun k _ hk => hcb k hk)).wrG))
  all_goals
    go_wp2
    go_ret
    exact ⟨ret_bool (by simp), B, _, h4, rfl, hn2, (Touch.of_below hw0).trans (h.wrlo rfl t4)⟩
set_option maxHeartbeats 4000000 in
set_option maxRecDepth 100000 in
theorem act25_untype (h : Both w B R m room x lo) : Calls Tryz.prog 10 #[.pointer (some ⟨B.b, 0, none⟩), .pointer (some ⟨R.b, 0, none⟩), .int .i64 7, .int .i64 a, .int .i64 b, .agg #[.int .i64 c0, .int .i64 c1, .int .i64 c2, .int .i64 c3, .int .i64 c4, .int .i64 c5]] w fun e w' =>
    e = .returned (.bool true) ∧ ∃ B' m', Both w' B' R m' room x lo ∧ B'.b = B.b ∧ m'.clk.n = m.clk.n ∧ Touch (fun y => lo ≤ y) w w' := by
  have hw0 : Below w.heap.size w (w.alloc (.cells #[.int .i64 c0, .int .i64 c1, .int .i64 c2, .int .i64 c3, .int .i64 c4, .int .i64 c5] 38 (0, 0))) := by (refine Touch.below0 ?_; (repeat' (first | (with_reducible exact Touch.refl _ _) | (with_reducible assumption) | (with_reducible refine Touch.drew ?_) | (with_reducible refine Touch.drewN ?_ _) | (with_reducible refine Touch.alloc ?_ _) | (with_reducible refine Touch.setCell ?_ _ _ _ ?_) | (with_reducible refine Touch.step (by assumption) ?_) | (with_reducible refine Touch.stepT (by assumption) ?_ ?_) | (intro _; first | rfl | trivial | omega | (simp; done) | (simp; omega)) | (intro _ _; first | omega | (simp; done) | (simp; omega)))))
  have hX := heap_new w (.cells #[.int .i64 c0, .int .i64 c1, .int .i64 c2, .int .i64 c3, .int .i64 c4, .int .i64 c5] 38 (0, 0))
  have h1 := h.after hw0
  have ok := h.ok
  have hlb : R.b < w.heap.size := lt_of_block h.r.box
  have hltg := h.r.typ.ltg
  have hfb := h.fr.b
  have hfe := h.fr.e
  have q0 := h.r.q0
  have e0 := h.r.e0lt
  have nX : ¬ B.wr m.clk.n.toNat w.heap.size := fun e => by have := h.wlt _ e; omega
  have okM := fun q => Mach.typ_ok ok (TypS.untype_ok ok.typ a q ok.clk.t1)
  have P := fun q w h => typ_untype B.ta B.tg B.tcap m.typ a m.clk.now q w h ok.typ
  have Q := fun q w h => r6_untype R.ta R.tg R.tcap m.typ a m.clk.now q w h
  have hcv : R.cv ≠ R.tg := by have := h.r.q2; have := h.r.q3; omega
  have hne : m.clk.nowOf = m.clk.now := if_neg (by have := ok.n1; omega)
  generalize m.typ.untypeE a = E at *
  go_enter Tryz.func10, Tryz.ntmps10
  go_upto_region 18 with (fail)
  generalize w.alloc (.cells #[.int .i64 c0, .int .i64 c1, .int .i64 c2, .int .i64 c3, .int .i64 c4, .int .i64 c5] 38 (0, 0)) = W at *
  have hbx := h1.r.box
  have hcx := h1.r.clk.box
  have kT : ∀ y, Touch (fun z => B.wr m.clk.n.toNat z ∨ z = R.tg) W y → y.cell? ⟨R.b, 4, none⟩ = some (.pointer (some ⟨R.ta, 0, none⟩)) ∧ y.cell? ⟨R.b, 1, none⟩ = some (.pointer (some ⟨R.cv, 0, none⟩)) ∧ y.cell? ⟨R.cv, 0, none⟩ = some (.int .i64 m.clk.now) := fun y hT => by
    have n1 : ¬ (B.wr m.clk.n.toNat R.b ∨ R.b = R.tg) := fun e => by
      rcases e with e | e
      · have := h.wlt _ e; omega
      · omega
    have n2 : ¬ (B.wr m.clk.n.toNat R.cv ∨ R.cv = R.tg) := fun e => by
      rcases e with e | e
      · have := h.wlt _ e; omega
      · exact hcv e
    rw [cell_of (hT.at hbx n1), cell_of (hT.at hbx n1), cell_of (hT.at hcx n2)]; exact ⟨rfl, rfl, rfl⟩
  have b0 : Below W.heap.size W W.drew := (Below.refl _ W).drew
  have d0 : Touch (fun z => B.wr m.clk.n.toNat z ∨ z = R.tg) W W.drew := Touch.of_below b0
  have hD := h1.after b0
  go_region_held3 (fun y => y.cell? ⟨R.b, 4, none⟩ = some (.pointer (some ⟨R.ta, 0, none⟩)) ∧ y.cell? ⟨R.b, 1, none⟩ = some (.pointer (some ⟨R.cv, 0, none⟩)) ∧ y.cell? ⟨R.cv, 0, none⟩ = some (.int .i64 m.clk.now))
    (first | (with_reducible exact kT _ d0) | (with_reducible refine kT _ ?_; with_reducible assumption))
    (first
      | ((go_at_call 84; (with_reducible refine (mach_typ _ _ _ hD.p.mach).mono ?_); rintro e w' ⟨rfl, rfl⟩))
      | ((go_at_call 86; (with_reducible refine (mach_now _ _ _ hD.p.mach).mono ?_); rintro e w' ⟨rfl, rfl⟩); rw [hne])
      | (go_at_call 85; (with_reducible refine (P _ _ hD.p.mach.typ).mono ?_); rintro e w' ⟨rfl, hp, ht⟩; have hp1 := hD.p.own (hD.p.mach.settyp ht hp) (ht.mono (fun _ _ hx => .inr (.inr hx))) rfl; have ht1 : Touch (B.wr m.clk.n.toNat) _ w' := ht.mono (fun _ _ hx => .inl (.inr (.inr hx))); have hr := hD.rkeep ht1; have t1 : Touch (fun z => B.wr m.clk.n.toNat z ∨ z = R.tg) W w' := d0.trans (ht1.mono (fun _ _ hx => .inl hx)))
      | (go_at_call 87; (with_reducible refine (Q _ _ hr.typ).mono ?_); rintro e w' ⟨rfl, hr2, ht2⟩; have h2 := hD.both hp1 (ht2.mono (fun i _ (hi : i = R.tg) => by subst hi; exact e0.2.1)) (hr.settyp ht2 hr2) (okM _) rfl; have t2 : Touch (fun z => B.wr m.clk.n.toNat z ∨ z = R.tg) W w' := t1.trans (ht2.mono (fun _ _ hx => .inr hx))))
  go_wp2
  go_ret
  refine ⟨ret_bool (by simp), B, _, h2, rfl, rfl, (Touch.of_below hw0).trans (t2.mono (fun i _ hi => ?_))⟩
  rcases hi with hi | hi
  · exact h.wlo i hi
  · have := h.lo3; subst hi; omega
theorem wrap64 (z : Int) : 0 ≤ IntKind.u64.wrap z ∧ IntKind.u64.wrap z < 18446744073709551616 := by
  simp only [IntKind.wrap, IntKind.bits, IntKind.signed]; simp; omega
set_option maxHeartbeats 4000000 in
set_option maxRecDepth 100000 in
theorem act25_store (h : Both w B R m room x lo) : Calls Tryz.prog 10 #[.pointer (some ⟨B.b, 0, none⟩), .pointer (some ⟨R.b, 0, none⟩), .int .i64 8, .int .i64 a, .int .i64 b, .agg #[.int .i64 c0, .int .i64 c1, .int .i64 c2, .int .i64 c3, .int .i64 c4, .int .i64 c5]] w fun e w' =>
    e = .returned (.bool true) ∧ ∃ B' m', Both w' B' R m' room x lo ∧ B'.b = B.b ∧ m'.clk.n = m.clk.n ∧ Touch (fun y => lo ≤ y) w w' := by
  have hw0 : Below w.heap.size w (w.alloc (.cells #[.int .i64 c0, .int .i64 c1, .int .i64 c2, .int .i64 c3, .int .i64 c4, .int .i64 c5] 38 (0, 0))) := by (refine Touch.below0 ?_; (repeat' (first | (with_reducible exact Touch.refl _ _) | (with_reducible assumption) | (with_reducible refine Touch.drew ?_) | (with_reducible refine Touch.drewN ?_ _) | (with_reducible refine Touch.alloc ?_ _) | (with_reducible refine Touch.setCell ?_ _ _ _ ?_) | (with_reducible refine Touch.step (by assumption) ?_) | (with_reducible refine Touch.stepT (by assumption) ?_ ?_) | (intro _; first | rfl | trivial | omega | (simp; done) | (simp; omega)) | (intro _ _; first | omega | (simp; done) | (simp; omega)))))
  have hX := heap_new w (.cells #[.int .i64 c0, .int .i64 c1, .int .i64 c2, .int .i64 c3, .int .i64 c4, .int .i64 c5] 38 (0, 0))
  have h1 := h.after hw0
  have ok := h.ok
  have hlb : R.b < w.heap.size := lt_of_block h.r.box
  have hltg := h.r.typ.ltg
  have hfb := h.fr.b
  have hfe := h.fr.e
  have q0 := h.r.q0
  have e0 := h.r.e0lt
  have nX : ¬ B.wr m.clk.n.toNat w.heap.size := fun e => by have := h.wlt _ e; omega
  obtain ⟨z0, z1⟩ := wrap64 c2
  have okM := Mach.mem_ok ok (MemS.store_okq ok.mem a 4 z0 z1)
  have P := fun w h => mem_store B.mb B.mg m.mem a 4 (IntKind.u64.wrap c2) w h ok.mem
  have Q := fun w h => r2_store R.M m.mem a 4 (IntKind.u64.wrap c2) w h ok.mem
  have hsn : (m.mem.store a 4 (IntKind.u64.wrap c2)).n = m.mem.n := by unfold MemS.store; split <;> rfl
  obtain ⟨_, _, _, _, q1⟩ := h.r.q1
  have hown : ∀ z, R.M.own m.mem.n z → R.e0 ≤ z ∧ z < w.heap.size := fun z ⟨j, hj, e⟩ => by
    have := q1 j hj; have := (h.r.mem.rows j hj).lt; omega
  generalize m.mem.store a 4 (IntKind.u64.wrap c2) = M at *
  generalize m.mem.can a 4 = E at *
  clear z0 z1
  go_enter Tryz.func10, Tryz.ntmps10
  go_upto_region 19 with (fail)
  generalize w.alloc (.cells #[.int .i64 c0, .int .i64 c1, .int .i64 c2, .int .i64 c3, .int .i64 c4, .int .i64 c5] 38 (0, 0)) = W at *
  have hbx := h1.r.box
  have kT : ∀ y, Touch (fun z => B.wr m.clk.n.toNat z ∨ R.M.own m.mem.n z) W y → y.cell? ⟨R.b, 0, none⟩ = some (.pointer (some ⟨R.M.v, 0, none⟩)) ∧ y.cell? ⟨w.heap.size, 2, none⟩ = some (.int .i64 c2) := fun y hT => by
    have n1 : ¬ (B.wr m.clk.n.toNat R.b ∨ R.M.own m.mem.n R.b) := fun e => by
      rcases e with e | e
      · have := h.wlt _ e; omega
      · have := hown _ e; omega
    have n2 : ¬ (B.wr m.clk.n.toNat w.heap.size ∨ R.M.own m.mem.n w.heap.size) := fun e => by
      rcases e with e | e
      · exact nX e
      · have := hown _ e; omega
    rw [cell_of (hT.at hbx n1), cell_of (hT.at hX n2)]; exact ⟨rfl, rfl⟩
  have b0 : Below W.heap.size W W.drew := (Below.refl _ W).drew
  have d0 : Touch (fun z => B.wr m.clk.n.toNat z ∨ R.M.own m.mem.n z) W W.drew := Touch.of_below b0
  have hD := h1.after b0
  go_region_held3 (fun y => y.cell? ⟨R.b, 0, none⟩ = some (.pointer (some ⟨R.M.v, 0, none⟩)) ∧ y.cell? ⟨w.heap.size, 2, none⟩ = some (.int .i64 c2))
    (first | (with_reducible exact kT _ d0) | (with_reducible refine kT _ ?_; with_reducible assumption))
    (first
      | ((go_at_call 22; (with_reducible refine (mach_mem _ _ _ hD.p.mach).mono ?_); rintro e w' ⟨rfl, rfl⟩))
      | (go_at_call 88; (with_reducible refine (P _ hD.p.mach.mem).mono ?_); rintro e w' ⟨rfl, hp, ht⟩; have hp1 := hD.p.own (hD.p.mach.setmem ht hp) (ht.mono (fun _ _ hx => .inl hx)) rfl; have ht1 : Touch (B.wr m.clk.n.toNat) _ w' := ht.mono (fun _ _ hx => .inl (.inl hx)); have hr := hD.rkeep ht1; have t1 : Touch (fun z => B.wr m.clk.n.toNat z ∨ R.M.own m.mem.n z) W w' := d0.trans (ht1.mono (fun _ _ hx => .inl hx)))
      | (go_at_call 89; (with_reducible refine (Q _ hr.mem).mono ?_); rintro e w' ⟨rfl, hr2, ht2⟩; have h2 := hD.both hp1 (ht2.mono (fun i _ hi => (hown i hi).1)) (hr.setmem ht2 hr2 hsn) okM rfl; have t2 : Touch (fun z => B.wr m.clk.n.toNat z ∨ R.M.own m.mem.n z) W w' := t1.trans (ht2.mono (fun _ _ hx => .inr hx))))
  go_wp2
  go_ret
  refine ⟨ret_bool (by simp), B, _, h2, rfl, rfl, (Touch.of_below hw0).trans (t2.mono (fun i _ hi => ?_))⟩
  rcases hi with hi | hi
  · exact h.wlo i hi
  · have := h.lo3; have := hown i hi; omega
theorem act25 (k : Int) (k0 : 0 ≤ k) (k9 : k < 9) (ha : (Lit.int .i64 a).wf = true) (h : Both w B R m room x lo) : Calls Tryz.prog 10 #[.pointer (some ⟨B.b, 0, none⟩), .pointer (some ⟨R.b, 0, none⟩), .int .i64 k, .int .i64 a, .int .i64 b, .agg #[.int .i64 c0, .int .i64 c1, .int .i64 c2, .int .i64 c3, .int .i64 c4, .int .i64 c5]] w fun e w' =>
    e = .returned (.bool true) ∧ ∃ B' m', Both w' B' R m' room x lo ∧ B'.b = B.b ∧ m'.clk.n = m.clk.n ∧ Touch (fun y => lo ≤ y) w w' := by
  rcases (by omega : k = 0 ∨ k = 1 ∨ k = 2 ∨ k = 3 ∨ k = 4 ∨ k = 5 ∨ k = 6 ∨ k = 7 ∨ k = 8) with rfl | rfl | rfl | rfl | rfl | rfl | rfl | rfl | rfl
  · exact act25_ret0 h ha
  · exact act25_ret1 h ha
  · exact act25_link h
  · exact act25_unlink h
  · exact act25_flush h
  · exact act25_cur h
  · exact act25_clock h
  · exact act25_untype h
  · exact act25_store h
end
end Go.Proofs.YtmahledpcpdldaaGreat
