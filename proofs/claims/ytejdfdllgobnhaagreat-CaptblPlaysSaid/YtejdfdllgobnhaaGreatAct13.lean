/- CaptblPlays: one act. -/
import Derived.Test.YtejdfdllgobnhaaGreatTwo
set_option linter.unusedVariables false
set_option linter.unusedSimpArgs false
namespace Go.Proofs.YtejdfdllgobnhaaGreat
open Go.RowKit
section
variable {a g : Nat} {B : RMB} {m : MemS} {x1 x2 x3 c0 c1 c2 c3 c4 c5 : Int} {w : World}
set_option maxHeartbeats 1000000 in
set_option maxRecDepth 100000 in
theorem act_make (h : Two w a g B m) : Calls Tryz.prog 10 #[.pointer (some ⟨a, 0, none⟩), .pointer (some ⟨B.v, 0, none⟩), .int .i64 0, .int .i64 x1, .int .i64 x2, .int .i64 x3, .agg #[.int .i64 c0, .int .i64 c1, .int .i64 c2, .int .i64 c3, .int .i64 c4, .int .i64 c5]] w fun e w' =>
    e = .returned (.bool true) ∧ ∃ m', Two w' a g B m' ∧ m'.n = m.n ∧ Touch (B.two g m.n) w w' := by
  have hw0 : Below w.heap.size w (w.alloc (.cells #[.int .i64 c0, .int .i64 c1, .int .i64 c2, .int .i64 c3, .int .i64 c4, .int .i64 c5] 32 (0, 0))) := by (refine Touch.below0 ?_; (repeat' (first | (with_reducible exact Touch.refl _ _) | (with_reducible assumption) | (with_reducible refine Touch.drew ?_) | (with_reducible refine Touch.drewN ?_ _) | (with_reducible refine Touch.alloc ?_ _) | (with_reducible refine Touch.setCell ?_ _ _ _ ?_) | (with_reducible refine Touch.step (by assumption) ?_) | (with_reducible refine Touch.stepT (by assumption) ?_ ?_) | (intro _; first | rfl | trivial | omega | (simp; done) | (simp; omega)) | (intro _ _; first | omega | (simp; done) | (simp; omega)))))
  have h1 := h.after hw0
  have ok := h.ok
  have P := fun w h => tbl_make a g m x1 x3 w h ok
  have R := fun w h => r13_make B m x1 x3 w h ok
  have okM := MemS.make_ok ok x1 ⟨1, x3, false, 0⟩
  have hn := make_n m x1 ⟨1, x3, false, 0⟩
  generalize (if headOk m x1 ⟨1, x3, false, 0⟩ then (0 : Int) else 1) = E at *
  generalize m.make x1 ⟨1, x3, false, 0⟩ = M at *
  go_enter Tryz.func10, Tryz.ntmps10
  go_wp2_with (first
    | ((go_at_call 29; (with_reducible refine (P _ h1.p).mono ?_); rintro e w' ⟨rfl, hp, ht⟩); have hr := h1.rkeep ht)
    | (go_at_call 38; (with_reducible refine (R _ hr).mono ?_); rintro e w' ⟨rfl, hr2, ht2⟩))
  go_ret
  exact ⟨ret_bool (by simp), M, h1.both hp ht2 hr2 okM hn, hn, (Touch.of_below hw0).trans (touch_two ht ht2)⟩
set_option maxHeartbeats 2000000 in
set_option maxRecDepth 100000 in
theorem act_drop (h : Two w a g B m) : Calls Tryz.prog 10 #[.pointer (some ⟨a, 0, none⟩), .pointer (some ⟨B.v, 0, none⟩), .int .i64 3, .int .i64 x1, .int .i64 x2, .int .i64 x3, .agg #[.int .i64 c0, .int .i64 c1, .int .i64 c2, .int .i64 c3, .int .i64 c4, .int .i64 c5]] w fun e w' =>
    e = .returned (.bool true) ∧ ∃ m', Two w' a g B m' ∧ m'.n = m.n ∧ Touch (B.two g m.n) w w' := by
  have hw0 : Below w.heap.size w (w.alloc (.cells #[.int .i64 c0, .int .i64 c1, .int .i64 c2, .int .i64 c3, .int .i64 c4, .int .i64 c5] 32 (0, 0))) := by (refine Touch.below0 ?_; (repeat' (first | (with_reducible exact Touch.refl _ _) | (with_reducible assumption) | (with_reducible refine Touch.drew ?_) | (with_reducible refine Touch.drewN ?_ _) | (with_reducible refine Touch.alloc ?_ _) | (with_reducible refine Touch.setCell ?_ _ _ _ ?_) | (with_reducible refine Touch.step (by assumption) ?_) | (with_reducible refine Touch.stepT (by assumption) ?_ ?_) | (intro _; first | rfl | trivial | omega | (simp; done) | (simp; omega)) | (intro _ _; first | omega | (simp; done) | (simp; omega)))))
  have h1 := h.after hw0
  have ok := h.ok
  have own1 : ∀ x, w.heap.size ≤ x → ¬ B.own m.n x := fun x hx => h.r.own_lt hx
  have P := fun w h => tbl_drop a g m x1 x2 x3 w h ok
  have R := fun w h => r13_drop B m x1 x2 x3 w h ok
  have okM := MemS.drop_ok ok x1 x2 x3
  have hn := MemS.drop_n m x1 x2 x3
  generalize dropE m x1 x2 x3 = E at *
  generalize m.drop x1 x2 x3 = M at *
  generalize dropC m x1 x2 x3 = C at *
  obtain ⟨d0, d1, d2, d3, d4, d5⟩ := C
  unfold CapS.v at P R
  dsimp only at P R
  go_enter Tryz.func10, Tryz.ntmps10
  go_wp2_with (first
    | ((go_at_call 57; (with_reducible refine (P _ h1.p).mono ?_); rintro e w' ⟨rfl, hp, ht⟩); have hs := ht.size; have hA := (Below.refl w'.heap.size w').alloc (Nat.le_refl _) (.cells #[.int .i64 d0, .int .i64 d1, .int .i64 d2, .int .i64 d3, .int .i64 d4, .int .i64 d5] 32 (0, 0)); have hp2 := hp.after hA; have hr := (h1.rkeep ht).after hA; have hC := heap_new w' (.cells #[.int .i64 d0, .int .i64 d1, .int .i64 d2, .int .i64 d3, .int .i64 d4, .int .i64 d5] 32 (0, 0)); have hT := ht.alloc (.cells #[.int .i64 d0, .int .i64 d1, .int .i64 d2, .int .i64 d3, .int .i64 d4, .int .i64 d5] 32 (0, 0)); have hNo := own1 w'.heap.size (by have := hw0.size; omega))
    | ((go_at_call 58; (with_reducible refine (R _ hr).mono ?_); rintro e w' ⟨rfl, hr2, ht2⟩); have hC2 := heap_alloc (ht2.at hC hNo) (.cells #[.int .i64 d0, .int .i64 d1, .int .i64 d2, .int .i64 d3, .int .i64 d4, .int .i64 d5] 32 (0, 0)); have hD := heap_new w' (.cells #[.int .i64 d0, .int .i64 d1, .int .i64 d2, .int .i64 d3, .int .i64 d4, .int .i64 d5] 32 (0, 0)); have y0 := cell_of hC2 0; have y1 := cell_of hC2 1; have y2 := cell_of hC2 2; have y3 := cell_of hC2 3; have y4 := cell_of hC2 4; have y5 := cell_of hC2 5; dsimp at y0 y1 y2 y3 y4 y5; have z0 := cell_of hD 0; have z1 := cell_of hD 1; have z2 := cell_of hD 2; have z3 := cell_of hD 3; have z4 := cell_of hD 4; have z5 := cell_of hD 5; dsimp at z0 z1 z2 z3 z4 z5))
  have hA2 := (Below.refl w'.heap.size w').alloc (Nat.le_refl _) (.cells #[.int .i64 d0, .int .i64 d1, .int .i64 d2, .int .i64 d3, .int .i64 d4, .int .i64 d5] 32 (0, 0))
  go_ret
  exact ⟨ret_bool (by simp), M, (h1.both hp2 ht2 hr2 okM hn).after hA2, hn, ((Touch.of_below hw0).trans (touch_two hT ht2)).alloc (.cells #[.int .i64 d0, .int .i64 d1, .int .i64 d2, .int .i64 d3, .int .i64 d4, .int .i64 d5] 32 (0, 0))⟩
set_option maxHeartbeats 2000000 in
set_option maxRecDepth 100000 in
theorem act_decons (h : Two w a g B m) : Calls Tryz.prog 10 #[.pointer (some ⟨a, 0, none⟩), .pointer (some ⟨B.v, 0, none⟩), .int .i64 5, .int .i64 x1, .int .i64 x2, .int .i64 x3, .agg #[.int .i64 c0, .int .i64 c1, .int .i64 c2, .int .i64 c3, .int .i64 c4, .int .i64 c5]] w fun e w' =>
    e = .returned (.bool true) ∧ ∃ m', Two w' a g B m' ∧ m'.n = m.n ∧ Touch (B.two g m.n) w w' := by
  have hw0 : Below w.heap.size w (w.alloc (.cells #[.int .i64 c0, .int .i64 c1, .int .i64 c2, .int .i64 c3, .int .i64 c4, .int .i64 c5] 32 (0, 0))) := by (refine Touch.below0 ?_; (repeat' (first | (with_reducible exact Touch.refl _ _) | (with_reducible assumption) | (with_reducible refine Touch.drew ?_) | (with_reducible refine Touch.drewN ?_ _) | (with_reducible refine Touch.alloc ?_ _) | (with_reducible refine Touch.setCell ?_ _ _ _ ?_) | (with_reducible refine Touch.step (by assumption) ?_) | (with_reducible refine Touch.stepT (by assumption) ?_ ?_) | (intro _; first | rfl | trivial | omega | (simp; done) | (simp; omega)) | (intro _ _; first | omega | (simp; done) | (simp; omega)))))
  have hX := heap_new w (.cells #[.int .i64 c0, .int .i64 c1, .int .i64 c2, .int .i64 c3, .int .i64 c4, .int .i64 c5] 32 (0, 0))
  have h1 := h.after hw0
  have ok := h.ok
  have own1 : ∀ x, w.heap.size ≤ x → ¬ B.own m.n x := fun x hx => h.r.own_lt hx
  have hlg := h.p.ltg
  have P := fun w h => tbl_decons a g m x1 (Int.tmod x2 17) x3 c5 w h ok
  have R := fun w h => r13_decons B m x1 (Int.tmod x2 17) x3 c5 w h ok
  have okM := MemS.decons_ok ok x1 (Int.tmod x2 17) x3 c5
  have hn := MemS.decons_n m x1 (Int.tmod x2 17) x3 c5
  generalize deconsE m x1 (Int.tmod x2 17) x3 c5 = E at *
  generalize deconsR m x1 (Int.tmod x2 17) x3 c5 = F at *
  generalize m.decons x1 (Int.tmod x2 17) x3 c5 = M at *
  have y0 := cell_of hX 0; have y1 := cell_of hX 1; have y2 := cell_of hX 2; have y3 := cell_of hX 3; have y4 := cell_of hX 4; have y5 := cell_of hX 5; dsimp at y0 y1 y2 y3 y4 y5
  go_enter Tryz.func10, Tryz.ntmps10
  go_wp2_with (first
    | ((go_at_call 59; (with_reducible refine (P _ h1.p).mono ?_); rintro e w' ⟨rfl, hp, ht⟩); have hr := h1.rkeep ht; have hX2 := ht.at hX (show ¬ w.heap.size = g by omega); have z0 := cell_of hX2 0; have z1 := cell_of hX2 1; have z2 := cell_of hX2 2; have z3 := cell_of hX2 3; have z4 := cell_of hX2 4; have z5 := cell_of hX2 5; dsimp at z0 z1 z2 z3 z4 z5)
    | (go_at_call 60; (with_reducible refine (R _ hr).mono ?_); rintro e w' ⟨rfl, hr2, ht2⟩))
  go_ret
  exact ⟨ret_bool (by simp), M, h1.both hp ht2 hr2 okM hn, hn, (Touch.of_below hw0).trans (touch_two ht ht2)⟩
set_option maxHeartbeats 4000000 in
set_option maxRecDepth 100000 in
theorem act_look (h : Two w a g B m) : Calls Tryz.prog 10 #[.pointer (some ⟨a, 0, none⟩), .pointer (some ⟨B.v, 0, none⟩), .int .i64 6, .int .i64 x1, .int .i64 x2, .int .i64 x3, .agg #[.int .i64 c0, .int .i64 c1, .int .i64 c2, .int .i64 c3, .int .i64 c4, .int .i64 c5]] w fun e w' =>
    e = .returned (.bool true) ∧ ∃ m', Two w' a g B m' ∧ m'.n = m.n ∧ Touch (B.two g m.n) w w' := by
  have hw0 : Below w.heap.size w (w.alloc (.cells #[.int .i64 c0, .int .i64 c1, .int .i64 c2, .int .i64 c3, .int .i64 c4, .int .i64 c5] 32 (0, 0))) := by (refine Touch.below0 ?_; (repeat' (first | (with_reducible exact Touch.refl _ _) | (with_reducible assumption) | (with_reducible refine Touch.drew ?_) | (with_reducible refine Touch.drewN ?_ _) | (with_reducible refine Touch.alloc ?_ _) | (with_reducible refine Touch.setCell ?_ _ _ _ ?_) | (with_reducible refine Touch.step (by assumption) ?_) | (with_reducible refine Touch.stepT (by assumption) ?_ ?_) | (intro _; first | rfl | trivial | omega | (simp; done) | (simp; omega)) | (intro _ _; first | omega | (simp; done) | (simp; omega)))))
  have h1 := h.after hw0
  have ok := h.ok
  have L := fun w h => tbl_Look a g m x1 x2 w h ok
  have K := fun w h => r13_look B m x1 x2 w h ok
  have P := fun w h => tbl_freeze a g m x1 x3 w h ok
  have R := fun w h => r13_freeze B m x1 x3 w h ok
  have okM := MemS.freeze_ok ok x1 x3
  have hn := MemS.freeze_n m x1 x3
  generalize freezeE m x1 x3 = E at *
  generalize m.freeze x1 x3 = M at *
  generalize lookE m x1 x2 = LE at *
  generalize lookC m x1 x2 = C at *
  obtain ⟨d0, d1, d2, d3, d4, d5⟩ := C
  unfold CapS.v at L K
  dsimp only at L K
  go_enter Tryz.func10, Tryz.ntmps10
  go_wp2_with (first
    | ((go_at_call 61; (with_reducible refine (L _ h1.p).mono ?_); rintro e w' ⟨rfl, hx⟩); have hB := hw0.trans (hx.mono hw0.size); have hB := hB.alloc hB.size (.cells #[.int .i64 d0, .int .i64 d1, .int .i64 d2, .int .i64 d3, .int .i64 d4, .int .i64 d5] 32 (0, 0)); have h2 := h.after hB; have hC := heap_new w' (.cells #[.int .i64 d0, .int .i64 d1, .int .i64 d2, .int .i64 d3, .int .i64 d4, .int .i64 d5] 32 (0, 0)))
    | ((go_at_call 62; (with_reducible refine (K _ h2.r).mono ?_); rintro e w' ⟨rfl, hx⟩); have hB := hB.trans (hx.mono hB.size); have hB := hB.alloc hB.size (.cells #[.int .i64 d0, .int .i64 d1, .int .i64 d2, .int .i64 d3, .int .i64 d4, .int .i64 d5] 32 (0, 0)); have h3 := h.after hB; have hC2 := heap_alloc ((hx.block _ (lt_of_block hC)).trans hC) (.cells #[.int .i64 d0, .int .i64 d1, .int .i64 d2, .int .i64 d3, .int .i64 d4, .int .i64 d5] 32 (0, 0)); have hD := heap_new w' (.cells #[.int .i64 d0, .int .i64 d1, .int .i64 d2, .int .i64 d3, .int .i64 d4, .int .i64 d5] 32 (0, 0)); have y0 := cell_of hC2 0; have y1 := cell_of hC2 1; have y2 := cell_of hC2 2; have y3 := cell_of hC2 3; have y4 := cell_of hC2 4; have y5 := cell_of hC2 5; dsimp at y0 y1 y2 y3 y4 y5; have z0 := cell_of hD 0; have z1 := cell_of hD 1; have z2 := cell_of hD 2; have z3 := cell_of hD 3; have z4 := cell_of hD 4; have z5 := cell_of hD 5; dsimp at z0 z1 z2 z3 z4 z5)
    | ((go_at_call 63; (with_reducible refine (P _ h3.p).mono ?_); rintro e w' ⟨rfl, hp, ht⟩); have hr := h3.rkeep ht)
    | (go_at_call 64; (with_reducible refine (R _ hr).mono ?_); rintro e w' ⟨rfl, hr2, ht2⟩))
  go_ret
  exact ⟨ret_bool (by simp), M, h3.both hp ht2 hr2 okM hn, hn, (Touch.of_below hB).trans (touch_two ht ht2)⟩
end
end Go.Proofs.YtejdfdllgobnhaaGreat
