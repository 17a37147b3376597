/- The reference's tables: Look, Drop. -/
import Derived.Test.YtejdfdllgobnhaaGreatR13b
set_option linter.unusedVariables false
set_option linter.unusedSimpArgs false
namespace Go.Proofs.YtejdfdllgobnhaaGreat
open Go.RowKit
set_option maxHeartbeats 4000000 in
set_option maxRecDepth 100000 in
theorem r13_look (B : RMB) (m : MemS) (root n : Int) (w : World) (h : RMemIs w B m) (ok : m.Ok) : Calls Tryz.prog 62 #[.pointer (some ⟨B.v, 0, none⟩), .int .i64 root, .int .i64 n] w fun e w' =>
    e = .returned (.tuple #[(lookC m root n).v, .int .i64 (lookE m root n)]) ∧ Below w.heap.size w w' := by
  have LF := fun w h => r13_leaf B m root n w h ok
  have SG := fun w h => r11_get B m (walkP m root n).f (walkP m root n).i w h ok
  have hw0 : Below w.heap.size w (w.alloc (.cells #[.int .i64 0, .int .i64 0, .int .i64 0, .int .i64 0, .int .i64 0, .int .i64 0] 32 (0, 0))) := by (refine Touch.below0 ?_; (repeat' (first | (with_reducible exact Touch.refl _ _) | (with_reducible assumption) | (with_reducible refine Touch.drew ?_) | (with_reducible refine Touch.drewN ?_ _) | (with_reducible refine Touch.alloc ?_ _) | (with_reducible refine Touch.setCell ?_ _ _ _ ?_) | (with_reducible refine Touch.step (by assumption) ?_) | (with_reducible refine Touch.stepT (by assumption) ?_ ?_) | (intro _; first | rfl | trivial | omega | (simp; done) | (simp; omega)) | (intro _ _; first | omega | (simp; done) | (simp; omega)))))
  have hR : (w.alloc (.cells #[.int .i64 0, .int .i64 0, .int .i64 0, .int .i64 0, .int .i64 0, .int .i64 0] 32 (0, 0))).heap[w.heap.size]? = some (.cells #[.int .i64 0, .int .i64 0, .int .i64 0, .int .i64 0, .int .i64 0, .int .i64 0] 32 (0, 0)) := heap_new _ _
  have h1 := h.after hw0
  have zero : ∀ e : Int, lookE m root n = e → e ≠ 0 → lookC m root n = CapS.zero := fun e h1 h2 => by unfold lookC; rw [h1, if_neg h2]
  by_cases hW : walkE m root n = 0
  rotate_left
  · have e : lookE m root n = walkE m root n := by unfold lookE; rw [if_neg hW]
    rw [zero _ e hW, e]
    generalize walkE m root n = WE at *
    generalize walkP m root n = WP at *
    have h2 : (WE == 0) = false := by simpa using hW
    have h3 : (WE != 0) = true := by simpa using hW
    clear SG e zero hW
    unfold CapS.zero CapS.v
    dsimp only
    go_enter Tryz.func62, Tryz.ntmps62
    go_wp2_with (((go_at_call 146; (with_reducible refine (LF _ h1).mono ?_); rintro e w' ⟨rfl, hx⟩); have hB := hw0.trans (hx.mono hw0.size); have h2 := h1.after hx; have hR2 := (hx.block _ (lt_of_block hR)).trans hR; have g0 := cell_of hR2 0; have g1 := cell_of hR2 1; have g2 := cell_of hR2 2; have g3 := cell_of hR2 3; have g4 := cell_of hR2 4; have g5 := cell_of hR2 5; have fr := frozen_of hR2; dsimp at g0 g1 g2 g3 g4 g5))
    have hF := heap_set (o := 5) (heap_set (o := 4) (heap_set (o := 3) (heap_set (o := 2) (heap_set (o := 1) (heap_set (o := 0) hR2 (.int .i64 0)) (.int .i64 0)) (.int .i64 0)) (.int .i64 0)) (.int .i64 0)) (.int .i64 0)
    refine bodyPost_ret (v := .tuple #[.agg #[.int .i64 0, .int .i64 0, .int .i64 0, .int .i64 0, .int .i64 0, .int .i64 0], .int .i64 WE]) ?_ rfl ⟨rfl, ?_⟩
    · have hc := cell_of hF
      simp [results, Tryz.f62, go_sem, hc]
    · exact ((((((hB).setCell (p := ⟨w.heap.size, 0, none⟩) (Nat.le_refl _) _).setCell (p := ⟨w.heap.size, 1, none⟩) (Nat.le_refl _) _).setCell (p := ⟨w.heap.size, 2, none⟩) (Nat.le_refl _) _).setCell (p := ⟨w.heap.size, 3, none⟩) (Nat.le_refl _) _).setCell (p := ⟨w.heap.size, 4, none⟩) (Nat.le_refl _) _).setCell (p := ⟨w.heap.size, 5, none⟩) (Nat.le_refl _) _
  by_cases hE : slotE m (walkP m root n).f (walkP m root n).i = 0
  rotate_left
  · have e : lookE m root n = slotE m (walkP m root n).f (walkP m root n).i := by unfold lookE; rw [if_pos hW, if_neg hE]
    rw [zero _ e hE, e]
    rw [hW] at LF
    clear zero e hW
    generalize (walkP m root n).f = pf at *
    generalize (walkP m root n).i = pi at *
    generalize (walkP m root n).fz = pz at *
    generalize slotE m pf pi = E at *
    generalize slotC m pf pi = C at *
    obtain ⟨k, r, t, l, ep, ca⟩ := C
    have h2 : (E == 0) = false := by simpa using hE
    have h3 : (E != 0) = true := by simpa using hE
    unfold CapS.v at SG
    unfold CapS.zero CapS.v
    dsimp only at SG ⊢
    go_enter Tryz.func62, Tryz.ntmps62
    go_wp2_with (first | ((go_at_call 146; (with_reducible refine (LF _ h1).mono ?_); rintro e w' ⟨rfl, hx⟩); have hB := hw0.trans (hx.mono hw0.size); have h2 := h1.after hx; have hR2 := (hx.block _ (lt_of_block hR)).trans hR; have g0 := cell_of hR2 0; have g1 := cell_of hR2 1; have g2 := cell_of hR2 2; have g3 := cell_of hR2 3; have g4 := cell_of hR2 4; have g5 := cell_of hR2 5; have fr := frozen_of hR2; dsimp at g0 g1 g2 g3 g4 g5) | ((go_at_call 142; (with_reducible refine (SG _ h2).mono ?_); rintro e w' ⟨rfl, hx⟩); have hB3 := hB.trans (hx.mono hB.size); have hB4 := hB3.alloc hB3.size (.cells #[.int .i64 k, .int .i64 r, .int .i64 t, .int .i64 l, .int .i64 ep, .int .i64 ca] 32 (0, 0)); have hR4 := heap_alloc ((hx.block _ (lt_of_block hR2)).trans hR2) (.cells #[.int .i64 k, .int .i64 r, .int .i64 t, .int .i64 l, .int .i64 ep, .int .i64 ca] 32 (0, 0)); have hD := heap_new w' (.cells #[.int .i64 k, .int .i64 r, .int .i64 t, .int .i64 l, .int .i64 ep, .int .i64 ca] 32 (0, 0)); have g0 := cell_of hR4 0; have g1 := cell_of hR4 1; have g2 := cell_of hR4 2; have g3 := cell_of hR4 3; have g4 := cell_of hR4 4; have g5 := cell_of hR4 5; have fr := frozen_of hR4; dsimp at g0 g1 g2 g3 g4 g5; have q0 := cell_of hD 0; have q1 := cell_of hD 1; have q2 := cell_of hD 2; have q3 := cell_of hD 3; have q4 := cell_of hD 4; have q5 := cell_of hD 5; dsimp at q0 q1 q2 q3 q4 q5))
    have hF := heap_set (o := 5) (heap_set (o := 4) (heap_set (o := 3) (heap_set (o := 2) (heap_set (o := 1) (heap_set (o := 0) hR4 (.int .i64 0)) (.int .i64 0)) (.int .i64 0)) (.int .i64 0)) (.int .i64 0)) (.int .i64 0)
    refine bodyPost_ret (v := .tuple #[.agg #[.int .i64 0, .int .i64 0, .int .i64 0, .int .i64 0, .int .i64 0, .int .i64 0], .int .i64 E]) ?_ rfl ⟨rfl, ?_⟩
    · have hc := cell_of hF
      simp [results, Tryz.f62, go_sem, hc]
    · exact ((((((hB4).setCell (p := ⟨w.heap.size, 0, none⟩) (Nat.le_refl _) _).setCell (p := ⟨w.heap.size, 1, none⟩) (Nat.le_refl _) _).setCell (p := ⟨w.heap.size, 2, none⟩) (Nat.le_refl _) _).setCell (p := ⟨w.heap.size, 3, none⟩) (Nat.le_refl _) _).setCell (p := ⟨w.heap.size, 4, none⟩) (Nat.le_refl _) _).setCell (p := ⟨w.heap.size, 5, none⟩) (Nat.le_refl _) _
  by_cases hk : (slotC m (walkP m root n).f (walkP m root n).i).k ≤ 1
  · have e : lookE m root n = 3 := by unfold lookE; rw [if_pos hW, if_pos hE, if_pos hk]
    rw [zero _ e (by decide), e]
    rw [hW] at LF
    rw [hE] at SG
    clear zero e hW hE
    generalize (walkP m root n).f = pf at *
    generalize (walkP m root n).i = pi at *
    generalize (walkP m root n).fz = pz at *
    generalize slotC m pf pi = C at *
    obtain ⟨k, r, t, l, ep, ca⟩ := C
    unfold CapS.v at SG
    unfold CapS.zero CapS.v
    dsimp only at SG hk ⊢
    go_enter Tryz.func62, Tryz.ntmps62
    go_wp2_with (first | ((go_at_call 146; (with_reducible refine (LF _ h1).mono ?_); rintro e w' ⟨rfl, hx⟩); have hB := hw0.trans (hx.mono hw0.size); have h2 := h1.after hx; have hR2 := (hx.block _ (lt_of_block hR)).trans hR; have g0 := cell_of hR2 0; have g1 := cell_of hR2 1; have g2 := cell_of hR2 2; have g3 := cell_of hR2 3; have g4 := cell_of hR2 4; have g5 := cell_of hR2 5; have fr := frozen_of hR2; dsimp at g0 g1 g2 g3 g4 g5) | ((go_at_call 142; (with_reducible refine (SG _ h2).mono ?_); rintro e w' ⟨rfl, hx⟩); have hB3 := hB.trans (hx.mono hB.size); have hB4 := hB3.alloc hB3.size (.cells #[.int .i64 k, .int .i64 r, .int .i64 t, .int .i64 l, .int .i64 ep, .int .i64 ca] 32 (0, 0)); have hR4 := heap_alloc ((hx.block _ (lt_of_block hR2)).trans hR2) (.cells #[.int .i64 k, .int .i64 r, .int .i64 t, .int .i64 l, .int .i64 ep, .int .i64 ca] 32 (0, 0)); have hD := heap_new w' (.cells #[.int .i64 k, .int .i64 r, .int .i64 t, .int .i64 l, .int .i64 ep, .int .i64 ca] 32 (0, 0)); have g0 := cell_of hR4 0; have g1 := cell_of hR4 1; have g2 := cell_of hR4 2; have g3 := cell_of hR4 3; have g4 := cell_of hR4 4; have g5 := cell_of hR4 5; have fr := frozen_of hR4; dsimp at g0 g1 g2 g3 g4 g5; have q0 := cell_of hD 0; have q1 := cell_of hD 1; have q2 := cell_of hD 2; have q3 := cell_of hD 3; have q4 := cell_of hD 4; have q5 := cell_of hD 5; dsimp at q0 q1 q2 q3 q4 q5))
    have hF := heap_set (o := 5) (heap_set (o := 4) (heap_set (o := 3) (heap_set (o := 2) (heap_set (o := 1) (heap_set (o := 0) hR4 (.int .i64 0)) (.int .i64 0)) (.int .i64 0)) (.int .i64 0)) (.int .i64 0)) (.int .i64 0)
    refine bodyPost_ret (v := .tuple #[.agg #[.int .i64 0, .int .i64 0, .int .i64 0, .int .i64 0, .int .i64 0, .int .i64 0], .int .i64 3]) ?_ rfl ⟨rfl, ?_⟩
    · have hc := cell_of hF
      simp [results, Tryz.f62, go_sem, hc]
    · exact ((((((hB4).setCell (p := ⟨w.heap.size, 0, none⟩) (Nat.le_refl _) _).setCell (p := ⟨w.heap.size, 1, none⟩) (Nat.le_refl _) _).setCell (p := ⟨w.heap.size, 2, none⟩) (Nat.le_refl _) _).setCell (p := ⟨w.heap.size, 3, none⟩) (Nat.le_refl _) _).setCell (p := ⟨w.heap.size, 4, none⟩) (Nat.le_refl _) _).setCell (p := ⟨w.heap.size, 5, none⟩) (Nat.le_refl _) _
  · have e : lookE m root n = 0 := by unfold lookE; rw [if_pos hW, if_pos hE, if_neg hk]
    have ec : lookC m root n = slotC m (walkP m root n).f (walkP m root n).i := by unfold lookC; rw [e, if_pos rfl]
    rw [ec, e]
    rw [hW] at LF
    rw [hE] at SG
    clear zero e ec hW hE
    generalize (walkP m root n).f = pf at *
    generalize (walkP m root n).i = pi at *
    generalize (walkP m root n).fz = pz at *
    generalize slotC m pf pi = C at *
    obtain ⟨k, r, t, l, ep, ca⟩ := C
    unfold CapS.v at SG ⊢
    dsimp only at SG hk ⊢
    go_enter Tryz.func62, Tryz.ntmps62
    go_wp2_with (first | ((go_at_call 146; (with_reducible refine (LF _ h1).mono ?_); rintro e w' ⟨rfl, hx⟩); have hB := hw0.trans (hx.mono hw0.size); have h2 := h1.after hx; have hR2 := (hx.block _ (lt_of_block hR)).trans hR; have g0 := cell_of hR2 0; have g1 := cell_of hR2 1; have g2 := cell_of hR2 2; have g3 := cell_of hR2 3; have g4 := cell_of hR2 4; have g5 := cell_of hR2 5; have fr := frozen_of hR2; dsimp at g0 g1 g2 g3 g4 g5) | ((go_at_call 142; (with_reducible refine (SG _ h2).mono ?_); rintro e w' ⟨rfl, hx⟩); have hB3 := hB.trans (hx.mono hB.size); have hB4 := hB3.alloc hB3.size (.cells #[.int .i64 k, .int .i64 r, .int .i64 t, .int .i64 l, .int .i64 ep, .int .i64 ca] 32 (0, 0)); have hR4 := heap_alloc ((hx.block _ (lt_of_block hR2)).trans hR2) (.cells #[.int .i64 k, .int .i64 r, .int .i64 t, .int .i64 l, .int .i64 ep, .int .i64 ca] 32 (0, 0)); have hD := heap_new w' (.cells #[.int .i64 k, .int .i64 r, .int .i64 t, .int .i64 l, .int .i64 ep, .int .i64 ca] 32 (0, 0)); have g0 := cell_of hR4 0; have g1 := cell_of hR4 1; have g2 := cell_of hR4 2; have g3 := cell_of hR4 3; have g4 := cell_of hR4 4; have g5 := cell_of hR4 5; have fr := frozen_of hR4; dsimp at g0 g1 g2 g3 g4 g5; have q0 := cell_of hD 0; have q1 := cell_of hD 1; have q2 := cell_of hD 2; have q3 := cell_of hD 3; have q4 := cell_of hD 4; have q5 := cell_of hD 5; dsimp at q0 q1 q2 q3 q4 q5))
    have hF := heap_set (o := 5) (heap_set (o := 4) (heap_set (o := 3) (heap_set (o := 2) (heap_set (o := 1) (heap_set (o := 0) hR4 (.int .i64 k)) (.int .i64 r)) (.int .i64 t)) (.int .i64 l)) (.int .i64 ep)) (.int .i64 ca)
    refine bodyPost_ret (v := .tuple #[.agg #[.int .i64 k, .int .i64 r, .int .i64 t, .int .i64 l, .int .i64 ep, .int .i64 ca], .int .i64 0]) ?_ rfl ⟨rfl, ?_⟩
    · have hc := cell_of hF
      simp [results, Tryz.f62, go_sem, hc]
    · exact ((((((hB4).setCell (p := ⟨w.heap.size, 0, none⟩) (Nat.le_refl _) _).setCell (p := ⟨w.heap.size, 1, none⟩) (Nat.le_refl _) _).setCell (p := ⟨w.heap.size, 2, none⟩) (Nat.le_refl _) _).setCell (p := ⟨w.heap.size, 3, none⟩) (Nat.le_refl _) _).setCell (p := ⟨w.heap.size, 4, none⟩) (Nat.le_refl _) _).setCell (p := ⟨w.heap.size, 5, none⟩) (Nat.le_refl _) _
end Go.Proofs.YtejdfdllgobnhaaGreat
