/- The reference's tables: Room, Put, Look. -/
import Derived.Test.YtejdfdllgobnhaaGreatR13
set_option linter.unusedVariables false
set_option linter.unusedSimpArgs false
namespace Go.Proofs.YtejdfdllgobnhaaGreat
open Go.RowKit
set_option maxHeartbeats 2000000 in
set_option maxRecDepth 100000 in
theorem r13_room (B : RMB) (m : MemS) (root n fl : Int) (w : World) (h : RMemIs w B m) (ok : m.Ok) : Calls Tryz.prog 56 #[.pointer (some ⟨B.v, 0, none⟩), .int .i64 root, .int .i64 n, .int .i64 fl] w fun e w' =>
    e = .returned (.int .i64 (roomE m root n fl)) ∧ Below w.heap.size w w' := by
  have LF := fun w h => r13_leaf B m root n w h ok
  have SG := fun w h => r11_get B m (walkP m root n).f (walkP m root n).i w h ok
  have QT := fun w => r13_quiet (slotC m (walkP m root n).f (walkP m root n).i) fl w
  by_cases hW : walkE m root n = 0
  rotate_left
  · have e : roomE m root n fl = walkE m root n := by unfold roomE; rw [if_neg hW]
    rw [e]
    generalize walkE m root n = WE at *
    generalize walkP m root n = WP at *
    have h2 : (WE == 0) = false := by simpa using hW
    have h3 : (WE != 0) = true := by simpa using hW
    clear SG QT e
    go_enter Tryz.func56, Tryz.ntmps56
    go_wp2_with ((go_at_call 146; (with_reducible refine (LF _ h).mono ?_); rintro e w' ⟨rfl, hB⟩))
    go_ret
    exact ⟨rfl, hB⟩
  cases hz : (walkP m root n).fz
  rotate_left
  · have e : roomE m root n fl = 6 := by unfold roomE; rw [if_pos hW, hz]; rfl
    rw [e]
    rw [hW, hz] at LF
    generalize walkP m root n = WP at *
    clear SG QT e hz hW
    go_enter Tryz.func56, Tryz.ntmps56
    go_wp2_with ((go_at_call 146; (with_reducible refine (LF _ h).mono ?_); rintro e w' ⟨rfl, hB⟩))
    go_ret
    exact ⟨rfl, hB⟩
  have e : roomE m root n fl = freeE m (walkP m root n).f (walkP m root n).i fl := by unfold roomE; rw [if_pos hW, hz]; rfl
  rw [e]
  rw [hW, hz] at LF
  clear e hz hW
  generalize (walkP m root n).f = pf at *
  generalize (walkP m root n).i = pi at *
  by_cases hE : slotE m pf pi = 0
  rotate_left
  · have e : freeE m pf pi fl = slotE m pf pi := by unfold freeE; rw [if_neg hE]
    rw [e]
    clear e QT
    generalize slotE m pf pi = E at *
    generalize slotC m pf pi = C at *
    obtain ⟨k, r, t, l, ep, ca⟩ := C
    unfold CapS.v at SG
    dsimp only at SG
    have h2 : (E == 0) = false := by simpa using hE
    have h3 : (E != 0) = true := by simpa using hE
    go_enter Tryz.func56, Tryz.ntmps56
    go_wp2_with (first | ((go_at_call 146; (with_reducible refine (LF _ h).mono ?_); rintro e w' ⟨rfl, hB⟩); have h2 := h.after hB) | ((go_at_call 142; (with_reducible refine (SG _ h2).mono ?_); rintro e w' ⟨rfl, hx⟩); have hB := hB.trans (hx.mono hB.size); have hB := hB.alloc hB.size (.cells #[.int .i64 k, .int .i64 r, .int .i64 t, .int .i64 l, .int .i64 ep, .int .i64 ca] 32 (0, 0))))
    go_ret
    exact ⟨rfl, hB⟩
  have e : freeE m pf pi fl = if 1 < (slotC m pf pi).k then 10 else if quietC (slotC m pf pi) fl then 0 else 6 := by unfold freeE; rw [if_pos hE]
  rw [e]
  rw [hE] at SG
  clear e hE
  generalize hq : quietC (slotC m pf pi) fl = q at *
  clear hq
  generalize slotC m pf pi = C at *
  obtain ⟨k, r, t, l, ep, ca⟩ := C
  unfold CapS.v at SG QT
  dsimp only at SG QT ⊢
  by_cases hk : 1 < k
  · rw [if_pos hk]
    clear QT
    go_enter Tryz.func56, Tryz.ntmps56
    go_wp2_with (first | ((go_at_call 146; (with_reducible refine (LF _ h).mono ?_); rintro e w' ⟨rfl, hB⟩); have h2 := h.after hB) | ((go_at_call 142; (with_reducible refine (SG _ h2).mono ?_); rintro e w' ⟨rfl, hx⟩); have hB := hB.trans (hx.mono hB.size); have hB := hB.alloc hB.size (.cells #[.int .i64 k, .int .i64 r, .int .i64 t, .int .i64 l, .int .i64 ep, .int .i64 ca] 32 (0, 0))))
    go_ret
    exact ⟨rfl, hB⟩
  · rw [if_neg hk]
    cases q
    · simp only [Bool.false_eq_true, if_false]
      go_enter Tryz.func56, Tryz.ntmps56
      go_wp2_with (first | ((go_at_call 146; (with_reducible refine (LF _ h).mono ?_); rintro e w' ⟨rfl, hB⟩); have h2 := h.after hB) | ((go_at_call 142; (with_reducible refine (SG _ h2).mono ?_); rintro e w' ⟨rfl, hx⟩); have hB := hB.trans (hx.mono hB.size); have hB := hB.alloc hB.size (.cells #[.int .i64 k, .int .i64 r, .int .i64 t, .int .i64 l, .int .i64 ep, .int .i64 ca] 32 (0, 0))) | ((go_at_call 143; (with_reducible refine (QT _).mono ?_); rintro e w' ⟨rfl, hx⟩); have hB := hB.trans (hx.mono hB.size)))
      go_ret
      exact ⟨rfl, hB⟩
    · simp only [if_true]
      go_enter Tryz.func56, Tryz.ntmps56
      go_wp2_with (first | ((go_at_call 146; (with_reducible refine (LF _ h).mono ?_); rintro e w' ⟨rfl, hB⟩); have h2 := h.after hB) | ((go_at_call 142; (with_reducible refine (SG _ h2).mono ?_); rintro e w' ⟨rfl, hx⟩); have hB := hB.trans (hx.mono hB.size); have hB := hB.alloc hB.size (.cells #[.int .i64 k, .int .i64 r, .int .i64 t, .int .i64 l, .int .i64 ep, .int .i64 ca] 32 (0, 0))) | ((go_at_call 143; (with_reducible refine (QT _).mono ?_); rintro e w' ⟨rfl, hx⟩); have hB := hB.trans (hx.mono hB.size)))
      go_ret
      exact ⟨rfl, hB⟩
set_option maxHeartbeats 2000000 in
set_option maxRecDepth 100000 in
theorem r13_put (B : RMB) (m : MemS) (root n fl : Int) (c : CapS) (w : World) (h : RMemIs w B m) (ok : m.Ok) : Calls Tryz.prog 40 #[.pointer (some ⟨B.v, 0, none⟩), .int .i64 root, .int .i64 n, c.v, .int .i64 fl] w fun e w' =>
    e = .returned (.int .i64 (tputE m root n c fl)) ∧ RMemIs w' B (m.tput root n c fl) ∧ Touch (B.own m.n) w w' := by
  have CH := r9_check c
  have RM := fun w h => r13_room B m root n fl w h ok
  have LF := fun w h => r13_leaf B m root n w h ok
  have PT := fun w h => r11_put B m (walkP m root n).f (walkP m root n).i c w h ok
  have key : ∀ (E : Int) (M : MemS), tputE m root n c fl = E → m.tput root n c fl = M → Calls Tryz.prog 40 #[.pointer (some ⟨B.v, 0, none⟩), .int .i64 root, .int .i64 n, c.v, .int .i64 fl] w fun e w' =>
    e = .returned (.int .i64 E) ∧ RMemIs w' B M ∧ Touch (B.own m.n) w w' := by
    intro E M hE hM
    by_cases hr : c.right = true
    rotate_left
    · have e1 : tputE m root n c fl = 1 := by unfold tputE; rw [if_neg (fun h => hr h.1)]
      have e2 : m.tput root n c fl = m := by unfold MemS.tput; rw [if_neg (fun h => hr h.1)]
      rw [e1] at hE; rw [e2] at hM; subst hE; subst hM
      rw [if_neg hr] at CH
      clear e1 e2 RM LF PT hr
      obtain ⟨k, r, t, l, ep, ca⟩ := c
      unfold CapS.v at *
      dsimp only at *
      have hw0 : Below w.heap.size w (w.alloc (.cells #[.int .i64 k, .int .i64 r, .int .i64 t, .int .i64 l, .int .i64 ep, .int .i64 ca] 32 (0, 0))) := by (refine Touch.below0 ?_; (repeat' (first | (with_reducible exact Touch.refl _ _) | (with_reducible assumption) | (with_reducible refine Touch.drew ?_) | (with_reducible refine Touch.drewN ?_ _) | (with_reducible refine Touch.alloc ?_ _) | (with_reducible refine Touch.setCell ?_ _ _ _ ?_) | (with_reducible refine Touch.step (by assumption) ?_) | (with_reducible refine Touch.stepT (by assumption) ?_ ?_) | (intro _; first | rfl | trivial | omega | (simp; done) | (simp; omega)) | (intro _ _; first | omega | (simp; done) | (simp; omega)))))
      go_enter Tryz.func40, Tryz.ntmps40
      go_wp2_with ((go_at_call 145; (with_reducible refine (CH _).mono ?_); rintro e w' ⟨rfl, hx⟩); have hB := hw0.trans (hx.mono hw0.size))
      go_ret
      exact ⟨rfl, h.after hB, Touch.of_below hB⟩
    rw [if_pos hr] at CH
    by_cases hk : 1 < c.k
    rotate_left
    · have e1 : tputE m root n c fl = 1 := by unfold tputE; rw [if_neg (fun h => hk h.2)]
      have e2 : m.tput root n c fl = m := by unfold MemS.tput; rw [if_neg (fun h => hk h.2.1)]
      rw [e1] at hE; rw [e2] at hM; subst hE; subst hM
      clear e1 e2 RM LF PT hr
      obtain ⟨k, r, t, l, ep, ca⟩ := c
      unfold CapS.v at *
      dsimp only at *
      have hk2 : k ≤ 1 := by omega
      clear hk
      have hw0 : Below w.heap.size w (w.alloc (.cells #[.int .i64 k, .int .i64 r, .int .i64 t, .int .i64 l, .int .i64 ep, .int .i64 ca] 32 (0, 0))) := by (refine Touch.below0 ?_; (repeat' (first | (with_reducible exact Touch.refl _ _) | (with_reducible assumption) | (with_reducible refine Touch.drew ?_) | (with_reducible refine Touch.drewN ?_ _) | (with_reducible refine Touch.alloc ?_ _) | (with_reducible refine Touch.setCell ?_ _ _ _ ?_) | (with_reducible refine Touch.step (by assumption) ?_) | (with_reducible refine Touch.stepT (by assumption) ?_ ?_) | (intro _; first | rfl | trivial | omega | (simp; done) | (simp; omega)) | (intro _ _; first | omega | (simp; done) | (simp; omega)))))
      have hb0 := heap_new w (.cells #[.int .i64 k, .int .i64 r, .int .i64 t, .int .i64 l, .int .i64 ep, .int .i64 ca] 32 (0, 0))
      go_enter Tryz.func40, Tryz.ntmps40
      go_wp2_with ((go_at_call 145; (with_reducible refine (CH _).mono ?_); rintro e w' ⟨rfl, hx⟩); have hB := hw0.trans (hx.mono hw0.size); have hb2 := (hx.block _ (lt_of_block hb0)).trans hb0; have g0 := cell_of hb2 0; have g1 := cell_of hb2 1; have g2 := cell_of hb2 2; have g3 := cell_of hb2 3; have g4 := cell_of hb2 4; have g5 := cell_of hb2 5; dsimp at g0 g1 g2 g3 g4 g5)
      go_ret
      exact ⟨rfl, h.after hB, Touch.of_below hB⟩
    by_cases hR : roomE m root n fl = 0
    rotate_left
    · have e1 : tputE m root n c fl = roomE m root n fl := by unfold tputE; rw [if_pos ⟨hr, hk⟩, if_neg hR]
      have e2 : m.tput root n c fl = m := by unfold MemS.tput; rw [if_neg (fun h => hR h.2.2)]
      rw [e1] at hE; rw [e2] at hM; subst hM
      rw [hE] at RM hR
      clear e1 e2 LF PT hr hE
      obtain ⟨k, r, t, l, ep, ca⟩ := c
      unfold CapS.v at *
      dsimp only at *
      have hk2 : ¬ k ≤ 1 := by omega
      have h2 : (E == 0) = false := by simpa using hR
      have h3 : (E != 0) = true := by simpa using hR
      clear hk
      have hw0 : Below w.heap.size w (w.alloc (.cells #[.int .i64 k, .int .i64 r, .int .i64 t, .int .i64 l, .int .i64 ep, .int .i64 ca] 32 (0, 0))) := by (refine Touch.below0 ?_; (repeat' (first | (with_reducible exact Touch.refl _ _) | (with_reducible assumption) | (with_reducible refine Touch.drew ?_) | (with_reducible refine Touch.drewN ?_ _) | (with_reducible refine Touch.alloc ?_ _) | (with_reducible refine Touch.setCell ?_ _ _ _ ?_) | (with_reducible refine Touch.step (by assumption) ?_) | (with_reducible refine Touch.stepT (by assumption) ?_ ?_) | (intro _; first | rfl | trivial | omega | (simp; done) | (simp; omega)) | (intro _ _; first | omega | (simp; done) | (simp; omega)))))
      have hb0 := heap_new w (.cells #[.int .i64 k, .int .i64 r, .int .i64 t, .int .i64 l, .int .i64 ep, .int .i64 ca] 32 (0, 0))
      go_enter Tryz.func40, Tryz.ntmps40
      go_wp2_with (first
        | ((go_at_call 145; (with_reducible refine (CH _).mono ?_); rintro e w' ⟨rfl, hx⟩); have hB := hw0.trans (hx.mono hw0.size); have h2 := h.after hB; have hb2 := (hx.block _ (lt_of_block hb0)).trans hb0; have g0 := cell_of hb2 0; have g1 := cell_of hb2 1; have g2 := cell_of hb2 2; have g3 := cell_of hb2 3; have g4 := cell_of hb2 4; have g5 := cell_of hb2 5; dsimp at g0 g1 g2 g3 g4 g5)
        | ((go_at_call 56; (with_reducible refine (RM _ h2).mono ?_); rintro e w' ⟨rfl, hx⟩); have hB := hB.trans (hx.mono hB.size)))
      go_ret
      exact ⟨rfl, h.after hB, Touch.of_below hB⟩
    · have hWe : walkE m root n = 0 := by
        unfold roomE at hR
        by_cases hW : walkE m root n = 0
        · exact hW
        · rw [if_neg hW] at hR; exact hR
      have hzf : (walkP m root n).fz = false := by
        unfold roomE at hR
        rw [if_pos hWe] at hR
        cases hz : (walkP m root n).fz
        · rfl
        · rw [hz] at hR; exact absurd hR (by simp)
      have hP : roomP m root n = walkP m root n := by unfold roomP; rw [if_pos hWe, hzf]; rfl
      have e1 : tputE m root n c fl = if putOk m (walkP m root n).f (walkP m root n).i c then 0 else 1 := by unfold tputE; rw [if_pos ⟨hr, hk⟩, if_pos hR, hP]
      have e2 : m.tput root n c fl = m.slot (walkP m root n).f (walkP m root n).i c := by unfold MemS.tput; rw [if_pos ⟨hr, hk, hR⟩, hP]
      rw [← e1, hE, ← e2, hM] at PT
      rw [hR] at RM
      clear e1 e2 hE hM hR hWe hzf hP hr
      generalize walkP m root n = WP at *
      generalize walkE m root n = WE at *
      obtain ⟨k, r, t, l, ep, ca⟩ := c
      unfold CapS.v at *
      dsimp only at *
      have hk2 : ¬ k ≤ 1 := by omega
      clear hk
      have hw0 : Below w.heap.size w (w.alloc (.cells #[.int .i64 k, .int .i64 r, .int .i64 t, .int .i64 l, .int .i64 ep, .int .i64 ca] 32 (0, 0))) := by (refine Touch.below0 ?_; (repeat' (first | (with_reducible exact Touch.refl _ _) | (with_reducible assumption) | (with_reducible refine Touch.drew ?_) | (with_reducible refine Touch.drewN ?_ _) | (with_reducible refine Touch.alloc ?_ _) | (with_reducible refine Touch.setCell ?_ _ _ _ ?_) | (with_reducible refine Touch.step (by assumption) ?_) | (with_reducible refine Touch.stepT (by assumption) ?_ ?_) | (intro _; first | rfl | trivial | omega | (simp; done) | (simp; omega)) | (intro _ _; first | omega | (simp; done) | (simp; omega)))))
      have hb0 := heap_new w (.cells #[.int .i64 k, .int .i64 r, .int .i64 t, .int .i64 l, .int .i64 ep, .int .i64 ca] 32 (0, 0))
      go_enter Tryz.func40, Tryz.ntmps40
      go_wp2_with (first
        | ((go_at_call 145; (with_reducible refine (CH _).mono ?_); rintro e w' ⟨rfl, hx⟩); have hB := hw0.trans (hx.mono hw0.size); have h2 := h.after hB; have hb2 := (hx.block _ (lt_of_block hb0)).trans hb0; have g0 := cell_of hb2 0; have g1 := cell_of hb2 1; have g2 := cell_of hb2 2; have g3 := cell_of hb2 3; have g4 := cell_of hb2 4; have g5 := cell_of hb2 5; dsimp at g0 g1 g2 g3 g4 g5)
        | ((go_at_call 56; (with_reducible refine (RM _ h2).mono ?_); rintro e w' ⟨rfl, hx⟩); have hB := hB.trans (hx.mono hB.size); have h3 := h2.after hx; have hb3 := (hx.block _ (lt_of_block hb2)).trans hb2)
        | ((go_at_call 146; (with_reducible refine (LF _ h3).mono ?_); rintro e w' ⟨rfl, hx⟩); have hB := hB.trans (hx.mono hB.size); have h4 := h3.after hx; have hb4 := (hx.block _ (lt_of_block hb3)).trans hb3; have g0 := cell_of hb4 0; have g1 := cell_of hb4 1; have g2 := cell_of hb4 2; have g3 := cell_of hb4 3; have g4 := cell_of hb4 4; have g5 := cell_of hb4 5; dsimp at g0 g1 g2 g3 g4 g5)
        | ((go_at_call 144; (with_reducible refine (PT _ h4).mono ?_); rintro e w' ⟨rfl, h5, ht⟩)))
      go_ret
      exact ⟨rfl, h5, (Touch.of_below hB).trans ht⟩
  exact key _ _ rfl rfl
end Go.Proofs.YtejdfdllgobnhaaGreat
