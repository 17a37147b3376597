/- Several texts in one: R13d, R13e, R13f, R13g. -/
import Derived.Test.YtejdfdllgobnhaaGreatR13c
import Derived.Test.YtejdfdllgobnhaaGreatGTab
/- R13d -/
set_option linter.unusedVariables false
set_option linter.unusedSimpArgs false
namespace Go.Proofs.YtejdfdllgobnhaaGreat
open Go.RowKit
set_option maxHeartbeats 2000000 in
set_option maxRecDepth 100000 in
theorem r13_freeze (B : RMB) (m : MemS) (f now : Int) (w : World) (h : RMemIs w B m) (ok : m.Ok) : Calls Tryz.prog 64 #[.pointer (some ⟨B.v, 0, none⟩), .int .i64 f, .int .i64 now] w fun e w' =>
    e = .returned (.int .i64 (freezeE m f now)) ∧ RMemIs w' B (m.freeze f now) ∧ Touch (B.own m.n) w w' := by
  have TI := fun w => r13_time now w
  have HG := fun w h => r10_get B m f w h ok
  have PT := fun w h => r10_put B m f (frzOf m f now) w h ok
  unfold freezeE MemS.freeze frzOf at *
  cases ht : timeB now
  · rw [ht] at TI
    simp only [Bool.false_eq_true, if_false, false_and]
    clear HG PT ht
    go_enter Tryz.func64, Tryz.ntmps64
    go_wp2_with (((go_at_call 162; (with_reducible refine (TI _).mono ?_); rintro e w' ⟨rfl, rfl⟩)))
    go_ret
    exact ⟨rfl, h, Touch.refl _ _⟩
  rw [ht] at TI
  simp only [if_true, true_and]
  clear ht
  generalize hEE : (if headOk m f ⟨1, (hdC m f).lv, true, now⟩ = true then (0 : Int) else 1) = EE at *
  generalize hMM : m.head f ⟨1, (hdC m f).lv, true, now⟩ = MM at *
  clear hEE hMM
  generalize hdE m f = E at *
  generalize hdC m f = C at *
  obtain ⟨k0, l0, z0, t0⟩ := C
  unfold HeadS.v at HG PT
  dsimp only at HG PT ⊢
  by_cases hE : E = 0
  rotate_left
  · have hE2 : (E == 0) = false := by simpa using hE
    have hE3 : (E != 0) = true := by simpa using hE
    rw [if_neg (fun h : E = 0 ∧ _ => hE h.1), if_neg (fun h : E = 0 ∧ _ => hE h.1)]
    go_enter Tryz.func64, Tryz.ntmps64
    go_wp2_with (first | ((go_at_call 162; (with_reducible refine (TI _).mono ?_); rintro e w' ⟨rfl, rfl⟩)) | ((go_at_call 155; (with_reducible refine (HG _ h).mono ?_); rintro e w' ⟨rfl, hx⟩); have hB := hx.alloc hx.size (.cells #[.int .i64 k0, .int .i64 l0, .bool z0, .int .i64 t0] 195 (0, 0)); have hb := heap_new w' (.cells #[.int .i64 k0, .int .i64 l0, .bool z0, .int .i64 t0] 195 (0, 0)); have g0 := cell_of hb 0; have g1 := cell_of hb 1; have g2 := cell_of hb 2; have g3 := cell_of hb 3; have gf := frozen_of hb; have lb := lt_of_block hb; dsimp at g0 g1 g2 g3))
    go_ret
    exact ⟨rfl, h.after hB, Touch.of_below hB⟩
  subst hE
  by_cases hk : k0 = 1
  rotate_left
  · have hk2 : (k0 == 1) = false := by simpa using hk
    have hk3 : (k0 != 1) = true := by simpa using hk
    rw [if_neg (fun h : (0 : Int) = 0 ∧ k0 = 1 => hk h.2), if_neg (fun h : (0 : Int) = 0 ∧ k0 = 1 ∧ _ => hk h.2.1)]
    go_enter Tryz.func64, Tryz.ntmps64
    go_wp2_with (first | ((go_at_call 162; (with_reducible refine (TI _).mono ?_); rintro e w' ⟨rfl, rfl⟩)) | ((go_at_call 155; (with_reducible refine (HG _ h).mono ?_); rintro e w' ⟨rfl, hx⟩); have hB := hx.alloc hx.size (.cells #[.int .i64 k0, .int .i64 l0, .bool z0, .int .i64 t0] 195 (0, 0)); have hb := heap_new w' (.cells #[.int .i64 k0, .int .i64 l0, .bool z0, .int .i64 t0] 195 (0, 0)); have g0 := cell_of hb 0; have g1 := cell_of hb 1; have g2 := cell_of hb 2; have g3 := cell_of hb 3; have gf := frozen_of hb; have lb := lt_of_block hb; dsimp at g0 g1 g2 g3))
    go_ret
    exact ⟨rfl, h.after hB, Touch.of_below hB⟩
  have hk2 : (k0 == 1) = true := by simpa using hk
  have hk3 : (k0 != 1) = false := by simpa using hk
  cases z0
  rotate_left
  · rw [if_pos (show (0 : Int) = 0 ∧ k0 = 1 from ⟨rfl, hk⟩), if_pos rfl, if_neg (fun h : (0 : Int) = 0 ∧ k0 = 1 ∧ true = false => by cases h.2.2)]
    clear hk PT
    have z0 : Bool := true
    go_enter Tryz.func64, Tryz.ntmps64
    go_wp2_with (first | ((go_at_call 162; (with_reducible refine (TI _).mono ?_); rintro e w' ⟨rfl, rfl⟩)) | ((go_at_call 155; (with_reducible refine (HG _ h).mono ?_); rintro e w' ⟨rfl, hx⟩); have hB := hx.alloc hx.size (.cells #[.int .i64 k0, .int .i64 l0, .bool true, .int .i64 t0] 195 (0, 0))))
    go_ret
    exact ⟨rfl, h.after hB, Touch.of_below hB⟩
  · rw [if_pos (show (0 : Int) = 0 ∧ k0 = 1 from ⟨rfl, hk⟩), if_neg (by simp), if_pos (show (0 : Int) = 0 ∧ k0 = 1 ∧ false = false from ⟨rfl, hk, rfl⟩)]
    subst hk
    clear hk2 hk3
    go_enter Tryz.func64, Tryz.ntmps64
    go_upto_region 8 with (first | ((go_at_call 162; (with_reducible refine (TI _).mono ?_); rintro e w' ⟨rfl, rfl⟩)) | ((go_at_call 155; (with_reducible refine (HG _ h).mono ?_); rintro e w' ⟨rfl, hx⟩); have hB := hx.alloc hx.size (.cells #[.int .i64 1, .int .i64 l0, .bool false, .int .i64 t0] 195 (0, 0)); have hb := heap_new w' (.cells #[.int .i64 1, .int .i64 l0, .bool false, .int .i64 t0] 195 (0, 0))))
    have hlt := hx.size
    generalize w'.alloc (.cells #[.int .i64 1, .int .i64 l0, .bool false, .int .i64 t0] 195 (0, 0)) = W at *
    generalize w'.heap.size = N at *
    have g0 := cell_of hb 0; have g1 := cell_of hb 1; have g2 := cell_of hb 2; have g3 := cell_of hb 3; have gf := frozen_of hb
    dsimp at g0 g1 g2 g3
    have hB2 : Below w.heap.size w ((W.setCell ⟨N, 2, none⟩ (.bool true)).setCell ⟨N, 3, none⟩ (.int .i64 now)) := (hB.setCell (p := ⟨N, 2, none⟩) hlt _).setCell (p := ⟨N, 3, none⟩) hlt _
    have hm := h.after hB2
    go_wp2_with ((go_at_call 167; (with_reducible refine (PT _ hm).mono ?_); rintro e w' ⟨rfl, hm2, ht⟩))
    go_ret
    exact ⟨rfl, hm2, (Touch.of_below hB2).trans ht⟩
end Go.Proofs.YtejdfdllgobnhaaGreat
/- R13e -/
set_option linter.unusedVariables false
set_option linter.unusedSimpArgs false
namespace Go.Proofs.YtejdfdllgobnhaaGreat
open Go.RowKit
set_option maxHeartbeats 2000000 in
set_option maxRecDepth 100000 in
theorem r13_cons (B : RMB) (m : MemS) (root high leaf fl : Int) (w : World) (h : RMemIs w B m) (ok : m.Ok) : Calls Tryz.prog 39 #[.pointer (some ⟨B.v, 0, none⟩), .int .i64 root, .int .i64 high, .int .i64 leaf, .int .i64 fl] w fun e w' =>
    e = .returned (.int .i64 (consE m root high leaf fl)) ∧ RMemIs w' B (m.cons root high leaf fl) ∧ Touch (B.own m.n) w w' := by
  have T0 := fun w h => r13_table B m root 0 w h ok
  have T1 := fun w h => r13_table B m leaf 1 w h ok
  have SG := fun w h => r11_get B m root high w h ok
  have QT := fun w => r13_quiet (slotC m root high) fl w
  have PT := fun w h => r11_put B m root high (consC leaf) w h ok
  cases hi : inB high 16
  · have e1 : consE m root high leaf fl = 1 := by unfold consE; rw [hi]; rfl
    have e2 : m.cons root high leaf fl = m := by unfold MemS.cons; rw [hi, if_neg (fun h => by cases h.1)]
    rw [e1, e2]
    clear T0 T1 SG QT PT e1 e2
    rcases i16_out hi with hi | ⟨hi0, hi⟩
    all_goals
      go_enter Tryz.func39, Tryz.ntmps39
      go_wp2
      go_ret
      exact ⟨rfl, h, Touch.refl _ _⟩
  obtain ⟨i0, i1⟩ := inB_iff.1 hi
  by_cases hT : isT m root 0 = true ∧ isT m leaf 1 = true
  rotate_left
  · have e1 : consE m root high leaf fl = 4 := by unfold consE; rw [hi, if_pos rfl, if_neg hT]
    have e2 : m.cons root high leaf fl = m := by unfold MemS.cons; rw [if_neg (fun h => hT ⟨h.2.1, h.2.2.1⟩)]
    rw [e1, e2]
    clear SG QT PT e1 e2 hi
    generalize isT m root 0 = b0 at *
    generalize isT m leaf 1 = b1 at *
    generalize (hdC m root).fz = z0 at *
    generalize (hdC m leaf).fz = z1 at *
    rcases (by cases b0 <;> cases b1 <;> simp at hT <;> simp : b0 = false ∨ (b0 = true ∧ b1 = false)) with rfl | ⟨rfl, rfl⟩
    all_goals
      clear hT
      go_enter Tryz.func39, Tryz.ntmps39
      go_wp2_with (first | ((go_at_call 141; (with_reducible refine (T0 _ h).mono ?_); rintro e w' ⟨rfl, hx⟩); have hB := hx; have h2 := h.after hx) | ((go_at_call 141; (with_reducible refine (T1 _ h2).mono ?_); rintro e w' ⟨rfl, hx⟩); have hB := hB.trans (hx.mono hB.size); have h3 := h2.after hx))
      go_ret
      exact ⟨rfl, h3, Touch.of_below hB⟩
  obtain ⟨ht0, ht1⟩ := hT
  rw [ht0] at T0
  rw [ht1] at T1
  by_cases hz : (hdC m root).fz = true ∨ (hdC m leaf).fz = true
  · have e1 : consE m root high leaf fl = 6 := by unfold consE; rw [hi, if_pos rfl, if_pos ⟨ht0, ht1⟩, if_pos hz]
    have e2 : m.cons root high leaf fl = m := by
      unfold MemS.cons; rw [if_neg (fun h => by
        rcases hz with hz | hz
        · rw [h.2.2.2.1] at hz; cases hz
        · rw [h.2.2.2.2.1] at hz; cases hz)]
    rw [e1, e2]
    clear SG QT PT e1 e2 hi ht0 ht1
    generalize (hdC m root).fz = z0 at *
    generalize (hdC m leaf).fz = z1 at *
    rcases (by cases z0 <;> cases z1 <;> simp at hz <;> simp : z0 = true ∨ (z0 = false ∧ z1 = true)) with rfl | ⟨rfl, rfl⟩
    all_goals
      clear hz
      go_enter Tryz.func39, Tryz.ntmps39
      go_wp2_with (first | ((go_at_call 141; (with_reducible refine (T0 _ h).mono ?_); rintro e w' ⟨rfl, hx⟩); have hB := hx; have h2 := h.after hx) | ((go_at_call 141; (with_reducible refine (T1 _ h2).mono ?_); rintro e w' ⟨rfl, hx⟩); have hB := hB.trans (hx.mono hB.size); have h3 := h2.after hx))
      go_ret
      exact ⟨rfl, h3, Touch.of_below hB⟩
  have hz0 : (hdC m root).fz = false := by cases hc : (hdC m root).fz <;> simp [hc] at hz ⊢
  have hz1 : (hdC m leaf).fz = false := by cases hc : (hdC m leaf).fz <;> simp [hc] at hz ⊢
  rw [hz0] at T0
  rw [hz1] at T1
  have eq1 : consE m root high leaf fl = if freeE m root high fl = 0 then (if putOk m root high (consC leaf) then 0 else 1) else freeE m root high fl := by unfold consE; rw [hi, if_pos rfl, if_pos ⟨ht0, ht1⟩, if_neg hz]
  have eq2 : m.cons root high leaf fl = if freeE m root high fl = 0 then m.slot root high (consC leaf) else m := by
    unfold MemS.cons
    by_cases hf : freeE m root high fl = 0
    · rw [if_pos ⟨hi, ht0, ht1, hz0, hz1, hf⟩, if_pos hf]
    · rw [if_neg (fun h => hf h.2.2.2.2.2), if_neg hf]
  rw [eq1, eq2]
  clear eq1 eq2 hi ht0 ht1 hz hz0 hz1
  by_cases hE : slotE m root high = 0
  rotate_left
  · have e : freeE m root high fl = slotE m root high := by unfold freeE; rw [if_neg hE]
    rw [e, if_neg hE, if_neg hE]
    clear e QT PT
    generalize slotE m root high = E at *
    generalize slotC m root high = C at *
    obtain ⟨k, r, t, l, ep, ca⟩ := C
    unfold CapS.v at SG
    dsimp only at SG
    have h2 : (E == 0) = false := by simpa using hE
    have h3 : (E != 0) = true := by simpa using hE
    go_enter Tryz.func39, Tryz.ntmps39
    go_wp2_with (first | ((go_at_call 141; (with_reducible refine (T0 _ h).mono ?_); rintro e w' ⟨rfl, hx⟩); have hB := hx; have h2 := h.after hx) | ((go_at_call 141; (with_reducible refine (T1 _ h2).mono ?_); rintro e w' ⟨rfl, hx⟩); have hB := hB.trans (hx.mono hB.size); have h3 := h2.after hx) | ((go_at_call 142; (with_reducible refine (SG _ h3).mono ?_); rintro e w' ⟨rfl, hx⟩); have hB := hB.trans (hx.mono hB.size); have hB := hB.alloc hB.size (.cells #[.int .i64 k, .int .i64 r, .int .i64 t, .int .i64 l, .int .i64 ep, .int .i64 ca] 32 (0, 0)); have hD := heap_new w' (.cells #[.int .i64 k, .int .i64 r, .int .i64 t, .int .i64 l, .int .i64 ep, .int .i64 ca] 32 (0, 0)); have g0 := cell_of hD 0; have g1 := cell_of hD 1; have g2 := cell_of hD 2; have g3 := cell_of hD 3; have g4 := cell_of hD 4; have g5 := cell_of hD 5; dsimp at g0 g1 g2 g3 g4 g5))
    go_ret
    exact ⟨rfl, h.after hB, Touch.of_below hB⟩
  have e : freeE m root high fl = if 1 < (slotC m root high).k then 10 else if quietC (slotC m root high) fl then 0 else 6 := by unfold freeE; rw [if_pos hE]
  rw [hE] at SG
  rw [e]
  clear e hE
  generalize hq : quietC (slotC m root high) fl = q at *
  clear hq
  generalize slotC m root high = C at *
  obtain ⟨k, r, t, l, ep, ca⟩ := C
  unfold CapS.v at SG QT
  dsimp only at SG QT ⊢
  by_cases hk : 1 < k
  · rw [if_pos hk, if_neg (by decide), if_neg (by decide)]
    clear QT PT
    go_enter Tryz.func39, Tryz.ntmps39
    go_wp2_with (first | ((go_at_call 141; (with_reducible refine (T0 _ h).mono ?_); rintro e w' ⟨rfl, hx⟩); have hB := hx; have h2 := h.after hx) | ((go_at_call 141; (with_reducible refine (T1 _ h2).mono ?_); rintro e w' ⟨rfl, hx⟩); have hB := hB.trans (hx.mono hB.size); have h3 := h2.after hx) | ((go_at_call 142; (with_reducible refine (SG _ h3).mono ?_); rintro e w' ⟨rfl, hx⟩); have hB := hB.trans (hx.mono hB.size); have hB := hB.alloc hB.size (.cells #[.int .i64 k, .int .i64 r, .int .i64 t, .int .i64 l, .int .i64 ep, .int .i64 ca] 32 (0, 0)); have hD := heap_new w' (.cells #[.int .i64 k, .int .i64 r, .int .i64 t, .int .i64 l, .int .i64 ep, .int .i64 ca] 32 (0, 0)); have g0 := cell_of hD 0; have g1 := cell_of hD 1; have g2 := cell_of hD 2; have g3 := cell_of hD 3; have g4 := cell_of hD 4; have g5 := cell_of hD 5; dsimp at g0 g1 g2 g3 g4 g5))
    go_ret
    exact ⟨rfl, h.after hB, Touch.of_below hB⟩
  rw [if_neg hk]
  cases q
  · simp only [Bool.false_eq_true, if_false, show ¬ (6 : Int) = 0 by decide]
    clear PT
    go_enter Tryz.func39, Tryz.ntmps39
    go_wp2_with (first | ((go_at_call 141; (with_reducible refine (T0 _ h).mono ?_); rintro e w' ⟨rfl, hx⟩); have hB := hx; have h2 := h.after hx) | ((go_at_call 141; (with_reducible refine (T1 _ h2).mono ?_); rintro e w' ⟨rfl, hx⟩); have hB := hB.trans (hx.mono hB.size); have h3 := h2.after hx) | ((go_at_call 142; (with_reducible refine (SG _ h3).mono ?_); rintro e w' ⟨rfl, hx⟩); have hB := hB.trans (hx.mono hB.size); have hB := hB.alloc hB.size (.cells #[.int .i64 k, .int .i64 r, .int .i64 t, .int .i64 l, .int .i64 ep, .int .i64 ca] 32 (0, 0)); have hD := heap_new w' (.cells #[.int .i64 k, .int .i64 r, .int .i64 t, .int .i64 l, .int .i64 ep, .int .i64 ca] 32 (0, 0)); have g0 := cell_of hD 0; have g1 := cell_of hD 1; have g2 := cell_of hD 2; have g3 := cell_of hD 3; have g4 := cell_of hD 4; have g5 := cell_of hD 5; dsimp at g0 g1 g2 g3 g4 g5) | ((go_at_call 143; (with_reducible refine (QT _).mono ?_); rintro e w' ⟨rfl, hx⟩); have hB := hB.trans (hx.mono hB.size)))
    go_ret
    exact ⟨rfl, h.after hB, Touch.of_below hB⟩
  · simp only [if_true]
    generalize (if putOk m root high (consC leaf) = true then (0 : Int) else 1) = EE at *
    generalize m.slot root high (consC leaf) = MM at *
    unfold consC CapS.v at PT
    dsimp only at PT
    go_enter Tryz.func39, Tryz.ntmps39
    go_wp2_with (first | ((go_at_call 141; (with_reducible refine (T0 _ h).mono ?_); rintro e w' ⟨rfl, hx⟩); have hB := hx; have h2 := h.after hx) | ((go_at_call 141; (with_reducible refine (T1 _ h2).mono ?_); rintro e w' ⟨rfl, hx⟩); have hB := hB.trans (hx.mono hB.size); have h3 := h2.after hx) | ((go_at_call 142; (with_reducible refine (SG _ h3).mono ?_); rintro e w' ⟨rfl, hx⟩); have hB := hB.trans (hx.mono hB.size); have hB := hB.alloc hB.size (.cells #[.int .i64 k, .int .i64 r, .int .i64 t, .int .i64 l, .int .i64 ep, .int .i64 ca] 32 (0, 0)); have hD := heap_new w' (.cells #[.int .i64 k, .int .i64 r, .int .i64 t, .int .i64 l, .int .i64 ep, .int .i64 ca] 32 (0, 0)); have g0 := cell_of hD 0; have g1 := cell_of hD 1; have g2 := cell_of hD 2; have g3 := cell_of hD 3; have g4 := cell_of hD 4; have g5 := cell_of hD 5; dsimp at g0 g1 g2 g3 g4 g5) | ((go_at_call 143; (with_reducible refine (QT _).mono ?_); rintro e w' ⟨rfl, hx⟩); have hB := hB.trans (hx.mono hB.size); have h5 := h.after hB) | ((go_at_call 144; (with_reducible refine (PT _ h5).mono ?_); rintro e w' ⟨rfl, h6, ht⟩)))
    go_ret
    exact ⟨rfl, h6, (Touch.of_below hB).trans ht⟩
end Go.Proofs.YtejdfdllgobnhaaGreat
/- R13f -/
set_option linter.unusedVariables false
set_option linter.unusedSimpArgs false
namespace Go.Proofs.YtejdfdllgobnhaaGreat
open Go.RowKit
set_option maxHeartbeats 2000000 in
set_option maxRecDepth 100000 in
theorem r13_decons (B : RMB) (m : MemS) (root high now fl : Int) (w : World) (h : RMemIs w B m) (ok : m.Ok) : Calls Tryz.prog 60 #[.pointer (some ⟨B.v, 0, none⟩), .int .i64 root, .int .i64 high, .int .i64 now, .int .i64 fl] w fun e w' =>
    e = .returned (.tuple #[.int .i64 (deconsR m root high now fl), .int .i64 (deconsE m root high now fl)]) ∧ RMemIs w' B (m.decons root high now fl) ∧ Touch (B.own m.n) w w' := by
  have TI := fun w => r13_time now w
  have T0 := fun w h => r13_table B m root 0 w h ok
  have SG := fun w h => r11_get B m root high w h ok
  have HG := fun w h => r10_get B m (slotC m root high).t w h ok
  have PT := fun w h => r11_put B m root high (goneC now) w h ok
  have own1 : ∀ x, w.heap.size ≤ x → ¬ B.own m.n x := fun x hx => h.own_lt hx
  have no : ∀ e : Int, deconsD m root high now fl = false → deconsE m root high now fl = e → (deconsR m root high now fl = 0 ∧ deconsE m root high now fl = e ∧ m.decons root high now fl = m) := fun e h1 h2 => ⟨by unfold deconsR; rw [h1]; rfl, h2, by unfold MemS.decons; rw [h1]; rfl⟩
  cases hi : inB high 16
  · obtain ⟨e1, e2, e3⟩ := no 1 (by unfold deconsD; rw [hi]; rfl) (by unfold deconsE; rw [if_neg (fun h => by rw [hi] at h; cases h.1)])
    rw [e1, e2, e3]
    clear TI T0 SG HG PT e1 e2 e3 no
    rcases i16_out hi with hi | ⟨hi0, hi⟩
    all_goals
      go_enter Tryz.func60, Tryz.ntmps60
      go_wp2
      go_ret2
      exact ⟨rfl, h, Touch.refl _ _⟩
  obtain ⟨i0, i1⟩ := inB_iff.1 hi
  cases ht : timeB now
  · obtain ⟨e1, e2, e3⟩ := no 1 (by unfold deconsD; rw [hi, ht]; rfl) (by unfold deconsE; rw [if_neg (fun h => by rw [ht] at h; cases h.2)])
    rw [e1, e2, e3]
    rw [ht] at TI
    clear T0 SG HG PT e1 e2 e3 no hi ht
    go_enter Tryz.func60, Tryz.ntmps60
    go_wp2_with (((go_at_call 162; (with_reducible refine (TI _).mono ?_); rintro e w' ⟨rfl, rfl⟩)))
    go_ret2
    exact ⟨rfl, h, Touch.refl _ _⟩
  rw [ht] at TI
  have hit : inB high 16 = true ∧ timeB now = true := ⟨hi, ht⟩
  cases hT : isT m root 0
  · obtain ⟨e1, e2, e3⟩ := no 4 (by unfold deconsD; rw [hT]; simp) (by unfold deconsE; rw [if_pos hit, hT]; rfl)
    rw [e1, e2, e3]
    rw [hT] at T0
    generalize (hdC m root).fz = zz at *
    clear SG HG PT e1 e2 e3 no hi ht hit hT
    go_enter Tryz.func60, Tryz.ntmps60
    go_wp2_with (first | ((go_at_call 162; (with_reducible refine (TI _).mono ?_); rintro e w' ⟨rfl, rfl⟩)) | ((go_at_call 141; (with_reducible refine (T0 _ h).mono ?_); rintro e w' ⟨rfl, hx⟩); have hB := hx; have h2 := h.after hx))
    go_ret2
    exact ⟨rfl, h2, Touch.of_below hB⟩
  rw [hT] at T0
  by_cases hE : slotE m root high = 0
  rotate_left
  · obtain ⟨e1, e2, e3⟩ := no (slotE m root high) (by unfold deconsD; rw [decide_eq_false hE]; simp) (by unfold deconsE; rw [if_pos hit, hT, if_pos rfl, if_neg hE])
    rw [e1, e2, e3]
    generalize (hdC m root).fz = zz at *
    clear HG PT e1 e2 e3 no hi ht hit hT
    generalize slotE m root high = E at *
    generalize slotC m root high = C at *
    obtain ⟨k, r, t, l, ep, ca⟩ := C
    unfold CapS.v at SG
    dsimp only at SG
    have h2 : (E == 0) = false := by simpa using hE
    have h3 : (E != 0) = true := by simpa using hE
    go_enter Tryz.func60, Tryz.ntmps60
    go_wp2_with (first | ((go_at_call 162; (with_reducible refine (TI _).mono ?_); rintro e w' ⟨rfl, rfl⟩)) | ((go_at_call 141; (with_reducible refine (T0 _ h).mono ?_); rintro e w' ⟨rfl, hx⟩); have hB := hx; have h2 := h.after hx) | ((go_at_call 142; (with_reducible refine (SG _ h2).mono ?_); rintro e w' ⟨rfl, hx⟩); have hB3 := hB.trans (hx.mono hB.size); have hB3 := hB3.alloc hB3.size (.cells #[.int .i64 k, .int .i64 r, .int .i64 t, .int .i64 l, .int .i64 ep, .int .i64 ca] 32 (0, 0)); have h3 := h.after hB3; have hD := heap_new w' (.cells #[.int .i64 k, .int .i64 r, .int .i64 t, .int .i64 l, .int .i64 ep, .int .i64 ca] 32 (0, 0)); have g0 := cell_of hD 0; have g2 := cell_of hD 2; dsimp at g0 g2))
    go_ret2
    exact ⟨rfl, h3, Touch.of_below hB3⟩
  by_cases hk : (slotC m root high).k = 3
  rotate_left
  · obtain ⟨e1, e2, e3⟩ := no 3 (by unfold deconsD; rw [decide_eq_false hk]; simp) (by unfold deconsE; rw [if_pos hit, hT, if_pos rfl, if_pos hE, if_neg hk])
    rw [e1, e2, e3]
    rw [hE] at SG
    generalize (hdC m root).fz = zz at *
    clear HG PT e1 e2 e3 no hi ht hit hT hE
    generalize slotC m root high = C at *
    obtain ⟨k, r, t, l, ep, ca⟩ := C
    unfold CapS.v at SG
    dsimp only at SG hk
    have hk2 : (k == 3) = false := by simpa using hk
    have hk3 : (k != 3) = true := by simpa using hk
    go_enter Tryz.func60, Tryz.ntmps60
    go_wp2_with (first | ((go_at_call 162; (with_reducible refine (TI _).mono ?_); rintro e w' ⟨rfl, rfl⟩)) | ((go_at_call 141; (with_reducible refine (T0 _ h).mono ?_); rintro e w' ⟨rfl, hx⟩); have hB := hx; have h2 := h.after hx) | ((go_at_call 142; (with_reducible refine (SG _ h2).mono ?_); rintro e w' ⟨rfl, hx⟩); have hB3 := hB.trans (hx.mono hB.size); have hB3 := hB3.alloc hB3.size (.cells #[.int .i64 k, .int .i64 r, .int .i64 t, .int .i64 l, .int .i64 ep, .int .i64 ca] 32 (0, 0)); have h3 := h.after hB3; have hD := heap_new w' (.cells #[.int .i64 k, .int .i64 r, .int .i64 t, .int .i64 l, .int .i64 ep, .int .i64 ca] 32 (0, 0)); have g0 := cell_of hD 0; have g2 := cell_of hD 2; dsimp at g0 g2))
    go_ret2
    exact ⟨rfl, h3, Touch.of_below hB3⟩
  cases hS : settledB m (slotC m root high).t fl
  · obtain ⟨e1, e2, e3⟩ := no 6 (by unfold deconsD; rw [hS]; simp) (by unfold deconsE; rw [if_pos hit, hT, if_pos rfl, if_pos hE, if_pos hk, hS]; rfl)
    rw [e1, e2, e3]
    rw [hE] at SG
    unfold settledB at hS
    generalize (hdC m root).fz = zz at *
    clear PT e1 e2 e3 no hi ht hit hT hE
    generalize hdE m (slotC m root high).t = HE at *
    generalize hdC m (slotC m root high).t = HC at *
    generalize slotC m root high = C at *
    obtain ⟨k, r, t, l, ep, ca⟩ := C
    obtain ⟨k0, l0, z0, t0⟩ := HC
    unfold CapS.v at SG
    unfold HeadS.v at HG
    dsimp only at SG hk HG hS
    have hk2 : (k == 3) = true := by simpa using hk
    have hk3 : (k != 3) = false := by simpa using hk
    clear hk
    rcases (by
      by_cases a1 : HE = 0
      · by_cases a2 : k0 = 1
        · cases z0
          · exact .inr (.inr (.inl ⟨a1, a2, rfl⟩))
          · refine .inr (.inr (.inr ⟨a1, a2, rfl, ?_⟩))
            simp [a1, a2] at hS; omega
        · exact .inr (.inl ⟨a1, a2⟩)
      · exact .inl a1 : ¬ HE = 0 ∨ (HE = 0 ∧ ¬ k0 = 1) ∨ (HE = 0 ∧ k0 = 1 ∧ z0 = false) ∨ (HE = 0 ∧ k0 = 1 ∧ z0 = true ∧ fl ≤ t0)) with a1 | ⟨a1, a2⟩ | ⟨a1, a2, a3⟩ | ⟨a1, a2, a3, a4⟩
    · have b1 : (HE == 0) = false := by simpa using a1
      have b2 : (HE != 0) = true := by simpa using a1
      clear hS
      go_enter Tryz.func60, Tryz.ntmps60
      go_wp2_with (first | ((go_at_call 162; (with_reducible refine (TI _).mono ?_); rintro e w' ⟨rfl, rfl⟩)) | ((go_at_call 141; (with_reducible refine (T0 _ h).mono ?_); rintro e w' ⟨rfl, hx⟩); have hB := hx; have h2 := h.after hx) | ((go_at_call 142; (with_reducible refine (SG _ h2).mono ?_); rintro e w' ⟨rfl, hx⟩); have hB3 := hB.trans (hx.mono hB.size); have hB3 := hB3.alloc hB3.size (.cells #[.int .i64 k, .int .i64 r, .int .i64 t, .int .i64 l, .int .i64 ep, .int .i64 ca] 32 (0, 0)); have h3 := h.after hB3; have hD := heap_new w' (.cells #[.int .i64 k, .int .i64 r, .int .i64 t, .int .i64 l, .int .i64 ep, .int .i64 ca] 32 (0, 0)); have g0 := cell_of hD 0; have g2 := cell_of hD 2; dsimp at g0 g2) | ((go_at_call 155; (with_reducible refine (HG _ h3).mono ?_); rintro e w' ⟨rfl, hx⟩); have hB4 := hB3.trans (hx.mono hB3.size); have hB5 := hB4.alloc hB4.size (.cells #[.int .i64 k0, .int .i64 l0, .bool z0, .int .i64 t0] 195 (0, 0)); have hD4 := (hx.block _ (lt_of_block hD)).trans hD; have hD5 := heap_alloc hD4 (.cells #[.int .i64 k0, .int .i64 l0, .bool z0, .int .i64 t0] 195 (0, 0)); have hH := heap_new w' (.cells #[.int .i64 k0, .int .i64 l0, .bool z0, .int .i64 t0] 195 (0, 0)); have q0 := cell_of hH 0; have q2 := cell_of hH 2; have q3 := cell_of hH 3; dsimp at q0 q2 q3))
      go_ret2
      exact ⟨rfl, h.after hB5, Touch.of_below hB5⟩
    · have b1 : (HE == 0) = true := by simpa using a1
      have b2 : (HE != 0) = false := by simpa using a1
      have b3 : (k0 == 1) = false := by simpa using a2
      have b4 : (k0 != 1) = true := by simpa using a2
      clear hS a1
      go_enter Tryz.func60, Tryz.ntmps60
      go_wp2_with (first | ((go_at_call 162; (with_reducible refine (TI _).mono ?_); rintro e w' ⟨rfl, rfl⟩)) | ((go_at_call 141; (with_reducible refine (T0 _ h).mono ?_); rintro e w' ⟨rfl, hx⟩); have hB := hx; have h2 := h.after hx) | ((go_at_call 142; (with_reducible refine (SG _ h2).mono ?_); rintro e w' ⟨rfl, hx⟩); have hB3 := hB.trans (hx.mono hB.size); have hB3 := hB3.alloc hB3.size (.cells #[.int .i64 k, .int .i64 r, .int .i64 t, .int .i64 l, .int .i64 ep, .int .i64 ca] 32 (0, 0)); have h3 := h.after hB3; have hD := heap_new w' (.cells #[.int .i64 k, .int .i64 r, .int .i64 t, .int .i64 l, .int .i64 ep, .int .i64 ca] 32 (0, 0)); have g0 := cell_of hD 0; have g2 := cell_of hD 2; dsimp at g0 g2) | ((go_at_call 155; (with_reducible refine (HG _ h3).mono ?_); rintro e w' ⟨rfl, hx⟩); have hB4 := hB3.trans (hx.mono hB3.size); have hB5 := hB4.alloc hB4.size (.cells #[.int .i64 k0, .int .i64 l0, .bool z0, .int .i64 t0] 195 (0, 0)); have hD4 := (hx.block _ (lt_of_block hD)).trans hD; have hD5 := heap_alloc hD4 (.cells #[.int .i64 k0, .int .i64 l0, .bool z0, .int .i64 t0] 195 (0, 0)); have hH := heap_new w' (.cells #[.int .i64 k0, .int .i64 l0, .bool z0, .int .i64 t0] 195 (0, 0)); have q0 := cell_of hH 0; have q2 := cell_of hH 2; have q3 := cell_of hH 3; dsimp at q0 q2 q3))
      go_ret2
      exact ⟨rfl, h.after hB5, Touch.of_below hB5⟩
    · have b1 : (HE == 0) = true := by simpa using a1
      have b2 : (HE != 0) = false := by simpa using a1
      have b3 : (k0 == 1) = true := by simpa using a2
      have b4 : (k0 != 1) = false := by simpa using a2
      subst a3
      clear hS a1 a2
      go_enter Tryz.func60, Tryz.ntmps60
      go_wp2_with (first | ((go_at_call 162; (with_reducible refine (TI _).mono ?_); rintro e w' ⟨rfl, rfl⟩)) | ((go_at_call 141; (with_reducible refine (T0 _ h).mono ?_); rintro e w' ⟨rfl, hx⟩); have hB := hx; have h2 := h.after hx) | ((go_at_call 142; (with_reducible refine (SG _ h2).mono ?_); rintro e w' ⟨rfl, hx⟩); have hB3 := hB.trans (hx.mono hB.size); have hB3 := hB3.alloc hB3.size (.cells #[.int .i64 k, .int .i64 r, .int .i64 t, .int .i64 l, .int .i64 ep, .int .i64 ca] 32 (0, 0)); have h3 := h.after hB3; have hD := heap_new w' (.cells #[.int .i64 k, .int .i64 r, .int .i64 t, .int .i64 l, .int .i64 ep, .int .i64 ca] 32 (0, 0)); have g0 := cell_of hD 0; have g2 := cell_of hD 2; dsimp at g0 g2) | ((go_at_call 155; (with_reducible refine (HG _ h3).mono ?_); rintro e w' ⟨rfl, hx⟩); have hB4 := hB3.trans (hx.mono hB3.size); have hB5 := hB4.alloc hB4.size (.cells #[.int .i64 k0, .int .i64 l0, .bool false, .int .i64 t0] 195 (0, 0)); have hD4 := (hx.block _ (lt_of_block hD)).trans hD; have hD5 := heap_alloc hD4 (.cells #[.int .i64 k0, .int .i64 l0, .bool false, .int .i64 t0] 195 (0, 0)); have hH := heap_new w' (.cells #[.int .i64 k0, .int .i64 l0, .bool false, .int .i64 t0] 195 (0, 0)); have q0 := cell_of hH 0; have q2 := cell_of hH 2; have q3 := cell_of hH 3; dsimp at q0 q2 q3))
      go_ret2
      exact ⟨rfl, h.after hB5, Touch.of_below hB5⟩
    · have b1 : (HE == 0) = true := by simpa using a1
      have b2 : (HE != 0) = false := by simpa using a1
      have b3 : (k0 == 1) = true := by simpa using a2
      have b4 : (k0 != 1) = false := by simpa using a2
      subst a3
      clear hS a1 a2
      go_enter Tryz.func60, Tryz.ntmps60
      go_wp2_with (first | ((go_at_call 162; (with_reducible refine (TI _).mono ?_); rintro e w' ⟨rfl, rfl⟩)) | ((go_at_call 141; (with_reducible refine (T0 _ h).mono ?_); rintro e w' ⟨rfl, hx⟩); have hB := hx; have h2 := h.after hx) | ((go_at_call 142; (with_reducible refine (SG _ h2).mono ?_); rintro e w' ⟨rfl, hx⟩); have hB3 := hB.trans (hx.mono hB.size); have hB3 := hB3.alloc hB3.size (.cells #[.int .i64 k, .int .i64 r, .int .i64 t, .int .i64 l, .int .i64 ep, .int .i64 ca] 32 (0, 0)); have h3 := h.after hB3; have hD := heap_new w' (.cells #[.int .i64 k, .int .i64 r, .int .i64 t, .int .i64 l, .int .i64 ep, .int .i64 ca] 32 (0, 0)); have g0 := cell_of hD 0; have g2 := cell_of hD 2; dsimp at g0 g2) | ((go_at_call 155; (with_reducible refine (HG _ h3).mono ?_); rintro e w' ⟨rfl, hx⟩); have hB4 := hB3.trans (hx.mono hB3.size); have hB5 := hB4.alloc hB4.size (.cells #[.int .i64 k0, .int .i64 l0, .bool true, .int .i64 t0] 195 (0, 0)); have hD4 := (hx.block _ (lt_of_block hD)).trans hD; have hD5 := heap_alloc hD4 (.cells #[.int .i64 k0, .int .i64 l0, .bool true, .int .i64 t0] 195 (0, 0)); have hH := heap_new w' (.cells #[.int .i64 k0, .int .i64 l0, .bool true, .int .i64 t0] 195 (0, 0)); have q0 := cell_of hH 0; have q2 := cell_of hH 2; have q3 := cell_of hH 3; dsimp at q0 q2 q3))
      go_ret2
      exact ⟨rfl, h.after hB5, Touch.of_below hB5⟩
  · have hD : deconsD m root high now fl = true := by unfold deconsD; rw [hi, ht, hT, decide_eq_true hE, decide_eq_true hk, hS]; rfl
    have e1 : deconsR m root high now fl = (slotC m root high).t := by unfold deconsR; rw [hD]; rfl
    have e2 : deconsE m root high now fl = if putOk m root high (goneC now) then 0 else 1 := by unfold deconsE; rw [if_pos hit, hT, if_pos rfl, if_pos hE, if_pos hk, hS, if_pos rfl]
    have e3 : m.decons root high now fl = m.slot root high (goneC now) := by unfold MemS.decons; rw [hD]; rfl
    rw [e1, e2, e3]
    rw [hE] at SG
    unfold settledB at hS
    simp only [Bool.and_eq_true, decide_eq_true_eq] at hS
    obtain ⟨⟨⟨s1, s2⟩, s3⟩, s4⟩ := hS
    rw [s1] at HG
    generalize (hdC m root).fz = zz at *
    generalize (if putOk m root high (goneC now) = true then (0 : Int) else 1) = EE at *
    generalize m.slot root high (goneC now) = MM at *
    clear e1 e2 e3 no hi ht hit hT hE hD s1
    generalize hdC m (slotC m root high).t = HC at *
    generalize slotC m root high = C at *
    obtain ⟨k, r, t, l, ep, ca⟩ := C
    obtain ⟨k0, l0, z0, t0⟩ := HC
    unfold CapS.v at SG
    unfold HeadS.v at HG
    unfold goneC CapS.v at PT
    dsimp only at SG hk HG s2 s3 s4 PT ⊢
    have hk2 : (k == 3) = true := by simpa using hk
    have hk3 : (k != 3) = false := by simpa using hk
    have b3 : (k0 == 1) = true := by simpa using s2
    have b4 : (k0 != 1) = false := by simpa using s2
    have b5 : ¬ fl ≤ t0 := by omega
    subst s3
    clear hk s2 s4
    go_enter Tryz.func60, Tryz.ntmps60
    go_upto_region 11 with (first | ((go_at_call 162; (with_reducible refine (TI _).mono ?_); rintro e w' ⟨rfl, rfl⟩)) | ((go_at_call 141; (with_reducible refine (T0 _ h).mono ?_); rintro e w' ⟨rfl, hx⟩); have hB := hx; have h2 := h.after hx) | ((go_at_call 142; (with_reducible refine (SG _ h2).mono ?_); rintro e w' ⟨rfl, hx⟩); have hB3 := hB.trans (hx.mono hB.size); have hB3 := hB3.alloc hB3.size (.cells #[.int .i64 k, .int .i64 r, .int .i64 t, .int .i64 l, .int .i64 ep, .int .i64 ca] 32 (0, 0)); have h3 := h.after hB3; have hD := heap_new w' (.cells #[.int .i64 k, .int .i64 r, .int .i64 t, .int .i64 l, .int .i64 ep, .int .i64 ca] 32 (0, 0)); have g0 := cell_of hD 0; have g2 := cell_of hD 2; dsimp at g0 g2))
    have hDl := lt_of_block hD
    have hwN : w.heap.size ≤ w'.heap.size := by have := hB.size; have := hx.size; omega
    generalize w'.alloc (.cells #[.int .i64 k, .int .i64 r, .int .i64 t, .int .i64 l, .int .i64 ep, .int .i64 ca] 32 (0, 0)) = W3 at *
    generalize w'.heap.size = N at *
    go_upto_region 14 with (((go_at_call 155; (with_reducible refine (HG _ h3).mono ?_); rintro e w' ⟨rfl, hx⟩); have hB4 := hB3.trans (hx.mono hB3.size); have hB5 := hB4.alloc hB4.size (.cells #[.int .i64 k0, .int .i64 l0, .bool true, .int .i64 t0] 195 (0, 0)); have hD4 := (hx.block _ (lt_of_block hD)).trans hD; have hD5 := heap_alloc hD4 (.cells #[.int .i64 k0, .int .i64 l0, .bool true, .int .i64 t0] 195 (0, 0)); have hH := heap_new w' (.cells #[.int .i64 k0, .int .i64 l0, .bool true, .int .i64 t0] 195 (0, 0)); have q0 := cell_of hH 0; have q2 := cell_of hH 2; have q3 := cell_of hH 3; dsimp at q0 q2 q3))
    generalize w'.alloc (.cells #[.int .i64 k0, .int .i64 l0, .bool true, .int .i64 t0] 195 (0, 0)) = W5 at *
    have h5 := h.after hB5
    have nN : ¬ B.own m.n N := own1 N hwN
    have kT : ∀ y, Touch (B.own m.n) W5 y → y.cell? ⟨N, 2, none⟩ = some (.int .i64 t) := fun y hT => by
      have q := cell_of (hT.at hD5 nN) 2
      dsimp at q
      exact q
    have d0 : Below W5.heap.size W5 W5.drew := (Below.refl _ W5).drew
    have t0' : Touch (B.own m.n) W5 W5.drew := Touch.of_below d0
    have h6 := h5.after d0
    go_region_held3 (fun y => y.cell? ⟨N, 2, none⟩ = some (.int .i64 t)) (first | (with_reducible exact kT _ t0') | (with_reducible refine kT _ ?_; with_reducible assumption))
      (first
        | (go_at_call 144; (with_reducible refine (PT _ h6).mono ?_); rintro e w' ⟨rfl, hm, hx6⟩; have tT := t0'.trans hx6))
    all_goals
      go_wp2
      go_ret2
      exact ⟨rfl, hm, (Touch.of_below hB5).trans tT⟩
end Go.Proofs.YtejdfdllgobnhaaGreat
/- R13g -/
set_option linter.unusedVariables false
set_option linter.unusedSimpArgs false
namespace Go.Proofs.YtejdfdllgobnhaaGreat
open Go.RowKit
set_option maxHeartbeats 4000000 in
set_option maxRecDepth 100000 in
theorem r13_drop (B : RMB) (m : MemS) (root n now : Int) (w : World) (h : RMemIs w B m) (ok : m.Ok) : Calls Tryz.prog 58 #[.pointer (some ⟨B.v, 0, none⟩), .int .i64 root, .int .i64 n, .int .i64 now] w fun e w' =>
    e = .returned (.tuple #[(dropC m root n now).v, .int .i64 (dropE m root n now)]) ∧ RMemIs w' B (m.drop root n now) ∧ Touch (B.own m.n) w w' := by
  have TI := fun w => r13_time now w
  have LK := fun w h => r13_look B m root n w h ok
  have LF := fun w h => r13_leaf B m root n w h ok
  have PT := fun w h => r11_put B m (walkP m root n).f (walkP m root n).i (goneC now) w h ok
  have own1 : ∀ x, w.heap.size ≤ x → ¬ B.own m.n x := fun x hx => h.own_lt hx
  have hw0 : Below w.heap.size w (w.alloc (.cells #[.int .i64 0, .int .i64 0, .int .i64 0, .int .i64 0, .int .i64 0, .int .i64 0] 32 (0, 0))) := by (refine Touch.below0 ?_; (repeat' (first | (with_reducible exact Touch.refl _ _) | (with_reducible assumption) | (with_reducible refine Touch.drew ?_) | (with_reducible refine Touch.drewN ?_ _) | (with_reducible refine Touch.alloc ?_ _) | (with_reducible refine Touch.setCell ?_ _ _ _ ?_) | (with_reducible refine Touch.step (by assumption) ?_) | (with_reducible refine Touch.stepT (by assumption) ?_ ?_) | (intro _; first | rfl | trivial | omega | (simp; done) | (simp; omega)) | (intro _ _; first | omega | (simp; done) | (simp; omega)))))
  have hR : (w.alloc (.cells #[.int .i64 0, .int .i64 0, .int .i64 0, .int .i64 0, .int .i64 0, .int .i64 0] 32 (0, 0))).heap[w.heap.size]? = some (.cells #[.int .i64 0, .int .i64 0, .int .i64 0, .int .i64 0, .int .i64 0, .int .i64 0] 32 (0, 0)) := heap_new _ _
  have h1 := h.after hw0
  have no : ∀ e : Int, dropD m root n now = false → dropE m root n now = e → (dropC m root n now = CapS.zero ∧ dropE m root n now = e ∧ m.drop root n now = m) := fun e h1 h2 => ⟨by unfold dropC; rw [h1]; rfl, h2, by unfold MemS.drop; rw [h1]; rfl⟩
  cases ht : timeB now
  · obtain ⟨e1, e2, e3⟩ := no 1 (by unfold dropD; rw [ht]; rfl) (by unfold dropE; rw [ht]; rfl)
    rw [e1, e2, e3]
    rw [ht] at TI
    clear LK LF PT e1 e2 e3 no ht
    unfold CapS.zero CapS.v
    dsimp only
    go_enter Tryz.func58, Tryz.ntmps58
    go_wp2_with (((go_at_call 162; (with_reducible refine (TI _).mono ?_); rintro e w' ⟨rfl, rfl⟩)))
    refine bodyPost_ret (v := .tuple #[.agg #[.int .i64 0, .int .i64 0, .int .i64 0, .int .i64 0, .int .i64 0, .int .i64 0], .int .i64 1]) ?_ rfl ⟨rfl, h.after hw0, Touch.of_below hw0⟩
    have hc := cell_of hR
    simp [results, Tryz.f58, go_sem, hc]
  rw [ht] at TI
  by_cases hE : lookE m root n = 0
  rotate_left
  · obtain ⟨e1, e2, e3⟩ := no (lookE m root n) (by unfold dropD; rw [decide_eq_false hE]; simp) (by unfold dropE; rw [ht, if_pos rfl, if_neg hE])
    rw [e1, e2, e3]
    clear LF PT e1 e2 e3 no ht
    generalize lookE m root n = E at *
    generalize lookC m root n = C at *
    obtain ⟨k, r, t, l, ep, ca⟩ := C
    unfold CapS.v at LK
    unfold CapS.zero CapS.v
    dsimp only at LK ⊢
    have hE2 : (E == 0) = false := by simpa using hE
    have hE3 : (E != 0) = true := by simpa using hE
    go_enter Tryz.func58, Tryz.ntmps58
    go_wp2_with (first | ((go_at_call 162; (with_reducible refine (TI _).mono ?_); rintro e w' ⟨rfl, rfl⟩)) | ((go_at_call 62; (with_reducible refine (LK _ h1).mono ?_); rintro e w' ⟨rfl, hx⟩); have hB := hw0.trans (hx.mono hw0.size); have hB := hB.alloc hB.size (.cells #[.int .i64 k, .int .i64 r, .int .i64 t, .int .i64 l, .int .i64 ep, .int .i64 ca] 32 (0, 0)); have h2 := h.after hB; have hR2 := heap_alloc ((hx.block _ (lt_of_block hR)).trans hR) (.cells #[.int .i64 k, .int .i64 r, .int .i64 t, .int .i64 l, .int .i64 ep, .int .i64 ca] 32 (0, 0)); have hD := heap_new w' (.cells #[.int .i64 k, .int .i64 r, .int .i64 t, .int .i64 l, .int .i64 ep, .int .i64 ca] 32 (0, 0)); have g0 := cell_of hR2 0; have g1 := cell_of hR2 1; have g2 := cell_of hR2 2; have g3 := cell_of hR2 3; have g4 := cell_of hR2 4; have g5 := cell_of hR2 5; have fr := frozen_of hR2; dsimp at g0 g1 g2 g3 g4 g5))
    have hF := heap_set (o := 5) (heap_set (o := 4) (heap_set (o := 3) (heap_set (o := 2) (heap_set (o := 1) (heap_set (o := 0) hR2 (.int .i64 0)) (.int .i64 0)) (.int .i64 0)) (.int .i64 0)) (.int .i64 0)) (.int .i64 0)
    have hwZ := ((((((hB).setCell (p := ⟨w.heap.size, 0, none⟩) (Nat.le_refl _) (.int .i64 0)).setCell (p := ⟨w.heap.size, 1, none⟩) (Nat.le_refl _) (.int .i64 0)).setCell (p := ⟨w.heap.size, 2, none⟩) (Nat.le_refl _) (.int .i64 0)).setCell (p := ⟨w.heap.size, 3, none⟩) (Nat.le_refl _) (.int .i64 0)).setCell (p := ⟨w.heap.size, 4, none⟩) (Nat.le_refl _) (.int .i64 0)).setCell (p := ⟨w.heap.size, 5, none⟩) (Nat.le_refl _) (.int .i64 0)
    refine bodyPost_ret (v := .tuple #[.agg #[.int .i64 0, .int .i64 0, .int .i64 0, .int .i64 0, .int .i64 0, .int .i64 0], .int .i64 E]) ?_ rfl ⟨rfl, h.after hwZ, Touch.of_below hwZ⟩
    have hc := cell_of hF
    simp [results, Tryz.f58, go_sem, hc]
  have hW : walkE m root n = 0 := by
    unfold lookE at hE
    by_cases hW : walkE m root n = 0
    · exact hW
    · rw [if_neg hW] at hE; exact hE
  have hP : lookP m root n = walkP m root n := by unfold lookP; rw [if_pos hE]
  rw [hE] at LK
  rw [hW] at LF
  cases hz : (walkP m root n).fz
  rotate_left
  · obtain ⟨e1, e2, e3⟩ := no 6 (by unfold dropD; rw [hP, hz]; simp) (by unfold dropE; rw [ht, if_pos rfl, if_pos hE, hP, hz]; rfl)
    rw [e1, e2, e3]
    rw [hz] at LF
    clear PT e1 e2 e3 no ht hE hW hP hz
    generalize lookC m root n = C at *
    generalize (walkP m root n).f = pf at *
    generalize (walkP m root n).i = pi at *
    obtain ⟨k, r, t, l, ep, ca⟩ := C
    unfold CapS.v at LK
    unfold CapS.zero CapS.v
    dsimp only at LK ⊢
    go_enter Tryz.func58, Tryz.ntmps58
    go_wp2_with (first | ((go_at_call 162; (with_reducible refine (TI _).mono ?_); rintro e w' ⟨rfl, rfl⟩)) | ((go_at_call 62; (with_reducible refine (LK _ h1).mono ?_); rintro e w' ⟨rfl, hx⟩); have hB := hw0.trans (hx.mono hw0.size); have hB := hB.alloc hB.size (.cells #[.int .i64 k, .int .i64 r, .int .i64 t, .int .i64 l, .int .i64 ep, .int .i64 ca] 32 (0, 0)); have h2 := h.after hB; have hR2 := heap_alloc ((hx.block _ (lt_of_block hR)).trans hR) (.cells #[.int .i64 k, .int .i64 r, .int .i64 t, .int .i64 l, .int .i64 ep, .int .i64 ca] 32 (0, 0)); have hD := heap_new w' (.cells #[.int .i64 k, .int .i64 r, .int .i64 t, .int .i64 l, .int .i64 ep, .int .i64 ca] 32 (0, 0)); have g0 := cell_of hR2 0; have g1 := cell_of hR2 1; have g2 := cell_of hR2 2; have g3 := cell_of hR2 3; have g4 := cell_of hR2 4; have g5 := cell_of hR2 5; have fr := frozen_of hR2; dsimp at g0 g1 g2 g3 g4 g5) | ((go_at_call 146; (with_reducible refine (LF _ h2).mono ?_); rintro e w' ⟨rfl, hx⟩); have hB3 := hB.trans (hx.mono hB.size); have h3 := h2.after hx; have hR3 := (hx.block _ (lt_of_block hR2)).trans hR2; have hD3 := (hx.block _ (lt_of_block hD)).trans hD; have g0 := cell_of hR3 0; have g1 := cell_of hR3 1; have g2 := cell_of hR3 2; have g3 := cell_of hR3 3; have g4 := cell_of hR3 4; have g5 := cell_of hR3 5; have fr := frozen_of hR3; dsimp at g0 g1 g2 g3 g4 g5))
    have hF := heap_set (o := 5) (heap_set (o := 4) (heap_set (o := 3) (heap_set (o := 2) (heap_set (o := 1) (heap_set (o := 0) hR3 (.int .i64 0)) (.int .i64 0)) (.int .i64 0)) (.int .i64 0)) (.int .i64 0)) (.int .i64 0)
    have hwZ := ((((((hB3).setCell (p := ⟨w.heap.size, 0, none⟩) (Nat.le_refl _) (.int .i64 0)).setCell (p := ⟨w.heap.size, 1, none⟩) (Nat.le_refl _) (.int .i64 0)).setCell (p := ⟨w.heap.size, 2, none⟩) (Nat.le_refl _) (.int .i64 0)).setCell (p := ⟨w.heap.size, 3, none⟩) (Nat.le_refl _) (.int .i64 0)).setCell (p := ⟨w.heap.size, 4, none⟩) (Nat.le_refl _) (.int .i64 0)).setCell (p := ⟨w.heap.size, 5, none⟩) (Nat.le_refl _) (.int .i64 0)
    refine bodyPost_ret (v := .tuple #[.agg #[.int .i64 0, .int .i64 0, .int .i64 0, .int .i64 0, .int .i64 0, .int .i64 0], .int .i64 6]) ?_ rfl ⟨rfl, h.after hwZ, Touch.of_below hwZ⟩
    have hc := cell_of hF
    simp [results, Tryz.f58, go_sem, hc]
  have hd : dropD m root n now = true := by unfold dropD; rw [ht, decide_eq_true hE, hP, hz]; rfl
  have e1 : dropC m root n now = lookC m root n := by unfold dropC; rw [hd]; rfl
  have e2 : dropE m root n now = if putOk m (walkP m root n).f (walkP m root n).i (goneC now) then 0 else 1 := by unfold dropE; rw [ht, if_pos rfl, if_pos hE, hP, hz]; rfl
  have e3 : m.drop root n now = m.slot (walkP m root n).f (walkP m root n).i (goneC now) := by unfold MemS.drop; rw [hd, hP]; rfl
  rw [e1, e2, e3]
  rw [hz] at LF
  clear e1 e2 e3 no ht hE hW hP hz hd
  generalize (walkP m root n).f = pf at *
  generalize (walkP m root n).i = pi at *
  have hMn := slot_n m pf pi (goneC now)
  generalize (if putOk m pf pi (goneC now) = true then (0 : Int) else 1) = EE at *
  generalize m.slot pf pi (goneC now) = MM at *
  generalize lookC m root n = C at *
  obtain ⟨k, r, t, l, ep, ca⟩ := C
  unfold CapS.v at LK ⊢
  unfold goneC CapS.v at PT
  dsimp only at LK PT ⊢
  go_enter Tryz.func58, Tryz.ntmps58
  go_upto_region 6 with (first | ((go_at_call 162; (with_reducible refine (TI _).mono ?_); rintro e w' ⟨rfl, rfl⟩)) | ((go_at_call 62; (with_reducible refine (LK _ h1).mono ?_); rintro e w' ⟨rfl, hx⟩); have hB := hw0.trans (hx.mono hw0.size); have hB := hB.alloc hB.size (.cells #[.int .i64 k, .int .i64 r, .int .i64 t, .int .i64 l, .int .i64 ep, .int .i64 ca] 32 (0, 0)); have h2 := h.after hB; have hR2 := heap_alloc ((hx.block _ (lt_of_block hR)).trans hR) (.cells #[.int .i64 k, .int .i64 r, .int .i64 t, .int .i64 l, .int .i64 ep, .int .i64 ca] 32 (0, 0)); have hD := heap_new w' (.cells #[.int .i64 k, .int .i64 r, .int .i64 t, .int .i64 l, .int .i64 ep, .int .i64 ca] 32 (0, 0)); have g0 := cell_of hR2 0; have g1 := cell_of hR2 1; have g2 := cell_of hR2 2; have g3 := cell_of hR2 3; have g4 := cell_of hR2 4; have g5 := cell_of hR2 5; have fr := frozen_of hR2; dsimp at g0 g1 g2 g3 g4 g5))
  have hDl := lt_of_block hD
  have hwN1 : w.heap.size < w'.heap.size := by have := hx.size; simp at this; omega
  have hwN : w.heap.size ≤ w'.heap.size := Nat.le_of_lt hwN1
  generalize w'.alloc (.cells #[.int .i64 k, .int .i64 r, .int .i64 t, .int .i64 l, .int .i64 ep, .int .i64 ca] 32 (0, 0)) = W3 at *
  generalize w'.heap.size = N at *
  go_upto_region 9 with (((go_at_call 146; (with_reducible refine (LF _ h2).mono ?_); rintro e w' ⟨rfl, hx⟩); have hB3 := hB.trans (hx.mono hB.size); have h3 := h2.after hx; have hR3 := (hx.block _ (lt_of_block hR2)).trans hR2; have hD3 := (hx.block _ (lt_of_block hD)).trans hD; have g0 := cell_of hR3 0; have g1 := cell_of hR3 1; have g2 := cell_of hR3 2; have g3 := cell_of hR3 3; have g4 := cell_of hR3 4; have g5 := cell_of hR3 5; have fr := frozen_of hR3; dsimp at g0 g1 g2 g3 g4 g5))
  have nN : ¬ B.own m.n N := own1 N hwN
  have nRN : N ≠ w.heap.size := by omega
  have nR : ¬ B.own m.n w.heap.size := own1 _ (Nat.le_refl _)
  generalize w' = W5 at *
  have kT : ∀ y, Touch (B.own m.n) W5 y → y.cell? ⟨N, 0, none⟩ = some (.int .i64 k) ∧ y.cell? ⟨N, 1, none⟩ = some (.int .i64 r) ∧ y.cell? ⟨N, 2, none⟩ = some (.int .i64 t) ∧ y.cell? ⟨N, 3, none⟩ = some (.int .i64 l) ∧ y.cell? ⟨N, 4, none⟩ = some (.int .i64 ep) ∧ y.cell? ⟨N, 5, none⟩ = some (.int .i64 ca) := fun y hT => by
    have q := hT.at hD3 nN
    have z0 := cell_of q 0; have z1 := cell_of q 1; have z2 := cell_of q 2; have z3 := cell_of q 3; have z4 := cell_of q 4; have z5 := cell_of q 5
    dsimp at z0 z1 z2 z3 z4 z5
    exact ⟨z0, z1, z2, z3, z4, z5⟩
  have d0 : Below W5.heap.size W5 W5.drew := (Below.refl _ W5).drew
  have t0' : Touch (B.own m.n) W5 W5.drew := Touch.of_below d0
  have h6 := h3.after d0
  have hwg : w.heap.size ≤ w.heap.size := Nat.le_refl _
  go_region_held3 (fun y => y.cell? ⟨N, 0, none⟩ = some (.int .i64 k) ∧ y.cell? ⟨N, 1, none⟩ = some (.int .i64 r) ∧ y.cell? ⟨N, 2, none⟩ = some (.int .i64 t) ∧ y.cell? ⟨N, 3, none⟩ = some (.int .i64 l) ∧ y.cell? ⟨N, 4, none⟩ = some (.int .i64 ep) ∧ y.cell? ⟨N, 5, none⟩ = some (.int .i64 ca)) (first | (with_reducible exact kT _ t0') | (with_reducible refine kT _ ?_; with_reducible assumption) | (simp only [cell_drew', cell_other nRN]; with_reducible refine kT _ ?_; with_reducible assumption))
    (first
      | (go_at_call 144; (with_reducible refine (PT _ h6).mono ?_); rintro e w' ⟨rfl, hm, hx6⟩; have tT := t0'.trans hx6; have hR8 := tT.at hR3 nR; have g0 := cell_of hR8 0; have g1 := cell_of hR8 1; have g2 := cell_of hR8 2; have g3 := cell_of hR8 3; have g4 := cell_of hR8 4; have g5 := cell_of hR8 5; have fr := frozen_of hR8; dsimp at g0 g1 g2 g3 g4 g5))
  all_goals
    go_wp2
    have hw8 := (Touch.of_below (S := B.own m.n) hB3).trans tT
    have hFC := heap_set (o := 5) (heap_set (o := 4) (heap_set (o := 3) (heap_set (o := 2) (heap_set (o := 1) (heap_set (o := 0) hR8 (.int .i64 k)) (.int .i64 r)) (.int .i64 t)) (.int .i64 l)) (.int .i64 ep)) (.int .i64 ca)
    have hc1 := cell_of hFC
    have tF : ∀ u0 u1 u2 u3 u4 u5, Touch (· = w.heap.size) w' ((((((w'.setCell ⟨w.heap.size, 0, none⟩ u0).setCell ⟨w.heap.size, 1, none⟩ u1).setCell ⟨w.heap.size, 2, none⟩ u2).setCell ⟨w.heap.size, 3, none⟩ u3).setCell ⟨w.heap.size, 4, none⟩ u4).setCell ⟨w.heap.size, 5, none⟩ u5) := fun _ _ _ _ _ _ => by (repeat' (first | (with_reducible exact Touch.refl _ _) | (with_reducible assumption) | (with_reducible refine Touch.drew ?_) | (with_reducible refine Touch.drewN ?_ _) | (with_reducible refine Touch.alloc ?_ _) | (with_reducible refine Touch.setCell ?_ _ _ _ ?_) | (with_reducible refine Touch.step (by assumption) ?_) | (with_reducible refine Touch.stepT (by assumption) ?_ ?_) | (intro _; first | rfl | trivial | omega | (simp; done) | (simp; omega)) | (intro _ _; first | omega | (simp; done) | (simp; omega))))
    have hlv := lt_of_block h.box
    have hlb := h.heads.lt
    refine bodyPost_ret (v := .tuple #[.agg #[.int .i64 k, .int .i64 r, .int .i64 t, .int .i64 l, .int .i64 ep, .int .i64 ca], .int .i64 EE]) ?_ rfl ⟨rfl, (hm.touch (tF _ _ _ _ _ _) (show ¬ B.v = w.heap.size by omega) (show ¬ B.b = w.heap.size by omega) (fun j hj => show ¬ B.fb j = w.heap.size by rw [hMn] at hj; have := (h.rows j hj).lt; omega)), hw8.trans2 (tF _ _ _ _ _ _) (fun i hi hs => by have : i = w.heap.size := hs; omega)⟩
    simp [results, Tryz.f58, go_sem, hc1]
end Go.Proofs.YtejdfdllgobnhaaGreat
