/- Several texts in one: Tbl10, Tbl11, Tbl12, Tbl13. -/
import Derived.Test.YtejdfdllgobnhaaGreatGTbb
/- Tbl10 -/
set_option linter.unusedVariables false
set_option linter.unusedSimpArgs false
namespace Go.Proofs.YtejdfdllgobnhaaGreat
open Go.RowKit
def dropE (m : MemS) (root n now : Int) : Int := if timeB now then (if lookE m root n = 0 then (if (lookP m root n).fz then 6 else if putOk m (lookP m root n).f (lookP m root n).i (goneC now) then 0 else 1) else lookE m root n) else 1
def dropD (m : MemS) (root n now : Int) : Bool := timeB now && decide (lookE m root n = 0) && !(lookP m root n).fz
def dropC (m : MemS) (root n now : Int) : CapS := if dropD m root n now then lookC m root n else CapS.zero
def MemS.drop (m : MemS) (root n now : Int) : MemS := if dropD m root n now then m.slot (lookP m root n).f (lookP m root n).i (goneC now) else m
set_option maxHeartbeats 2000000 in
set_option maxRecDepth 100000 in
theorem tbl_drop (a g : Nat) (m : MemS) (root n now : Int) (w : World) (h : MemIs w a g m) (ok : m.Ok) : Calls Tryz.prog 57 #[.pointer (some ⟨a, 0, none⟩), .int .i64 root, .int .i64 n, .int .i64 now] w fun e w' =>
    e = .returned (.tuple #[(dropC m root n now).v, .int .i64 (dropE m root n now)]) ∧ MemIs w' a g (m.drop root n now) ∧ Touch (· = g) w w' := by
  have hlg := h.ltg
  have hw0 : Below w.heap.size w (w.alloc (.cells #[.int .i64 0, .int .i64 0, .int .i64 0, .int .i64 0, .int .i64 0, .int .i64 0] 32 (0, 0))) := by (refine Touch.below0 ?_; (repeat' (first | (with_reducible exact Touch.refl _ _) | (with_reducible assumption) | (with_reducible refine Touch.drew ?_) | (with_reducible refine Touch.drewN ?_ _) | (with_reducible refine Touch.alloc ?_ _) | (with_reducible refine Touch.setCell ?_ _ _ _ ?_) | (with_reducible refine Touch.step (by assumption) ?_) | (with_reducible refine Touch.stepT (by assumption) ?_ ?_) | (intro _; first | rfl | trivial | omega | (simp; done) | (simp; omega)) | (intro _ _; first | omega | (simp; done) | (simp; omega)))))
  have hC : (w.alloc (.cells #[.int .i64 0, .int .i64 0, .int .i64 0, .int .i64 0, .int .i64 0, .int .i64 0] 32 (0, 0))).heap[w.heap.size]? = some (.cells #[.int .i64 0, .int .i64 0, .int .i64 0, .int .i64 0, .int .i64 0, .int .i64 0] 32 (0, 0)) := heap_new _ _
  have h1 := h.after hw0
  have LK := fun w h => tbl_look a g m root n w h ok
  have SP := fun w h => slot_put a g m (lookP m root n).f (lookP m root n).i (goneC now) w h ok
  have GO := fun w => tbl_gone now w
  unfold dropE dropC MemS.drop dropD
  unfold goneC CapS.v at SP GO
  dsimp only at SP GO
  have hpk : putOk m (lookP m root n).f (lookP m root n).i (goneC now) = putOk m (lookP m root n).f (lookP m root n).i ⟨1, 0, 0, 0, 0, now⟩ := rfl
  have hms : m.slot (lookP m root n).f (lookP m root n).i (goneC now) = m.slot (lookP m root n).f (lookP m root n).i ⟨1, 0, 0, 0, 0, now⟩ := rfl
  rw [hpk, hms]
  generalize putOk m (lookP m root n).f (lookP m root n).i ⟨1, 0, 0, 0, 0, now⟩ = pk at *
  generalize m.slot (lookP m root n).f (lookP m root n).i ⟨1, 0, 0, 0, 0, now⟩ = M at *
  generalize lookC m root n = C at *
  generalize lookP m root n = P at *
  generalize lookE m root n = E at *
  clear hpk hms
  obtain ⟨pf, pi, pz⟩ := P
  obtain ⟨k, r, t, l, ep, ca⟩ := C
  unfold PlaceS.v CapS.v at LK
  dsimp only at *
  cases ht : timeB now
  · have HT := Lib.hid ht
    simp only [Bool.false_eq_true, if_false, Bool.false_and]
    clear ht
    go_enter Tryz.func57, Tryz.ntmps57
    go_wp2_with ((go_at_call 159; (with_reducible refine (tbl_time _ _).mono ?_); rintro e w' ⟨rfl, rfl⟩); rw [HT.out])
    refine bodyPost_ret (v := .tuple #[CapS.zero.v, .int .i64 1]) ?_ rfl ⟨rfl, h1, Touch.of_below hw0⟩
    have hc := cell_of hC
    simp [results, Tryz.f57, go_sem, hc, CapS.zero, CapS.v]
  have HT := Lib.hid ht
  clear ht
  by_cases hE : E = 0
  · subst hE
    cases pz
    · simp only [if_true, Bool.false_eq_true, if_false, decide_true, Bool.not_false, Bool.and_self]
      generalize (if pk = true then (0 : Int) else 1) = EE at *
      go_enter Tryz.func57, Tryz.ntmps57
      go_upto_region 8 with (first
        | ((go_at_call 159; (with_reducible refine (tbl_time _ _).mono ?_); rintro e w' ⟨rfl, rfl⟩); rw [HT.out])
        | ((go_at_call 160; (with_reducible refine (LK _ h1).mono ?_); rintro e w' ⟨rfl, hx⟩); have hw2 := hw0.trans (hx.mono hw0.size); have hC2 := (hx.block _ (lt_of_block hC)).trans hC))
      have hC7 := heap_alloc (heap_alloc hC2 (.cells #[.int .i64 k, .int .i64 r, .int .i64 t, .int .i64 l, .int .i64 ep, .int .i64 ca] 32 (0, 0))) (.cells #[.int .i64 pf, .int .i64 pi, .bool false] 202 (0, 0))
      have hD7 := heap_alloc (heap_new w' (.cells #[.int .i64 k, .int .i64 r, .int .i64 t, .int .i64 l, .int .i64 ep, .int .i64 ca] 32 (0, 0))) (.cells #[.int .i64 pf, .int .i64 pi, .bool false] 202 (0, 0))
      have hL7 : ((w'.alloc (.cells #[.int .i64 k, .int .i64 r, .int .i64 t, .int .i64 l, .int .i64 ep, .int .i64 ca] 32 (0, 0))).alloc (.cells #[.int .i64 pf, .int .i64 pi, .bool false] 202 (0, 0))).heap[w'.heap.size + 1]? = some (.cells #[.int .i64 pf, .int .i64 pi, .bool false] 202 (0, 0)) := heap_new' (by simp) _
      have hw6 := hw2.alloc hw2.size (.cells #[.int .i64 k, .int .i64 r, .int .i64 t, .int .i64 l, .int .i64 ep, .int .i64 ca] 32 (0, 0))
      have hw7 := hw6.alloc hw6.size (.cells #[.int .i64 pf, .int .i64 pi, .bool false] 202 (0, 0))
      have n1 : w'.heap.size ≠ w.heap.size := by have := lt_of_block hC2; omega
      have n2 : w'.heap.size + 1 ≠ w.heap.size := by have := lt_of_block hC2; omega
      have n3 : w.heap.size ≤ w'.heap.size := by have := lt_of_block hC2; omega
      generalize (w'.alloc (.cells #[.int .i64 k, .int .i64 r, .int .i64 t, .int .i64 l, .int .i64 ep, .int .i64 ca] 32 (0, 0))).alloc (.cells #[.int .i64 pf, .int .i64 pi, .bool false] 202 (0, 0)) = w7 at *
      generalize w'.heap.size = N at *
      clear hx hC2 hw2 hw6 hC h1 LK
      have g0 := cell_of hC7 0; have g1 := cell_of hC7 1; have g2 := cell_of hC7 2; have g3 := cell_of hC7 3; have g4 := cell_of hC7 4; have g5 := cell_of hC7 5; have frc := frozen_of hC7; have lRc := lt_of_block hC7; dsimp at g0 g1 g2 g3 g4 g5
      have x0 := cell_of hL7 0; have x1 := cell_of hL7 1; have x2 := cell_of hL7 2
      have y0 := cell_of hD7 0; have y1 := cell_of hD7 1; have y2 := cell_of hD7 2; have y3 := cell_of hD7 3; have y4 := cell_of hD7 4; have y5 := cell_of hD7 5
      dsimp at x0 x1 x2 y0 y1 y2 y3 y4 y5
      have h7 := h.after hw7
      have kT : ∀ y, Touch (· = g) w7 y → y.cell? ⟨N + 1, 0, none⟩ = some (.int .i64 pf) ∧ y.cell? ⟨N + 1, 1, none⟩ = some (.int .i64 pi) ∧ y.cell? ⟨N + 1, 2, none⟩ = some (.bool false) ∧ y.cell? ⟨N, 0, none⟩ = some (.int .i64 k) ∧ y.cell? ⟨N, 1, none⟩ = some (.int .i64 r) ∧ y.cell? ⟨N, 2, none⟩ = some (.int .i64 t) ∧ y.cell? ⟨N, 3, none⟩ = some (.int .i64 l) ∧ y.cell? ⟨N, 4, none⟩ = some (.int .i64 ep) ∧ y.cell? ⟨N, 5, none⟩ = some (.int .i64 ca) := fun y hT => by
        have q1 := hT.at hL7 (show ¬ N + 1 = g by omega)
        have q2 := hT.at hD7 (show ¬ N = g by omega)
        have z0 := cell_of q1 0; have z1 := cell_of q1 1; have z2 := cell_of q1 2; have e0 := cell_of q2 0; have e1 := cell_of q2 1; have e2 := cell_of q2 2; have e3 := cell_of q2 3; have e4 := cell_of q2 4; have e5 := cell_of q2 5
        dsimp at z0 z1 z2 e0 e1 e2 e3 e4 e5
        exact ⟨z0, z1, z2, e0, e1, e2, e3, e4, e5⟩
      have d0 : Below w7.heap.size w7 w7.drew := (Below.refl _ w7).drew
      have t0 : Touch (· = g) w7 w7.drew := Touch.of_below d0
      have hwg : w.heap.size ≠ g := by omega
      go_region_held3 (fun y => y.cell? ⟨N + 1, 0, none⟩ = some (.int .i64 pf) ∧ y.cell? ⟨N + 1, 1, none⟩ = some (.int .i64 pi) ∧ y.cell? ⟨N + 1, 2, none⟩ = some (.bool false) ∧ y.cell? ⟨N, 0, none⟩ = some (.int .i64 k) ∧ y.cell? ⟨N, 1, none⟩ = some (.int .i64 r) ∧ y.cell? ⟨N, 2, none⟩ = some (.int .i64 t) ∧ y.cell? ⟨N, 3, none⟩ = some (.int .i64 l) ∧ y.cell? ⟨N, 4, none⟩ = some (.int .i64 ep) ∧ y.cell? ⟨N, 5, none⟩ = some (.int .i64 ca)) (first | (with_reducible exact kT _ t0) | (with_reducible refine kT _ ?_; with_reducible assumption) | (simp only [cell_drew', cell_other n1, cell_other n2]; with_reducible refine kT _ ?_; with_reducible assumption))
        (first
          | (go_at_call 161; (with_reducible refine (GO _).mono ?_); rintro e w' ⟨rfl, hx5⟩; have hB9 := d0.trans (hx5.mono d0.size); have h9 := h7.after hB9; have t9 : Touch (· = g) w7 w' := Touch.of_below hB9)
          | (go_at_call 128; (with_reducible refine (SP _ h9).mono ?_); rintro e w' ⟨rfl, hm, hx6⟩; have tT := t9.trans hx6; have hC8 := tT.at hC7 (show ¬ w.heap.size = g from hwg); have g0 := cell_of hC8 0; have g1 := cell_of hC8 1; have g2 := cell_of hC8 2; have g3 := cell_of hC8 3; have g4 := cell_of hC8 4; have g5 := cell_of hC8 5; have frc := frozen_of hC8; have lRc := lt_of_block hC8; dsimp at g0 g1 g2 g3 g4 g5))
      all_goals
        go_wp2
        have hw8 := (Touch.of_below (S := (· = g)) hw7).trans tT
        have hFC := heap_set (o := 5) (heap_set (o := 4) (heap_set (o := 3) (heap_set (o := 2) (heap_set (o := 1) (heap_set (o := 0) hC8 (.int .i64 k)) (.int .i64 r)) (.int .i64 t)) (.int .i64 l)) (.int .i64 ep)) (.int .i64 ca)
        have hc1 := cell_of hFC
        have tF : ∀ u0 u1 u2 u3 u4 u5, Touch (· = w.heap.size) w' ((((((w'.setCell ⟨w.heap.size, 0, none⟩ u0).setCell ⟨w.heap.size, 1, none⟩ u1).setCell ⟨w.heap.size, 2, none⟩ u2).setCell ⟨w.heap.size, 3, none⟩ u3).setCell ⟨w.heap.size, 4, none⟩ u4).setCell ⟨w.heap.size, 5, none⟩ u5) := fun _ _ _ _ _ _ => by (repeat' (first | (with_reducible exact Touch.refl _ _) | (with_reducible assumption) | (with_reducible refine Touch.drew ?_) | (with_reducible refine Touch.drewN ?_ _) | (with_reducible refine Touch.alloc ?_ _) | (with_reducible refine Touch.setCell ?_ _ _ _ ?_) | (with_reducible refine Touch.step (by assumption) ?_) | (with_reducible refine Touch.stepT (by assumption) ?_ ?_) | (intro _; first | rfl | trivial | omega | (simp; done) | (simp; omega)) | (intro _ _; first | omega | (simp; done) | (simp; omega))))
        have hma := h.lta
        refine bodyPost_ret (v := .tuple #[.agg #[.int .i64 k, .int .i64 r, .int .i64 t, .int .i64 l, .int .i64 ep, .int .i64 ca], .int .i64 EE]) ?_ rfl ⟨rfl, (hm.touch (tF _ _ _ _ _ _) (show ¬ a = w.heap.size by omega) (fun e => hwg e.symm)), hw8.trans2 (tF _ _ _ _ _ _) (fun i hi hs => by have : i = w.heap.size := hs; omega)⟩
        simp [results, Tryz.f57, go_sem, hc1]
    · simp only [if_true, decide_true, Bool.true_and, Bool.not_true, Bool.false_eq_true, if_false]
      go_enter Tryz.func57, Tryz.ntmps57
      go_upto_region 7 with (first
        | ((go_at_call 159; (with_reducible refine (tbl_time _ _).mono ?_); rintro e w' ⟨rfl, rfl⟩); rw [HT.out])
        | ((go_at_call 160; (with_reducible refine (LK _ h1).mono ?_); rintro e w' ⟨rfl, hx⟩); have hw2 := hw0.trans (hx.mono hw0.size); have hC2 := (hx.block _ (lt_of_block hC)).trans hC))
      have hC7 := heap_alloc (heap_alloc hC2 (.cells #[.int .i64 k, .int .i64 r, .int .i64 t, .int .i64 l, .int .i64 ep, .int .i64 ca] 32 (0, 0))) (.cells #[.int .i64 pf, .int .i64 pi, .bool true] 202 (0, 0))
      have hD7 := heap_alloc (heap_new w' (.cells #[.int .i64 k, .int .i64 r, .int .i64 t, .int .i64 l, .int .i64 ep, .int .i64 ca] 32 (0, 0))) (.cells #[.int .i64 pf, .int .i64 pi, .bool true] 202 (0, 0))
      have hL7 : ((w'.alloc (.cells #[.int .i64 k, .int .i64 r, .int .i64 t, .int .i64 l, .int .i64 ep, .int .i64 ca] 32 (0, 0))).alloc (.cells #[.int .i64 pf, .int .i64 pi, .bool true] 202 (0, 0))).heap[w'.heap.size + 1]? = some (.cells #[.int .i64 pf, .int .i64 pi, .bool true] 202 (0, 0)) := heap_new' (by simp) _
      have hw6 := hw2.alloc hw2.size (.cells #[.int .i64 k, .int .i64 r, .int .i64 t, .int .i64 l, .int .i64 ep, .int .i64 ca] 32 (0, 0))
      have hw7 := hw6.alloc hw6.size (.cells #[.int .i64 pf, .int .i64 pi, .bool true] 202 (0, 0))
      have n1 : w'.heap.size ≠ w.heap.size := by have := lt_of_block hC2; omega
      have n2 : w'.heap.size + 1 ≠ w.heap.size := by have := lt_of_block hC2; omega
      have n3 : w.heap.size ≤ w'.heap.size := by have := lt_of_block hC2; omega
      generalize (w'.alloc (.cells #[.int .i64 k, .int .i64 r, .int .i64 t, .int .i64 l, .int .i64 ep, .int .i64 ca] 32 (0, 0))).alloc (.cells #[.int .i64 pf, .int .i64 pi, .bool true] 202 (0, 0)) = w7 at *
      generalize w'.heap.size = N at *
      clear hx hC2 hw2 hw6 hC h1 LK
      have g0 := cell_of hC7 0; have g1 := cell_of hC7 1; have g2 := cell_of hC7 2; have g3 := cell_of hC7 3; have g4 := cell_of hC7 4; have g5 := cell_of hC7 5; have frc := frozen_of hC7; have lRc := lt_of_block hC7; dsimp at g0 g1 g2 g3 g4 g5
      go_wp2
      have hFC := heap_set (o := 5) (heap_set (o := 4) (heap_set (o := 3) (heap_set (o := 2) (heap_set (o := 1) (heap_set (o := 0) hC7 (.int .i64 0)) (.int .i64 0)) (.int .i64 0)) (.int .i64 0)) (.int .i64 0)) (.int .i64 0)
      have hwF := (((((hw7.setCell (p := ⟨w.heap.size, 0, none⟩) (Nat.le_refl _) (.int .i64 0)).setCell (p := ⟨w.heap.size, 1, none⟩) (Nat.le_refl _) (.int .i64 0)).setCell (p := ⟨w.heap.size, 2, none⟩) (Nat.le_refl _) (.int .i64 0)).setCell (p := ⟨w.heap.size, 3, none⟩) (Nat.le_refl _) (.int .i64 0)).setCell (p := ⟨w.heap.size, 4, none⟩) (Nat.le_refl _) (.int .i64 0)).setCell (p := ⟨w.heap.size, 5, none⟩) (Nat.le_refl _) (.int .i64 0)
      have hc1 := cell_of hFC
      refine bodyPost_ret (v := .tuple #[CapS.zero.v, .int .i64 6]) ?_ rfl ⟨rfl, h.after hwF, Touch.of_below hwF⟩
      simp [results, Tryz.f57, go_sem, hc1, CapS.zero, CapS.v]
  · simp only [if_true, hE, if_false, decide_false, Bool.true_and, Bool.false_and, Bool.false_eq_true]
    have hE2 : (E == 0) = false := by simpa using hE
    go_enter Tryz.func57, Tryz.ntmps57
    go_upto_region 5 with (first
      | ((go_at_call 159; (with_reducible refine (tbl_time _ _).mono ?_); rintro e w' ⟨rfl, rfl⟩); rw [HT.out])
      | ((go_at_call 160; (with_reducible refine (LK _ h1).mono ?_); rintro e w' ⟨rfl, hx⟩); have hw2 := hw0.trans (hx.mono hw0.size); have hC2 := (hx.block _ (lt_of_block hC)).trans hC))
    have hC7 := heap_alloc (heap_alloc hC2 (.cells #[.int .i64 k, .int .i64 r, .int .i64 t, .int .i64 l, .int .i64 ep, .int .i64 ca] 32 (0, 0))) (.cells #[.int .i64 pf, .int .i64 pi, .bool pz] 202 (0, 0))
    have hD7 := heap_alloc (heap_new w' (.cells #[.int .i64 k, .int .i64 r, .int .i64 t, .int .i64 l, .int .i64 ep, .int .i64 ca] 32 (0, 0))) (.cells #[.int .i64 pf, .int .i64 pi, .bool pz] 202 (0, 0))
    have hL7 : ((w'.alloc (.cells #[.int .i64 k, .int .i64 r, .int .i64 t, .int .i64 l, .int .i64 ep, .int .i64 ca] 32 (0, 0))).alloc (.cells #[.int .i64 pf, .int .i64 pi, .bool pz] 202 (0, 0))).heap[w'.heap.size + 1]? = some (.cells #[.int .i64 pf, .int .i64 pi, .bool pz] 202 (0, 0)) := heap_new' (by simp) _
    have hw6 := hw2.alloc hw2.size (.cells #[.int .i64 k, .int .i64 r, .int .i64 t, .int .i64 l, .int .i64 ep, .int .i64 ca] 32 (0, 0))
    have hw7 := hw6.alloc hw6.size (.cells #[.int .i64 pf, .int .i64 pi, .bool pz] 202 (0, 0))
    have n1 : w'.heap.size ≠ w.heap.size := by have := lt_of_block hC2; omega
    have n2 : w'.heap.size + 1 ≠ w.heap.size := by have := lt_of_block hC2; omega
    have n3 : w.heap.size ≤ w'.heap.size := by have := lt_of_block hC2; omega
    generalize (w'.alloc (.cells #[.int .i64 k, .int .i64 r, .int .i64 t, .int .i64 l, .int .i64 ep, .int .i64 ca] 32 (0, 0))).alloc (.cells #[.int .i64 pf, .int .i64 pi, .bool pz] 202 (0, 0)) = w7 at *
    generalize w'.heap.size = N at *
    clear hx hC2 hw2 hw6 hC h1 LK
    have g0 := cell_of hC7 0; have g1 := cell_of hC7 1; have g2 := cell_of hC7 2; have g3 := cell_of hC7 3; have g4 := cell_of hC7 4; have g5 := cell_of hC7 5; have frc := frozen_of hC7; have lRc := lt_of_block hC7; dsimp at g0 g1 g2 g3 g4 g5
    go_wp2
    have hFC := heap_set (o := 5) (heap_set (o := 4) (heap_set (o := 3) (heap_set (o := 2) (heap_set (o := 1) (heap_set (o := 0) hC7 (.int .i64 0)) (.int .i64 0)) (.int .i64 0)) (.int .i64 0)) (.int .i64 0)) (.int .i64 0)
    have hwF := (((((hw7.setCell (p := ⟨w.heap.size, 0, none⟩) (Nat.le_refl _) (.int .i64 0)).setCell (p := ⟨w.heap.size, 1, none⟩) (Nat.le_refl _) (.int .i64 0)).setCell (p := ⟨w.heap.size, 2, none⟩) (Nat.le_refl _) (.int .i64 0)).setCell (p := ⟨w.heap.size, 3, none⟩) (Nat.le_refl _) (.int .i64 0)).setCell (p := ⟨w.heap.size, 4, none⟩) (Nat.le_refl _) (.int .i64 0)).setCell (p := ⟨w.heap.size, 5, none⟩) (Nat.le_refl _) (.int .i64 0)
    have hc1 := cell_of hFC
    refine bodyPost_ret (v := .tuple #[CapS.zero.v, .int .i64 E]) ?_ rfl ⟨rfl, h.after hwF, Touch.of_below hwF⟩
    simp [results, Tryz.f57, go_sem, hc1, CapS.zero, CapS.v]
end Go.Proofs.YtejdfdllgobnhaaGreat
/- Tbl11 -/
set_option linter.unusedVariables false
set_option linter.unusedSimpArgs false
namespace Go.Proofs.YtejdfdllgobnhaaGreat
open Go.RowKit
def settledB (m : MemS) (f fl : Int) : Bool := decide (hdE m f = 0) && decide ((hdC m f).k = 1) && (hdC m f).fz && decide ((hdC m f).tm < fl)
set_option maxHeartbeats 1000000 in
set_option maxRecDepth 100000 in
theorem tbl_settled (a g : Nat) (m : MemS) (f fl : Int) (w : World) (h : MemIs w a g m) (ok : m.Ok) : Calls Tryz.prog 164 #[.agg #[.pointer (some ⟨a, 0, none⟩)], .int .i64 f, .int .i64 fl] w fun e w' =>
    e = .returned (.bool (settledB m f fl)) ∧ Below w.heap.size w w' := by
  have hG := fun w h => head_get a g m f w h ok
  have hw0 : Below w.heap.size w (w.alloc (.cells #[.pointer (some ⟨a, 0, none⟩)] 197 (0, 0))) := by (refine Touch.below0 ?_; (repeat' (first | (with_reducible exact Touch.refl _ _) | (with_reducible assumption) | (with_reducible refine Touch.drew ?_) | (with_reducible refine Touch.drewN ?_ _) | (with_reducible refine Touch.alloc ?_ _) | (with_reducible refine Touch.setCell ?_ _ _ _ ?_) | (with_reducible refine Touch.step (by assumption) ?_) | (with_reducible refine Touch.stepT (by assumption) ?_ ?_) | (intro _; first | rfl | trivial | omega | (simp; done) | (simp; omega)) | (intro _ _; first | omega | (simp; done) | (simp; omega)))))
  have h1 := h.after hw0
  unfold settledB
  generalize hdC m f = C at *
  generalize hdE m f = E at *
  obtain ⟨k, l, fz, tm⟩ := C
  unfold HeadS.v at *
  dsimp only at *
  by_cases hE : E = 0
  · subst hE
    by_cases hk : k = 1
    · subst hk
      cases fz
      · simp only [decide_true, Bool.and_false, Bool.false_and]
        go_enter Tryz.func164, Tryz.ntmps164
        go_wp2_with ((go_at_call 165; (with_reducible refine (hG _ h1).mono ?_); rintro e w' ⟨rfl, hx⟩); have hw2 := hw0.trans (hx.mono hw0.size))
        go_ret
        exact ⟨rfl, hw2.alloc hw2.size _⟩
      · simp only [decide_true, Bool.and_true, Bool.true_and]
        go_enter Tryz.func164, Tryz.ntmps164
        go_wp2_with ((go_at_call 165; (with_reducible refine (hG _ h1).mono ?_); rintro e w' ⟨rfl, hx⟩); have hw2 := hw0.trans (hx.mono hw0.size))
        go_ret
        exact ⟨rfl, hw2.alloc hw2.size _⟩
    · have hk2 : (k == 1) = false := by simpa using hk
      simp only [hk, decide_false, Bool.and_false, Bool.false_and]
      go_enter Tryz.func164, Tryz.ntmps164
      go_wp2_with ((go_at_call 165; (with_reducible refine (hG _ h1).mono ?_); rintro e w' ⟨rfl, hx⟩); have hw2 := hw0.trans (hx.mono hw0.size))
      go_ret
      exact ⟨rfl, hw2.alloc hw2.size _⟩
  · have hE2 : (E == 0) = false := by simpa using hE
    simp only [hE, decide_false, Bool.false_and]
    go_enter Tryz.func164, Tryz.ntmps164
    go_wp2_with ((go_at_call 165; (with_reducible refine (hG _ h1).mono ?_); rintro e w' ⟨rfl, hx⟩); have hw2 := hw0.trans (hx.mono hw0.size))
    go_ret
    exact ⟨rfl, hw2.alloc hw2.size _⟩
end Go.Proofs.YtejdfdllgobnhaaGreat
/- Tbl12 -/
set_option linter.unusedVariables false
set_option linter.unusedSimpArgs false
namespace Go.Proofs.YtejdfdllgobnhaaGreat
open Go.RowKit
def frzOf (m : MemS) (f now : Int) : HeadS := ⟨1, (hdC m f).lv, true, now⟩
def freezeE (m : MemS) (f now : Int) : Int := if timeB now then (if hdE m f = 0 ∧ (hdC m f).k = 1 then (if (hdC m f).fz then 10 else if headOk m f (frzOf m f now) then 0 else 1) else 4) else 1
def MemS.freeze (m : MemS) (f now : Int) : MemS := if timeB now = true ∧ hdE m f = 0 ∧ (hdC m f).k = 1 ∧ (hdC m f).fz = false then m.head f (frzOf m f now) else m
set_option maxHeartbeats 1000000 in
set_option maxRecDepth 100000 in
theorem tbl_freeze (a g : Nat) (m : MemS) (f now : Int) (w : World) (h : MemIs w a g m) (ok : m.Ok) : Calls Tryz.prog 63 #[.pointer (some ⟨a, 0, none⟩), .int .i64 f, .int .i64 now] w fun e w' =>
    e = .returned (.int .i64 (freezeE m f now)) ∧ MemIs w' a g (m.freeze f now) ∧ Touch (· = g) w w' := by
  have hG := fun w h => head_get a g m f w h ok
  have HP := fun w h => head_put a g m f (frzOf m f now) w h ok
  unfold freezeE MemS.freeze
  unfold frzOf HeadS.v at HP
  dsimp only at HP
  have e1 : headOk m f (frzOf m f now) = headOk m f ⟨1, (hdC m f).lv, true, now⟩ := rfl
  have e2 : m.head f (frzOf m f now) = m.head f ⟨1, (hdC m f).lv, true, now⟩ := rfl
  rw [e1, e2]
  generalize headOk m f ⟨1, (hdC m f).lv, true, now⟩ = pk at *
  generalize m.head f ⟨1, (hdC m f).lv, true, now⟩ = M at *
  clear e1 e2
  generalize hdC m f = C at *
  generalize hdE m f = E at *
  obtain ⟨k, l, fz, tm⟩ := C
  unfold HeadS.v at *
  dsimp only at *
  cases ht : timeB now
  · have HT := Lib.hid ht
    simp only [Bool.false_eq_true, if_false, false_and]
    clear ht
    go_enter Tryz.func63, Tryz.ntmps63
    go_wp2_with ((go_at_call 159; (with_reducible refine (tbl_time _ _).mono ?_); rintro e w' ⟨rfl, rfl⟩); rw [HT.out])
    go_ret
    exact ⟨rfl, h, Touch.refl _ _⟩
  have HT := Lib.hid ht
  clear ht
  by_cases hE : E = 0
  · subst hE
    by_cases hk : k = 1
    · subst hk
      cases fz
      · simp only [Bool.false_eq_true, and_self, if_true, if_false]
        generalize (if pk = true then (0 : Int) else 1) = EE at *
        go_enter Tryz.func63, Tryz.ntmps63
        go_upto_region 9 with (first
          | ((go_at_call 159; (with_reducible refine (tbl_time _ _).mono ?_); rintro e w' ⟨rfl, rfl⟩); rw [HT.out])
          | ((go_at_call 165; (with_reducible refine (hG _ h).mono ?_); rintro e w' ⟨rfl, hx⟩)))
        have hN : w.heap.size ≤ w'.heap.size := hx.size
        have hw3 := hx.alloc hx.size (.cells #[.int .i64 1, .int .i64 l, .bool false, .int .i64 tm] 195 (0, 0))
        have hC := heap_new w' (.cells #[.int .i64 1, .int .i64 l, .bool false, .int .i64 tm] 195 (0, 0))
        generalize w'.alloc (.cells #[.int .i64 1, .int .i64 l, .bool false, .int .i64 tm] 195 (0, 0)) = w3 at *
        generalize w'.heap.size = N at *
        clear hx
        have s0 := cell_of hC 0; have s1 := cell_of hC 1; have s2 := cell_of hC 2; have s3 := cell_of hC 3; have fr := frozen_of hC
        dsimp at s0 s1 s2 s3
        have hwF := (hw3.setCell (p := ⟨N, 2, none⟩) hN (.bool true)).setCell (p := ⟨N, 3, none⟩) hN (.int .i64 now)
        go_wp2_with ((go_at_call 166; (with_reducible refine (HP _ (h.after hwF)).mono ?_); rintro e w' ⟨rfl, hm, hx⟩))
        go_ret
        exact ⟨rfl, hm, (Touch.of_below hwF).trans hx⟩
      · simp only [and_self, if_true, reduceCtorEq, and_false, if_false]
        go_enter Tryz.func63, Tryz.ntmps63
        go_wp2_with (first
          | ((go_at_call 159; (with_reducible refine (tbl_time _ _).mono ?_); rintro e w' ⟨rfl, rfl⟩); rw [HT.out])
          | ((go_at_call 165; (with_reducible refine (hG _ h).mono ?_); rintro e w' ⟨rfl, hx⟩); have hw2 := hx.alloc hx.size (.cells #[.int .i64 1, .int .i64 l, .bool true, .int .i64 tm] 195 (0, 0))))
        go_ret
        exact ⟨rfl, h.after hw2, Touch.of_below hw2⟩
    · have hk2 : (k == 1) = false := by simpa using hk
      simp only [hk, and_false, false_and, if_false, if_true]
      go_enter Tryz.func63, Tryz.ntmps63
      go_wp2_with (first
        | ((go_at_call 159; (with_reducible refine (tbl_time _ _).mono ?_); rintro e w' ⟨rfl, rfl⟩); rw [HT.out])
        | ((go_at_call 165; (with_reducible refine (hG _ h).mono ?_); rintro e w' ⟨rfl, hx⟩); have hw2 := hx.alloc hx.size (.cells #[.int .i64 k, .int .i64 l, .bool fz, .int .i64 tm] 195 (0, 0))))
      go_ret
      exact ⟨rfl, h.after hw2, Touch.of_below hw2⟩
  · have hE2 : (E == 0) = false := by simpa using hE
    simp only [hE, false_and, and_false, if_false, if_true]
    go_enter Tryz.func63, Tryz.ntmps63
    go_wp2_with (first
      | ((go_at_call 159; (with_reducible refine (tbl_time _ _).mono ?_); rintro e w' ⟨rfl, rfl⟩); rw [HT.out])
      | ((go_at_call 165; (with_reducible refine (hG _ h).mono ?_); rintro e w' ⟨rfl, hx⟩); have hw2 := hx.alloc hx.size (.cells #[.int .i64 k, .int .i64 l, .bool fz, .int .i64 tm] 195 (0, 0))))
    go_ret
    exact ⟨rfl, h.after hw2, Touch.of_below hw2⟩
end Go.Proofs.YtejdfdllgobnhaaGreat
/- Tbl13 -/
set_option linter.unusedVariables false
set_option linter.unusedSimpArgs false
namespace Go.Proofs.YtejdfdllgobnhaaGreat
open Go.RowKit
def deconsD (m : MemS) (root high now fl : Int) : Bool := inB high 16 && timeB now && isT m root 0 && decide (slotE m root high = 0) && decide ((slotC m root high).k = 3) && settledB m (slotC m root high).t fl
def deconsE (m : MemS) (root high now fl : Int) : Int :=
  if inB high 16 = true ∧ timeB now = true then (if isT m root 0 then (if slotE m root high = 0 then (if (slotC m root high).k = 3 then (if settledB m (slotC m root high).t fl then (if putOk m root high (goneC now) then 0 else 1) else 6) else 3) else slotE m root high) else 4) else 1
def deconsR (m : MemS) (root high now fl : Int) : Int := if deconsD m root high now fl then (slotC m root high).t else 0
def MemS.decons (m : MemS) (root high now fl : Int) : MemS := if deconsD m root high now fl then m.slot root high (goneC now) else m
set_option maxHeartbeats 1000000 in
set_option maxRecDepth 100000 in
theorem tbl_decons (a g : Nat) (m : MemS) (root high now fl : Int) (w : World) (h : MemIs w a g m) (ok : m.Ok) : Calls Tryz.prog 59 #[.pointer (some ⟨a, 0, none⟩), .int .i64 root, .int .i64 high, .int .i64 now, .int .i64 fl] w fun e w' =>
    e = .returned (.tuple #[.int .i64 (deconsR m root high now fl), .int .i64 (deconsE m root high now fl)]) ∧ MemIs w' a g (m.decons root high now fl) ∧ Touch (· = g) w w' := by
  have hlg := h.ltg
  have hw0 : Below w.heap.size w (w.alloc (.cells #[.pointer (some ⟨a, 0, none⟩)] 197 (0, 0))) := by (refine Touch.below0 ?_; (repeat' (first | (with_reducible exact Touch.refl _ _) | (with_reducible assumption) | (with_reducible refine Touch.drew ?_) | (with_reducible refine Touch.drewN ?_ _) | (with_reducible refine Touch.alloc ?_ _) | (with_reducible refine Touch.setCell ?_ _ _ _ ?_) | (with_reducible refine Touch.step (by assumption) ?_) | (with_reducible refine Touch.stepT (by assumption) ?_ ?_) | (intro _; first | rfl | trivial | omega | (simp; done) | (simp; omega)) | (intro _ _; first | omega | (simp; done) | (simp; omega)))))
  have hB : (w.alloc (.cells #[.pointer (some ⟨a, 0, none⟩)] 197 (0, 0))).heap[w.heap.size]? = some (.cells #[.pointer (some ⟨a, 0, none⟩)] 197 (0, 0)) := heap_new _ _
  have h1 := h.after hw0
  have L0 := fun w h => tbl_level a g m root 0 w h ok
  have SG := fun w h => slot_get a g m root high w h ok
  have ST := fun w h => tbl_settled a g m (slotC m root high).t fl w h ok
  have SP := fun w h => slot_put a g m root high (goneC now) w h ok
  have GO := fun w => tbl_gone now w
  unfold deconsR deconsE MemS.decons deconsD
  cases hi : inB high 16
  · have hi2 : high < 0 ∨ 16 ≤ high := by
      rcases Decidable.em (high < 0 ∨ 16 ≤ high) with h' | h'
      · exact h'
      · rw [inB_iff.2 ⟨by omega, by omega⟩] at hi; cases hi
    simp only [Bool.false_eq_true, if_false, false_and, Bool.false_and]
    rcases hi2 with hi2 | hi2
    · go_enter Tryz.func59, Tryz.ntmps59
      go_wp2
      go_ret2
      exact ⟨rfl, h, Touch.refl _ _⟩
    · have hi3 : ¬ high < 0 := by omega
      go_enter Tryz.func59, Tryz.ntmps59
      go_wp2
      go_ret2
      exact ⟨rfl, h, Touch.refl _ _⟩
  obtain ⟨i0, i1⟩ := inB_iff.1 hi
  clear hi
  cases ht : timeB now
  · have HT := Lib.hid ht
    simp only [Bool.false_eq_true, if_false, and_false, Bool.and_false, Bool.false_and]
    clear ht
    go_enter Tryz.func59, Tryz.ntmps59
    go_wp2_with ((go_at_call 159; (with_reducible refine (tbl_time _ _).mono ?_); rintro e w' ⟨rfl, rfl⟩); rw [HT.out])
    go_ret2
    exact ⟨rfl, h, Touch.refl _ _⟩
  have HT := Lib.hid ht
  clear ht
  unfold goneC CapS.v at SP GO
  dsimp only at SP GO
  have hpk : putOk m root high (goneC now) = putOk m root high ⟨1, 0, 0, 0, 0, now⟩ := rfl
  have hms : m.slot root high (goneC now) = m.slot root high ⟨1, 0, 0, 0, 0, now⟩ := rfl
  rw [hpk, hms]
  generalize putOk m root high ⟨1, 0, 0, 0, 0, now⟩ = pk at *
  generalize m.slot root high ⟨1, 0, 0, 0, 0, now⟩ = M at *
  clear hpk hms
  generalize settledB m (slotC m root high).t fl = st at *
  generalize isT m root 0 = t0 at *
  generalize hdC m root = D1 at *
  generalize slotE m root high = E at *
  generalize slotC m root high = C at *
  obtain ⟨k1, l1, z1, t1⟩ := D1
  obtain ⟨k, r, t, l, ep, ca⟩ := C
  unfold HeadS.v at *
  unfold CapS.v at *
  dsimp only at *
  simp only [and_self, if_true, Bool.and_self, Bool.true_and]
  cases t0
  · simp only [Bool.false_eq_true, if_false, Bool.false_and]
    go_enter Tryz.func59, Tryz.ntmps59
    go_wp2_with (first
      | ((go_at_call 159; (with_reducible refine (tbl_time _ _).mono ?_); rintro e w' ⟨rfl, rfl⟩); rw [HT.out])
      | ((go_at_call 126; (with_reducible refine (L0 _ h1).mono ?_); rintro e w' ⟨rfl, hx⟩); have hw2 := (hw0.trans (hx.mono hw0.size)).alloc (hw0.trans (hx.mono hw0.size)).size (.cells #[.int .i64 k1, .int .i64 l1, .bool z1, .int .i64 t1] 195 (0, 0)); have hB2 := heap_alloc ((hx.block _ (lt_of_block hB)).trans hB) (.cells #[.int .i64 k1, .int .i64 l1, .bool z1, .int .i64 t1] 195 (0, 0)); have h2 := h.after hw2)
      | ((go_at_call 163; (with_reducible refine (SG _ h2).mono ?_); rintro e w' ⟨rfl, hx⟩); have hw3 := (hw2.trans (hx.mono hw2.size)).alloc (hw2.trans (hx.mono hw2.size)).size (.cells #[.int .i64 k, .int .i64 r, .int .i64 t, .int .i64 l, .int .i64 ep, .int .i64 ca] 32 (0, 0)); have hB3 := heap_alloc ((hx.block _ (lt_of_block hB2)).trans hB2) (.cells #[.int .i64 k, .int .i64 r, .int .i64 t, .int .i64 l, .int .i64 ep, .int .i64 ca] 32 (0, 0)); have hC3 := heap_new w' (.cells #[.int .i64 k, .int .i64 r, .int .i64 t, .int .i64 l, .int .i64 ep, .int .i64 ca] 32 (0, 0)); have h3 := h.after hw3; have hL3 : w.heap.size ≤ w'.heap.size := (hw2.trans (hx.mono hw2.size)).size))
    go_ret2
    exact ⟨rfl, h.after hw2, Touch.of_below hw2⟩
  simp only [if_true, Bool.true_and]
  by_cases hE : E = 0
  · subst hE
    simp only [if_true, decide_true, Bool.true_and]
    by_cases hk : k = 3
    · subst hk
      simp only [if_true, decide_true, Bool.true_and]
      cases st
      · simp only [Bool.false_eq_true, if_false]
        go_enter Tryz.func59, Tryz.ntmps59
        go_upto_region 8 with (first
          | ((go_at_call 159; (with_reducible refine (tbl_time _ _).mono ?_); rintro e w' ⟨rfl, rfl⟩); rw [HT.out])
          | ((go_at_call 126; (with_reducible refine (L0 _ h1).mono ?_); rintro e w' ⟨rfl, hx⟩); have hw2 := (hw0.trans (hx.mono hw0.size)).alloc (hw0.trans (hx.mono hw0.size)).size (.cells #[.int .i64 k1, .int .i64 l1, .bool z1, .int .i64 t1] 195 (0, 0)); have hB2 := heap_alloc ((hx.block _ (lt_of_block hB)).trans hB) (.cells #[.int .i64 k1, .int .i64 l1, .bool z1, .int .i64 t1] 195 (0, 0)); have h2 := h.after hw2)
          | ((go_at_call 163; (with_reducible refine (SG _ h2).mono ?_); rintro e w' ⟨rfl, hx⟩); have hw3 := (hw2.trans (hx.mono hw2.size)).alloc (hw2.trans (hx.mono hw2.size)).size (.cells #[.int .i64 3, .int .i64 r, .int .i64 t, .int .i64 l, .int .i64 ep, .int .i64 ca] 32 (0, 0)); have hB3 := heap_alloc ((hx.block _ (lt_of_block hB2)).trans hB2) (.cells #[.int .i64 3, .int .i64 r, .int .i64 t, .int .i64 l, .int .i64 ep, .int .i64 ca] 32 (0, 0)); have hC3 := heap_new w' (.cells #[.int .i64 3, .int .i64 r, .int .i64 t, .int .i64 l, .int .i64 ep, .int .i64 ca] 32 (0, 0)); have h3 := h.after hw3; have hL3 : w.heap.size ≤ w'.heap.size := (hw2.trans (hx.mono hw2.size)).size))
        generalize w'.alloc (.cells #[.int .i64 3, .int .i64 r, .int .i64 t, .int .i64 l, .int .i64 ep, .int .i64 ca] 32 (0, 0)) = w3 at *
        generalize w'.heap.size = N at *
        clear hx hB2 hw2 h2
        have b0 := cell_of hB3 0; have c0 := cell_of hC3 0; have c2 := cell_of hC3 2
        dsimp at b0 c0 c2
        go_wp2_with ((go_at_call 164; (with_reducible refine (ST _ h3).mono ?_); rintro e w' ⟨rfl, hx⟩); have hw4 := hw3.trans (hx.mono hw3.size))
        go_ret2
        exact ⟨rfl, h.after hw4, Touch.of_below hw4⟩
      · simp only [if_true]
        generalize (if pk = true then (0 : Int) else 1) = EE at *
        go_enter Tryz.func59, Tryz.ntmps59
        go_upto_region 8 with (first
          | ((go_at_call 159; (with_reducible refine (tbl_time _ _).mono ?_); rintro e w' ⟨rfl, rfl⟩); rw [HT.out])
          | ((go_at_call 126; (with_reducible refine (L0 _ h1).mono ?_); rintro e w' ⟨rfl, hx⟩); have hw2 := (hw0.trans (hx.mono hw0.size)).alloc (hw0.trans (hx.mono hw0.size)).size (.cells #[.int .i64 k1, .int .i64 l1, .bool z1, .int .i64 t1] 195 (0, 0)); have hB2 := heap_alloc ((hx.block _ (lt_of_block hB)).trans hB) (.cells #[.int .i64 k1, .int .i64 l1, .bool z1, .int .i64 t1] 195 (0, 0)); have h2 := h.after hw2)
          | ((go_at_call 163; (with_reducible refine (SG _ h2).mono ?_); rintro e w' ⟨rfl, hx⟩); have hw3 := (hw2.trans (hx.mono hw2.size)).alloc (hw2.trans (hx.mono hw2.size)).size (.cells #[.int .i64 3, .int .i64 r, .int .i64 t, .int .i64 l, .int .i64 ep, .int .i64 ca] 32 (0, 0)); have hB3 := heap_alloc ((hx.block _ (lt_of_block hB2)).trans hB2) (.cells #[.int .i64 3, .int .i64 r, .int .i64 t, .int .i64 l, .int .i64 ep, .int .i64 ca] 32 (0, 0)); have hC3 := heap_new w' (.cells #[.int .i64 3, .int .i64 r, .int .i64 t, .int .i64 l, .int .i64 ep, .int .i64 ca] 32 (0, 0)); have h3 := h.after hw3; have hL3 : w.heap.size ≤ w'.heap.size := (hw2.trans (hx.mono hw2.size)).size))
        generalize w'.alloc (.cells #[.int .i64 3, .int .i64 r, .int .i64 t, .int .i64 l, .int .i64 ep, .int .i64 ca] 32 (0, 0)) = w3 at *
        generalize w'.heap.size = N at *
        clear hx hB2 hw2 h2
        have b0 := cell_of hB3 0; have c0 := cell_of hC3 0; have c2 := cell_of hC3 2
        dsimp at b0 c0 c2
        go_upto_region 14 with ((go_at_call 164; (with_reducible refine (ST _ h3).mono ?_); rintro e w' ⟨rfl, hx⟩); have hw4 := hw3.trans (hx.mono hw3.size); have hC4 := (hx.block _ (lt_of_block hC3)).trans hC3; have h4 := h.after hw4)
        have hNg : ¬ N = g := by omega
        have kT : ∀ y, Touch (· = g) w' y → y.cell? ⟨N, 2, none⟩ = some (.int .i64 t) := fun y hT => by
          have q := cell_of (hT.at hC4 hNg) 2
          dsimp at q
          exact q
        generalize w' = w4 at *
        have d0 : Below w4.heap.size w4 w4.drew := (Below.refl _ w4).drew
        have t0 : Touch (· = g) w4 w4.drew := Touch.of_below d0
        go_region_held3 (fun y => y.cell? ⟨N, 2, none⟩ = some (.int .i64 t)) (first | (with_reducible exact kT _ t0) | (with_reducible refine kT _ ?_; with_reducible assumption))
          (first
            | (go_at_call 161; (with_reducible refine (GO _).mono ?_); rintro e w' ⟨rfl, hx5⟩; have hB9 := d0.trans (hx5.mono d0.size); have h9 := h4.after hB9; have t9 : Touch (· = g) w4 w' := Touch.of_below hB9)
            | (go_at_call 128; (with_reducible refine (SP _ h9).mono ?_); rintro e w' ⟨rfl, hm, hx6⟩; have tT := t9.trans hx6))
        all_goals
          go_wp2
          go_ret2
          exact ⟨rfl, hm, (Touch.of_below hw4).trans tT⟩
    · have hk2 : (k == 3) = false := by simpa using hk
      simp only [hk, if_false, decide_false, Bool.false_and, Bool.false_eq_true]
      go_enter Tryz.func59, Tryz.ntmps59
      go_wp2_with (first
        | ((go_at_call 159; (with_reducible refine (tbl_time _ _).mono ?_); rintro e w' ⟨rfl, rfl⟩); rw [HT.out])
        | ((go_at_call 126; (with_reducible refine (L0 _ h1).mono ?_); rintro e w' ⟨rfl, hx⟩); have hw2 := (hw0.trans (hx.mono hw0.size)).alloc (hw0.trans (hx.mono hw0.size)).size (.cells #[.int .i64 k1, .int .i64 l1, .bool z1, .int .i64 t1] 195 (0, 0)); have hB2 := heap_alloc ((hx.block _ (lt_of_block hB)).trans hB) (.cells #[.int .i64 k1, .int .i64 l1, .bool z1, .int .i64 t1] 195 (0, 0)); have h2 := h.after hw2)
        | ((go_at_call 163; (with_reducible refine (SG _ h2).mono ?_); rintro e w' ⟨rfl, hx⟩); have hw3 := (hw2.trans (hx.mono hw2.size)).alloc (hw2.trans (hx.mono hw2.size)).size (.cells #[.int .i64 k, .int .i64 r, .int .i64 t, .int .i64 l, .int .i64 ep, .int .i64 ca] 32 (0, 0)); have hB3 := heap_alloc ((hx.block _ (lt_of_block hB2)).trans hB2) (.cells #[.int .i64 k, .int .i64 r, .int .i64 t, .int .i64 l, .int .i64 ep, .int .i64 ca] 32 (0, 0)); have hC3 := heap_new w' (.cells #[.int .i64 k, .int .i64 r, .int .i64 t, .int .i64 l, .int .i64 ep, .int .i64 ca] 32 (0, 0)); have h3 := h.after hw3; have hL3 : w.heap.size ≤ w'.heap.size := (hw2.trans (hx.mono hw2.size)).size))
      go_ret2
      exact ⟨rfl, h.after hw3, Touch.of_below hw3⟩
  · have hE2 : (E == 0) = false := by simpa using hE
    simp only [hE, if_false, decide_false, Bool.false_and, Bool.false_eq_true]
    go_enter Tryz.func59, Tryz.ntmps59
    go_wp2_with (first
      | ((go_at_call 159; (with_reducible refine (tbl_time _ _).mono ?_); rintro e w' ⟨rfl, rfl⟩); rw [HT.out])
      | ((go_at_call 126; (with_reducible refine (L0 _ h1).mono ?_); rintro e w' ⟨rfl, hx⟩); have hw2 := (hw0.trans (hx.mono hw0.size)).alloc (hw0.trans (hx.mono hw0.size)).size (.cells #[.int .i64 k1, .int .i64 l1, .bool z1, .int .i64 t1] 195 (0, 0)); have hB2 := heap_alloc ((hx.block _ (lt_of_block hB)).trans hB) (.cells #[.int .i64 k1, .int .i64 l1, .bool z1, .int .i64 t1] 195 (0, 0)); have h2 := h.after hw2)
      | ((go_at_call 163; (with_reducible refine (SG _ h2).mono ?_); rintro e w' ⟨rfl, hx⟩); have hw3 := (hw2.trans (hx.mono hw2.size)).alloc (hw2.trans (hx.mono hw2.size)).size (.cells #[.int .i64 k, .int .i64 r, .int .i64 t, .int .i64 l, .int .i64 ep, .int .i64 ca] 32 (0, 0)); have hB3 := heap_alloc ((hx.block _ (lt_of_block hB2)).trans hB2) (.cells #[.int .i64 k, .int .i64 r, .int .i64 t, .int .i64 l, .int .i64 ep, .int .i64 ca] 32 (0, 0)); have hC3 := heap_new w' (.cells #[.int .i64 k, .int .i64 r, .int .i64 t, .int .i64 l, .int .i64 ep, .int .i64 ca] 32 (0, 0)); have h3 := h.after hw3; have hL3 : w.heap.size ≤ w'.heap.size := (hw2.trans (hx.mono hw2.size)).size))
    go_ret2
    exact ⟨rfl, h.after hw3, Touch.of_below hw3⟩
end Go.Proofs.YtejdfdllgobnhaaGreat
