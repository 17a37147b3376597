/- Tables of capabilities (package captbl): Drop. -/
import Derived.Test.YtejdfdllgobnhaaTbl9
set_option linter.unusedVariables false
set_option linter.unusedSimpArgs false
namespace Go.Proofs.Ytejdfdllgobnhaa
open Go.RowKit
def dropE (m : MemS) (root n now : Int) : Int := if timeB now then (if lookE m root n = 0 then (if (lookP m root n).fz then 6 else if putOk m (lookP m root n).f (lookP m root n).i (goneC now) then 0 else 1) else lookE m root n) else 1
def dropD (m : MemS) (root n now : Int) : Bool := timeB now && decide (lookE m root n = 0) && !(lookP m root n).fz
def dropC (m : MemS) (root n now : Int) : CapS := if dropD m root n now then lookC m root n else CapS.zero
def MemS.drop (m : MemS) (root n now : Int) : MemS := if dropD m root n now then m.slot (lookP m root n).f (lookP m root n).i (goneC now) else m
set_option maxHeartbeats 2000000 in
set_option maxRecDepth 100000 in
theorem tbl_drop (a g : Nat) (m : MemS) (root n now : Int) (w : World) (h : MemIs w a g m) (ok : m.Ok) : Calls Try.prog 37 #[.pointer (some ⟨a, 0, none⟩), .int .i64 root, .int .i64 n, .int .i64 now] w fun e w' =>
    e = .returned (.tuple #[(dropC m root n now).v, .int .i64 (dropE m root n now)]) ∧ MemIs w' a g (m.drop root n now) ∧ Touch (· = g) w w' := by
  have hlg := h.ltg
  have hw0 : Below w.heap.size w (w.alloc (.cells #[.int .i64 0, .int .i64 0, .int .i64 0, .int .i64 0, .int .i64 0, .int .i64 0] 57 (0, 0))) := by (refine Touch.below0 ?_; (repeat' (first | (with_reducible exact Touch.refl _ _) | (with_reducible assumption) | (with_reducible refine Touch.drew ?_) | (with_reducible refine Touch.drewN ?_ _) | (with_reducible refine Touch.alloc ?_ _) | (with_reducible refine Touch.setCell ?_ _ _ _ ?_) | (with_reducible refine Touch.step (by assumption) ?_) | (with_reducible refine Touch.stepT (by assumption) ?_ ?_) | (intro _; first | rfl | trivial | omega | (simp; done) | (simp; omega)) | (intro _ _; first | omega | (simp; done) | (simp; omega)))))
  have hC : (w.alloc (.cells #[.int .i64 0, .int .i64 0, .int .i64 0, .int .i64 0, .int .i64 0, .int .i64 0] 57 (0, 0))).heap[w.heap.size]? = some (.cells #[.int .i64 0, .int .i64 0, .int .i64 0, .int .i64 0, .int .i64 0, .int .i64 0] 57 (0, 0)) := heap_new _ _
  have h1 := h.after hw0
  have LK := fun w h => tbl_look a g m root n w h ok
  have SP := fun w h => slot_put a g m (lookP m root n).f (lookP m root n).i (goneC now) w h ok
  have GO := fun w => tbl_gone now w
  unfold dropE dropC MemS.drop dropD
  unfold goneC CapS.v at SP GO
  dsimp only at SP GO
  have hpk : putOk m (lookP m root n).f (lookP m root n).i (goneC now) = putOk m (lookP m root n).f (lookP m root n).i ⟨1, 0, 0, 0, 0, now⟩ := rfl
  have hms : m.slot (lookP m root n).f (lookP m root n).i (goneC now) = m.slot (lookP m root n).f (lookP m root n).i ⟨1, 0, 0, 0, 0, now⟩ := rfl
  rw [hpk, hms]
  generalize putOk m (lookP m root n).f (lookP m root n).i ⟨1, 0, 0, 0, 0, now⟩ = pk at *
  generalize m.slot (lookP m root n).f (lookP m root n).i ⟨1, 0, 0, 0, 0, now⟩ = M at *
  generalize lookC m root n = C at *
  generalize lookP m root n = P at *
  generalize lookE m root n = E at *
  clear hpk hms
  obtain ⟨pf, pi, pz⟩ := P
  obtain ⟨k, r, t, l, ep, ca⟩ := C
  unfold PlaceS.v CapS.v at LK
  dsimp only at *
  cases ht : timeB now
  · have HT := Lib.hid ht
    simp only [Bool.false_eq_true, if_false, Bool.false_and]
    clear ht
    go_enter Try.func37, Try.ntmps37
    go_wp2_with ((go_at_call 75; (with_reducible refine (tbl_time _ _).mono ?_); rintro e w' ⟨rfl, rfl⟩); rw [HT.out])
    refine bodyPost_ret (v := .tuple #[CapS.zero.v, .int .i64 1]) ?_ rfl ⟨rfl, h1, Touch.of_below hw0⟩
    have hc := cell_of hC
    simp [results, Try.f37, go_sem, hc, CapS.zero, CapS.v]
  have HT := Lib.hid ht
  clear ht
  by_cases hE : E = 0
  · subst hE
    cases pz
    · simp only [if_true, Bool.false_eq_true, if_false, decide_true, Bool.not_false, Bool.and_self]
      generalize (if pk = true then (0 : Int) else 1) = EE at *
      go_enter Try.func37, Try.ntmps37
      go_upto_region 8 with (first
        | ((go_at_call 75; (with_reducible refine (tbl_time _ _).mono ?_); rintro e w' ⟨rfl, rfl⟩); rw [HT.out])
        | ((go_at_call 74; (with_reducible refine (LK _ h1).mono ?_); rintro e w' ⟨rfl, hx⟩); have hw2 := hw0.trans (hx.mono hw0.size); have hC2 := (hx.block _ (lt_of_block hC)).trans hC))
      have hC7 := heap_alloc (heap_alloc hC2 (.cells #[.int .i64 k, .int .i64 r, .int .i64 t, .int .i64 l, .int .i64 ep, .int .i64 ca] 57 (0, 0))) (.cells #[.int .i64 pf, .int .i64 pi, .bool false] 121 (0, 0))
      have hD7 := heap_alloc (heap_new w' (.cells #[.int .i64 k, .int .i64 r, .int .i64 t, .int .i64 l, .int .i64 ep, .int .i64 ca] 57 (0, 0))) (.cells #[.int .i64 pf, .int .i64 pi, .bool false] 121 (0, 0))
      have hL7 : ((w'.alloc (.cells #[.int .i64 k, .int .i64 r, .int .i64 t, .int .i64 l, .int .i64 ep, .int .i64 ca] 57 (0, 0))).alloc (.cells #[.int .i64 pf, .int .i64 pi, .bool false] 121 (0, 0))).heap[w'.heap.size + 1]? = some (.cells #[.int .i64 pf, .int .i64 pi, .bool false] 121 (0, 0)) := heap_new' (by simp) _
      have hw6 := hw2.alloc hw2.size (.cells #[.int .i64 k, .int .i64 r, .int .i64 t, .int .i64 l, .int .i64 ep, .int .i64 ca] 57 (0, 0))
      have hw7 := hw6.alloc hw6.size (.cells #[.int .i64 pf, .int .i64 pi, .bool false] 121 (0, 0))
      have n1 : w'.heap.size ≠ w.heap.size := by have := lt_of_block hC2; omega
      have n2 : w'.heap.size + 1 ≠ w.heap.size := by have := lt_of_block hC2; omega
      have n3 : w.heap.size ≤ w'.heap.size := by have := lt_of_block hC2; omega
      generalize (w'.alloc (.cells #[.int .i64 k, .int .i64 r, .int .i64 t, .int .i64 l, .int .i64 ep, .int .i64 ca] 57 (0, 0))).alloc (.cells #[.int .i64 pf, .int .i64 pi, .bool false] 121 (0, 0)) = w7 at *
      generalize w'.heap.size = N at *
      clear hx hC2 hw2 hw6 hC h1 LK
      have g0 := cell_of hC7 0; have g1 := cell_of hC7 1; have g2 := cell_of hC7 2; have g3 := cell_of hC7 3; have g4 := cell_of hC7 4; have g5 := cell_of hC7 5; have frc := frozen_of hC7; have lRc := lt_of_block hC7; dsimp at g0 g1 g2 g3 g4 g5
      have x0 := cell_of hL7 0; have x1 := cell_of hL7 1; have x2 := cell_of hL7 2
      have y0 := cell_of hD7 0; have y1 := cell_of hD7 1; have y2 := cell_of hD7 2; have y3 := cell_of hD7 3; have y4 := cell_of hD7 4; have y5 := cell_of hD7 5
      dsimp at x0 x1 x2 y0 y1 y2 y3 y4 y5
      have h7 := h.after hw7
      have kT : ∀ y, Touch (· = g) w7 y → y.cell? ⟨N + 1, 0, none⟩ = some (.int .i64 pf) ∧ y.cell? ⟨N + 1, 1, none⟩ = some (.int .i64 pi) ∧ y.cell? ⟨N + 1, 2, none⟩ = some (.bool false) ∧ y.cell? ⟨N, 0, none⟩ = some (.int .i64 k) ∧ y.cell? ⟨N, 1, none⟩ = some (.int .i64 r) ∧ y.cell? ⟨N, 2, none⟩ = some (.int .i64 t) ∧ y.cell? ⟨N, 3, none⟩ = some (.int .i64 l) ∧ y.cell? ⟨N, 4, none⟩ = some (.int .i64 ep) ∧ y.cell? ⟨N, 5, none⟩ = some (.int .i64 ca) := fun y hT => by
        have q1 := hT.at hL7 (show ¬ N + 1 = g by omega)
        have q2 := hT.at hD7 (show ¬ N = g by omega)
        have z0 := cell_of q1 0; have z1 := cell_of q1 1; have z2 := cell_of q1 2; have e0 := cell_of q2 0; have e1 := cell_of q2 1; have e2 := cell_of q2 2; have e3 := cell_of q2 3; have e4 := cell_of q2 4; have e5 := cell_of q2 5
        dsimp at z0 z1 z2 e0 e1 e2 e3 e4 e5
        exact ⟨z0, z1, z2, e0, e1, e2, e3, e4, e5⟩
      have d0 : Below w7.heap.size w7 w7.drew := (Below.refl _ w7).drew
      have t0 : Touch (· = g) w7 w7.drew := Touch.of_below d0
      have hwg : w.heap.size ≠ g := by omega
      go_region_held3 (fun y => y.cell? ⟨N + 1, 0, none⟩ = some (.int .i64 pf) ∧ y.cell? ⟨N + 1, 1, none⟩ = some (.int .i64 pi) ∧ y.cell? ⟨N + 1, 2, none⟩ = some (.bool false) ∧ y.cell? ⟨N, 0, none⟩ = some (.int .i64 k) ∧ y.cell? ⟨N, 1, none⟩ = some (.int .i64 r) ∧ y.cell? ⟨N, 2, none⟩ = some (.int .i64 t) ∧ y.cell? ⟨N, 3, none⟩ = some (.int .i64 l) ∧ y.cell? ⟨N, 4, none⟩ = some (.int .i64 ep) ∧ y.cell? ⟨N, 5, none⟩ = some (.int .i64 ca)) (first | (with_reducible exact kT _ t0) | (with_reducible refine kT _ ?_; with_reducible assumption) | (simp only [cell_drew', cell_other n1, cell_other n2]; with_reducible refine kT _ ?_; with_reducible assumption))
        (first
          | (go_at_call 76; (with_reducible refine (GO _).mono ?_); rintro e w' ⟨rfl, hx5⟩; have hB9 := d0.trans (hx5.mono d0.size); have h9 := h7.after hB9; have t9 : Touch (· = g) w7 w' := Touch.of_below hB9)
          | (go_at_call 70; (with_reducible refine (SP _ h9).mono ?_); rintro e w' ⟨rfl, hm, hx6⟩; have tT := t9.trans hx6; have hC8 := tT.at hC7 (show ¬ w.heap.size = g from hwg); have g0 := cell_of hC8 0; have g1 := cell_of hC8 1; have g2 := cell_of hC8 2; have g3 := cell_of hC8 3; have g4 := cell_of hC8 4; have g5 := cell_of hC8 5; have frc := frozen_of hC8; have lRc := lt_of_block hC8; dsimp at g0 g1 g2 g3 g4 g5))
      all_goals
        go_wp2
        have hw8 := (Touch.of_below (S := (· = g)) hw7).trans tT
        have hFC := heap_set (o := 5) (heap_set (o := 4) (heap_set (o := 3) (heap_set (o := 2) (heap_set (o := 1) (heap_set (o := 0) hC8 (.int .i64 k)) (.int .i64 r)) (.int .i64 t)) (.int .i64 l)) (.int .i64 ep)) (.int .i64 ca)
        have hc1 := cell_of hFC
        have tF : ∀ u0 u1 u2 u3 u4 u5, Touch (· = w.heap.size) w' ((((((w'.setCell ⟨w.heap.size, 0, none⟩ u0).setCell ⟨w.heap.size, 1, none⟩ u1).setCell ⟨w.heap.size, 2, none⟩ u2).setCell ⟨w.heap.size, 3, none⟩ u3).setCell ⟨w.heap.size, 4, none⟩ u4).setCell ⟨w.heap.size, 5, none⟩ u5) := fun _ _ _ _ _ _ => by (repeat' (first | (with_reducible exact Touch.refl _ _) | (with_reducible assumption) | (with_reducible refine Touch.drew ?_) | (with_reducible refine Touch.drewN ?_ _) | (with_reducible refine Touch.alloc ?_ _) | (with_reducible refine Touch.setCell ?_ _ _ _ ?_) | (with_reducible refine Touch.step (by assumption) ?_) | (with_reducible refine Touch.stepT (by assumption) ?_ ?_) | (intro _; first | rfl | trivial | omega | (simp; done) | (simp; omega)) | (intro _ _; first | omega | (simp; done) | (simp; omega))))
        have hma := h.lta
        refine bodyPost_ret (v := .tuple #[.agg #[.int .i64 k, .int .i64 r, .int .i64 t, .int .i64 l, .int .i64 ep, .int .i64 ca], .int .i64 EE]) ?_ rfl ⟨rfl, (hm.touch (tF _ _ _ _ _ _) (show ¬ a = w.heap.size by omega) (fun e => hwg e.symm)), hw8.trans2 (tF _ _ _ _ _ _) (fun i hi hs => by have : i = w.heap.size := hs; omega)⟩
        simp [results, Try.f37, go_sem, hc1]
    · simp only [if_true, decide_true, Bool.true_and, Bool.not_true, Bool.false_eq_true, if_false]
      go_enter Try.func37, Try.ntmps37
      go_upto_region 7 with (first
        | ((go_at_call 75; (with_reducible refine (tbl_time _ _).mono ?_); rintro e w' ⟨rfl, rfl⟩); rw [HT.out])
        | ((go_at_call 74; (with_reducible refine (LK _ h1).mono ?_); rintro e w' ⟨rfl, hx⟩); have hw2 := hw0.trans (hx.mono hw0.size); have hC2 := (hx.block _ (lt_of_block hC)).trans hC))
      have hC7 := heap_alloc (heap_alloc hC2 (.cells #[.int .i64 k, .int .i64 r, .int .i64 t, .int .i64 l, .int .i64 ep, .int .i64 ca] 57 (0, 0))) (.cells #[.int .i64 pf, .int .i64 pi, .bool true] 121 (0, 0))
      have hD7 := heap_alloc (heap_new w' (.cells #[.int .i64 k, .int .i64 r, .int .i64 t, .int .i64 l, .int .i64 ep, .int .i64 ca] 57 (0, 0))) (.cells #[.int .i64 pf, .int .i64 pi, .bool true] 121 (0, 0))
      have hL7 : ((w'.alloc (.cells #[.int .i64 k, .int .i64 r, .int .i64 t, .int .i64 l, .int .i64 ep, .int .i64 ca] 57 (0, 0))).alloc (.cells #[.int .i64 pf, .int .i64 pi, .bool true] 121 (0, 0))).heap[w'.heap.size + 1]? = some (.cells #[.int .i64 pf, .int .i64 pi, .bool true] 121 (0, 0)) := heap_new' (by simp) _
      have hw6 := hw2.alloc hw2.size (.cells #[.int .i64 k, .int .i64 r, .int .i64 t, .int .i64 l, .int .i64 ep, .int .i64 ca] 57 (0, 0))
      have hw7 := hw6.alloc hw6.size (.cells #[.int .i64 pf, .int .i64 pi, .bool true] 121 (0, 0))
      have n1 : w'.heap.size ≠ w.heap.size := by have := lt_of_block hC2; omega
      have n2 : w'.heap.size + 1 ≠ w.heap.size := by have := lt_of_block hC2; omega
      have n3 : w.heap.size ≤ w'.heap.size := by have := lt_of_block hC2; omega
      generalize (w'.alloc (.cells #[.int .i64 k, .int .i64 r, .int .i64 t, .int .i64 l, .int .i64 ep, .int .i64 ca] 57 (0, 0))).alloc (.cells #[.int .i64 pf, .int .i64 pi, .bool true] 121 (0, 0)) = w7 at *
      generalize w'.heap.size = N at *
      clear hx hC2 hw2 hw6 hC h1 LK
      have g0 := cell_of hC7 0; have g1 := cell_of hC7 1; have g2 := cell_of hC7 2; have g3 := cell_of hC7 3; have g4 := cell_of hC7 4; have g5 := cell_of hC7 5; have frc := frozen_of hC7; have lRc := lt_of_block hC7; dsimp at g0 g1 g2 g3 g4 g5
      go_wp2
      have hFC := heap_set (o := 5) (heap_set (o := 4) (heap_set (o := 3) (heap_set (o := 2) (heap_set (o := 1) (heap_set (o := 0) hC7 (.int .i64 0)) (.int .i64 0)) (.int .i64 0)) (.int .i64 0)) (.int .i64 0)) (.int .i64 0)
      have hwF := (((((hw7.setCell (p := ⟨w.heap.size, 0, none⟩) (Nat.le_refl _) (.int .i64 0)).setCell (p := ⟨w.heap.size, 1, none⟩) (Nat.le_refl _) (.int .i64 0)).setCell (p := ⟨w.heap.size, 2, none⟩) (Nat.le_refl _) (.int .i64 0)).setCell (p := ⟨w.heap.size, 3, none⟩) (Nat.le_refl _) (.int .i64 0)).setCell (p := ⟨w.heap.size, 4, none⟩) (Nat.le_refl _) (.int .i64 0)).setCell (p := ⟨w.heap.size, 5, none⟩) (Nat.le_refl _) (.int .i64 0)
      have hc1 := cell_of hFC
      refine bodyPost_ret (v := .tuple #[CapS.zero.v, .int .i64 6]) ?_ rfl ⟨rfl, h.after hwF, Touch.of_below hwF⟩
      simp [results, Try.f37, go_sem, hc1, CapS.zero, CapS.v]
  · simp only [if_true, hE, if_false, decide_false, Bool.true_and, Bool.false_and, Bool.false_eq_true]
    have hE2 : (E == 0) = false := by simpa using hE
    go_enter Try.func37, Try.ntmps37
    go_upto_region 5 with (first
      | ((go_at_call 75; (with_reducible refine (tbl_time _ _).mono ?_); rintro e w' ⟨rfl, rfl⟩); rw [HT.out])
      | ((go_at_call 74; (with_reducible refine (LK _ h1).mono ?_); rintro e w' ⟨rfl, hx⟩); have hw2 := hw0.trans (hx.mono hw0.size); have hC2 := (hx.block _ (lt_of_block hC)).trans hC))
    have hC7 := heap_alloc (heap_alloc hC2 (.cells #[.int .i64 k, .int .i64 r, .int .i64 t, .int .i64 l, .int .i64 ep, .int .i64 ca] 57 (0, 0))) (.cells #[.int .i64 pf, .int .i64 pi, .bool pz] 121 (0, 0))
    have hD7 := heap_alloc (heap_new w' (.cells #[.int .i64 k, .int .i64 r, .int .i64 t, .int .i64 l, .int .i64 ep, .int .i64 ca] 57 (0, 0))) (.cells #[.int .i64 pf, .int .i64 pi, .bool pz] 121 (0, 0))
    have hL7 : ((w'.alloc (.cells #[.int .i64 k, .int .i64 r, .int .i64 t, .int .i64 l, .int .i64 ep, .int .i64 ca] 57 (0, 0))).alloc (.cells #[.int .i64 pf, .int .i64 pi, .bool pz] 121 (0, 0))).heap[w'.heap.size + 1]? = some (.cells #[.int .i64 pf, .int .i64 pi, .bool pz] 121 (0, 0)) := heap_new' (by simp) _
    have hw6 := hw2.alloc hw2.size (.cells #[.int .i64 k, .int .i64 r, .int .i64 t, .int .i64 l, .int .i64 ep, .int .i64 ca] 57 (0, 0))
    have hw7 := hw6.alloc hw6.size (.cells #[.int .i64 pf, .int .i64 pi, .bool pz] 121 (0, 0))
    have n1 : w'.heap.size ≠ w.heap.size := by have := lt_of_block hC2; omega
    have n2 : w'.heap.size + 1 ≠ w.heap.size := by have := lt_of_block hC2; omega
    have n3 : w.heap.size ≤ w'.heap.size := by have := lt_of_block hC2; omega
    generalize (w'.alloc (.cells #[.int .i64 k, .int .i64 r, .int .i64 t, .int .i64 l, .int .i64 ep, .int .i64 ca] 57 (0, 0))).alloc (.cells #[.int .i64 pf, .int .i64 pi, .bool pz] 121 (0, 0)) = w7 at *
    generalize w'.heap.size = N at *
    clear hx hC2 hw2 hw6 hC h1 LK
    have g0 := cell_of hC7 0; have g1 := cell_of hC7 1; have g2 := cell_of hC7 2; have g3 := cell_of hC7 3; have g4 := cell_of hC7 4; have g5 := cell_of hC7 5; have frc := frozen_of hC7; have lRc := lt_of_block hC7; dsimp at g0 g1 g2 g3 g4 g5
    go_wp2
    have hFC := heap_set (o := 5) (heap_set (o := 4) (heap_set (o := 3) (heap_set (o := 2) (heap_set (o := 1) (heap_set (o := 0) hC7 (.int .i64 0)) (.int .i64 0)) (.int .i64 0)) (.int .i64 0)) (.int .i64 0)) (.int .i64 0)
    have hwF := (((((hw7.setCell (p := ⟨w.heap.size, 0, none⟩) (Nat.le_refl _) (.int .i64 0)).setCell (p := ⟨w.heap.size, 1, none⟩) (Nat.le_refl _) (.int .i64 0)).setCell (p := ⟨w.heap.size, 2, none⟩) (Nat.le_refl _) (.int .i64 0)).setCell (p := ⟨w.heap.size, 3, none⟩) (Nat.le_refl _) (.int .i64 0)).setCell (p := ⟨w.heap.size, 4, none⟩) (Nat.le_refl _) (.int .i64 0)).setCell (p := ⟨w.heap.size, 5, none⟩) (Nat.le_refl _) (.int .i64 0)
    have hc1 := cell_of hFC
    refine bodyPost_ret (v := .tuple #[CapS.zero.v, .int .i64 E]) ?_ rfl ⟨rfl, h.after hwF, Touch.of_below hwF⟩
    simp [results, Try.f37, go_sem, hc1, CapS.zero, CapS.v]
end Go.Proofs.Ytejdfdllgobnhaa
