/- Tables of capabilities (package captbl): look. -/
import Derived.Test.YtejdfdllgobnhaaTbl6
set_option linter.unusedVariables false
set_option linter.unusedSimpArgs false
namespace Go.Proofs.Ytejdfdllgobnhaa
open Go.RowKit
def lookE (m : MemS) (root n : Int) : Int := if walkE m root n = 0 then (if slotE m (walkP m root n).f (walkP m root n).i = 0 then (if (slotC m (walkP m root n).f (walkP m root n).i).k ≤ 1 then 3 else 0) else slotE m (walkP m root n).f (walkP m root n).i) else walkE m root n
def lookC (m : MemS) (root n : Int) : CapS := if lookE m root n = 0 then slotC m (walkP m root n).f (walkP m root n).i else CapS.zero
def lookP (m : MemS) (root n : Int) : PlaceS := if lookE m root n = 0 then walkP m root n else PlaceS.zero
set_option maxHeartbeats 1000000 in
set_option maxRecDepth 100000 in
theorem tbl_look (a g : Nat) (m : MemS) (root n : Int) (w : World) (h : MemIs w a g m) (ok : m.Ok) : Calls Try.prog 74 #[.agg #[.pointer (some ⟨a, 0, none⟩)], .int .i64 root, .int .i64 n] w fun e w' =>
    e = .returned (.tuple #[(lookC m root n).v, (lookP m root n).v, .int .i64 (lookE m root n)]) ∧ Below w.heap.size w w' := by
  have hw0 : Below w.heap.size w (((w.alloc (.cells #[.pointer (some ⟨a, 0, none⟩)] 115 (0, 0))).alloc (.cells #[.int .i64 0, .int .i64 0, .int .i64 0, .int .i64 0, .int .i64 0, .int .i64 0] 57 (0, 0))).alloc (.cells #[.int .i64 0, .int .i64 0, .bool false] 121 (0, 0))) := by (refine Touch.below0 ?_; (repeat' (first | (with_reducible exact Touch.refl _ _) | (with_reducible assumption) | (with_reducible refine Touch.drew ?_) | (with_reducible refine Touch.drewN ?_ _) | (with_reducible refine Touch.alloc ?_ _) | (with_reducible refine Touch.setCell ?_ _ _ _ ?_) | (with_reducible refine Touch.step (by assumption) ?_) | (with_reducible refine Touch.stepT (by assumption) ?_ ?_) | (intro _; first | rfl | trivial | omega | (simp; done) | (simp; omega)) | (intro _ _; first | omega | (simp; done) | (simp; omega)))))
  have hB : (((w.alloc (.cells #[.pointer (some ⟨a, 0, none⟩)] 115 (0, 0))).alloc (.cells #[.int .i64 0, .int .i64 0, .int .i64 0, .int .i64 0, .int .i64 0, .int .i64 0] 57 (0, 0))).alloc (.cells #[.int .i64 0, .int .i64 0, .bool false] 121 (0, 0))).heap[w.heap.size]? = some (.cells #[.pointer (some ⟨a, 0, none⟩)] 115 (0, 0)) := heap_alloc (heap_alloc (heap_new _ _) _) _
  have hC : (((w.alloc (.cells #[.pointer (some ⟨a, 0, none⟩)] 115 (0, 0))).alloc (.cells #[.int .i64 0, .int .i64 0, .int .i64 0, .int .i64 0, .int .i64 0, .int .i64 0] 57 (0, 0))).alloc (.cells #[.int .i64 0, .int .i64 0, .bool false] 121 (0, 0))).heap[w.heap.size + 1]? = some (.cells #[.int .i64 0, .int .i64 0, .int .i64 0, .int .i64 0, .int .i64 0, .int .i64 0] 57 (0, 0)) := heap_alloc (heap_new' (by simp) _) _
  have hP : (((w.alloc (.cells #[.pointer (some ⟨a, 0, none⟩)] 115 (0, 0))).alloc (.cells #[.int .i64 0, .int .i64 0, .int .i64 0, .int .i64 0, .int .i64 0, .int .i64 0] 57 (0, 0))).alloc (.cells #[.int .i64 0, .int .i64 0, .bool false] 121 (0, 0))).heap[w.heap.size + 1 + 1]? = some (.cells #[.int .i64 0, .int .i64 0, .bool false] 121 (0, 0)) := heap_new' (by simp) _
  have h1 := h.after hw0
  have WK := fun w h => tbl_walk a g m root n w h ok
  have SG := fun w h => slot_get a g m (walkP m root n).f (walkP m root n).i w h ok
  unfold lookC lookP lookE
  generalize slotC m (walkP m root n).f (walkP m root n).i = C at *
  generalize slotE m (walkP m root n).f (walkP m root n).i = E2 at *
  generalize walkP m root n = P at *
  generalize walkE m root n = E at *
  obtain ⟨pf, pi, pz⟩ := P
  obtain ⟨k, r, t, l, ep, ca⟩ := C
  unfold PlaceS.v at WK
  unfold CapS.v at SG
  dsimp only at *
  by_cases hE : E = 0
  · subst hE
    by_cases hE2 : E2 = 0
    · subst hE2
      by_cases hk : k ≤ 1
      · simp only [hk, if_true, show ¬ ((3 : Int) = 0) by decide, if_false]
        go_enter Try.func74, Try.ntmps74
        go_upto_region 8 with (first
          | ((go_at_call 102; (with_reducible refine (WK _ h1).mono ?_); rintro e w' ⟨rfl, hx⟩); have hw3 := (hw0.trans (hx.mono hw0.size)).alloc (hw0.trans (hx.mono hw0.size)).size (.cells #[.int .i64 pf, .int .i64 pi, .bool pz] 121 (0, 0)); have hC3 := heap_alloc ((hx.block _ (lt_of_block hC)).trans hC) (.cells #[.int .i64 pf, .int .i64 pi, .bool pz] 121 (0, 0)); have hP3 := heap_alloc ((hx.block _ (lt_of_block hP)).trans hP) (.cells #[.int .i64 pf, .int .i64 pi, .bool pz] 121 (0, 0)); have hB2 := (hx.block _ (lt_of_block hB)).trans hB; have h3 := (h1.after hx).after ((Below.refl _ _).alloc (Nat.le_refl _) (.cells #[.int .i64 pf, .int .i64 pi, .bool pz] 121 (0, 0))); have b0 := cell_of hB2 0; have lB := lt_of_block hB2; dsimp at b0)
          | ((go_at_call 79; (with_reducible refine (SG _ h3).mono ?_); rintro e w' ⟨rfl, hx⟩); have hw2 := hw3.trans (hx.mono hw3.size); have hC2 := (hx.block _ (lt_of_block hC3)).trans hC3; have hP2 := (hx.block _ (lt_of_block hP3)).trans hP3; have g0 := cell_of hC2 0; have g1 := cell_of hC2 1; have g2 := cell_of hC2 2; have g3 := cell_of hC2 3; have g4 := cell_of hC2 4; have g5 := cell_of hC2 5; have frc := frozen_of hC2; have lRc := lt_of_block hC2; dsimp at g0 g1 g2 g3 g4 g5; have u0 := cell_of hP2 0; have u1 := cell_of hP2 1; have u2 := cell_of hP2 2; have frp := frozen_of hP2; have lRp := lt_of_block hP2; dsimp at u0 u1 u2))
        have hC7 := heap_alloc hC2 (.cells #[.int .i64 k, .int .i64 r, .int .i64 t, .int .i64 l, .int .i64 ep, .int .i64 ca] 57 (0, 0))
        have hP7 := heap_alloc hP2 (.cells #[.int .i64 k, .int .i64 r, .int .i64 t, .int .i64 l, .int .i64 ep, .int .i64 ca] 57 (0, 0))
        have hw7 := hw2.alloc hw2.size (.cells #[.int .i64 k, .int .i64 r, .int .i64 t, .int .i64 l, .int .i64 ep, .int .i64 ca] 57 (0, 0))
        clear g0 g1 g2 g3 g4 g5 frc lRc u0 u1 u2 frp lRp
        generalize w'.alloc (.cells #[.int .i64 k, .int .i64 r, .int .i64 t, .int .i64 l, .int .i64 ep, .int .i64 ca] 57 (0, 0)) = w7 at *
        have g0 := cell_of hC7 0; have g1 := cell_of hC7 1; have g2 := cell_of hC7 2; have g3 := cell_of hC7 3; have g4 := cell_of hC7 4; have g5 := cell_of hC7 5; have frc := frozen_of hC7; have lRc := lt_of_block hC7; dsimp at g0 g1 g2 g3 g4 g5
        have u0 := cell_of hP7 0; have u1 := cell_of hP7 1; have u2 := cell_of hP7 2; have frp := frozen_of hP7; have lRp := lt_of_block hP7; dsimp at u0 u1 u2
        go_wp2
        have hn1 : w.heap.size + 1 ≠ w.heap.size + 1 + 1 := by omega
        have hn2 : w.heap.size + 1 + 1 ≠ w.heap.size + 1 := by omega
        have hFC := heap_set_ne (heap_set_ne (heap_set_ne (heap_set (o := 5) (heap_set (o := 4) (heap_set (o := 3) (heap_set (o := 2) (heap_set (o := 1) (heap_set (o := 0) hC7 (.int .i64 0)) (.int .i64 0)) (.int .i64 0)) (.int .i64 0)) (.int .i64 0)) (.int .i64 0)) (o := 0) (.int .i64 0) hn1) (o := 1) (.int .i64 0) hn1) (o := 2) (.bool false) hn1
        have hFP := heap_set (o := 2) (heap_set (o := 1) (heap_set (o := 0) (heap_set_ne (heap_set_ne (heap_set_ne (heap_set_ne (heap_set_ne (heap_set_ne hP7 (o := 0) (.int .i64 0) hn2) (o := 1) (.int .i64 0) hn2) (o := 2) (.int .i64 0) hn2) (o := 3) (.int .i64 0) hn2) (o := 4) (.int .i64 0) hn2) (o := 5) (.int .i64 0) hn2) (.int .i64 0)) (.int .i64 0)) (.bool false)
        have b1 : w.heap.size ≤ w.heap.size + 1 := Nat.le_succ _
        have b2 : w.heap.size ≤ w.heap.size + 1 + 1 := by omega
        have hwF := ((((((((hw7.setCell (p := ⟨w.heap.size + 1, 0, none⟩) b1 (.int .i64 0)).setCell (p := ⟨w.heap.size + 1, 1, none⟩) b1 (.int .i64 0)).setCell (p := ⟨w.heap.size + 1, 2, none⟩) b1 (.int .i64 0)).setCell (p := ⟨w.heap.size + 1, 3, none⟩) b1 (.int .i64 0)).setCell (p := ⟨w.heap.size + 1, 4, none⟩) b1 (.int .i64 0)).setCell (p := ⟨w.heap.size + 1, 5, none⟩) b1 (.int .i64 0)).setCell (p := ⟨w.heap.size + 1 + 1, 0, none⟩) b2 (.int .i64 0)).setCell (p := ⟨w.heap.size + 1 + 1, 1, none⟩) b2 (.int .i64 0)).setCell (p := ⟨w.heap.size + 1 + 1, 2, none⟩) b2 (.bool false)
        refine bodyPost_ret (v := .tuple #[CapS.zero.v, PlaceS.zero.v, .int .i64 3]) ?_ rfl ⟨rfl, hwF⟩
        have hc1 := cell_of hFC
        have hc2 := cell_of hFP
        simp [results, Try.f74, go_sem, hc1, hc2, PlaceS.zero, PlaceS.v, CapS.zero, CapS.v]
      · simp only [hk, if_false, if_true]
        have hk2 : 1 < k := by omega
        clear hk
        go_enter Try.func74, Try.ntmps74
        go_upto_region 9 with (first
          | ((go_at_call 102; (with_reducible refine (WK _ h1).mono ?_); rintro e w' ⟨rfl, hx⟩); have hw3 := (hw0.trans (hx.mono hw0.size)).alloc (hw0.trans (hx.mono hw0.size)).size (.cells #[.int .i64 pf, .int .i64 pi, .bool pz] 121 (0, 0)); have hC3 := heap_alloc ((hx.block _ (lt_of_block hC)).trans hC) (.cells #[.int .i64 pf, .int .i64 pi, .bool pz] 121 (0, 0)); have hP3 := heap_alloc ((hx.block _ (lt_of_block hP)).trans hP) (.cells #[.int .i64 pf, .int .i64 pi, .bool pz] 121 (0, 0)); have hB2 := (hx.block _ (lt_of_block hB)).trans hB; have h3 := (h1.after hx).after ((Below.refl _ _).alloc (Nat.le_refl _) (.cells #[.int .i64 pf, .int .i64 pi, .bool pz] 121 (0, 0))); have b0 := cell_of hB2 0; have lB := lt_of_block hB2; dsimp at b0; have hL3 := heap_new w' (.cells #[.int .i64 pf, .int .i64 pi, .bool pz] 121 (0, 0)); have lP1 := lt_of_block ((hx.block _ (lt_of_block hP)).trans hP); obtain ⟨wv, rfl⟩ : ∃ y : World, y = w' := ⟨_, rfl⟩)
          | ((go_at_call 79; (with_reducible refine (SG _ h3).mono ?_); rintro e w' ⟨rfl, hx⟩); have hw2 := hw3.trans (hx.mono hw3.size); have hC2 := (hx.block _ (lt_of_block hC3)).trans hC3; have hP2 := (hx.block _ (lt_of_block hP3)).trans hP3; have hL2 := (hx.block _ (lt_of_block hL3)).trans hL3; have e0 := cell_of hL2 0; have lL := lt_of_block hL2))
        have hC7 := heap_alloc hC2 (.cells #[.int .i64 k, .int .i64 r, .int .i64 t, .int .i64 l, .int .i64 ep, .int .i64 ca] 57 (0, 0))
        have hP7 := heap_alloc hP2 (.cells #[.int .i64 k, .int .i64 r, .int .i64 t, .int .i64 l, .int .i64 ep, .int .i64 ca] 57 (0, 0))
        have hL7 := heap_alloc hL2 (.cells #[.int .i64 k, .int .i64 r, .int .i64 t, .int .i64 l, .int .i64 ep, .int .i64 ca] 57 (0, 0))
        have hD7 := heap_new w' (.cells #[.int .i64 k, .int .i64 r, .int .i64 t, .int .i64 l, .int .i64 ep, .int .i64 ca] 57 (0, 0))
        have hw7 := hw2.alloc hw2.size (.cells #[.int .i64 k, .int .i64 r, .int .i64 t, .int .i64 l, .int .i64 ep, .int .i64 ca] 57 (0, 0))
        have n3 : w'.heap.size ≠ w.heap.size + 1 := by have := lt_of_block hC2; omega
        have n4 : w'.heap.size ≠ w.heap.size + 1 + 1 := by have := lt_of_block hP2; omega
        clear e0
        generalize w'.alloc (.cells #[.int .i64 k, .int .i64 r, .int .i64 t, .int .i64 l, .int .i64 ep, .int .i64 ca] 57 (0, 0)) = w7 at *
        generalize w'.heap.size = N2 at *
        have n1 : wv.heap.size ≠ w.heap.size + 1 := by omega
        have n2 : wv.heap.size ≠ w.heap.size + 1 + 1 := by omega
        clear lL hL2 hC2 hP2 hw2 hx lP1 h3 hL3 hB2 hP3 hC3 hw3 b0 lB hB hC hP h1 hw0
        generalize wv.heap.size = N1 at *
        have x0 := cell_of hL7 0; have x1 := cell_of hL7 1; have x2 := cell_of hL7 2
        have y0 := cell_of hD7 0; have y1 := cell_of hD7 1; have y2 := cell_of hD7 2; have y3 := cell_of hD7 3; have y4 := cell_of hD7 4; have y5 := cell_of hD7 5
        dsimp at x0 x1 x2 y0 y1 y2 y3 y4 y5
        have g0 := cell_of hC7 0; have g1 := cell_of hC7 1; have g2 := cell_of hC7 2; have g3 := cell_of hC7 3; have g4 := cell_of hC7 4; have g5 := cell_of hC7 5; have frc := frozen_of hC7; have lRc := lt_of_block hC7; dsimp at g0 g1 g2 g3 g4 g5
        have u0 := cell_of hP7 0; have u1 := cell_of hP7 1; have u2 := cell_of hP7 2; have frp := frozen_of hP7; have lRp := lt_of_block hP7; dsimp at u0 u1 u2
        go_region_held3 (fun y => y.cell? ⟨N1, 0, none⟩ = some (.int .i64 pf) ∧ y.cell? ⟨N1, 1, none⟩ = some (.int .i64 pi) ∧ y.cell? ⟨N1, 2, none⟩ = some (.bool pz) ∧ y.cell? ⟨N2, 0, none⟩ = some (.int .i64 k) ∧ y.cell? ⟨N2, 1, none⟩ = some (.int .i64 r) ∧ y.cell? ⟨N2, 2, none⟩ = some (.int .i64 t) ∧ y.cell? ⟨N2, 3, none⟩ = some (.int .i64 l) ∧ y.cell? ⟨N2, 4, none⟩ = some (.int .i64 ep) ∧ y.cell? ⟨N2, 5, none⟩ = some (.int .i64 ca)) ((simp only [cell_drew', cell_other n1, cell_other n2, cell_other n3, cell_other n4]; exact ⟨x0, x1, x2, y0, y1, y2, y3, y4, y5⟩)) (fail)
        all_goals
          go_wp2
          have hn1 : w.heap.size + 1 ≠ w.heap.size + 1 + 1 := by omega
          have hn2 : w.heap.size + 1 + 1 ≠ w.heap.size + 1 := by omega
          have hFC := heap_set_ne (heap_set_ne (heap_set_ne (heap_set (o := 5) (heap_set (o := 4) (heap_set (o := 3) (heap_set (o := 2) (heap_set (o := 1) (heap_set (o := 0) hC7 (.int .i64 k)) (.int .i64 r)) (.int .i64 t)) (.int .i64 l)) (.int .i64 ep)) (.int .i64 ca)) (o := 0) (.int .i64 pf) hn1) (o := 1) (.int .i64 pi) hn1) (o := 2) (.bool pz) hn1
          have hFP := heap_set (o := 2) (heap_set (o := 1) (heap_set (o := 0) (heap_set_ne (heap_set_ne (heap_set_ne (heap_set_ne (heap_set_ne (heap_set_ne hP7 (o := 0) (.int .i64 k) hn2) (o := 1) (.int .i64 r) hn2) (o := 2) (.int .i64 t) hn2) (o := 3) (.int .i64 l) hn2) (o := 4) (.int .i64 ep) hn2) (o := 5) (.int .i64 ca) hn2) (.int .i64 pf)) (.int .i64 pi)) (.bool pz)
          have b1 : w.heap.size ≤ w.heap.size + 1 := Nat.le_succ _
          have b2 : w.heap.size ≤ w.heap.size + 1 + 1 := by omega
          have hwF := ((((((((hw7.setCell (p := ⟨w.heap.size + 1, 0, none⟩) b1 (.int .i64 k)).setCell (p := ⟨w.heap.size + 1, 1, none⟩) b1 (.int .i64 r)).setCell (p := ⟨w.heap.size + 1, 2, none⟩) b1 (.int .i64 t)).setCell (p := ⟨w.heap.size + 1, 3, none⟩) b1 (.int .i64 l)).setCell (p := ⟨w.heap.size + 1, 4, none⟩) b1 (.int .i64 ep)).setCell (p := ⟨w.heap.size + 1, 5, none⟩) b1 (.int .i64 ca)).setCell (p := ⟨w.heap.size + 1 + 1, 0, none⟩) b2 (.int .i64 pf)).setCell (p := ⟨w.heap.size + 1 + 1, 1, none⟩) b2 (.int .i64 pi)).setCell (p := ⟨w.heap.size + 1 + 1, 2, none⟩) b2 (.bool pz)
          refine bodyPost_ret (v := .tuple #[.agg #[.int .i64 k, .int .i64 r, .int .i64 t, .int .i64 l, .int .i64 ep, .int .i64 ca], .agg #[.int .i64 pf, .int .i64 pi, .bool pz], .int .i64 0]) ?_ rfl ⟨rfl, hwF.drew⟩
          have hc1 := cell_of hFC
          have hc2 := cell_of hFP
          simp [results, Try.f74, go_sem, hc1, hc2]
    · simp only [hE2, if_false, if_true]
      have hE3 : (E2 == 0) = false := by simpa using hE2
      go_enter Try.func74, Try.ntmps74
      go_upto_region 6 with (first
        | ((go_at_call 102; (with_reducible refine (WK _ h1).mono ?_); rintro e w' ⟨rfl, hx⟩); have hw3 := (hw0.trans (hx.mono hw0.size)).alloc (hw0.trans (hx.mono hw0.size)).size (.cells #[.int .i64 pf, .int .i64 pi, .bool pz] 121 (0, 0)); have hC3 := heap_alloc ((hx.block _ (lt_of_block hC)).trans hC) (.cells #[.int .i64 pf, .int .i64 pi, .bool pz] 121 (0, 0)); have hP3 := heap_alloc ((hx.block _ (lt_of_block hP)).trans hP) (.cells #[.int .i64 pf, .int .i64 pi, .bool pz] 121 (0, 0)); have hB2 := (hx.block _ (lt_of_block hB)).trans hB; have h3 := (h1.after hx).after ((Below.refl _ _).alloc (Nat.le_refl _) (.cells #[.int .i64 pf, .int .i64 pi, .bool pz] 121 (0, 0))); have b0 := cell_of hB2 0; have lB := lt_of_block hB2; dsimp at b0)
        | ((go_at_call 79; (with_reducible refine (SG _ h3).mono ?_); rintro e w' ⟨rfl, hx⟩); have hw2 := hw3.trans (hx.mono hw3.size); have hC2 := (hx.block _ (lt_of_block hC3)).trans hC3; have hP2 := (hx.block _ (lt_of_block hP3)).trans hP3; have g0 := cell_of hC2 0; have g1 := cell_of hC2 1; have g2 := cell_of hC2 2; have g3 := cell_of hC2 3; have g4 := cell_of hC2 4; have g5 := cell_of hC2 5; have frc := frozen_of hC2; have lRc := lt_of_block hC2; dsimp at g0 g1 g2 g3 g4 g5; have u0 := cell_of hP2 0; have u1 := cell_of hP2 1; have u2 := cell_of hP2 2; have frp := frozen_of hP2; have lRp := lt_of_block hP2; dsimp at u0 u1 u2))
      have hC7 := heap_alloc hC2 (.cells #[.int .i64 k, .int .i64 r, .int .i64 t, .int .i64 l, .int .i64 ep, .int .i64 ca] 57 (0, 0))
      have hP7 := heap_alloc hP2 (.cells #[.int .i64 k, .int .i64 r, .int .i64 t, .int .i64 l, .int .i64 ep, .int .i64 ca] 57 (0, 0))
      have hw7 := hw2.alloc hw2.size (.cells #[.int .i64 k, .int .i64 r, .int .i64 t, .int .i64 l, .int .i64 ep, .int .i64 ca] 57 (0, 0))
      clear g0 g1 g2 g3 g4 g5 frc lRc u0 u1 u2 frp lRp
      generalize w'.alloc (.cells #[.int .i64 k, .int .i64 r, .int .i64 t, .int .i64 l, .int .i64 ep, .int .i64 ca] 57 (0, 0)) = w7 at *
      have g0 := cell_of hC7 0; have g1 := cell_of hC7 1; have g2 := cell_of hC7 2; have g3 := cell_of hC7 3; have g4 := cell_of hC7 4; have g5 := cell_of hC7 5; have frc := frozen_of hC7; have lRc := lt_of_block hC7; dsimp at g0 g1 g2 g3 g4 g5
      have u0 := cell_of hP7 0; have u1 := cell_of hP7 1; have u2 := cell_of hP7 2; have frp := frozen_of hP7; have lRp := lt_of_block hP7; dsimp at u0 u1 u2
      go_wp2
      have hn1 : w.heap.size + 1 ≠ w.heap.size + 1 + 1 := by omega
      have hn2 : w.heap.size + 1 + 1 ≠ w.heap.size + 1 := by omega
      have hFC := heap_set_ne (heap_set_ne (heap_set_ne (heap_set (o := 5) (heap_set (o := 4) (heap_set (o := 3) (heap_set (o := 2) (heap_set (o := 1) (heap_set (o := 0) hC7 (.int .i64 0)) (.int .i64 0)) (.int .i64 0)) (.int .i64 0)) (.int .i64 0)) (.int .i64 0)) (o := 0) (.int .i64 0) hn1) (o := 1) (.int .i64 0) hn1) (o := 2) (.bool false) hn1
      have hFP := heap_set (o := 2) (heap_set (o := 1) (heap_set (o := 0) (heap_set_ne (heap_set_ne (heap_set_ne (heap_set_ne (heap_set_ne (heap_set_ne hP7 (o := 0) (.int .i64 0) hn2) (o := 1) (.int .i64 0) hn2) (o := 2) (.int .i64 0) hn2) (o := 3) (.int .i64 0) hn2) (o := 4) (.int .i64 0) hn2) (o := 5) (.int .i64 0) hn2) (.int .i64 0)) (.int .i64 0)) (.bool false)
      have b1 : w.heap.size ≤ w.heap.size + 1 := Nat.le_succ _
      have b2 : w.heap.size ≤ w.heap.size + 1 + 1 := by omega
      have hwF := ((((((((hw7.setCell (p := ⟨w.heap.size + 1, 0, none⟩) b1 (.int .i64 0)).setCell (p := ⟨w.heap.size + 1, 1, none⟩) b1 (.int .i64 0)).setCell (p := ⟨w.heap.size + 1, 2, none⟩) b1 (.int .i64 0)).setCell (p := ⟨w.heap.size + 1, 3, none⟩) b1 (.int .i64 0)).setCell (p := ⟨w.heap.size + 1, 4, none⟩) b1 (.int .i64 0)).setCell (p := ⟨w.heap.size + 1, 5, none⟩) b1 (.int .i64 0)).setCell (p := ⟨w.heap.size + 1 + 1, 0, none⟩) b2 (.int .i64 0)).setCell (p := ⟨w.heap.size + 1 + 1, 1, none⟩) b2 (.int .i64 0)).setCell (p := ⟨w.heap.size + 1 + 1, 2, none⟩) b2 (.bool false)
      refine bodyPost_ret (v := .tuple #[CapS.zero.v, PlaceS.zero.v, .int .i64 E2]) ?_ rfl ⟨rfl, hwF⟩
      have hc1 := cell_of hFC
      have hc2 := cell_of hFP
      simp [results, Try.f74, go_sem, hc1, hc2, PlaceS.zero, PlaceS.v, CapS.zero, CapS.v]
  · simp only [hE, if_false]
    have hE3 : (E == 0) = false := by simpa using hE
    go_enter Try.func74, Try.ntmps74
    go_upto_region 3 with ((go_at_call 102; (with_reducible refine (WK _ h1).mono ?_); rintro e w' ⟨rfl, hx⟩); have hw2 := hw0.trans (hx.mono hw0.size); have hC2 := (hx.block _ (lt_of_block hC)).trans hC; have hP2 := (hx.block _ (lt_of_block hP)).trans hP; have g0 := cell_of hC2 0; have g1 := cell_of hC2 1; have g2 := cell_of hC2 2; have g3 := cell_of hC2 3; have g4 := cell_of hC2 4; have g5 := cell_of hC2 5; have frc := frozen_of hC2; have lRc := lt_of_block hC2; dsimp at g0 g1 g2 g3 g4 g5; have u0 := cell_of hP2 0; have u1 := cell_of hP2 1; have u2 := cell_of hP2 2; have frp := frozen_of hP2; have lRp := lt_of_block hP2; dsimp at u0 u1 u2)
    have hC7 := heap_alloc hC2 (.cells #[.int .i64 pf, .int .i64 pi, .bool pz] 121 (0, 0))
    have hP7 := heap_alloc hP2 (.cells #[.int .i64 pf, .int .i64 pi, .bool pz] 121 (0, 0))
    have hw7 := hw2.alloc hw2.size (.cells #[.int .i64 pf, .int .i64 pi, .bool pz] 121 (0, 0))
    clear g0 g1 g2 g3 g4 g5 frc lRc u0 u1 u2 frp lRp
    generalize w'.alloc (.cells #[.int .i64 pf, .int .i64 pi, .bool pz] 121 (0, 0)) = w7 at *
    have g0 := cell_of hC7 0; have g1 := cell_of hC7 1; have g2 := cell_of hC7 2; have g3 := cell_of hC7 3; have g4 := cell_of hC7 4; have g5 := cell_of hC7 5; have frc := frozen_of hC7; have lRc := lt_of_block hC7; dsimp at g0 g1 g2 g3 g4 g5
    have u0 := cell_of hP7 0; have u1 := cell_of hP7 1; have u2 := cell_of hP7 2; have frp := frozen_of hP7; have lRp := lt_of_block hP7; dsimp at u0 u1 u2
    go_wp2
    have hn1 : w.heap.size + 1 ≠ w.heap.size + 1 + 1 := by omega
    have hn2 : w.heap.size + 1 + 1 ≠ w.heap.size + 1 := by omega
    have hFC := heap_set_ne (heap_set_ne (heap_set_ne (heap_set (o := 5) (heap_set (o := 4) (heap_set (o := 3) (heap_set (o := 2) (heap_set (o := 1) (heap_set (o := 0) hC7 (.int .i64 0)) (.int .i64 0)) (.int .i64 0)) (.int .i64 0)) (.int .i64 0)) (.int .i64 0)) (o := 0) (.int .i64 0) hn1) (o := 1) (.int .i64 0) hn1) (o := 2) (.bool false) hn1
    have hFP := heap_set (o := 2) (heap_set (o := 1) (heap_set (o := 0) (heap_set_ne (heap_set_ne (heap_set_ne (heap_set_ne (heap_set_ne (heap_set_ne hP7 (o := 0) (.int .i64 0) hn2) (o := 1) (.int .i64 0) hn2) (o := 2) (.int .i64 0) hn2) (o := 3) (.int .i64 0) hn2) (o := 4) (.int .i64 0) hn2) (o := 5) (.int .i64 0) hn2) (.int .i64 0)) (.int .i64 0)) (.bool false)
    have b1 : w.heap.size ≤ w.heap.size + 1 := Nat.le_succ _
    have b2 : w.heap.size ≤ w.heap.size + 1 + 1 := by omega
    have hwF := ((((((((hw7.setCell (p := ⟨w.heap.size + 1, 0, none⟩) b1 (.int .i64 0)).setCell (p := ⟨w.heap.size + 1, 1, none⟩) b1 (.int .i64 0)).setCell (p := ⟨w.heap.size + 1, 2, none⟩) b1 (.int .i64 0)).setCell (p := ⟨w.heap.size + 1, 3, none⟩) b1 (.int .i64 0)).setCell (p := ⟨w.heap.size + 1, 4, none⟩) b1 (.int .i64 0)).setCell (p := ⟨w.heap.size + 1, 5, none⟩) b1 (.int .i64 0)).setCell (p := ⟨w.heap.size + 1 + 1, 0, none⟩) b2 (.int .i64 0)).setCell (p := ⟨w.heap.size + 1 + 1, 1, none⟩) b2 (.int .i64 0)).setCell (p := ⟨w.heap.size + 1 + 1, 2, none⟩) b2 (.bool false)
    refine bodyPost_ret (v := .tuple #[CapS.zero.v, PlaceS.zero.v, .int .i64 E]) ?_ rfl ⟨rfl, hwF⟩
    have hc1 := cell_of hFC
    have hc2 := cell_of hFP
    simp [results, Try.f74, go_sem, hc1, hc2, PlaceS.zero, PlaceS.v, CapS.zero, CapS.v]
end Go.Proofs.Ytejdfdllgobnhaa
