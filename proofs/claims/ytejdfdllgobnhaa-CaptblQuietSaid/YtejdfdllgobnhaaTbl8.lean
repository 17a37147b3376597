/- Tables of capabilities (package captbl): Look, Drop. -/
import Derived.Test.YtejdfdllgobnhaaTbl7
set_option linter.unusedVariables false
set_option linter.unusedSimpArgs false
namespace Go.Proofs.Ytejdfdllgobnhaa
open Go.RowKit
set_option maxHeartbeats 1000000 in
set_option maxRecDepth 100000 in
theorem tbl_Look (a g : Nat) (m : MemS) (root n : Int) (w : World) (h : MemIs w a g m) (ok : m.Ok) : Calls Try.prog 36 #[.pointer (some ⟨a, 0, none⟩), .int .i64 root, .int .i64 n] w fun e w' =>
    e = .returned (.tuple #[(lookC m root n).v, .int .i64 (lookE m root n)]) ∧ Below w.heap.size w w' := by
  have hw0 : Below w.heap.size w (w.alloc (.cells #[.int .i64 0, .int .i64 0, .int .i64 0, .int .i64 0, .int .i64 0, .int .i64 0] 57 (0, 0))) := by (refine Touch.below0 ?_; (repeat' (first | (with_reducible exact Touch.refl _ _) | (with_reducible assumption) | (with_reducible refine Touch.drew ?_) | (with_reducible refine Touch.drewN ?_ _) | (with_reducible refine Touch.alloc ?_ _) | (with_reducible refine Touch.setCell ?_ _ _ _ ?_) | (with_reducible refine Touch.step (by assumption) ?_) | (with_reducible refine Touch.stepT (by assumption) ?_ ?_) | (intro _; first | rfl | trivial | omega | (simp; done) | (simp; omega)) | (intro _ _; first | omega | (simp; done) | (simp; omega)))))
  have hC : (w.alloc (.cells #[.int .i64 0, .int .i64 0, .int .i64 0, .int .i64 0, .int .i64 0, .int .i64 0] 57 (0, 0))).heap[w.heap.size]? = some (.cells #[.int .i64 0, .int .i64 0, .int .i64 0, .int .i64 0, .int .i64 0, .int .i64 0] 57 (0, 0)) := heap_new _ _
  have h1 := h.after hw0
  have LK := fun w h => tbl_look a g m root n w h ok
  generalize lookC m root n = C at *
  generalize lookP m root n = P at *
  generalize lookE m root n = E at *
  obtain ⟨pf, pi, pz⟩ := P
  obtain ⟨k, r, t, l, ep, ca⟩ := C
  unfold PlaceS.v at *
  unfold CapS.v at *
  dsimp only at *
  go_enter Try.func36, Try.ntmps36
  go_upto_region 3 with ((go_at_call 74; (with_reducible refine (LK _ h1).mono ?_); rintro e w' ⟨rfl, hx⟩); have hw2 := hw0.trans (hx.mono hw0.size); have hC2 := (hx.block _ (lt_of_block hC)).trans hC)
  have hC7 := heap_alloc (heap_alloc hC2 (.cells #[.int .i64 k, .int .i64 r, .int .i64 t, .int .i64 l, .int .i64 ep, .int .i64 ca] 57 (0, 0))) (.cells #[.int .i64 pf, .int .i64 pi, .bool pz] 121 (0, 0))
  have hD7 := heap_alloc (heap_new w' (.cells #[.int .i64 k, .int .i64 r, .int .i64 t, .int .i64 l, .int .i64 ep, .int .i64 ca] 57 (0, 0))) (.cells #[.int .i64 pf, .int .i64 pi, .bool pz] 121 (0, 0))
  have hw6 := hw2.alloc hw2.size (.cells #[.int .i64 k, .int .i64 r, .int .i64 t, .int .i64 l, .int .i64 ep, .int .i64 ca] 57 (0, 0))
  have hw7 := hw6.alloc hw6.size (.cells #[.int .i64 pf, .int .i64 pi, .bool pz] 121 (0, 0))
  have n1 : w'.heap.size ≠ w.heap.size := by have := lt_of_block hC2; omega
  generalize (w'.alloc (.cells #[.int .i64 k, .int .i64 r, .int .i64 t, .int .i64 l, .int .i64 ep, .int .i64 ca] 57 (0, 0))).alloc (.cells #[.int .i64 pf, .int .i64 pi, .bool pz] 121 (0, 0)) = w7 at *
  generalize w'.heap.size = N at *
  have y0 := cell_of hD7 0; have y1 := cell_of hD7 1; have y2 := cell_of hD7 2; have y3 := cell_of hD7 3; have y4 := cell_of hD7 4; have y5 := cell_of hD7 5
  dsimp at y0 y1 y2 y3 y4 y5
  have g0 := cell_of hC7 0; have g1 := cell_of hC7 1; have g2 := cell_of hC7 2; have g3 := cell_of hC7 3; have g4 := cell_of hC7 4; have g5 := cell_of hC7 5; have frc := frozen_of hC7; have lRc := lt_of_block hC7; dsimp at g0 g1 g2 g3 g4 g5
  go_wp2
  have hFC := heap_set (o := 5) (heap_set (o := 4) (heap_set (o := 3) (heap_set (o := 2) (heap_set (o := 1) (heap_set (o := 0) hC7 (.int .i64 k)) (.int .i64 r)) (.int .i64 t)) (.int .i64 l)) (.int .i64 ep)) (.int .i64 ca)
  have hwF := (((((hw7.setCell (p := ⟨w.heap.size, 0, none⟩) (Nat.le_refl _) (.int .i64 k)).setCell (p := ⟨w.heap.size, 1, none⟩) (Nat.le_refl _) (.int .i64 r)).setCell (p := ⟨w.heap.size, 2, none⟩) (Nat.le_refl _) (.int .i64 t)).setCell (p := ⟨w.heap.size, 3, none⟩) (Nat.le_refl _) (.int .i64 l)).setCell (p := ⟨w.heap.size, 4, none⟩) (Nat.le_refl _) (.int .i64 ep)).setCell (p := ⟨w.heap.size, 5, none⟩) (Nat.le_refl _) (.int .i64 ca)
  refine bodyPost_ret (v := .tuple #[.agg #[.int .i64 k, .int .i64 r, .int .i64 t, .int .i64 l, .int .i64 ep, .int .i64 ca], .int .i64 E]) ?_ rfl ⟨rfl, hwF⟩
  have hc1 := cell_of hFC
  simp [results, Try.f36, go_sem, hc1]
end Go.Proofs.Ytejdfdllgobnhaa
