/- FindZero: the walk of the law. -/
import Derived.Test.YtejdfdllgobnhaaGreatFindA
set_option linter.unusedVariables false
set_option linter.unusedSimpArgs false
namespace Go.Proofs.YtejdfdllgobnhaaGreat
open Go.RowKit Go.OpenShut
set_option maxHeartbeats 4000000 in
theorem findZero_walk (a f : Int) (w : World) (wa : (Lit.int .i64 a).wf = true) (wf : (Lit.int .i64 f).wf = true) :
    Calls Tryz.prog 5 #[.int .i64 a, .int .i64 f] w fun e w' => e = .returned (.bool true) ∧ Below w.heap.size w w' := by
  go_enter Tryz.func5, Tryz.ntmps5
  go_upto_region 2 with (fail)
  have hB : Below w.heap.size w (w.alloc (.cells #[.pointer none, .pointer none, .pointer none, .pointer none, .pointer none, .slice none 0 0] 60 (0, 0))) := by (refine Touch.below0 ?_; (repeat' (first | (with_reducible exact Touch.refl _ _) | (with_reducible assumption) | (with_reducible refine Touch.drew ?_) | (with_reducible refine Touch.drewN ?_ _) | (with_reducible refine Touch.alloc ?_ _) | (with_reducible refine Touch.setCell ?_ _ _ _ ?_) | (with_reducible refine Touch.step (by assumption) ?_) | (with_reducible refine Touch.stepT (by assumption) ?_ ?_) | (intro _; first | rfl | trivial | omega | (simp; done) | (simp; omega)) | (intro _ _; first | omega | (simp; done) | (simp; omega)))))
  have hM : Mz (w.alloc (.cells #[.pointer none, .pointer none, .pointer none, .pointer none, .pointer none, .slice none 0 0] 60 (0, 0))) (some ⟨w.heap.size, 0, none⟩) := .inr ⟨_, rfl, by rw [cell_of (heap_new _ _)]; rfl⟩
  generalize w.alloc (.cells #[.pointer none, .pointer none, .pointer none, .pointer none, .pointer none, .slice none 0 0] 60 (0, 0)) = W at *
  go_wp2_with (first
    | ((go_at_call 22; (with_reducible refine (fz_cap none 0 a 0 0 _ (Mz.nil _)).mono ?_); rintro e w' ⟨rfl, hx⟩); have hy := hx.alloc hx.size (.cells #[.int .i64 0, .int .i64 0, .int .i64 0, .int .i64 0, .int .i64 0, .int .i64 0] 32 (0, 0)); have hM := hM.below hy; have hB := hB.trans (hy.mono hB.size))
    | ((go_at_call 23; (with_reducible refine (fz_comp _ f _ hM).mono ?_); rintro e w' ⟨rfl, hx⟩); have hy := hx.alloc hx.size (.cells #[.int .i64 0, .int .i64 0, .int .i64 0, .int .i64 0, .int .i64 0, .int .i64 0] 64 (0, 0)); have hM := hM.below hy; have hB := hB.trans (hy.mono hB.size))
    | ((go_at_call 24; (with_reducible refine (fz_mem _ 0 a 0 f _ hM).mono ?_); rintro e w' ⟨rfl, hx⟩); have hM := hM.below hx; have hB := hB.trans (hx.mono hB.size))
    | ((go_at_call 25; (with_reducible refine (fz_fresh none f _ (Mz.nil _)).mono ?_); rintro e w' ⟨rfl, hx⟩); have hB := hB.trans (hx.mono hB.size))
    | ((go_at_call 26; (with_reducible refine (fz_alive none _ (Mz.nil _) 0 0 0 0 0 0).mono ?_); rintro e w' ⟨rfl, hx⟩); have hB := hB.trans (hx.mono hB.size))
    | ((go_at_call 27; (with_reducible refine (awake26 _).mono ?_); rintro e w' ⟨rfl, hx⟩); have hB := hB.trans (hx.mono hB.size)))
  go_ret
  exact ⟨rfl, hB⟩
end Go.Proofs.YtejdfdllgobnhaaGreat
