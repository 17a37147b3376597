/- MachineZero: the walk of the law. -/
import Derived.Test.YtejdfdllgobnhaaZero25
set_option linter.unusedVariables false
set_option linter.unusedSimpArgs false
namespace Go.Proofs.Ytejdfdllgobnhaa
open Go.RowKit

set_option maxHeartbeats 1000000 in
set_option maxRecDepth 100000 in
theorem machineZero_walk (a b : Int) (w : World) (ha : (Lit.int .i64 a).wf = true) (hb : (Lit.int .i64 b).wf = true) :
    Calls Try.prog 4 #[.int .i64 a, .int .i64 b] w fun e w' => e = .returned (.bool true) ∧ Below w.heap.size w w' := by
  have hbA : ∀ o, Below w.heap.size w (w.alloc o) := fun o => by (refine Touch.below0 ?_; (repeat' (first | (with_reducible exact Touch.refl _ _) | (with_reducible assumption) | (with_reducible refine Touch.drew ?_) | (with_reducible refine Touch.drewN ?_ _) | (with_reducible refine Touch.alloc ?_ _) | (with_reducible refine Touch.setCell ?_ _ _ _ ?_) | (with_reducible refine Touch.step (by assumption) ?_) | (with_reducible refine Touch.stepT (by assumption) ?_ ?_) | (intro _; first | rfl | trivial | omega | (simp; done) | (simp; omega)) | (intro _ _; first | omega | (simp; done) | (simp; omega)))))
  have hz0 : Mz (w.alloc (.cells #[.pointer none, .pointer none, .pointer none, .pointer none, .pointer none, .slice none 0 0] 52 (0, 0))) (some ⟨w.heap.size, 0, none⟩) :=
    .inr ⟨_, rfl, by rw [cell_of (heap_new _ _)]; rfl⟩
  go_enter Try.func4, Try.ntmps4
  go_wp2_with (first
    | (go_at_call 21; (with_reducible refine (mz_floors none _ (Mz.nil _)).mono ?_); rintro e w' ⟨rfl, rfl⟩)
    | (go_at_call 18; (with_reducible refine (mz_flush _ _ _ hz0).mono ?_); rintro e w' ⟨rfl, rfl⟩)
    | (go_at_call 11; (with_reducible refine (mz_retype none _ _ _ (Mz.nil _)).mono ?_); rintro e w' ⟨rfl, rfl⟩)
    | ((go_at_call 22; (with_reducible refine (mz_link _ _ hz0).mono ?_); rintro e w' ⟨rfl, hb1⟩); have hbw := (hbA _).trans (hb1.mono (hbA _).size); have hm := hz0.below hb1)
    | ((go_at_call 23; (with_reducible refine (mz_unlink none _ (Mz.nil _)).mono ?_); rintro e w' ⟨rfl, hb2⟩); have hbw := hbw.trans (hb2.mono hbw.size); have hm := hm.below hb2)
    | (go_at_call 24; (with_reducible refine (mz_setcur _ _ _ _ hm).mono ?_); rintro e w' ⟨rfl, rfl⟩)
    | (go_at_call 12; (with_reducible refine (mz_mem none _ (Mz.nil _)).mono ?_); rintro e w' ⟨rfl, rfl⟩)
    | (go_at_call 9; (with_reducible refine (mz_clock _ _ hm).mono ?_); rintro e w' ⟨rfl, rfl⟩)
    | (go_at_call 25; (with_reducible refine (mz_tlb none _ _ (Mz.nil _)).mono ?_); rintro e w' ⟨rfl, rfl⟩)
    | (go_at_call 26; (with_reducible refine (mz_regs _ _ _ hm).mono ?_); rintro e w' ⟨rfl, rfl⟩)
    | (go_at_call 14; (with_reducible refine (mz_typ none _ (Mz.nil _)).mono ?_); rintro e w' ⟨rfl, rfl⟩)
    | (go_at_call 27; (with_reducible refine (mz_live _ _ hm).mono ?_); rintro e w' ⟨rfl, rfl⟩)
    | (go_at_call 28; (with_reducible refine (mz_lines none _ (Mz.nil _)).mono ?_); rintro e w' ⟨rfl, rfl⟩)
    | (go_at_call 16; (with_reducible refine (mz_now _ _ hm).mono ?_); rintro e w' ⟨rfl, rfl⟩)
    | (go_at_call 29; (with_reducible refine (mz_cur none _ _ (Mz.nil _)).mono ?_); rintro e w' ⟨rfl, rfl⟩)
    | (go_at_call 30; (with_reducible refine (mz_cores _ _ hm).mono ?_); rintro e w' ⟨rfl, rfl⟩))
  go_ret
  exact ⟨rfl, hbw⟩
end Go.Proofs.Ytejdfdllgobnhaa
