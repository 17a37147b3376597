/- Tables of capabilities (package captbl): settled. -/
import Derived.Test.YtejdfdllgobnhaaTbl10
set_option linter.unusedVariables false
set_option linter.unusedSimpArgs false
namespace Go.Proofs.Ytejdfdllgobnhaa
open Go.RowKit
def settledB (m : MemS) (f fl : Int) : Bool := decide (hdE m f = 0) && decide ((hdC m f).k = 1) && (hdC m f).fz && decide ((hdC m f).tm < fl)
set_option maxHeartbeats 1000000 in
set_option maxRecDepth 100000 in
theorem tbl_settled (a g : Nat) (m : MemS) (f fl : Int) (w : World) (h : MemIs w a g m) (ok : m.Ok) : Calls Try.prog 80 #[.agg #[.pointer (some ⟨a, 0, none⟩)], .int .i64 f, .int .i64 fl] w fun e w' =>
    e = .returned (.bool (settledB m f fl)) ∧ Below w.heap.size w w' := by
  have hG := fun w h => head_get a g m f w h ok
  have hw0 : Below w.heap.size w (w.alloc (.cells #[.pointer (some ⟨a, 0, none⟩)] 115 (0, 0))) := by (refine Touch.below0 ?_; (repeat' (first | (with_reducible exact Touch.refl _ _) | (with_reducible assumption) | (with_reducible refine Touch.drew ?_) | (with_reducible refine Touch.drewN ?_ _) | (with_reducible refine Touch.alloc ?_ _) | (with_reducible refine Touch.setCell ?_ _ _ _ ?_) | (with_reducible refine Touch.step (by assumption) ?_) | (with_reducible refine Touch.stepT (by assumption) ?_ ?_) | (intro _; first | rfl | trivial | omega | (simp; done) | (simp; omega)) | (intro _ _; first | omega | (simp; done) | (simp; omega)))))
  have h1 := h.after hw0
  unfold settledB
  generalize hdC m f = C at *
  generalize hdE m f = E at *
  obtain ⟨k, l, fz, tm⟩ := C
  unfold HeadS.v at *
  dsimp only at *
  by_cases hE : E = 0
  · subst hE
    by_cases hk : k = 1
    · subst hk
      cases fz
      · simp only [decide_true, Bool.and_false, Bool.false_and]
        go_enter Try.func80, Try.ntmps80
        go_wp2_with ((go_at_call 77; (with_reducible refine (hG _ h1).mono ?_); rintro e w' ⟨rfl, hx⟩); have hw2 := hw0.trans (hx.mono hw0.size))
        go_ret
        exact ⟨rfl, hw2.alloc hw2.size _⟩
      · simp only [decide_true, Bool.and_true, Bool.true_and]
        go_enter Try.func80, Try.ntmps80
        go_wp2_with ((go_at_call 77; (with_reducible refine (hG _ h1).mono ?_); rintro e w' ⟨rfl, hx⟩); have hw2 := hw0.trans (hx.mono hw0.size))
        go_ret
        exact ⟨rfl, hw2.alloc hw2.size _⟩
    · have hk2 : (k == 1) = false := by simpa using hk
      simp only [hk, decide_false, Bool.and_false, Bool.false_and]
      go_enter Try.func80, Try.ntmps80
      go_wp2_with ((go_at_call 77; (with_reducible refine (hG _ h1).mono ?_); rintro e w' ⟨rfl, hx⟩); have hw2 := hw0.trans (hx.mono hw0.size))
      go_ret
      exact ⟨rfl, hw2.alloc hw2.size _⟩
  · have hE2 : (E == 0) = false := by simpa using hE
    simp only [hE, decide_false, Bool.false_and]
    go_enter Try.func80, Try.ntmps80
    go_wp2_with ((go_at_call 77; (with_reducible refine (hG _ h1).mono ?_); rintro e w' ⟨rfl, hx⟩); have hw2 := hw0.trans (hx.mono hw0.size))
    go_ret
    exact ⟨rfl, hw2.alloc hw2.size _⟩
end Go.Proofs.Ytejdfdllgobnhaa
