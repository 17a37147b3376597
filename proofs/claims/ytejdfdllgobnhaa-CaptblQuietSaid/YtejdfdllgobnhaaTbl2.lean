/- Tables of capabilities (package captbl): quiet, free. -/
import Derived.Test.YtejdfdllgobnhaaTbl
set_option linter.unusedVariables false
set_option linter.unusedSimpArgs false
namespace Go.Proofs.Ytejdfdllgobnhaa
open Go.RowKit
set_option maxHeartbeats 1000000 in
theorem tbl_quiet (c : CapS) (fl : Int) (w : World) : Calls Try.prog 97 #[c.v, .int .i64 fl] w fun e w' => e = .returned (.bool (quietC c fl)) ∧ Below w.heap.size w w' := by
  obtain ⟨k, r, t, l, ep, a⟩ := c
  unfold CapS.v quietC
  dsimp only
  by_cases h0 : k = 0
  · subst h0
    go_enter Try.func97, Try.ntmps97
    go_wp2
    go_ret
    exact ⟨ret_bool (by simp), by (refine Touch.below0 ?_; (repeat' (first | (with_reducible exact Touch.refl _ _) | (with_reducible assumption) | (with_reducible refine Touch.drew ?_) | (with_reducible refine Touch.drewN ?_ _) | (with_reducible refine Touch.alloc ?_ _) | (with_reducible refine Touch.setCell ?_ _ _ _ ?_) | (with_reducible refine Touch.step (by assumption) ?_) | (with_reducible refine Touch.stepT (by assumption) ?_ ?_) | (intro _; first | rfl | trivial | omega | (simp; done) | (simp; omega)) | (intro _ _; first | omega | (simp; done) | (simp; omega)))))⟩
  · by_cases h1 : k = 1
    · subst h1
      go_enter Try.func97, Try.ntmps97
      go_wp2
      go_ret
      exact ⟨ret_bool (by simp), by (refine Touch.below0 ?_; (repeat' (first | (with_reducible exact Touch.refl _ _) | (with_reducible assumption) | (with_reducible refine Touch.drew ?_) | (with_reducible refine Touch.drewN ?_ _) | (with_reducible refine Touch.alloc ?_ _) | (with_reducible refine Touch.setCell ?_ _ _ _ ?_) | (with_reducible refine Touch.step (by assumption) ?_) | (with_reducible refine Touch.stepT (by assumption) ?_ ?_) | (intro _; first | rfl | trivial | omega | (simp; done) | (simp; omega)) | (intro _ _; first | omega | (simp; done) | (simp; omega)))))⟩
    · go_enter Try.func97, Try.ntmps97
      go_wp2
      go_ret
      exact ⟨ret_bool (by simp [h0, h1]), by (refine Touch.below0 ?_; (repeat' (first | (with_reducible exact Touch.refl _ _) | (with_reducible assumption) | (with_reducible refine Touch.drew ?_) | (with_reducible refine Touch.drewN ?_ _) | (with_reducible refine Touch.alloc ?_ _) | (with_reducible refine Touch.setCell ?_ _ _ _ ?_) | (with_reducible refine Touch.step (by assumption) ?_) | (with_reducible refine Touch.stepT (by assumption) ?_ ?_) | (intro _; first | rfl | trivial | omega | (simp; done) | (simp; omega)) | (intro _ _; first | omega | (simp; done) | (simp; omega)))))⟩
set_option maxHeartbeats 1000000 in
theorem tbl_free (a g : Nat) (m : MemS) (f i fl : Int) (w : World) (h : MemIs w a g m) (ok : m.Ok) : Calls Try.prog 69 #[.agg #[.pointer (some ⟨a, 0, none⟩)], .int .i64 f, .int .i64 i, .int .i64 fl] w fun e w' =>
    e = .returned (.int .i64 (freeE m f i fl)) ∧ Below w.heap.size w w' := by
  have hG := fun w h => slot_get a g m f i w h ok
  have hw0 : Below w.heap.size w (w.alloc (.cells #[.pointer (some ⟨a, 0, none⟩)] 115 (0, 0))) := by (refine Touch.below0 ?_; (repeat' (first | (with_reducible exact Touch.refl _ _) | (with_reducible assumption) | (with_reducible refine Touch.drew ?_) | (with_reducible refine Touch.drewN ?_ _) | (with_reducible refine Touch.alloc ?_ _) | (with_reducible refine Touch.setCell ?_ _ _ _ ?_) | (with_reducible refine Touch.step (by assumption) ?_) | (with_reducible refine Touch.stepT (by assumption) ?_ ?_) | (intro _; first | rfl | trivial | omega | (simp; done) | (simp; omega)) | (intro _ _; first | omega | (simp; done) | (simp; omega)))))
  have h1 := h.after hw0
  unfold freeE
  have hQ := tbl_quiet (slotC m f i) fl
  generalize hqc : quietC (slotC m f i) fl = q at *
  clear hqc
  generalize slotC m f i = C at *
  generalize slotE m f i = E at *
  obtain ⟨k, r, t, l, ep, ca⟩ := C
  unfold CapS.v at *
  dsimp only at *
  by_cases hE : E = 0
  · subst hE
    simp only [if_true]
    by_cases hk : 1 < k
    · simp only [hk, if_true]
      go_enter Try.func69, Try.ntmps69
      go_wp2_with ((go_at_call 79; (with_reducible refine (hG _ h1).mono ?_); rintro e w' ⟨rfl, hx⟩); have hw2 := hw0.trans (hx.mono hw0.size))
      go_ret
      exact ⟨rfl, hw2.alloc hw2.size _⟩
    · simp only [hk, if_false]
      have hk' : k ≤ 1 := by omega
      clear hk
      cases q
      all_goals
        go_enter Try.func69, Try.ntmps69
        go_wp2_with (first
          | ((go_at_call 79; (with_reducible refine (hG _ h1).mono ?_); rintro e w' ⟨rfl, hx⟩); have hw2 := hw0.trans (hx.mono hw0.size); have hw3 := hw2.alloc hw2.size (.cells #[.int .i64 k, .int .i64 r, .int .i64 t, .int .i64 l, .int .i64 ep, .int .i64 ca] 57 (0, 0)))
          | ((go_at_call 97; (with_reducible refine (hQ _).mono ?_); rintro e w' ⟨rfl, hx⟩)))
        go_ret
        exact ⟨rfl, hw3.trans (hx.mono hw3.size)⟩
  · simp only [hE, if_false]
    go_enter Try.func69, Try.ntmps69
    go_wp2_with ((go_at_call 79; (with_reducible refine (hG _ h1).mono ?_); rintro e w' ⟨rfl, hx⟩); have hw2 := hw0.trans (hx.mono hw0.size))
    go_ret
    exact ⟨rfl, hw2.alloc hw2.size _⟩
end Go.Proofs.Ytejdfdllgobnhaa
