/- The clock awake. -/
import Derived.Test.YtalcifmojngddaaClkF
set_option linter.unusedVariables false
set_option linter.unusedSimpArgs false
namespace Go.Proofs.Ytalcifmojngddaa
open Go.RowKit

theorem Clk.step_ok {c : Clk} (ok : c.Ok) (i : Int) : (c.step i).Ok := by
  by_cases h : c.stepE i = 0
  · have ht : ¬ 1073741824 ≤ c.now := by
      intro ht; unfold Clk.stepE at h; rw [if_pos ht] at h; split at h <;> omega
    rw [Clk.step, if_pos h]
    have := ok.t0; have := ok.t1; have := ok.n0; have := ok.n4
    constructor <;> first
      | exact ok.n0 | exact ok.n4 | exact ok.cy0 | exact ok.cy1 | exact ok.en0 | exact ok.en1 | exact ok.fl0 | exact ok.fl1 | exact ok.t0 | exact ok.t1
      | (show _ ≤ _; dsimp only; omega)
      | (intro j; have := ok.cy0 j; have := ok.cy1 j; have := ok.en0 j; have := ok.en1 j; have := ok.fl0 j; have := ok.fl1 j; have := ok.cy0 i.toNat; have := ok.cy1 i.toNat; dsimp only; first | omega | (unfold upd; split <;> omega))
  · rw [Clk.step, if_neg h]; exact ok
theorem Clk.enter_ok {c : Clk} (ok : c.Ok) (i : Int) : (c.enter i).Ok := by
  by_cases h : c.can i = 0
  · rw [Clk.enter, if_pos h]
    have := ok.t0; have := ok.t1; have := ok.n0; have := ok.n4
    constructor <;> first
      | exact ok.n0 | exact ok.n4 | exact ok.cy0 | exact ok.cy1 | exact ok.en0 | exact ok.en1 | exact ok.fl0 | exact ok.fl1 | exact ok.t0 | exact ok.t1
      | (show _ ≤ _; dsimp only; omega)
      | (intro j; have := ok.cy0 j; have := ok.cy1 j; have := ok.en0 j; have := ok.en1 j; have := ok.fl0 j; have := ok.fl1 j; have := ok.cy0 i.toNat; have := ok.cy1 i.toNat; dsimp only; first | omega | (unfold upd; split <;> omega))
  · rw [Clk.enter, if_neg h]; exact ok
theorem Clk.flush_ok {c : Clk} (ok : c.Ok) (i : Int) : (c.flush i).Ok := by
  by_cases h : c.can i = 0
  · rw [Clk.flush, if_pos h]
    have := ok.t0; have := ok.t1; have := ok.n0; have := ok.n4
    constructor <;> first
      | exact ok.n0 | exact ok.n4 | exact ok.cy0 | exact ok.cy1 | exact ok.en0 | exact ok.en1 | exact ok.fl0 | exact ok.fl1 | exact ok.t0 | exact ok.t1
      | (show _ ≤ _; dsimp only; omega)
      | (intro j; have := ok.cy0 j; have := ok.cy1 j; have := ok.en0 j; have := ok.en1 j; have := ok.fl0 j; have := ok.fl1 j; have := ok.cy0 i.toNat; have := ok.cy1 i.toNat; dsimp only; first | omega | (unfold upd; split <;> omega))
  · rw [Clk.flush, if_neg h]; exact ok
theorem Clk.step_n (c : Clk) (i : Int) : (c.step i).n = c.n := by unfold Clk.step; split <;> rfl
theorem Clk.enter_n (c : Clk) (i : Int) : (c.enter i).n = c.n := by unfold Clk.enter; split <;> rfl
theorem Clk.flush_n (c : Clk) (i : Int) : (c.flush i).n = c.n := by unfold Clk.flush; split <;> rfl

set_option maxHeartbeats 1000000 in
theorem awake03 (w : World) : Calls Try.prog 18 #[] w fun e w' => e = .returned (.bool true) ∧ Below w.heap.size w w' := by
  have k1 : (Clk.new 1).stepE 0 = 0 := by decide
  have k2 : ((Clk.new 1).step 0).nowOf = 1 := by decide
  have K1 := Lib.hid k1; have K2 := Lib.hid k2; clear k1 k2
  go_enter Try.func18, Try.ntmps18
  go_wp2_with (first
    | ((go_at_call 10; (with_reducible refine (clk_new 1 _ (by omega) (by omega)).mono ?_); rintro e w' ⟨rfl, hc1, hb1⟩))
    | ((go_at_call 11; (with_reducible refine (clk_step _ _ 0 _ hc1 (Clk.new_ok (by omega) (by omega))).mono ?_); rintro e w' ⟨rfl, hc2, ht2⟩); rw [K1.out])
    | ((go_at_call 17; (with_reducible refine (clk_now _ _ _ hc2).mono ?_); rintro e w' ⟨rfl, rfl⟩); rw [K2.out]))
  go_ret
  exact ⟨rfl, by (refine Touch.below0 ?_; (repeat' (first | (with_reducible exact Touch.refl _ _) | (with_reducible assumption) | (with_reducible refine Touch.drew ?_) | (with_reducible refine Touch.drewN ?_ _) | (with_reducible refine Touch.alloc ?_ _) | (with_reducible refine Touch.setCell ?_ _ _ _ ?_) | (with_reducible refine Touch.step (by assumption) ?_) | (with_reducible refine Touch.stepT (by assumption) ?_ ?_) | (intro _; first | rfl | trivial | omega | (simp; done) | (simp; omega)) | (intro _ _; first | omega | (simp; done) | (simp; omega)))))⟩
end Go.Proofs.Ytalcifmojngddaa
