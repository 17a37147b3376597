/- The clock awake. -/
import Derived.Test.YtejdfdllgobnhaaClkF
set_option linter.unusedVariables false
set_option linter.unusedSimpArgs false
namespace Go.Proofs.Ytejdfdllgobnhaa
open Go.RowKit

theorem Clk.step_ok {c : Clk} (ok : c.Ok) (i : Int) : (c.step i).Ok := by
  by_cases h : c.stepE i = 0
  · have ht : ¬ 1073741824 ≤ c.now := by
      intro ht; unfold Clk.stepE at h; rw [if_pos ht] at h; split at h <;> omega
    rw [Clk.step, if_pos h]
    have := ok.t0; have := ok.t1; have := ok.n0; have := ok.n4
    constructor <;> first
      | exact ok.n0 | exact ok.n4 | exact ok.cy0 | exact ok.cy1 | exact ok.en0 | exact ok.en1 | exact ok.fl0 | exact ok.fl1 | exact ok.t0 | exact ok.t1
      | (show _ ≤ _; dsimp only; omega)
      | (intro j; have := ok.cy0 j; have := ok.cy1 j; have := ok.en0 j; have := ok.en1 j; have := ok.fl0 j; have := ok.fl1 j; have := ok.cy0 i.toNat; have := ok.cy1 i.toNat; dsimp only; first | omega | (unfold upd; split <;> omega))
  · rw [Clk.step, if_neg h]; exact ok
theorem Clk.enter_ok {c : Clk} (ok : c.Ok) (i : Int) : (c.enter i).Ok := by
  by_cases h : c.can i = 0
  · rw [Clk.enter, if_pos h]
    have := ok.t0; have := ok.t1; have := ok.n0; have := ok.n4
    constructor <;> first
      | exact ok.n0 | exact ok.n4 | exact ok.cy0 | exact ok.cy1 | exact ok.en0 | exact ok.en1 | exact ok.fl0 | exact ok.fl1 | exact ok.t0 | exact ok.t1
      | (show _ ≤ _; dsimp only; omega)
      | (intro j; have := ok.cy0 j; have := ok.cy1 j; have := ok.en0 j; have := ok.en1 j; have := ok.fl0 j; have := ok.fl1 j; have := ok.cy0 i.toNat; have := ok.cy1 i.toNat; dsimp only; first | omega | (unfold upd; split <;> omega))
  · rw [Clk.enter, if_neg h]; exact ok
theorem Clk.flush_ok {c : Clk} (ok : c.Ok) (i : Int) : (c.flush i).Ok := by
  by_cases h : c.can i = 0
  · rw [Clk.flush, if_pos h]
    have := ok.t0; have := ok.t1; have := ok.n0; have := ok.n4
    constructor <;> first
      | exact ok.n0 | exact ok.n4 | exact ok.cy0 | exact ok.cy1 | exact ok.en0 | exact ok.en1 | exact ok.fl0 | exact ok.fl1 | exact ok.t0 | exact ok.t1
      | (show _ ≤ _; dsimp only; omega)
      | (intro j; have := ok.cy0 j; have := ok.cy1 j; have := ok.en0 j; have := ok.en1 j; have := ok.fl0 j; have := ok.fl1 j; have := ok.cy0 i.toNat; have := ok.cy1 i.toNat; dsimp only; first | omega | (unfold upd; split <;> omega))
  · rw [Clk.flush, if_neg h]; exact ok
theorem Clk.step_n (c : Clk) (i : Int) : (c.step i).n = c.n := by unfold Clk.step; split <;> rfl
theorem Clk.enter_n (c : Clk) (i : Int) : (c.enter i).n = c.n := by unfold Clk.enter; split <;> rfl
theorem Clk.flush_n (c : Clk) (i : Int) : (c.flush i).n = c.n := by unfold Clk.flush; split <;> rfl
end Go.Proofs.Ytejdfdllgobnhaa
