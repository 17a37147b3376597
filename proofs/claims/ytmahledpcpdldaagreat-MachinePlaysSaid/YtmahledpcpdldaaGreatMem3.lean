/- Frames of words: Len, Words (not in every seat). -/
import Derived.Test.YtmahledpcpdldaaGreatMem2
set_option linter.unusedVariables false
set_option linter.unusedSimpArgs false
namespace Go.Proofs.YtmahledpcpdldaaGreat
open Go.RowKit

theorem mem_len_nil (w : World) : Calls Tryz.prog 189 #[.pointer none] w fun e w' => e = .returned (.int .i64 0) ∧ w = w' := by
  go_enter Tryz.func189, Tryz.ntmps189
  go_wp2_with ((go_at_call 245; (with_reducible refine (mem_none_nil w).mono ?_); rintro e w' ⟨rfl, rfl⟩))
  go_ret
  exact ⟨rfl, rfl⟩
theorem mem_len (a g : Nat) (m : MemS) (w : World) (h : MemIs w a g m) (ok : m.Ok) : Calls Tryz.prog 189 #[.pointer (some ⟨a, 0, none⟩)] w fun e w' => e = .returned (.int .i64 m.n) ∧ w = w' := by
  have g0 := h.cell0
  go_enter Tryz.func189, Tryz.ntmps189
  go_wp2_with ((go_at_call 245; (with_reducible refine (mem_none _ _ _ w h ok).mono ?_); rintro e w' ⟨rfl, rfl⟩))
  go_ret
  exact ⟨rfl, rfl⟩

end Go.Proofs.YtmahledpcpdldaaGreat
