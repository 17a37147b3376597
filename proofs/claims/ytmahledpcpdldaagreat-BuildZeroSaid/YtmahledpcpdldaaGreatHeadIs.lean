/- head.Is. -/
import Derived.Test.YtmahledpcpdldaaGreatHeadGet
set_option linter.unusedVariables false
set_option linter.unusedSimpArgs false
namespace Go.Proofs.YtmahledpcpdldaaGreat
open Go.RowKit
def isE (m : MemS) (f k : Int) : Int := if hdE m f = 0 then (if (hdC m f).k = k then 0 else 4) else hdE m f
set_option maxHeartbeats 1000000 in
theorem head_is (a g : Nat) (m : MemS) (f k : Int) (w : World) (h : MemIs w a g m) (ok : m.Ok) : Calls Tryz.prog 146 #[.pointer (some ⟨a, 0, none⟩), .int .i64 f, .int .i64 k] w fun e w' =>
    e = .returned (.int .i64 (isE m f k)) ∧ Below w.heap.size w w' := by
  have HG := head_get a g m f w h ok
  unfold isE
  generalize hdE m f = E at *
  generalize hdC m f = C at *
  obtain ⟨k0, lv, fz, tm⟩ := C
  unfold HeadS.v at HG
  dsimp only at HG ⊢
  by_cases hE : E = 0
  · subst hE
    rw [if_pos rfl]
    by_cases hk : k0 = k
    · subst hk
      rw [if_pos rfl]
      go_enter Tryz.func146, Tryz.ntmps146
      go_wp2_with ((go_at_call 164; (with_reducible refine (HG).mono ?_); rintro e w' ⟨rfl, hx⟩); have hw2 := hx.alloc hx.size (.cells #[.int .i64 k0, .int .i64 lv, .bool fz, .int .i64 tm] 192 (0, 0)))
      go_ret
      exact ⟨rfl, hw2⟩
    · have hk2 : (k0 == k) = false := by simpa using hk
      have hk3 : (k0 != k) = true := by simpa using hk
      rw [if_neg hk]
      go_enter Tryz.func146, Tryz.ntmps146
      go_wp2_with ((go_at_call 164; (with_reducible refine (HG).mono ?_); rintro e w' ⟨rfl, hx⟩); have hw2 := hx.alloc hx.size (.cells #[.int .i64 k0, .int .i64 lv, .bool fz, .int .i64 tm] 192 (0, 0)))
      go_ret
      exact ⟨rfl, hw2⟩
  · have hE2 : (E == 0) = false := by simpa using hE
    have hE3 : (E != 0) = true := by simpa using hE
    rw [if_neg hE]
    go_enter Tryz.func146, Tryz.ntmps146
    go_wp2_with ((go_at_call 164; (with_reducible refine (HG).mono ?_); rintro e w' ⟨rfl, hx⟩); have hw2 := hx.alloc hx.size (.cells #[.int .i64 k0, .int .i64 lv, .bool fz, .int .i64 tm] 192 (0, 0)))
    go_ret
    exact ⟨rfl, hw2⟩
end Go.Proofs.YtmahledpcpdldaaGreat
