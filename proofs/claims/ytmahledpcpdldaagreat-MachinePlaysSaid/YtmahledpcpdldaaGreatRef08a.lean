/- The reference of layer 8 (palanquinref08). -/
import Derived.Test.YtmahledpcpdldaaGreatQuiet
import Derived.Test.YtmahledpcpdldaaGreatRef03
set_option linter.unusedVariables false
set_option linter.unusedSimpArgs false
namespace Go.Proofs.YtmahledpcpdldaaGreat
open Go.RowKit

theorem Clk.kern_floor {c : Clk} (n1 : 1 ≤ c.n) (t : Int) : c.kern t = decide (t < c.floorE) := by simp [Clk.kern]; omega
theorem Clk.user_floor {c : Clk} (n1 : 1 ≤ c.n) (t : Int) : c.user t = decide (t < c.floorF) := by simp [Clk.user]; omega
theorem RClkAt.n1 {w : World} {v : Nat} {c : Clk} (h : RClkAt w v c) : 1 ≤ c.n := by obtain ⟨_, _, _, _, _, _, h⟩ := h; exact h.n1

theorem r8_kernel (v : Nat) (c : Clk) (t : Int) (w : World) (h : RClkAt w v c) (ok : c.Ok) :
    Calls Tryz.prog 200 #[.pointer (some ⟨v, 0, none⟩), .int .i64 t] w fun e w' => e = .returned (.bool (c.kern t)) ∧ Below w.heap.size w w' := by
  rw [Clk.kern_floor h.n1]
  go_enter Tryz.func200, Tryz.ntmps200
  go_wp2_with (go_at_call 94; (with_reducible refine (r3_floor _ _ _ h ok).mono ?_); rintro e w' ⟨rfl, hb⟩)
  go_ret
  exact ⟨rfl, hb⟩
theorem r8_user (v : Nat) (c : Clk) (t : Int) (w : World) (h : RClkAt w v c) (ok : c.Ok) :
    Calls Tryz.prog 199 #[.pointer (some ⟨v, 0, none⟩), .int .i64 t] w fun e w' => e = .returned (.bool (c.user t)) ∧ Below w.heap.size w w' := by
  rw [Clk.user_floor h.n1]
  go_enter Tryz.func199, Tryz.ntmps199
  go_wp2_with (go_at_call 94; (with_reducible refine (r3_floor _ _ _ h ok).mono ?_); rintro e w' ⟨rfl, hb⟩)
  go_ret
  exact ⟨rfl, hb⟩

set_option maxHeartbeats 1000000 in
theorem r8_for (v : Nat) (c : Clk) (was t : Int) (w : World) (h : RClkAt w v c) (ok : c.Ok) :
    Calls Tryz.prog 111 #[.pointer (some ⟨v, 0, none⟩), .int .i64 was, .int .i64 t] w fun e w' => e = .returned (.bool (c.quiet was t)) ∧ Below w.heap.size w w' := by
  unfold Clk.quiet
  by_cases h0 : was = 0
  · subst h0
    rw [if_pos rfl]
    go_enter Tryz.func111, Tryz.ntmps111
    go_wp2
    go_ret
    exact ⟨rfl, Below.refl _ _⟩
  rw [if_neg h0]
  by_cases h3 : was = 3
  · subst h3
    rw [if_pos rfl]
    generalize hu : c.user t = u
    have HU := Lib.hid hu; clear hu
    cases u
    · go_enter Tryz.func111, Tryz.ntmps111
      go_wp2_with ((go_at_call 199; (with_reducible refine (r8_user _ _ _ _ h ok).mono ?_); rintro e w' ⟨rfl, hb⟩); rw [HU.out])
      go_ret
      exact ⟨rfl, by (refine Touch.below0 ?_; (repeat' (first | (with_reducible exact Touch.refl _ _) | (with_reducible assumption) | (with_reducible refine Touch.drew ?_) | (with_reducible refine Touch.drewN ?_ _) | (with_reducible refine Touch.alloc ?_ _) | (with_reducible refine Touch.setCell ?_ _ _ _ ?_) | (with_reducible refine Touch.step (by assumption) ?_) | (with_reducible refine Touch.stepT (by assumption) ?_ ?_) | (intro _; first | rfl | trivial | omega | (simp; done) | (simp; omega)) | (intro _ _; first | omega | (simp; done) | (simp; omega)))))⟩
    · go_enter Tryz.func111, Tryz.ntmps111
      go_wp2_with (first
        | ((go_at_call 199; (with_reducible refine (r8_user _ _ _ _ h ok).mono ?_); rintro e w' ⟨rfl, hb⟩); rw [HU.out]; have h := h.after hb)
        | (go_at_call 200; (with_reducible refine (r8_kernel _ _ _ _ h ok).mono ?_); rintro e w' ⟨rfl, hb2⟩))
      go_ret
      exact ⟨rfl, by (refine Touch.below0 ?_; (repeat' (first | (with_reducible exact Touch.refl _ _) | (with_reducible assumption) | (with_reducible refine Touch.drew ?_) | (with_reducible refine Touch.drewN ?_ _) | (with_reducible refine Touch.alloc ?_ _) | (with_reducible refine Touch.setCell ?_ _ _ _ ?_) | (with_reducible refine Touch.step (by assumption) ?_) | (with_reducible refine Touch.stepT (by assumption) ?_ ?_) | (intro _; first | rfl | trivial | omega | (simp; done) | (simp; omega)) | (intro _ _; first | omega | (simp; done) | (simp; omega)))))⟩
  rw [if_neg h3]
  by_cases h2 : was = 2
  · subst h2
    rw [if_pos rfl]
    go_enter Tryz.func111, Tryz.ntmps111
    go_wp2_with (go_at_call 200; (with_reducible refine (r8_kernel _ _ _ _ h ok).mono ?_); rintro e w' ⟨rfl, hb2⟩)
    go_ret
    exact ⟨rfl, by (refine Touch.below0 ?_; (repeat' (first | (with_reducible exact Touch.refl _ _) | (with_reducible assumption) | (with_reducible refine Touch.drew ?_) | (with_reducible refine Touch.drewN ?_ _) | (with_reducible refine Touch.alloc ?_ _) | (with_reducible refine Touch.setCell ?_ _ _ _ ?_) | (with_reducible refine Touch.step (by assumption) ?_) | (with_reducible refine Touch.stepT (by assumption) ?_ ?_) | (intro _; first | rfl | trivial | omega | (simp; done) | (simp; omega)) | (intro _ _; first | omega | (simp; done) | (simp; omega)))))⟩
  rw [if_neg h2]
  by_cases h1 : was = 1
  · subst h1
    rw [if_pos rfl]
    go_enter Tryz.func111, Tryz.ntmps111
    go_wp2_with (go_at_call 199; (with_reducible refine (r8_user _ _ _ _ h ok).mono ?_); rintro e w' ⟨rfl, hb2⟩)
    go_ret
    exact ⟨rfl, by (refine Touch.below0 ?_; (repeat' (first | (with_reducible exact Touch.refl _ _) | (with_reducible assumption) | (with_reducible refine Touch.drew ?_) | (with_reducible refine Touch.drewN ?_ _) | (with_reducible refine Touch.alloc ?_ _) | (with_reducible refine Touch.setCell ?_ _ _ _ ?_) | (with_reducible refine Touch.step (by assumption) ?_) | (with_reducible refine Touch.stepT (by assumption) ?_ ?_) | (intro _; first | rfl | trivial | omega | (simp; done) | (simp; omega)) | (intro _ _; first | omega | (simp; done) | (simp; omega)))))⟩
  · rw [if_neg h1]
    have e0 : (was == 0) = false := by simp [h0]
    have e1 : (was == 1) = false := by simp [h1]
    have e2 : (was == 2) = false := by simp [h2]
    have e3 : (was == 3) = false := by simp [h3]
    clear h0 h1 h2 h3
    go_enter Tryz.func111, Tryz.ntmps111
    go_wp2
    go_ret
    exact ⟨rfl, Below.refl _ _⟩
end Go.Proofs.YtmahledpcpdldaaGreat
