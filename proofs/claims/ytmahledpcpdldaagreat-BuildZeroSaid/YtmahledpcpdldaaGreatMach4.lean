/- Check of a config. -/
import Derived.Test.YtmahledpcpdldaaGreatGMach
set_option linter.unusedVariables false
set_option linter.unusedSimpArgs false
namespace Go.Proofs.YtmahledpcpdldaaGreat
open Go.RowKit

theorem mach_in (n a b : Int) (w : World) : Calls Tryz.prog 69 #[.int .i64 n, .int .i64 a, .int .i64 b] w fun e w' => e = .returned (.bool (decide (a ≤ n) && decide (n ≤ b))) ∧ w = w' := by
  by_cases h1 : a ≤ n
  · go_enter Tryz.func69, Tryz.ntmps69
    go_wp2
    go_ret
    exact ⟨by simp [h1], rfl⟩
  · have : n < a := by omega
    go_enter Tryz.func69, Tryz.ntmps69
    go_wp2
    go_ret
    exact ⟨by simp; omega, rfl⟩

structure CfgOk (f c p r : Int) : Prop where
  f1 : 1 ≤ f
  f64 : f ≤ 64
  c1 : 1 ≤ c
  c4 : c ≤ 4
  p0 : 0 ≤ p
  pc : p ≤ c
  r0 : 0 ≤ r
  r8 : r ≤ 8

theorem mach_check (f c p r : Int) (w : World) (ok : CfgOk f c p r) : Calls Tryz.prog 8 #[.agg #[.int .i64 f, .int .i64 c, .int .i64 p, .int .i64 r]] w fun e w' => e = .returned (.int .i64 0) ∧ Below w.heap.size w w' := by
  have e1 : (decide (1 ≤ f) && decide (f ≤ 64)) = true := by simp [ok.f1, ok.f64]
  have e2 : (decide (1 ≤ c) && decide (c ≤ 4)) = true := by simp [ok.c1, ok.c4]
  have e3 : (decide (0 ≤ p) && decide (p ≤ c)) = true := by simp [ok.p0, ok.pc]
  have e4 : (decide (0 ≤ r) && decide (r ≤ 8)) = true := by simp [ok.r0, ok.r8]
  have E1 := Lib.hid e1; have E2 := Lib.hid e2; have E3 := Lib.hid e3; have E4 := Lib.hid e4
  clear e1 e2 e3 e4
  go_enter Tryz.func8, Tryz.ntmps8
  go_wp2_with (first
    | ((go_at_call 69; (with_reducible refine (mach_in f _ _ _).mono ?_); rintro e w' ⟨rfl, rfl⟩); rw [E1.out])
    | ((go_at_call 69; (with_reducible refine (mach_in c _ _ _).mono ?_); rintro e w' ⟨rfl, rfl⟩); rw [E2.out])
    | ((go_at_call 69; (with_reducible refine (mach_in p _ _ _).mono ?_); rintro e w' ⟨rfl, rfl⟩); rw [E3.out])
    | ((go_at_call 69; (with_reducible refine (mach_in r _ _ _).mono ?_); rintro e w' ⟨rfl, rfl⟩); rw [E4.out]))
  go_ret
  exact ⟨rfl, by (refine Touch.below0 ?_; (repeat' (first | (with_reducible exact Touch.refl _ _) | (with_reducible assumption) | (with_reducible refine Touch.drew ?_) | (with_reducible refine Touch.drewN ?_ _) | (with_reducible refine Touch.alloc ?_ _) | (with_reducible refine Touch.setCell ?_ _ _ _ ?_) | (with_reducible refine Touch.step (by assumption) ?_) | (with_reducible refine Touch.stepT (by assumption) ?_ ?_) | (intro _; first | rfl | trivial | omega | (simp; done) | (simp; omega)) | (intro _ _; first | omega | (simp; done) | (simp; omega)))))⟩
end Go.Proofs.YtmahledpcpdldaaGreat
