/- ClockZero: the walk of the law. -/
import Derived.Test.YtalcifmojngddaaClkLaw
set_option linter.unusedVariables false
set_option linter.unusedSimpArgs false
namespace Go.Proofs.Ytalcifmojngddaa
open Go.RowKit

def Clk.zero : Clk := { now := 0, n := 0, cy := fun _ => 0, en := fun _ => 0, fl := fun _ => 0 }
theorem Clk.zero_ok : Clk.zero.Ok := by constructor <;> simp [Clk.zero]
theorem Clk.zero_can (i : Int) : Clk.zero.can i = 13 := by simp [Clk.zero, Clk.can]
theorem Clk.zero_enter (i : Int) : Clk.zero.enter i = Clk.zero := by simp [Clk.enter, Clk.zero_can]
theorem Clk.zero_cycles (i : Int) : Clk.zero.cycles i = 0 := by simp [Clk.cycles, Clk.zero_can]
theorem Clk.zero_flushed (i : Int) : Clk.zero.flushed i = -1 := by simp [Clk.flushed, Clk.zero_can]
theorem Clk.zero_now : Clk.zero.nowOf = 0 := by simp [Clk.nowOf, Clk.zero]
theorem ClkAt.touch {w w' : World} {b : Nat} {c : Clk} {S : Nat → Prop} (h : ClkAt w b c) (ht : Touch S w w') (hs : ¬ S b) : ClkAt w' b c := ht.at h hs
theorem ClkAt.after' {w w' : World} {b : Nat} {c : Clk} (h : ClkAt w b c) (hb : Below w.heap.size w w') : ClkAt w' b c := (hb.block b (lt_of_block h)).trans h

set_option maxHeartbeats 1000000 in
set_option maxRecDepth 100000 in
theorem clockZero_walk (i : Int) (w : World) (hi : (Lit.int .i64 i).wf = true) :
    Calls Try.prog 4 #[.int .i64 i] w fun e w' => e = .returned (.bool true) ∧ Below w.heap.size w w' := by
  have hz0 : ∀ w0 : World, ClkAt (w0.alloc (.cells #[.int .i64 0, .int .i64 0, .int .i64 0, .int .i64 0, .int .i64 0, .int .i64 0, .int .i64 0, .int .i64 0, .int .i64 0, .int .i64 0, .int .i64 0, .int .i64 0, .int .i64 0, .int .i64 0] 37 (0, 0))) w0.heap.size Clk.zero := fun w0 => heap_new _ _
  go_enter Try.func4, Try.ntmps4
  go_wp2_with (first
    | ((go_at_call 19; (with_reducible refine (clk_floor_nil _).mono ?_); rintro e w' ⟨rfl, rfl⟩); have hc := hz0 w)
    | (go_at_call 11; (with_reducible refine (clk_step_nil _ _).mono ?_); rintro e w' ⟨rfl, rfl⟩)
    | ((go_at_call 12; (with_reducible refine (clk_enter _ _ _ _ (hz0 w) Clk.zero_ok).mono ?_); rintro e w' ⟨rfl, hc, ht⟩); rw [Clk.zero_enter] at hc; rw [Clk.zero_can])
    | (go_at_call 13; (with_reducible refine (clk_flush_nil _ _).mono ?_); rintro e w' ⟨rfl, rfl⟩)
    | ((go_at_call 17; (with_reducible refine (clk_now _ _ _ hc).mono ?_); rintro e w' ⟨rfl, rfl⟩); rw [Clk.zero_now])
    | (go_at_call 20; (with_reducible refine (clk_cores_nil _).mono ?_); rintro e w' ⟨rfl, rfl⟩)
    | ((go_at_call 14; (with_reducible refine (clk_cycles _ _ _ _ hc Clk.zero_ok).mono ?_); rintro e w' ⟨rfl, hb⟩); rw [Clk.zero_cycles]; have hc := hc.after' hb)
    | ((go_at_call 15; (with_reducible refine (clk_entered_nil _ _).mono ?_); rintro e w' ⟨rfl, hb2⟩); have hc := hc.after' hb2)
    | ((go_at_call 16; (with_reducible refine (clk_flushed _ _ _ _ hc Clk.zero_ok).mono ?_); rintro e w' ⟨rfl, hb3⟩); rw [Clk.zero_flushed]))
  go_ret
  exact ⟨rfl, by (refine Touch.below0 ?_; (repeat' (first | (with_reducible exact Touch.refl _ _) | (with_reducible assumption) | (with_reducible refine Touch.drew ?_) | (with_reducible refine Touch.drewN ?_ _) | (with_reducible refine Touch.alloc ?_ _) | (with_reducible refine Touch.setCell ?_ _ _ _ ?_) | (with_reducible refine Touch.step (by assumption) ?_) | (with_reducible refine Touch.stepT (by assumption) ?_ ?_) | (intro _; first | rfl | trivial | omega | (simp; done) | (simp; omega)) | (intro _ _; first | omega | (simp; done) | (simp; omega)))))⟩
end Go.Proofs.Ytalcifmojngddaa
