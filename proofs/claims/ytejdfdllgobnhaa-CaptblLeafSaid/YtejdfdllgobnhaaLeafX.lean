/- CaptblLeaf: the walk of the law. -/
import Derived.Test.YtejdfdllgobnhaaLeafP13
set_option linter.unusedVariables false
set_option linter.unusedSimpArgs false
namespace Go.Proofs.Ytejdfdllgobnhaa
open Go.RowKit Go.OpenShut
set_option maxHeartbeats 4000000 in
set_option maxRecDepth 100000 in
theorem captblLeaf_walk (hi lo x0 x1 x2 x3 x4 x5 now fl : Int) (w : World) (whi : (Lit.int .i64 hi).wf = true) (wlo : (Lit.int .i64 lo).wf = true)
    (wx0 : (Lit.int .i64 x0).wf = true) (wx1 : (Lit.int .i64 x1).wf = true) (wx2 : (Lit.int .i64 x2).wf = true) (wx3 : (Lit.int .i64 x3).wf = true) (wx4 : (Lit.int .i64 x4).wf = true) (wx5 : (Lit.int .i64 x5).wf = true)
    (wn : (Lit.int .i64 now).wf = true) (wf : (Lit.int .i64 fl).wf = true) :
    Calls Try.prog 7 #[.int .i64 hi, .int .i64 lo, .agg #[.int .i64 x0, .int .i64 x1, .int .i64 x2, .int .i64 x3, .int .i64 x4, .int .i64 x5], .int .i64 now, .int .i64 fl] w
      fun e w' => e = .returned (.bool true) ∧ Below w.heap.size w w' := by
  have NW := fun w => new_ex (n := 3) (by omega) (by omega) w
  change ∀ w, Calls _ _ #[.int .i64 3] w _ at NW
  have AW := awake13
  go_enter Try.func7, Try.ntmps7
  go_upto_region 2 with ((go_at_call 31; (with_reducible refine (NW _).mono ?_); rintro e w' ⟨ma, g, rfl, hM, hb, hg⟩))
  have hB0 : Below w.heap.size w (w.alloc (.cells #[.int .i64 x0, .int .i64 x1, .int .i64 x2, .int .i64 x3, .int .i64 x4, .int .i64 x5] 57 (0, 0))) := by (refine Touch.below0 ?_; (repeat' (first | (with_reducible exact Touch.refl _ _) | (with_reducible assumption) | (with_reducible refine Touch.drew ?_) | (with_reducible refine Touch.drewN ?_ _) | (with_reducible refine Touch.alloc ?_ _) | (with_reducible refine Touch.setCell ?_ _ _ _ ?_) | (with_reducible refine Touch.step (by assumption) ?_) | (with_reducible refine Touch.stepT (by assumption) ?_ ?_) | (intro _; first | rfl | trivial | omega | (simp; done) | (simp; omega)) | (intro _ _; first | omega | (simp; done) | (simp; omega)))))
  have hX0 := heap_new w (.cells #[.int .i64 x0, .int .i64 x1, .int .i64 x2, .int .i64 x3, .int .i64 x4, .int .i64 x5] 57 (0, 0))
  have hX := (hb.block _ (lt_of_block hX0)).trans hX0
  have hW := hB0.trans (hb.mono hB0.size)
  have hg2 : w.heap.size + 1 ≤ g := by simpa using hg
  clear hb hg hX0 hB0
  rename_i w0
  by_cases c1 : hi < 0
  · go_wp2_with ((go_at_call 35; (with_reducible refine (AW _).mono ?_); rintro e w' ⟨rfl, hx⟩))
    go_ret
    exact ⟨rfl, hW.trans (hx.mono hW.size)⟩
  by_cases c2 : 15 < hi
  · go_wp2_with ((go_at_call 35; (with_reducible refine (AW _).mono ?_); rintro e w' ⟨rfl, hx⟩))
    go_ret
    exact ⟨rfl, hW.trans (hx.mono hW.size)⟩
  by_cases c3 : lo < 0
  · go_wp2_with ((go_at_call 35; (with_reducible refine (AW _).mono ?_); rintro e w' ⟨rfl, hx⟩))
    go_ret
    exact ⟨rfl, hW.trans (hx.mono hW.size)⟩
  by_cases c4 : 15 < lo
  · go_wp2_with ((go_at_call 35; (with_reducible refine (AW _).mono ?_); rintro e w' ⟨rfl, hx⟩))
    go_ret
    exact ⟨rfl, hW.trans (hx.mono hW.size)⟩
  by_cases c5 : now < 1
  · go_wp2_with ((go_at_call 35; (with_reducible refine (AW _).mono ?_); rintro e w' ⟨rfl, hx⟩))
    go_ret
    exact ⟨rfl, hW.trans (hx.mono hW.size)⟩
  by_cases c6 : 1073741824 < now
  · go_wp2_with ((go_at_call 35; (with_reducible refine (AW _).mono ?_); rintro e w' ⟨rfl, hx⟩))
    go_ret
    exact ⟨rfl, hW.trans (hx.mono hW.size)⟩
  have ok3 := ((M2_tab (n := 3) (by omega) (by omega)).cons (hi := hi) (by omega) (by omega) rfl 0).2.ok
  have MK0 := make0 (n := 3) (by omega) (by omega) ma g
  have MK1 := make1 (n := 3) (by omega) (by omega) ma g
  have CN := cons_at (n := 3) (by omega) (by omega) (hi := hi) (by omega) (by omega) ma g
  have LAW := fun m4 m5 m6 m7 => leaf13_law ⟨x0, x1, x2, x3, x4, x5⟩ (hi := hi) (lo := lo) (now := now) (fl := fl) (m3 := (M2 3).cons 0 hi 1 0) (m4 := m4) (m5 := m5) (m6 := m6) (m7 := m7)
  generalize (M2 3).cons 0 hi 1 0 = m3 at *
  generalize M2 3 = m2 at *
  generalize (⟨3, fun _ _ => 0⟩ : MemS).make 0 ⟨1, 0, false, 0⟩ = m1 at *
  generalize (⟨3, fun _ _ => 0⟩ : MemS) = m0 at *
  replace LAW := LAW _ _ _ _ rfl rfl rfl rfl rfl (by omega) (by omega) (by omega) (by omega) (by omega) (by omega)
  have PX := fun w h => tbl_put ma g m3 0 (16 * hi + lo) 0 ⟨x0, x1, x2, x3, x4, x5⟩ w h ok3
  have ok4 := MemS.tput_ok ok3 0 (16 * hi + lo) ⟨x0, x1, x2, x3, x4, x5⟩ 0
  generalize m3.tput 0 (16 * hi + lo) ⟨x0, x1, x2, x3, x4, x5⟩ 0 = m4 at *
  have D4 := fun w h => tbl_decons ma g m4 0 hi now fl w h ok4
  have ok5 := MemS.decons_ok ok4 0 hi now fl
  generalize m4.decons 0 hi now fl = m5 at *
  have FZ := fun w h => tbl_freeze ma g m5 1 now w h ok5
  have ok6 := MemS.freeze_ok ok5 1 now
  generalize m5.freeze 1 now = m6 at *
  have D6 := fun w h => tbl_decons ma g m6 0 hi now fl w h ok6
  have ok7 := MemS.decons_ok ok6 0 hi now fl
  generalize m6.decons 0 hi now fl = m7 at *
  have L7 := fun w h => tbl_Look ma g m7 0 (16 * hi + lo) w h ok7
  unfold CapS.v at PX L7
  dsimp only at PX L7
  go_upto_region 7 with (first
    | ((go_at_call 32; (with_reducible refine (MK0 _ hM).mono ?_); rintro e w' ⟨rfl, hM, ht⟩); have hT := ht)
    | ((go_at_call 32; (with_reducible refine (MK1 _ hM).mono ?_); rintro e w' ⟨rfl, hM, ht⟩); have hT := hT.trans ht)
    | ((go_at_call 33; (with_reducible refine (CN _ hM).mono ?_); rintro e w' ⟨rfl, hM, ht⟩); have hT := hT.trans ht))
  have nX : ¬ w.heap.size = g := by omega
  have aX := hT.at hX nX
  have gx0 := cell_of aX 0; have gx1 := cell_of aX 1; have gx2 := cell_of aX 2; have gx3 := cell_of aX 3; have gx4 := cell_of aX 4; have gx5 := cell_of aX 5; dsimp at gx0 gx1 gx2 gx3 gx4 gx5
  have hB := keepB hW (by omega) hT
  by_cases hE : tputE m3 0 (16 * hi + lo) ⟨x0, x1, x2, x3, x4, x5⟩ 0 = 0
  rotate_left
  · clear LAW
    generalize tputE m3 0 (16 * hi + lo) ⟨x0, x1, x2, x3, x4, x5⟩ 0 = EX at *
    have hE2 : (EX == 0) = false := by simpa using hE
    have hE3 : (EX != 0) = true := by simpa using hE
    clear D4 FZ D6 L7
    go_wp2_with (first
      | ((go_at_call 34; (with_reducible refine (PX _ hM).mono ?_); rintro e w' ⟨rfl, hM, ht⟩); have hB := keepB hB (by omega) ht)
      | ((go_at_call 35; (with_reducible refine (AW _).mono ?_); rintro e w' ⟨rfl, hx⟩)))
    go_ret
    exact ⟨rfl, hB.trans (hx.mono hB.size)⟩
  obtain ⟨l4, r4, f5, LW⟩ := LAW hE
  clear LAW
  rw [hE] at PX
  rw [l4, r4] at D4
  rw [f5] at FZ
  clear l4 r4 f5 ok3 ok4 ok5 ok6 ok7 hE
  generalize lookC m7 0 (16 * hi + lo) = CL at *
  obtain ⟨b0, b1, b2, b3, b4, b5⟩ := CL
  dsimp only at L7
  rcases LW with ⟨f1, f2, f3, f4⟩ | ⟨f1, f2, f3, f4⟩
  · rw [f2, f3] at D6
    rw [f4] at L7
    clear f2 f3 f4
    go_wp2_with (first
      | ((go_at_call 34; (with_reducible refine (PX _ hM).mono ?_); rintro e w' ⟨rfl, hM, ht⟩); have hT := hT.trans ht)
      | ((go_at_call 39; (with_reducible refine (D4 _ hM).mono ?_); rintro e w' ⟨rfl, hM, ht⟩); have hT := hT.trans ht)
      | ((go_at_call 38; (with_reducible refine (FZ _ hM).mono ?_); rintro e w' ⟨rfl, hM, ht⟩); have hT := hT.trans ht)
      | ((go_at_call 39; (with_reducible refine (D6 _ hM).mono ?_); rintro e w' ⟨rfl, hM, ht⟩); have hB := keepB hW (by omega) (hT.trans ht))
      | ((go_at_call 36; (with_reducible refine (L7 _ hM).mono ?_); rintro e w' ⟨rfl, hx⟩); have hB := hB.trans (hx.mono hB.size); have hB := hB.alloc hB.size (.cells #[.int .i64 b0, .int .i64 b1, .int .i64 b2, .int .i64 b3, .int .i64 b4, .int .i64 b5] 57 (0, 0)))
      | ((go_at_call 35; (with_reducible refine (AW _).mono ?_); rintro e w' ⟨rfl, hx⟩)))
    go_ret
    exact ⟨rfl, hB.trans (hx.mono hB.size)⟩
  · have f0 : ¬ now < fl := by omega
    have fd : decide (now < fl) = false := decide_eq_false f0
    rw [f2, f3] at D6
    rw [f4] at L7
    clear f2 f3 f4
    go_wp2_with (first
      | ((go_at_call 34; (with_reducible refine (PX _ hM).mono ?_); rintro e w' ⟨rfl, hM, ht⟩); have hT := hT.trans ht)
      | ((go_at_call 39; (with_reducible refine (D4 _ hM).mono ?_); rintro e w' ⟨rfl, hM, ht⟩); have hT := hT.trans ht)
      | ((go_at_call 38; (with_reducible refine (FZ _ hM).mono ?_); rintro e w' ⟨rfl, hM, ht⟩); have hT := hT.trans ht)
      | ((go_at_call 39; (with_reducible refine (D6 _ hM).mono ?_); rintro e w' ⟨rfl, hM, ht⟩); have hB := keepB hW (by omega) (hT.trans ht))
      | ((go_at_call 36; (with_reducible refine (L7 _ hM).mono ?_); rintro e w' ⟨rfl, hx⟩); have hB := hB.trans (hx.mono hB.size); have hB := hB.alloc hB.size (.cells #[.int .i64 b0, .int .i64 b1, .int .i64 b2, .int .i64 b3, .int .i64 b4, .int .i64 b5] 57 (0, 0)))
      | ((go_at_call 35; (with_reducible refine (AW _).mono ?_); rintro e w' ⟨rfl, hx⟩)))
    go_ret
    exact ⟨rfl, hB.trans (hx.mono hB.size)⟩
end Go.Proofs.Ytejdfdllgobnhaa
