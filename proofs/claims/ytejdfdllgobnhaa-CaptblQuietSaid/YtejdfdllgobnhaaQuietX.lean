/- CaptblQuiet: the walk of the law. -/
import Derived.Test.YtejdfdllgobnhaaQuietP13
set_option linter.unusedVariables false
set_option linter.unusedSimpArgs false
namespace Go.Proofs.Ytejdfdllgobnhaa
open Go.RowKit Go.OpenShut
set_option maxHeartbeats 4000000 in
set_option maxRecDepth 100000 in
theorem captblQuiet_walk (a x0 x1 x2 x3 x4 x5 y0 y1 y2 y3 y4 y5 now fl : Int) (w : World) (wa : (Lit.int .i64 a).wf = true)
    (wx0 : (Lit.int .i64 x0).wf = true) (wx1 : (Lit.int .i64 x1).wf = true) (wx2 : (Lit.int .i64 x2).wf = true) (wx3 : (Lit.int .i64 x3).wf = true) (wx4 : (Lit.int .i64 x4).wf = true) (wx5 : (Lit.int .i64 x5).wf = true)
    (wy0 : (Lit.int .i64 y0).wf = true) (wy1 : (Lit.int .i64 y1).wf = true) (wy2 : (Lit.int .i64 y2).wf = true) (wy3 : (Lit.int .i64 y3).wf = true) (wy4 : (Lit.int .i64 y4).wf = true) (wy5 : (Lit.int .i64 y5).wf = true)
    (wn : (Lit.int .i64 now).wf = true) (wf : (Lit.int .i64 fl).wf = true) :
    Calls Try.prog 6 #[.int .i64 a, .agg #[.int .i64 x0, .int .i64 x1, .int .i64 x2, .int .i64 x3, .int .i64 x4, .int .i64 x5], .agg #[.int .i64 y0, .int .i64 y1, .int .i64 y2, .int .i64 y3, .int .i64 y4, .int .i64 y5], .int .i64 now, .int .i64 fl] w
      fun e w' => e = .returned (.bool true) ∧ Below w.heap.size w w' := by
  have NW := fun w => new_ex (n := 3) (by omega) (by omega) w
  change ∀ w, Calls _ _ #[.int .i64 3] w _ at NW
  have AW := awake13
  go_enter Try.func6, Try.ntmps6
  go_upto_region 2 with ((go_at_call 31; (with_reducible refine (NW _).mono ?_); rintro e w' ⟨ma, g, rfl, hM, hb, hg⟩))
  have hB0 : Below w.heap.size w ((w.alloc (.cells #[.int .i64 x0, .int .i64 x1, .int .i64 x2, .int .i64 x3, .int .i64 x4, .int .i64 x5] 57 (0, 0))).alloc (.cells #[.int .i64 y0, .int .i64 y1, .int .i64 y2, .int .i64 y3, .int .i64 y4, .int .i64 y5] 57 (0, 0))) := by (refine Touch.below0 ?_; (repeat' (first | (with_reducible exact Touch.refl _ _) | (with_reducible assumption) | (with_reducible refine Touch.drew ?_) | (with_reducible refine Touch.drewN ?_ _) | (with_reducible refine Touch.alloc ?_ _) | (with_reducible refine Touch.setCell ?_ _ _ _ ?_) | (with_reducible refine Touch.step (by assumption) ?_) | (with_reducible refine Touch.stepT (by assumption) ?_ ?_) | (intro _; first | rfl | trivial | omega | (simp; done) | (simp; omega)) | (intro _ _; first | omega | (simp; done) | (simp; omega)))))
  have hX0 := heap_alloc (heap_new w (.cells #[.int .i64 x0, .int .i64 x1, .int .i64 x2, .int .i64 x3, .int .i64 x4, .int .i64 x5] 57 (0, 0))) (.cells #[.int .i64 y0, .int .i64 y1, .int .i64 y2, .int .i64 y3, .int .i64 y4, .int .i64 y5] 57 (0, 0))
  have hY0 : ((w.alloc (.cells #[.int .i64 x0, .int .i64 x1, .int .i64 x2, .int .i64 x3, .int .i64 x4, .int .i64 x5] 57 (0, 0))).alloc (.cells #[.int .i64 y0, .int .i64 y1, .int .i64 y2, .int .i64 y3, .int .i64 y4, .int .i64 y5] 57 (0, 0))).heap[w.heap.size + 1]? = some (.cells #[.int .i64 y0, .int .i64 y1, .int .i64 y2, .int .i64 y3, .int .i64 y4, .int .i64 y5] 57 (0, 0)) := heap_new' (by simp) _
  have hX := (hb.block _ (lt_of_block hX0)).trans hX0
  have hY := (hb.block _ (lt_of_block hY0)).trans hY0
  have hW := hB0.trans (hb.mono hB0.size)
  have hg2 : w.heap.size + 2 ≤ g := by simpa using hg
  clear hb hg hX0 hY0 hB0
  have T2 := M2_tab (n := 3) (by omega) (by omega)
  have T3 := (T2.cons (hi := 0) (by omega) (by omega) rfl 0).2
  have ok3 := T3.ok
  have MK0 := make0 (n := 3) (by omega) (by omega) ma g
  have MK1 := make1 (n := 3) (by omega) (by omega) ma g
  have CN := cons_at (n := 3) (by omega) (by omega) (hi := 0) (by omega) (by omega) ma g
  have LAW := fun m4 m5 m6 m7 m8 => quiet13_law ⟨x0, x1, x2, x3, x4, x5⟩ ⟨y0, y1, y2, y3, y4, y5⟩ (a := a) (now := now) (fl := fl) (m3 := (M2 3).cons 0 0 1 0) (m4 := m4) (m5 := m5) (m6 := m6) (m7 := m7) (m8 := m8)
  clear T2 T3
  generalize (M2 3).cons 0 0 1 0 = m3 at *
  generalize M2 3 = m2 at *
  generalize (⟨3, fun _ _ => 0⟩ : MemS).make 0 ⟨1, 0, false, 0⟩ = m1 at *
  generalize (⟨3, fun _ _ => 0⟩ : MemS) = m0 at *
  have LAW := LAW _ _ _ _ _ rfl rfl rfl rfl rfl rfl
  have PX := fun w h => tbl_put ma g m3 0 a 0 ⟨x0, x1, x2, x3, x4, x5⟩ w h ok3
  have ok4 := MemS.tput_ok ok3 0 a ⟨x0, x1, x2, x3, x4, x5⟩ 0
  generalize m3.tput 0 a ⟨x0, x1, x2, x3, x4, x5⟩ 0 = m4 at *
  have PY := fun w h => tbl_put ma g m4 0 a 99 ⟨y0, y1, y2, y3, y4, y5⟩ w h ok4
  have ok5 := MemS.drop_ok ok4 0 a now
  have L4 := fun w h => tbl_Look ma g m4 0 a w h ok4
  have D4 := fun w h => tbl_drop ma g m4 0 a now w h ok4
  generalize m4.drop 0 a now = m5 at *
  have L5 := fun w h => tbl_Look ma g m5 0 a w h ok5
  have PF := fun w h => tbl_put ma g m5 0 a fl ⟨x0, x1, x2, x3, x4, x5⟩ w h ok5
  have ok6 := MemS.tput_ok ok5 0 a ⟨x0, x1, x2, x3, x4, x5⟩ fl
  generalize m5.tput 0 a ⟨x0, x1, x2, x3, x4, x5⟩ fl = m6 at *
  have FZ := fun w h => tbl_freeze ma g m6 1 now w h ok6
  have ok7 := MemS.freeze_ok ok6 1 now
  generalize m6.freeze 1 now = m7 at *
  have D7 := fun w h => tbl_drop ma g m7 0 a now w h ok7
  have ok8 := MemS.drop_ok ok7 0 a now
  generalize m7.drop 0 a now = m8 at *
  have PL := fun w h => tbl_put ma g m8 0 ((a + 1) % 16) 1073741824 ⟨x0, x1, x2, x3, x4, x5⟩ w h ok8
  generalize m8.tput 0 ((a + 1) % 16) ⟨x0, x1, x2, x3, x4, x5⟩ 1073741824 = m9 at *
  unfold CapS.v at PX PY L4 D4 L5 PF D7 PL
  dsimp only at PX PY L4 D4 L5 PF D7 PL
  rename_i w0
  go_upto_region 7 with (first
    | ((go_at_call 32; (with_reducible refine (MK0 _ hM).mono ?_); rintro e w' ⟨rfl, hM, ht⟩); have hT := ht)
    | ((go_at_call 32; (with_reducible refine (MK1 _ hM).mono ?_); rintro e w' ⟨rfl, hM, ht⟩); have hT := hT.trans ht)
    | ((go_at_call 33; (with_reducible refine (CN _ hM).mono ?_); rintro e w' ⟨rfl, hM, ht⟩); have hT := hT.trans ht))
  have nX : ¬ w.heap.size = g := by omega
  have nY : ¬ w.heap.size + 1 = g := by omega
  have aX := hT.at hX nX
  have gx0 := cell_of aX 0; have gx1 := cell_of aX 1; have gx2 := cell_of aX 2; have gx3 := cell_of aX 3; have gx4 := cell_of aX 4; have gx5 := cell_of aX 5; dsimp at gx0 gx1 gx2 gx3 gx4 gx5
  have hB := keepB hW (by omega) hT
  by_cases hE : tputE m3 0 a ⟨x0, x1, x2, x3, x4, x5⟩ 0 = 0
  rotate_left
  · clear LAW
    generalize tputE m3 0 a ⟨x0, x1, x2, x3, x4, x5⟩ 0 = EX at *
    have hE2 : (EX == 0) = false := by simpa using hE
    have hE3 : (EX != 0) = true := by simpa using hE
    clear PY L4 D4 L5 PF FZ D7 PL
    go_wp2_with (first
      | ((go_at_call 34; (with_reducible refine (PX _ hM).mono ?_); rintro e w' ⟨rfl, hM, ht⟩); have hB := keepB hB (by omega) ht)
      | ((go_at_call 35; (with_reducible refine (AW _).mono ?_); rintro e w' ⟨rfl, hx⟩)))
    go_ret
    exact ⟨rfl, hB.trans (hx.mono hB.size)⟩
  obtain ⟨⟨a0, a1⟩, l4, c4, y4n, y4s, LW⟩ := LAW hE
  clear LAW
  rw [hE] at PX
  rw [l4, c4] at L4
  rw [y4s] at PY
  generalize tputE m4 0 a ⟨y0, y1, y2, y3, y4, y5⟩ 99 = EY at *
  have y4a : (EY == 0) = false := by simpa using y4n
  have y4b : (EY != 0) = true := by simpa using y4n
  clear l4 c4 y4s ok3 ok4 ok5 ok6 ok7 ok8 hE
  dsimp only at L4
  go_upto_region 10 with (first
    | ((go_at_call 34; (with_reducible refine (PX _ hM).mono ?_); rintro e w' ⟨rfl, hM, ht⟩); have hT := hT.trans ht)
    | ((go_at_call 36; (with_reducible refine (L4 _ hM).mono ?_); rintro e w' ⟨rfl, hx⟩); have hM := hM.after (hx.alloc hx.size (.cells #[.int .i64 x0, .int .i64 x1, .int .i64 x2, .int .i64 x3, .int .i64 x4, .int .i64 x5] 57 (0, 0))); have hT := (hT.trans (Touch.of_below hx)).alloc (.cells #[.int .i64 x0, .int .i64 x1, .int .i64 x2, .int .i64 x3, .int .i64 x4, .int .i64 x5] 57 (0, 0)); have hC := heap_new w' (.cells #[.int .i64 x0, .int .i64 x1, .int .i64 x2, .int .i64 x3, .int .i64 x4, .int .i64 x5] 57 (0, 0))))
  have aX := hT.at hX nX
  have aY := hT.at hY nY
  have hB := keepB hW (by omega) hT
  generalize w'.alloc (.cells #[.int .i64 x0, .int .i64 x1, .int .i64 x2, .int .i64 x3, .int .i64 x4, .int .i64 x5] 57 (0, 0)) = W1 at *
  have gx0 := cell_of aX 0; have gx1 := cell_of aX 1; have gx2 := cell_of aX 2; have gx3 := cell_of aX 3; have gx4 := cell_of aX 4; have gx5 := cell_of aX 5; dsimp at gx0 gx1 gx2 gx3 gx4 gx5
  have gy0 := cell_of aY 0; have gy1 := cell_of aY 1; have gy2 := cell_of aY 2; have gy3 := cell_of aY 3; have gy4 := cell_of aY 4; have gy5 := cell_of aY 5; dsimp at gy0 gy1 gy2 gy3 gy4 gy5
  have gc0 := cell_of hC 0; have gc1 := cell_of hC 1; have gc2 := cell_of hC 2; have gc3 := cell_of hC 3; have gc4 := cell_of hC 4; have gc5 := cell_of hC 5; dsimp at gc0 gc1 gc2 gc3 gc4 gc5
  rcases LW with ⟨f1, f2⟩ | ⟨f1, f2, f3, f4, f5, f6, f7⟩
  · clear L5 PF FZ D7 PL
    generalize dropE m4 0 a now = EF at *
    generalize dropC m4 0 a now = CD at *
    obtain ⟨d0, d1, d2, d3, d4, d5⟩ := CD
    dsimp only at D4
    have f1a : (EF == 0) = false := by simpa using f1
    have f1b : (EF != 0) = true := by simpa using f1
    clear f1 y4n
    have hB0 := hB
    rcases f2 with f2 | f2
    · go_wp2_with (first
        | ((go_at_call 34; (with_reducible refine (PY _ hM).mono ?_); rintro e w' ⟨rfl, hM, ht⟩); have hB := keepB hB (by omega) ht)
        | ((go_at_call 37; (with_reducible refine (D4 _ hM).mono ?_); rintro e w' ⟨rfl, hM, ht⟩); have hB := (keepB hB (by omega) ht); have hB := hB.alloc hB.size (.cells #[.int .i64 d0, .int .i64 d1, .int .i64 d2, .int .i64 d3, .int .i64 d4, .int .i64 d5] 57 (0, 0)))
        | ((go_at_call 35; (with_reducible refine (AW _).mono ?_); rintro e w' ⟨rfl, hx⟩)))
      go_ret
      exact ⟨rfl, hB.trans (hx.mono hB.size)⟩
    · have f3 : ¬ now < 1 := by omega
      go_wp2_with (first
        | ((go_at_call 34; (with_reducible refine (PY _ hM).mono ?_); rintro e w' ⟨rfl, hM, ht⟩); have hB := keepB hB (by omega) ht)
        | ((go_at_call 37; (with_reducible refine (D4 _ hM).mono ?_); rintro e w' ⟨rfl, hM, ht⟩); have hB := (keepB hB (by omega) ht); have hB := hB.alloc hB.size (.cells #[.int .i64 d0, .int .i64 d1, .int .i64 d2, .int .i64 d3, .int .i64 d4, .int .i64 d5] 57 (0, 0)))
        | ((go_at_call 35; (with_reducible refine (AW _).mono ?_); rintro e w' ⟨rfl, hx⟩)))
      go_ret
      exact ⟨rfl, hB.trans (hx.mono hB.size)⟩
  · rw [f1, f2] at D4
    rw [f3] at L5
    rw [f5] at FZ
    rw [f7] at PL
    dsimp only at D4
    generalize tputE m5 0 a ⟨x0, x1, x2, x3, x4, x5⟩ fl = EP at *
    generalize lookC m5 0 a = CL at *
    generalize dropE m7 0 a now = ED at *
    generalize dropC m7 0 a now = CD at *
    obtain ⟨d0, d1, d2, d3, d4, d5⟩ := CD
    obtain ⟨b0, b1, b2, b3, b4, b5⟩ := CL
    dsimp only at L5 D7
    have f6a : (ED == 0) = false := by simpa using f6
    have f6b : (ED != 0) = true := by simpa using f6
    clear f1 f2 f3 f5 f7 y4n f6
    have hs1 := hM.ltg
    go_upto_region 16 with (first
      | ((go_at_call 34; (with_reducible refine (PY _ hM).mono ?_); rintro e w' ⟨rfl, hM, ht⟩); have hT := hT.trans ht)
      | ((go_at_call 37; (with_reducible refine (D4 _ hM).mono ?_); rintro e w' ⟨rfl, hM, ht⟩); have hgD := hM.ltg; have hT := (hT.trans ht).alloc (.cells #[.int .i64 x0, .int .i64 x1, .int .i64 x2, .int .i64 x3, .int .i64 x4, .int .i64 x5] 57 (0, 0)); have hM := hM.after ((Below.refl _ w').alloc (Nat.le_refl _) (.cells #[.int .i64 x0, .int .i64 x1, .int .i64 x2, .int .i64 x3, .int .i64 x4, .int .i64 x5] 57 (0, 0))); have hD := heap_new w' (.cells #[.int .i64 x0, .int .i64 x1, .int .i64 x2, .int .i64 x3, .int .i64 x4, .int .i64 x5] 57 (0, 0)))
      | ((go_at_call 36; (with_reducible refine (L5 _ hM).mono ?_); rintro e w' ⟨rfl, hx⟩); have hM := hM.after (hx.alloc hx.size (.cells #[.int .i64 b0, .int .i64 b1, .int .i64 b2, .int .i64 b3, .int .i64 b4, .int .i64 b5] 57 (0, 0))); have hT := (hT.trans (Touch.of_below hx)).alloc (.cells #[.int .i64 b0, .int .i64 b1, .int .i64 b2, .int .i64 b3, .int .i64 b4, .int .i64 b5] 57 (0, 0)); have hD := heap_alloc ((hx.block _ (lt_of_block hD)).trans hD) (.cells #[.int .i64 b0, .int .i64 b1, .int .i64 b2, .int .i64 b3, .int .i64 b4, .int .i64 b5] 57 (0, 0))))
    have aX := hT.at hX nX
    generalize w'.alloc (.cells #[.int .i64 b0, .int .i64 b1, .int .i64 b2, .int .i64 b3, .int .i64 b4, .int .i64 b5] 57 (0, 0)) = W2 at *
    have gx0 := cell_of aX 0; have gx1 := cell_of aX 1; have gx2 := cell_of aX 2; have gx3 := cell_of aX 3; have gx4 := cell_of aX 4; have gx5 := cell_of aX 5; dsimp at gx0 gx1 gx2 gx3 gx4 gx5
    go_upto_region 19 with (first
      | ((go_at_call 34; (with_reducible refine (PF _ hM).mono ?_); rintro e w' ⟨rfl, hM, ht⟩); have hT := hT.trans ht; have hD := ht.at hD (show ¬ _ = g by omega))
      | ((go_at_call 38; (with_reducible refine (FZ _ hM).mono ?_); rintro e w' ⟨rfl, hM, ht⟩); have hT := hT.trans ht; have hD := ht.at hD (show ¬ _ = g by omega))
      | ((go_at_call 37; (with_reducible refine (D7 _ hM).mono ?_); rintro e w' ⟨rfl, hM, ht⟩); have hT := (hT.trans ht).alloc (.cells #[.int .i64 d0, .int .i64 d1, .int .i64 d2, .int .i64 d3, .int .i64 d4, .int .i64 d5] 57 (0, 0)); have hM := hM.after ((Below.refl _ w').alloc (Nat.le_refl _) (.cells #[.int .i64 d0, .int .i64 d1, .int .i64 d2, .int .i64 d3, .int .i64 d4, .int .i64 d5] 57 (0, 0))); have hD := heap_alloc (ht.at hD (show ¬ _ = g by omega)) (.cells #[.int .i64 d0, .int .i64 d1, .int .i64 d2, .int .i64 d3, .int .i64 d4, .int .i64 d5] 57 (0, 0))))
    have aX := hT.at hX nX
    generalize w'.alloc (.cells #[.int .i64 d0, .int .i64 d1, .int .i64 d2, .int .i64 d3, .int .i64 d4, .int .i64 d5] 57 (0, 0)) = W3 at *
    have gx0 := cell_of aX 0; have gx1 := cell_of aX 1; have gx2 := cell_of aX 2; have gx3 := cell_of aX 3; have gx4 := cell_of aX 4; have gx5 := cell_of aX 5; dsimp at gx0 gx1 gx2 gx3 gx4 gx5
    go_upto_region 20 with ((go_at_call 34; (with_reducible refine (PL _ hM).mono ?_); rintro e w' ⟨rfl, hM, ht⟩); have hT := hT.trans ht; have hD := ht.at hD (show ¬ _ = g by omega))
    have aX := hT.at hX nX
    have hB := keepB hW (by omega) hT
    have gx0 := cell_of aX 0; have gx1 := cell_of aX 1; have gx2 := cell_of aX 2; have gx3 := cell_of aX 3; have gx4 := cell_of aX 4; have gx5 := cell_of aX 5; dsimp at gx0 gx1 gx2 gx3 gx4 gx5
    have gd0 := cell_of hD 0; have gd1 := cell_of hD 1; have gd2 := cell_of hD 2; have gd3 := cell_of hD 3; have gd4 := cell_of hD 4; have gd5 := cell_of hD 5; dsimp at gd0 gd1 gd2 gd3 gd4 gd5
    rcases f4 with ⟨rfl, f4⟩ | ⟨rfl, f4⟩
    · go_wp2_with ((go_at_call 35; (with_reducible refine (AW _).mono ?_); rintro e w' ⟨rfl, hx⟩))
      go_ret
      exact ⟨rfl, hB.trans (hx.mono hB.size)⟩
    · go_wp2_with ((go_at_call 35; (with_reducible refine (AW _).mono ?_); rintro e w' ⟨rfl, hx⟩))
      go_ret
      have e : (!decide (now < fl)) = true := by simp; omega
      rw [e]
      exact ⟨rfl, hB.trans (hx.mono hB.size)⟩
end Go.Proofs.Ytejdfdllgobnhaa
