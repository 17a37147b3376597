/- CaptblBeside: the walk of the law. -/
import Derived.Test.YtejdfdllgobnhaaBesideW
set_option linter.unusedVariables false
set_option linter.unusedSimpArgs false
namespace Go.Proofs.Ytejdfdllgobnhaa
open Go.RowKit Go.OpenShut
set_option maxHeartbeats 4000000 in
set_option maxRecDepth 100000 in
theorem captblBeside_walk (x0 x1 x2 x3 x4 x5 y0 y1 y2 y3 y4 y5 a b now : Int) (w : World)
    (wx0 : (Lit.int .i64 x0).wf = true) (wx1 : (Lit.int .i64 x1).wf = true) (wx2 : (Lit.int .i64 x2).wf = true) (wx3 : (Lit.int .i64 x3).wf = true) (wx4 : (Lit.int .i64 x4).wf = true) (wx5 : (Lit.int .i64 x5).wf = true)
    (wy0 : (Lit.int .i64 y0).wf = true) (wy1 : (Lit.int .i64 y1).wf = true) (wy2 : (Lit.int .i64 y2).wf = true) (wy3 : (Lit.int .i64 y3).wf = true) (wy4 : (Lit.int .i64 y4).wf = true) (wy5 : (Lit.int .i64 y5).wf = true)
    (wa : (Lit.int .u8 a).wf = true) (wb : (Lit.int .u8 b).wf = true) (wn : (Lit.int .i64 now).wf = true) :
    Calls Try.prog 5 #[.agg #[.int .i64 x0, .int .i64 x1, .int .i64 x2, .int .i64 x3, .int .i64 x4, .int .i64 x5], .agg #[.int .i64 y0, .int .i64 y1, .int .i64 y2, .int .i64 y3, .int .i64 y4, .int .i64 y5], .int .u8 a, .int .u8 b, .int .i64 now] w
      fun e w' => e = .returned (.bool true) ∧ Below w.heap.size w w' := by
  have ba : 0 ≤ a ∧ a < 256 := by have := bounds_u8 wa; omega
  have bb : 0 ≤ b ∧ b < 256 := by have := bounds_u8 wb; omega
  have NW := fun w => new_ex (n := 2) (by omega) (by omega) w
  change ∀ w, Calls _ _ #[.int .i64 2] w _ at NW
  go_enter Try.func5, Try.ntmps5
  go_upto_region 2 with ((go_at_call 31; (with_reducible refine (NW _).mono ?_); rintro e w' ⟨ma, g, rfl, hM, hb, hg⟩))
  have hB0 : Below w.heap.size w ((w.alloc (.cells #[.int .i64 x0, .int .i64 x1, .int .i64 x2, .int .i64 x3, .int .i64 x4, .int .i64 x5] 57 (0, 0))).alloc (.cells #[.int .i64 y0, .int .i64 y1, .int .i64 y2, .int .i64 y3, .int .i64 y4, .int .i64 y5] 57 (0, 0))) := by (refine Touch.below0 ?_; (repeat' (first | (with_reducible exact Touch.refl _ _) | (with_reducible assumption) | (with_reducible refine Touch.drew ?_) | (with_reducible refine Touch.drewN ?_ _) | (with_reducible refine Touch.alloc ?_ _) | (with_reducible refine Touch.setCell ?_ _ _ _ ?_) | (with_reducible refine Touch.step (by assumption) ?_) | (with_reducible refine Touch.stepT (by assumption) ?_ ?_) | (intro _; first | rfl | trivial | omega | (simp; done) | (simp; omega)) | (intro _ _; first | omega | (simp; done) | (simp; omega)))))
  have hX0 := heap_alloc (heap_new w (.cells #[.int .i64 x0, .int .i64 x1, .int .i64 x2, .int .i64 x3, .int .i64 x4, .int .i64 x5] 57 (0, 0))) (.cells #[.int .i64 y0, .int .i64 y1, .int .i64 y2, .int .i64 y3, .int .i64 y4, .int .i64 y5] 57 (0, 0))
  have hY0 : ((w.alloc (.cells #[.int .i64 x0, .int .i64 x1, .int .i64 x2, .int .i64 x3, .int .i64 x4, .int .i64 x5] 57 (0, 0))).alloc (.cells #[.int .i64 y0, .int .i64 y1, .int .i64 y2, .int .i64 y3, .int .i64 y4, .int .i64 y5] 57 (0, 0))).heap[w.heap.size + 1]? = some (.cells #[.int .i64 y0, .int .i64 y1, .int .i64 y2, .int .i64 y3, .int .i64 y4, .int .i64 y5] 57 (0, 0)) := heap_new' (by simp) _
  have hX := (hb.block _ (lt_of_block hX0)).trans hX0
  have hY := (hb.block _ (lt_of_block hY0)).trans hY0
  have hW := hB0.trans (hb.mono hB0.size)
  have hg2 : w.heap.size + 2 ≤ g := by simpa using hg
  clear hb hg hX0 hY0 hB0
  have T2 := M2_tab (n := 2) (by omega) (by omega)
  have T3 := (T2.cons (hi := 3) (by omega) (by omega) rfl 0).2
  have ok3 := T3.ok
  have MK0 := make0 (n := 2) (by omega) (by omega) ma g
  have MK1 := make1 (n := 2) (by omega) (by omega) ma g
  have CN := cons_at (n := 2) (by omega) (by omega) (hi := 3) (by omega) (by omega) ma g
  have LAW := fun m4 m5 m6 => beside_law ⟨x0, x1, x2, x3, x4, x5⟩ ⟨y0, y1, y2, y3, y4, y5⟩ (i := 48 + a % 16) (k := 48 + b % 16) now (by omega) (by omega) (m3 := (M2 2).cons 0 3 1 0) (m4 := m4) (m5 := m5) (m6 := m6)
  clear T2 T3
  generalize (M2 2).cons 0 3 1 0 = m3 at *
  generalize M2 2 = m2 at *
  generalize (⟨2, fun _ _ => 0⟩ : MemS).make 0 ⟨1, 0, false, 0⟩ = m1 at *
  generalize (⟨2, fun _ _ => 0⟩ : MemS) = m0 at *
  rename_i w0
  go_upto_region 9 with (first
    | ((go_at_call 32; (with_reducible refine (MK0 _ hM).mono ?_); rintro e w' ⟨rfl, hM, ht⟩); have hT := ht)
    | ((go_at_call 32; (with_reducible refine (MK1 _ hM).mono ?_); rintro e w' ⟨rfl, hM, ht⟩); have hT := hT.trans ht)
    | ((go_at_call 33; (with_reducible refine (CN _ hM).mono ?_); rintro e w' ⟨rfl, hM, ht⟩); have hT := hT.trans ht))
  have nX : ¬ w.heap.size = g := by omega
  have nY : ¬ w.heap.size + 1 = g := by omega
  have aX := hT.at hX nX
  have gx0 := cell_of aX 0; have gx1 := cell_of aX 1; have gx2 := cell_of aX 2; have gx3 := cell_of aX 3; have gx4 := cell_of aX 4; have gx5 := cell_of aX 5; dsimp at gx0 gx1 gx2 gx3 gx4 gx5
  have AW := awake13
  generalize 48 + a % 16 = i at *
  generalize 48 + b % 16 = k at *
  have hB := keepB hW (by omega) hT
  by_cases hik : i = k
  · go_wp2_with ((go_at_call 35; (with_reducible refine (AW _).mono ?_); rintro e w' ⟨rfl, hx⟩))
    go_ret
    exact ⟨rfl, hB.trans (hx.mono hB.size)⟩
  have PX := fun w h => tbl_put ma g m3 0 i 0 ⟨x0, x1, x2, x3, x4, x5⟩ w h ok3
  unfold CapS.v at PX
  dsimp only at PX
  have LAW := LAW _ _ _ hik trivial rfl rfl rfl
  have ok4 := MemS.tput_ok ok3 0 i ⟨x0, x1, x2, x3, x4, x5⟩ 0
  have PY := fun w h => tbl_put ma g _ 0 k 0 ⟨y0, y1, y2, y3, y4, y5⟩ w h ok4
  unfold CapS.v at PY
  dsimp only at PY
  have ok5 := MemS.tput_ok ok4 0 k ⟨y0, y1, y2, y3, y4, y5⟩ 0
  have ok6 := MemS.drop_ok ok5 0 k now
  have L5 := fun w h => tbl_Look ma g _ 0 i w h ok5
  have L6 := fun w h => tbl_Look ma g _ 0 i w h ok6
  have DR := fun w h => tbl_drop ma g _ 0 k now w h ok5
  generalize tputE m3 0 i ⟨x0, x1, x2, x3, x4, x5⟩ 0 = EX at *
  generalize m3.tput 0 i ⟨x0, x1, x2, x3, x4, x5⟩ 0 = m4 at *
  generalize tputE m4 0 k ⟨y0, y1, y2, y3, y4, y5⟩ 0 = EY at *
  generalize m4.tput 0 k ⟨y0, y1, y2, y3, y4, y5⟩ 0 = m5 at *
  generalize m5.drop 0 k now = m6 at *
  generalize dropE m5 0 k now = ED at *
  generalize dropC m5 0 k now = CD at *
  obtain ⟨d0, d1, d2, d3, d4, d5⟩ := CD
  unfold CapS.v at DR
  dsimp only at DR
  by_cases hE : EX = 0
  rotate_left
  · have hE2 : (EX == 0) = false := by simpa using hE
    have hE3 : (EX != 0) = true := by simpa using hE
    have hik2 : (i == k) = false := by simpa using hik
    clear LAW PY L5 L6 DR
    go_wp2_with (first
      | ((go_at_call 34; (with_reducible refine (PX _ hM).mono ?_); rintro e w' ⟨rfl, hM, ht⟩); have hB := keepB hB (by omega) ht)
      | ((go_at_call 35; (with_reducible refine (AW _).mono ?_); rintro e w' ⟨rfl, hx⟩)))
    go_ret
    exact ⟨rfl, hB.trans (hx.mono hB.size)⟩
  subst hE
  obtain ⟨⟨l5, c5, l6, c6⟩, LW⟩ := LAW rfl
  clear LAW
  rw [l5, c5] at L5
  rw [l6, c6] at L6
  unfold CapS.v at L5 L6
  dsimp only at L5 L6
  clear l5 c5 l6 c6 ok3 ok4 ok5 ok6
  go_upto_region 15 with (first
    | ((go_at_call 34; (with_reducible refine (PX _ hM).mono ?_); rintro e w' ⟨rfl, hM, ht⟩); have hT := hT.trans ht; have aY := hT.at hY nY; have gy0 := cell_of aY 0; have gy1 := cell_of aY 1; have gy2 := cell_of aY 2; have gy3 := cell_of aY 3; have gy4 := cell_of aY 4; have gy5 := cell_of aY 5; dsimp at gy0 gy1 gy2 gy3 gy4 gy5)
    | ((go_at_call 34; (with_reducible refine (PY _ hM).mono ?_); rintro e w' ⟨rfl, hM, ht⟩); have hT := hT.trans ht)
    | ((go_at_call 36; (with_reducible refine (L5 _ hM).mono ?_); rintro e w' ⟨rfl, hx⟩); have hgC := Nat.lt_of_lt_of_le hM.ltg hx.size; have hM := hM.after (hx.alloc hx.size (.cells #[.int .i64 x0, .int .i64 x1, .int .i64 x2, .int .i64 x3, .int .i64 x4, .int .i64 x5] 57 (0, 0))); have hT := (hT.trans (Touch.of_below hx)).alloc (.cells #[.int .i64 x0, .int .i64 x1, .int .i64 x2, .int .i64 x3, .int .i64 x4, .int .i64 x5] 57 (0, 0)); have hC := heap_new w' (.cells #[.int .i64 x0, .int .i64 x1, .int .i64 x2, .int .i64 x3, .int .i64 x4, .int .i64 x5] 57 (0, 0)))
    | ((go_at_call 37; (with_reducible refine (DR _ hM).mono ?_); rintro e w' ⟨rfl, hM, ht⟩); have hgD := hM.ltg; have hC := heap_alloc (ht.at hC (by omega)) (.cells #[.int .i64 d0, .int .i64 d1, .int .i64 d2, .int .i64 d3, .int .i64 d4, .int .i64 d5] 57 (0, 0)); have hT := (hT.trans ht).alloc (.cells #[.int .i64 d0, .int .i64 d1, .int .i64 d2, .int .i64 d3, .int .i64 d4, .int .i64 d5] 57 (0, 0)); have hM := hM.after ((Below.refl _ w').alloc (Nat.le_refl _) (.cells #[.int .i64 d0, .int .i64 d1, .int .i64 d2, .int .i64 d3, .int .i64 d4, .int .i64 d5] 57 (0, 0))); have hD := heap_new w' (.cells #[.int .i64 d0, .int .i64 d1, .int .i64 d2, .int .i64 d3, .int .i64 d4, .int .i64 d5] 57 (0, 0)))
    | ((go_at_call 36; (with_reducible refine (L6 _ hM).mono ?_); rintro e w' ⟨rfl, hx⟩); have hC := heap_alloc ((hx.block _ (lt_of_block hC)).trans hC) (.cells #[.int .i64 x0, .int .i64 x1, .int .i64 x2, .int .i64 x3, .int .i64 x4, .int .i64 x5] 57 (0, 0)); have hD := heap_alloc ((hx.block _ (lt_of_block hD)).trans hD) (.cells #[.int .i64 x0, .int .i64 x1, .int .i64 x2, .int .i64 x3, .int .i64 x4, .int .i64 x5] 57 (0, 0)); have hT := (hT.trans (Touch.of_below hx)).alloc (.cells #[.int .i64 x0, .int .i64 x1, .int .i64 x2, .int .i64 x3, .int .i64 x4, .int .i64 x5] 57 (0, 0)); have hH := heap_new w' (.cells #[.int .i64 x0, .int .i64 x1, .int .i64 x2, .int .i64 x3, .int .i64 x4, .int .i64 x5] 57 (0, 0))))
  have aX := hT.at hX nX
  have aY := hT.at hY nY
  have hB := keepB hW (by omega) hT
  clear hT hM
  generalize w'.alloc (.cells #[.int .i64 x0, .int .i64 x1, .int .i64 x2, .int .i64 x3, .int .i64 x4, .int .i64 x5] 57 (0, 0)) = W at *
  have gx0 := cell_of aX 0; have gx1 := cell_of aX 1; have gx2 := cell_of aX 2; have gx3 := cell_of aX 3; have gx4 := cell_of aX 4; have gx5 := cell_of aX 5; dsimp at gx0 gx1 gx2 gx3 gx4 gx5
  have gy0 := cell_of aY 0; have gy1 := cell_of aY 1; have gy2 := cell_of aY 2; have gy3 := cell_of aY 3; have gy4 := cell_of aY 4; have gy5 := cell_of aY 5; dsimp at gy0 gy1 gy2 gy3 gy4 gy5
  have gc0 := cell_of hC 0; have gc1 := cell_of hC 1; have gc2 := cell_of hC 2; have gc3 := cell_of hC 3; have gc4 := cell_of hC 4; have gc5 := cell_of hC 5; dsimp at gc0 gc1 gc2 gc3 gc4 gc5
  have gd0 := cell_of hD 0; have gd1 := cell_of hD 1; have gd2 := cell_of hD 2; have gd3 := cell_of hD 3; have gd4 := cell_of hD 4; have gd5 := cell_of hD 5; dsimp at gd0 gd1 gd2 gd3 gd4 gd5
  have gh0 := cell_of hH 0; have gh1 := cell_of hH 1; have gh2 := cell_of hH 2; have gh3 := cell_of hH 3; have gh4 := cell_of hH 4; have gh5 := cell_of hH 5; dsimp at gh0 gh1 gh2 gh3 gh4 gh5
  rcases LW with ⟨h1, h2⟩ | ⟨h1, h2 | ⟨h2, h3⟩⟩
  · have a1 : (EY == 0) = false := by simpa using h1
    have a2 : (EY != 0) = true := by simpa using h1
    have b1 : (ED == 0) = false := by simpa using h2
    have b2 : (ED != 0) = true := by simpa using h2
    go_wp2_with ((go_at_call 35; (with_reducible refine (AW _).mono ?_); rintro e w' ⟨rfl, hx⟩))
    go_ret
    exact ⟨rfl, hB.trans (hx.mono hB.size)⟩
  · have b1 : (ED == 0) = false := by simpa using h2
    have b2 : (ED != 0) = true := by simpa using h2
    subst h1
    go_wp2_with ((go_at_call 35; (with_reducible refine (AW _).mono ?_); rintro e w' ⟨rfl, hx⟩))
    go_ret
    exact ⟨rfl, hB.trans (hx.mono hB.size)⟩
  · simp only [CapS.mk.injEq] at h3
    obtain ⟨rfl, rfl, rfl, rfl, rfl, rfl⟩ := h3
    subst h1
    subst h2
    go_wp2_with ((go_at_call 35; (with_reducible refine (AW _).mono ?_); rintro e w' ⟨rfl, hx⟩))
    go_ret
    exact ⟨rfl, hB.trans (hx.mono hB.size)⟩
end Go.Proofs.Ytejdfdllgobnhaa
