/- The reference's heads: Get. -/
import Derived.Test.YtejdfdllgobnhaaGreatR10c
set_option linter.unusedVariables false
set_option linter.unusedSimpArgs false
namespace Go.Proofs.YtejdfdllgobnhaaGreat
open Go.RowKit
set_option maxHeartbeats 4000000 in
set_option maxRecDepth 100000 in
theorem r10_get (B : RMB) (m : MemS) (f : Int) (w : World) (h : RMemIs w B m) (ok : m.Ok) : Calls Tryz.prog 155 #[.pointer (some ⟨B.v, 0, none⟩), .int .i64 f] w fun e w' =>
    e = .returned (.tuple #[(hdC m f).v, .int .i64 (hdE m f)]) ∧ Below w.heap.size w w' := by
  have hw0 : Below w.heap.size w (w.alloc (.cells #[.int .i64 0, .int .i64 0, .bool false, .int .i64 0] 195 (0, 0))) := by (refine Touch.below0 ?_; (repeat' (first | (with_reducible exact Touch.refl _ _) | (with_reducible assumption) | (with_reducible refine Touch.drew ?_) | (with_reducible refine Touch.drewN ?_ _) | (with_reducible refine Touch.alloc ?_ _) | (with_reducible refine Touch.setCell ?_ _ _ _ ?_) | (with_reducible refine Touch.step (by assumption) ?_) | (with_reducible refine Touch.stepT (by assumption) ?_ ?_) | (intro _; first | rfl | trivial | omega | (simp; done) | (simp; omega)) | (intro _ _; first | omega | (simp; done) | (simp; omega)))))
  have hR : (w.alloc (.cells #[.int .i64 0, .int .i64 0, .bool false, .int .i64 0] 195 (0, 0))).heap[w.heap.size]? = some (.cells #[.int .i64 0, .int .i64 0, .bool false, .int .i64 0] 195 (0, 0)) := heap_new _ _
  have h1 := h.after hw0
  cases hf : m.has f
  · have e0 : hdOk m f = false := by unfold hdOk; rw [hf]; rfl
    have e1 : hdC m f = HeadS.zero := by unfold hdC; rw [e0]; rfl
    have e2 : hdE m f = 1 := by unfold hdE; rw [hf]; rfl
    rw [e1, e2]
    have WN := fun w h => r2_words_no B m f w h hf
    clear e0 e1 e2 hf
    have g0 := cell_of hR 0; have g1 := cell_of hR 1; have g2 := cell_of hR 2; have g3 := cell_of hR 3; have fr := frozen_of hR; dsimp at g0 g1 g2 g3
    go_enter Tryz.func155, Tryz.ntmps155
    go_wp2_with ((go_at_call 218; (with_reducible refine (WN _ h1).mono ?_); rintro e w' ⟨rfl, rfl⟩))
    refine bodyPost_ret (v := .tuple #[HeadS.zero.v, .int .i64 1]) ?_ rfl ⟨rfl, hw0⟩
    have hc := cell_of hR
    simp [results, Tryz.f155, go_sem, hc, HeadS.zero, HeadS.v]
  obtain ⟨f0, f1⟩ := inB_iff.1 hf
  obtain ⟨F, rfl⟩ : ∃ F : Nat, f = F := ⟨f.toNat, by omega⟩
  have hF : F < m.n := by omega
  have WD := fun w h => r2_words B m F w h ok hF
  have hE : hdE m F = if hdOk m F then 0 else 12 := by unfold hdE; rw [hf]; rfl
  have hP : hdOk m F = ((decide (m.w F 0 < 64) && decide (m.w F 1 ≤ 1073741824) && decide (m.w F 2 = 0) && decide (m.w F 3 = 0)) && (HeadS.ofW (m.w F 0) (m.w F 1)).right) := by unfold hdOk hdPre; rw [hf]; rfl
  have hC : hdC m F = if hdOk m F then HeadS.ofW (m.w F 0) (m.w F 1) else HeadS.zero := rfl
  rw [hE, hC, hP]
  have b0 := ok.lo F 0; have b1 := ok.hi F 0; have c0 := ok.lo F 1; have c1 := ok.hi F 1
  generalize hx0 : m.w F 0 = x0 at *
  generalize hx1 : m.w F 1 = x1 at *
  generalize hx2 : m.w F 2 = x2 at *
  generalize hx3 : m.w F 3 = x3 at *
  have HX0 := Lib.hid hx0; have HX1 := Lib.hid hx1; have HX2 := Lib.hid hx2; have HX3 := Lib.hid hx3
  clear hx0 hx1 hx2 hx3 hE hC hP hf f0 f1
  by_cases a0 : x0 < 64
  rotate_left
  · rw [decide_eq_false a0]
    simp only [Bool.false_and, Bool.false_eq_true, if_false]
    have a1 : 64 ≤ x0 := by omega
    have UN := fun bn w h => r10_unpack_no x0 bn w b0 b1 a1 h
    clear a0
    go_enter Tryz.func155, Tryz.ntmps155
    go_wp2_with (first | ((go_at_call 218; (with_reducible refine (WD _ h1).mono ?_); rintro e w' ⟨g, cap, rfl, hrow, hgl, hx⟩); have hR2 := (hx.block _ (lt_of_block hR)).trans hR; have hw2 := hw0.trans (hx.mono hw0.size); have q0 := hrow.at (u64s_at _ (o := 0) (by decide)); have q1 := hrow.at (u64s_at _ (o := 1) (by decide)); have q2 := hrow.at (u64s_at _ (o := 2) (by decide)); have q3 := hrow.at (u64s_at _ (o := 3) (by decide)); rw [HX0.out] at q0; rw [HX1.out] at q1; rw [HX2.out] at q2; rw [HX3.out] at q3; have hlg := hrow.lt; have hrA := hrow.alloc (.cells #[.int .i64 4, .int .i64 1, .int .i64 1] 3 (0, 0)); have p0 := hrA.at (u64s_at _ (o := 0) (by decide)); rw [HX0.out] at p0; have hN := heap_new w' (.cells #[.int .i64 4, .int .i64 1, .int .i64 1] 3 (0, 0)); have hA3 := hw2.alloc hw2.size (.cells #[.int .i64 4, .int .i64 1, .int .i64 1] 3 (0, 0)); have hR3 := heap_alloc hR2 (.cells #[.int .i64 4, .int .i64 1, .int .i64 1] 3 (0, 0))) | ((go_at_call 219; (with_reducible refine (UN _ _ hN).mono ?_); rintro e w' ⟨rfl, hx⟩); have hw4 := hA3.trans (hx.mono hA3.size); have hR4 := (hx.block _ (lt_of_block hR3)).trans hR3; have hr4 := hrA.after hx; have q0 := hr4.at (u64s_at _ (o := 0) (by decide)); have q1 := hr4.at (u64s_at _ (o := 1) (by decide)); have q2 := hr4.at (u64s_at _ (o := 2) (by decide)); have q3 := hr4.at (u64s_at _ (o := 3) (by decide)); rw [HX0.out] at q0; rw [HX1.out] at q1; rw [HX2.out] at q2; rw [HX3.out] at q3; have g0 := cell_of hR4 0; have g1 := cell_of hR4 1; have g2 := cell_of hR4 2; have g3 := cell_of hR4 3; have fr := frozen_of hR4; dsimp at g0 g1 g2 g3))
    have hF := heap_set (o := 3) (heap_set (o := 2) (heap_set (o := 1) (heap_set (o := 0) hR4 (.int .i64 0)) (.int .i64 0)) (.bool false)) (.int .i64 0)
    refine bodyPost_ret (v := .tuple #[HeadS.zero.v, .int .i64 12]) ?_ rfl ⟨rfl, ?_⟩
    · have hc := cell_of hF
      simp [results, Tryz.f155, go_sem, hc, HeadS.zero, HeadS.v, HeadS.ofW]
    · exact ((((hw4).setCell (p := ⟨w.heap.size, 0, none⟩) (Nat.le_refl _) _).setCell (p := ⟨w.heap.size, 1, none⟩) (Nat.le_refl _) _).setCell (p := ⟨w.heap.size, 2, none⟩) (Nat.le_refl _) _).setCell (p := ⟨w.heap.size, 3, none⟩) (Nat.le_refl _) _
  rw [decide_eq_true a0]
  have UY := fun bn w h => r10_unpack_yes x0 bn w b0 a0 h
  by_cases a1 : x1 ≤ 1073741824
  rotate_left
  · rw [decide_eq_false a1]
    simp only [Bool.and_false, Bool.false_and, Bool.false_eq_true, if_false]
    have a2 : 1073741824 < x1 := by omega
    clear a1
    go_enter Tryz.func155, Tryz.ntmps155
    go_wp2_with (first | ((go_at_call 218; (with_reducible refine (WD _ h1).mono ?_); rintro e w' ⟨g, cap, rfl, hrow, hgl, hx⟩); have hR2 := (hx.block _ (lt_of_block hR)).trans hR; have hw2 := hw0.trans (hx.mono hw0.size); have q0 := hrow.at (u64s_at _ (o := 0) (by decide)); have q1 := hrow.at (u64s_at _ (o := 1) (by decide)); have q2 := hrow.at (u64s_at _ (o := 2) (by decide)); have q3 := hrow.at (u64s_at _ (o := 3) (by decide)); rw [HX0.out] at q0; rw [HX1.out] at q1; rw [HX2.out] at q2; rw [HX3.out] at q3; have hlg := hrow.lt; have hrA := hrow.alloc (.cells #[.int .i64 4, .int .i64 1, .int .i64 1] 3 (0, 0)); have p0 := hrA.at (u64s_at _ (o := 0) (by decide)); rw [HX0.out] at p0; have hN := heap_new w' (.cells #[.int .i64 4, .int .i64 1, .int .i64 1] 3 (0, 0)); have hA3 := hw2.alloc hw2.size (.cells #[.int .i64 4, .int .i64 1, .int .i64 1] 3 (0, 0)); have hR3 := heap_alloc hR2 (.cells #[.int .i64 4, .int .i64 1, .int .i64 1] 3 (0, 0))) | ((go_at_call 219; (with_reducible refine (UY _ _ hN).mono ?_); rintro e w' ⟨gg, cc, rfl, hx, s0, s1, s2⟩); have hw4 := hA3.trans (hx.mono hA3.size); have hR4 := (hx.block _ (lt_of_block hR3)).trans hR3; have hr4 := hrA.after hx; have q0 := hr4.at (u64s_at _ (o := 0) (by decide)); have q1 := hr4.at (u64s_at _ (o := 1) (by decide)); have q2 := hr4.at (u64s_at _ (o := 2) (by decide)); have q3 := hr4.at (u64s_at _ (o := 3) (by decide)); rw [HX0.out] at q0; rw [HX1.out] at q1; rw [HX2.out] at q2; rw [HX3.out] at q3; have g0 := cell_of hR4 0; have g1 := cell_of hR4 1; have g2 := cell_of hR4 2; have g3 := cell_of hR4 3; have fr := frozen_of hR4; dsimp at g0 g1 g2 g3))
    have hF := heap_set (o := 3) (heap_set (o := 2) (heap_set (o := 1) (heap_set (o := 0) hR4 (.int .i64 0)) (.int .i64 0)) (.bool false)) (.int .i64 0)
    refine bodyPost_ret (v := .tuple #[HeadS.zero.v, .int .i64 12]) ?_ rfl ⟨rfl, ?_⟩
    · have hc := cell_of hF
      simp [results, Tryz.f155, go_sem, hc, HeadS.zero, HeadS.v, HeadS.ofW]
    · exact ((((hw4).setCell (p := ⟨w.heap.size, 0, none⟩) (Nat.le_refl _) _).setCell (p := ⟨w.heap.size, 1, none⟩) (Nat.le_refl _) _).setCell (p := ⟨w.heap.size, 2, none⟩) (Nat.le_refl _) _).setCell (p := ⟨w.heap.size, 3, none⟩) (Nat.le_refl _) _
  rw [decide_eq_true a1]
  by_cases a2 : x2 = 0
  rotate_left
  · rw [decide_eq_false a2]
    simp only [Bool.and_false, Bool.false_and, Bool.false_eq_true, if_false]
    have a3 : (x2 == 0) = false := by simpa using a2
    have a4 : (x2 != 0) = true := by simpa using a2
    have a5 : ¬ 1073741824 < x1 := by omega
    clear a2
    go_enter Tryz.func155, Tryz.ntmps155
    go_wp2_with (first | ((go_at_call 218; (with_reducible refine (WD _ h1).mono ?_); rintro e w' ⟨g, cap, rfl, hrow, hgl, hx⟩); have hR2 := (hx.block _ (lt_of_block hR)).trans hR; have hw2 := hw0.trans (hx.mono hw0.size); have q0 := hrow.at (u64s_at _ (o := 0) (by decide)); have q1 := hrow.at (u64s_at _ (o := 1) (by decide)); have q2 := hrow.at (u64s_at _ (o := 2) (by decide)); have q3 := hrow.at (u64s_at _ (o := 3) (by decide)); rw [HX0.out] at q0; rw [HX1.out] at q1; rw [HX2.out] at q2; rw [HX3.out] at q3; have hlg := hrow.lt; have hrA := hrow.alloc (.cells #[.int .i64 4, .int .i64 1, .int .i64 1] 3 (0, 0)); have p0 := hrA.at (u64s_at _ (o := 0) (by decide)); rw [HX0.out] at p0; have hN := heap_new w' (.cells #[.int .i64 4, .int .i64 1, .int .i64 1] 3 (0, 0)); have hA3 := hw2.alloc hw2.size (.cells #[.int .i64 4, .int .i64 1, .int .i64 1] 3 (0, 0)); have hR3 := heap_alloc hR2 (.cells #[.int .i64 4, .int .i64 1, .int .i64 1] 3 (0, 0))) | ((go_at_call 219; (with_reducible refine (UY _ _ hN).mono ?_); rintro e w' ⟨gg, cc, rfl, hx, s0, s1, s2⟩); have hw4 := hA3.trans (hx.mono hA3.size); have hR4 := (hx.block _ (lt_of_block hR3)).trans hR3; have hr4 := hrA.after hx; have q0 := hr4.at (u64s_at _ (o := 0) (by decide)); have q1 := hr4.at (u64s_at _ (o := 1) (by decide)); have q2 := hr4.at (u64s_at _ (o := 2) (by decide)); have q3 := hr4.at (u64s_at _ (o := 3) (by decide)); rw [HX0.out] at q0; rw [HX1.out] at q1; rw [HX2.out] at q2; rw [HX3.out] at q3; have g0 := cell_of hR4 0; have g1 := cell_of hR4 1; have g2 := cell_of hR4 2; have g3 := cell_of hR4 3; have fr := frozen_of hR4; dsimp at g0 g1 g2 g3))
    have hF := heap_set (o := 3) (heap_set (o := 2) (heap_set (o := 1) (heap_set (o := 0) hR4 (.int .i64 0)) (.int .i64 0)) (.bool false)) (.int .i64 0)
    refine bodyPost_ret (v := .tuple #[HeadS.zero.v, .int .i64 12]) ?_ rfl ⟨rfl, ?_⟩
    · have hc := cell_of hF
      simp [results, Tryz.f155, go_sem, hc, HeadS.zero, HeadS.v, HeadS.ofW]
    · exact ((((hw4).setCell (p := ⟨w.heap.size, 0, none⟩) (Nat.le_refl _) _).setCell (p := ⟨w.heap.size, 1, none⟩) (Nat.le_refl _) _).setCell (p := ⟨w.heap.size, 2, none⟩) (Nat.le_refl _) _).setCell (p := ⟨w.heap.size, 3, none⟩) (Nat.le_refl _) _
  subst a2
  by_cases a3 : x3 = 0
  rotate_left
  · rw [decide_eq_false a3]
    simp only [Bool.and_false, Bool.false_and, Bool.false_eq_true, if_false]
    have a4 : (x3 == 0) = false := by simpa using a3
    have a6 : (x3 != 0) = true := by simpa using a3
    have a5 : ¬ 1073741824 < x1 := by omega
    clear a3
    go_enter Tryz.func155, Tryz.ntmps155
    go_wp2_with (first | ((go_at_call 218; (with_reducible refine (WD _ h1).mono ?_); rintro e w' ⟨g, cap, rfl, hrow, hgl, hx⟩); have hR2 := (hx.block _ (lt_of_block hR)).trans hR; have hw2 := hw0.trans (hx.mono hw0.size); have q0 := hrow.at (u64s_at _ (o := 0) (by decide)); have q1 := hrow.at (u64s_at _ (o := 1) (by decide)); have q2 := hrow.at (u64s_at _ (o := 2) (by decide)); have q3 := hrow.at (u64s_at _ (o := 3) (by decide)); rw [HX0.out] at q0; rw [HX1.out] at q1; rw [HX2.out] at q2; rw [HX3.out] at q3; have hlg := hrow.lt; have hrA := hrow.alloc (.cells #[.int .i64 4, .int .i64 1, .int .i64 1] 3 (0, 0)); have p0 := hrA.at (u64s_at _ (o := 0) (by decide)); rw [HX0.out] at p0; have hN := heap_new w' (.cells #[.int .i64 4, .int .i64 1, .int .i64 1] 3 (0, 0)); have hA3 := hw2.alloc hw2.size (.cells #[.int .i64 4, .int .i64 1, .int .i64 1] 3 (0, 0)); have hR3 := heap_alloc hR2 (.cells #[.int .i64 4, .int .i64 1, .int .i64 1] 3 (0, 0))) | ((go_at_call 219; (with_reducible refine (UY _ _ hN).mono ?_); rintro e w' ⟨gg, cc, rfl, hx, s0, s1, s2⟩); have hw4 := hA3.trans (hx.mono hA3.size); have hR4 := (hx.block _ (lt_of_block hR3)).trans hR3; have hr4 := hrA.after hx; have q0 := hr4.at (u64s_at _ (o := 0) (by decide)); have q1 := hr4.at (u64s_at _ (o := 1) (by decide)); have q2 := hr4.at (u64s_at _ (o := 2) (by decide)); have q3 := hr4.at (u64s_at _ (o := 3) (by decide)); rw [HX0.out] at q0; rw [HX1.out] at q1; rw [HX2.out] at q2; rw [HX3.out] at q3; have g0 := cell_of hR4 0; have g1 := cell_of hR4 1; have g2 := cell_of hR4 2; have g3 := cell_of hR4 3; have fr := frozen_of hR4; dsimp at g0 g1 g2 g3))
    have hF := heap_set (o := 3) (heap_set (o := 2) (heap_set (o := 1) (heap_set (o := 0) hR4 (.int .i64 0)) (.int .i64 0)) (.bool false)) (.int .i64 0)
    refine bodyPost_ret (v := .tuple #[HeadS.zero.v, .int .i64 12]) ?_ rfl ⟨rfl, ?_⟩
    · have hc := cell_of hF
      simp [results, Tryz.f155, go_sem, hc, HeadS.zero, HeadS.v, HeadS.ofW]
    · exact ((((hw4).setCell (p := ⟨w.heap.size, 0, none⟩) (Nat.le_refl _) _).setCell (p := ⟨w.heap.size, 1, none⟩) (Nat.le_refl _) _).setCell (p := ⟨w.heap.size, 2, none⟩) (Nat.le_refl _) _).setCell (p := ⟨w.heap.size, 3, none⟩) (Nat.le_refl _) _
  subst a3
  have a5 : ¬ 1073741824 < x1 := by omega
  simp only [decide_true, Bool.true_and]
  have hr := r10_right (HeadS.ofW x0 x1)
  unfold HeadS.ofW HeadS.v at hr
  dsimp only at hr
  generalize hcr : (HeadS.ofW x0 x1).right = cr at *
  have hcr2 : HeadS.right ⟨x0 % 16, x0 / 16 % 2, x0 / 32 % 2 == 1, x1⟩ = cr := hcr
  rw [hcr2] at hr
  clear hcr hcr2
  have v0 := wrap_i64_small (x := x0 % 16) (by omega) (by omega); have v1 := wrap_i64_small (x := x0 / 16 % 2) (by omega) (by omega); have v3 := wrap_i64_small (x := x1) (by omega) (by omega)
  go_enter Tryz.func155, Tryz.ntmps155
  go_upto_region 7 with (first | ((go_at_call 218; (with_reducible refine (WD _ h1).mono ?_); rintro e w' ⟨g, cap, rfl, hrow, hgl, hx⟩); have hR2 := (hx.block _ (lt_of_block hR)).trans hR; have hw2 := hw0.trans (hx.mono hw0.size); have q0 := hrow.at (u64s_at _ (o := 0) (by decide)); have q1 := hrow.at (u64s_at _ (o := 1) (by decide)); have q2 := hrow.at (u64s_at _ (o := 2) (by decide)); have q3 := hrow.at (u64s_at _ (o := 3) (by decide)); rw [HX0.out] at q0; rw [HX1.out] at q1; rw [HX2.out] at q2; rw [HX3.out] at q3; have hlg := hrow.lt; have hrA := hrow.alloc (.cells #[.int .i64 4, .int .i64 1, .int .i64 1] 3 (0, 0)); have p0 := hrA.at (u64s_at _ (o := 0) (by decide)); rw [HX0.out] at p0; have hN := heap_new w' (.cells #[.int .i64 4, .int .i64 1, .int .i64 1] 3 (0, 0)); have hA3 := hw2.alloc hw2.size (.cells #[.int .i64 4, .int .i64 1, .int .i64 1] 3 (0, 0)); have hR3 := heap_alloc hR2 (.cells #[.int .i64 4, .int .i64 1, .int .i64 1] 3 (0, 0))) | ((go_at_call 219; (with_reducible refine (UY _ _ hN).mono ?_); rintro e w' ⟨gg, cc, rfl, hx, s0, s1, s2⟩); have hw4 := hA3.trans (hx.mono hA3.size); have hR4 := (hx.block _ (lt_of_block hR3)).trans hR3; have hr4 := hrA.after hx; have q0 := hr4.at (u64s_at _ (o := 0) (by decide)); have q1 := hr4.at (u64s_at _ (o := 1) (by decide)); have q2 := hr4.at (u64s_at _ (o := 2) (by decide)); have q3 := hr4.at (u64s_at _ (o := 3) (by decide)); rw [HX0.out] at q0; rw [HX1.out] at q1; rw [HX2.out] at q2; rw [HX3.out] at q3; have g0 := cell_of hR4 0; have g1 := cell_of hR4 1; have g2 := cell_of hR4 2; have g3 := cell_of hR4 3; have fr := frozen_of hR4; dsimp at g0 g1 g2 g3))
  obtain ⟨w3, rfl⟩ : ∃ y : World, y = w' := ⟨_, rfl⟩
  have lgg : gg < w3.heap.size := lt_of_cell (a := ⟨gg, 0, none⟩) s0
  have lg4 := hr4.lt
  have ngg : gg ≠ w3.heap.size := by omega
  have ng4 : g ≠ w3.heap.size := by omega
  have kS : ∀ y, Below w3.heap.size w3 y → y.cell? ⟨gg, 0, none⟩ = some (.int .u64 (x0 % 16)) ∧ y.cell? ⟨gg, 1, none⟩ = some (.int .u64 (x0 / 16 % 2)) ∧ y.cell? ⟨gg, 2, none⟩ = some (.int .u64 (x0 / 32 % 2)) ∧ y.cell? ⟨g, 1, none⟩ = some (.int .u64 x1) :=
    fun y hb => ⟨(hb.cell (p := ⟨gg, 0, none⟩) lgg).trans s0, (hb.cell (p := ⟨gg, 1, none⟩) lgg).trans s1, (hb.cell (p := ⟨gg, 2, none⟩) lgg).trans s2, (hb.cell (p := ⟨g, 1, none⟩) lg4).trans q1⟩
  have d0 : Below w3.heap.size w3 w3.drew := (Below.refl _ w3).drew
  have d1 : ∀ o, Below w3.heap.size w3 (w3.alloc o).drew := fun o => ((Below.refl _ w3).alloc (Nat.le_refl _) o).drew
  have hwB : w.heap.size < w3.heap.size := lt_of_block hR4
  clear hR hR2 hR3 hw0 hw2 hA3 hN hrow hrA hr4
  go_cut [9] (fun x wr => ∃ C, x = .pointer (some ⟨C, 0, none⟩) ∧ wr.heap[C]? = some (.cells #[.int .i64 (x0 % 16), .int .i64 (x0 / 16 % 2), .bool (x0 / 32 % 2 == 1), .int .i64 x1] 195 (0, 0)) ∧ wr.heap[w.heap.size]? = some (.cells #[.int .i64 0, .int .i64 0, .bool false, .int .i64 0] 195 (0, 0)) ∧ Below w.heap.size w wr)
  case first =>
    go_region_held3 (fun y => y.cell? ⟨gg, 0, none⟩ = some (.int .u64 (x0 % 16)) ∧ y.cell? ⟨gg, 1, none⟩ = some (.int .u64 (x0 / 16 % 2)) ∧ y.cell? ⟨gg, 2, none⟩ = some (.int .u64 (x0 / 32 % 2)) ∧ y.cell? ⟨g, 1, none⟩ = some (.int .u64 x1)) (first | exact kS _ d0 | exact kS _ (d1 _) | (refine kS _ ?_; assumption)) (fail)
    all_goals
      go_wp2
      go_meet
      exact ⟨w3.heap.size, rfl, heap_new _ _, heap_alloc hR4 _, (hw4.alloc hw4.size _).drew⟩
  case rest =>
    obtain ⟨C, rfl, hC, hR5, hw5⟩ := hcut
    have d0 := cell_of hC 0; have d1 := cell_of hC 1; have d2 := cell_of hC 2; have d3 := cell_of hC 3
    dsimp at d0 d1 d2 d3
    clear g0 g1 g2 g3 fr
    cases cr
    · go_wp2_with ((go_at_call 208; (with_reducible refine (hr _).mono ?_); rintro e w' ⟨rfl, hx⟩); have hR6 := (hx.block _ (lt_of_block hR5)).trans hR5; have hw6 := hw5.trans (hx.mono hw5.size); have g0 := cell_of hR6 0; have g1 := cell_of hR6 1; have g2 := cell_of hR6 2; have g3 := cell_of hR6 3; have fr := frozen_of hR6; dsimp at g0 g1 g2 g3)
      have hF := heap_set (o := 3) (heap_set (o := 2) (heap_set (o := 1) (heap_set (o := 0) hR6 (.int .i64 0)) (.int .i64 0)) (.bool false)) (.int .i64 0)
      refine bodyPost_ret (v := .tuple #[HeadS.zero.v, .int .i64 12]) ?_ rfl ⟨rfl, ?_⟩
      · have hc := cell_of hF
        simp [results, Tryz.f155, go_sem, hc, HeadS.zero, HeadS.v, HeadS.ofW]
      · exact ((((hw6).setCell (p := ⟨w.heap.size, 0, none⟩) (Nat.le_refl _) _).setCell (p := ⟨w.heap.size, 1, none⟩) (Nat.le_refl _) _).setCell (p := ⟨w.heap.size, 2, none⟩) (Nat.le_refl _) _).setCell (p := ⟨w.heap.size, 3, none⟩) (Nat.le_refl _) _
    · go_wp2_with ((go_at_call 208; (with_reducible refine (hr _).mono ?_); rintro e w' ⟨rfl, hx⟩); have hR6 := (hx.block _ (lt_of_block hR5)).trans hR5; have hw6 := hw5.trans (hx.mono hw5.size); have g0 := cell_of hR6 0; have g1 := cell_of hR6 1; have g2 := cell_of hR6 2; have g3 := cell_of hR6 3; have fr := frozen_of hR6; dsimp at g0 g1 g2 g3; have hC3 := (hx.block _ (lt_of_block hC)).trans hC; have d0 := cell_of hC3 0; have d1 := cell_of hC3 1; have d2 := cell_of hC3 2; have d3 := cell_of hC3 3; dsimp at d0 d1 d2 d3)
      have hF := heap_set (o := 3) (heap_set (o := 2) (heap_set (o := 1) (heap_set (o := 0) hR6 (.int .i64 (x0 % 16))) (.int .i64 (x0 / 16 % 2))) (.bool (x0 / 32 % 2 == 1))) (.int .i64 x1)
      refine bodyPost_ret (v := .tuple #[(HeadS.ofW x0 x1).v, .int .i64 0]) ?_ rfl ⟨rfl, ?_⟩
      · have hc := cell_of hF
        simp [results, Tryz.f155, go_sem, hc, HeadS.zero, HeadS.v, HeadS.ofW]
      · exact ((((hw6).setCell (p := ⟨w.heap.size, 0, none⟩) (Nat.le_refl _) _).setCell (p := ⟨w.heap.size, 1, none⟩) (Nat.le_refl _) _).setCell (p := ⟨w.heap.size, 2, none⟩) (Nat.le_refl _) _).setCell (p := ⟨w.heap.size, 3, none⟩) (Nat.le_refl _) _
end Go.Proofs.YtejdfdllgobnhaaGreat
