/- BuildZero: the walk of the law. -/
import Derived.Test.YtmahledpcpdldaaGreatBuildB
set_option linter.unusedVariables false
set_option linter.unusedSimpArgs false
namespace Go.Proofs.YtmahledpcpdldaaGreat
open Go.RowKit Go.OpenShut
theorem bz_tbl (p : Option Addr) (f : Int) (w : World) (h : Mz w p) : Calls Tryz.prog 45 #[.pointer p, .int .i64 f, .int .i64 0] w fun e w' => e = .returned (.int .i64 13) ∧ Below w.heap.size w w' := by
  go_enter Tryz.func45, Tryz.ntmps45
  go_wp2_with ((go_at_call 38; (with_reducible refine (fz_fresh _ _ _ h).mono ?_); rintro e w' ⟨rfl, hx⟩))
  go_ret
  exact ⟨rfl, hx⟩
theorem bz_pgt (p : Option Addr) (f : Int) (w : World) (h : Mz w p) : Calls Tryz.prog 46 #[.pointer p, .int .i64 f, .int .i64 0] w fun e w' => e = .returned (.int .i64 13) ∧ Below w.heap.size w w' := by
  go_enter Tryz.func46, Tryz.ntmps46
  go_wp2_with ((go_at_call 38; (with_reducible refine (fz_fresh _ _ _ h).mono ?_); rintro e w' ⟨rfl, hx⟩))
  go_ret
  exact ⟨rfl, hx⟩
theorem bz_tcap (p : Option Addr) (f : Int) (w : World) (h : Mz w p) : Calls Tryz.prog 48 #[.pointer p, .int .i64 f] w fun e w' => e = .returned (.int .i64 13) ∧ Below w.heap.size w w' := by
  go_enter Tryz.func48, Tryz.ntmps48
  go_wp2_with ((go_at_call 38; (with_reducible refine (fz_fresh _ _ _ h).mono ?_); rintro e w' ⟨rfl, hx⟩))
  go_ret
  exact ⟨rfl, hx⟩
theorem bz_thd (p : Option Addr) (f : Int) (w : World) (h : Mz w p) : Calls Tryz.prog 47 #[.pointer p, .int .i64 f, .int .i64 0, .int .i64 0, .int .i64 0] w fun e w' => e = .returned (.int .i64 13) ∧ Below w.heap.size w w' := by
  go_enter Tryz.func47, Tryz.ntmps47
  go_wp2_with ((go_at_call 38; (with_reducible refine (fz_fresh _ _ _ h).mono ?_); rintro e w' ⟨rfl, hx⟩))
  go_ret
  exact ⟨rfl, hx⟩
theorem bz_rcv (p : Option Addr) (f : Int) (w : World) (h : Mz w p) : Calls Tryz.prog 49 #[.pointer p, .int .i64 f, .int .i64 0, .int .i64 0] w fun e w' => e = .returned (.int .i64 13) ∧ Below w.heap.size w w' := by
  go_enter Tryz.func49, Tryz.ntmps49
  go_wp2_with ((go_at_call 38; (with_reducible refine (fz_fresh _ _ _ h).mono ?_); rintro e w' ⟨rfl, hx⟩))
  go_ret
  exact ⟨rfl, hx⟩
theorem bz_comp (p : Option Addr) (f : Int) (w : World) (h : Mz w p) : Calls Tryz.prog 44 #[.pointer p, .int .i64 f, .int .i64 0, .int .i64 0] w fun e w' => e = .returned (.tuple #[cap0, .int .i64 13]) ∧ Below w.heap.size w w' := by
  have hF := heap_new w (.cells #[.int .i64 0, .int .i64 0, .int .i64 0, .int .i64 0, .int .i64 0, .int .i64 0] 38 (0, 0))
  have hB : Below w.heap.size w (w.alloc (.cells #[.int .i64 0, .int .i64 0, .int .i64 0, .int .i64 0, .int .i64 0, .int .i64 0] 38 (0, 0))) := by (refine Touch.below0 ?_; (repeat' (first | (with_reducible exact Touch.refl _ _) | (with_reducible assumption) | (with_reducible refine Touch.drew ?_) | (with_reducible refine Touch.drewN ?_ _) | (with_reducible refine Touch.alloc ?_ _) | (with_reducible refine Touch.setCell ?_ _ _ _ ?_) | (with_reducible refine Touch.step (by assumption) ?_) | (with_reducible refine Touch.stepT (by assumption) ?_ ?_) | (intro _; first | rfl | trivial | omega | (simp; done) | (simp; omega)) | (intro _ _; first | omega | (simp; done) | (simp; omega)))))
  go_enter Tryz.func44, Tryz.ntmps44
  go_upto_region 1 with (fail)
  generalize w.alloc (.cells #[.int .i64 0, .int .i64 0, .int .i64 0, .int .i64 0, .int .i64 0, .int .i64 0] 38 (0, 0)) = W at *
  have hM := h.below hB
  go_wp2_with ((go_at_call 38; (with_reducible refine (fz_fresh _ _ _ hM).mono ?_); rintro e w' ⟨rfl, hx⟩); have hB2 := hB.trans (hx.mono hB.size); have hF2 := (hx.block _ (lt_of_block hF)).trans hF; have c0 := cell_of hF2 0; have c1 := cell_of hF2 1; have c2 := cell_of hF2 2; have c3 := cell_of hF2 3; have c4 := cell_of hF2 4; have c5 := cell_of hF2 5; have fz := frozen_of hF2; dsimp at c0 c1 c2 c3 c4 c5)
  have hc := cell_of (heap_set (o := 5) (heap_set (o := 4) (heap_set (o := 3) (heap_set (o := 2) (heap_set (o := 1) (heap_set (o := 0) hF2 (.int .i64 0)) (.int .i64 0)) (.int .i64 0)) (.int .i64 0)) (.int .i64 0)) (.int .i64 0))
  have hS := (((((hB2.setCell (p := ⟨w.heap.size, 0, none⟩) (Nat.le_refl _) (.int .i64 0)).setCell (p := ⟨w.heap.size, 1, none⟩) (Nat.le_refl _) (.int .i64 0)).setCell (p := ⟨w.heap.size, 2, none⟩) (Nat.le_refl _) (.int .i64 0)).setCell (p := ⟨w.heap.size, 3, none⟩) (Nat.le_refl _) (.int .i64 0)).setCell (p := ⟨w.heap.size, 4, none⟩) (Nat.le_refl _) (.int .i64 0)).setCell (p := ⟨w.heap.size, 5, none⟩) (Nat.le_refl _) (.int .i64 0)
  clear c0 c1 c2 c3 c4 c5
  (try simp only [Exit.inBlock, Exit.then, Exit.noGoto_ret])
  refine bodyPost_ret (v := .tuple #[cap0, .int .i64 13]) ?_ rfl ⟨rfl, hS⟩
  simp at hc
  simp [results, Tryz.f44, go_sem, hc, cap0]
theorem bz_kill (p : Option Addr) (f : Int) (w : World) (h : Mz w p) : Calls Tryz.prog 50 #[.pointer p, .int .i64 f] w fun e w' => e = .returned (.int .i64 13) ∧ Below w.heap.size w w' := by
  go_enter Tryz.func50, Tryz.ntmps50
  go_wp2_with ((go_at_call 34; (with_reducible refine (fz_comp _ _ _ h).mono ?_); rintro e w' ⟨rfl, hx⟩); have hy := hx.alloc hx.size (.cells #[.int .i64 0, .int .i64 0, .int .i64 0, .int .i64 0, .int .i64 0, .int .i64 0] 76 (0, 0)))
  go_ret
  exact ⟨rfl, hy⟩
theorem bz_none (p : Option Addr) (w : World) (h : Mz w p) : Calls Tryz.prog 162 #[.pointer p] w fun e w' => e = .returned (.bool true) ∧ w = w' := by
  go_enter Tryz.func162, Tryz.ntmps162
  go_wp2_with ((go_at_call 70; (with_reducible refine (mz_cores p w h).mono ?_); rintro e w' ⟨rfl, rfl⟩))
  go_ret
  exact ⟨rfl, rfl⟩
theorem bz_untype (p : Option Addr) (f : Int) (w : World) (h : Mz w p) : Calls Tryz.prog 51 #[.pointer p, .int .i64 f] w fun e w' => e = .returned (.int .i64 13) ∧ Below w.heap.size w w' := by
  have hA : ∀ o, Mz (w.alloc o) p := fun o => h.below (by (refine Touch.below0 ?_; (repeat' (first | (with_reducible exact Touch.refl _ _) | (with_reducible assumption) | (with_reducible refine Touch.drew ?_) | (with_reducible refine Touch.drewN ?_ _) | (with_reducible refine Touch.alloc ?_ _) | (with_reducible refine Touch.setCell ?_ _ _ _ ?_) | (with_reducible refine Touch.step (by assumption) ?_) | (with_reducible refine Touch.stepT (by assumption) ?_ ?_) | (intro _; first | rfl | trivial | omega | (simp; done) | (simp; omega)) | (intro _ _; first | omega | (simp; done) | (simp; omega))))))
  go_enter Tryz.func51, Tryz.ntmps51
  go_wp2_with ((go_at_call 162; (with_reducible refine (bz_none _ _ (hA _)).mono ?_); rintro e w' ⟨rfl, rfl⟩))
  go_ret
  exact ⟨rfl, by (refine Touch.below0 ?_; (repeat' (first | (with_reducible exact Touch.refl _ _) | (with_reducible assumption) | (with_reducible refine Touch.drew ?_) | (with_reducible refine Touch.drewN ?_ _) | (with_reducible refine Touch.alloc ?_ _) | (with_reducible refine Touch.setCell ?_ _ _ _ ?_) | (with_reducible refine Touch.step (by assumption) ?_) | (with_reducible refine Touch.stepT (by assumption) ?_ ?_) | (intro _; first | rfl | trivial | omega | (simp; done) | (simp; omega)) | (intro _ _; first | omega | (simp; done) | (simp; omega)))))⟩
set_option maxHeartbeats 4000000 in
theorem buildZero_walk (f : Int) (w : World) (wf : (Lit.int .i64 f).wf = true) :
    Calls Tryz.prog 5 #[.int .i64 f] w fun e w' => e = .returned (.bool true) ∧ Below w.heap.size w w' := by
  go_enter Tryz.func5, Tryz.ntmps5
  go_upto_region 2 with (fail)
  have hB : Below w.heap.size w (w.alloc (.cells #[.pointer none, .pointer none, .pointer none, .pointer none, .pointer none, .slice none 0 0] 102 (0, 0))) := by (refine Touch.below0 ?_; (repeat' (first | (with_reducible exact Touch.refl _ _) | (with_reducible assumption) | (with_reducible refine Touch.drew ?_) | (with_reducible refine Touch.drewN ?_ _) | (with_reducible refine Touch.alloc ?_ _) | (with_reducible refine Touch.setCell ?_ _ _ _ ?_) | (with_reducible refine Touch.step (by assumption) ?_) | (with_reducible refine Touch.stepT (by assumption) ?_ ?_) | (intro _; first | rfl | trivial | omega | (simp; done) | (simp; omega)) | (intro _ _; first | omega | (simp; done) | (simp; omega)))))
  have hM : Mz (w.alloc (.cells #[.pointer none, .pointer none, .pointer none, .pointer none, .pointer none, .slice none 0 0] 102 (0, 0))) (some ⟨w.heap.size, 0, none⟩) := .inr ⟨_, rfl, by rw [cell_of (heap_new _ _)]; rfl⟩
  generalize w.alloc (.cells #[.pointer none, .pointer none, .pointer none, .pointer none, .pointer none, .slice none 0 0] 102 (0, 0)) = W at *
  go_wp2_with (first
    | ((go_at_call 44; (with_reducible refine (bz_comp none _ _ (Mz.nil _)).mono ?_); rintro e w' ⟨rfl, hx⟩); have hy := hx.alloc hx.size (.cells #[.int .i64 0, .int .i64 0, .int .i64 0, .int .i64 0, .int .i64 0, .int .i64 0] 38 (0, 0)); have hM := hM.below hy; have hB := hB.trans (hy.mono hB.size))
    | ((go_at_call 45; (with_reducible refine (bz_tbl _ _ _ hM).mono ?_); rintro e w' ⟨rfl, hx⟩); have hM := hM.below hx; have hB := hB.trans (hx.mono hB.size))
    | ((go_at_call 46; (with_reducible refine (bz_pgt none _ _ (Mz.nil _)).mono ?_); rintro e w' ⟨rfl, hx⟩); have hM := hM.below hx; have hB := hB.trans (hx.mono hB.size))
    | ((go_at_call 47; (with_reducible refine (bz_thd _ _ _ hM).mono ?_); rintro e w' ⟨rfl, hx⟩); have hM := hM.below hx; have hB := hB.trans (hx.mono hB.size))
    | ((go_at_call 48; (with_reducible refine (bz_tcap none _ _ (Mz.nil _)).mono ?_); rintro e w' ⟨rfl, hx⟩); have hM := hM.below hx; have hB := hB.trans (hx.mono hB.size))
    | ((go_at_call 49; (with_reducible refine (bz_rcv _ _ _ hM).mono ?_); rintro e w' ⟨rfl, hx⟩); have hM := hM.below hx; have hB := hB.trans (hx.mono hB.size))
    | ((go_at_call 50; (with_reducible refine (bz_kill none _ _ (Mz.nil _)).mono ?_); rintro e w' ⟨rfl, hx⟩); have hM := hM.below hx; have hB := hB.trans (hx.mono hB.size))
    | ((go_at_call 51; (with_reducible refine (bz_untype _ _ _ hM).mono ?_); rintro e w' ⟨rfl, hx⟩); have hB := hB.trans (hx.mono hB.size))
    | ((go_at_call 52; (with_reducible refine (awake27 _).mono ?_); rintro e w' ⟨rfl, hx⟩); have hB := hB.trans (hx.mono hB.size)))
  go_ret
  exact ⟨rfl, hB⟩
end Go.Proofs.YtmahledpcpdldaaGreat
