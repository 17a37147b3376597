/- Tables of capabilities (package captbl): room, Make, isTime, gone. -/
import Derived.Test.YtejdfdllgobnhaaTbl4
set_option linter.unusedVariables false
set_option linter.unusedSimpArgs false
namespace Go.Proofs.Ytejdfdllgobnhaa
open Go.RowKit
def roomE (m : MemS) (root n fl : Int) : Int := if walkE m root n = 0 then (if (walkP m root n).fz then 6 else freeE m (walkP m root n).f (walkP m root n).i fl) else walkE m root n
def roomP (m : MemS) (root n : Int) : PlaceS := if walkE m root n = 0 then (if (walkP m root n).fz then PlaceS.zero else walkP m root n) else PlaceS.zero
theorem tbl_make (a g : Nat) (m : MemS) (f lv : Int) (w : World) (h : MemIs w a g m) (ok : m.Ok) : Calls Try.prog 32 #[.pointer (some ⟨a, 0, none⟩), .int .i64 f, .int .i64 lv] w fun e w' =>
    e = .returned (.int .i64 (if headOk m f ⟨1, lv, false, 0⟩ then 0 else 1)) ∧ MemIs w' a g (m.make f ⟨1, lv, false, 0⟩) ∧ Touch (· = g) w w' := by
  have H := fun w h => head_make a g m f ⟨1, lv, false, 0⟩ w h ok
  unfold HeadS.v at H
  dsimp only at H
  generalize m.make f ⟨1, lv, false, 0⟩ = M at *
  generalize (if headOk m f ⟨1, lv, false, 0⟩ then (0 : Int) else 1) = E at *
  go_enter Try.func32, Try.ntmps32
  go_wp2_with ((go_at_call 67; (with_reducible refine (H _ h).mono ?_); rintro e w' ⟨rfl, hm, ht⟩))
  go_ret
  exact ⟨rfl, hm, ht⟩
def timeB (n : Int) : Bool := decide (1 ≤ n) && decide (n ≤ 1073741824)
theorem tbl_time (n : Int) (w : World) : Calls Try.prog 75 #[.int .i64 n] w fun e w' => e = .returned (.bool (timeB n)) ∧ w = w' := by
  unfold timeB
  by_cases h : 1 ≤ n
  · go_enter Try.func75, Try.ntmps75
    go_wp2
    go_ret
    exact ⟨ret_bool (by simp [h]), rfl⟩
  · go_enter Try.func75, Try.ntmps75
    go_wp2
    go_ret
    exact ⟨ret_bool (by have : ¬ 1 ≤ n := by omega
                        rw [decide_eq_false this]; rfl), rfl⟩
def goneC (n : Int) : CapS := ⟨1, 0, 0, 0, 0, n⟩
theorem tbl_gone (n : Int) (w : World) : Calls Try.prog 76 #[.int .i64 n] w fun e w' => e = .returned (goneC n).v ∧ Below w.heap.size w w' := by
  go_enter Try.func76, Try.ntmps76
  go_wp2
  ((try simp only [Exit.inBlock, Exit.then]); refine bodyPost_ret (results_cell_row rfl _ _ w.heap.size 57 #[.int .i64 1, .int .i64 0, .int .i64 0, .int .i64 0, .int .i64 0, .int .i64 n] (0, 0) _ rfl ?_ Try.underlying57 rfl (by kernel_rfl)) rfl ?_)
  · exact heap_new _ _
  exact ⟨rfl, by (refine Touch.below0 ?_; (repeat' (first | (with_reducible exact Touch.refl _ _) | (with_reducible assumption) | (with_reducible refine Touch.drew ?_) | (with_reducible refine Touch.drewN ?_ _) | (with_reducible refine Touch.alloc ?_ _) | (with_reducible refine Touch.setCell ?_ _ _ _ ?_) | (with_reducible refine Touch.step (by assumption) ?_) | (with_reducible refine Touch.stepT (by assumption) ?_ ?_) | (intro _; first | rfl | trivial | omega | (simp; done) | (simp; omega)) | (intro _ _; first | omega | (simp; done) | (simp; omega)))))⟩
set_option maxHeartbeats 1000000 in
set_option maxRecDepth 100000 in
theorem tbl_room (a g : Nat) (m : MemS) (root n fl : Int) (w : World) (h : MemIs w a g m) (ok : m.Ok) : Calls Try.prog 72 #[.agg #[.pointer (some ⟨a, 0, none⟩)], .int .i64 root, .int .i64 n, .int .i64 fl] w fun e w' =>
    e = .returned (.tuple #[(roomP m root n).v, .int .i64 (roomE m root n fl)]) ∧ Below w.heap.size w w' := by
  have hw0 : Below w.heap.size w ((w.alloc (.cells #[.pointer (some ⟨a, 0, none⟩)] 115 (0, 0))).alloc (.cells #[.int .i64 0, .int .i64 0, .bool false] 121 (0, 0))) := by (refine Touch.below0 ?_; (repeat' (first | (with_reducible exact Touch.refl _ _) | (with_reducible assumption) | (with_reducible refine Touch.drew ?_) | (with_reducible refine Touch.drewN ?_ _) | (with_reducible refine Touch.alloc ?_ _) | (with_reducible refine Touch.setCell ?_ _ _ _ ?_) | (with_reducible refine Touch.step (by assumption) ?_) | (with_reducible refine Touch.stepT (by assumption) ?_ ?_) | (intro _; first | rfl | trivial | omega | (simp; done) | (simp; omega)) | (intro _ _; first | omega | (simp; done) | (simp; omega)))))
  have hB : ((w.alloc (.cells #[.pointer (some ⟨a, 0, none⟩)] 115 (0, 0))).alloc (.cells #[.int .i64 0, .int .i64 0, .bool false] 121 (0, 0))).heap[w.heap.size]? = some (.cells #[.pointer (some ⟨a, 0, none⟩)] 115 (0, 0)) := heap_alloc (heap_new _ _) _
  have hR : ((w.alloc (.cells #[.pointer (some ⟨a, 0, none⟩)] 115 (0, 0))).alloc (.cells #[.int .i64 0, .int .i64 0, .bool false] 121 (0, 0))).heap[w.heap.size + 1]? = some (.cells #[.int .i64 0, .int .i64 0, .bool false] 121 (0, 0)) := heap_new' (by simp) _
  have h1 := h.after hw0
  have WK := fun w h => tbl_walk a g m root n w h ok
  unfold roomE roomP
  generalize hwp : walkP m root n = P at *
  generalize hwe : walkE m root n = E at *
  clear hwp hwe
  obtain ⟨pf, pi, pz⟩ := P
  have FR := fun w h => tbl_free a g m pf pi fl w h ok
  unfold PlaceS.v at *
  dsimp only at *
  by_cases hE : E = 0
  · subst hE
    simp only [if_true]
    cases pz
    · simp only [Bool.false_eq_true, if_false]
      generalize freeE m pf pi fl = FE at *
      go_enter Try.func72, Try.ntmps72
      go_upto_region 6 with ((go_at_call 102; (with_reducible refine (WK _ h1).mono ?_); rintro e w' ⟨rfl, hx⟩); have hw2 := hw0.trans (hx.mono hw0.size); have hR2 := (hx.block _ (lt_of_block hR)).trans hR; have hB2 := (hx.block _ (lt_of_block hB)).trans hB; have h2 := h1.after hx)
      have hP3 : (w'.alloc (.cells #[.int .i64 pf, .int .i64 pi, .bool false] 121 (0, 0))).heap[w'.heap.size]? = some (.cells #[.int .i64 pf, .int .i64 pi, .bool false] 121 (0, 0)) := heap_new _ _
      have hR3 := heap_alloc hR2 (.cells #[.int .i64 pf, .int .i64 pi, .bool false] 121 (0, 0))
      have hB3 := heap_alloc hB2 (.cells #[.int .i64 pf, .int .i64 pi, .bool false] 121 (0, 0))
      have hw3 := hw2.alloc hw2.size (.cells #[.int .i64 pf, .int .i64 pi, .bool false] 121 (0, 0))
      have h3 := h2.after ((Below.refl _ _).alloc (Nat.le_refl _) (.cells #[.int .i64 pf, .int .i64 pi, .bool false] 121 (0, 0)))
      have hPR : w'.heap.size ≠ w.heap.size + 1 := by have := lt_of_block hR2; omega
      have hBR : w.heap.size ≠ w.heap.size + 1 := by omega
      generalize w'.alloc (.cells #[.int .i64 pf, .int .i64 pi, .bool false] 121 (0, 0)) = w3 at *
      generalize w'.heap.size = N at *
      clear hx hR2 hB2 h2 hw2 h1 hR hB hw0 WK
      have s0 := cell_of hP3 0; have s1 := cell_of hP3 1; have s2 := cell_of hP3 2; have s3 := cell_of hB3 0
      dsimp at s0 s1 s2 s3
      have lP := lt_of_block hP3; have lB := lt_of_block hB3
      have kS : ∀ y, Below w3.heap.size w3 y → y.cell? ⟨N, 0, none⟩ = some (.int .i64 pf) ∧ y.cell? ⟨N, 1, none⟩ = some (.int .i64 pi) ∧ y.cell? ⟨N, 2, none⟩ = some (.bool false) ∧ y.cell? ⟨w.heap.size, 0, none⟩ = some (.pointer (some ⟨a, 0, none⟩)) :=
        fun y h => ⟨(h.cell (p := ⟨N, 0, none⟩) lP).trans s0, (h.cell (p := ⟨N, 1, none⟩) lP).trans s1, (h.cell (p := ⟨N, 2, none⟩) lP).trans s2, (h.cell (p := ⟨w.heap.size, 0, none⟩) lB).trans s3⟩
      have d0 : Below w3.heap.size w3 w3.drew := (Below.refl _ w3).drew
      have h3d := h3.after d0
      go_region_held3 (fun y => y.cell? ⟨N, 0, none⟩ = some (.int .i64 pf) ∧ y.cell? ⟨N, 1, none⟩ = some (.int .i64 pi) ∧ y.cell? ⟨N, 2, none⟩ = some (.bool false) ∧ y.cell? ⟨w.heap.size, 0, none⟩ = some (.pointer (some ⟨a, 0, none⟩))) (first | exact kS _ d0 | (refine kS _ ?_; assumption) | (simp only [cell_drew', cell_other hPR, cell_other hBR]; refine kS _ ?_; assumption))
        (first
          | (go_at_call 69; (with_reducible refine (FR _ h3d).mono ?_); rintro e w' ⟨rfl, hx5⟩; have hB9 := d0.trans (hx5.mono d0.size); have hR8 := (hB9.block _ (lt_of_block hR3)).trans hR3; have g0 := cell_of hR8 0; have g1 := cell_of hR8 1; have g2 := cell_of hR8 2; have fr := frozen_of hR8; have lR := lt_of_block hR8; dsimp at g0 g1 g2))
      all_goals
        go_wp2
        have hw8 := hw3.trans (hB9.mono hw3.size)
        have hF := heap_set (o := 2) (heap_set (o := 1) (heap_set (o := 0) hR8 (.int .i64 pf)) (.int .i64 pi)) (.bool false)
        have hwF := ((hw8.setCell (p := ⟨w.heap.size + 1, 0, none⟩) (Nat.le_succ _) (.int .i64 pf)).setCell (p := ⟨w.heap.size + 1, 1, none⟩) (Nat.le_succ _) (.int .i64 pi)).setCell (p := ⟨w.heap.size + 1, 2, none⟩) (Nat.le_succ _) (.bool false)
        refine bodyPost_ret (v := .tuple #[.agg #[.int .i64 pf, .int .i64 pi, .bool false], .int .i64 FE]) ?_ rfl ⟨rfl, hwF⟩
        have hc := cell_of hF
        simp [results, Try.f72, go_sem, hc]
    · simp only [if_true]
      clear FR
      go_enter Try.func72, Try.ntmps72
      go_wp2_with ((go_at_call 102; (with_reducible refine (WK _ h1).mono ?_); rintro e w' ⟨rfl, hx⟩); have hw2 := hw0.trans (hx.mono hw0.size); have hR2 := (hx.block _ (lt_of_block hR)).trans hR; have g0 := cell_of hR2 0; have g1 := cell_of hR2 1; have g2 := cell_of hR2 2; have fr := frozen_of hR2; have lR := lt_of_block hR2; dsimp at g0 g1 g2)
      have hF := heap_set (o := 2) (heap_set (o := 1) (heap_set (o := 0) hR2 (.int .i64 0)) (.int .i64 0)) (.bool false)
      have hwF := ((hw2.setCell (p := ⟨w.heap.size + 1, 0, none⟩) (Nat.le_succ _) (.int .i64 0)).setCell (p := ⟨w.heap.size + 1, 1, none⟩) (Nat.le_succ _) (.int .i64 0)).setCell (p := ⟨w.heap.size + 1, 2, none⟩) (Nat.le_succ _) (.bool false)
      refine bodyPost_ret (v := .tuple #[PlaceS.zero.v, .int .i64 6]) ?_ rfl ⟨rfl, hwF.alloc hwF.size _⟩
      have hc2 := cell_of (heap_alloc hF (.cells #[.int .i64 pf, .int .i64 pi, .bool true] 121 (0, 0)))
      simp [results, Try.f72, go_sem, hc2, PlaceS.zero, PlaceS.v]
  · simp only [hE, if_false]
    have hE2 : (E == 0) = false := by simpa using hE
    clear FR
    go_enter Try.func72, Try.ntmps72
    go_wp2_with ((go_at_call 102; (with_reducible refine (WK _ h1).mono ?_); rintro e w' ⟨rfl, hx⟩); have hw2 := hw0.trans (hx.mono hw0.size); have hR2 := (hx.block _ (lt_of_block hR)).trans hR; have g0 := cell_of hR2 0; have g1 := cell_of hR2 1; have g2 := cell_of hR2 2; have fr := frozen_of hR2; have lR := lt_of_block hR2; dsimp at g0 g1 g2)
    have hF := heap_set (o := 2) (heap_set (o := 1) (heap_set (o := 0) hR2 (.int .i64 0)) (.int .i64 0)) (.bool false)
    have hwF := ((hw2.setCell (p := ⟨w.heap.size + 1, 0, none⟩) (Nat.le_succ _) (.int .i64 0)).setCell (p := ⟨w.heap.size + 1, 1, none⟩) (Nat.le_succ _) (.int .i64 0)).setCell (p := ⟨w.heap.size + 1, 2, none⟩) (Nat.le_succ _) (.bool false)
    refine bodyPost_ret (v := .tuple #[PlaceS.zero.v, .int .i64 E]) ?_ rfl ⟨rfl, hwF.alloc hwF.size _⟩
    have hc2 := cell_of (heap_alloc hF (.cells #[.int .i64 pf, .int .i64 pi, .bool pz] 121 (0, 0)))
    simp [results, Try.f72, go_sem, hc2, PlaceS.zero, PlaceS.v]
end Go.Proofs.Ytejdfdllgobnhaa
