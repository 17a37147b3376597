/- Budgets (package tcap): a budget of nothing is made. -/
import Derived.Test.YtmahledpcpdldaaGreatGHead
import Derived.Test.YtmahledpcpdldaaGreatHeadIs
import Derived.Deep.DeepCutAuto
import Derived.Deep.Cut
import Derived.Deep.CutBlock
set_option linter.unusedVariables false
set_option linter.unusedSimpArgs false
namespace Go.Proofs.YtmahledpcpdldaaGreat
open Go.RowKit
theorem tcap_in (n a b : Int) (w : World) : Calls Tryz.prog 273 #[.int .i64 n, .int .i64 a, .int .i64 b] w fun e w' => e = .returned (.bool (decide (a ≤ n) && decide (n ≤ b))) ∧ w = w' := by
  by_cases h1 : a ≤ n
  · by_cases h2 : n ≤ b
    · go_enter Tryz.func273, Tryz.ntmps273
      go_wp2
      go_ret
      exact ⟨ret_bool (by simp [h1, h2]), rfl⟩
    · go_enter Tryz.func273, Tryz.ntmps273
      go_wp2
      go_ret
      exact ⟨ret_bool (by simp [h1, h2]), rfl⟩
  · go_enter Tryz.func273, Tryz.ntmps273
    go_wp2
    go_ret
    exact ⟨ret_bool (by simp; omega), rfl⟩
theorem tcap_right0 (w : World) : Calls Tryz.prog 234 #[.agg #[.bool false, .int .i64 0, .int .i64 0]] w fun e w' => e = .returned (.bool true) ∧ Below w.heap.size w w' := by
  have I1 : ∀ w, Calls Tryz.prog 273 #[.int .i64 0, .int .i64 0, .int .i64 1048576] w fun e w' => e = .returned (.bool true) ∧ w = w' := fun w => tcap_in 0 0 1048576 w
  have I2 : ∀ w, Calls Tryz.prog 273 #[.int .i64 0, .int .i64 0, .int .i64 255] w fun e w' => e = .returned (.bool true) ∧ w = w' := fun w => tcap_in 0 0 255 w
  go_enter Tryz.func234, Tryz.ntmps234
  go_wp2_with (first | (go_at_call 273; (with_reducible refine (I1 _).mono ?_); rintro e w' ⟨rfl, rfl⟩) | (go_at_call 273; (with_reducible refine (I2 _).mono ?_); rintro e w' ⟨rfl, rfl⟩))
  go_ret
  exact ⟨rfl, by (refine Touch.below0 ?_; (repeat' (first | (with_reducible exact Touch.refl _ _) | (with_reducible assumption) | (with_reducible refine Touch.drew ?_) | (with_reducible refine Touch.drewN ?_ _) | (with_reducible refine Touch.alloc ?_ _) | (with_reducible refine Touch.setCell ?_ _ _ _ ?_) | (with_reducible refine Touch.step (by assumption) ?_) | (with_reducible refine Touch.stepT (by assumption) ?_ ?_) | (intro _; first | rfl | trivial | omega | (simp; done) | (simp; omega)) | (intro _ _; first | omega | (simp; done) | (simp; omega)))))⟩
set_option maxHeartbeats 2000000 in
set_option maxRecDepth 100000 in
theorem tcap_numbers0 (w : World) : Calls Tryz.prog 274 #[.agg #[.bool false, .int .i64 0, .int .i64 0]] w fun e w' => e = .returned (.agg #[.int .i64 0, .int .i64 0, .int .i64 0]) ∧ Below w.heap.size w w' := by
  have hB : Below w.heap.size w (((w.alloc (.cells #[.bool false, .int .i64 0, .int .i64 0] 232 (0, 0)))).alloc (.cells #[.int .i64 0, .int .i64 0, .int .i64 0] 350 (0, 0))) := by (refine Touch.below0 ?_; (repeat' (first | (with_reducible exact Touch.refl _ _) | (with_reducible assumption) | (with_reducible refine Touch.drew ?_) | (with_reducible refine Touch.drewN ?_ _) | (with_reducible refine Touch.alloc ?_ _) | (with_reducible refine Touch.setCell ?_ _ _ _ ?_) | (with_reducible refine Touch.step (by assumption) ?_) | (with_reducible refine Touch.stepT (by assumption) ?_ ?_) | (intro _; first | rfl | trivial | omega | (simp; done) | (simp; omega)) | (intro _ _; first | omega | (simp; done) | (simp; omega)))))
  have hp : (((w.alloc (.cells #[.bool false, .int .i64 0, .int .i64 0] 232 (0, 0)))).alloc (.cells #[.int .i64 0, .int .i64 0, .int .i64 0] 350 (0, 0))).heap[w.heap.size]? = some (.cells #[.bool false, .int .i64 0, .int .i64 0] 232 (0, 0)) := heap_alloc (heap_new _ _) _
  have hq : (((w.alloc (.cells #[.bool false, .int .i64 0, .int .i64 0] 232 (0, 0)))).alloc (.cells #[.int .i64 0, .int .i64 0, .int .i64 0] 350 (0, 0))).heap[w.heap.size + 1]? = some (.cells #[.int .i64 0, .int .i64 0, .int .i64 0] 350 (0, 0)) := heap_new' (by simp) _
  go_enter Tryz.func274, Tryz.ntmps274
  go_upto_region 1 with (fail)
  generalize ((w.alloc (.cells #[.bool false, .int .i64 0, .int .i64 0] 232 (0, 0)))).alloc (.cells #[.int .i64 0, .int .i64 0, .int .i64 0] 350 (0, 0)) = wa at *
  have g0 := cell_of hp 0; have g1 := cell_of hp 1; have g2 := cell_of hp 2
  have q0 := cell_of hq 0; have q1 := cell_of hq 1; have q2 := cell_of hq 2
  have fq := frozen_of hq
  dsimp at g0 g1 g2 q0 q1 q2
  go_wp2
  ((try simp only [Exit.inBlock, Exit.then]); refine bodyPost_ret (results_cell_row rfl _ _ (w.heap.size + 1) 350 #[.int .i64 0, .int .i64 0, .int .i64 0] (0, 0) _ rfl ?_ Tryz.underlying350 rfl (by kernel_rfl)) rfl ?_)
  · exact heap_set (heap_set (heap_set hq _) _) _
  exact ⟨rfl, ((hB.setCell (p := ⟨w.heap.size + 1, 0, none⟩) (Nat.le_succ _) _).setCell (p := ⟨w.heap.size + 1, 1, none⟩) (Nat.le_succ _) _).setCell (p := ⟨w.heap.size + 1, 2, none⟩) (Nat.le_succ _) _⟩
def lay0 (m : MemS) (f : Int) : Nat → MemS
  | 0 => m
  | k + 1 => (lay0 m f k).store f (4 + k) 0
theorem lay0_ok {m : MemS} (ok : m.Ok) (f : Int) : ∀ k, (lay0 m f k).Ok
  | 0 => ok
  | k + 1 => MemS.store_ok (lay0_ok ok f k) f _ (by decide) (by decide)
theorem lay0_n (m : MemS) (f : Int) : ∀ k, (lay0 m f k).n = m.n
  | 0 => rfl
  | k + 1 => (show ((lay0 m f k).store f (4 + k) 0).n = m.n by rw [← lay0_n m f k]; unfold MemS.store; split <;> rfl)
theorem Tryz.ix0 (a b c : Int) (w : World) : (Instr.index 350 (.agg #[.int .i64 a, .int .i64 b, .int .i64 c]) (.int .i64 0)).run Tryz.prog w = .ok (.int .i64 a) w := by kernel_rfl
theorem Tryz.ix1 (a b c : Int) (w : World) : (Instr.index 350 (.agg #[.int .i64 a, .int .i64 b, .int .i64 c]) (.int .i64 1)).run Tryz.prog w = .ok (.int .i64 b) w := by kernel_rfl
theorem Tryz.ix2 (a b c : Int) (w : World) : (Instr.index 350 (.agg #[.int .i64 a, .int .i64 b, .int .i64 c]) (.int .i64 2)).run Tryz.prog w = .ok (.int .i64 c) w := by kernel_rfl
attribute [local go_sem] Tryz.ix0 Tryz.ix1 Tryz.ix2
set_option maxHeartbeats 1000000 in
set_option maxRecDepth 100000 in
theorem tcap_lay0 (a g : Nat) (m : MemS) (f : Int) (w : World) (h : MemIs w a g m) (ok : m.Ok) (hf : m.has f = true) : Calls Tryz.prog 235 #[.pointer (some ⟨a, 0, none⟩), .int .i64 f, .agg #[.bool false, .int .i64 0, .int .i64 0]] w fun e w' =>
    e = .returned (.int .i64 0) ∧ MemIs w' a g (lay0 m f 3) ∧ Touch (· = g) w w' := by
  have hcan : ∀ (k : Nat) (i : Int), 0 ≤ i → i < 36 → (lay0 m f k).can f i = 0 := fun k i h0 h1 => MemS.can_in (by unfold MemS.has; rw [lay0_n]; exact hf) h0 h1
  have L0 := fun w h => store_of a g (lay0 m f 0) f 4 0 0 w h (lay0_ok ok f 0) (hcan 0 4 (by decide) (by decide))
  have L1 := fun w h => store_of a g (lay0 m f 1) f 5 0 0 w h (lay0_ok ok f 1) (hcan 1 5 (by decide) (by decide))
  have L2 := fun w h => store_of a g (lay0 m f 2) f 6 0 0 w h (lay0_ok ok f 2) (hcan 2 6 (by decide) (by decide))
  obtain ⟨M, hM⟩ : ∃ M : Nat → MemS, M = lay0 m f := ⟨_, rfl⟩
  have N0 : ∀ {w}, MemIs w a g ((M 0).store f 4 0) → MemIs w a g (M 1) := fun h => by rw [hM] at h ⊢; exact h
  have N1 : ∀ {w}, MemIs w a g ((M 1).store f 5 0) → MemIs w a g (M 2) := fun h => by rw [hM] at h ⊢; exact h
  have N2 : ∀ {w}, MemIs w a g ((M 2).store f 6 0) → MemIs w a g (M 3) := fun h => by rw [hM] at h ⊢; exact h
  have hM0 : MemIs w a g (M 0) := by rw [hM]; exact h
  rw [← hM] at L0 L1 L2 ⊢
  clear hcan hM h ok hf
  have hw0 : Below w.heap.size w (w.alloc (.cells #[.bool false, .int .i64 0, .int .i64 0] 232 (0, 0))) := by (refine Touch.below0 ?_; (repeat' (first | (with_reducible exact Touch.refl _ _) | (with_reducible assumption) | (with_reducible refine Touch.drew ?_) | (with_reducible refine Touch.drewN ?_ _) | (with_reducible refine Touch.alloc ?_ _) | (with_reducible refine Touch.setCell ?_ _ _ _ ?_) | (with_reducible refine Touch.step (by assumption) ?_) | (with_reducible refine Touch.stepT (by assumption) ?_ ?_) | (intro _; first | rfl | trivial | omega | (simp; done) | (simp; omega)) | (intro _ _; first | omega | (simp; done) | (simp; omega)))))
  go_enter Tryz.func235, Tryz.ntmps235
  go_upto_block 0 with ((go_at_call 274; (with_reducible refine (tcap_numbers0 _).mono ?_); rintro e w' ⟨rfl, hx⟩); have hw2 := hw0.trans (hx.mono hw0.size))
  obtain ⟨w2, rfl⟩ : ∃ y : World, y = w' := ⟨_, rfl⟩
  have h2 := hM0.after hw2
  have ht2 : Touch (· = g) w w2 := Touch.of_below hw2
  clear hx hM0 hw0 hw2
  go_wp2
  go_loopw [12] (fun i wr => ∃ k : Nat, k ≤ 3 ∧ i = .int .i64 k ∧ MemIs wr a g (M k) ∧ Touch (· = g) w wr) (fun i _ => 3 - (intOf i).toNat)
  case atStart => exact ⟨0, by omega, rfl, h2, ht2⟩
  case round =>
    obtain ⟨k, hk, rfl, hm, ht⟩ := hrel
    clear h2 ht2
    match k, hk with
    | 0, _ =>
      go_wp2_with ((go_at_call 88; (with_reducible refine (L0 _ hm).mono ?_); rintro e w' ⟨rfl, hm2, ht2⟩))
      go_roundw
      case rel => exact ⟨1, by omega, rfl, N0 hm2, ht.trans ht2⟩
      case measure => decide
    | 1, _ =>
      go_wp2_with ((go_at_call 88; (with_reducible refine (L1 _ hm).mono ?_); rintro e w' ⟨rfl, hm2, ht2⟩))
      go_roundw
      case rel => exact ⟨2, by omega, rfl, N1 hm2, ht.trans ht2⟩
      case measure => decide
    | 2, _ =>
      go_wp2_with ((go_at_call 88; (with_reducible refine (L2 _ hm).mono ?_); rintro e w' ⟨rfl, hm2, ht2⟩))
      go_roundw
      case rel => exact ⟨3, by omega, rfl, N2 hm2, ht.trans ht2⟩
      case measure => decide
    | 3, _ =>
      go_wp2
      go_ret
      exact ⟨rfl, hm, ht⟩
    | k + 4, hk => omega
def MemS.tz (m : MemS) (f : Int) : MemS := lay0 (m.make f ⟨5, 0, false, 0⟩) f 3
theorem tcap_make0 (a g : Nat) (m : MemS) (f : Int) (w : World) (h : MemIs w a g m) (ok : m.Ok) (hf : m.has f = true) (okM : (m.make f ⟨5, 0, false, 0⟩).Ok) (hn : (m.make f ⟨5, 0, false, 0⟩).n = m.n) : Calls Tryz.prog 159 #[.pointer (some ⟨a, 0, none⟩), .int .i64 f, .agg #[.bool false, .int .i64 0, .int .i64 0]] w fun e w' =>
    e = .returned (.int .i64 0) ∧ MemIs w' a g (m.tz f) ∧ Touch (· = g) w w' := by
  have MK : ∀ w, MemIs w a g m → Calls Tryz.prog 116 #[.pointer (some ⟨a, 0, none⟩), .int .i64 f, .agg #[.int .i64 5, .int .i64 0, .bool false, .int .i64 0]] w fun e w' => e = .returned (.int .i64 0) ∧ MemIs w' a g (m.make f ⟨5, 0, false, 0⟩) ∧ Touch (· = g) w w' := fun w h => by
    have := head_make a g m f ⟨5, 0, false, 0⟩ w h ok
    rwa [show headOk m f ⟨5, 0, false, 0⟩ = true by unfold headOk; rw [hf]; rfl, if_pos rfl] at this
  have LY := fun w h => tcap_lay0 a g (m.make f ⟨5, 0, false, 0⟩) f w h okM (by unfold MemS.has; rw [hn]; exact hf)
  have hw0 : Below w.heap.size w (w.alloc (.cells #[.bool false, .int .i64 0, .int .i64 0] 232 (0, 0))) := by (refine Touch.below0 ?_; (repeat' (first | (with_reducible exact Touch.refl _ _) | (with_reducible assumption) | (with_reducible refine Touch.drew ?_) | (with_reducible refine Touch.drewN ?_ _) | (with_reducible refine Touch.alloc ?_ _) | (with_reducible refine Touch.setCell ?_ _ _ _ ?_) | (with_reducible refine Touch.step (by assumption) ?_) | (with_reducible refine Touch.stepT (by assumption) ?_ ?_) | (intro _; first | rfl | trivial | omega | (simp; done) | (simp; omega)) | (intro _ _; first | omega | (simp; done) | (simp; omega)))))
  have hx0 := heap_new w (.cells #[.bool false, .int .i64 0, .int .i64 0] 232 (0, 0))
  have hg := h.ltg
  unfold MemS.tz
  generalize m.make f ⟨5, 0, false, 0⟩ = M1 at *
  generalize lay0 M1 f 3 = M2 at *
  go_enter Tryz.func159, Tryz.ntmps159
  go_upto_region 1 with (fail)
  generalize w.alloc (.cells #[.bool false, .int .i64 0, .int .i64 0] 232 (0, 0)) = W at *
  have x0 := cell_of hx0 0; have x1 := cell_of hx0 1; have x2 := cell_of hx0 2
  dsimp at x0 x1 x2
  go_wp2_with (first
    | ((go_at_call 234; (with_reducible refine (tcap_right0 _).mono ?_); rintro e w' ⟨rfl, hb1⟩); have hw1 := hw0.trans (hb1.mono hw0.size); have hx1 := (hb1.block _ (lt_of_block hx0)).trans hx0; have hm := h.after hw1)
    | ((go_at_call 116; (with_reducible refine (MK _ hm).mono ?_); rintro e w' ⟨rfl, hm2, ht⟩); have hx2 := ht.at hx1 (by omega); have x0 := cell_of hx2 0; have x1 := cell_of hx2 1; have x2 := cell_of hx2 2; dsimp at x0 x1 x2)
    | ((go_at_call 235; (with_reducible refine (LY _ hm2).mono ?_); rintro e w' ⟨rfl, hm3, ht3⟩)))
  go_ret
  exact ⟨rfl, hm3, ((Touch.of_below hw1).trans ht).trans ht3⟩
end Go.Proofs.YtmahledpcpdldaaGreat
