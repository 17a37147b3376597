/- The reference's heads: Put, Make. -/
import Derived.Test.YtejdfdllgobnhaaGreatR10
set_option linter.unusedVariables false
set_option linter.unusedSimpArgs false
namespace Go.Proofs.YtejdfdllgobnhaaGreat
open Go.RowKit
set_option maxHeartbeats 4000000 in
set_option maxRecDepth 100000 in
theorem r10_put (B : RMB) (m : MemS) (f : Int) (hd : HeadS) (w : World) (h : RMemIs w B m) (ok : m.Ok) : Calls Tryz.prog 167 #[.pointer (some ⟨B.v, 0, none⟩), .int .i64 f, hd.v] w fun e w' =>
    e = .returned (.int .i64 (if headOk m f hd then 0 else 1)) ∧ RMemIs w' B (m.head f hd) ∧ Touch (B.own m.n) w w' := by
  have hR := r10_right hd
  have IS := fun w h => r2_is B m f w h
  unfold MemS.head
  cases hr : hd.right
  · have e1 : headOk m f hd = false := by unfold headOk; rw [hr]; rfl
    simp only [e1, Bool.false_eq_true, if_false]
    rw [hr] at hR
    clear e1 hr
    obtain ⟨k, lv, fz, tm⟩ := hd
    unfold HeadS.v at *
    dsimp only at *
    have hw0 : Below w.heap.size w (w.alloc (.cells #[.int .i64 k, .int .i64 lv, .bool fz, .int .i64 tm] 195 (0, 0))) := by (refine Touch.below0 ?_; (repeat' (first | (with_reducible exact Touch.refl _ _) | (with_reducible assumption) | (with_reducible refine Touch.drew ?_) | (with_reducible refine Touch.drewN ?_ _) | (with_reducible refine Touch.alloc ?_ _) | (with_reducible refine Touch.setCell ?_ _ _ _ ?_) | (with_reducible refine Touch.step (by assumption) ?_) | (with_reducible refine Touch.stepT (by assumption) ?_ ?_) | (intro _; first | rfl | trivial | omega | (simp; done) | (simp; omega)) | (intro _ _; first | omega | (simp; done) | (simp; omega)))))
    go_enter Tryz.func167, Tryz.ntmps167
    go_wp2_with ((go_at_call 208; (with_reducible refine (hR _).mono ?_); rintro e w' ⟨rfl, hx⟩))
    go_ret
    have hb := hw0.trans (hx.mono hw0.size)
    exact ⟨rfl, h.after hb, Touch.of_below hb⟩
  cases hf : m.has f
  · have e1 : headOk m f hd = false := by unfold headOk; rw [hf]; simp
    simp only [e1, Bool.false_eq_true, if_false]
    rw [hr] at hR
    rw [hf] at IS
    clear e1 hr hf
    obtain ⟨k, lv, fz, tm⟩ := hd
    unfold HeadS.v at *
    dsimp only at *
    have hw0 : Below w.heap.size w (w.alloc (.cells #[.int .i64 k, .int .i64 lv, .bool fz, .int .i64 tm] 195 (0, 0))) := by (refine Touch.below0 ?_; (repeat' (first | (with_reducible exact Touch.refl _ _) | (with_reducible assumption) | (with_reducible refine Touch.drew ?_) | (with_reducible refine Touch.drewN ?_ _) | (with_reducible refine Touch.alloc ?_ _) | (with_reducible refine Touch.setCell ?_ _ _ _ ?_) | (with_reducible refine Touch.step (by assumption) ?_) | (with_reducible refine Touch.stepT (by assumption) ?_ ?_) | (intro _; first | rfl | trivial | omega | (simp; done) | (simp; omega)) | (intro _ _; first | omega | (simp; done) | (simp; omega)))))
    have h1 := h.after hw0
    go_enter Tryz.func167, Tryz.ntmps167
    go_wp2_with (first | ((go_at_call 208; (with_reducible refine (hR _).mono ?_); rintro e w' ⟨rfl, hx⟩); have h2 := h1.after hx) | (go_at_call 158; (with_reducible refine (IS _ h2).mono ?_); rintro e w' ⟨rfl, rfl⟩))
    go_ret
    have hb := hw0.trans (hx.mono hw0.size)
    exact ⟨rfl, h.after hb, Touch.of_below hb⟩
  have e1 : headOk m f hd = true := by unfold headOk; rw [hr, hf]; rfl
  simp only [e1, if_true]
  obtain ⟨⟨k0, k6⟩, ⟨l0, l1⟩, ⟨t0, t1⟩⟩ := HeadS.bounds hr
  have HOK := MemS.hk_ok ok f hr
  have CAN : ∀ j : Nat, j < 4 → (m.hk f hd j).can f j = 0 := fun j hj => MemS.can_in (by unfold MemS.has; rw [MemS.hk_n]; exact hf) (by omega) (by omega)
  have S0 := fun w h => rstore_of B (m.hk f hd 0) f 0 (hd.wk 0) 0 w h (HOK 0) (CAN 0 (by omega))
  have S1 := fun w h => rstore_of B (m.hk f hd 1) f 1 (hd.wk 1) 0 w h (HOK 1) (CAN 1 (by omega))
  have S2 := fun w h => rstore_of B (m.hk f hd 2) f 2 (hd.wk 2) 0 w h (HOK 2) (CAN 2 (by omega))
  have S3 := fun w h => rstore_of B (m.hk f hd 3) f 3 (hd.wk 3) 0 w h (HOK 3) (CAN 3 (by omega))
  rw [MemS.hk_n] at S0 S1 S2 S3
  change ∀ w, RMemIs w B m → Calls _ _ _ w fun e' w' => _ ∧ RMemIs w' B (m.hk f hd 1) ∧ _ at S0
  change ∀ w, RMemIs w B (m.hk f hd 1) → Calls _ _ _ w fun e' w' => _ ∧ RMemIs w' B (m.hk f hd 2) ∧ _ at S1
  change ∀ w, RMemIs w B (m.hk f hd 2) → Calls _ _ _ w fun e' w' => _ ∧ RMemIs w' B (m.hk f hd 3) ∧ _ at S2
  change ∀ w, RMemIs w B (m.hk f hd 3) → Calls _ _ _ w fun e' w' => _ ∧ RMemIs w' B (m.hk f hd 4) ∧ _ at S3
  rw [show hd.wk 1 = hd.tm from rfl] at S1
  rw [show hd.wk 2 = 0 from rfl] at S2
  rw [show hd.wk 3 = 0 from rfl] at S3
  have W0 : hd.wk 0 = hd.k + hd.lv * 16 + (frz hd.fz) * 32 := by
    show hd.k + hd.lv * 16 + (if hd.fz then 32 else 0) = _
    unfold frz; cases hd.fz <;> simp
  rw [W0] at S0
  rw [hr] at hR
  rw [hf] at IS
  generalize m.hk f hd 4 = m4 at *
  generalize m.hk f hd 3 = m3 at *
  generalize m.hk f hd 2 = m2 at *
  generalize m.hk f hd 1 = m1 at *
  clear e1 hr hf HOK CAN W0
  obtain ⟨k, lv, fz, tm⟩ := hd
  unfold HeadS.v at *
  dsimp only at *
  have hfz := frz_b fz
  have PK := fun bn bv w => r10_pack k lv (frz fz) bn bv w ⟨k0, k6⟩ ⟨l0, l1⟩ hfz
  generalize hFZ : frz fz = FZ at *
  generalize k + lv * 16 + FZ * 32 = WW at *
  have wk : IntKind.u64.wrap k = k := by rw [IntKind.wrap_u64]; omega
  have wl : IntKind.u64.wrap lv = lv := by rw [IntKind.wrap_u64]; omega
  have wt : IntKind.u64.wrap tm = tm := by rw [IntKind.wrap_u64]; omega
  have hw0 : Below w.heap.size w (w.alloc (.cells #[.int .i64 k, .int .i64 lv, .bool fz, .int .i64 tm] 195 (0, 0))) := by (refine Touch.below0 ?_; (repeat' (first | (with_reducible exact Touch.refl _ _) | (with_reducible assumption) | (with_reducible refine Touch.drew ?_) | (with_reducible refine Touch.drewN ?_ _) | (with_reducible refine Touch.alloc ?_ _) | (with_reducible refine Touch.setCell ?_ _ _ _ ?_) | (with_reducible refine Touch.step (by assumption) ?_) | (with_reducible refine Touch.stepT (by assumption) ?_ ?_) | (intro _; first | rfl | trivial | omega | (simp; done) | (simp; omega)) | (intro _ _; first | omega | (simp; done) | (simp; omega)))))
  have hb0 := heap_new w (.cells #[.int .i64 k, .int .i64 lv, .bool fz, .int .i64 tm] 195 (0, 0))
  have h1 := h.after hw0
  have hown : ∀ x, w.heap.size ≤ x → ¬ B.own m.n x := fun x hx ⟨j, hj, e⟩ => by have := (h.rows j hj).lt; omega
  cases fz
  · obtain rfl := hFZ
    unfold frz at PK
    simp only [if_true, if_false, Bool.false_eq_true] at PK
    go_enter Tryz.func167, Tryz.ntmps167
    go_upto_region 8 with (first
      | ((go_at_call 208; (with_reducible refine (hR _).mono ?_); rintro e w' ⟨rfl, hx⟩); have h2 := h1.after hx; have hw2 := hw0.trans (hx.mono hw0.size); have hb2 := (hx.block _ (lt_of_block hb0)).trans hb0; have g0 := cell_of hb2 0; have g1 := cell_of hb2 1; have g2 := cell_of hb2 2; have g3 := cell_of hb2 3; dsimp at g0 g1 g2 g3)
      | (go_at_call 158; (with_reducible refine (IS _ h2).mono ?_); rintro e w' ⟨rfl, rfl⟩))
    have n1 : ((w'.alloc (.cells #[.int .i64 4, .int .i64 1, .int .i64 1] 3 (0, 0))).alloc (.cells #[.int .u64 k, .int .u64 lv, .int .u64 0] 117 (0, 0))).heap[w'.heap.size]? = some (.cells #[.int .i64 4, .int .i64 1, .int .i64 1] 3 (0, 0)) := heap_alloc (heap_new _ _) _
    have v1 : ((w'.alloc (.cells #[.int .i64 4, .int .i64 1, .int .i64 1] 3 (0, 0))).alloc (.cells #[.int .u64 k, .int .u64 lv, .int .u64 0] 117 (0, 0))).heap[w'.heap.size + 1]? = some (.cells #[.int .u64 k, .int .u64 lv, .int .u64 0] 117 (0, 0)) := heap_new' (by simp) _
    have dA : Below w'.heap.size w' ((w'.alloc (.cells #[.int .i64 4, .int .i64 1, .int .i64 1] 3 (0, 0))).alloc (.cells #[.int .u64 k, .int .u64 lv, .int .u64 0] 117 (0, 0))) := by (refine Touch.below0 ?_; (repeat' (first | (with_reducible exact Touch.refl _ _) | (with_reducible assumption) | (with_reducible refine Touch.drew ?_) | (with_reducible refine Touch.drewN ?_ _) | (with_reducible refine Touch.alloc ?_ _) | (with_reducible refine Touch.setCell ?_ _ _ _ ?_) | (with_reducible refine Touch.step (by assumption) ?_) | (with_reducible refine Touch.stepT (by assumption) ?_ ?_) | (intro _; first | rfl | trivial | omega | (simp; done) | (simp; omega)) | (intro _ _; first | omega | (simp; done) | (simp; omega)))))
    have hbA := heap_alloc hb2 (.cells #[.int .i64 4, .int .i64 1, .int .i64 1] 3 (0, 0))
    have q0 := cell_of hbA 0; have q1 := cell_of hbA 1
    dsimp at q0 q1
    obtain ⟨wq, hwq⟩ : ∃ x : World, x = w' := ⟨_, rfl⟩
    subst hwq
    go_wp2_with (first
      | ((go_at_call 224; (with_reducible refine (PK _ _ _ n1 v1).mono ?_); rintro e w' ⟨rfl, hx⟩); have h3 := (h2.after dA).after hx; have hw3 := (hw2.trans (dA.mono hw2.size)); have hw3 := hw3.trans (hx.mono hw3.size); have hb3 := (hx.block _ (lt_of_block ((dA.block _ (lt_of_block hb2)).trans hb2))).trans ((dA.block _ (lt_of_block hb2)).trans hb2); have hT := Touch.of_below (S := B.own m.n) hw3)
      | ((go_at_call 54; (with_reducible refine (S0 _ h3).mono ?_); rintro e w' ⟨rfl, h4, ht⟩); have hT := hT.trans ht; have hb3 := ht.at hb3 (hown _ (Nat.le_refl _)); have q3 := cell_of hb3 3; dsimp at q3)
      | ((go_at_call 54; (with_reducible refine (S1 _ h4).mono ?_); rintro e w' ⟨rfl, h5, ht⟩); have hT := hT.trans ht)
      | ((go_at_call 54; (with_reducible refine (S2 _ h5).mono ?_); rintro e w' ⟨rfl, h6, ht⟩); have hT := hT.trans ht)
      | ((go_at_call 54; (with_reducible refine (S3 _ h6).mono ?_); rintro e w' ⟨rfl, h7, ht⟩); have hT := hT.trans ht))
    go_ret
    exact ⟨rfl, h7, hT⟩
  · obtain rfl := hFZ
    unfold frz at PK
    simp only [if_true, if_false, Bool.false_eq_true] at PK
    go_enter Tryz.func167, Tryz.ntmps167
    go_upto_region 8 with (first
      | ((go_at_call 208; (with_reducible refine (hR _).mono ?_); rintro e w' ⟨rfl, hx⟩); have h2 := h1.after hx; have hw2 := hw0.trans (hx.mono hw0.size); have hb2 := (hx.block _ (lt_of_block hb0)).trans hb0; have g0 := cell_of hb2 0; have g1 := cell_of hb2 1; have g2 := cell_of hb2 2; have g3 := cell_of hb2 3; dsimp at g0 g1 g2 g3)
      | (go_at_call 158; (with_reducible refine (IS _ h2).mono ?_); rintro e w' ⟨rfl, rfl⟩))
    have n1 : ((w'.alloc (.cells #[.int .i64 4, .int .i64 1, .int .i64 1] 3 (0, 0))).alloc (.cells #[.int .u64 k, .int .u64 lv, .int .u64 1] 117 (0, 0))).heap[w'.heap.size]? = some (.cells #[.int .i64 4, .int .i64 1, .int .i64 1] 3 (0, 0)) := heap_alloc (heap_new _ _) _
    have v1 : ((w'.alloc (.cells #[.int .i64 4, .int .i64 1, .int .i64 1] 3 (0, 0))).alloc (.cells #[.int .u64 k, .int .u64 lv, .int .u64 1] 117 (0, 0))).heap[w'.heap.size + 1]? = some (.cells #[.int .u64 k, .int .u64 lv, .int .u64 1] 117 (0, 0)) := heap_new' (by simp) _
    have dA : Below w'.heap.size w' ((w'.alloc (.cells #[.int .i64 4, .int .i64 1, .int .i64 1] 3 (0, 0))).alloc (.cells #[.int .u64 k, .int .u64 lv, .int .u64 1] 117 (0, 0))) := by (refine Touch.below0 ?_; (repeat' (first | (with_reducible exact Touch.refl _ _) | (with_reducible assumption) | (with_reducible refine Touch.drew ?_) | (with_reducible refine Touch.drewN ?_ _) | (with_reducible refine Touch.alloc ?_ _) | (with_reducible refine Touch.setCell ?_ _ _ _ ?_) | (with_reducible refine Touch.step (by assumption) ?_) | (with_reducible refine Touch.stepT (by assumption) ?_ ?_) | (intro _; first | rfl | trivial | omega | (simp; done) | (simp; omega)) | (intro _ _; first | omega | (simp; done) | (simp; omega)))))
    have hbA := heap_alloc hb2 (.cells #[.int .i64 4, .int .i64 1, .int .i64 1] 3 (0, 0))
    have q0 := cell_of hbA 0; have q1 := cell_of hbA 1
    dsimp at q0 q1
    obtain ⟨wq, hwq⟩ : ∃ x : World, x = w' := ⟨_, rfl⟩
    subst hwq
    go_wp2_with (first
      | ((go_at_call 224; (with_reducible refine (PK _ _ _ n1 v1).mono ?_); rintro e w' ⟨rfl, hx⟩); have h3 := (h2.after dA).after hx; have hw3 := (hw2.trans (dA.mono hw2.size)); have hw3 := hw3.trans (hx.mono hw3.size); have hb3 := (hx.block _ (lt_of_block ((dA.block _ (lt_of_block hb2)).trans hb2))).trans ((dA.block _ (lt_of_block hb2)).trans hb2); have hT := Touch.of_below (S := B.own m.n) hw3)
      | ((go_at_call 54; (with_reducible refine (S0 _ h3).mono ?_); rintro e w' ⟨rfl, h4, ht⟩); have hT := hT.trans ht; have hb3 := ht.at hb3 (hown _ (Nat.le_refl _)); have q3 := cell_of hb3 3; dsimp at q3)
      | ((go_at_call 54; (with_reducible refine (S1 _ h4).mono ?_); rintro e w' ⟨rfl, h5, ht⟩); have hT := hT.trans ht)
      | ((go_at_call 54; (with_reducible refine (S2 _ h5).mono ?_); rintro e w' ⟨rfl, h6, ht⟩); have hT := hT.trans ht)
      | ((go_at_call 54; (with_reducible refine (S3 _ h6).mono ?_); rintro e w' ⟨rfl, h7, ht⟩); have hT := hT.trans ht))
    go_ret
    exact ⟨rfl, h7, hT⟩
end Go.Proofs.YtejdfdllgobnhaaGreat
