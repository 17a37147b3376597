/- Tables of capabilities (package captbl): walk, whole. -/
import Derived.Test.YtejdfdllgobnhaaTbl3
set_option linter.unusedVariables false
set_option linter.unusedSimpArgs false
namespace Go.Proofs.Ytejdfdllgobnhaa
open Go.RowKit
set_option maxHeartbeats 1000000 in
set_option maxRecDepth 100000 in
theorem walk_no5 (a g : Nat) (m : MemS) (root n : Int) (w : World) (h : MemIs w a g m) (ok : m.Ok) (hi : inB n 256 = true) (hT : isT m root 0 = true) (hE : slotE m root (n / 16) = 0) (hk : (slotC m root (n / 16)).k = 3) (hT1 : isT m (slotC m root (n / 16)).t 1 = false) : Calls Try.prog 102 #[.agg #[.pointer (some ⟨a, 0, none⟩)], .int .i64 root, .int .i64 n] w fun e w' =>
    e = .returned (.tuple #[PlaceS.zero.v, .int .i64 4]) ∧ Below w.heap.size w w' := by
  have hw0 : Below w.heap.size w ((w.alloc (.cells #[.pointer (some ⟨a, 0, none⟩)] 115 (0, 0))).alloc (.cells #[.int .i64 0, .int .i64 0, .bool false] 121 (0, 0))) := by (refine Touch.below0 ?_; (repeat' (first | (with_reducible exact Touch.refl _ _) | (with_reducible assumption) | (with_reducible refine Touch.drew ?_) | (with_reducible refine Touch.drewN ?_ _) | (with_reducible refine Touch.alloc ?_ _) | (with_reducible refine Touch.setCell ?_ _ _ _ ?_) | (with_reducible refine Touch.step (by assumption) ?_) | (with_reducible refine Touch.stepT (by assumption) ?_ ?_) | (intro _; first | rfl | trivial | omega | (simp; done) | (simp; omega)) | (intro _ _; first | omega | (simp; done) | (simp; omega)))))
  have hB : ((w.alloc (.cells #[.pointer (some ⟨a, 0, none⟩)] 115 (0, 0))).alloc (.cells #[.int .i64 0, .int .i64 0, .bool false] 121 (0, 0))).heap[w.heap.size]? = some (.cells #[.pointer (some ⟨a, 0, none⟩)] 115 (0, 0)) := heap_alloc (heap_new _ _) _
  have hR : ((w.alloc (.cells #[.pointer (some ⟨a, 0, none⟩)] 115 (0, 0))).alloc (.cells #[.int .i64 0, .int .i64 0, .bool false] 121 (0, 0))).heap[w.heap.size + 1]? = some (.cells #[.int .i64 0, .int .i64 0, .bool false] 121 (0, 0)) := heap_new' (by simp) _
  have RY := fun w => radix_yes n w hi
  have L0 := fun w h => tbl_level a g m root 0 w h ok
  have SG := fun w h => slot_get a g m root (n / 16) w h ok
  rw [hT] at L0
  have h1 := h.after hw0
  rw [hE] at SG
  have L1 := fun w h => tbl_level a g m (slotC m root (n / 16)).t 1 w h ok
  rw [hT1] at L1
  clear hE hT1
  generalize slotC m root (n / 16) = C at *
  clear hi hT
  generalize hdC m root = D at *
  obtain ⟨dk, dl, df, dt⟩ := D
  obtain ⟨ck, cr, ct, cl, ce, ca⟩ := C
  dsimp only at *
  generalize hdC m ct = H at *
  obtain ⟨hk2, hl, hf, ht⟩ := H
  unfold HeadS.v at *
  unfold CapS.v at *
  dsimp only at *
  subst hk
  go_enter Try.func102, Try.ntmps102
  go_wp2_with (first
    | ((go_at_call 115; (with_reducible refine (RY _).mono ?_); rintro e w' ⟨rfl, hx⟩); have hw2 := hw0.trans (hx.mono hw0.size); have hR2 := (hx.block _ (lt_of_block hR)).trans hR; have hB2 := (hx.block _ (lt_of_block hB)).trans hB; have h2 := h1.after hx; have b0 := cell_of hB2 0; dsimp at b0)
    | ((go_at_call 68; (with_reducible refine (L0 _ h2).mono ?_); rintro e w' ⟨rfl, hx⟩); have hw3 := (hw2.trans (hx.mono hw2.size)).alloc (hw2.trans (hx.mono hw2.size)).size (.cells #[.int .i64 dk, .int .i64 dl, .bool df, .int .i64 dt] 113 (0, 0)); have hR3 := heap_alloc ((hx.block _ (lt_of_block hR2)).trans hR2) (.cells #[.int .i64 dk, .int .i64 dl, .bool df, .int .i64 dt] 113 (0, 0)); have hB3 := heap_alloc ((hx.block _ (lt_of_block hB2)).trans hB2) (.cells #[.int .i64 dk, .int .i64 dl, .bool df, .int .i64 dt] 113 (0, 0)); have h3 := (h2.after hx).after ((Below.refl _ _).alloc (Nat.le_refl _) (.cells #[.int .i64 dk, .int .i64 dl, .bool df, .int .i64 dt] 113 (0, 0))); have b0 := cell_of ((hx.block _ (lt_of_block hB2)).trans hB2) 0; have lB := lt_of_block ((hx.block _ (lt_of_block hB2)).trans hB2); dsimp at b0)
    | ((go_at_call 79; (with_reducible refine (SG _ h3).mono ?_); rintro e w' ⟨rfl, hx⟩); have hw4 := (hw3.trans (hx.mono hw3.size)).alloc (hw3.trans (hx.mono hw3.size)).size (.cells #[.int .i64 3, .int .i64 cr, .int .i64 ct, .int .i64 cl, .int .i64 ce, .int .i64 ca] 57 (0, 0)); have hR4 := heap_alloc ((hx.block _ (lt_of_block hR3)).trans hR3) (.cells #[.int .i64 3, .int .i64 cr, .int .i64 ct, .int .i64 cl, .int .i64 ce, .int .i64 ca] 57 (0, 0)); have hB4' := (hx.block _ (lt_of_block hB3)).trans hB3; have hB4 := heap_alloc hB4' (.cells #[.int .i64 3, .int .i64 cr, .int .i64 ct, .int .i64 cl, .int .i64 ce, .int .i64 ca] 57 (0, 0)); have h4 := (h3.after hx).after ((Below.refl _ _).alloc (Nat.le_refl _) (.cells #[.int .i64 3, .int .i64 cr, .int .i64 ct, .int .i64 cl, .int .i64 ce, .int .i64 ca] 57 (0, 0))); have hC4 := heap_new w' (.cells #[.int .i64 3, .int .i64 cr, .int .i64 ct, .int .i64 cl, .int .i64 ce, .int .i64 ca] 57 (0, 0)); have b0 := cell_of hB4' 0; have lB := lt_of_block hB4'; dsimp at b0)
    | ((go_at_call 68; (with_reducible refine (L1 _ h4).mono ?_); rintro e w' ⟨rfl, hx⟩); have hw5 := hw4.trans (hx.mono hw4.size); have hR5 := (hx.block _ (lt_of_block hR4)).trans hR4; have hC5 := (hx.block _ (lt_of_block hC4)).trans hC4; have e2 := cell_of hC5 2; have lC := lt_of_block hC5; dsimp at e2; have g0 := cell_of hR5 0; have g1 := cell_of hR5 1; have g2 := cell_of hR5 2; have fr := frozen_of hR5; have lR := lt_of_block hR5; dsimp at g0 g1 g2))
  have hF := heap_set (o := 2) (heap_set (o := 1) (heap_set (o := 0) hR5 (.int .i64 0)) (.int .i64 0)) (.bool false)
  have hwF := ((hw5.setCell (p := ⟨w.heap.size + 1, 0, none⟩) (Nat.le_succ _) (.int .i64 0)).setCell (p := ⟨w.heap.size + 1, 1, none⟩) (Nat.le_succ _) (.int .i64 0)).setCell (p := ⟨w.heap.size + 1, 2, none⟩) (Nat.le_succ _) (.bool false)
  have hc := cell_of hF
  refine bodyPost_ret (v := .tuple #[PlaceS.zero.v, .int .i64 4]) ?_ rfl ⟨rfl, hwF.alloc hwF.size _⟩
  have hc2 := cell_of (heap_alloc hF (.cells #[.int .i64 hk2, .int .i64 hl, .bool hf, .int .i64 ht] 113 (0, 0)))
  simp [results, Try.f102, go_sem, hc2, PlaceS.zero, PlaceS.v]
set_option maxHeartbeats 1000000 in
set_option maxRecDepth 100000 in
theorem walk_yes (a g : Nat) (m : MemS) (root n : Int) (w : World) (h : MemIs w a g m) (ok : m.Ok) (hi : inB n 256 = true) (hT : isT m root 0 = true) (hE : slotE m root (n / 16) = 0) (hk : (slotC m root (n / 16)).k = 3) (hT1 : isT m (slotC m root (n / 16)).t 1 = true) : Calls Try.prog 102 #[.agg #[.pointer (some ⟨a, 0, none⟩)], .int .i64 root, .int .i64 n] w fun e w' =>
    e = .returned (.tuple #[.agg #[.int .i64 (slotC m root (n / 16)).t, .int .i64 (n % 16), .bool (hdC m (slotC m root (n / 16)).t).fz], .int .i64 0]) ∧ Below w.heap.size w w' := by
  have hw0 : Below w.heap.size w ((w.alloc (.cells #[.pointer (some ⟨a, 0, none⟩)] 115 (0, 0))).alloc (.cells #[.int .i64 0, .int .i64 0, .bool false] 121 (0, 0))) := by (refine Touch.below0 ?_; (repeat' (first | (with_reducible exact Touch.refl _ _) | (with_reducible assumption) | (with_reducible refine Touch.drew ?_) | (with_reducible refine Touch.drewN ?_ _) | (with_reducible refine Touch.alloc ?_ _) | (with_reducible refine Touch.setCell ?_ _ _ _ ?_) | (with_reducible refine Touch.step (by assumption) ?_) | (with_reducible refine Touch.stepT (by assumption) ?_ ?_) | (intro _; first | rfl | trivial | omega | (simp; done) | (simp; omega)) | (intro _ _; first | omega | (simp; done) | (simp; omega)))))
  have hB : ((w.alloc (.cells #[.pointer (some ⟨a, 0, none⟩)] 115 (0, 0))).alloc (.cells #[.int .i64 0, .int .i64 0, .bool false] 121 (0, 0))).heap[w.heap.size]? = some (.cells #[.pointer (some ⟨a, 0, none⟩)] 115 (0, 0)) := heap_alloc (heap_new _ _) _
  have hR : ((w.alloc (.cells #[.pointer (some ⟨a, 0, none⟩)] 115 (0, 0))).alloc (.cells #[.int .i64 0, .int .i64 0, .bool false] 121 (0, 0))).heap[w.heap.size + 1]? = some (.cells #[.int .i64 0, .int .i64 0, .bool false] 121 (0, 0)) := heap_new' (by simp) _
  have RY := fun w => radix_yes n w hi
  have L0 := fun w h => tbl_level a g m root 0 w h ok
  have SG := fun w h => slot_get a g m root (n / 16) w h ok
  rw [hT] at L0
  have h1 := h.after hw0
  rw [hE] at SG
  have L1 := fun w h => tbl_level a g m (slotC m root (n / 16)).t 1 w h ok
  rw [hT1] at L1
  clear hE hT1
  generalize slotC m root (n / 16) = C at *
  clear hi hT
  generalize hdC m root = D at *
  obtain ⟨dk, dl, df, dt⟩ := D
  obtain ⟨ck, cr, ct, cl, ce, ca⟩ := C
  dsimp only at *
  generalize hdC m ct = H at *
  obtain ⟨hk2, hl, hf, ht⟩ := H
  unfold HeadS.v at *
  unfold CapS.v at *
  dsimp only at *
  subst hk
  go_enter Try.func102, Try.ntmps102
  go_wp2_with (first
    | ((go_at_call 115; (with_reducible refine (RY _).mono ?_); rintro e w' ⟨rfl, hx⟩); have hw2 := hw0.trans (hx.mono hw0.size); have hR2 := (hx.block _ (lt_of_block hR)).trans hR; have hB2 := (hx.block _ (lt_of_block hB)).trans hB; have h2 := h1.after hx; have b0 := cell_of hB2 0; dsimp at b0)
    | ((go_at_call 68; (with_reducible refine (L0 _ h2).mono ?_); rintro e w' ⟨rfl, hx⟩); have hw3 := (hw2.trans (hx.mono hw2.size)).alloc (hw2.trans (hx.mono hw2.size)).size (.cells #[.int .i64 dk, .int .i64 dl, .bool df, .int .i64 dt] 113 (0, 0)); have hR3 := heap_alloc ((hx.block _ (lt_of_block hR2)).trans hR2) (.cells #[.int .i64 dk, .int .i64 dl, .bool df, .int .i64 dt] 113 (0, 0)); have hB3 := heap_alloc ((hx.block _ (lt_of_block hB2)).trans hB2) (.cells #[.int .i64 dk, .int .i64 dl, .bool df, .int .i64 dt] 113 (0, 0)); have h3 := (h2.after hx).after ((Below.refl _ _).alloc (Nat.le_refl _) (.cells #[.int .i64 dk, .int .i64 dl, .bool df, .int .i64 dt] 113 (0, 0))); have b0 := cell_of ((hx.block _ (lt_of_block hB2)).trans hB2) 0; have lB := lt_of_block ((hx.block _ (lt_of_block hB2)).trans hB2); dsimp at b0)
    | ((go_at_call 79; (with_reducible refine (SG _ h3).mono ?_); rintro e w' ⟨rfl, hx⟩); have hw4 := (hw3.trans (hx.mono hw3.size)).alloc (hw3.trans (hx.mono hw3.size)).size (.cells #[.int .i64 3, .int .i64 cr, .int .i64 ct, .int .i64 cl, .int .i64 ce, .int .i64 ca] 57 (0, 0)); have hR4 := heap_alloc ((hx.block _ (lt_of_block hR3)).trans hR3) (.cells #[.int .i64 3, .int .i64 cr, .int .i64 ct, .int .i64 cl, .int .i64 ce, .int .i64 ca] 57 (0, 0)); have hB4' := (hx.block _ (lt_of_block hB3)).trans hB3; have hB4 := heap_alloc hB4' (.cells #[.int .i64 3, .int .i64 cr, .int .i64 ct, .int .i64 cl, .int .i64 ce, .int .i64 ca] 57 (0, 0)); have h4 := (h3.after hx).after ((Below.refl _ _).alloc (Nat.le_refl _) (.cells #[.int .i64 3, .int .i64 cr, .int .i64 ct, .int .i64 cl, .int .i64 ce, .int .i64 ca] 57 (0, 0))); have hC4 := heap_new w' (.cells #[.int .i64 3, .int .i64 cr, .int .i64 ct, .int .i64 cl, .int .i64 ce, .int .i64 ca] 57 (0, 0)); have b0 := cell_of hB4' 0; have lB := lt_of_block hB4'; dsimp at b0)
    | ((go_at_call 68; (with_reducible refine (L1 _ h4).mono ?_); rintro e w' ⟨rfl, hx⟩); have hw5 := hw4.trans (hx.mono hw4.size); have hR5 := (hx.block _ (lt_of_block hR4)).trans hR4; have hC5 := (hx.block _ (lt_of_block hC4)).trans hC4; have e2 := cell_of hC5 2; have lC := lt_of_block hC5; dsimp at e2; have g0 := cell_of hR5 0; have g1 := cell_of hR5 1; have g2 := cell_of hR5 2; have fr := frozen_of hR5; have lR := lt_of_block hR5; dsimp at g0 g1 g2))
  have hF := heap_set (o := 2) (heap_set (o := 1) (heap_set (o := 0) hR5 (.int .i64 ct)) (.int .i64 (n % 16))) (.bool hf)
  have hwF := ((hw5.setCell (p := ⟨w.heap.size + 1, 0, none⟩) (Nat.le_succ _) (.int .i64 ct)).setCell (p := ⟨w.heap.size + 1, 1, none⟩) (Nat.le_succ _) (.int .i64 (n % 16))).setCell (p := ⟨w.heap.size + 1, 2, none⟩) (Nat.le_succ _) (.bool hf)
  have hc := cell_of hF
  refine bodyPost_ret (v := .tuple #[.agg #[.int .i64 ct, .int .i64 (n % 16), .bool hf], .int .i64 0]) ?_ rfl ⟨rfl, hwF.alloc hwF.size _⟩
  have hc2 := cell_of (heap_alloc hF (.cells #[.int .i64 hk2, .int .i64 hl, .bool hf, .int .i64 ht] 113 (0, 0)))
  simp [results, Try.f102, go_sem, hc2, PlaceS.zero, PlaceS.v]
theorem tbl_walk (a g : Nat) (m : MemS) (root n : Int) (w : World) (h : MemIs w a g m) (ok : m.Ok) : Calls Try.prog 102 #[.agg #[.pointer (some ⟨a, 0, none⟩)], .int .i64 root, .int .i64 n] w fun e w' =>
    e = .returned (.tuple #[(walkP m root n).v, .int .i64 (walkE m root n)]) ∧ Below w.heap.size w w' := by
  cases hi : inB n 256
  · have e : walkE m root n = 1 := by unfold walkE; rw [hi]; rfl
    rw [walkP_no e (by decide), e]; exact walk_no a g m root n w h ok hi
  cases hT : isT m root 0
  · have e : walkE m root n = 4 := by unfold walkE; rw [hi, hT]; rfl
    rw [walkP_no e (by decide), e]; exact walk_no2 a g m root n w h ok hi hT
  by_cases hE : slotE m root (n / 16) = 0
  · by_cases hk : (slotC m root (n / 16)).k = 3
    · cases hT1 : isT m (slotC m root (n / 16)).t 1
      · have e : walkE m root n = 4 := by unfold walkE; rw [hi, hT, if_pos rfl, if_pos rfl, if_pos ⟨hE, hk⟩, hT1]; rfl
        rw [walkP_no e (by decide), e]; exact walk_no5 a g m root n w h ok hi hT hE hk hT1
      · have e : walkE m root n = 0 := by unfold walkE; rw [hi, hT, if_pos rfl, if_pos rfl, if_pos ⟨hE, hk⟩, hT1]; rfl
        rw [walkP, e, if_pos rfl]; exact walk_yes a g m root n w h ok hi hT hE hk hT1
    · have e : walkE m root n = 3 := by unfold walkE; rw [hi, hT, if_pos rfl, if_pos rfl, if_neg (fun h => hk h.2)]
      rw [walkP_no e (by decide), e]; exact walk_no4 a g m root n w h ok hi hT hE hk
  · have e : walkE m root n = 3 := by unfold walkE; rw [hi, hT, if_pos rfl, if_pos rfl, if_neg (fun h => hE h.1)]
    rw [walkP_no e (by decide), e]; exact walk_no3 a g m root n w h ok hi hT hE
end Go.Proofs.Ytejdfdllgobnhaa
