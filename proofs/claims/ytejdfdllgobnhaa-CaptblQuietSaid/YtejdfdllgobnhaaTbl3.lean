/- Tables of capabilities (package captbl): walk. -/
import Derived.Test.YtejdfdllgobnhaaTbl2
set_option linter.unusedVariables false
set_option linter.unusedSimpArgs false
namespace Go.Proofs.Ytejdfdllgobnhaa
open Go.RowKit
structure PlaceS where
  f : Int
  i : Int
  fz : Bool
def PlaceS.v (p : PlaceS) : Value := .agg #[.int .i64 p.f, .int .i64 p.i, .bool p.fz]
def PlaceS.zero : PlaceS := ⟨0, 0, false⟩
def walkE (m : MemS) (root a : Int) : Int := if inB a 256 then (if isT m root 0 then (if slotE m root (a / 16) = 0 ∧ (slotC m root (a / 16)).k = 3 then (if isT m (slotC m root (a / 16)).t 1 then 0 else 4) else 3) else 4) else 1
def walkP (m : MemS) (root a : Int) : PlaceS := if walkE m root a = 0 then ⟨(slotC m root (a / 16)).t, a % 16, (hdC m (slotC m root (a / 16)).t).fz⟩ else PlaceS.zero
theorem walkP_no {m : MemS} {root a e : Int} (h : walkE m root a = e) (he : e ≠ 0) : walkP m root a = PlaceS.zero := by unfold walkP; rw [h, if_neg he]
theorem radix_no (n : Int) (w : World) (h : inB n 256 = false) : Calls Try.prog 115 #[.int .i64 n] w fun e w' => e = .returned (.tuple #[.int .i64 0, .int .i64 0, .int .i64 1]) ∧ Below w.heap.size w w' := by have := radix_slot n w; rw [h] at this; exact this
theorem radix_yes (n : Int) (w : World) (h : inB n 256 = true) : Calls Try.prog 115 #[.int .i64 n] w fun e w' => e = .returned (.tuple #[.int .i64 (n / 16), .int .i64 (n % 16), .int .i64 0]) ∧ Below w.heap.size w w' := by have := radix_slot n w; rw [h] at this; exact this
set_option maxHeartbeats 1000000 in
set_option maxRecDepth 100000 in
theorem walk_no (a g : Nat) (m : MemS) (root n : Int) (w : World) (h : MemIs w a g m) (ok : m.Ok) (hi : inB n 256 = false) : Calls Try.prog 102 #[.agg #[.pointer (some ⟨a, 0, none⟩)], .int .i64 root, .int .i64 n] w fun e w' =>
    e = .returned (.tuple #[PlaceS.zero.v, .int .i64 1]) ∧ Below w.heap.size w w' := by
  have hw0 : Below w.heap.size w ((w.alloc (.cells #[.pointer (some ⟨a, 0, none⟩)] 115 (0, 0))).alloc (.cells #[.int .i64 0, .int .i64 0, .bool false] 121 (0, 0))) := by (refine Touch.below0 ?_; (repeat' (first | (with_reducible exact Touch.refl _ _) | (with_reducible assumption) | (with_reducible refine Touch.drew ?_) | (with_reducible refine Touch.drewN ?_ _) | (with_reducible refine Touch.alloc ?_ _) | (with_reducible refine Touch.setCell ?_ _ _ _ ?_) | (with_reducible refine Touch.step (by assumption) ?_) | (with_reducible refine Touch.stepT (by assumption) ?_ ?_) | (intro _; first | rfl | trivial | omega | (simp; done) | (simp; omega)) | (intro _ _; first | omega | (simp; done) | (simp; omega)))))
  have hR : ((w.alloc (.cells #[.pointer (some ⟨a, 0, none⟩)] 115 (0, 0))).alloc (.cells #[.int .i64 0, .int .i64 0, .bool false] 121 (0, 0))).heap[w.heap.size + 1]? = some (.cells #[.int .i64 0, .int .i64 0, .bool false] 121 (0, 0)) := heap_new' (by simp) _
  have RN := fun w => radix_no n w hi
  clear hi
  go_enter Try.func102, Try.ntmps102
  go_wp2_with ((go_at_call 115; (with_reducible refine (RN _).mono ?_); rintro e w' ⟨rfl, hx⟩); have hw2 := hw0.trans (hx.mono hw0.size); have hR2 := (hx.block _ (lt_of_block hR)).trans hR; have g0 := cell_of hR2 0; have g1 := cell_of hR2 1; have g2 := cell_of hR2 2; have fr := frozen_of hR2; have lR := lt_of_block hR2; dsimp at g0 g1 g2)
  have hF := heap_set (o := 2) (heap_set (o := 1) (heap_set (o := 0) hR2 (.int .i64 0)) (.int .i64 0)) (.bool false)
  have hwF := ((hw2.setCell (p := ⟨w.heap.size + 1, 0, none⟩) (Nat.le_succ _) (.int .i64 0)).setCell (p := ⟨w.heap.size + 1, 1, none⟩) (Nat.le_succ _) (.int .i64 0)).setCell (p := ⟨w.heap.size + 1, 2, none⟩) (Nat.le_succ _) (.bool false)
  have hc := cell_of hF
  refine bodyPost_ret (v := .tuple #[PlaceS.zero.v, .int .i64 1]) ?_ rfl ⟨rfl, hwF⟩
  simp [results, Try.f102, go_sem, hc, PlaceS.zero, PlaceS.v]
set_option maxHeartbeats 1000000 in
set_option maxRecDepth 100000 in
theorem walk_no2 (a g : Nat) (m : MemS) (root n : Int) (w : World) (h : MemIs w a g m) (ok : m.Ok) (hi : inB n 256 = true) (hT : isT m root 0 = false) : Calls Try.prog 102 #[.agg #[.pointer (some ⟨a, 0, none⟩)], .int .i64 root, .int .i64 n] w fun e w' =>
    e = .returned (.tuple #[PlaceS.zero.v, .int .i64 4]) ∧ Below w.heap.size w w' := by
  have hw0 : Below w.heap.size w ((w.alloc (.cells #[.pointer (some ⟨a, 0, none⟩)] 115 (0, 0))).alloc (.cells #[.int .i64 0, .int .i64 0, .bool false] 121 (0, 0))) := by (refine Touch.below0 ?_; (repeat' (first | (with_reducible exact Touch.refl _ _) | (with_reducible assumption) | (with_reducible refine Touch.drew ?_) | (with_reducible refine Touch.drewN ?_ _) | (with_reducible refine Touch.alloc ?_ _) | (with_reducible refine Touch.setCell ?_ _ _ _ ?_) | (with_reducible refine Touch.step (by assumption) ?_) | (with_reducible refine Touch.stepT (by assumption) ?_ ?_) | (intro _; first | rfl | trivial | omega | (simp; done) | (simp; omega)) | (intro _ _; first | omega | (simp; done) | (simp; omega)))))
  have hB : ((w.alloc (.cells #[.pointer (some ⟨a, 0, none⟩)] 115 (0, 0))).alloc (.cells #[.int .i64 0, .int .i64 0, .bool false] 121 (0, 0))).heap[w.heap.size]? = some (.cells #[.pointer (some ⟨a, 0, none⟩)] 115 (0, 0)) := heap_alloc (heap_new _ _) _
  have hR : ((w.alloc (.cells #[.pointer (some ⟨a, 0, none⟩)] 115 (0, 0))).alloc (.cells #[.int .i64 0, .int .i64 0, .bool false] 121 (0, 0))).heap[w.heap.size + 1]? = some (.cells #[.int .i64 0, .int .i64 0, .bool false] 121 (0, 0)) := heap_new' (by simp) _
  have RY := fun w => radix_yes n w hi
  have L0 := fun w h => tbl_level a g m root 0 w h ok
  rw [hT] at L0
  have h1 := h.after hw0
  clear hi hT
  generalize hdC m root = D at *
  obtain ⟨dk, dl, df, dt⟩ := D
  unfold HeadS.v at *
  dsimp only at *
  go_enter Try.func102, Try.ntmps102
  go_wp2_with (first
    | ((go_at_call 115; (with_reducible refine (RY _).mono ?_); rintro e w' ⟨rfl, hx⟩); have hw2 := hw0.trans (hx.mono hw0.size); have hR2 := (hx.block _ (lt_of_block hR)).trans hR; have hB2 := (hx.block _ (lt_of_block hB)).trans hB; have h2 := h1.after hx; have b0 := cell_of hB2 0; dsimp at b0)
    | ((go_at_call 68; (with_reducible refine (L0 _ h2).mono ?_); rintro e w' ⟨rfl, hx⟩); have hw3 := hw2.trans (hx.mono hw2.size); have hR3 := (hx.block _ (lt_of_block hR2)).trans hR2; have g0 := cell_of hR3 0; have g1 := cell_of hR3 1; have g2 := cell_of hR3 2; have fr := frozen_of hR3; have lR := lt_of_block hR3; dsimp at g0 g1 g2))
  have hF := heap_set (o := 2) (heap_set (o := 1) (heap_set (o := 0) hR3 (.int .i64 0)) (.int .i64 0)) (.bool false)
  have hwF := ((hw3.setCell (p := ⟨w.heap.size + 1, 0, none⟩) (Nat.le_succ _) (.int .i64 0)).setCell (p := ⟨w.heap.size + 1, 1, none⟩) (Nat.le_succ _) (.int .i64 0)).setCell (p := ⟨w.heap.size + 1, 2, none⟩) (Nat.le_succ _) (.bool false)
  have hc := cell_of hF
  refine bodyPost_ret (v := .tuple #[PlaceS.zero.v, .int .i64 4]) ?_ rfl ⟨rfl, hwF.alloc hwF.size _⟩
  have hc2 := cell_of (heap_alloc hF (.cells #[.int .i64 dk, .int .i64 dl, .bool df, .int .i64 dt] 113 (0, 0)))
  simp [results, Try.f102, go_sem, hc2, PlaceS.zero, PlaceS.v]
set_option maxHeartbeats 1000000 in
set_option maxRecDepth 100000 in
theorem walk_no3 (a g : Nat) (m : MemS) (root n : Int) (w : World) (h : MemIs w a g m) (ok : m.Ok) (hi : inB n 256 = true) (hT : isT m root 0 = true) (hE : slotE m root (n / 16) ≠ 0) : Calls Try.prog 102 #[.agg #[.pointer (some ⟨a, 0, none⟩)], .int .i64 root, .int .i64 n] w fun e w' =>
    e = .returned (.tuple #[PlaceS.zero.v, .int .i64 3]) ∧ Below w.heap.size w w' := by
  have hw0 : Below w.heap.size w ((w.alloc (.cells #[.pointer (some ⟨a, 0, none⟩)] 115 (0, 0))).alloc (.cells #[.int .i64 0, .int .i64 0, .bool false] 121 (0, 0))) := by (refine Touch.below0 ?_; (repeat' (first | (with_reducible exact Touch.refl _ _) | (with_reducible assumption) | (with_reducible refine Touch.drew ?_) | (with_reducible refine Touch.drewN ?_ _) | (with_reducible refine Touch.alloc ?_ _) | (with_reducible refine Touch.setCell ?_ _ _ _ ?_) | (with_reducible refine Touch.step (by assumption) ?_) | (with_reducible refine Touch.stepT (by assumption) ?_ ?_) | (intro _; first | rfl | trivial | omega | (simp; done) | (simp; omega)) | (intro _ _; first | omega | (simp; done) | (simp; omega)))))
  have hB : ((w.alloc (.cells #[.pointer (some ⟨a, 0, none⟩)] 115 (0, 0))).alloc (.cells #[.int .i64 0, .int .i64 0, .bool false] 121 (0, 0))).heap[w.heap.size]? = some (.cells #[.pointer (some ⟨a, 0, none⟩)] 115 (0, 0)) := heap_alloc (heap_new _ _) _
  have hR : ((w.alloc (.cells #[.pointer (some ⟨a, 0, none⟩)] 115 (0, 0))).alloc (.cells #[.int .i64 0, .int .i64 0, .bool false] 121 (0, 0))).heap[w.heap.size + 1]? = some (.cells #[.int .i64 0, .int .i64 0, .bool false] 121 (0, 0)) := heap_new' (by simp) _
  have RY := fun w => radix_yes n w hi
  have L0 := fun w h => tbl_level a g m root 0 w h ok
  have SG := fun w h => slot_get a g m root (n / 16) w h ok
  rw [hT] at L0
  have h1 := h.after hw0
  generalize slotC m root (n / 16) = C at *
  generalize slotE m root (n / 16) = E at *
  have hE2 : (E == 0) = false := by simpa using hE
  clear hi hT
  generalize hdC m root = D at *
  obtain ⟨dk, dl, df, dt⟩ := D
  obtain ⟨ck, cr, ct, cl, ce, ca⟩ := C
  unfold HeadS.v at *
  unfold CapS.v at *
  dsimp only at *
  go_enter Try.func102, Try.ntmps102
  go_wp2_with (first
    | ((go_at_call 115; (with_reducible refine (RY _).mono ?_); rintro e w' ⟨rfl, hx⟩); have hw2 := hw0.trans (hx.mono hw0.size); have hR2 := (hx.block _ (lt_of_block hR)).trans hR; have hB2 := (hx.block _ (lt_of_block hB)).trans hB; have h2 := h1.after hx; have b0 := cell_of hB2 0; dsimp at b0)
    | ((go_at_call 68; (with_reducible refine (L0 _ h2).mono ?_); rintro e w' ⟨rfl, hx⟩); have hw3 := (hw2.trans (hx.mono hw2.size)).alloc (hw2.trans (hx.mono hw2.size)).size (.cells #[.int .i64 dk, .int .i64 dl, .bool df, .int .i64 dt] 113 (0, 0)); have hR3 := heap_alloc ((hx.block _ (lt_of_block hR2)).trans hR2) (.cells #[.int .i64 dk, .int .i64 dl, .bool df, .int .i64 dt] 113 (0, 0)); have hB3 := heap_alloc ((hx.block _ (lt_of_block hB2)).trans hB2) (.cells #[.int .i64 dk, .int .i64 dl, .bool df, .int .i64 dt] 113 (0, 0)); have h3 := (h2.after hx).after ((Below.refl _ _).alloc (Nat.le_refl _) (.cells #[.int .i64 dk, .int .i64 dl, .bool df, .int .i64 dt] 113 (0, 0))); have b0 := cell_of ((hx.block _ (lt_of_block hB2)).trans hB2) 0; have lB := lt_of_block ((hx.block _ (lt_of_block hB2)).trans hB2); dsimp at b0)
    | ((go_at_call 79; (with_reducible refine (SG _ h3).mono ?_); rintro e w' ⟨rfl, hx⟩); have hw4 := hw3.trans (hx.mono hw3.size); have hR4 := (hx.block _ (lt_of_block hR3)).trans hR3; have g0 := cell_of hR4 0; have g1 := cell_of hR4 1; have g2 := cell_of hR4 2; have fr := frozen_of hR4; have lR := lt_of_block hR4; dsimp at g0 g1 g2))
  have hF := heap_set (o := 2) (heap_set (o := 1) (heap_set (o := 0) hR4 (.int .i64 0)) (.int .i64 0)) (.bool false)
  have hwF := ((hw4.setCell (p := ⟨w.heap.size + 1, 0, none⟩) (Nat.le_succ _) (.int .i64 0)).setCell (p := ⟨w.heap.size + 1, 1, none⟩) (Nat.le_succ _) (.int .i64 0)).setCell (p := ⟨w.heap.size + 1, 2, none⟩) (Nat.le_succ _) (.bool false)
  have hc := cell_of hF
  refine bodyPost_ret (v := .tuple #[PlaceS.zero.v, .int .i64 3]) ?_ rfl ⟨rfl, hwF.alloc hwF.size _⟩
  have hc2 := cell_of (heap_alloc hF (.cells #[.int .i64 ck, .int .i64 cr, .int .i64 ct, .int .i64 cl, .int .i64 ce, .int .i64 ca] 57 (0, 0)))
  simp [results, Try.f102, go_sem, hc2, PlaceS.zero, PlaceS.v]
set_option maxHeartbeats 1000000 in
set_option maxRecDepth 100000 in
theorem walk_no4 (a g : Nat) (m : MemS) (root n : Int) (w : World) (h : MemIs w a g m) (ok : m.Ok) (hi : inB n 256 = true) (hT : isT m root 0 = true) (hE : slotE m root (n / 16) = 0) (hk : (slotC m root (n / 16)).k ≠ 3) : Calls Try.prog 102 #[.agg #[.pointer (some ⟨a, 0, none⟩)], .int .i64 root, .int .i64 n] w fun e w' =>
    e = .returned (.tuple #[PlaceS.zero.v, .int .i64 3]) ∧ Below w.heap.size w w' := by
  have hw0 : Below w.heap.size w ((w.alloc (.cells #[.pointer (some ⟨a, 0, none⟩)] 115 (0, 0))).alloc (.cells #[.int .i64 0, .int .i64 0, .bool false] 121 (0, 0))) := by (refine Touch.below0 ?_; (repeat' (first | (with_reducible exact Touch.refl _ _) | (with_reducible assumption) | (with_reducible refine Touch.drew ?_) | (with_reducible refine Touch.drewN ?_ _) | (with_reducible refine Touch.alloc ?_ _) | (with_reducible refine Touch.setCell ?_ _ _ _ ?_) | (with_reducible refine Touch.step (by assumption) ?_) | (with_reducible refine Touch.stepT (by assumption) ?_ ?_) | (intro _; first | rfl | trivial | omega | (simp; done) | (simp; omega)) | (intro _ _; first | omega | (simp; done) | (simp; omega)))))
  have hB : ((w.alloc (.cells #[.pointer (some ⟨a, 0, none⟩)] 115 (0, 0))).alloc (.cells #[.int .i64 0, .int .i64 0, .bool false] 121 (0, 0))).heap[w.heap.size]? = some (.cells #[.pointer (some ⟨a, 0, none⟩)] 115 (0, 0)) := heap_alloc (heap_new _ _) _
  have hR : ((w.alloc (.cells #[.pointer (some ⟨a, 0, none⟩)] 115 (0, 0))).alloc (.cells #[.int .i64 0, .int .i64 0, .bool false] 121 (0, 0))).heap[w.heap.size + 1]? = some (.cells #[.int .i64 0, .int .i64 0, .bool false] 121 (0, 0)) := heap_new' (by simp) _
  have RY := fun w => radix_yes n w hi
  have L0 := fun w h => tbl_level a g m root 0 w h ok
  have SG := fun w h => slot_get a g m root (n / 16) w h ok
  rw [hT] at L0
  have h1 := h.after hw0
  rw [hE] at SG
  clear hE
  generalize slotC m root (n / 16) = C at *
  clear hi hT
  generalize hdC m root = D at *
  obtain ⟨dk, dl, df, dt⟩ := D
  obtain ⟨ck, cr, ct, cl, ce, ca⟩ := C
  unfold HeadS.v at *
  unfold CapS.v at *
  dsimp only at *
  have hk2 : (ck == 3) = false := by simpa using hk
  go_enter Try.func102, Try.ntmps102
  go_wp2_with (first
    | ((go_at_call 115; (with_reducible refine (RY _).mono ?_); rintro e w' ⟨rfl, hx⟩); have hw2 := hw0.trans (hx.mono hw0.size); have hR2 := (hx.block _ (lt_of_block hR)).trans hR; have hB2 := (hx.block _ (lt_of_block hB)).trans hB; have h2 := h1.after hx; have b0 := cell_of hB2 0; dsimp at b0)
    | ((go_at_call 68; (with_reducible refine (L0 _ h2).mono ?_); rintro e w' ⟨rfl, hx⟩); have hw3 := (hw2.trans (hx.mono hw2.size)).alloc (hw2.trans (hx.mono hw2.size)).size (.cells #[.int .i64 dk, .int .i64 dl, .bool df, .int .i64 dt] 113 (0, 0)); have hR3 := heap_alloc ((hx.block _ (lt_of_block hR2)).trans hR2) (.cells #[.int .i64 dk, .int .i64 dl, .bool df, .int .i64 dt] 113 (0, 0)); have hB3 := heap_alloc ((hx.block _ (lt_of_block hB2)).trans hB2) (.cells #[.int .i64 dk, .int .i64 dl, .bool df, .int .i64 dt] 113 (0, 0)); have h3 := (h2.after hx).after ((Below.refl _ _).alloc (Nat.le_refl _) (.cells #[.int .i64 dk, .int .i64 dl, .bool df, .int .i64 dt] 113 (0, 0))); have b0 := cell_of ((hx.block _ (lt_of_block hB2)).trans hB2) 0; have lB := lt_of_block ((hx.block _ (lt_of_block hB2)).trans hB2); dsimp at b0)
    | ((go_at_call 79; (with_reducible refine (SG _ h3).mono ?_); rintro e w' ⟨rfl, hx⟩); have hw4 := hw3.trans (hx.mono hw3.size); have hR4 := (hx.block _ (lt_of_block hR3)).trans hR3; have g0 := cell_of hR4 0; have g1 := cell_of hR4 1; have g2 := cell_of hR4 2; have fr := frozen_of hR4; have lR := lt_of_block hR4; dsimp at g0 g1 g2))
  have hF := heap_set (o := 2) (heap_set (o := 1) (heap_set (o := 0) hR4 (.int .i64 0)) (.int .i64 0)) (.bool false)
  have hwF := ((hw4.setCell (p := ⟨w.heap.size + 1, 0, none⟩) (Nat.le_succ _) (.int .i64 0)).setCell (p := ⟨w.heap.size + 1, 1, none⟩) (Nat.le_succ _) (.int .i64 0)).setCell (p := ⟨w.heap.size + 1, 2, none⟩) (Nat.le_succ _) (.bool false)
  have hc := cell_of hF
  refine bodyPost_ret (v := .tuple #[PlaceS.zero.v, .int .i64 3]) ?_ rfl ⟨rfl, hwF.alloc hwF.size _⟩
  have hc2 := cell_of (heap_alloc hF (.cells #[.int .i64 ck, .int .i64 cr, .int .i64 ct, .int .i64 cl, .int .i64 ce, .int .i64 ca] 57 (0, 0)))
  simp [results, Try.f102, go_sem, hc2, PlaceS.zero, PlaceS.v]
end Go.Proofs.Ytejdfdllgobnhaa
