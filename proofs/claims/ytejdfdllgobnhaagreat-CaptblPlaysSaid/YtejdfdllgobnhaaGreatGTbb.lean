/- Several texts in one: Tbl6, Tbl7, Tbl8, Tbl9. -/
import Derived.Test.YtejdfdllgobnhaaGreatGTbl
/- Tbl6 -/
set_option linter.unusedVariables false
set_option linter.unusedSimpArgs false
namespace Go.Proofs.YtejdfdllgobnhaaGreat
open Go.RowKit
def tputE (m : MemS) (root n : Int) (c : CapS) (fl : Int) : Int := if c.right = true ∧ 1 < c.k then (if roomE m root n fl = 0 then (if putOk m (roomP m root n).f (roomP m root n).i c then 0 else 1) else roomE m root n fl) else 1
def MemS.tput (m : MemS) (root n : Int) (c : CapS) (fl : Int) : MemS := if c.right = true ∧ 1 < c.k ∧ roomE m root n fl = 0 then m.slot (roomP m root n).f (roomP m root n).i c else m
set_option maxHeartbeats 1000000 in
set_option maxRecDepth 100000 in
theorem tbl_put (a g : Nat) (m : MemS) (root n fl : Int) (c : CapS) (w : World) (h : MemIs w a g m) (ok : m.Ok) : Calls Tryz.prog 32 #[.pointer (some ⟨a, 0, none⟩), .int .i64 root, .int .i64 n, c.v, .int .i64 fl] w fun e w' =>
    e = .returned (.int .i64 (tputE m root n c fl)) ∧ MemIs w' a g (m.tput root n c fl) ∧ Touch (· = g) w w' := by
  have RM := fun w h => tbl_room a g m root n fl w h ok
  have CK := fun w => cap_check c w
  have SP := fun w h => slot_put a g m (roomP m root n).f (roomP m root n).i c w h ok
  unfold tputE MemS.tput
  generalize putOk m (roomP m root n).f (roomP m root n).i c = pk at *
  generalize m.slot (roomP m root n).f (roomP m root n).i c = M at *
  generalize roomP m root n = P at *
  generalize roomE m root n fl = E at *
  generalize c.right = cr at *
  obtain ⟨k, r, t, l, ep, ca⟩ := c
  obtain ⟨pf, pi, pz⟩ := P
  unfold CapS.v at *
  unfold PlaceS.v at *
  dsimp only at *
  have hw0 : Below w.heap.size w (w.alloc (.cells #[.int .i64 k, .int .i64 r, .int .i64 t, .int .i64 l, .int .i64 ep, .int .i64 ca] 32 (0, 0))) := by (refine Touch.below0 ?_; (repeat' (first | (with_reducible exact Touch.refl _ _) | (with_reducible assumption) | (with_reducible refine Touch.drew ?_) | (with_reducible refine Touch.drewN ?_ _) | (with_reducible refine Touch.alloc ?_ _) | (with_reducible refine Touch.setCell ?_ _ _ _ ?_) | (with_reducible refine Touch.step (by assumption) ?_) | (with_reducible refine Touch.stepT (by assumption) ?_ ?_) | (intro _; first | rfl | trivial | omega | (simp; done) | (simp; omega)) | (intro _ _; first | omega | (simp; done) | (simp; omega)))))
  have hB : (w.alloc (.cells #[.int .i64 k, .int .i64 r, .int .i64 t, .int .i64 l, .int .i64 ep, .int .i64 ca] 32 (0, 0))).heap[w.heap.size]? = some (.cells #[.int .i64 k, .int .i64 r, .int .i64 t, .int .i64 l, .int .i64 ep, .int .i64 ca] 32 (0, 0)) := heap_new _ _
  have h1 := h.after hw0
  cases cr
  · simp only [Bool.false_eq_true, false_and, if_false] at CK ⊢
    clear SP
    go_enter Tryz.func32, Tryz.ntmps32
    go_wp2_with ((go_at_call 129; (with_reducible refine (CK _).mono ?_); rintro e w' ⟨rfl, hx⟩))
    go_ret
    have hb := hw0.trans (hx.mono hw0.size)
    exact ⟨rfl, h.after hb, Touch.of_below hb⟩
  · by_cases hk : 1 < k
    · simp only [hk, and_self, true_and, if_true] at CK ⊢
      by_cases hE : E = 0
      · subst hE
        simp only [if_true]
        generalize (if pk = true then (0 : Int) else 1) = EE at *
        go_enter Tryz.func32, Tryz.ntmps32
        go_wp2_with (first
          | ((go_at_call 129; (with_reducible refine (CK _).mono ?_); rintro e w' ⟨rfl, hx⟩); have hw2 := hw0.trans (hx.mono hw0.size); have hB2 := (hx.block _ (lt_of_block hB)).trans hB; have h2 := h1.after hx; have g0 := cell_of hB2 0; have g1 := cell_of hB2 1; have g2 := cell_of hB2 2; have g3 := cell_of hB2 3; have g4 := cell_of hB2 4; have g5 := cell_of hB2 5; have lB := lt_of_block hB2; dsimp at g0 g1 g2 g3 g4 g5)
          | ((go_at_call 130; (with_reducible refine (RM _ h2).mono ?_); rintro e w' ⟨rfl, hx⟩); have hw3 := (hw2.trans (hx.mono hw2.size)).alloc (hw2.trans (hx.mono hw2.size)).size (.cells #[.int .i64 pf, .int .i64 pi, .bool pz] 202 (0, 0)); have hB3 := (hx.block _ (lt_of_block hB2)).trans hB2; have h3 := (h2.after hx).after ((Below.refl _ _).alloc (Nat.le_refl _) (.cells #[.int .i64 pf, .int .i64 pi, .bool pz] 202 (0, 0))); have g0 := cell_of hB3 0; have g1 := cell_of hB3 1; have g2 := cell_of hB3 2; have g3 := cell_of hB3 3; have g4 := cell_of hB3 4; have g5 := cell_of hB3 5; have lB := lt_of_block hB3; dsimp at g0 g1 g2 g3 g4 g5)
          | ((go_at_call 128; (with_reducible refine (SP _ h3).mono ?_); rintro e w' ⟨rfl, hm, ht⟩)))
        go_ret
        exact ⟨rfl, hm, (Touch.of_below hw3).trans ht⟩
      · simp only [hE, if_false]
        have hE2 : (E == 0) = false := by simpa using hE
        clear SP
        go_enter Tryz.func32, Tryz.ntmps32
        go_wp2_with (first
          | ((go_at_call 129; (with_reducible refine (CK _).mono ?_); rintro e w' ⟨rfl, hx⟩); have hw2 := hw0.trans (hx.mono hw0.size); have hB2 := (hx.block _ (lt_of_block hB)).trans hB; have h2 := h1.after hx; have g0 := cell_of hB2 0; have g1 := cell_of hB2 1; have g2 := cell_of hB2 2; have g3 := cell_of hB2 3; have g4 := cell_of hB2 4; have g5 := cell_of hB2 5; have lB := lt_of_block hB2; dsimp at g0 g1 g2 g3 g4 g5)
          | ((go_at_call 130; (with_reducible refine (RM _ h2).mono ?_); rintro e w' ⟨rfl, hx⟩); have hw3 := (hw2.trans (hx.mono hw2.size)).alloc (hw2.trans (hx.mono hw2.size)).size (.cells #[.int .i64 pf, .int .i64 pi, .bool pz] 202 (0, 0))))
        go_ret
        exact ⟨rfl, h.after hw3, Touch.of_below hw3⟩
    · simp only [hk, and_false, false_and, if_false, if_true] at CK ⊢
      have hk2 : k ≤ 1 := by omega
      clear SP hk
      go_enter Tryz.func32, Tryz.ntmps32
      go_wp2_with ((go_at_call 129; (with_reducible refine (CK _).mono ?_); rintro e w' ⟨rfl, hx⟩); have hw2 := hw0.trans (hx.mono hw0.size); have hB2 := (hx.block _ (lt_of_block hB)).trans hB; have g0 := cell_of hB2 0; have g1 := cell_of hB2 1; have g2 := cell_of hB2 2; have g3 := cell_of hB2 3; have g4 := cell_of hB2 4; have g5 := cell_of hB2 5; have lB := lt_of_block hB2; dsimp at g0 g1 g2 g3 g4 g5)
      go_ret
      exact ⟨rfl, h.after hw2, Touch.of_below hw2⟩
end Go.Proofs.YtejdfdllgobnhaaGreat
/- Tbl7 -/
set_option linter.unusedVariables false
set_option linter.unusedSimpArgs false
namespace Go.Proofs.YtejdfdllgobnhaaGreat
open Go.RowKit
def lookE (m : MemS) (root n : Int) : Int := if walkE m root n = 0 then (if slotE m (walkP m root n).f (walkP m root n).i = 0 then (if (slotC m (walkP m root n).f (walkP m root n).i).k ≤ 1 then 3 else 0) else slotE m (walkP m root n).f (walkP m root n).i) else walkE m root n
def lookC (m : MemS) (root n : Int) : CapS := if lookE m root n = 0 then slotC m (walkP m root n).f (walkP m root n).i else CapS.zero
def lookP (m : MemS) (root n : Int) : PlaceS := if lookE m root n = 0 then walkP m root n else PlaceS.zero
set_option maxHeartbeats 1000000 in
set_option maxRecDepth 100000 in
theorem tbl_look (a g : Nat) (m : MemS) (root n : Int) (w : World) (h : MemIs w a g m) (ok : m.Ok) : Calls Tryz.prog 160 #[.agg #[.pointer (some ⟨a, 0, none⟩)], .int .i64 root, .int .i64 n] w fun e w' =>
    e = .returned (.tuple #[(lookC m root n).v, (lookP m root n).v, .int .i64 (lookE m root n)]) ∧ Below w.heap.size w w' := by
  have hw0 : Below w.heap.size w (((w.alloc (.cells #[.pointer (some ⟨a, 0, none⟩)] 197 (0, 0))).alloc (.cells #[.int .i64 0, .int .i64 0, .int .i64 0, .int .i64 0, .int .i64 0, .int .i64 0] 32 (0, 0))).alloc (.cells #[.int .i64 0, .int .i64 0, .bool false] 202 (0, 0))) := by (refine Touch.below0 ?_; (repeat' (first | (with_reducible exact Touch.refl _ _) | (with_reducible assumption) | (with_reducible refine Touch.drew ?_) | (with_reducible refine Touch.drewN ?_ _) | (with_reducible refine Touch.alloc ?_ _) | (with_reducible refine Touch.setCell ?_ _ _ _ ?_) | (with_reducible refine Touch.step (by assumption) ?_) | (with_reducible refine Touch.stepT (by assumption) ?_ ?_) | (intro _; first | rfl | trivial | omega | (simp; done) | (simp; omega)) | (intro _ _; first | omega | (simp; done) | (simp; omega)))))
  have hB : (((w.alloc (.cells #[.pointer (some ⟨a, 0, none⟩)] 197 (0, 0))).alloc (.cells #[.int .i64 0, .int .i64 0, .int .i64 0, .int .i64 0, .int .i64 0, .int .i64 0] 32 (0, 0))).alloc (.cells #[.int .i64 0, .int .i64 0, .bool false] 202 (0, 0))).heap[w.heap.size]? = some (.cells #[.pointer (some ⟨a, 0, none⟩)] 197 (0, 0)) := heap_alloc (heap_alloc (heap_new _ _) _) _
  have hC : (((w.alloc (.cells #[.pointer (some ⟨a, 0, none⟩)] 197 (0, 0))).alloc (.cells #[.int .i64 0, .int .i64 0, .int .i64 0, .int .i64 0, .int .i64 0, .int .i64 0] 32 (0, 0))).alloc (.cells #[.int .i64 0, .int .i64 0, .bool false] 202 (0, 0))).heap[w.heap.size + 1]? = some (.cells #[.int .i64 0, .int .i64 0, .int .i64 0, .int .i64 0, .int .i64 0, .int .i64 0] 32 (0, 0)) := heap_alloc (heap_new' (by simp) _) _
  have hP : (((w.alloc (.cells #[.pointer (some ⟨a, 0, none⟩)] 197 (0, 0))).alloc (.cells #[.int .i64 0, .int .i64 0, .int .i64 0, .int .i64 0, .int .i64 0, .int .i64 0] 32 (0, 0))).alloc (.cells #[.int .i64 0, .int .i64 0, .bool false] 202 (0, 0))).heap[w.heap.size + 1 + 1]? = some (.cells #[.int .i64 0, .int .i64 0, .bool false] 202 (0, 0)) := heap_new' (by simp) _
  have h1 := h.after hw0
  have WK := fun w h => tbl_walk a g m root n w h ok
  have SG := fun w h => slot_get a g m (walkP m root n).f (walkP m root n).i w h ok
  unfold lookC lookP lookE
  generalize slotC m (walkP m root n).f (walkP m root n).i = C at *
  generalize slotE m (walkP m root n).f (walkP m root n).i = E2 at *
  generalize walkP m root n = P at *
  generalize walkE m root n = E at *
  obtain ⟨pf, pi, pz⟩ := P
  obtain ⟨k, r, t, l, ep, ca⟩ := C
  unfold PlaceS.v at WK
  unfold CapS.v at SG
  dsimp only at *
  by_cases hE : E = 0
  · subst hE
    by_cases hE2 : E2 = 0
    · subst hE2
      by_cases hk : k ≤ 1
      · simp only [hk, if_true, show ¬ ((3 : Int) = 0) by decide, if_false]
        go_enter Tryz.func160, Tryz.ntmps160
        go_upto_region 8 with (first
          | ((go_at_call 203; (with_reducible refine (WK _ h1).mono ?_); rintro e w' ⟨rfl, hx⟩); have hw3 := (hw0.trans (hx.mono hw0.size)).alloc (hw0.trans (hx.mono hw0.size)).size (.cells #[.int .i64 pf, .int .i64 pi, .bool pz] 202 (0, 0)); have hC3 := heap_alloc ((hx.block _ (lt_of_block hC)).trans hC) (.cells #[.int .i64 pf, .int .i64 pi, .bool pz] 202 (0, 0)); have hP3 := heap_alloc ((hx.block _ (lt_of_block hP)).trans hP) (.cells #[.int .i64 pf, .int .i64 pi, .bool pz] 202 (0, 0)); have hB2 := (hx.block _ (lt_of_block hB)).trans hB; have h3 := (h1.after hx).after ((Below.refl _ _).alloc (Nat.le_refl _) (.cells #[.int .i64 pf, .int .i64 pi, .bool pz] 202 (0, 0))); have b0 := cell_of hB2 0; have lB := lt_of_block hB2; dsimp at b0)
          | ((go_at_call 163; (with_reducible refine (SG _ h3).mono ?_); rintro e w' ⟨rfl, hx⟩); have hw2 := hw3.trans (hx.mono hw3.size); have hC2 := (hx.block _ (lt_of_block hC3)).trans hC3; have hP2 := (hx.block _ (lt_of_block hP3)).trans hP3; have g0 := cell_of hC2 0; have g1 := cell_of hC2 1; have g2 := cell_of hC2 2; have g3 := cell_of hC2 3; have g4 := cell_of hC2 4; have g5 := cell_of hC2 5; have frc := frozen_of hC2; have lRc := lt_of_block hC2; dsimp at g0 g1 g2 g3 g4 g5; have u0 := cell_of hP2 0; have u1 := cell_of hP2 1; have u2 := cell_of hP2 2; have frp := frozen_of hP2; have lRp := lt_of_block hP2; dsimp at u0 u1 u2))
        have hC7 := heap_alloc hC2 (.cells #[.int .i64 k, .int .i64 r, .int .i64 t, .int .i64 l, .int .i64 ep, .int .i64 ca] 32 (0, 0))
        have hP7 := heap_alloc hP2 (.cells #[.int .i64 k, .int .i64 r, .int .i64 t, .int .i64 l, .int .i64 ep, .int .i64 ca] 32 (0, 0))
        have hw7 := hw2.alloc hw2.size (.cells #[.int .i64 k, .int .i64 r, .int .i64 t, .int .i64 l, .int .i64 ep, .int .i64 ca] 32 (0, 0))
        clear g0 g1 g2 g3 g4 g5 frc lRc u0 u1 u2 frp lRp
        generalize w'.alloc (.cells #[.int .i64 k, .int .i64 r, .int .i64 t, .int .i64 l, .int .i64 ep, .int .i64 ca] 32 (0, 0)) = w7 at *
        have g0 := cell_of hC7 0; have g1 := cell_of hC7 1; have g2 := cell_of hC7 2; have g3 := cell_of hC7 3; have g4 := cell_of hC7 4; have g5 := cell_of hC7 5; have frc := frozen_of hC7; have lRc := lt_of_block hC7; dsimp at g0 g1 g2 g3 g4 g5
        have u0 := cell_of hP7 0; have u1 := cell_of hP7 1; have u2 := cell_of hP7 2; have frp := frozen_of hP7; have lRp := lt_of_block hP7; dsimp at u0 u1 u2
        go_wp2
        have hn1 : w.heap.size + 1 ≠ w.heap.size + 1 + 1 := by omega
        have hn2 : w.heap.size + 1 + 1 ≠ w.heap.size + 1 := by omega
        have hFC := heap_set_ne (heap_set_ne (heap_set_ne (heap_set (o := 5) (heap_set (o := 4) (heap_set (o := 3) (heap_set (o := 2) (heap_set (o := 1) (heap_set (o := 0) hC7 (.int .i64 0)) (.int .i64 0)) (.int .i64 0)) (.int .i64 0)) (.int .i64 0)) (.int .i64 0)) (o := 0) (.int .i64 0) hn1) (o := 1) (.int .i64 0) hn1) (o := 2) (.bool false) hn1
        have hFP := heap_set (o := 2) (heap_set (o := 1) (heap_set (o := 0) (heap_set_ne (heap_set_ne (heap_set_ne (heap_set_ne (heap_set_ne (heap_set_ne hP7 (o := 0) (.int .i64 0) hn2) (o := 1) (.int .i64 0) hn2) (o := 2) (.int .i64 0) hn2) (o := 3) (.int .i64 0) hn2) (o := 4) (.int .i64 0) hn2) (o := 5) (.int .i64 0) hn2) (.int .i64 0)) (.int .i64 0)) (.bool false)
        have b1 : w.heap.size ≤ w.heap.size + 1 := Nat.le_succ _
        have b2 : w.heap.size ≤ w.heap.size + 1 + 1 := by omega
        have hwF := ((((((((hw7.setCell (p := ⟨w.heap.size + 1, 0, none⟩) b1 (.int .i64 0)).setCell (p := ⟨w.heap.size + 1, 1, none⟩) b1 (.int .i64 0)).setCell (p := ⟨w.heap.size + 1, 2, none⟩) b1 (.int .i64 0)).setCell (p := ⟨w.heap.size + 1, 3, none⟩) b1 (.int .i64 0)).setCell (p := ⟨w.heap.size + 1, 4, none⟩) b1 (.int .i64 0)).setCell (p := ⟨w.heap.size + 1, 5, none⟩) b1 (.int .i64 0)).setCell (p := ⟨w.heap.size + 1 + 1, 0, none⟩) b2 (.int .i64 0)).setCell (p := ⟨w.heap.size + 1 + 1, 1, none⟩) b2 (.int .i64 0)).setCell (p := ⟨w.heap.size + 1 + 1, 2, none⟩) b2 (.bool false)
        refine bodyPost_ret (v := .tuple #[CapS.zero.v, PlaceS.zero.v, .int .i64 3]) ?_ rfl ⟨rfl, hwF⟩
        have hc1 := cell_of hFC
        have hc2 := cell_of hFP
        simp [results, Tryz.f160, go_sem, hc1, hc2, PlaceS.zero, PlaceS.v, CapS.zero, CapS.v]
      · simp only [hk, if_false, if_true]
        have hk2 : 1 < k := by omega
        clear hk
        go_enter Tryz.func160, Tryz.ntmps160
        go_upto_region 9 with (first
          | ((go_at_call 203; (with_reducible refine (WK _ h1).mono ?_); rintro e w' ⟨rfl, hx⟩); have hw3 := (hw0.trans (hx.mono hw0.size)).alloc (hw0.trans (hx.mono hw0.size)).size (.cells #[.int .i64 pf, .int .i64 pi, .bool pz] 202 (0, 0)); have hC3 := heap_alloc ((hx.block _ (lt_of_block hC)).trans hC) (.cells #[.int .i64 pf, .int .i64 pi, .bool pz] 202 (0, 0)); have hP3 := heap_alloc ((hx.block _ (lt_of_block hP)).trans hP) (.cells #[.int .i64 pf, .int .i64 pi, .bool pz] 202 (0, 0)); have hB2 := (hx.block _ (lt_of_block hB)).trans hB; have h3 := (h1.after hx).after ((Below.refl _ _).alloc (Nat.le_refl _) (.cells #[.int .i64 pf, .int .i64 pi, .bool pz] 202 (0, 0))); have b0 := cell_of hB2 0; have lB := lt_of_block hB2; dsimp at b0; have hL3 := heap_new w' (.cells #[.int .i64 pf, .int .i64 pi, .bool pz] 202 (0, 0)); have lP1 := lt_of_block ((hx.block _ (lt_of_block hP)).trans hP); obtain ⟨wv, rfl⟩ : ∃ y : World, y = w' := ⟨_, rfl⟩)
          | ((go_at_call 163; (with_reducible refine (SG _ h3).mono ?_); rintro e w' ⟨rfl, hx⟩); have hw2 := hw3.trans (hx.mono hw3.size); have hC2 := (hx.block _ (lt_of_block hC3)).trans hC3; have hP2 := (hx.block _ (lt_of_block hP3)).trans hP3; have hL2 := (hx.block _ (lt_of_block hL3)).trans hL3; have e0 := cell_of hL2 0; have lL := lt_of_block hL2))
        have hC7 := heap_alloc hC2 (.cells #[.int .i64 k, .int .i64 r, .int .i64 t, .int .i64 l, .int .i64 ep, .int .i64 ca] 32 (0, 0))
        have hP7 := heap_alloc hP2 (.cells #[.int .i64 k, .int .i64 r, .int .i64 t, .int .i64 l, .int .i64 ep, .int .i64 ca] 32 (0, 0))
        have hL7 := heap_alloc hL2 (.cells #[.int .i64 k, .int .i64 r, .int .i64 t, .int .i64 l, .int .i64 ep, .int .i64 ca] 32 (0, 0))
        have hD7 := heap_new w' (.cells #[.int .i64 k, .int .i64 r, .int .i64 t, .int .i64 l, .int .i64 ep, .int .i64 ca] 32 (0, 0))
        have hw7 := hw2.alloc hw2.size (.cells #[.int .i64 k, .int .i64 r, .int .i64 t, .int .i64 l, .int .i64 ep, .int .i64 ca] 32 (0, 0))
        have n3 : w'.heap.size ≠ w.heap.size + 1 := by have := lt_of_block hC2; omega
        have n4 : w'.heap.size ≠ w.heap.size + 1 + 1 := by have := lt_of_block hP2; omega
        clear e0
        generalize w'.alloc (.cells #[.int .i64 k, .int .i64 r, .int .i64 t, .int .i64 l, .int .i64 ep, .int .i64 ca] 32 (0, 0)) = w7 at *
        generalize w'.heap.size = N2 at *
        have n1 : wv.heap.size ≠ w.heap.size + 1 := by omega
        have n2 : wv.heap.size ≠ w.heap.size + 1 + 1 := by omega
        clear lL hL2 hC2 hP2 hw2 hx lP1 h3 hL3 hB2 hP3 hC3 hw3 b0 lB hB hC hP h1 hw0
        generalize wv.heap.size = N1 at *
        have x0 := cell_of hL7 0; have x1 := cell_of hL7 1; have x2 := cell_of hL7 2
        have y0 := cell_of hD7 0; have y1 := cell_of hD7 1; have y2 := cell_of hD7 2; have y3 := cell_of hD7 3; have y4 := cell_of hD7 4; have y5 := cell_of hD7 5
        dsimp at x0 x1 x2 y0 y1 y2 y3 y4 y5
        have g0 := cell_of hC7 0; have g1 := cell_of hC7 1; have g2 := cell_of hC7 2; have g3 := cell_of hC7 3; have g4 := cell_of hC7 4; have g5 := cell_of hC7 5; have frc := frozen_of hC7; have lRc := lt_of_block hC7; dsimp at g0 g1 g2 g3 g4 g5
        have u0 := cell_of hP7 0; have u1 := cell_of hP7 1; have u2 := cell_of hP7 2; have frp := frozen_of hP7; have lRp := lt_of_block hP7; dsimp at u0 u1 u2
        go_region_held3 (fun y => y.cell? ⟨N1, 0, none⟩ = some (.int .i64 pf) ∧ y.cell? ⟨N1, 1, none⟩ = some (.int .i64 pi) ∧ y.cell? ⟨N1, 2, none⟩ = some (.bool pz) ∧ y.cell? ⟨N2, 0, none⟩ = some (.int .i64 k) ∧ y.cell? ⟨N2, 1, none⟩ = some (.int .i64 r) ∧ y.cell? ⟨N2, 2, none⟩ = some (.int .i64 t) ∧ y.cell? ⟨N2, 3, none⟩ = some (.int .i64 l) ∧ y.cell? ⟨N2, 4, none⟩ = some (.int .i64 ep) ∧ y.cell? ⟨N2, 5, none⟩ = some (.int .i64 ca)) ((simp only [cell_drew', cell_other n1, cell_other n2, cell_other n3, cell_other n4]; exact ⟨x0, x1, x2, y0, y1, y2, y3, y4, y5⟩)) (fail)
        all_goals
          go_wp2
          have hn1 : w.heap.size + 1 ≠ w.heap.size + 1 + 1 := by omega
          have hn2 : w.heap.size + 1 + 1 ≠ w.heap.size + 1 := by omega
          have hFC := heap_set_ne (heap_set_ne (heap_set_ne (heap_set (o := 5) (heap_set (o := 4) (heap_set (o := 3) (heap_set (o := 2) (heap_set (o := 1) (heap_set (o := 0) hC7 (.int .i64 k)) (.int .i64 r)) (.int .i64 t)) (.int .i64 l)) (.int .i64 ep)) (.int .i64 ca)) (o := 0) (.int .i64 pf) hn1) (o := 1) (.int .i64 pi) hn1) (o := 2) (.bool pz) hn1
          have hFP := heap_set (o := 2) (heap_set (o := 1) (heap_set (o := 0) (heap_set_ne (heap_set_ne (heap_set_ne (heap_set_ne (heap_set_ne (heap_set_ne hP7 (o := 0) (.int .i64 k) hn2) (o := 1) (.int .i64 r) hn2) (o := 2) (.int .i64 t) hn2) (o := 3) (.int .i64 l) hn2) (o := 4) (.int .i64 ep) hn2) (o := 5) (.int .i64 ca) hn2) (.int .i64 pf)) (.int .i64 pi)) (.bool pz)
          have b1 : w.heap.size ≤ w.heap.size + 1 := Nat.le_succ _
          have b2 : w.heap.size ≤ w.heap.size + 1 + 1 := by omega
          have hwF := ((((((((hw7.setCell (p := ⟨w.heap.size + 1, 0, none⟩) b1 (.int .i64 k)).setCell (p := ⟨w.heap.size + 1, 1, none⟩) b1 (.int .i64 r)).setCell (p := ⟨w.heap.size + 1, 2, none⟩) b1 (.int .i64 t)).setCell (p := ⟨w.heap.size + 1, 3, none⟩) b1 (.int .i64 l)).setCell (p := ⟨w.heap.size + 1, 4, none⟩) b1 (.int .i64 ep)).setCell (p := ⟨w.heap.size + 1, 5, none⟩) b1 (.int .i64 ca)).setCell (p := ⟨w.heap.size + 1 + 1, 0, none⟩) b2 (.int .i64 pf)).setCell (p := ⟨w.heap.size + 1 + 1, 1, none⟩) b2 (.int .i64 pi)).setCell (p := ⟨w.heap.size + 1 + 1, 2, none⟩) b2 (.bool pz)
          refine bodyPost_ret (v := .tuple #[.agg #[.int .i64 k, .int .i64 r, .int .i64 t, .int .i64 l, .int .i64 ep, .int .i64 ca], .agg #[.int .i64 pf, .int .i64 pi, .bool pz], .int .i64 0]) ?_ rfl ⟨rfl, hwF.drew⟩
          have hc1 := cell_of hFC
          have hc2 := cell_of hFP
          simp [results, Tryz.f160, go_sem, hc1, hc2]
    · simp only [hE2, if_false, if_true]
      have hE3 : (E2 == 0) = false := by simpa using hE2
      go_enter Tryz.func160, Tryz.ntmps160
      go_upto_region 6 with (first
        | ((go_at_call 203; (with_reducible refine (WK _ h1).mono ?_); rintro e w' ⟨rfl, hx⟩); have hw3 := (hw0.trans (hx.mono hw0.size)).alloc (hw0.trans (hx.mono hw0.size)).size (.cells #[.int .i64 pf, .int .i64 pi, .bool pz] 202 (0, 0)); have hC3 := heap_alloc ((hx.block _ (lt_of_block hC)).trans hC) (.cells #[.int .i64 pf, .int .i64 pi, .bool pz] 202 (0, 0)); have hP3 := heap_alloc ((hx.block _ (lt_of_block hP)).trans hP) (.cells #[.int .i64 pf, .int .i64 pi, .bool pz] 202 (0, 0)); have hB2 := (hx.block _ (lt_of_block hB)).trans hB; have h3 := (h1.after hx).after ((Below.refl _ _).alloc (Nat.le_refl _) (.cells #[.int .i64 pf, .int .i64 pi, .bool pz] 202 (0, 0))); have b0 := cell_of hB2 0; have lB := lt_of_block hB2; dsimp at b0)
        | ((go_at_call 163; (with_reducible refine (SG _ h3).mono ?_); rintro e w' ⟨rfl, hx⟩); have hw2 := hw3.trans (hx.mono hw3.size); have hC2 := (hx.block _ (lt_of_block hC3)).trans hC3; have hP2 := (hx.block _ (lt_of_block hP3)).trans hP3; have g0 := cell_of hC2 0; have g1 := cell_of hC2 1; have g2 := cell_of hC2 2; have g3 := cell_of hC2 3; have g4 := cell_of hC2 4; have g5 := cell_of hC2 5; have frc := frozen_of hC2; have lRc := lt_of_block hC2; dsimp at g0 g1 g2 g3 g4 g5; have u0 := cell_of hP2 0; have u1 := cell_of hP2 1; have u2 := cell_of hP2 2; have frp := frozen_of hP2; have lRp := lt_of_block hP2; dsimp at u0 u1 u2))
      have hC7 := heap_alloc hC2 (.cells #[.int .i64 k, .int .i64 r, .int .i64 t, .int .i64 l, .int .i64 ep, .int .i64 ca] 32 (0, 0))
      have hP7 := heap_alloc hP2 (.cells #[.int .i64 k, .int .i64 r, .int .i64 t, .int .i64 l, .int .i64 ep, .int .i64 ca] 32 (0, 0))
      have hw7 := hw2.alloc hw2.size (.cells #[.int .i64 k, .int .i64 r, .int .i64 t, .int .i64 l, .int .i64 ep, .int .i64 ca] 32 (0, 0))
      clear g0 g1 g2 g3 g4 g5 frc lRc u0 u1 u2 frp lRp
      generalize w'.alloc (.cells #[.int .i64 k, .int .i64 r, .int .i64 t, .int .i64 l, .int .i64 ep, .int .i64 ca] 32 (0, 0)) = w7 at *
      have g0 := cell_of hC7 0; have g1 := cell_of hC7 1; have g2 := cell_of hC7 2; have g3 := cell_of hC7 3; have g4 := cell_of hC7 4; have g5 := cell_of hC7 5; have frc := frozen_of hC7; have lRc := lt_of_block hC7; dsimp at g0 g1 g2 g3 g4 g5
      have u0 := cell_of hP7 0; have u1 := cell_of hP7 1; have u2 := cell_of hP7 2; have frp := frozen_of hP7; have lRp := lt_of_block hP7; dsimp at u0 u1 u2
      go_wp2
      have hn1 : w.heap.size + 1 ≠ w.heap.size + 1 + 1 := by omega
      have hn2 : w.heap.size + 1 + 1 ≠ w.heap.size + 1 := by omega
      have hFC := heap_set_ne (heap_set_ne (heap_set_ne (heap_set (o := 5) (heap_set (o := 4) (heap_set (o := 3) (heap_set (o := 2) (heap_set (o := 1) (heap_set (o := 0) hC7 (.int .i64 0)) (.int .i64 0)) (.int .i64 0)) (.int .i64 0)) (.int .i64 0)) (.int .i64 0)) (o := 0) (.int .i64 0) hn1) (o := 1) (.int .i64 0) hn1) (o := 2) (.bool false) hn1
      have hFP := heap_set (o := 2) (heap_set (o := 1) (heap_set (o := 0) (heap_set_ne (heap_set_ne (heap_set_ne (heap_set_ne (heap_set_ne (heap_set_ne hP7 (o := 0) (.int .i64 0) hn2) (o := 1) (.int .i64 0) hn2) (o := 2) (.int .i64 0) hn2) (o := 3) (.int .i64 0) hn2) (o := 4) (.int .i64 0) hn2) (o := 5) (.int .i64 0) hn2) (.int .i64 0)) (.int .i64 0)) (.bool false)
      have b1 : w.heap.size ≤ w.heap.size + 1 := Nat.le_succ _
      have b2 : w.heap.size ≤ w.heap.size + 1 + 1 := by omega
      have hwF := ((((((((hw7.setCell (p := ⟨w.heap.size + 1, 0, none⟩) b1 (.int .i64 0)).setCell (p := ⟨w.heap.size + 1, 1, none⟩) b1 (.int .i64 0)).setCell (p := ⟨w.heap.size + 1, 2, none⟩) b1 (.int .i64 0)).setCell (p := ⟨w.heap.size + 1, 3, none⟩) b1 (.int .i64 0)).setCell (p := ⟨w.heap.size + 1, 4, none⟩) b1 (.int .i64 0)).setCell (p := ⟨w.heap.size + 1, 5, none⟩) b1 (.int .i64 0)).setCell (p := ⟨w.heap.size + 1 + 1, 0, none⟩) b2 (.int .i64 0)).setCell (p := ⟨w.heap.size + 1 + 1, 1, none⟩) b2 (.int .i64 0)).setCell (p := ⟨w.heap.size + 1 + 1, 2, none⟩) b2 (.bool false)
      refine bodyPost_ret (v := .tuple #[CapS.zero.v, PlaceS.zero.v, .int .i64 E2]) ?_ rfl ⟨rfl, hwF⟩
      have hc1 := cell_of hFC
      have hc2 := cell_of hFP
      simp [results, Tryz.f160, go_sem, hc1, hc2, PlaceS.zero, PlaceS.v, CapS.zero, CapS.v]
  · simp only [hE, if_false]
    have hE3 : (E == 0) = false := by simpa using hE
    go_enter Tryz.func160, Tryz.ntmps160
    go_upto_region 3 with ((go_at_call 203; (with_reducible refine (WK _ h1).mono ?_); rintro e w' ⟨rfl, hx⟩); have hw2 := hw0.trans (hx.mono hw0.size); have hC2 := (hx.block _ (lt_of_block hC)).trans hC; have hP2 := (hx.block _ (lt_of_block hP)).trans hP; have g0 := cell_of hC2 0; have g1 := cell_of hC2 1; have g2 := cell_of hC2 2; have g3 := cell_of hC2 3; have g4 := cell_of hC2 4; have g5 := cell_of hC2 5; have frc := frozen_of hC2; have lRc := lt_of_block hC2; dsimp at g0 g1 g2 g3 g4 g5; have u0 := cell_of hP2 0; have u1 := cell_of hP2 1; have u2 := cell_of hP2 2; have frp := frozen_of hP2; have lRp := lt_of_block hP2; dsimp at u0 u1 u2)
    have hC7 := heap_alloc hC2 (.cells #[.int .i64 pf, .int .i64 pi, .bool pz] 202 (0, 0))
    have hP7 := heap_alloc hP2 (.cells #[.int .i64 pf, .int .i64 pi, .bool pz] 202 (0, 0))
    have hw7 := hw2.alloc hw2.size (.cells #[.int .i64 pf, .int .i64 pi, .bool pz] 202 (0, 0))
    clear g0 g1 g2 g3 g4 g5 frc lRc u0 u1 u2 frp lRp
    generalize w'.alloc (.cells #[.int .i64 pf, .int .i64 pi, .bool pz] 202 (0, 0)) = w7 at *
    have g0 := cell_of hC7 0; have g1 := cell_of hC7 1; have g2 := cell_of hC7 2; have g3 := cell_of hC7 3; have g4 := cell_of hC7 4; have g5 := cell_of hC7 5; have frc := frozen_of hC7; have lRc := lt_of_block hC7; dsimp at g0 g1 g2 g3 g4 g5
    have u0 := cell_of hP7 0; have u1 := cell_of hP7 1; have u2 := cell_of hP7 2; have frp := frozen_of hP7; have lRp := lt_of_block hP7; dsimp at u0 u1 u2
    go_wp2
    have hn1 : w.heap.size + 1 ≠ w.heap.size + 1 + 1 := by omega
    have hn2 : w.heap.size + 1 + 1 ≠ w.heap.size + 1 := by omega
    have hFC := heap_set_ne (heap_set_ne (heap_set_ne (heap_set (o := 5) (heap_set (o := 4) (heap_set (o := 3) (heap_set (o := 2) (heap_set (o := 1) (heap_set (o := 0) hC7 (.int .i64 0)) (.int .i64 0)) (.int .i64 0)) (.int .i64 0)) (.int .i64 0)) (.int .i64 0)) (o := 0) (.int .i64 0) hn1) (o := 1) (.int .i64 0) hn1) (o := 2) (.bool false) hn1
    have hFP := heap_set (o := 2) (heap_set (o := 1) (heap_set (o := 0) (heap_set_ne (heap_set_ne (heap_set_ne (heap_set_ne (heap_set_ne (heap_set_ne hP7 (o := 0) (.int .i64 0) hn2) (o := 1) (.int .i64 0) hn2) (o := 2) (.int .i64 0) hn2) (o := 3) (.int .i64 0) hn2) (o := 4) (.int .i64 0) hn2) (o := 5) (.int .i64 0) hn2) (.int .i64 0)) (.int .i64 0)) (.bool false)
    have b1 : w.heap.size ≤ w.heap.size + 1 := Nat.le_succ _
    have b2 : w.heap.size ≤ w.heap.size + 1 + 1 := by omega
    have hwF := ((((((((hw7.setCell (p := ⟨w.heap.size + 1, 0, none⟩) b1 (.int .i64 0)).setCell (p := ⟨w.heap.size + 1, 1, none⟩) b1 (.int .i64 0)).setCell (p := ⟨w.heap.size + 1, 2, none⟩) b1 (.int .i64 0)).setCell (p := ⟨w.heap.size + 1, 3, none⟩) b1 (.int .i64 0)).setCell (p := ⟨w.heap.size + 1, 4, none⟩) b1 (.int .i64 0)).setCell (p := ⟨w.heap.size + 1, 5, none⟩) b1 (.int .i64 0)).setCell (p := ⟨w.heap.size + 1 + 1, 0, none⟩) b2 (.int .i64 0)).setCell (p := ⟨w.heap.size + 1 + 1, 1, none⟩) b2 (.int .i64 0)).setCell (p := ⟨w.heap.size + 1 + 1, 2, none⟩) b2 (.bool false)
    refine bodyPost_ret (v := .tuple #[CapS.zero.v, PlaceS.zero.v, .int .i64 E]) ?_ rfl ⟨rfl, hwF⟩
    have hc1 := cell_of hFC
    have hc2 := cell_of hFP
    simp [results, Tryz.f160, go_sem, hc1, hc2, PlaceS.zero, PlaceS.v, CapS.zero, CapS.v]
end Go.Proofs.YtejdfdllgobnhaaGreat
/- Tbl8 -/
set_option linter.unusedVariables false
set_option linter.unusedSimpArgs false
namespace Go.Proofs.YtejdfdllgobnhaaGreat
open Go.RowKit
set_option maxHeartbeats 1000000 in
set_option maxRecDepth 100000 in
theorem tbl_Look (a g : Nat) (m : MemS) (root n : Int) (w : World) (h : MemIs w a g m) (ok : m.Ok) : Calls Tryz.prog 61 #[.pointer (some ⟨a, 0, none⟩), .int .i64 root, .int .i64 n] w fun e w' =>
    e = .returned (.tuple #[(lookC m root n).v, .int .i64 (lookE m root n)]) ∧ Below w.heap.size w w' := by
  have hw0 : Below w.heap.size w (w.alloc (.cells #[.int .i64 0, .int .i64 0, .int .i64 0, .int .i64 0, .int .i64 0, .int .i64 0] 32 (0, 0))) := by (refine Touch.below0 ?_; (repeat' (first | (with_reducible exact Touch.refl _ _) | (with_reducible assumption) | (with_reducible refine Touch.drew ?_) | (with_reducible refine Touch.drewN ?_ _) | (with_reducible refine Touch.alloc ?_ _) | (with_reducible refine Touch.setCell ?_ _ _ _ ?_) | (with_reducible refine Touch.step (by assumption) ?_) | (with_reducible refine Touch.stepT (by assumption) ?_ ?_) | (intro _; first | rfl | trivial | omega | (simp; done) | (simp; omega)) | (intro _ _; first | omega | (simp; done) | (simp; omega)))))
  have hC : (w.alloc (.cells #[.int .i64 0, .int .i64 0, .int .i64 0, .int .i64 0, .int .i64 0, .int .i64 0] 32 (0, 0))).heap[w.heap.size]? = some (.cells #[.int .i64 0, .int .i64 0, .int .i64 0, .int .i64 0, .int .i64 0, .int .i64 0] 32 (0, 0)) := heap_new _ _
  have h1 := h.after hw0
  have LK := fun w h => tbl_look a g m root n w h ok
  generalize lookC m root n = C at *
  generalize lookP m root n = P at *
  generalize lookE m root n = E at *
  obtain ⟨pf, pi, pz⟩ := P
  obtain ⟨k, r, t, l, ep, ca⟩ := C
  unfold PlaceS.v at *
  unfold CapS.v at *
  dsimp only at *
  go_enter Tryz.func61, Tryz.ntmps61
  go_upto_region 3 with ((go_at_call 160; (with_reducible refine (LK _ h1).mono ?_); rintro e w' ⟨rfl, hx⟩); have hw2 := hw0.trans (hx.mono hw0.size); have hC2 := (hx.block _ (lt_of_block hC)).trans hC)
  have hC7 := heap_alloc (heap_alloc hC2 (.cells #[.int .i64 k, .int .i64 r, .int .i64 t, .int .i64 l, .int .i64 ep, .int .i64 ca] 32 (0, 0))) (.cells #[.int .i64 pf, .int .i64 pi, .bool pz] 202 (0, 0))
  have hD7 := heap_alloc (heap_new w' (.cells #[.int .i64 k, .int .i64 r, .int .i64 t, .int .i64 l, .int .i64 ep, .int .i64 ca] 32 (0, 0))) (.cells #[.int .i64 pf, .int .i64 pi, .bool pz] 202 (0, 0))
  have hw6 := hw2.alloc hw2.size (.cells #[.int .i64 k, .int .i64 r, .int .i64 t, .int .i64 l, .int .i64 ep, .int .i64 ca] 32 (0, 0))
  have hw7 := hw6.alloc hw6.size (.cells #[.int .i64 pf, .int .i64 pi, .bool pz] 202 (0, 0))
  have n1 : w'.heap.size ≠ w.heap.size := by have := lt_of_block hC2; omega
  generalize (w'.alloc (.cells #[.int .i64 k, .int .i64 r, .int .i64 t, .int .i64 l, .int .i64 ep, .int .i64 ca] 32 (0, 0))).alloc (.cells #[.int .i64 pf, .int .i64 pi, .bool pz] 202 (0, 0)) = w7 at *
  generalize w'.heap.size = N at *
  have y0 := cell_of hD7 0; have y1 := cell_of hD7 1; have y2 := cell_of hD7 2; have y3 := cell_of hD7 3; have y4 := cell_of hD7 4; have y5 := cell_of hD7 5
  dsimp at y0 y1 y2 y3 y4 y5
  have g0 := cell_of hC7 0; have g1 := cell_of hC7 1; have g2 := cell_of hC7 2; have g3 := cell_of hC7 3; have g4 := cell_of hC7 4; have g5 := cell_of hC7 5; have frc := frozen_of hC7; have lRc := lt_of_block hC7; dsimp at g0 g1 g2 g3 g4 g5
  go_wp2
  have hFC := heap_set (o := 5) (heap_set (o := 4) (heap_set (o := 3) (heap_set (o := 2) (heap_set (o := 1) (heap_set (o := 0) hC7 (.int .i64 k)) (.int .i64 r)) (.int .i64 t)) (.int .i64 l)) (.int .i64 ep)) (.int .i64 ca)
  have hwF := (((((hw7.setCell (p := ⟨w.heap.size, 0, none⟩) (Nat.le_refl _) (.int .i64 k)).setCell (p := ⟨w.heap.size, 1, none⟩) (Nat.le_refl _) (.int .i64 r)).setCell (p := ⟨w.heap.size, 2, none⟩) (Nat.le_refl _) (.int .i64 t)).setCell (p := ⟨w.heap.size, 3, none⟩) (Nat.le_refl _) (.int .i64 l)).setCell (p := ⟨w.heap.size, 4, none⟩) (Nat.le_refl _) (.int .i64 ep)).setCell (p := ⟨w.heap.size, 5, none⟩) (Nat.le_refl _) (.int .i64 ca)
  refine bodyPost_ret (v := .tuple #[.agg #[.int .i64 k, .int .i64 r, .int .i64 t, .int .i64 l, .int .i64 ep, .int .i64 ca], .int .i64 E]) ?_ rfl ⟨rfl, hwF⟩
  have hc1 := cell_of hFC
  simp [results, Tryz.f61, go_sem, hc1]
end Go.Proofs.YtejdfdllgobnhaaGreat
/- Tbl9 -/
set_option linter.unusedVariables false
set_option linter.unusedSimpArgs false
namespace Go.Proofs.YtejdfdllgobnhaaGreat
open Go.RowKit
def consC (leaf : Int) : CapS := ⟨3, 31, leaf, 0, 0, 0⟩
def consE (m : MemS) (root high leaf fl : Int) : Int :=
  if inB high 16 then (if isT m root 0 = true ∧ isT m leaf 1 = true then (if (hdC m root).fz = true ∨ (hdC m leaf).fz = true then 6 else if freeE m root high fl = 0 then (if putOk m root high (consC leaf) then 0 else 1) else freeE m root high fl) else 4) else 1
def MemS.cons (m : MemS) (root high leaf fl : Int) : MemS :=
  if inB high 16 = true ∧ isT m root 0 = true ∧ isT m leaf 1 = true ∧ (hdC m root).fz = false ∧ (hdC m leaf).fz = false ∧ freeE m root high fl = 0 then m.slot root high (consC leaf) else m
set_option maxHeartbeats 1000000 in
set_option maxRecDepth 100000 in
theorem tbl_cons (a g : Nat) (m : MemS) (root high leaf fl : Int) (w : World) (h : MemIs w a g m) (ok : m.Ok) : Calls Tryz.prog 31 #[.pointer (some ⟨a, 0, none⟩), .int .i64 root, .int .i64 high, .int .i64 leaf, .int .i64 fl] w fun e w' =>
    e = .returned (.int .i64 (consE m root high leaf fl)) ∧ MemIs w' a g (m.cons root high leaf fl) ∧ Touch (· = g) w w' := by
  have hw0 : Below w.heap.size w (w.alloc (.cells #[.pointer (some ⟨a, 0, none⟩)] 197 (0, 0))) := by (refine Touch.below0 ?_; (repeat' (first | (with_reducible exact Touch.refl _ _) | (with_reducible assumption) | (with_reducible refine Touch.drew ?_) | (with_reducible refine Touch.drewN ?_ _) | (with_reducible refine Touch.alloc ?_ _) | (with_reducible refine Touch.setCell ?_ _ _ _ ?_) | (with_reducible refine Touch.step (by assumption) ?_) | (with_reducible refine Touch.stepT (by assumption) ?_ ?_) | (intro _; first | rfl | trivial | omega | (simp; done) | (simp; omega)) | (intro _ _; first | omega | (simp; done) | (simp; omega)))))
  have hB : (w.alloc (.cells #[.pointer (some ⟨a, 0, none⟩)] 197 (0, 0))).heap[w.heap.size]? = some (.cells #[.pointer (some ⟨a, 0, none⟩)] 197 (0, 0)) := heap_new _ _
  have h1 := h.after hw0
  have L0 := fun w h => tbl_level a g m root 0 w h ok
  have L1 := fun w h => tbl_level a g m leaf 1 w h ok
  have FR := fun w h => tbl_free a g m root high fl w h ok
  have SP := fun w h => slot_put a g m root high (consC leaf) w h ok
  unfold consE MemS.cons
  unfold consC CapS.v at SP
  dsimp only at SP
  cases hi : inB high 16
  · have hi2 : high < 0 ∨ 16 ≤ high := by
      rcases Decidable.em (high < 0 ∨ 16 ≤ high) with h' | h'
      · exact h'
      · rw [inB_iff.2 ⟨by omega, by omega⟩] at hi; cases hi
    simp only [Bool.false_eq_true, if_false, false_and]
    rcases hi2 with hi2 | hi2
    · go_enter Tryz.func31, Tryz.ntmps31
      go_wp2
      go_ret
      exact ⟨rfl, h, Touch.refl _ _⟩
    · have hi3 : ¬ high < 0 := by omega
      go_enter Tryz.func31, Tryz.ntmps31
      go_wp2
      go_ret
      exact ⟨rfl, h, Touch.refl _ _⟩
  · obtain ⟨i0, i1⟩ := inB_iff.1 hi
    simp only [if_true, true_and]
    generalize hmslot : m.slot root high { k := 3, r := 31, t := leaf, l := 0, e := 0, a := 0 } = M at *
    have hM2 : m.slot root high (consC leaf) = M := hmslot
    have hpk : putOk m root high (consC leaf) = putOk m root high { k := 3, r := 31, t := leaf, l := 0, e := 0, a := 0 } := rfl
    rw [hM2, hpk]
    generalize putOk m root high { k := 3, r := 31, t := leaf, l := 0, e := 0, a := 0 } = pk at *
    clear hmslot hM2 hpk hi
    generalize isT m root 0 = t0 at *
    generalize isT m leaf 1 = t1b at *
    generalize freeE m root high fl = FE at *
    generalize hdC m root = D1 at *
    generalize hdC m leaf = D2 at *
    obtain ⟨k1, l1, z1, t1⟩ := D1
    obtain ⟨k2, l2, z2, t2⟩ := D2
    unfold HeadS.v at *
    dsimp only at *
    cases t0
    · simp only [Bool.false_eq_true, false_and, if_false]
      go_enter Tryz.func31, Tryz.ntmps31
      go_wp2_with (first
        | ((go_at_call 126; (with_reducible refine (L0 _ h1).mono ?_); rintro e w' ⟨rfl, hx⟩); have hw2 := (hw0.trans (hx.mono hw0.size)).alloc (hw0.trans (hx.mono hw0.size)).size (.cells #[.int .i64 k1, .int .i64 l1, .bool z1, .int .i64 t1] 195 (0, 0)); have hB2' := (hx.block _ (lt_of_block hB)).trans hB; have hB2 := heap_alloc hB2' (.cells #[.int .i64 k1, .int .i64 l1, .bool z1, .int .i64 t1] 195 (0, 0)); have hR1 := heap_new w' (.cells #[.int .i64 k1, .int .i64 l1, .bool z1, .int .i64 t1] 195 (0, 0)); have h2 := (h1.after hx).after ((Below.refl _ _).alloc (Nat.le_refl _) (.cells #[.int .i64 k1, .int .i64 l1, .bool z1, .int .i64 t1] 195 (0, 0))); have b0 := cell_of hB2' 0; have lB := lt_of_block hB2'; dsimp at b0)
        | ((go_at_call 126; (with_reducible refine (L1 _ h2).mono ?_); rintro e w' ⟨rfl, hx⟩); have hw3 := (hw2.trans (hx.mono hw2.size)).alloc (hw2.trans (hx.mono hw2.size)).size (.cells #[.int .i64 k2, .int .i64 l2, .bool z2, .int .i64 t2] 195 (0, 0)); have hB3' := (hx.block _ (lt_of_block hB2)).trans hB2; have hR1' := (hx.block _ (lt_of_block hR1)).trans hR1; have h3 := (h2.after hx).after ((Below.refl _ _).alloc (Nat.le_refl _) (.cells #[.int .i64 k2, .int .i64 l2, .bool z2, .int .i64 t2] 195 (0, 0))); have b0 := cell_of hB3' 0; have lB := lt_of_block hB3'; have e2 := cell_of hR1' 2; have lR := lt_of_block hR1'; dsimp at b0 e2))
      go_ret
      exact ⟨rfl, h.after hw3, Touch.of_below hw3⟩
    cases t1b
    · simp only [Bool.false_eq_true, and_false, false_and, if_false]
      go_enter Tryz.func31, Tryz.ntmps31
      go_wp2_with (first
        | ((go_at_call 126; (with_reducible refine (L0 _ h1).mono ?_); rintro e w' ⟨rfl, hx⟩); have hw2 := (hw0.trans (hx.mono hw0.size)).alloc (hw0.trans (hx.mono hw0.size)).size (.cells #[.int .i64 k1, .int .i64 l1, .bool z1, .int .i64 t1] 195 (0, 0)); have hB2' := (hx.block _ (lt_of_block hB)).trans hB; have hB2 := heap_alloc hB2' (.cells #[.int .i64 k1, .int .i64 l1, .bool z1, .int .i64 t1] 195 (0, 0)); have hR1 := heap_new w' (.cells #[.int .i64 k1, .int .i64 l1, .bool z1, .int .i64 t1] 195 (0, 0)); have h2 := (h1.after hx).after ((Below.refl _ _).alloc (Nat.le_refl _) (.cells #[.int .i64 k1, .int .i64 l1, .bool z1, .int .i64 t1] 195 (0, 0))); have b0 := cell_of hB2' 0; have lB := lt_of_block hB2'; dsimp at b0)
        | ((go_at_call 126; (with_reducible refine (L1 _ h2).mono ?_); rintro e w' ⟨rfl, hx⟩); have hw3 := (hw2.trans (hx.mono hw2.size)).alloc (hw2.trans (hx.mono hw2.size)).size (.cells #[.int .i64 k2, .int .i64 l2, .bool z2, .int .i64 t2] 195 (0, 0)); have hB3' := (hx.block _ (lt_of_block hB2)).trans hB2; have hR1' := (hx.block _ (lt_of_block hR1)).trans hR1; have h3 := (h2.after hx).after ((Below.refl _ _).alloc (Nat.le_refl _) (.cells #[.int .i64 k2, .int .i64 l2, .bool z2, .int .i64 t2] 195 (0, 0))); have b0 := cell_of hB3' 0; have lB := lt_of_block hB3'; have e2 := cell_of hR1' 2; have lR := lt_of_block hR1'; dsimp at b0 e2))
      go_ret
      exact ⟨rfl, h.after hw3, Touch.of_below hw3⟩
    simp only [and_self, if_true, true_and]
    cases z1
    · cases z2
      · simp only [Bool.false_eq_true, or_self, if_false, true_and]
        by_cases hF : FE = 0
        · subst hF
          simp only [if_true]
          generalize (if pk = true then (0 : Int) else 1) = EE at *
          go_enter Tryz.func31, Tryz.ntmps31
          go_wp2_with (first
            | ((go_at_call 126; (with_reducible refine (L0 _ h1).mono ?_); rintro e w' ⟨rfl, hx⟩); have hw2 := (hw0.trans (hx.mono hw0.size)).alloc (hw0.trans (hx.mono hw0.size)).size (.cells #[.int .i64 k1, .int .i64 l1, .bool false, .int .i64 t1] 195 (0, 0)); have hB2' := (hx.block _ (lt_of_block hB)).trans hB; have hB2 := heap_alloc hB2' (.cells #[.int .i64 k1, .int .i64 l1, .bool false, .int .i64 t1] 195 (0, 0)); have hR1 := heap_new w' (.cells #[.int .i64 k1, .int .i64 l1, .bool false, .int .i64 t1] 195 (0, 0)); have h2 := (h1.after hx).after ((Below.refl _ _).alloc (Nat.le_refl _) (.cells #[.int .i64 k1, .int .i64 l1, .bool false, .int .i64 t1] 195 (0, 0))); have b0 := cell_of hB2' 0; have lB := lt_of_block hB2'; dsimp at b0)
            | ((go_at_call 126; (with_reducible refine (L1 _ h2).mono ?_); rintro e w' ⟨rfl, hx⟩); have hw3 := (hw2.trans (hx.mono hw2.size)).alloc (hw2.trans (hx.mono hw2.size)).size (.cells #[.int .i64 k2, .int .i64 l2, .bool false, .int .i64 t2] 195 (0, 0)); have hB3' := (hx.block _ (lt_of_block hB2)).trans hB2; have hR1' := (hx.block _ (lt_of_block hR1)).trans hR1; have h3 := (h2.after hx).after ((Below.refl _ _).alloc (Nat.le_refl _) (.cells #[.int .i64 k2, .int .i64 l2, .bool false, .int .i64 t2] 195 (0, 0))); have b0 := cell_of hB3' 0; have lB := lt_of_block hB3'; have e2 := cell_of hR1' 2; have lR := lt_of_block hR1'; dsimp at b0 e2)
            | ((go_at_call 127; (with_reducible refine (FR _ h3).mono ?_); rintro e w' ⟨rfl, hx⟩); have h4 := h3.after hx; have hw4 := hw3.trans (hx.mono hw3.size))
            | ((go_at_call 128; (with_reducible refine (SP _ h4).mono ?_); rintro e w' ⟨rfl, hm, ht⟩)))
          go_ret
          exact ⟨rfl, hm, (Touch.of_below hw4).trans ht⟩
        · simp only [hF, if_false]
          have hF2 : (FE == 0) = false := by simpa using hF
          go_enter Tryz.func31, Tryz.ntmps31
          go_wp2_with (first
            | ((go_at_call 126; (with_reducible refine (L0 _ h1).mono ?_); rintro e w' ⟨rfl, hx⟩); have hw2 := (hw0.trans (hx.mono hw0.size)).alloc (hw0.trans (hx.mono hw0.size)).size (.cells #[.int .i64 k1, .int .i64 l1, .bool false, .int .i64 t1] 195 (0, 0)); have hB2' := (hx.block _ (lt_of_block hB)).trans hB; have hB2 := heap_alloc hB2' (.cells #[.int .i64 k1, .int .i64 l1, .bool false, .int .i64 t1] 195 (0, 0)); have hR1 := heap_new w' (.cells #[.int .i64 k1, .int .i64 l1, .bool false, .int .i64 t1] 195 (0, 0)); have h2 := (h1.after hx).after ((Below.refl _ _).alloc (Nat.le_refl _) (.cells #[.int .i64 k1, .int .i64 l1, .bool false, .int .i64 t1] 195 (0, 0))); have b0 := cell_of hB2' 0; have lB := lt_of_block hB2'; dsimp at b0)
            | ((go_at_call 126; (with_reducible refine (L1 _ h2).mono ?_); rintro e w' ⟨rfl, hx⟩); have hw3 := (hw2.trans (hx.mono hw2.size)).alloc (hw2.trans (hx.mono hw2.size)).size (.cells #[.int .i64 k2, .int .i64 l2, .bool false, .int .i64 t2] 195 (0, 0)); have hB3' := (hx.block _ (lt_of_block hB2)).trans hB2; have hR1' := (hx.block _ (lt_of_block hR1)).trans hR1; have h3 := (h2.after hx).after ((Below.refl _ _).alloc (Nat.le_refl _) (.cells #[.int .i64 k2, .int .i64 l2, .bool false, .int .i64 t2] 195 (0, 0))); have b0 := cell_of hB3' 0; have lB := lt_of_block hB3'; have e2 := cell_of hR1' 2; have lR := lt_of_block hR1'; dsimp at b0 e2)
            | ((go_at_call 127; (with_reducible refine (FR _ h3).mono ?_); rintro e w' ⟨rfl, hx⟩); have h4 := h3.after hx; have hw4 := hw3.trans (hx.mono hw3.size)))
          go_ret
          exact ⟨rfl, h.after hw4, Touch.of_below hw4⟩
      · simp only [Bool.false_eq_true, or_true, if_true, false_and, and_false, if_false, reduceCtorEq]
        go_enter Tryz.func31, Tryz.ntmps31
        go_wp2_with (first
          | ((go_at_call 126; (with_reducible refine (L0 _ h1).mono ?_); rintro e w' ⟨rfl, hx⟩); have hw2 := (hw0.trans (hx.mono hw0.size)).alloc (hw0.trans (hx.mono hw0.size)).size (.cells #[.int .i64 k1, .int .i64 l1, .bool false, .int .i64 t1] 195 (0, 0)); have hB2' := (hx.block _ (lt_of_block hB)).trans hB; have hB2 := heap_alloc hB2' (.cells #[.int .i64 k1, .int .i64 l1, .bool false, .int .i64 t1] 195 (0, 0)); have hR1 := heap_new w' (.cells #[.int .i64 k1, .int .i64 l1, .bool false, .int .i64 t1] 195 (0, 0)); have h2 := (h1.after hx).after ((Below.refl _ _).alloc (Nat.le_refl _) (.cells #[.int .i64 k1, .int .i64 l1, .bool false, .int .i64 t1] 195 (0, 0))); have b0 := cell_of hB2' 0; have lB := lt_of_block hB2'; dsimp at b0)
          | ((go_at_call 126; (with_reducible refine (L1 _ h2).mono ?_); rintro e w' ⟨rfl, hx⟩); have hw3 := (hw2.trans (hx.mono hw2.size)).alloc (hw2.trans (hx.mono hw2.size)).size (.cells #[.int .i64 k2, .int .i64 l2, .bool true, .int .i64 t2] 195 (0, 0)); have hB3' := (hx.block _ (lt_of_block hB2)).trans hB2; have hR1' := (hx.block _ (lt_of_block hR1)).trans hR1; have h3 := (h2.after hx).after ((Below.refl _ _).alloc (Nat.le_refl _) (.cells #[.int .i64 k2, .int .i64 l2, .bool true, .int .i64 t2] 195 (0, 0))); have b0 := cell_of hB3' 0; have lB := lt_of_block hB3'; have e2 := cell_of hR1' 2; have lR := lt_of_block hR1'; dsimp at b0 e2))
        go_ret
        exact ⟨rfl, h.after hw3, Touch.of_below hw3⟩
    · simp only [true_or, if_true, false_and, if_false, reduceCtorEq]
      go_enter Tryz.func31, Tryz.ntmps31
      go_wp2_with (first
        | ((go_at_call 126; (with_reducible refine (L0 _ h1).mono ?_); rintro e w' ⟨rfl, hx⟩); have hw2 := (hw0.trans (hx.mono hw0.size)).alloc (hw0.trans (hx.mono hw0.size)).size (.cells #[.int .i64 k1, .int .i64 l1, .bool true, .int .i64 t1] 195 (0, 0)); have hB2' := (hx.block _ (lt_of_block hB)).trans hB; have hB2 := heap_alloc hB2' (.cells #[.int .i64 k1, .int .i64 l1, .bool true, .int .i64 t1] 195 (0, 0)); have hR1 := heap_new w' (.cells #[.int .i64 k1, .int .i64 l1, .bool true, .int .i64 t1] 195 (0, 0)); have h2 := (h1.after hx).after ((Below.refl _ _).alloc (Nat.le_refl _) (.cells #[.int .i64 k1, .int .i64 l1, .bool true, .int .i64 t1] 195 (0, 0))); have b0 := cell_of hB2' 0; have lB := lt_of_block hB2'; dsimp at b0)
        | ((go_at_call 126; (with_reducible refine (L1 _ h2).mono ?_); rintro e w' ⟨rfl, hx⟩); have hw3 := (hw2.trans (hx.mono hw2.size)).alloc (hw2.trans (hx.mono hw2.size)).size (.cells #[.int .i64 k2, .int .i64 l2, .bool z2, .int .i64 t2] 195 (0, 0)); have hB3' := (hx.block _ (lt_of_block hB2)).trans hB2; have hR1' := (hx.block _ (lt_of_block hR1)).trans hR1; have h3 := (h2.after hx).after ((Below.refl _ _).alloc (Nat.le_refl _) (.cells #[.int .i64 k2, .int .i64 l2, .bool z2, .int .i64 t2] 195 (0, 0))); have b0 := cell_of hB3' 0; have lB := lt_of_block hB3'; have e2 := cell_of hR1' 2; have lR := lt_of_block hR1'; dsimp at b0 e2))
      go_ret
      exact ⟨rfl, h.after hw3, Touch.of_below hw3⟩
end Go.Proofs.YtejdfdllgobnhaaGreat
