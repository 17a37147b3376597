/- Tables of capabilities (package captbl): Put. -/
import Derived.Test.YtejdfdllgobnhaaTbl5
set_option linter.unusedVariables false
set_option linter.unusedSimpArgs false
namespace Go.Proofs.Ytejdfdllgobnhaa
open Go.RowKit
def tputE (m : MemS) (root n : Int) (c : CapS) (fl : Int) : Int := if c.right = true ∧ 1 < c.k then (if roomE m root n fl = 0 then (if putOk m (roomP m root n).f (roomP m root n).i c then 0 else 1) else roomE m root n fl) else 1
def MemS.tput (m : MemS) (root n : Int) (c : CapS) (fl : Int) : MemS := if c.right = true ∧ 1 < c.k ∧ roomE m root n fl = 0 then m.slot (roomP m root n).f (roomP m root n).i c else m
set_option maxHeartbeats 1000000 in
set_option maxRecDepth 100000 in
theorem tbl_put (a g : Nat) (m : MemS) (root n fl : Int) (c : CapS) (w : World) (h : MemIs w a g m) (ok : m.Ok) : Calls Try.prog 34 #[.pointer (some ⟨a, 0, none⟩), .int .i64 root, .int .i64 n, c.v, .int .i64 fl] w fun e w' =>
    e = .returned (.int .i64 (tputE m root n c fl)) ∧ MemIs w' a g (m.tput root n c fl) ∧ Touch (· = g) w w' := by
  have RM := fun w h => tbl_room a g m root n fl w h ok
  have CK := fun w => cap_check c w
  have SP := fun w h => slot_put a g m (roomP m root n).f (roomP m root n).i c w h ok
  unfold tputE MemS.tput
  generalize putOk m (roomP m root n).f (roomP m root n).i c = pk at *
  generalize m.slot (roomP m root n).f (roomP m root n).i c = M at *
  generalize roomP m root n = P at *
  generalize roomE m root n fl = E at *
  generalize c.right = cr at *
  obtain ⟨k, r, t, l, ep, ca⟩ := c
  obtain ⟨pf, pi, pz⟩ := P
  unfold CapS.v at *
  unfold PlaceS.v at *
  dsimp only at *
  have hw0 : Below w.heap.size w (w.alloc (.cells #[.int .i64 k, .int .i64 r, .int .i64 t, .int .i64 l, .int .i64 ep, .int .i64 ca] 57 (0, 0))) := by (refine Touch.below0 ?_; (repeat' (first | (with_reducible exact Touch.refl _ _) | (with_reducible assumption) | (with_reducible refine Touch.drew ?_) | (with_reducible refine Touch.drewN ?_ _) | (with_reducible refine Touch.alloc ?_ _) | (with_reducible refine Touch.setCell ?_ _ _ _ ?_) | (with_reducible refine Touch.step (by assumption) ?_) | (with_reducible refine Touch.stepT (by assumption) ?_ ?_) | (intro _; first | rfl | trivial | omega | (simp; done) | (simp; omega)) | (intro _ _; first | omega | (simp; done) | (simp; omega)))))
  have hB : (w.alloc (.cells #[.int .i64 k, .int .i64 r, .int .i64 t, .int .i64 l, .int .i64 ep, .int .i64 ca] 57 (0, 0))).heap[w.heap.size]? = some (.cells #[.int .i64 k, .int .i64 r, .int .i64 t, .int .i64 l, .int .i64 ep, .int .i64 ca] 57 (0, 0)) := heap_new _ _
  have h1 := h.after hw0
  cases cr
  · simp only [Bool.false_eq_true, false_and, if_false] at CK ⊢
    clear SP
    go_enter Try.func34, Try.ntmps34
    go_wp2_with ((go_at_call 71; (with_reducible refine (CK _).mono ?_); rintro e w' ⟨rfl, hx⟩))
    go_ret
    have hb := hw0.trans (hx.mono hw0.size)
    exact ⟨rfl, h.after hb, Touch.of_below hb⟩
  · by_cases hk : 1 < k
    · simp only [hk, and_self, true_and, if_true] at CK ⊢
      by_cases hE : E = 0
      · subst hE
        simp only [if_true]
        generalize (if pk = true then (0 : Int) else 1) = EE at *
        go_enter Try.func34, Try.ntmps34
        go_wp2_with (first
          | ((go_at_call 71; (with_reducible refine (CK _).mono ?_); rintro e w' ⟨rfl, hx⟩); have hw2 := hw0.trans (hx.mono hw0.size); have hB2 := (hx.block _ (lt_of_block hB)).trans hB; have h2 := h1.after hx; have g0 := cell_of hB2 0; have g1 := cell_of hB2 1; have g2 := cell_of hB2 2; have g3 := cell_of hB2 3; have g4 := cell_of hB2 4; have g5 := cell_of hB2 5; have lB := lt_of_block hB2; dsimp at g0 g1 g2 g3 g4 g5)
          | ((go_at_call 72; (with_reducible refine (RM _ h2).mono ?_); rintro e w' ⟨rfl, hx⟩); have hw3 := (hw2.trans (hx.mono hw2.size)).alloc (hw2.trans (hx.mono hw2.size)).size (.cells #[.int .i64 pf, .int .i64 pi, .bool pz] 121 (0, 0)); have hB3 := (hx.block _ (lt_of_block hB2)).trans hB2; have h3 := (h2.after hx).after ((Below.refl _ _).alloc (Nat.le_refl _) (.cells #[.int .i64 pf, .int .i64 pi, .bool pz] 121 (0, 0))); have g0 := cell_of hB3 0; have g1 := cell_of hB3 1; have g2 := cell_of hB3 2; have g3 := cell_of hB3 3; have g4 := cell_of hB3 4; have g5 := cell_of hB3 5; have lB := lt_of_block hB3; dsimp at g0 g1 g2 g3 g4 g5)
          | ((go_at_call 70; (with_reducible refine (SP _ h3).mono ?_); rintro e w' ⟨rfl, hm, ht⟩)))
        go_ret
        exact ⟨rfl, hm, (Touch.of_below hw3).trans ht⟩
      · simp only [hE, if_false]
        have hE2 : (E == 0) = false := by simpa using hE
        clear SP
        go_enter Try.func34, Try.ntmps34
        go_wp2_with (first
          | ((go_at_call 71; (with_reducible refine (CK _).mono ?_); rintro e w' ⟨rfl, hx⟩); have hw2 := hw0.trans (hx.mono hw0.size); have hB2 := (hx.block _ (lt_of_block hB)).trans hB; have h2 := h1.after hx; have g0 := cell_of hB2 0; have g1 := cell_of hB2 1; have g2 := cell_of hB2 2; have g3 := cell_of hB2 3; have g4 := cell_of hB2 4; have g5 := cell_of hB2 5; have lB := lt_of_block hB2; dsimp at g0 g1 g2 g3 g4 g5)
          | ((go_at_call 72; (with_reducible refine (RM _ h2).mono ?_); rintro e w' ⟨rfl, hx⟩); have hw3 := (hw2.trans (hx.mono hw2.size)).alloc (hw2.trans (hx.mono hw2.size)).size (.cells #[.int .i64 pf, .int .i64 pi, .bool pz] 121 (0, 0))))
        go_ret
        exact ⟨rfl, h.after hw3, Touch.of_below hw3⟩
    · simp only [hk, and_false, false_and, if_false, if_true] at CK ⊢
      have hk2 : k ≤ 1 := by omega
      clear SP hk
      go_enter Try.func34, Try.ntmps34
      go_wp2_with ((go_at_call 71; (with_reducible refine (CK _).mono ?_); rintro e w' ⟨rfl, hx⟩); have hw2 := hw0.trans (hx.mono hw0.size); have hB2 := (hx.block _ (lt_of_block hB)).trans hB; have g0 := cell_of hB2 0; have g1 := cell_of hB2 1; have g2 := cell_of hB2 2; have g3 := cell_of hB2 3; have g4 := cell_of hB2 4; have g5 := cell_of hB2 5; have lB := lt_of_block hB2; dsimp at g0 g1 g2 g3 g4 g5)
      go_ret
      exact ⟨rfl, h.after hw2, Touch.of_below hw2⟩
end Go.Proofs.Ytejdfdllgobnhaa
