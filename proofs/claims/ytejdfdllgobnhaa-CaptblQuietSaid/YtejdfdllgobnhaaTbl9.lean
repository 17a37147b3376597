/- Tables of capabilities (package captbl): Cons. -/
import Derived.Test.YtejdfdllgobnhaaTbl8
set_option linter.unusedVariables false
set_option linter.unusedSimpArgs false
namespace Go.Proofs.Ytejdfdllgobnhaa
open Go.RowKit
def consC (leaf : Int) : CapS := ⟨3, 31, leaf, 0, 0, 0⟩
def consE (m : MemS) (root high leaf fl : Int) : Int :=
  if inB high 16 then (if isT m root 0 = true ∧ isT m leaf 1 = true then (if (hdC m root).fz = true ∨ (hdC m leaf).fz = true then 6 else if freeE m root high fl = 0 then (if putOk m root high (consC leaf) then 0 else 1) else freeE m root high fl) else 4) else 1
def MemS.cons (m : MemS) (root high leaf fl : Int) : MemS :=
  if inB high 16 = true ∧ isT m root 0 = true ∧ isT m leaf 1 = true ∧ (hdC m root).fz = false ∧ (hdC m leaf).fz = false ∧ freeE m root high fl = 0 then m.slot root high (consC leaf) else m
set_option maxHeartbeats 1000000 in
set_option maxRecDepth 100000 in
theorem tbl_cons (a g : Nat) (m : MemS) (root high leaf fl : Int) (w : World) (h : MemIs w a g m) (ok : m.Ok) : Calls Try.prog 33 #[.pointer (some ⟨a, 0, none⟩), .int .i64 root, .int .i64 high, .int .i64 leaf, .int .i64 fl] w fun e w' =>
    e = .returned (.int .i64 (consE m root high leaf fl)) ∧ MemIs w' a g (m.cons root high leaf fl) ∧ Touch (· = g) w w' := by
  have hw0 : Below w.heap.size w (w.alloc (.cells #[.pointer (some ⟨a, 0, none⟩)] 115 (0, 0))) := by (refine Touch.below0 ?_; (repeat' (first | (with_reducible exact Touch.refl _ _) | (with_reducible assumption) | (with_reducible refine Touch.drew ?_) | (with_reducible refine Touch.drewN ?_ _) | (with_reducible refine Touch.alloc ?_ _) | (with_reducible refine Touch.setCell ?_ _ _ _ ?_) | (with_reducible refine Touch.step (by assumption) ?_) | (with_reducible refine Touch.stepT (by assumption) ?_ ?_) | (intro _; first | rfl | trivial | omega | (simp; done) | (simp; omega)) | (intro _ _; first | omega | (simp; done) | (simp; omega)))))
  have hB : (w.alloc (.cells #[.pointer (some ⟨a, 0, none⟩)] 115 (0, 0))).heap[w.heap.size]? = some (.cells #[.pointer (some ⟨a, 0, none⟩)] 115 (0, 0)) := heap_new _ _
  have h1 := h.after hw0
  have L0 := fun w h => tbl_level a g m root 0 w h ok
  have L1 := fun w h => tbl_level a g m leaf 1 w h ok
  have FR := fun w h => tbl_free a g m root high fl w h ok
  have SP := fun w h => slot_put a g m root high (consC leaf) w h ok
  unfold consE MemS.cons
  unfold consC CapS.v at SP
  dsimp only at SP
  cases hi : inB high 16
  · have hi2 : high < 0 ∨ 16 ≤ high := by
      rcases Decidable.em (high < 0 ∨ 16 ≤ high) with h' | h'
      · exact h'
      · rw [inB_iff.2 ⟨by omega, by omega⟩] at hi; cases hi
    simp only [Bool.false_eq_true, if_false, false_and]
    rcases hi2 with hi2 | hi2
    · go_enter Try.func33, Try.ntmps33
      go_wp2
      go_ret
      exact ⟨rfl, h, Touch.refl _ _⟩
    · have hi3 : ¬ high < 0 := by omega
      go_enter Try.func33, Try.ntmps33
      go_wp2
      go_ret
      exact ⟨rfl, h, Touch.refl _ _⟩
  · obtain ⟨i0, i1⟩ := inB_iff.1 hi
    simp only [if_true, true_and]
    generalize hmslot : m.slot root high { k := 3, r := 31, t := leaf, l := 0, e := 0, a := 0 } = M at *
    have hM2 : m.slot root high (consC leaf) = M := hmslot
    have hpk : putOk m root high (consC leaf) = putOk m root high { k := 3, r := 31, t := leaf, l := 0, e := 0, a := 0 } := rfl
    rw [hM2, hpk]
    generalize putOk m root high { k := 3, r := 31, t := leaf, l := 0, e := 0, a := 0 } = pk at *
    clear hmslot hM2 hpk hi
    generalize isT m root 0 = t0 at *
    generalize isT m leaf 1 = t1b at *
    generalize freeE m root high fl = FE at *
    generalize hdC m root = D1 at *
    generalize hdC m leaf = D2 at *
    obtain ⟨k1, l1, z1, t1⟩ := D1
    obtain ⟨k2, l2, z2, t2⟩ := D2
    unfold HeadS.v at *
    dsimp only at *
    cases t0
    · simp only [Bool.false_eq_true, false_and, if_false]
      go_enter Try.func33, Try.ntmps33
      go_wp2_with (first
        | ((go_at_call 68; (with_reducible refine (L0 _ h1).mono ?_); rintro e w' ⟨rfl, hx⟩); have hw2 := (hw0.trans (hx.mono hw0.size)).alloc (hw0.trans (hx.mono hw0.size)).size (.cells #[.int .i64 k1, .int .i64 l1, .bool z1, .int .i64 t1] 113 (0, 0)); have hB2' := (hx.block _ (lt_of_block hB)).trans hB; have hB2 := heap_alloc hB2' (.cells #[.int .i64 k1, .int .i64 l1, .bool z1, .int .i64 t1] 113 (0, 0)); have hR1 := heap_new w' (.cells #[.int .i64 k1, .int .i64 l1, .bool z1, .int .i64 t1] 113 (0, 0)); have h2 := (h1.after hx).after ((Below.refl _ _).alloc (Nat.le_refl _) (.cells #[.int .i64 k1, .int .i64 l1, .bool z1, .int .i64 t1] 113 (0, 0))); have b0 := cell_of hB2' 0; have lB := lt_of_block hB2'; dsimp at b0)
        | ((go_at_call 68; (with_reducible refine (L1 _ h2).mono ?_); rintro e w' ⟨rfl, hx⟩); have hw3 := (hw2.trans (hx.mono hw2.size)).alloc (hw2.trans (hx.mono hw2.size)).size (.cells #[.int .i64 k2, .int .i64 l2, .bool z2, .int .i64 t2] 113 (0, 0)); have hB3' := (hx.block _ (lt_of_block hB2)).trans hB2; have hR1' := (hx.block _ (lt_of_block hR1)).trans hR1; have h3 := (h2.after hx).after ((Below.refl _ _).alloc (Nat.le_refl _) (.cells #[.int .i64 k2, .int .i64 l2, .bool z2, .int .i64 t2] 113 (0, 0))); have b0 := cell_of hB3' 0; have lB := lt_of_block hB3'; have e2 := cell_of hR1' 2; have lR := lt_of_block hR1'; dsimp at b0 e2))
      go_ret
      exact ⟨rfl, h.after hw3, Touch.of_below hw3⟩
    cases t1b
    · simp only [Bool.false_eq_true, and_false, false_and, if_false]
      go_enter Try.func33, Try.ntmps33
      go_wp2_with (first
        | ((go_at_call 68; (with_reducible refine (L0 _ h1).mono ?_); rintro e w' ⟨rfl, hx⟩); have hw2 := (hw0.trans (hx.mono hw0.size)).alloc (hw0.trans (hx.mono hw0.size)).size (.cells #[.int .i64 k1, .int .i64 l1, .bool z1, .int .i64 t1] 113 (0, 0)); have hB2' := (hx.block _ (lt_of_block hB)).trans hB; have hB2 := heap_alloc hB2' (.cells #[.int .i64 k1, .int .i64 l1, .bool z1, .int .i64 t1] 113 (0, 0)); have hR1 := heap_new w' (.cells #[.int .i64 k1, .int .i64 l1, .bool z1, .int .i64 t1] 113 (0, 0)); have h2 := (h1.after hx).after ((Below.refl _ _).alloc (Nat.le_refl _) (.cells #[.int .i64 k1, .int .i64 l1, .bool z1, .int .i64 t1] 113 (0, 0))); have b0 := cell_of hB2' 0; have lB := lt_of_block hB2'; dsimp at b0)
        | ((go_at_call 68; (with_reducible refine (L1 _ h2).mono ?_); rintro e w' ⟨rfl, hx⟩); have hw3 := (hw2.trans (hx.mono hw2.size)).alloc (hw2.trans (hx.mono hw2.size)).size (.cells #[.int .i64 k2, .int .i64 l2, .bool z2, .int .i64 t2] 113 (0, 0)); have hB3' := (hx.block _ (lt_of_block hB2)).trans hB2; have hR1' := (hx.block _ (lt_of_block hR1)).trans hR1; have h3 := (h2.after hx).after ((Below.refl _ _).alloc (Nat.le_refl _) (.cells #[.int .i64 k2, .int .i64 l2, .bool z2, .int .i64 t2] 113 (0, 0))); have b0 := cell_of hB3' 0; have lB := lt_of_block hB3'; have e2 := cell_of hR1' 2; have lR := lt_of_block hR1'; dsimp at b0 e2))
      go_ret
      exact ⟨rfl, h.after hw3, Touch.of_below hw3⟩
    simp only [and_self, if_true, true_and]
    cases z1
    · cases z2
      · simp only [Bool.false_eq_true, or_self, if_false, true_and]
        by_cases hF : FE = 0
        · subst hF
          simp only [if_true]
          generalize (if pk = true then (0 : Int) else 1) = EE at *
          go_enter Try.func33, Try.ntmps33
          go_wp2_with (first
            | ((go_at_call 68; (with_reducible refine (L0 _ h1).mono ?_); rintro e w' ⟨rfl, hx⟩); have hw2 := (hw0.trans (hx.mono hw0.size)).alloc (hw0.trans (hx.mono hw0.size)).size (.cells #[.int .i64 k1, .int .i64 l1, .bool false, .int .i64 t1] 113 (0, 0)); have hB2' := (hx.block _ (lt_of_block hB)).trans hB; have hB2 := heap_alloc hB2' (.cells #[.int .i64 k1, .int .i64 l1, .bool false, .int .i64 t1] 113 (0, 0)); have hR1 := heap_new w' (.cells #[.int .i64 k1, .int .i64 l1, .bool false, .int .i64 t1] 113 (0, 0)); have h2 := (h1.after hx).after ((Below.refl _ _).alloc (Nat.le_refl _) (.cells #[.int .i64 k1, .int .i64 l1, .bool false, .int .i64 t1] 113 (0, 0))); have b0 := cell_of hB2' 0; have lB := lt_of_block hB2'; dsimp at b0)
            | ((go_at_call 68; (with_reducible refine (L1 _ h2).mono ?_); rintro e w' ⟨rfl, hx⟩); have hw3 := (hw2.trans (hx.mono hw2.size)).alloc (hw2.trans (hx.mono hw2.size)).size (.cells #[.int .i64 k2, .int .i64 l2, .bool false, .int .i64 t2] 113 (0, 0)); have hB3' := (hx.block _ (lt_of_block hB2)).trans hB2; have hR1' := (hx.block _ (lt_of_block hR1)).trans hR1; have h3 := (h2.after hx).after ((Below.refl _ _).alloc (Nat.le_refl _) (.cells #[.int .i64 k2, .int .i64 l2, .bool false, .int .i64 t2] 113 (0, 0))); have b0 := cell_of hB3' 0; have lB := lt_of_block hB3'; have e2 := cell_of hR1' 2; have lR := lt_of_block hR1'; dsimp at b0 e2)
            | ((go_at_call 69; (with_reducible refine (FR _ h3).mono ?_); rintro e w' ⟨rfl, hx⟩); have h4 := h3.after hx; have hw4 := hw3.trans (hx.mono hw3.size))
            | ((go_at_call 70; (with_reducible refine (SP _ h4).mono ?_); rintro e w' ⟨rfl, hm, ht⟩)))
          go_ret
          exact ⟨rfl, hm, (Touch.of_below hw4).trans ht⟩
        · simp only [hF, if_false]
          have hF2 : (FE == 0) = false := by simpa using hF
          go_enter Try.func33, Try.ntmps33
          go_wp2_with (first
            | ((go_at_call 68; (with_reducible refine (L0 _ h1).mono ?_); rintro e w' ⟨rfl, hx⟩); have hw2 := (hw0.trans (hx.mono hw0.size)).alloc (hw0.trans (hx.mono hw0.size)).size (.cells #[.int .i64 k1, .int .i64 l1, .bool false, .int .i64 t1] 113 (0, 0)); have hB2' := (hx.block _ (lt_of_block hB)).trans hB; have hB2 := heap_alloc hB2' (.cells #[.int .i64 k1, .int .i64 l1, .bool false, .int .i64 t1] 113 (0, 0)); have hR1 := heap_new w' (.cells #[.int .i64 k1, .int .i64 l1, .bool false, .int .i64 t1] 113 (0, 0)); have h2 := (h1.after hx).after ((Below.refl _ _).alloc (Nat.le_refl _) (.cells #[.int .i64 k1, .int .i64 l1, .bool false, .int .i64 t1] 113 (0, 0))); have b0 := cell_of hB2' 0; have lB := lt_of_block hB2'; dsimp at b0)
            | ((go_at_call 68; (with_reducible refine (L1 _ h2).mono ?_); rintro e w' ⟨rfl, hx⟩); have hw3 := (hw2.trans (hx.mono hw2.size)).alloc (hw2.trans (hx.mono hw2.size)).size (.cells #[.int .i64 k2, .int .i64 l2, .bool false, .int .i64 t2] 113 (0, 0)); have hB3' := (hx.block _ (lt_of_block hB2)).trans hB2; have hR1' := (hx.block _ (lt_of_block hR1)).trans hR1; have h3 := (h2.after hx).after ((Below.refl _ _).alloc (Nat.le_refl _) (.cells #[.int .i64 k2, .int .i64 l2, .bool false, .int .i64 t2] 113 (0, 0))); have b0 := cell_of hB3' 0; have lB := lt_of_block hB3'; have e2 := cell_of hR1' 2; have lR := lt_of_block hR1'; dsimp at b0 e2)
            | ((go_at_call 69; (with_reducible refine (FR _ h3).mono ?_); rintro e w' ⟨rfl, hx⟩); have h4 := h3.after hx; have hw4 := hw3.trans (hx.mono hw3.size)))
          go_ret
          exact ⟨rfl, h.after hw4, Touch.of_below hw4⟩
      · simp only [Bool.false_eq_true, or_true, if_true, false_and, and_false, if_false, reduceCtorEq]
        go_enter Try.func33, Try.ntmps33
        go_wp2_with (first
          | ((go_at_call 68; (with_reducible refine (L0 _ h1).mono ?_); rintro e w' ⟨rfl, hx⟩); have hw2 := (hw0.trans (hx.mono hw0.size)).alloc (hw0.trans (hx.mono hw0.size)).size (.cells #[.int .i64 k1, .int .i64 l1, .bool false, .int .i64 t1] 113 (0, 0)); have hB2' := (hx.block _ (lt_of_block hB)).trans hB; have hB2 := heap_alloc hB2' (.cells #[.int .i64 k1, .int .i64 l1, .bool false, .int .i64 t1] 113 (0, 0)); have hR1 := heap_new w' (.cells #[.int .i64 k1, .int .i64 l1, .bool false, .int .i64 t1] 113 (0, 0)); have h2 := (h1.after hx).after ((Below.refl _ _).alloc (Nat.le_refl _) (.cells #[.int .i64 k1, .int .i64 l1, .bool false, .int .i64 t1] 113 (0, 0))); have b0 := cell_of hB2' 0; have lB := lt_of_block hB2'; dsimp at b0)
          | ((go_at_call 68; (with_reducible refine (L1 _ h2).mono ?_); rintro e w' ⟨rfl, hx⟩); have hw3 := (hw2.trans (hx.mono hw2.size)).alloc (hw2.trans (hx.mono hw2.size)).size (.cells #[.int .i64 k2, .int .i64 l2, .bool true, .int .i64 t2] 113 (0, 0)); have hB3' := (hx.block _ (lt_of_block hB2)).trans hB2; have hR1' := (hx.block _ (lt_of_block hR1)).trans hR1; have h3 := (h2.after hx).after ((Below.refl _ _).alloc (Nat.le_refl _) (.cells #[.int .i64 k2, .int .i64 l2, .bool true, .int .i64 t2] 113 (0, 0))); have b0 := cell_of hB3' 0; have lB := lt_of_block hB3'; have e2 := cell_of hR1' 2; have lR := lt_of_block hR1'; dsimp at b0 e2))
        go_ret
        exact ⟨rfl, h.after hw3, Touch.of_below hw3⟩
    · simp only [true_or, if_true, false_and, if_false, reduceCtorEq]
      go_enter Try.func33, Try.ntmps33
      go_wp2_with (first
        | ((go_at_call 68; (with_reducible refine (L0 _ h1).mono ?_); rintro e w' ⟨rfl, hx⟩); have hw2 := (hw0.trans (hx.mono hw0.size)).alloc (hw0.trans (hx.mono hw0.size)).size (.cells #[.int .i64 k1, .int .i64 l1, .bool true, .int .i64 t1] 113 (0, 0)); have hB2' := (hx.block _ (lt_of_block hB)).trans hB; have hB2 := heap_alloc hB2' (.cells #[.int .i64 k1, .int .i64 l1, .bool true, .int .i64 t1] 113 (0, 0)); have hR1 := heap_new w' (.cells #[.int .i64 k1, .int .i64 l1, .bool true, .int .i64 t1] 113 (0, 0)); have h2 := (h1.after hx).after ((Below.refl _ _).alloc (Nat.le_refl _) (.cells #[.int .i64 k1, .int .i64 l1, .bool true, .int .i64 t1] 113 (0, 0))); have b0 := cell_of hB2' 0; have lB := lt_of_block hB2'; dsimp at b0)
        | ((go_at_call 68; (with_reducible refine (L1 _ h2).mono ?_); rintro e w' ⟨rfl, hx⟩); have hw3 := (hw2.trans (hx.mono hw2.size)).alloc (hw2.trans (hx.mono hw2.size)).size (.cells #[.int .i64 k2, .int .i64 l2, .bool z2, .int .i64 t2] 113 (0, 0)); have hB3' := (hx.block _ (lt_of_block hB2)).trans hB2; have hR1' := (hx.block _ (lt_of_block hR1)).trans hR1; have h3 := (h2.after hx).after ((Below.refl _ _).alloc (Nat.le_refl _) (.cells #[.int .i64 k2, .int .i64 l2, .bool z2, .int .i64 t2] 113 (0, 0))); have b0 := cell_of hB3' 0; have lB := lt_of_block hB3'; have e2 := cell_of hR1' 2; have lR := lt_of_block hR1'; dsimp at b0 e2))
      go_ret
      exact ⟨rfl, h.after hw3, Touch.of_below hw3⟩
end Go.Proofs.Ytejdfdllgobnhaa
