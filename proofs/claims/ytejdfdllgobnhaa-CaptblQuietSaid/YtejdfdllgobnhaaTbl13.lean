/- Tables of capabilities (package captbl): Decons. -/
import Derived.Test.YtejdfdllgobnhaaTbl12
set_option linter.unusedVariables false
set_option linter.unusedSimpArgs false
namespace Go.Proofs.Ytejdfdllgobnhaa
open Go.RowKit
def deconsD (m : MemS) (root high now fl : Int) : Bool := inB high 16 && timeB now && isT m root 0 && decide (slotE m root high = 0) && decide ((slotC m root high).k = 3) && settledB m (slotC m root high).t fl
def deconsE (m : MemS) (root high now fl : Int) : Int :=
  if inB high 16 = true ∧ timeB now = true then (if isT m root 0 then (if slotE m root high = 0 then (if (slotC m root high).k = 3 then (if settledB m (slotC m root high).t fl then (if putOk m root high (goneC now) then 0 else 1) else 6) else 3) else slotE m root high) else 4) else 1
def deconsR (m : MemS) (root high now fl : Int) : Int := if deconsD m root high now fl then (slotC m root high).t else 0
def MemS.decons (m : MemS) (root high now fl : Int) : MemS := if deconsD m root high now fl then m.slot root high (goneC now) else m
set_option maxHeartbeats 1000000 in
set_option maxRecDepth 100000 in
theorem tbl_decons (a g : Nat) (m : MemS) (root high now fl : Int) (w : World) (h : MemIs w a g m) (ok : m.Ok) : Calls Try.prog 39 #[.pointer (some ⟨a, 0, none⟩), .int .i64 root, .int .i64 high, .int .i64 now, .int .i64 fl] w fun e w' =>
    e = .returned (.tuple #[.int .i64 (deconsR m root high now fl), .int .i64 (deconsE m root high now fl)]) ∧ MemIs w' a g (m.decons root high now fl) ∧ Touch (· = g) w w' := by
  have hlg := h.ltg
  have hw0 : Below w.heap.size w (w.alloc (.cells #[.pointer (some ⟨a, 0, none⟩)] 115 (0, 0))) := by (refine Touch.below0 ?_; (repeat' (first | (with_reducible exact Touch.refl _ _) | (with_reducible assumption) | (with_reducible refine Touch.drew ?_) | (with_reducible refine Touch.drewN ?_ _) | (with_reducible refine Touch.alloc ?_ _) | (with_reducible refine Touch.setCell ?_ _ _ _ ?_) | (with_reducible refine Touch.step (by assumption) ?_) | (with_reducible refine Touch.stepT (by assumption) ?_ ?_) | (intro _; first | rfl | trivial | omega | (simp; done) | (simp; omega)) | (intro _ _; first | omega | (simp; done) | (simp; omega)))))
  have hB : (w.alloc (.cells #[.pointer (some ⟨a, 0, none⟩)] 115 (0, 0))).heap[w.heap.size]? = some (.cells #[.pointer (some ⟨a, 0, none⟩)] 115 (0, 0)) := heap_new _ _
  have h1 := h.after hw0
  have L0 := fun w h => tbl_level a g m root 0 w h ok
  have SG := fun w h => slot_get a g m root high w h ok
  have ST := fun w h => tbl_settled a g m (slotC m root high).t fl w h ok
  have SP := fun w h => slot_put a g m root high (goneC now) w h ok
  have GO := fun w => tbl_gone now w
  unfold deconsR deconsE MemS.decons deconsD
  cases hi : inB high 16
  · have hi2 : high < 0 ∨ 16 ≤ high := by
      rcases Decidable.em (high < 0 ∨ 16 ≤ high) with h' | h'
      · exact h'
      · rw [inB_iff.2 ⟨by omega, by omega⟩] at hi; cases hi
    simp only [Bool.false_eq_true, if_false, false_and, Bool.false_and]
    rcases hi2 with hi2 | hi2
    · go_enter Try.func39, Try.ntmps39
      go_wp2
      go_ret2
      exact ⟨rfl, h, Touch.refl _ _⟩
    · have hi3 : ¬ high < 0 := by omega
      go_enter Try.func39, Try.ntmps39
      go_wp2
      go_ret2
      exact ⟨rfl, h, Touch.refl _ _⟩
  obtain ⟨i0, i1⟩ := inB_iff.1 hi
  clear hi
  cases ht : timeB now
  · have HT := Lib.hid ht
    simp only [Bool.false_eq_true, if_false, and_false, Bool.and_false, Bool.false_and]
    clear ht
    go_enter Try.func39, Try.ntmps39
    go_wp2_with ((go_at_call 75; (with_reducible refine (tbl_time _ _).mono ?_); rintro e w' ⟨rfl, rfl⟩); rw [HT.out])
    go_ret2
    exact ⟨rfl, h, Touch.refl _ _⟩
  have HT := Lib.hid ht
  clear ht
  unfold goneC CapS.v at SP GO
  dsimp only at SP GO
  have hpk : putOk m root high (goneC now) = putOk m root high ⟨1, 0, 0, 0, 0, now⟩ := rfl
  have hms : m.slot root high (goneC now) = m.slot root high ⟨1, 0, 0, 0, 0, now⟩ := rfl
  rw [hpk, hms]
  generalize putOk m root high ⟨1, 0, 0, 0, 0, now⟩ = pk at *
  generalize m.slot root high ⟨1, 0, 0, 0, 0, now⟩ = M at *
  clear hpk hms
  generalize settledB m (slotC m root high).t fl = st at *
  generalize isT m root 0 = t0 at *
  generalize hdC m root = D1 at *
  generalize slotE m root high = E at *
  generalize slotC m root high = C at *
  obtain ⟨k1, l1, z1, t1⟩ := D1
  obtain ⟨k, r, t, l, ep, ca⟩ := C
  unfold HeadS.v at *
  unfold CapS.v at *
  dsimp only at *
  simp only [and_self, if_true, Bool.and_self, Bool.true_and]
  cases t0
  · simp only [Bool.false_eq_true, if_false, Bool.false_and]
    go_enter Try.func39, Try.ntmps39
    go_wp2_with (first
      | ((go_at_call 75; (with_reducible refine (tbl_time _ _).mono ?_); rintro e w' ⟨rfl, rfl⟩); rw [HT.out])
      | ((go_at_call 68; (with_reducible refine (L0 _ h1).mono ?_); rintro e w' ⟨rfl, hx⟩); have hw2 := (hw0.trans (hx.mono hw0.size)).alloc (hw0.trans (hx.mono hw0.size)).size (.cells #[.int .i64 k1, .int .i64 l1, .bool z1, .int .i64 t1] 113 (0, 0)); have hB2 := heap_alloc ((hx.block _ (lt_of_block hB)).trans hB) (.cells #[.int .i64 k1, .int .i64 l1, .bool z1, .int .i64 t1] 113 (0, 0)); have h2 := h.after hw2)
      | ((go_at_call 79; (with_reducible refine (SG _ h2).mono ?_); rintro e w' ⟨rfl, hx⟩); have hw3 := (hw2.trans (hx.mono hw2.size)).alloc (hw2.trans (hx.mono hw2.size)).size (.cells #[.int .i64 k, .int .i64 r, .int .i64 t, .int .i64 l, .int .i64 ep, .int .i64 ca] 57 (0, 0)); have hB3 := heap_alloc ((hx.block _ (lt_of_block hB2)).trans hB2) (.cells #[.int .i64 k, .int .i64 r, .int .i64 t, .int .i64 l, .int .i64 ep, .int .i64 ca] 57 (0, 0)); have hC3 := heap_new w' (.cells #[.int .i64 k, .int .i64 r, .int .i64 t, .int .i64 l, .int .i64 ep, .int .i64 ca] 57 (0, 0)); have h3 := h.after hw3; have hL3 : w.heap.size ≤ w'.heap.size := (hw2.trans (hx.mono hw2.size)).size))
    go_ret2
    exact ⟨rfl, h.after hw2, Touch.of_below hw2⟩
  simp only [if_true, Bool.true_and]
  by_cases hE : E = 0
  · subst hE
    simp only [if_true, decide_true, Bool.true_and]
    by_cases hk : k = 3
    · subst hk
      simp only [if_true, decide_true, Bool.true_and]
      cases st
      · simp only [Bool.false_eq_true, if_false]
        go_enter Try.func39, Try.ntmps39
        go_upto_region 8 with (first
          | ((go_at_call 75; (with_reducible refine (tbl_time _ _).mono ?_); rintro e w' ⟨rfl, rfl⟩); rw [HT.out])
          | ((go_at_call 68; (with_reducible refine (L0 _ h1).mono ?_); rintro e w' ⟨rfl, hx⟩); have hw2 := (hw0.trans (hx.mono hw0.size)).alloc (hw0.trans (hx.mono hw0.size)).size (.cells #[.int .i64 k1, .int .i64 l1, .bool z1, .int .i64 t1] 113 (0, 0)); have hB2 := heap_alloc ((hx.block _ (lt_of_block hB)).trans hB) (.cells #[.int .i64 k1, .int .i64 l1, .bool z1, .int .i64 t1] 113 (0, 0)); have h2 := h.after hw2)
          | ((go_at_call 79; (with_reducible refine (SG _ h2).mono ?_); rintro e w' ⟨rfl, hx⟩); have hw3 := (hw2.trans (hx.mono hw2.size)).alloc (hw2.trans (hx.mono hw2.size)).size (.cells #[.int .i64 3, .int .i64 r, .int .i64 t, .int .i64 l, .int .i64 ep, .int .i64 ca] 57 (0, 0)); have hB3 := heap_alloc ((hx.block _ (lt_of_block hB2)).trans hB2) (.cells #[.int .i64 3, .int .i64 r, .int .i64 t, .int .i64 l, .int .i64 ep, .int .i64 ca] 57 (0, 0)); have hC3 := heap_new w' (.cells #[.int .i64 3, .int .i64 r, .int .i64 t, .int .i64 l, .int .i64 ep, .int .i64 ca] 57 (0, 0)); have h3 := h.after hw3; have hL3 : w.heap.size ≤ w'.heap.size := (hw2.trans (hx.mono hw2.size)).size))
        generalize w'.alloc (.cells #[.int .i64 3, .int .i64 r, .int .i64 t, .int .i64 l, .int .i64 ep, .int .i64 ca] 57 (0, 0)) = w3 at *
        generalize w'.heap.size = N at *
        clear hx hB2 hw2 h2
        have b0 := cell_of hB3 0; have c0 := cell_of hC3 0; have c2 := cell_of hC3 2
        dsimp at b0 c0 c2
        go_wp2_with ((go_at_call 80; (with_reducible refine (ST _ h3).mono ?_); rintro e w' ⟨rfl, hx⟩); have hw4 := hw3.trans (hx.mono hw3.size))
        go_ret2
        exact ⟨rfl, h.after hw4, Touch.of_below hw4⟩
      · simp only [if_true]
        generalize (if pk = true then (0 : Int) else 1) = EE at *
        go_enter Try.func39, Try.ntmps39
        go_upto_region 8 with (first
          | ((go_at_call 75; (with_reducible refine (tbl_time _ _).mono ?_); rintro e w' ⟨rfl, rfl⟩); rw [HT.out])
          | ((go_at_call 68; (with_reducible refine (L0 _ h1).mono ?_); rintro e w' ⟨rfl, hx⟩); have hw2 := (hw0.trans (hx.mono hw0.size)).alloc (hw0.trans (hx.mono hw0.size)).size (.cells #[.int .i64 k1, .int .i64 l1, .bool z1, .int .i64 t1] 113 (0, 0)); have hB2 := heap_alloc ((hx.block _ (lt_of_block hB)).trans hB) (.cells #[.int .i64 k1, .int .i64 l1, .bool z1, .int .i64 t1] 113 (0, 0)); have h2 := h.after hw2)
          | ((go_at_call 79; (with_reducible refine (SG _ h2).mono ?_); rintro e w' ⟨rfl, hx⟩); have hw3 := (hw2.trans (hx.mono hw2.size)).alloc (hw2.trans (hx.mono hw2.size)).size (.cells #[.int .i64 3, .int .i64 r, .int .i64 t, .int .i64 l, .int .i64 ep, .int .i64 ca] 57 (0, 0)); have hB3 := heap_alloc ((hx.block _ (lt_of_block hB2)).trans hB2) (.cells #[.int .i64 3, .int .i64 r, .int .i64 t, .int .i64 l, .int .i64 ep, .int .i64 ca] 57 (0, 0)); have hC3 := heap_new w' (.cells #[.int .i64 3, .int .i64 r, .int .i64 t, .int .i64 l, .int .i64 ep, .int .i64 ca] 57 (0, 0)); have h3 := h.after hw3; have hL3 : w.heap.size ≤ w'.heap.size := (hw2.trans (hx.mono hw2.size)).size))
        generalize w'.alloc (.cells #[.int .i64 3, .int .i64 r, .int .i64 t, .int .i64 l, .int .i64 ep, .int .i64 ca] 57 (0, 0)) = w3 at *
        generalize w'.heap.size = N at *
        clear hx hB2 hw2 h2
        have b0 := cell_of hB3 0; have c0 := cell_of hC3 0; have c2 := cell_of hC3 2
        dsimp at b0 c0 c2
        go_upto_region 14 with ((go_at_call 80; (with_reducible refine (ST _ h3).mono ?_); rintro e w' ⟨rfl, hx⟩); have hw4 := hw3.trans (hx.mono hw3.size); have hC4 := (hx.block _ (lt_of_block hC3)).trans hC3; have h4 := h.after hw4)
        have hNg : ¬ N = g := by omega
        have kT : ∀ y, Touch (· = g) w' y → y.cell? ⟨N, 2, none⟩ = some (.int .i64 t) := fun y hT => by
          have q := cell_of (hT.at hC4 hNg) 2
          dsimp at q
          exact q
        generalize w' = w4 at *
        have d0 : Below w4.heap.size w4 w4.drew := (Below.refl _ w4).drew
        have t0 : Touch (· = g) w4 w4.drew := Touch.of_below d0
        go_region_held3 (fun y => y.cell? ⟨N, 2, none⟩ = some (.int .i64 t)) (first | (with_reducible exact kT _ t0) | (with_reducible refine kT _ ?_; with_reducible assumption))
          (first
            | (go_at_call 76; (with_reducible refine (GO _).mono ?_); rintro e w' ⟨rfl, hx5⟩; have hB9 := d0.trans (hx5.mono d0.size); have h9 := h4.after hB9; have t9 : Touch (· = g) w4 w' := Touch.of_below hB9)
            | (go_at_call 70; (with_reducible refine (SP _ h9).mono ?_); rintro e w' ⟨rfl, hm, hx6⟩; have tT := t9.trans hx6))
        all_goals
          go_wp2
          go_ret2
          exact ⟨rfl, hm, (Touch.of_below hw4).trans tT⟩
    · have hk2 : (k == 3) = false := by simpa using hk
      simp only [hk, if_false, decide_false, Bool.false_and, Bool.false_eq_true]
      go_enter Try.func39, Try.ntmps39
      go_wp2_with (first
        | ((go_at_call 75; (with_reducible refine (tbl_time _ _).mono ?_); rintro e w' ⟨rfl, rfl⟩); rw [HT.out])
        | ((go_at_call 68; (with_reducible refine (L0 _ h1).mono ?_); rintro e w' ⟨rfl, hx⟩); have hw2 := (hw0.trans (hx.mono hw0.size)).alloc (hw0.trans (hx.mono hw0.size)).size (.cells #[.int .i64 k1, .int .i64 l1, .bool z1, .int .i64 t1] 113 (0, 0)); have hB2 := heap_alloc ((hx.block _ (lt_of_block hB)).trans hB) (.cells #[.int .i64 k1, .int .i64 l1, .bool z1, .int .i64 t1] 113 (0, 0)); have h2 := h.after hw2)
        | ((go_at_call 79; (with_reducible refine (SG _ h2).mono ?_); rintro e w' ⟨rfl, hx⟩); have hw3 := (hw2.trans (hx.mono hw2.size)).alloc (hw2.trans (hx.mono hw2.size)).size (.cells #[.int .i64 k, .int .i64 r, .int .i64 t, .int .i64 l, .int .i64 ep, .int .i64 ca] 57 (0, 0)); have hB3 := heap_alloc ((hx.block _ (lt_of_block hB2)).trans hB2) (.cells #[.int .i64 k, .int .i64 r, .int .i64 t, .int .i64 l, .int .i64 ep, .int .i64 ca] 57 (0, 0)); have hC3 := heap_new w' (.cells #[.int .i64 k, .int .i64 r, .int .i64 t, .int .i64 l, .int .i64 ep, .int .i64 ca] 57 (0, 0)); have h3 := h.after hw3; have hL3 : w.heap.size ≤ w'.heap.size := (hw2.trans (hx.mono hw2.size)).size))
      go_ret2
      exact ⟨rfl, h.after hw3, Touch.of_below hw3⟩
  · have hE2 : (E == 0) = false := by simpa using hE
    simp only [hE, if_false, decide_false, Bool.false_and, Bool.false_eq_true]
    go_enter Try.func39, Try.ntmps39
    go_wp2_with (first
      | ((go_at_call 75; (with_reducible refine (tbl_time _ _).mono ?_); rintro e w' ⟨rfl, rfl⟩); rw [HT.out])
      | ((go_at_call 68; (with_reducible refine (L0 _ h1).mono ?_); rintro e w' ⟨rfl, hx⟩); have hw2 := (hw0.trans (hx.mono hw0.size)).alloc (hw0.trans (hx.mono hw0.size)).size (.cells #[.int .i64 k1, .int .i64 l1, .bool z1, .int .i64 t1] 113 (0, 0)); have hB2 := heap_alloc ((hx.block _ (lt_of_block hB)).trans hB) (.cells #[.int .i64 k1, .int .i64 l1, .bool z1, .int .i64 t1] 113 (0, 0)); have h2 := h.after hw2)
      | ((go_at_call 79; (with_reducible refine (SG _ h2).mono ?_); rintro e w' ⟨rfl, hx⟩); have hw3 := (hw2.trans (hx.mono hw2.size)).alloc (hw2.trans (hx.mono hw2.size)).size (.cells #[.int .i64 k, .int .i64 r, .int .i64 t, .int .i64 l, .int .i64 ep, .int .i64 ca] 57 (0, 0)); have hB3 := heap_alloc ((hx.block _ (lt_of_block hB2)).trans hB2) (.cells #[.int .i64 k, .int .i64 r, .int .i64 t, .int .i64 l, .int .i64 ep, .int .i64 ca] 57 (0, 0)); have hC3 := heap_new w' (.cells #[.int .i64 k, .int .i64 r, .int .i64 t, .int .i64 l, .int .i64 ep, .int .i64 ca] 57 (0, 0)); have h3 := h.after hw3; have hL3 : w.heap.size ≤ w'.heap.size := (hw2.trans (hx.mono hw2.size)).size))
    go_ret2
    exact ⟨rfl, h.after hw3, Touch.of_below hw3⟩
end Go.Proofs.Ytejdfdllgobnhaa
