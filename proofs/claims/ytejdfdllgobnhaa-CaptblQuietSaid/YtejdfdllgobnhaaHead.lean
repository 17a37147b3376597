/- What a frame begins with (package head): which may be; its words. -/
import Derived.Test.YtejdfdllgobnhaaSlot2
set_option linter.unusedVariables false
set_option linter.unusedSimpArgs false
namespace Go.Proofs.Ytejdfdllgobnhaa
open Go.RowKit

structure HeadS where
  k : Int
  lv : Int
  fz : Bool
  tm : Int
def HeadS.v (h : HeadS) : Value := .agg #[.int .i64 h.k, .int .i64 h.lv, .bool h.fz, .int .i64 h.tm]
def HeadS.right (h : HeadS) : Bool := decide (0 ≤ h.k) && decide (h.k ≤ 6) && decide (0 ≤ h.lv) && decide (h.lv ≤ 1) && decide (0 ≤ h.tm) && decide (h.tm ≤ 1073741824) &&
  !(decide (h.lv = 1) && !(decide (h.k = 1) || decide (h.k = 2))) && (if h.fz then decide (h.k = 1) else decide (h.tm = 0))
def HeadS.w0 (h : HeadS) : Int := h.k + h.lv * 16 + (if h.fz then 32 else 0)
theorem HeadS.bounds {h : HeadS} (hr : h.right = true) : (0 ≤ h.k ∧ h.k ≤ 6) ∧ (0 ≤ h.lv ∧ h.lv ≤ 1) ∧ (0 ≤ h.tm ∧ h.tm ≤ 1073741824) := by
  simp [HeadS.right] at hr; omega
theorem head_widths (w : World) : Calls Try.prog 117 #[] w fun e w' => e = .returned (.slice (some ⟨w.heap.size, 0, none⟩) 3 3) ∧ w' = w.alloc (.cells #[.int .i64 4, .int .i64 1, .int .i64 1] 3 (0, 0)) := by
  go_enter Try.func117, Try.ntmps117
  go_wp2
  go_ret
  exact ⟨rfl, rfl⟩
theorem head_tabled (k : Int) (w : World) : Calls Try.prog 110 #[.int .i64 k] w fun e w' => e = .returned (.bool (decide (k = 1) || decide (k = 2))) ∧ w = w' := by
  by_cases h : k = 1
  · subst h
    go_enter Try.func110, Try.ntmps110
    go_wp2
    go_ret
    exact ⟨rfl, rfl⟩
  · go_enter Try.func110, Try.ntmps110
    go_wp2
    go_ret
    exact ⟨ret_bool (by rw [Bool.eq_iff_iff]; simp [h]), rfl⟩
set_option maxHeartbeats 4000000 in
theorem head_right (h : HeadS) (w : World) : Calls Try.prog 96 #[h.v] w fun e w' => e = .returned (.bool h.right) ∧ Below w.heap.size w w' := by
  obtain ⟨k, lv, fz, tm⟩ := h
  unfold HeadS.v HeadS.right
  dsimp only
  by_cases b : k < 0 ∨ 6 < k ∨ lv < 0 ∨ 1 < lv ∨ tm < 0 ∨ 1073741824 < tm
  · have e : (decide (0 ≤ k) && decide (k ≤ 6) && decide (0 ≤ lv) && decide (lv ≤ 1) && decide (0 ≤ tm) && decide (tm ≤ 1073741824) && !(decide (lv = 1) && !(decide (k = 1) || decide (k = 2))) && (if fz then decide (k = 1) else decide (tm = 0))) = false := by
      rw [Bool.eq_false_iff]; intro h; simp at h; omega
    rw [e]
    clear e
    rcases b with b | b | b | b | b | b
    all_goals
      go_enter Try.func96, Try.ntmps96
      go_wp2
      all_goals
        go_ret
        exact ⟨rfl, by (refine Touch.below0 ?_; (repeat' (first | (with_reducible exact Touch.refl _ _) | (with_reducible assumption) | (with_reducible refine Touch.drew ?_) | (with_reducible refine Touch.drewN ?_ _) | (with_reducible refine Touch.alloc ?_ _) | (with_reducible refine Touch.setCell ?_ _ _ _ ?_) | (with_reducible refine Touch.step (by assumption) ?_) | (with_reducible refine Touch.stepT (by assumption) ?_ ?_) | (intro _; first | rfl | trivial | omega | (simp; done) | (simp; omega)) | (intro _ _; first | omega | (simp; done) | (simp; omega)))))⟩
  · have c1 : 0 ≤ k := by omega
    have c2 : k ≤ 6 := by omega
    have c3 : 0 ≤ lv := by omega
    have c4 : lv ≤ 1 := by omega
    have c5 : 0 ≤ tm := by omega
    have c6 : tm ≤ 1073741824 := by omega
    have e : (decide (0 ≤ k) && decide (k ≤ 6) && decide (0 ≤ lv) && decide (lv ≤ 1) && decide (0 ≤ tm) && decide (tm ≤ 1073741824) && !(decide (lv = 1) && !(decide (k = 1) || decide (k = 2))) && (if fz then decide (k = 1) else decide (tm = 0))) = (!(decide (lv = 1) && !(decide (k = 1) || decide (k = 2))) && (if fz then decide (k = 1) else decide (tm = 0))) := by
      simp [c1, c2, c3, c4, c5, c6]
    rw [e]
    clear e b
    by_cases h1 : lv = 1
    · subst h1
      by_cases h2 : (decide (k = 1) || decide (k = 2)) = true
      · have H2 := Lib.hid h2
        have e : (!(decide ((1 : Int) = 1) && !(decide (k = 1) || decide (k = 2))) && (if fz then decide (k = 1) else decide (tm = 0))) = (if fz then decide (k = 1) else decide (tm = 0)) := by rw [h2]; simp
        rw [e]
        clear h2 e
        cases fz
        all_goals
          go_enter Try.func96, Try.ntmps96
          go_wp2_with ((go_at_call 110; (with_reducible refine (head_tabled _ _).mono ?_); rintro e w' ⟨rfl, rfl⟩); rw [H2.out])
          go_ret
          exact ⟨ret_bool (by rw [Bool.eq_iff_iff]; simp), by (refine Touch.below0 ?_; (repeat' (first | (with_reducible exact Touch.refl _ _) | (with_reducible assumption) | (with_reducible refine Touch.drew ?_) | (with_reducible refine Touch.drewN ?_ _) | (with_reducible refine Touch.alloc ?_ _) | (with_reducible refine Touch.setCell ?_ _ _ _ ?_) | (with_reducible refine Touch.step (by assumption) ?_) | (with_reducible refine Touch.stepT (by assumption) ?_ ?_) | (intro _; first | rfl | trivial | omega | (simp; done) | (simp; omega)) | (intro _ _; first | omega | (simp; done) | (simp; omega)))))⟩
      · have h2' : (decide (k = 1) || decide (k = 2)) = false := by simpa using h2
        have H2 := Lib.hid h2'
        have e : (!(decide ((1 : Int) = 1) && !(decide (k = 1) || decide (k = 2))) && (if fz then decide (k = 1) else decide (tm = 0))) = false := by rw [h2']; simp
        rw [e]
        clear h2 h2' e
        go_enter Try.func96, Try.ntmps96
        go_wp2_with ((go_at_call 110; (with_reducible refine (head_tabled _ _).mono ?_); rintro e w' ⟨rfl, rfl⟩); rw [H2.out])
        go_ret
        exact ⟨rfl, by (refine Touch.below0 ?_; (repeat' (first | (with_reducible exact Touch.refl _ _) | (with_reducible assumption) | (with_reducible refine Touch.drew ?_) | (with_reducible refine Touch.drewN ?_ _) | (with_reducible refine Touch.alloc ?_ _) | (with_reducible refine Touch.setCell ?_ _ _ _ ?_) | (with_reducible refine Touch.step (by assumption) ?_) | (with_reducible refine Touch.stepT (by assumption) ?_ ?_) | (intro _; first | rfl | trivial | omega | (simp; done) | (simp; omega)) | (intro _ _; first | omega | (simp; done) | (simp; omega)))))⟩
    · have e : (!(decide (lv = 1) && !(decide (k = 1) || decide (k = 2))) && (if fz then decide (k = 1) else decide (tm = 0))) = (if fz then decide (k = 1) else decide (tm = 0)) := by simp [h1]
      rw [e]
      clear e
      cases fz
      all_goals
        go_enter Try.func96, Try.ntmps96
        go_wp2
        go_ret
        exact ⟨ret_bool (by rw [Bool.eq_iff_iff]; simp), by (refine Touch.below0 ?_; (repeat' (first | (with_reducible exact Touch.refl _ _) | (with_reducible assumption) | (with_reducible refine Touch.drew ?_) | (with_reducible refine Touch.drewN ?_ _) | (with_reducible refine Touch.alloc ?_ _) | (with_reducible refine Touch.setCell ?_ _ _ _ ?_) | (with_reducible refine Touch.step (by assumption) ?_) | (with_reducible refine Touch.stepT (by assumption) ?_ ?_) | (intro _; first | rfl | trivial | omega | (simp; done) | (simp; omega)) | (intro _ _; first | omega | (simp; done) | (simp; omega)))))⟩
end Go.Proofs.Ytejdfdllgobnhaa
