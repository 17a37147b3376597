/- The reference's heads (palanquinref10): right, Put, Make. -/
import Derived.Test.YtejdfdllgobnhaaGreatR11
import Derived.Test.YtejdfdllgobnhaaGreatGHead
set_option linter.unusedVariables false
set_option linter.unusedSimpArgs false
namespace Go.Proofs.YtejdfdllgobnhaaGreat
open Go.RowKit
set_option maxHeartbeats 4000000 in
theorem r10_right (h : HeadS) (w : World) : Calls Tryz.prog 208 #[h.v] w fun e w' => e = .returned (.bool h.right) ∧ Below w.heap.size w w' := by
  obtain ⟨k, lv, fz, tm⟩ := h
  unfold HeadS.v HeadS.right
  dsimp only
  by_cases b : k < 0 ∨ 6 < k ∨ lv < 0 ∨ 1 < lv ∨ tm < 0 ∨ 1073741824 < tm
  · have e : (decide (0 ≤ k) && decide (k ≤ 6) && decide (0 ≤ lv) && decide (lv ≤ 1) && decide (0 ≤ tm) && decide (tm ≤ 1073741824) && !(decide (lv = 1) && !(decide (k = 1) || decide (k = 2))) && (if fz then decide (k = 1) else decide (tm = 0))) = false := by
      rw [Bool.eq_false_iff]; intro h; simp at h; omega
    rw [e]
    clear e
    rcases (by omega : k < 0 ∨ (0 ≤ k ∧ 6 < k) ∨ (0 ≤ k ∧ k ≤ 6 ∧ lv < 0) ∨ (0 ≤ k ∧ k ≤ 6 ∧ 0 ≤ lv ∧ 1 < lv) ∨ (0 ≤ k ∧ k ≤ 6 ∧ 0 ≤ lv ∧ lv ≤ 1 ∧ tm < 0) ∨ (0 ≤ k ∧ k ≤ 6 ∧ 0 ≤ lv ∧ lv ≤ 1 ∧ 0 ≤ tm ∧ 1073741824 < tm)) with b | ⟨a1, b⟩ | ⟨a1, a2, b⟩ | ⟨a1, a2, a3, b⟩ | ⟨a1, a2, a3, a4, b⟩ | ⟨a1, a2, a3, a4, a5, b⟩
    all_goals
      go_enter Tryz.func208, Tryz.ntmps208
      go_wp2
      all_goals
        go_ret
        exact ⟨rfl, by (refine Touch.below0 ?_; (repeat' (first | (with_reducible exact Touch.refl _ _) | (with_reducible assumption) | (with_reducible refine Touch.drew ?_) | (with_reducible refine Touch.drewN ?_ _) | (with_reducible refine Touch.alloc ?_ _) | (with_reducible refine Touch.setCell ?_ _ _ _ ?_) | (with_reducible refine Touch.step (by assumption) ?_) | (with_reducible refine Touch.stepT (by assumption) ?_ ?_) | (intro _; first | rfl | trivial | omega | (simp; done) | (simp; omega)) | (intro _ _; first | omega | (simp; done) | (simp; omega)))))⟩
  · have c1 : 0 ≤ k := by omega
    have c2 : k ≤ 6 := by omega
    have c3 : 0 ≤ lv := by omega
    have c4 : lv ≤ 1 := by omega
    have c5 : 0 ≤ tm := by omega
    have c6 : tm ≤ 1073741824 := by omega
    have d1 : ¬ k < 0 := by omega
    have d2 : ¬ 6 < k := by omega
    have d3 : ¬ lv < 0 := by omega
    have d4 : ¬ 1 < lv := by omega
    have d5 : ¬ tm < 0 := by omega
    have d6 : ¬ 1073741824 < tm := by omega
    have e : (decide (0 ≤ k) && decide (k ≤ 6) && decide (0 ≤ lv) && decide (lv ≤ 1) && decide (0 ≤ tm) && decide (tm ≤ 1073741824) && !(decide (lv = 1) && !(decide (k = 1) || decide (k = 2))) && (if fz then decide (k = 1) else decide (tm = 0))) = (!(decide (lv = 1) && !(decide (k = 1) || decide (k = 2))) && (if fz then decide (k = 1) else decide (tm = 0))) := by
      simp [c1, c2, c3, c4, c5, c6]
    rw [e]
    clear e b c1 c2 c3 c4 c5 c6
    generalize hR : (!(decide (lv = 1) && !(decide (k = 1) || decide (k = 2))) && (if fz then decide (k = 1) else decide (tm = 0))) = R
    have HR := Lib.hid hR
    clear hR
    by_cases h1 : lv = 1
    · subst h1
      by_cases k1 : k = 1
      · subst k1
        cases fz
        · by_cases t0 : tm = 0
          · subst t0
            go_enter Tryz.func208, Tryz.ntmps208
            go_wp2
            go_ret
            exact ⟨ret_bool (by rw [← HR.out]; rfl), by (refine Touch.below0 ?_; (repeat' (first | (with_reducible exact Touch.refl _ _) | (with_reducible assumption) | (with_reducible refine Touch.drew ?_) | (with_reducible refine Touch.drewN ?_ _) | (with_reducible refine Touch.alloc ?_ _) | (with_reducible refine Touch.setCell ?_ _ _ _ ?_) | (with_reducible refine Touch.step (by assumption) ?_) | (with_reducible refine Touch.stepT (by assumption) ?_ ?_) | (intro _; first | rfl | trivial | omega | (simp; done) | (simp; omega)) | (intro _ _; first | omega | (simp; done) | (simp; omega)))))⟩
          · have t1 : (tm == 0) = false := by simpa using t0
            go_enter Tryz.func208, Tryz.ntmps208
            go_wp2
            go_ret
            exact ⟨ret_bool (by rw [← HR.out]; simp; omega), by (refine Touch.below0 ?_; (repeat' (first | (with_reducible exact Touch.refl _ _) | (with_reducible assumption) | (with_reducible refine Touch.drew ?_) | (with_reducible refine Touch.drewN ?_ _) | (with_reducible refine Touch.alloc ?_ _) | (with_reducible refine Touch.setCell ?_ _ _ _ ?_) | (with_reducible refine Touch.step (by assumption) ?_) | (with_reducible refine Touch.stepT (by assumption) ?_ ?_) | (intro _; first | rfl | trivial | omega | (simp; done) | (simp; omega)) | (intro _ _; first | omega | (simp; done) | (simp; omega)))))⟩
        · go_enter Tryz.func208, Tryz.ntmps208
          go_wp2
          go_ret
          exact ⟨ret_bool (by rw [← HR.out]; rfl), by (refine Touch.below0 ?_; (repeat' (first | (with_reducible exact Touch.refl _ _) | (with_reducible assumption) | (with_reducible refine Touch.drew ?_) | (with_reducible refine Touch.drewN ?_ _) | (with_reducible refine Touch.alloc ?_ _) | (with_reducible refine Touch.setCell ?_ _ _ _ ?_) | (with_reducible refine Touch.step (by assumption) ?_) | (with_reducible refine Touch.stepT (by assumption) ?_ ?_) | (intro _; first | rfl | trivial | omega | (simp; done) | (simp; omega)) | (intro _ _; first | omega | (simp; done) | (simp; omega)))))⟩
      have k2 : (k == 1) = false := by simpa using k1
      have k3 : (k != 1) = true := by simpa using k1
      by_cases k4 : k = 2
      · subst k4
        cases fz
        · by_cases t0 : tm = 0
          · subst t0
            go_enter Tryz.func208, Tryz.ntmps208
            go_wp2
            go_ret
            exact ⟨ret_bool (by rw [← HR.out]; rfl), by (refine Touch.below0 ?_; (repeat' (first | (with_reducible exact Touch.refl _ _) | (with_reducible assumption) | (with_reducible refine Touch.drew ?_) | (with_reducible refine Touch.drewN ?_ _) | (with_reducible refine Touch.alloc ?_ _) | (with_reducible refine Touch.setCell ?_ _ _ _ ?_) | (with_reducible refine Touch.step (by assumption) ?_) | (with_reducible refine Touch.stepT (by assumption) ?_ ?_) | (intro _; first | rfl | trivial | omega | (simp; done) | (simp; omega)) | (intro _ _; first | omega | (simp; done) | (simp; omega)))))⟩
          · have t1 : (tm == 0) = false := by simpa using t0
            go_enter Tryz.func208, Tryz.ntmps208
            go_wp2
            go_ret
            exact ⟨ret_bool (by rw [← HR.out]; simp; omega), by (refine Touch.below0 ?_; (repeat' (first | (with_reducible exact Touch.refl _ _) | (with_reducible assumption) | (with_reducible refine Touch.drew ?_) | (with_reducible refine Touch.drewN ?_ _) | (with_reducible refine Touch.alloc ?_ _) | (with_reducible refine Touch.setCell ?_ _ _ _ ?_) | (with_reducible refine Touch.step (by assumption) ?_) | (with_reducible refine Touch.stepT (by assumption) ?_ ?_) | (intro _; first | rfl | trivial | omega | (simp; done) | (simp; omega)) | (intro _ _; first | omega | (simp; done) | (simp; omega)))))⟩
        · go_enter Tryz.func208, Tryz.ntmps208
          go_wp2
          go_ret
          exact ⟨ret_bool (by rw [← HR.out]; rfl), by (refine Touch.below0 ?_; (repeat' (first | (with_reducible exact Touch.refl _ _) | (with_reducible assumption) | (with_reducible refine Touch.drew ?_) | (with_reducible refine Touch.drewN ?_ _) | (with_reducible refine Touch.alloc ?_ _) | (with_reducible refine Touch.setCell ?_ _ _ _ ?_) | (with_reducible refine Touch.step (by assumption) ?_) | (with_reducible refine Touch.stepT (by assumption) ?_ ?_) | (intro _; first | rfl | trivial | omega | (simp; done) | (simp; omega)) | (intro _ _; first | omega | (simp; done) | (simp; omega)))))⟩
      · have k5 : (k == 2) = false := by simpa using k4
        have k6 : (k != 2) = true := by simpa using k4
        have HR2 : R = false := by rw [← HR.out]; simp [k1, k4]
        subst HR2
        clear HR
        cases fz
        all_goals
          go_enter Tryz.func208, Tryz.ntmps208
          go_wp2
          go_ret
          exact ⟨rfl, by (refine Touch.below0 ?_; (repeat' (first | (with_reducible exact Touch.refl _ _) | (with_reducible assumption) | (with_reducible refine Touch.drew ?_) | (with_reducible refine Touch.drewN ?_ _) | (with_reducible refine Touch.alloc ?_ _) | (with_reducible refine Touch.setCell ?_ _ _ _ ?_) | (with_reducible refine Touch.step (by assumption) ?_) | (with_reducible refine Touch.stepT (by assumption) ?_ ?_) | (intro _; first | rfl | trivial | omega | (simp; done) | (simp; omega)) | (intro _ _; first | omega | (simp; done) | (simp; omega)))))⟩
    · have l2 : (lv == 1) = false := by simpa using h1
      cases fz
      · have HR2 : R = decide (tm = 0) := by rw [← HR.out]; simp [h1]
        subst HR2
        clear HR
        by_cases t0 : tm = 0
        · subst t0
          go_enter Tryz.func208, Tryz.ntmps208
          go_wp2
          go_ret
          exact ⟨ret_bool (by simp), by (refine Touch.below0 ?_; (repeat' (first | (with_reducible exact Touch.refl _ _) | (with_reducible assumption) | (with_reducible refine Touch.drew ?_) | (with_reducible refine Touch.drewN ?_ _) | (with_reducible refine Touch.alloc ?_ _) | (with_reducible refine Touch.setCell ?_ _ _ _ ?_) | (with_reducible refine Touch.step (by assumption) ?_) | (with_reducible refine Touch.stepT (by assumption) ?_ ?_) | (intro _; first | rfl | trivial | omega | (simp; done) | (simp; omega)) | (intro _ _; first | omega | (simp; done) | (simp; omega)))))⟩
        · have t1 : (tm == 0) = false := by simpa using t0
          go_enter Tryz.func208, Tryz.ntmps208
          go_wp2
          go_ret
          exact ⟨ret_bool (by first | (simp; done) | (simp; omega)), by (refine Touch.below0 ?_; (repeat' (first | (with_reducible exact Touch.refl _ _) | (with_reducible assumption) | (with_reducible refine Touch.drew ?_) | (with_reducible refine Touch.drewN ?_ _) | (with_reducible refine Touch.alloc ?_ _) | (with_reducible refine Touch.setCell ?_ _ _ _ ?_) | (with_reducible refine Touch.step (by assumption) ?_) | (with_reducible refine Touch.stepT (by assumption) ?_ ?_) | (intro _; first | rfl | trivial | omega | (simp; done) | (simp; omega)) | (intro _ _; first | omega | (simp; done) | (simp; omega)))))⟩
      · have HR2 : R = decide (k = 1) := by rw [← HR.out]; simp [h1]
        subst HR2
        clear HR
        by_cases k1 : k = 1
        · subst k1
          go_enter Tryz.func208, Tryz.ntmps208
          go_wp2
          go_ret
          exact ⟨ret_bool (by simp), by (refine Touch.below0 ?_; (repeat' (first | (with_reducible exact Touch.refl _ _) | (with_reducible assumption) | (with_reducible refine Touch.drew ?_) | (with_reducible refine Touch.drewN ?_ _) | (with_reducible refine Touch.alloc ?_ _) | (with_reducible refine Touch.setCell ?_ _ _ _ ?_) | (with_reducible refine Touch.step (by assumption) ?_) | (with_reducible refine Touch.stepT (by assumption) ?_ ?_) | (intro _; first | rfl | trivial | omega | (simp; done) | (simp; omega)) | (intro _ _; first | omega | (simp; done) | (simp; omega)))))⟩
        · have k2 : (k == 1) = false := by simpa using k1
          have k3 : (k != 1) = true := by simpa using k1
          go_enter Tryz.func208, Tryz.ntmps208
          go_wp2
          go_ret
          exact ⟨ret_bool (by simp [k1]), by (refine Touch.below0 ?_; (repeat' (first | (with_reducible exact Touch.refl _ _) | (with_reducible assumption) | (with_reducible refine Touch.drew ?_) | (with_reducible refine Touch.drewN ?_ _) | (with_reducible refine Touch.alloc ?_ _) | (with_reducible refine Touch.setCell ?_ _ _ _ ?_) | (with_reducible refine Touch.step (by assumption) ?_) | (with_reducible refine Touch.stepT (by assumption) ?_ ?_) | (intro _; first | rfl | trivial | omega | (simp; done) | (simp; omega)) | (intro _ _; first | omega | (simp; done) | (simp; omega)))))⟩
def headN (k : Nat) : Nat := [4, 1, 1].getD k 0
def headO (k : Nat) : Nat := [0, 4, 5, 6].getD k 0
theorem headWS : WS 3 headN headO := by
  refine ⟨rfl, fun k hk => ?_, fun k hk => ?_, fun k hk => ?_, by decide⟩
  · match k, hk with | 0, _ => rfl | 1, _ => rfl | 2, _ => rfl
  · match k, hk with | 0, _ => decide | 1, _ => decide | 2, _ => decide
  · match k, hk with | 0, _ => decide | 1, _ => decide | 2, _ => decide | 3, _ => decide
theorem head_acc (K L F : Nat) : accN (nth5 K L F 0 0) headO 3 = K + L * 16 + F * 32 := by
  simp only [accN, nth5]
  rw [show headO 0 = 0 from rfl, show headO 1 = 4 from rfl, show headO 2 = 5 from rfl]
  omega
theorem r10_pack (k lv f : Int) (bn bv : Nat) (w : World) (hk : 0 ≤ k ∧ k ≤ 6) (hl : 0 ≤ lv ∧ lv ≤ 1) (hf : 0 ≤ f ∧ f < 2)
    (hn : w.heap[bn]? = some (.cells #[.int .i64 4, .int .i64 1, .int .i64 1] 3 (0, 0))) (hv : w.heap[bv]? = some (.cells #[.int .u64 k, .int .u64 lv, .int .u64 f] 117 (0, 0))) :
    Calls Tryz.prog 224 #[.slice (some ⟨bn, 0, none⟩) 3 3, .slice (some ⟨bv, 0, none⟩) 3 3] w fun e w' => e = .returned (.tuple #[.int .u64 (k + lv * 16 + f * 32), .int .i64 0]) ∧ Below w.heap.size w w' := by
  obtain ⟨K, rfl⟩ : ∃ K : Nat, k = K := ⟨k.toNat, by omega⟩
  obtain ⟨L, rfl⟩ : ∃ K : Nat, lv = K := ⟨lv.toNat, by omega⟩
  obtain ⟨F, rfl⟩ : ∃ K : Nat, f = K := ⟨f.toNat, by omega⟩
  have := r01_pack (L := 3) (ns := headN) (offs := headO) (vs := nth5 K L F 0 0) (acc := accN (nth5 K L F 0 0) headO) bn bv 3 3 w headWS rfl (fun j hj => rfl)
    (fun j hj => by
      match j, hj with
      | 0, _ => rw [show headN 0 = 4 from rfl]; show K < 2 ^ 4; omega
      | 1, _ => rw [show headN 1 = 1 from rfl]; show L < 2 ^ 1; omega
      | 2, _ => rw [show headN 2 = 1 from rfl]; show F < 2 ^ 1; omega)
    (fun j hj => by rw [cell_of hn]; match j, hj with | 0, _ => rfl | 1, _ => rfl | 2, _ => rfl)
    (fun j hj => by rw [cell_of hv]; match j, hj with | 0, _ => rfl | 1, _ => rfl | 2, _ => rfl) (lt_of_block hn) (lt_of_block hv)
  rw [head_acc] at this
  have e : ((K + L * 16 + F * 32 : Nat) : Int) = (K : Int) + L * 16 + F * 32 := by omega
  rw [e] at this; exact this
end Go.Proofs.YtejdfdllgobnhaaGreat
