/- Who has seen it (package quiet), over the clock. -/
import Derived.Test.YtmahledpcpdldaaGreatGClk
import Derived.Test.YtmahledpcpdldaaGreatRows2
import Derived.Deep.DeepCutAuto
import Derived.Deep.Cut
import Derived.Deep.CutBlock
set_option linter.unusedVariables false
set_option linter.unusedSimpArgs false
namespace Go.Proofs.YtmahledpcpdldaaGreat
open Go.RowKit

def Clk.kern (c : Clk) (t : Int) : Bool := decide (c.n ≠ 0) && decide (t < c.floorE)
def Clk.user (c : Clk) (t : Int) : Bool := decide (c.n ≠ 0) && decide (t < c.floorF)
def Clk.quiet (c : Clk) (was t : Int) : Bool := if was = 0 then true else if was = 3 then c.user t && c.kern t else if was = 2 then c.kern t else if was = 1 then c.user t else false

theorem Clk.kern_true {c : Clk} {t : Int} (hn : 0 < c.n) (h : ∀ j : Nat, j < c.n.toNat → t < c.en j) : c.kern t = true := by
  have : t < c.floorE := by
    unfold Clk.floorE; rw [if_neg (by omega)]
    exact (Acts.leastN_gt _ _ _).2 (fun j hj => h j (by omega))
  simp [Clk.kern, this]; omega
theorem Clk.kern_false {c : Clk} {t : Int} {j : Nat} (hj : j < c.n.toNat) (h : c.en j ≤ t) : c.kern t = false := by
  have : ¬ t < c.floorE := by
    unfold Clk.floorE; rw [if_neg (by omega)]
    intro hh
    have := (Acts.leastN_gt _ _ _).1 hh j (by omega)
    omega
  simp [Clk.kern]; omega
theorem Clk.user_true {c : Clk} {t : Int} (hn : 0 < c.n) (h : ∀ j : Nat, j < c.n.toNat → t < c.fl j) : c.user t = true := by
  have : t < c.floorF := by
    unfold Clk.floorF; rw [if_neg (by omega)]
    exact (Acts.leastN_gt _ _ _).2 (fun j hj => h j (by omega))
  simp [Clk.user, this]; omega
theorem Clk.user_false {c : Clk} {t : Int} {j : Nat} (hj : j < c.n.toNat) (h : c.fl j ≤ t) : c.user t = false := by
  have : ¬ t < c.floorF := by
    unfold Clk.floorF; rw [if_neg (by omega)]
    intro hh
    have := (Acts.leastN_gt _ _ _).1 hh j (by omega)
    omega
  simp [Clk.user]; omega

set_option maxHeartbeats 1000000 in
theorem q_all_en (b : Nat) (c : Clk) (t : Int) (w : World) (h : ClkAt w b c) (ok : c.Ok) :
    Calls Tryz.prog 250 #[.pointer (some ⟨b, 0, none⟩), .func (.func 252) #[.pointer (some ⟨b, 0, none⟩)] #[], .int .i64 t] w fun e w' =>
      e = .returned (.bool (c.kern t)) ∧ Below w.heap.size w w' := by
  have n0 := ok.n0; have n4 := ok.n4
  have hb := lt_of_block h
  go_enter Tryz.func250, Tryz.ntmps250
  go_wp2_with (go_at_call 285; (with_reducible refine (clk_cores _ _ _ h).mono ?_); rintro e w' ⟨rfl, rfl⟩)
  go_loopw [10] (fun i wr => ∃ k : Nat, k ≤ c.n.toNat ∧ i = .int .i64 k ∧ (∀ j : Nat, j < k → t < c.en j) ∧ Below w.heap.size w wr) (fun i _ => c.n.toNat - (intOf i).toNat)
  case atStart => exact ⟨0, by omega, rfl, fun j hj => by omega, Below.refl _ _⟩
  case round =>
    obtain ⟨k, hk, rfl, hall, hbr⟩ := hrel
    have hr : ClkAt wr b c := h.afterB hbr
    have HA := Lib.hid hall; clear hall
    by_cases hlt : k < c.n.toNat
    · have hlt' : (k : Int) < c.n := by omega
      have ev : c.entered k = c.en k := by rw [Clk.entered, if_pos (Acts.can_in (by omega) (by omega) (by omega))]; rfl
      have EV := Lib.hid ev; clear ev
      by_cases ht : c.en k ≤ t
      · have hK := Lib.hid (Clk.kern_false hlt ht)
        go_wp2_with ((go_at_call 252; (with_reducible refine (clk_entered _ _ _ _ hr ok).mono ?_); rintro e w' ⟨rfl, hx⟩); rw [EV.out])
        go_ret
        exact ⟨by rw [hK.out]; rfl, by (refine Touch.below0 ?_; (repeat' (first | (with_reducible exact Touch.refl _ _) | (with_reducible assumption) | (with_reducible refine Touch.drew ?_) | (with_reducible refine Touch.drewN ?_ _) | (with_reducible refine Touch.alloc ?_ _) | (with_reducible refine Touch.setCell ?_ _ _ _ ?_) | (with_reducible refine Touch.step (by assumption) ?_) | (with_reducible refine Touch.stepT (by assumption) ?_ ?_) | (intro _; first | rfl | trivial | omega | (simp; done) | (simp; omega)) | (intro _ _; first | omega | (simp; done) | (simp; omega)))))⟩
      · go_wp2_with ((go_at_call 252; (with_reducible refine (clk_entered _ _ _ _ hr ok).mono ?_); rintro e w' ⟨rfl, hx⟩); rw [EV.out])
        go_roundw
        case rel => exact ⟨k + 1, by omega, by go_num, (fun j hj => by by_cases e : j = k; · subst e; omega
                                                                       · exact HA.out j (by omega)), by (refine Touch.below0 ?_; (repeat' (first | (with_reducible exact Touch.refl _ _) | (with_reducible assumption) | (with_reducible refine Touch.drew ?_) | (with_reducible refine Touch.drewN ?_ _) | (with_reducible refine Touch.alloc ?_ _) | (with_reducible refine Touch.setCell ?_ _ _ _ ?_) | (with_reducible refine Touch.step (by assumption) ?_) | (with_reducible refine Touch.stepT (by assumption) ?_ ?_) | (intro _; first | rfl | trivial | omega | (simp; done) | (simp; omega)) | (intro _ _; first | omega | (simp; done) | (simp; omega)))))⟩
        case measure => simp [intOf]; omega
    · have hge : ¬ (k : Int) < c.n := by omega
      obtain rfl : k = c.n.toNat := by omega
      by_cases hz : c.n = 0
      · have hK : Hid (c.kern t = false) := by simp [Hid, Clk.kern, hz]
        have hz' : decide (0 < c.n) = false := by simp [hz]
        clear hz
        go_wp2_with (go_at_call 285; (with_reducible refine (clk_cores _ _ _ hr).mono ?_); rintro e w' ⟨rfl, rfl⟩)
        go_ret
        exact ⟨by rw [hK.out]; rfl, hbr⟩
      · have hp : 0 < c.n := by omega
        have hK := Lib.hid (Clk.kern_true hp HA.out)
        go_wp2_with (go_at_call 285; (with_reducible refine (clk_cores _ _ _ hr).mono ?_); rintro e w' ⟨rfl, rfl⟩)
        go_ret
        exact ⟨by rw [hK.out]; exact ret_bool (by first | (simp; done) | (simp; omega)), hbr⟩
set_option maxHeartbeats 1000000 in
theorem q_all_fl (b : Nat) (c : Clk) (t : Int) (w : World) (h : ClkAt w b c) (ok : c.Ok) :
    Calls Tryz.prog 250 #[.pointer (some ⟨b, 0, none⟩), .func (.func 251) #[.pointer (some ⟨b, 0, none⟩)] #[], .int .i64 t] w fun e w' =>
      e = .returned (.bool (c.user t)) ∧ Below w.heap.size w w' := by
  have n0 := ok.n0; have n4 := ok.n4
  have hb := lt_of_block h
  go_enter Tryz.func250, Tryz.ntmps250
  go_wp2_with (go_at_call 285; (with_reducible refine (clk_cores _ _ _ h).mono ?_); rintro e w' ⟨rfl, rfl⟩)
  go_loopw [10] (fun i wr => ∃ k : Nat, k ≤ c.n.toNat ∧ i = .int .i64 k ∧ (∀ j : Nat, j < k → t < c.fl j) ∧ Below w.heap.size w wr) (fun i _ => c.n.toNat - (intOf i).toNat)
  case atStart => exact ⟨0, by omega, rfl, fun j hj => by omega, Below.refl _ _⟩
  case round =>
    obtain ⟨k, hk, rfl, hall, hbr⟩ := hrel
    have hr : ClkAt wr b c := h.afterB hbr
    have HA := Lib.hid hall; clear hall
    by_cases hlt : k < c.n.toNat
    · have hlt' : (k : Int) < c.n := by omega
      have ev : c.flushed k = c.fl k := by rw [Clk.flushed, if_pos (Acts.can_in (by omega) (by omega) (by omega))]; rfl
      have EV := Lib.hid ev; clear ev
      by_cases ht : c.fl k ≤ t
      · have hK := Lib.hid (Clk.user_false hlt ht)
        go_wp2_with ((go_at_call 251; (with_reducible refine (clk_flushed _ _ _ _ hr ok).mono ?_); rintro e w' ⟨rfl, hx⟩); rw [EV.out])
        go_ret
        exact ⟨by rw [hK.out]; rfl, by (refine Touch.below0 ?_; (repeat' (first | (with_reducible exact Touch.refl _ _) | (with_reducible assumption) | (with_reducible refine Touch.drew ?_) | (with_reducible refine Touch.drewN ?_ _) | (with_reducible refine Touch.alloc ?_ _) | (with_reducible refine Touch.setCell ?_ _ _ _ ?_) | (with_reducible refine Touch.step (by assumption) ?_) | (with_reducible refine Touch.stepT (by assumption) ?_ ?_) | (intro _; first | rfl | trivial | omega | (simp; done) | (simp; omega)) | (intro _ _; first | omega | (simp; done) | (simp; omega)))))⟩
      · go_wp2_with ((go_at_call 251; (with_reducible refine (clk_flushed _ _ _ _ hr ok).mono ?_); rintro e w' ⟨rfl, hx⟩); rw [EV.out])
        go_roundw
        case rel => exact ⟨k + 1, by omega, by go_num, (fun j hj => by by_cases e : j = k; · subst e; omega
                                                                       · exact HA.out j (by omega)), by (refine Touch.below0 ?_; (repeat' (first | (with_reducible exact Touch.refl _ _) | (with_reducible assumption) | (with_reducible refine Touch.drew ?_) | (with_reducible refine Touch.drewN ?_ _) | (with_reducible refine Touch.alloc ?_ _) | (with_reducible refine Touch.setCell ?_ _ _ _ ?_) | (with_reducible refine Touch.step (by assumption) ?_) | (with_reducible refine Touch.stepT (by assumption) ?_ ?_) | (intro _; first | rfl | trivial | omega | (simp; done) | (simp; omega)) | (intro _ _; first | omega | (simp; done) | (simp; omega)))))⟩
        case measure => simp [intOf]; omega
    · have hge : ¬ (k : Int) < c.n := by omega
      obtain rfl : k = c.n.toNat := by omega
      by_cases hz : c.n = 0
      · have hK : Hid (c.user t = false) := by simp [Hid, Clk.user, hz]
        have hz' : decide (0 < c.n) = false := by simp [hz]
        clear hz
        go_wp2_with (go_at_call 285; (with_reducible refine (clk_cores _ _ _ hr).mono ?_); rintro e w' ⟨rfl, rfl⟩)
        go_ret
        exact ⟨by rw [hK.out]; rfl, hbr⟩
      · have hp : 0 < c.n := by omega
        have hK := Lib.hid (Clk.user_true hp HA.out)
        go_wp2_with (go_at_call 285; (with_reducible refine (clk_cores _ _ _ hr).mono ?_); rintro e w' ⟨rfl, rfl⟩)
        go_ret
        exact ⟨by rw [hK.out]; exact ret_bool (by first | (simp; done) | (simp; omega)), hbr⟩

theorem q_kernel (b : Nat) (c : Clk) (t : Int) (w : World) (h : ClkAt w b c) (ok : c.Ok) :
    Calls Tryz.prog 198 #[.pointer (some ⟨b, 0, none⟩), .int .i64 t] w fun e w' => e = .returned (.bool (c.kern t)) ∧ Below w.heap.size w w' := by
  go_enter Tryz.func198, Tryz.ntmps198
  go_wp2_with (go_at_call 250; (with_reducible refine (q_all_en _ _ _ _ h ok).mono ?_); rintro e w' ⟨rfl, hb⟩)
  go_ret
  exact ⟨rfl, hb⟩
theorem q_user (b : Nat) (c : Clk) (t : Int) (w : World) (h : ClkAt w b c) (ok : c.Ok) :
    Calls Tryz.prog 197 #[.pointer (some ⟨b, 0, none⟩), .int .i64 t] w fun e w' => e = .returned (.bool (c.user t)) ∧ Below w.heap.size w w' := by
  go_enter Tryz.func197, Tryz.ntmps197
  go_wp2_with (go_at_call 250; (with_reducible refine (q_all_fl _ _ _ _ h ok).mono ?_); rintro e w' ⟨rfl, hb⟩)
  go_ret
  exact ⟨rfl, hb⟩

set_option maxHeartbeats 1000000 in
theorem q_for (b : Nat) (c : Clk) (was t : Int) (w : World) (h : ClkAt w b c) (ok : c.Ok) :
    Calls Tryz.prog 107 #[.pointer (some ⟨b, 0, none⟩), .int .i64 was, .int .i64 t] w fun e w' => e = .returned (.bool (c.quiet was t)) ∧ Below w.heap.size w w' := by
  unfold Clk.quiet
  by_cases h0 : was = 0
  · have e0 : (was == 0) = true := by simp [h0]
    rw [if_pos h0]; clear h0
    go_enter Tryz.func107, Tryz.ntmps107
    go_wp2
    go_ret
    exact ⟨rfl, Below.refl _ _⟩
  rw [if_neg h0]
  have e0 : (was == 0) = false := by simp [h0]
  clear h0
  by_cases h3 : was = 3
  · have e3 : (was == 3) = true := by simp [h3]
    rw [if_pos h3]; clear h3
    generalize hu : c.user t = u
    have HU := Lib.hid hu; clear hu
    cases u
    · go_enter Tryz.func107, Tryz.ntmps107
      go_wp2_with ((go_at_call 197; (with_reducible refine (q_user _ _ _ _ h ok).mono ?_); rintro e w' ⟨rfl, hb⟩); rw [HU.out])
      go_ret
      exact ⟨rfl, by (refine Touch.below0 ?_; (repeat' (first | (with_reducible exact Touch.refl _ _) | (with_reducible assumption) | (with_reducible refine Touch.drew ?_) | (with_reducible refine Touch.drewN ?_ _) | (with_reducible refine Touch.alloc ?_ _) | (with_reducible refine Touch.setCell ?_ _ _ _ ?_) | (with_reducible refine Touch.step (by assumption) ?_) | (with_reducible refine Touch.stepT (by assumption) ?_ ?_) | (intro _; first | rfl | trivial | omega | (simp; done) | (simp; omega)) | (intro _ _; first | omega | (simp; done) | (simp; omega)))))⟩
    · go_enter Tryz.func107, Tryz.ntmps107
      go_wp2_with (first
        | ((go_at_call 197; (with_reducible refine (q_user _ _ _ _ h ok).mono ?_); rintro e w' ⟨rfl, hb⟩); rw [HU.out]; have h := h.afterB hb)
        | (go_at_call 198; (with_reducible refine (q_kernel _ _ _ _ h ok).mono ?_); rintro e w' ⟨rfl, hb2⟩))
      go_ret
      exact ⟨rfl, by (refine Touch.below0 ?_; (repeat' (first | (with_reducible exact Touch.refl _ _) | (with_reducible assumption) | (with_reducible refine Touch.drew ?_) | (with_reducible refine Touch.drewN ?_ _) | (with_reducible refine Touch.alloc ?_ _) | (with_reducible refine Touch.setCell ?_ _ _ _ ?_) | (with_reducible refine Touch.step (by assumption) ?_) | (with_reducible refine Touch.stepT (by assumption) ?_ ?_) | (intro _; first | rfl | trivial | omega | (simp; done) | (simp; omega)) | (intro _ _; first | omega | (simp; done) | (simp; omega)))))⟩
  rw [if_neg h3]
  have e3 : (was == 3) = false := by simp [h3]
  clear h3
  by_cases h2 : was = 2
  · have e2 : (was == 2) = true := by simp [h2]
    rw [if_pos h2]; clear h2
    go_enter Tryz.func107, Tryz.ntmps107
    go_wp2_with (go_at_call 198; (with_reducible refine (q_kernel _ _ _ _ h ok).mono ?_); rintro e w' ⟨rfl, hb2⟩)
    go_ret
    exact ⟨rfl, by (refine Touch.below0 ?_; (repeat' (first | (with_reducible exact Touch.refl _ _) | (with_reducible assumption) | (with_reducible refine Touch.drew ?_) | (with_reducible refine Touch.drewN ?_ _) | (with_reducible refine Touch.alloc ?_ _) | (with_reducible refine Touch.setCell ?_ _ _ _ ?_) | (with_reducible refine Touch.step (by assumption) ?_) | (with_reducible refine Touch.stepT (by assumption) ?_ ?_) | (intro _; first | rfl | trivial | omega | (simp; done) | (simp; omega)) | (intro _ _; first | omega | (simp; done) | (simp; omega)))))⟩
  rw [if_neg h2]
  have e2 : (was == 2) = false := by simp [h2]
  clear h2
  by_cases h1 : was = 1
  · have e1 : (was == 1) = true := by simp [h1]
    rw [if_pos h1]; clear h1
    go_enter Tryz.func107, Tryz.ntmps107
    go_wp2_with (go_at_call 197; (with_reducible refine (q_user _ _ _ _ h ok).mono ?_); rintro e w' ⟨rfl, hb2⟩)
    go_ret
    exact ⟨rfl, by (refine Touch.below0 ?_; (repeat' (first | (with_reducible exact Touch.refl _ _) | (with_reducible assumption) | (with_reducible refine Touch.drew ?_) | (with_reducible refine Touch.drewN ?_ _) | (with_reducible refine Touch.alloc ?_ _) | (with_reducible refine Touch.setCell ?_ _ _ _ ?_) | (with_reducible refine Touch.step (by assumption) ?_) | (with_reducible refine Touch.stepT (by assumption) ?_ ?_) | (intro _; first | rfl | trivial | omega | (simp; done) | (simp; omega)) | (intro _ _; first | omega | (simp; done) | (simp; omega)))))⟩
  · rw [if_neg h1]
    have e1 : (was == 1) = false := by simp [h1]
    clear h1
    go_enter Tryz.func107, Tryz.ntmps107
    go_wp2
    go_ret
    exact ⟨rfl, Below.refl _ _⟩
end Go.Proofs.YtmahledpcpdldaaGreat
