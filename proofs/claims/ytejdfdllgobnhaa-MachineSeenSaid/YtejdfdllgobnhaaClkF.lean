/- The clock's floors. -/
import Derived.Test.YtejdfdllgobnhaaClk
import Derived.Deep.QuietTactic
import Derived.BigQuiet
set_option linter.unusedVariables false
set_option linter.unusedSimpArgs false
namespace Go.Proofs.Ytejdfdllgobnhaa
open Go.RowKit

/-- The cells of core k + 1, as the round asks for them. -/
theorem ClkAt.next {w : World} {b : Nat} {c : Clk} (h : ClkAt w b c) {k : Nat} (hk : k + 1 < 4) :
    w.cell? ⟨b, 4 + k * 3, none⟩ = some (.int .i64 (c.cy (k + 1))) ∧ w.cell? ⟨b, 4 + k * 3 + 1, none⟩ = some (.int .i64 (c.en (k + 1))) ∧
    w.cell? ⟨b, 4 + k * 3 + 2, none⟩ = some (.int .i64 (c.fl (k + 1))) := by
  simp only [cell_of h]
  have : k = 0 ∨ k = 1 ∨ k = 2 := by omega
  rcases this with rfl | rfl | rfl <;> exact ⟨rfl, rfl, rfl⟩

set_option maxHeartbeats 4000000 in
theorem clk_least_en (b : Nat) (c : Clk) (n : Nat) (w : World) (h : ClkAt w b c) (h1 : 1 ≤ n) (h4 : n ≤ 4) :
    Calls Try.prog 90 #[.slice (some ⟨b, 1, none⟩) n 4, .func (.func 91) #[] #[]] w fun e w' =>
      e = .returned (.int .i64 (leastN c.en (n - 1))) ∧ Below w.heap.size w w' := by
  obtain ⟨_, _, ⟨g1, g2, g3⟩, _⟩ := h.cells
  have hb := lt_of_block h
  go_enter Try.func90, Try.ntmps90
  go_wp2_with (go_at_call 91; (with_reducible refine (clk_sawKernel _ _ _ _).mono ?_); rintro e w' ⟨rfl, hbw⟩; obtain ⟨hcw, hfw⟩ := bcell hbw; have hlw : b < w'.heap.size := by (have := hbw.size; (try simp at this); omega))
  go_loopw [5, 16] (fun m i wr => ∃ k : Nat, k ≤ n - 1 ∧ i = .int .i64 k ∧ m = .int .i64 (leastN c.en k) ∧ Below w.heap.size w wr) (fun _ i _ => n - (intOf i).toNat)
  case atStart => exact ⟨0, by omega, rfl, rfl, by (refine Touch.below0 ?_; (repeat' (first | (with_reducible exact Touch.refl _ _) | (with_reducible assumption) | (with_reducible refine Touch.drew ?_) | (with_reducible refine Touch.drewN ?_ _) | (with_reducible refine Touch.alloc ?_ _) | (with_reducible refine Touch.setCell ?_ _ _ _ ?_) | (with_reducible refine Touch.step (by assumption) ?_) | (with_reducible refine Touch.stepT (by assumption) ?_ ?_) | (intro _; first | rfl | trivial | omega | (simp; done) | (simp; omega)) | (intro _ _; first | omega | (simp; done) | (simp; omega)))))⟩
  case round =>
    obtain ⟨k, hk, rfl, rfl, hbr⟩ := hrel
    clear hcw hfw hlw hbw
    have hr : ClkAt wr b c := (hbr.block b hb).trans h
    have hbr2 := lt_of_block hr
    by_cases hlt : k < n - 1
    · obtain ⟨r1, r2, r3⟩ := hr.next (k := k) (by omega)
      have hlt' : (k : Int) < ((n - 1 : Nat) : Int) := by omega
      go_wp2_with (go_at_call 91; (with_reducible refine (clk_sawKernel _ _ _ _).mono ?_); rintro e w' ⟨rfl, hbw⟩; obtain ⟨hcw, hfw⟩ := bcell hbw; have hlw : b < w'.heap.size := by (have := hbw.size; (try simp at this); omega))
      all_goals
        go_roundw
        case rel => exact ⟨k + 1, by omega, by go_num, by simp only [leastN]; congr 1; omega, by (refine Touch.below0 ?_; (repeat' (first | (with_reducible exact Touch.refl _ _) | (with_reducible assumption) | (with_reducible refine Touch.drew ?_) | (with_reducible refine Touch.drewN ?_ _) | (with_reducible refine Touch.alloc ?_ _) | (with_reducible refine Touch.setCell ?_ _ _ _ ?_) | (with_reducible refine Touch.step (by assumption) ?_) | (with_reducible refine Touch.stepT (by assumption) ?_ ?_) | (intro _; first | rfl | trivial | omega | (simp; done) | (simp; omega)) | (intro _ _; first | omega | (simp; done) | (simp; omega)))))⟩
        case measure => simp [intOf]; omega
    · have hlt' : ¬ (k : Int) < ((n - 1 : Nat) : Int) := by omega
      obtain rfl : k = n - 1 := by omega
      go_wp2
      go_ret
      exact ⟨rfl, hbr⟩
set_option maxHeartbeats 4000000 in
theorem clk_least_fl (b : Nat) (c : Clk) (n : Nat) (w : World) (h : ClkAt w b c) (h1 : 1 ≤ n) (h4 : n ≤ 4) :
    Calls Try.prog 90 #[.slice (some ⟨b, 1, none⟩) n 4, .func (.func 92) #[] #[]] w fun e w' =>
      e = .returned (.int .i64 (leastN c.fl (n - 1))) ∧ Below w.heap.size w w' := by
  obtain ⟨_, _, ⟨g1, g2, g3⟩, _⟩ := h.cells
  have hb := lt_of_block h
  go_enter Try.func90, Try.ntmps90
  go_wp2_with (go_at_call 92; (with_reducible refine (clk_sawPages _ _ _ _).mono ?_); rintro e w' ⟨rfl, hbw⟩; obtain ⟨hcw, hfw⟩ := bcell hbw; have hlw : b < w'.heap.size := by (have := hbw.size; (try simp at this); omega))
  go_loopw [5, 16] (fun m i wr => ∃ k : Nat, k ≤ n - 1 ∧ i = .int .i64 k ∧ m = .int .i64 (leastN c.fl k) ∧ Below w.heap.size w wr) (fun _ i _ => n - (intOf i).toNat)
  case atStart => exact ⟨0, by omega, rfl, rfl, by (refine Touch.below0 ?_; (repeat' (first | (with_reducible exact Touch.refl _ _) | (with_reducible assumption) | (with_reducible refine Touch.drew ?_) | (with_reducible refine Touch.drewN ?_ _) | (with_reducible refine Touch.alloc ?_ _) | (with_reducible refine Touch.setCell ?_ _ _ _ ?_) | (with_reducible refine Touch.step (by assumption) ?_) | (with_reducible refine Touch.stepT (by assumption) ?_ ?_) | (intro _; first | rfl | trivial | omega | (simp; done) | (simp; omega)) | (intro _ _; first | omega | (simp; done) | (simp; omega)))))⟩
  case round =>
    obtain ⟨k, hk, rfl, rfl, hbr⟩ := hrel
    clear hcw hfw hlw hbw
    have hr : ClkAt wr b c := (hbr.block b hb).trans h
    have hbr2 := lt_of_block hr
    by_cases hlt : k < n - 1
    · obtain ⟨r1, r2, r3⟩ := hr.next (k := k) (by omega)
      have hlt' : (k : Int) < ((n - 1 : Nat) : Int) := by omega
      go_wp2_with (go_at_call 92; (with_reducible refine (clk_sawPages _ _ _ _).mono ?_); rintro e w' ⟨rfl, hbw⟩; obtain ⟨hcw, hfw⟩ := bcell hbw; have hlw : b < w'.heap.size := by (have := hbw.size; (try simp at this); omega))
      all_goals
        go_roundw
        case rel => exact ⟨k + 1, by omega, by go_num, by simp only [leastN]; congr 1; omega, by (refine Touch.below0 ?_; (repeat' (first | (with_reducible exact Touch.refl _ _) | (with_reducible assumption) | (with_reducible refine Touch.drew ?_) | (with_reducible refine Touch.drewN ?_ _) | (with_reducible refine Touch.alloc ?_ _) | (with_reducible refine Touch.setCell ?_ _ _ _ ?_) | (with_reducible refine Touch.step (by assumption) ?_) | (with_reducible refine Touch.stepT (by assumption) ?_ ?_) | (intro _; first | rfl | trivial | omega | (simp; done) | (simp; omega)) | (intro _ _; first | omega | (simp; done) | (simp; omega)))))⟩
        case measure => simp [intOf]; omega
    · have hlt' : ¬ (k : Int) < ((n - 1 : Nat) : Int) := by omega
      obtain rfl : k = n - 1 := by omega
      go_wp2
      go_ret
      exact ⟨rfl, hbr⟩

theorem clk_floor_nil (w : World) : Calls Try.prog 61 #[.pointer none] w fun e w' =>
    e = .returned (.tuple #[.int .i64 (-1), .int .i64 (-1)]) ∧ w = w' := by
  go_enter Try.func61, Try.ntmps61
  go_wp2_with (go_at_call 82; (with_reducible refine (clk_none_nil _).mono ?_); rintro e w' ⟨rfl, rfl⟩)
  go_ret2
  exact ⟨rfl, rfl⟩

set_option maxHeartbeats 1000000 in
theorem clk_floor (b : Nat) (c : Clk) (w : World) (h : ClkAt w b c) (ok : c.Ok) :
    Calls Try.prog 61 #[.pointer (some ⟨b, 0, none⟩)] w fun e w' =>
      e = .returned (.tuple #[.int .i64 c.floorE, .int .i64 c.floorF]) ∧ Below w.heap.size w w' := by
  have n0 := ok.n0; have n4 := ok.n4
  obtain ⟨_, h13, _⟩ := h.cells
  have hb := lt_of_block h
  by_cases hz : c.n = 0
  · have hz' : (c.n == 0) = true := by simp [hz]
    simp only [Clk.floorE, Clk.floorF, hz, if_true]
    clear hz
    go_enter Try.func61, Try.ntmps61
    go_wp2_with (go_at_call 82; (with_reducible refine (clk_none _ c _ h).mono ?_); rintro e w' ⟨rfl, rfl⟩)
    go_ret2
    exact ⟨rfl, by (refine Touch.below0 ?_; (repeat' (first | (with_reducible exact Touch.refl _ _) | (with_reducible assumption) | (with_reducible refine Touch.drew ?_) | (with_reducible refine Touch.drewN ?_ _) | (with_reducible refine Touch.alloc ?_ _) | (with_reducible refine Touch.setCell ?_ _ _ _ ?_) | (with_reducible refine Touch.step (by assumption) ?_) | (with_reducible refine Touch.stepT (by assumption) ?_ ?_) | (intro _; first | rfl | trivial | omega | (simp; done) | (simp; omega)) | (intro _ _; first | omega | (simp; done) | (simp; omega)))))⟩
  · have hz' : (c.n == 0) = false := by simp [hz]
    simp only [Clk.floorE, Clk.floorF, hz, if_false]
    have hn : 1 ≤ c.n := by omega
    clear hz
    obtain ⟨n, hcn⟩ : ∃ n : Nat, c.n = n := ⟨c.n.toNat, by omega⟩
    have e1 : (c.n - 1).toNat = n - 1 := by omega
    rw [e1]
    rw [hcn] at h13 hz'
    have hn1 : 1 ≤ n := by omega
    have hn4 : n ≤ 4 := by omega
    have HC := Lib.hid hcn; clear hcn e1
    have hn : n = 1 ∨ n = 2 ∨ n = 3 ∨ n = 4 := by omega
    rcases hn with rfl | rfl | rfl | rfl
    all_goals
      have hq : ∀ k, ClkAt (w.drewN k) b c := fun _ => h
      go_enter Try.func61, Try.ntmps61
      go_wp2_with ((go_at_call 82; (with_reducible refine (clk_none _ c _ h).mono ?_); rintro e w' ⟨rfl, rfl⟩); rw [HC.out, hz'])
      go_quiet (fail)
      go_wp2_with (first | (go_at_call 90; (with_reducible refine (clk_least_en _ c _ _ (hq _) (by omega) (by omega)).mono ?_); rintro e w1 ⟨rfl, hb1⟩; have hc1 : ClkAt w1 b c := (hb1.block b hb).trans h) | (go_at_call 90; (with_reducible refine (clk_least_fl _ c _ _ hc1 (by omega) (by omega)).mono ?_); rintro e w2 ⟨rfl, hb2⟩))
      go_ret2
      exact ⟨rfl, by (refine Touch.below0 ?_; (repeat' (first | (with_reducible exact Touch.refl _ _) | (with_reducible assumption) | (with_reducible refine Touch.drew ?_) | (with_reducible refine Touch.drewN ?_ _) | (with_reducible refine Touch.alloc ?_ _) | (with_reducible refine Touch.setCell ?_ _ _ _ ?_) | (with_reducible refine Touch.step (by assumption) ?_) | (with_reducible refine Touch.stepT (by assumption) ?_ ?_) | (intro _; first | rfl | trivial | omega | (simp; done) | (simp; omega)) | (intro _ _; first | omega | (simp; done) | (simp; omega)))))⟩
end Go.Proofs.Ytejdfdllgobnhaa
