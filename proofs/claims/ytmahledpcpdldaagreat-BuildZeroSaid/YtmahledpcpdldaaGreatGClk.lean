/- Several texts in one: Clk, ClkF, ClkLaw, ClkActs. -/
import Derived.Test.YtmahledpcpdldaaGreatProg
import Derived.Test.YtmahledpcpdldaaGreatBase
import Derived.Deep.QuietTactic
import Derived.BigQuiet
/- Clk -/
set_option linter.unusedVariables false
set_option linter.unusedSimpArgs false
namespace Go.Proofs.YtmahledpcpdldaaGreat
open Go.RowKit

structure Clk where
  now : Int
  n : Int
  cy : Nat → Int
  en : Nat → Int
  fl : Nat → Int

def Clk.arr (c : Clk) : Array Value := #[.int .i64 c.now, .int .i64 (c.cy 0), .int .i64 (c.en 0), .int .i64 (c.fl 0),
  .int .i64 (c.cy 1), .int .i64 (c.en 1), .int .i64 (c.fl 1), .int .i64 (c.cy 2), .int .i64 (c.en 2), .int .i64 (c.fl 2),
  .int .i64 (c.cy 3), .int .i64 (c.en 3), .int .i64 (c.fl 3), .int .i64 c.n]

def ClkAt (w : World) (b : Nat) (c : Clk) : Prop := w.heap[b]? = some (.cells c.arr 254 (0, 0))

structure Clk.Ok (c : Clk) : Prop where
  n0 : 0 ≤ c.n
  n4 : c.n ≤ 4
  t0 : 0 ≤ c.now
  t1 : c.now ≤ 1073741824
  cy0 : ∀ j, 0 ≤ c.cy j
  cy1 : ∀ j, c.cy j ≤ c.now
  en0 : ∀ j, -1 ≤ c.en j
  en1 : ∀ j, c.en j ≤ c.now
  fl0 : ∀ j, -1 ≤ c.fl j
  fl1 : ∀ j, c.fl j ≤ c.now

def Clk.can (c : Clk) (i : Int) : Int := if c.n = 0 then 13 else if i < 0 then 1 else if c.n ≤ i then 1 else 0
def Clk.stepE (c : Clk) (i : Int) : Int := if c.can i ≠ 0 then c.can i else if 1073741824 ≤ c.now then 11 else 0
def Clk.step (c : Clk) (i : Int) : Clk := if c.stepE i = 0 then { c with now := c.now + 1, cy := upd c.cy i.toNat (c.cy i.toNat + 1) } else c
def Clk.enter (c : Clk) (i : Int) : Clk := if c.can i = 0 then { c with en := upd c.en i.toNat c.now } else c
def Clk.flush (c : Clk) (i : Int) : Clk := if c.can i = 0 then { c with fl := upd c.fl i.toNat c.now } else c
def Clk.cycles (c : Clk) (i : Int) : Int := if c.can i = 0 then c.cy i.toNat else 0
def Clk.entered (c : Clk) (i : Int) : Int := if c.can i = 0 then c.en i.toNat else -1
def Clk.flushed (c : Clk) (i : Int) : Int := if c.can i = 0 then c.fl i.toNat else -1
def Clk.nowOf (c : Clk) : Int := if c.n = 0 then 0 else c.now

theorem Clk.can_zero {c : Clk} {i : Int} (h : c.can i = 0) : c.n ≠ 0 ∧ 0 ≤ i ∧ i < c.n := by
  unfold Clk.can at h
  split at h
  · omega
  · split at h
    · omega
    · split at h <;> omega

/-- The clock's cells, one by one, as the walk asks for them. -/
theorem ClkAt.cells {w : World} {b : Nat} {c : Clk} (h : ClkAt w b c) :
    w.cell? ⟨b, 0, none⟩ = some (.int .i64 c.now) ∧ w.cell? ⟨b, 13, none⟩ = some (.int .i64 c.n) ∧
    (w.cell? ⟨b, 1, none⟩ = some (.int .i64 (c.cy 0)) ∧ w.cell? ⟨b, 2, none⟩ = some (.int .i64 (c.en 0)) ∧ w.cell? ⟨b, 3, none⟩ = some (.int .i64 (c.fl 0))) ∧
    (w.cell? ⟨b, 4, none⟩ = some (.int .i64 (c.cy 1)) ∧ w.cell? ⟨b, 5, none⟩ = some (.int .i64 (c.en 1)) ∧ w.cell? ⟨b, 6, none⟩ = some (.int .i64 (c.fl 1))) ∧
    (w.cell? ⟨b, 7, none⟩ = some (.int .i64 (c.cy 2)) ∧ w.cell? ⟨b, 8, none⟩ = some (.int .i64 (c.en 2)) ∧ w.cell? ⟨b, 9, none⟩ = some (.int .i64 (c.fl 2))) ∧
    (w.cell? ⟨b, 10, none⟩ = some (.int .i64 (c.cy 3)) ∧ w.cell? ⟨b, 11, none⟩ = some (.int .i64 (c.en 3)) ∧ w.cell? ⟨b, 12, none⟩ = some (.int .i64 (c.fl 3))) := by
  simp only [cell_of h]
  exact ⟨rfl, rfl, ⟨rfl, rfl, rfl⟩, ⟨rfl, rfl, rfl⟩, ⟨rfl, rfl, rfl⟩, ⟨rfl, rfl, rfl⟩⟩

theorem ClkAt.free {w : World} {b : Nat} {c : Clk} (h : ClkAt w b c) (o : Nat) : w.frozen? ⟨b, o, none⟩ = false := frozen_of h o

/-! none, can -/
theorem clk_none_nil (w : World) : Calls Tryz.prog 243 #[.pointer none] w fun e w' => e = .returned (.bool true) ∧ w = w' := by
  go_enter Tryz.func243, Tryz.ntmps243
  go_wp2
  go_ret
  exact ⟨rfl, rfl⟩

theorem clk_none (b : Nat) (c : Clk) (w : World) (h : ClkAt w b c) :
    Calls Tryz.prog 243 #[.pointer (some ⟨b, 0, none⟩)] w fun e w' => e = .returned (.bool (c.n == 0)) ∧ w = w' := by
  obtain ⟨_, h13, _⟩ := h.cells
  go_enter Tryz.func243, Tryz.ntmps243
  go_wp2
  go_ret
  exact ⟨rfl, rfl⟩

theorem clk_can_nil (i : Int) (w : World) : Calls Tryz.prog 180 #[.pointer none, .int .i64 i] w fun e w' => e = .returned (.int .i64 13) ∧ w = w' := by
  go_enter Tryz.func180, Tryz.ntmps180
  go_wp2_with (go_at_call 243; refine (clk_none_nil _).mono ?_; rintro e w' ⟨rfl, rfl⟩)
  go_ret
  exact ⟨rfl, rfl⟩

theorem clk_can (b : Nat) (c : Clk) (i : Int) (w : World) (h : ClkAt w b c) :
    Calls Tryz.prog 180 #[.pointer (some ⟨b, 0, none⟩), .int .i64 i] w fun e w' => e = .returned (.int .i64 (c.can i)) ∧ w = w' := by
  obtain ⟨_, h13, _⟩ := h.cells
  unfold Clk.can
  by_cases hz : c.n = 0
  · have hz' : (c.n == 0) = true := by simp [hz]
    rw [if_pos hz]; clear hz
    go_enter Tryz.func180, Tryz.ntmps180
    go_wp2_with (go_at_call 243; refine (clk_none _ c _ h).mono ?_; rintro e w' ⟨rfl, rfl⟩)
    go_ret
    exact ⟨rfl, rfl⟩
  · have hz' : (c.n == 0) = false := by simp [hz]
    rw [if_neg hz]; clear hz
    by_cases h1 : i < 0
    · rw [if_pos h1]
      go_enter Tryz.func180, Tryz.ntmps180
      go_wp2_with (go_at_call 243; refine (clk_none _ c _ h).mono ?_; rintro e w' ⟨rfl, rfl⟩)
      go_ret
      exact ⟨rfl, rfl⟩
    · rw [if_neg h1]
      by_cases h2 : c.n ≤ i
      · rw [if_pos h2]
        go_enter Tryz.func180, Tryz.ntmps180
        go_wp2_with (go_at_call 243; refine (clk_none _ c _ h).mono ?_; rintro e w' ⟨rfl, rfl⟩)
        go_ret
        exact ⟨rfl, rfl⟩
      · rw [if_neg h2]
        go_enter Tryz.func180, Tryz.ntmps180
        go_wp2_with (go_at_call 243; refine (clk_none _ c _ h).mono ?_; rintro e w' ⟨rfl, rfl⟩)
        go_ret
        exact ⟨rfl, rfl⟩

/-! Step -/
theorem clk_step_nil (i : Int) (w : World) : Calls Tryz.prog 80 #[.pointer none, .int .i64 i] w fun e w' => e = .returned (.int .i64 13) ∧ w = w' := by
  go_enter Tryz.func80, Tryz.ntmps80
  go_wp2_with (go_at_call 180; refine (clk_can_nil _ _).mono ?_; rintro e w' ⟨rfl, rfl⟩)
  go_ret
  exact ⟨rfl, rfl⟩

theorem four_cases {i : Int} (h0 : 0 ≤ i) (h4 : i < 4) : i = 0 ∨ i = 1 ∨ i = 2 ∨ i = 3 := by omega

/-- The three cells of core i. -/
theorem ClkAt.row {w : World} {b : Nat} {c : Clk} (h : ClkAt w b c) {i : Int} (h0 : 0 ≤ i) (h4 : i < 4) :
    w.cell? ⟨b, 1 + i.toNat * 3, none⟩ = some (.int .i64 (c.cy i.toNat)) ∧ w.cell? ⟨b, 1 + i.toNat * 3 + 1, none⟩ = some (.int .i64 (c.en i.toNat)) ∧
    w.cell? ⟨b, 1 + i.toNat * 3 + 2, none⟩ = some (.int .i64 (c.fl i.toNat)) := by
  simp only [cell_of h]
  rcases four_cases h0 h4 with rfl | rfl | rfl | rfl <;> exact ⟨rfl, rfl, rfl⟩

theorem Clk.no {c : Clk} {i q : Int} (hc : c.can i = q) (he : ¬ q = 0) : c.stepE i = q ∧ c.step i = c ∧ c.enter i = c ∧ c.flush i = c ∧ c.cycles i = 0 ∧ c.entered i = -1 ∧ c.flushed i = -1 := by
  subst hc
  simp [Clk.stepE, Clk.step, Clk.enter, Clk.flush, Clk.cycles, Clk.entered, Clk.flushed, he]
theorem Clk.yes {c : Clk} {i : Int} (hc : c.can i = 0) : c.enter i = { c with en := upd c.en i.toNat c.now } ∧ c.flush i = { c with fl := upd c.fl i.toNat c.now } ∧
    c.cycles i = c.cy i.toNat ∧ c.entered i = c.en i.toNat ∧ c.flushed i = c.fl i.toNat := by
  simp [Clk.enter, Clk.flush, Clk.cycles, Clk.entered, Clk.flushed, hc]
theorem Clk.late {c : Clk} {i : Int} (hc : c.can i = 0) (ht : 1073741824 ≤ c.now) : c.stepE i = 11 ∧ c.step i = c := by
  simp [Clk.stepE, Clk.step, hc, ht]
theorem Clk.goes {c : Clk} {i : Int} (hc : c.can i = 0) (ht : ¬ 1073741824 ≤ c.now) :
    c.stepE i = 0 ∧ c.step i = { c with now := c.now + 1, cy := upd c.cy i.toNat (c.cy i.toNat + 1) } := by
  simp [Clk.stepE, Clk.step, hc, ht]

set_option maxHeartbeats 1000000 in
theorem clk_step (b : Nat) (c : Clk) (i : Int) (w : World) (h : ClkAt w b c) (ok : c.Ok) :
    Calls Tryz.prog 80 #[.pointer (some ⟨b, 0, none⟩), .int .i64 i] w fun e w' =>
      e = .returned (.int .i64 (c.stepE i)) ∧ ClkAt w' b (c.step i) ∧ Touch (· = b) w w' := by
  generalize hc : c.can i = q
  by_cases he : q = 0
  · subst he
    obtain ⟨_, hlt0, hltn⟩ := Clk.can_zero hc
    have hi4 : i < 4 := by have := ok.n4; omega
    obtain ⟨g0, g13, _⟩ := h.cells
    obtain ⟨g1, g2, g3⟩ := h.row hlt0 hi4
    have hf := h.free
    have c0 := ok.cy0 i.toNat; have c1 := ok.cy1 i.toNat
    have t0 := ok.t0
    have t1 := ok.t1
    by_cases ht : 1073741824 ≤ c.now
    · obtain ⟨e1, e2⟩ := Clk.late hc ht
      rw [e1, e2]; clear e1 e2
      have HC := Lib.hid hc; clear hc
      go_enter Tryz.func80, Tryz.ntmps80
      go_wp2_with ((go_at_call 180; (with_reducible refine (clk_can _ c i _ h).mono ?_); rintro e w' ⟨rfl, rfl⟩); rw [HC.out])
      go_ret
      exact ⟨rfl, h, Touch.refl _ _⟩
    · obtain ⟨e1, e2⟩ := Clk.goes hc ht
      rw [e1, e2]; clear e1 e2
      have HC := Lib.hid hc; clear hc
      go_enter Tryz.func80, Tryz.ntmps80
      go_wp2_with ((go_at_call 180; (with_reducible refine (clk_can _ c i _ h).mono ?_); rintro e w' ⟨rfl, rfl⟩); rw [HC.out])
      go_region
      go_wp2
      go_ret
      refine ⟨rfl, (heap_set (heap_set h _) _).trans ?_, by (repeat' (first | (with_reducible exact Touch.refl _ _) | (with_reducible assumption) | (with_reducible refine Touch.drew ?_) | (with_reducible refine Touch.drewN ?_ _) | (with_reducible refine Touch.alloc ?_ _) | (with_reducible refine Touch.setCell ?_ _ _ _ ?_) | (with_reducible refine Touch.step (by assumption) ?_) | (with_reducible refine Touch.stepT (by assumption) ?_ ?_) | (intro _; first | rfl | trivial | omega | (simp; done) | (simp; omega)) | (intro _ _; first | omega | (simp; done) | (simp; omega))))⟩
      rcases four_cases hlt0 hi4 with rfl | rfl | rfl | rfl <;> rfl
  · have hq : (q == 0) = false := by simpa using he
    have hq2 : (q != 0) = true := by simpa using he
    obtain ⟨n1, n2, n3, n4, n5, n6, n7⟩ := Clk.no hc he
    first | rw [n1, n2] | rw [n3] | rw [n4] | rw [n5] | rw [n6] | rw [n7] | skip
    clear n1 n2 n3 n4 n5 n6 n7
    have HC := Lib.hid hc
    clear hc he
    go_enter Tryz.func80, Tryz.ntmps80
    go_wp2_with ((go_at_call 180; (with_reducible refine (clk_can _ c i _ h).mono ?_); rintro e w' ⟨rfl, rfl⟩); rw [HC.out])
    go_ret
    exact ⟨rfl, h, Touch.refl _ _⟩

theorem clk_enter_nil (i : Int) (w : World) : Calls Tryz.prog 82 #[.pointer none, .int .i64 i] w fun e w' => e = .returned (.int .i64 13) ∧ w = w' := by
  go_enter Tryz.func82, Tryz.ntmps82
  go_wp2_with ((go_at_call 180; (with_reducible refine (clk_can_nil _ _).mono ?_); rintro e w' ⟨rfl, rfl⟩))
  go_ret
  exact ⟨rfl, rfl⟩

set_option maxHeartbeats 1000000 in
theorem clk_enter (b : Nat) (c : Clk) (i : Int) (w : World) (h : ClkAt w b c) (ok : c.Ok) :
    Calls Tryz.prog 82 #[.pointer (some ⟨b, 0, none⟩), .int .i64 i] w fun e w' =>
      e = .returned (.int .i64 (c.can i)) ∧ ClkAt w' b (c.enter i) ∧ Touch (· = b) w w' := by
  generalize hc : c.can i = q
  by_cases he : q = 0
  · subst he
    obtain ⟨_, hlt0, hltn⟩ := Clk.can_zero hc
    have hi4 : i < 4 := by have := ok.n4; omega
    obtain ⟨g0, g13, _⟩ := h.cells
    obtain ⟨g1, g2, g3⟩ := h.row hlt0 hi4
    have hf := h.free
    obtain ⟨e1, e2, _⟩ := Clk.yes hc
    rw [e1]; clear e1 e2
    have HC := Lib.hid hc; clear hc
    go_enter Tryz.func82, Tryz.ntmps82
    go_wp2_with ((go_at_call 180; (with_reducible refine (clk_can _ c i _ h).mono ?_); rintro e w' ⟨rfl, rfl⟩); rw [HC.out])
    go_region
    go_wp2
    go_ret
    refine ⟨rfl, (heap_set h _).trans ?_, by (repeat' (first | (with_reducible exact Touch.refl _ _) | (with_reducible assumption) | (with_reducible refine Touch.drew ?_) | (with_reducible refine Touch.drewN ?_ _) | (with_reducible refine Touch.alloc ?_ _) | (with_reducible refine Touch.setCell ?_ _ _ _ ?_) | (with_reducible refine Touch.step (by assumption) ?_) | (with_reducible refine Touch.stepT (by assumption) ?_ ?_) | (intro _; first | rfl | trivial | omega | (simp; done) | (simp; omega)) | (intro _ _; first | omega | (simp; done) | (simp; omega))))⟩
    rcases four_cases hlt0 hi4 with rfl | rfl | rfl | rfl <;> rfl
  · have hq : (q == 0) = false := by simpa using he
    have hq2 : (q != 0) = true := by simpa using he
    obtain ⟨n1, n2, n3, n4, n5, n6, n7⟩ := Clk.no hc he
    first | rw [n1, n2] | rw [n3] | rw [n4] | rw [n5] | rw [n6] | rw [n7] | skip
    clear n1 n2 n3 n4 n5 n6 n7
    have HC := Lib.hid hc
    clear hc he
    go_enter Tryz.func82, Tryz.ntmps82
    go_wp2_with ((go_at_call 180; (with_reducible refine (clk_can _ c i _ h).mono ?_); rintro e w' ⟨rfl, rfl⟩); rw [HC.out])
    go_ret
    exact ⟨rfl, h, Touch.refl _ _⟩
theorem clk_flush_nil (i : Int) (w : World) : Calls Tryz.prog 175 #[.pointer none, .int .i64 i] w fun e w' => e = .returned (.int .i64 13) ∧ w = w' := by
  go_enter Tryz.func175, Tryz.ntmps175
  go_wp2_with ((go_at_call 180; (with_reducible refine (clk_can_nil _ _).mono ?_); rintro e w' ⟨rfl, rfl⟩))
  go_ret
  exact ⟨rfl, rfl⟩

set_option maxHeartbeats 1000000 in
theorem clk_flush (b : Nat) (c : Clk) (i : Int) (w : World) (h : ClkAt w b c) (ok : c.Ok) :
    Calls Tryz.prog 175 #[.pointer (some ⟨b, 0, none⟩), .int .i64 i] w fun e w' =>
      e = .returned (.int .i64 (c.can i)) ∧ ClkAt w' b (c.flush i) ∧ Touch (· = b) w w' := by
  generalize hc : c.can i = q
  by_cases he : q = 0
  · subst he
    obtain ⟨_, hlt0, hltn⟩ := Clk.can_zero hc
    have hi4 : i < 4 := by have := ok.n4; omega
    obtain ⟨g0, g13, _⟩ := h.cells
    obtain ⟨g1, g2, g3⟩ := h.row hlt0 hi4
    have hf := h.free
    obtain ⟨e1, e2, _⟩ := Clk.yes hc
    rw [e2]; clear e1 e2
    have HC := Lib.hid hc; clear hc
    go_enter Tryz.func175, Tryz.ntmps175
    go_wp2_with ((go_at_call 180; (with_reducible refine (clk_can _ c i _ h).mono ?_); rintro e w' ⟨rfl, rfl⟩); rw [HC.out])
    go_region
    go_wp2
    go_ret
    refine ⟨rfl, (heap_set h _).trans ?_, by (repeat' (first | (with_reducible exact Touch.refl _ _) | (with_reducible assumption) | (with_reducible refine Touch.drew ?_) | (with_reducible refine Touch.drewN ?_ _) | (with_reducible refine Touch.alloc ?_ _) | (with_reducible refine Touch.setCell ?_ _ _ _ ?_) | (with_reducible refine Touch.step (by assumption) ?_) | (with_reducible refine Touch.stepT (by assumption) ?_ ?_) | (intro _; first | rfl | trivial | omega | (simp; done) | (simp; omega)) | (intro _ _; first | omega | (simp; done) | (simp; omega))))⟩
    rcases four_cases hlt0 hi4 with rfl | rfl | rfl | rfl <;> rfl
  · have hq : (q == 0) = false := by simpa using he
    have hq2 : (q != 0) = true := by simpa using he
    obtain ⟨n1, n2, n3, n4, n5, n6, n7⟩ := Clk.no hc he
    first | rw [n1, n2] | rw [n3] | rw [n4] | rw [n5] | rw [n6] | rw [n7] | skip
    clear n1 n2 n3 n4 n5 n6 n7
    have HC := Lib.hid hc
    clear hc he
    go_enter Tryz.func175, Tryz.ntmps175
    go_wp2_with ((go_at_call 180; (with_reducible refine (clk_can _ c i _ h).mono ?_); rintro e w' ⟨rfl, rfl⟩); rw [HC.out])
    go_ret
    exact ⟨rfl, h, Touch.refl _ _⟩

/-! of, Cycles, Entered, Flushed, Now, Cores -/
theorem clk_of_nil (i : Int) (w : World) : Calls Tryz.prog 286 #[.pointer none, .int .i64 i] w fun e w' =>
    e = .returned (.agg #[.int .i64 0, .int .i64 (-1), .int .i64 (-1)]) ∧ Below w.heap.size w w' := by
  go_enter Tryz.func286, Tryz.ntmps286
  go_wp2_with ((go_at_call 180; (with_reducible refine (clk_can_nil _ _).mono ?_); rintro e w' ⟨rfl, rfl⟩))
  go_returns
  exact ⟨rfl, by go_grown⟩

theorem clk_of (b : Nat) (c : Clk) (i : Int) (w : World) (h : ClkAt w b c) (ok : c.Ok) :
    Calls Tryz.prog 286 #[.pointer (some ⟨b, 0, none⟩), .int .i64 i] w fun e w' =>
      e = .returned (.agg #[.int .i64 (c.cycles i), .int .i64 (c.entered i), .int .i64 (c.flushed i)]) ∧ Below w.heap.size w w' := by
  generalize hc : c.can i = q
  by_cases he : q = 0
  · subst he
    obtain ⟨_, hlt0, hltn⟩ := Clk.can_zero hc
    have hi4 : i < 4 := by have := ok.n4; omega
    obtain ⟨g0, g13, _⟩ := h.cells
    obtain ⟨g1, g2, g3⟩ := h.row hlt0 hi4
    have hf := h.free
    obtain ⟨_, _, e1, e2, e3⟩ := Clk.yes hc
    rw [e1, e2, e3]; clear e1 e2 e3
    have hb : b < w.heap.size := lt_of_block h
    have HC := Lib.hid hc; clear hc
    have h' : ClkAt _ b c := heap_alloc h (.cells #[.int .i64 0, .int .i64 0, .int .i64 0] 251 (0, 0))
    go_enter Tryz.func286, Tryz.ntmps286
    go_wp2_with ((go_at_call 180; (with_reducible refine (clk_can _ c i _ h').mono ?_); rintro e w' ⟨rfl, rfl⟩); rw [HC.out])
    go_returns
    exact ⟨rfl, by go_grown⟩
  · have hq : (q == 0) = false := by simpa using he
    have hq2 : (q != 0) = true := by simpa using he
    obtain ⟨_, _, _, _, n5, n6, n7⟩ := Clk.no hc he
    rw [n5, n6, n7]
    clear n5 n6 n7
    have HC := Lib.hid hc
    clear hc he
    have h' : ClkAt _ b c := heap_alloc h (.cells #[.int .i64 0, .int .i64 0, .int .i64 0] 251 (0, 0))
    go_enter Tryz.func286, Tryz.ntmps286
    go_wp2_with ((go_at_call 180; (with_reducible refine (clk_can _ c i _ h').mono ?_); rintro e w' ⟨rfl, rfl⟩); rw [HC.out])
    go_returns
    exact ⟨rfl, by go_grown⟩

theorem clk_entered_nil (i : Int) (w : World) : Calls Tryz.prog 252 #[.pointer none, .int .i64 i] w fun e w' => e = .returned (.int .i64 (-1)) ∧ Below w.heap.size w w' := by
  go_enter Tryz.func252, Tryz.ntmps252
  go_wp2_with ((go_at_call 286; (with_reducible refine (clk_of_nil _ _).mono ?_); rintro e w' ⟨rfl, hb⟩))
  go_ret
  exact ⟨rfl, hb⟩
theorem clk_entered (b : Nat) (c : Clk) (i : Int) (w : World) (h : ClkAt w b c) (ok : c.Ok) :
    Calls Tryz.prog 252 #[.pointer (some ⟨b, 0, none⟩), .int .i64 i] w fun e w' => e = .returned (.int .i64 (c.entered i)) ∧ Below w.heap.size w w' := by
  go_enter Tryz.func252, Tryz.ntmps252
  go_wp2_with ((go_at_call 286; (with_reducible refine (clk_of _ c i _ h ok).mono ?_); rintro e w' ⟨rfl, hb⟩))
  go_ret
  exact ⟨rfl, hb⟩
theorem clk_flushed_nil (i : Int) (w : World) : Calls Tryz.prog 251 #[.pointer none, .int .i64 i] w fun e w' => e = .returned (.int .i64 (-1)) ∧ Below w.heap.size w w' := by
  go_enter Tryz.func251, Tryz.ntmps251
  go_wp2_with ((go_at_call 286; (with_reducible refine (clk_of_nil _ _).mono ?_); rintro e w' ⟨rfl, hb⟩))
  go_ret
  exact ⟨rfl, hb⟩
theorem clk_flushed (b : Nat) (c : Clk) (i : Int) (w : World) (h : ClkAt w b c) (ok : c.Ok) :
    Calls Tryz.prog 251 #[.pointer (some ⟨b, 0, none⟩), .int .i64 i] w fun e w' => e = .returned (.int .i64 (c.flushed i)) ∧ Below w.heap.size w w' := by
  go_enter Tryz.func251, Tryz.ntmps251
  go_wp2_with ((go_at_call 286; (with_reducible refine (clk_of _ c i _ h ok).mono ?_); rintro e w' ⟨rfl, hb⟩))
  go_ret
  exact ⟨rfl, hb⟩

theorem clk_now_nil (w : World) : Calls Tryz.prog 184 #[.pointer none] w fun e w' => e = .returned (.int .i64 0) ∧ w = w' := by
  go_enter Tryz.func184, Tryz.ntmps184
  go_wp2_with ((go_at_call 243; (with_reducible refine (clk_none_nil _).mono ?_); rintro e w' ⟨rfl, rfl⟩))
  go_ret
  exact ⟨rfl, rfl⟩
theorem clk_now (b : Nat) (c : Clk) (w : World) (h : ClkAt w b c) :
    Calls Tryz.prog 184 #[.pointer (some ⟨b, 0, none⟩)] w fun e w' => e = .returned (.int .i64 (c.nowOf)) ∧ w = w' := by
  obtain ⟨h0, h13, _⟩ := h.cells
  by_cases hz : c.n = 0
  · have hz' : (c.n == 0) = true := by simp [hz]
    rw [show c.nowOf = 0 by simp [Clk.nowOf, hz]]; clear hz
    go_enter Tryz.func184, Tryz.ntmps184
    go_wp2_with ((go_at_call 243; (with_reducible refine (clk_none _ c _ h).mono ?_); rintro e w' ⟨rfl, rfl⟩))
    go_ret
    exact ⟨rfl, rfl⟩
  · have hz' : (c.n == 0) = false := by simp [hz]
    rw [show c.nowOf = c.now by simp [Clk.nowOf, hz]]; clear hz
    go_enter Tryz.func184, Tryz.ntmps184
    go_wp2_with ((go_at_call 243; (with_reducible refine (clk_none _ c _ h).mono ?_); rintro e w' ⟨rfl, rfl⟩))
    go_ret
    exact ⟨rfl, rfl⟩
theorem clk_cores_nil (w : World) : Calls Tryz.prog 285 #[.pointer none] w fun e w' => e = .returned (.int .i64 0) ∧ w = w' := by
  go_enter Tryz.func285, Tryz.ntmps285
  go_wp2_with ((go_at_call 243; (with_reducible refine (clk_none_nil _).mono ?_); rintro e w' ⟨rfl, rfl⟩))
  go_ret
  exact ⟨rfl, rfl⟩
theorem clk_cores (b : Nat) (c : Clk) (w : World) (h : ClkAt w b c) :
    Calls Tryz.prog 285 #[.pointer (some ⟨b, 0, none⟩)] w fun e w' => e = .returned (.int .i64 (c.n)) ∧ w = w' := by
  obtain ⟨h0, h13, _⟩ := h.cells
  by_cases hz : c.n = 0
  · have hz' : (c.n == 0) = true := by simp [hz]
    rw [show c.n = 0 by simp [Clk.nowOf, hz]]; clear hz
    go_enter Tryz.func285, Tryz.ntmps285
    go_wp2_with ((go_at_call 243; (with_reducible refine (clk_none _ c _ h).mono ?_); rintro e w' ⟨rfl, rfl⟩))
    go_ret
    exact ⟨rfl, rfl⟩
  · have hz' : (c.n == 0) = false := by simp [hz]
    rw [show c.n = c.n by simp [Clk.nowOf, hz]]; clear hz
    go_enter Tryz.func285, Tryz.ntmps285
    go_wp2_with ((go_at_call 243; (with_reducible refine (clk_none _ c _ h).mono ?_); rintro e w' ⟨rfl, rfl⟩))
    go_ret
    exact ⟨rfl, rfl⟩

/-! New -/
def Clk.new (n : Int) : Clk := { now := 0, n := n, cy := fun _ => 0, en := fun _ => -1, fl := fun _ => -1 }
theorem Clk.new_ok {n : Int} (h0 : 0 ≤ n) (h4 : n ≤ 4) : (Clk.new n).Ok := by
  constructor <;> simp [Clk.new] <;> omega

theorem clk_new_no (n : Int) (w : World) (hn : n < 1 ∨ 4 < n) : Calls Tryz.prog 56 #[.int .i64 n] w fun e w' =>
    e = .returned (.tuple #[.pointer none, .int .i64 1]) ∧ w = w' := by
  rcases hn with hn | hn
  · go_enter Tryz.func56, Tryz.ntmps56
    go_wp2
    go_ret2
    exact ⟨rfl, rfl⟩
  · have hn' : ¬ n < 1 := by omega
    go_enter Tryz.func56, Tryz.ntmps56
    go_wp2
    go_ret2
    exact ⟨rfl, rfl⟩

set_option maxHeartbeats 1000000 in
theorem clk_new (n : Int) (w : World) (h1 : 1 ≤ n) (h4 : n ≤ 4) : Calls Tryz.prog 56 #[.int .i64 n] w fun e w' =>
    e = .returned (.tuple #[.pointer (some ⟨w.heap.size, 0, none⟩), .int .i64 0]) ∧ ClkAt w' w.heap.size (Clk.new n) ∧ Below w.heap.size w w' := by
  go_enter Tryz.func56, Tryz.ntmps56
  go_wp2
  go_rounds 5
  go_ret2
  refine ⟨rfl, heap_new _ _, by go_grown⟩

/-! Floor -/
def leastN (f : Nat → Int) : Nat → Int
  | 0 => f 0
  | k + 1 => min (leastN f k) (f (k + 1))
def Clk.floorE (c : Clk) : Int := if c.n = 0 then -1 else leastN c.en (c.n - 1).toNat
def Clk.floorF (c : Clk) : Int := if c.n = 0 then -1 else leastN c.fl (c.n - 1).toNat

theorem clk_sawKernel (x0 x1 x2 : Int) (w : World) : Calls Tryz.prog 248 #[.agg #[.int .i64 x0, .int .i64 x1, .int .i64 x2]] w fun e w' =>
    e = .returned (.int .i64 x1) ∧ Below w.heap.size w w' := by
  go_enter Tryz.func248, Tryz.ntmps248
  go_wp2
  go_ret
  exact ⟨rfl, by go_grown⟩
theorem clk_sawPages (x0 x1 x2 : Int) (w : World) : Calls Tryz.prog 249 #[.agg #[.int .i64 x0, .int .i64 x1, .int .i64 x2]] w fun e w' =>
    e = .returned (.int .i64 x2) ∧ Below w.heap.size w w' := by
  go_enter Tryz.func249, Tryz.ntmps249
  go_wp2
  go_ret
  exact ⟨rfl, by go_grown⟩
end Go.Proofs.YtmahledpcpdldaaGreat
/- ClkF -/
set_option linter.unusedVariables false
set_option linter.unusedSimpArgs false
namespace Go.Proofs.YtmahledpcpdldaaGreat
open Go.RowKit

/-- The cells of core k + 1, as the round asks for them. -/
theorem ClkAt.next {w : World} {b : Nat} {c : Clk} (h : ClkAt w b c) {k : Nat} (hk : k + 1 < 4) :
    w.cell? ⟨b, 4 + k * 3, none⟩ = some (.int .i64 (c.cy (k + 1))) ∧ w.cell? ⟨b, 4 + k * 3 + 1, none⟩ = some (.int .i64 (c.en (k + 1))) ∧
    w.cell? ⟨b, 4 + k * 3 + 2, none⟩ = some (.int .i64 (c.fl (k + 1))) := by
  simp only [cell_of h]
  have : k = 0 ∨ k = 1 ∨ k = 2 := by omega
  rcases this with rfl | rfl | rfl <;> exact ⟨rfl, rfl, rfl⟩

set_option maxHeartbeats 4000000 in
theorem clk_least_en (b : Nat) (c : Clk) (n : Nat) (w : World) (h : ClkAt w b c) (h1 : 1 ≤ n) (h4 : n ≤ 4) :
    Calls Tryz.prog 247 #[.slice (some ⟨b, 1, none⟩) n 4, .func (.func 248) #[] #[]] w fun e w' =>
      e = .returned (.int .i64 (leastN c.en (n - 1))) ∧ Below w.heap.size w w' := by
  obtain ⟨_, _, ⟨g1, g2, g3⟩, _⟩ := h.cells
  have hb := lt_of_block h
  go_enter Tryz.func247, Tryz.ntmps247
  go_wp2_with (go_at_call 248; (with_reducible refine (clk_sawKernel _ _ _ _).mono ?_); rintro e w' ⟨rfl, hbw⟩; obtain ⟨hcw, hfw⟩ := bcell hbw; have hlw : b < w'.heap.size := by (have := hbw.size; (try simp at this); omega))
  go_loopw [5, 16] (fun m i wr => ∃ k : Nat, k ≤ n - 1 ∧ i = .int .i64 k ∧ m = .int .i64 (leastN c.en k) ∧ Below w.heap.size w wr) (fun _ i _ => n - (intOf i).toNat)
  case atStart => exact ⟨0, by omega, rfl, rfl, by (refine Touch.below0 ?_; (repeat' (first | (with_reducible exact Touch.refl _ _) | (with_reducible assumption) | (with_reducible refine Touch.drew ?_) | (with_reducible refine Touch.drewN ?_ _) | (with_reducible refine Touch.alloc ?_ _) | (with_reducible refine Touch.setCell ?_ _ _ _ ?_) | (with_reducible refine Touch.step (by assumption) ?_) | (with_reducible refine Touch.stepT (by assumption) ?_ ?_) | (intro _; first | rfl | trivial | omega | (simp; done) | (simp; omega)) | (intro _ _; first | omega | (simp; done) | (simp; omega)))))⟩
  case round =>
    obtain ⟨k, hk, rfl, rfl, hbr⟩ := hrel
    clear hcw hfw hlw hbw
    have hr : ClkAt wr b c := (hbr.block b hb).trans h
    have hbr2 := lt_of_block hr
    by_cases hlt : k < n - 1
    · obtain ⟨r1, r2, r3⟩ := hr.next (k := k) (by omega)
      have hlt' : (k : Int) < ((n - 1 : Nat) : Int) := by omega
      go_wp2_with (go_at_call 248; (with_reducible refine (clk_sawKernel _ _ _ _).mono ?_); rintro e w' ⟨rfl, hbw⟩; obtain ⟨hcw, hfw⟩ := bcell hbw; have hlw : b < w'.heap.size := by (have := hbw.size; (try simp at this); omega))
      all_goals
        go_roundw
        case rel => exact ⟨k + 1, by omega, by go_num, by simp only [leastN]; congr 1; omega, by (refine Touch.below0 ?_; (repeat' (first | (with_reducible exact Touch.refl _ _) | (with_reducible assumption) | (with_reducible refine Touch.drew ?_) | (with_reducible refine Touch.drewN ?_ _) | (with_reducible refine Touch.alloc ?_ _) | (with_reducible refine Touch.setCell ?_ _ _ _ ?_) | (with_reducible refine Touch.step (by assumption) ?_) | (with_reducible refine Touch.stepT (by assumption) ?_ ?_) | (intro _; first | rfl | trivial | omega | (simp; done) | (simp; omega)) | (intro _ _; first | omega | (simp; done) | (simp; omega)))))⟩
        case measure => simp [intOf]; omega
    · have hlt' : ¬ (k : Int) < ((n - 1 : Nat) : Int) := by omega
      obtain rfl : k = n - 1 := by omega
      go_wp2
      go_ret
      exact ⟨rfl, hbr⟩
set_option maxHeartbeats 4000000 in
theorem clk_least_fl (b : Nat) (c : Clk) (n : Nat) (w : World) (h : ClkAt w b c) (h1 : 1 ≤ n) (h4 : n ≤ 4) :
    Calls Tryz.prog 247 #[.slice (some ⟨b, 1, none⟩) n 4, .func (.func 249) #[] #[]] w fun e w' =>
      e = .returned (.int .i64 (leastN c.fl (n - 1))) ∧ Below w.heap.size w w' := by
  obtain ⟨_, _, ⟨g1, g2, g3⟩, _⟩ := h.cells
  have hb := lt_of_block h
  go_enter Tryz.func247, Tryz.ntmps247
  go_wp2_with (go_at_call 249; (with_reducible refine (clk_sawPages _ _ _ _).mono ?_); rintro e w' ⟨rfl, hbw⟩; obtain ⟨hcw, hfw⟩ := bcell hbw; have hlw : b < w'.heap.size := by (have := hbw.size; (try simp at this); omega))
  go_loopw [5, 16] (fun m i wr => ∃ k : Nat, k ≤ n - 1 ∧ i = .int .i64 k ∧ m = .int .i64 (leastN c.fl k) ∧ Below w.heap.size w wr) (fun _ i _ => n - (intOf i).toNat)
  case atStart => exact ⟨0, by omega, rfl, rfl, by (refine Touch.below0 ?_; (repeat' (first | (with_reducible exact Touch.refl _ _) | (with_reducible assumption) | (with_reducible refine Touch.drew ?_) | (with_reducible refine Touch.drewN ?_ _) | (with_reducible refine Touch.alloc ?_ _) | (with_reducible refine Touch.setCell ?_ _ _ _ ?_) | (with_reducible refine Touch.step (by assumption) ?_) | (with_reducible refine Touch.stepT (by assumption) ?_ ?_) | (intro _; first | rfl | trivial | omega | (simp; done) | (simp; omega)) | (intro _ _; first | omega | (simp; done) | (simp; omega)))))⟩
  case round =>
    obtain ⟨k, hk, rfl, rfl, hbr⟩ := hrel
    clear hcw hfw hlw hbw
    have hr : ClkAt wr b c := (hbr.block b hb).trans h
    have hbr2 := lt_of_block hr
    by_cases hlt : k < n - 1
    · obtain ⟨r1, r2, r3⟩ := hr.next (k := k) (by omega)
      have hlt' : (k : Int) < ((n - 1 : Nat) : Int) := by omega
      go_wp2_with (go_at_call 249; (with_reducible refine (clk_sawPages _ _ _ _).mono ?_); rintro e w' ⟨rfl, hbw⟩; obtain ⟨hcw, hfw⟩ := bcell hbw; have hlw : b < w'.heap.size := by (have := hbw.size; (try simp at this); omega))
      all_goals
        go_roundw
        case rel => exact ⟨k + 1, by omega, by go_num, by simp only [leastN]; congr 1; omega, by (refine Touch.below0 ?_; (repeat' (first | (with_reducible exact Touch.refl _ _) | (with_reducible assumption) | (with_reducible refine Touch.drew ?_) | (with_reducible refine Touch.drewN ?_ _) | (with_reducible refine Touch.alloc ?_ _) | (with_reducible refine Touch.setCell ?_ _ _ _ ?_) | (with_reducible refine Touch.step (by assumption) ?_) | (with_reducible refine Touch.stepT (by assumption) ?_ ?_) | (intro _; first | rfl | trivial | omega | (simp; done) | (simp; omega)) | (intro _ _; first | omega | (simp; done) | (simp; omega)))))⟩
        case measure => simp [intOf]; omega
    · have hlt' : ¬ (k : Int) < ((n - 1 : Nat) : Int) := by omega
      obtain rfl : k = n - 1 := by omega
      go_wp2
      go_ret
      exact ⟨rfl, hbr⟩

theorem clk_floor_nil (w : World) : Calls Tryz.prog 190 #[.pointer none] w fun e w' =>
    e = .returned (.tuple #[.int .i64 (-1), .int .i64 (-1)]) ∧ w = w' := by
  go_enter Tryz.func190, Tryz.ntmps190
  go_wp2_with (go_at_call 243; (with_reducible refine (clk_none_nil _).mono ?_); rintro e w' ⟨rfl, rfl⟩)
  go_ret2
  exact ⟨rfl, rfl⟩

set_option maxHeartbeats 1000000 in
theorem clk_floor (b : Nat) (c : Clk) (w : World) (h : ClkAt w b c) (ok : c.Ok) :
    Calls Tryz.prog 190 #[.pointer (some ⟨b, 0, none⟩)] w fun e w' =>
      e = .returned (.tuple #[.int .i64 c.floorE, .int .i64 c.floorF]) ∧ Below w.heap.size w w' := by
  have n0 := ok.n0; have n4 := ok.n4
  obtain ⟨_, h13, _⟩ := h.cells
  have hb := lt_of_block h
  by_cases hz : c.n = 0
  · have hz' : (c.n == 0) = true := by simp [hz]
    simp only [Clk.floorE, Clk.floorF, hz, if_true]
    clear hz
    go_enter Tryz.func190, Tryz.ntmps190
    go_wp2_with (go_at_call 243; (with_reducible refine (clk_none _ c _ h).mono ?_); rintro e w' ⟨rfl, rfl⟩)
    go_ret2
    exact ⟨rfl, by (refine Touch.below0 ?_; (repeat' (first | (with_reducible exact Touch.refl _ _) | (with_reducible assumption) | (with_reducible refine Touch.drew ?_) | (with_reducible refine Touch.drewN ?_ _) | (with_reducible refine Touch.alloc ?_ _) | (with_reducible refine Touch.setCell ?_ _ _ _ ?_) | (with_reducible refine Touch.step (by assumption) ?_) | (with_reducible refine Touch.stepT (by assumption) ?_ ?_) | (intro _; first | rfl | trivial | omega | (simp; done) | (simp; omega)) | (intro _ _; first | omega | (simp; done) | (simp; omega)))))⟩
  · have hz' : (c.n == 0) = false := by simp [hz]
    simp only [Clk.floorE, Clk.floorF, hz, if_false]
    have hn : 1 ≤ c.n := by omega
    clear hz
    obtain ⟨n, hcn⟩ : ∃ n : Nat, c.n = n := ⟨c.n.toNat, by omega⟩
    have e1 : (c.n - 1).toNat = n - 1 := by omega
    rw [e1]
    rw [hcn] at h13 hz'
    have hn1 : 1 ≤ n := by omega
    have hn4 : n ≤ 4 := by omega
    have HC := Lib.hid hcn; clear hcn e1
    have hn : n = 1 ∨ n = 2 ∨ n = 3 ∨ n = 4 := by omega
    rcases hn with rfl | rfl | rfl | rfl
    all_goals
      have hq : ∀ k, ClkAt (w.drewN k) b c := fun _ => h
      go_enter Tryz.func190, Tryz.ntmps190
      go_wp2_with ((go_at_call 243; (with_reducible refine (clk_none _ c _ h).mono ?_); rintro e w' ⟨rfl, rfl⟩); rw [HC.out, hz'])
      go_quiet (fail)
      go_wp2_with (first | (go_at_call 247; (with_reducible refine (clk_least_en _ c _ _ (hq _) (by omega) (by omega)).mono ?_); rintro e w1 ⟨rfl, hb1⟩; have hc1 : ClkAt w1 b c := (hb1.block b hb).trans h) | (go_at_call 247; (with_reducible refine (clk_least_fl _ c _ _ hc1 (by omega) (by omega)).mono ?_); rintro e w2 ⟨rfl, hb2⟩))
      go_ret2
      exact ⟨rfl, by (refine Touch.below0 ?_; (repeat' (first | (with_reducible exact Touch.refl _ _) | (with_reducible assumption) | (with_reducible refine Touch.drew ?_) | (with_reducible refine Touch.drewN ?_ _) | (with_reducible refine Touch.alloc ?_ _) | (with_reducible refine Touch.setCell ?_ _ _ _ ?_) | (with_reducible refine Touch.step (by assumption) ?_) | (with_reducible refine Touch.stepT (by assumption) ?_ ?_) | (intro _; first | rfl | trivial | omega | (simp; done) | (simp; omega)) | (intro _ _; first | omega | (simp; done) | (simp; omega)))))⟩
end Go.Proofs.YtmahledpcpdldaaGreat
/- ClkLaw -/
set_option linter.unusedVariables false
set_option linter.unusedSimpArgs false
namespace Go.Proofs.YtmahledpcpdldaaGreat
open Go.RowKit

theorem Clk.step_ok {c : Clk} (ok : c.Ok) (i : Int) : (c.step i).Ok := by
  by_cases h : c.stepE i = 0
  · have ht : ¬ 1073741824 ≤ c.now := by
      intro ht; unfold Clk.stepE at h; rw [if_pos ht] at h; split at h <;> omega
    rw [Clk.step, if_pos h]
    have := ok.t0; have := ok.t1; have := ok.n0; have := ok.n4
    constructor <;> first
      | exact ok.n0 | exact ok.n4 | exact ok.cy0 | exact ok.cy1 | exact ok.en0 | exact ok.en1 | exact ok.fl0 | exact ok.fl1 | exact ok.t0 | exact ok.t1
      | (show _ ≤ _; dsimp only; omega)
      | (intro j; have := ok.cy0 j; have := ok.cy1 j; have := ok.en0 j; have := ok.en1 j; have := ok.fl0 j; have := ok.fl1 j; have := ok.cy0 i.toNat; have := ok.cy1 i.toNat; dsimp only; first | omega | (unfold upd; split <;> omega))
  · rw [Clk.step, if_neg h]; exact ok
theorem Clk.enter_ok {c : Clk} (ok : c.Ok) (i : Int) : (c.enter i).Ok := by
  by_cases h : c.can i = 0
  · rw [Clk.enter, if_pos h]
    have := ok.t0; have := ok.t1; have := ok.n0; have := ok.n4
    constructor <;> first
      | exact ok.n0 | exact ok.n4 | exact ok.cy0 | exact ok.cy1 | exact ok.en0 | exact ok.en1 | exact ok.fl0 | exact ok.fl1 | exact ok.t0 | exact ok.t1
      | (show _ ≤ _; dsimp only; omega)
      | (intro j; have := ok.cy0 j; have := ok.cy1 j; have := ok.en0 j; have := ok.en1 j; have := ok.fl0 j; have := ok.fl1 j; have := ok.cy0 i.toNat; have := ok.cy1 i.toNat; dsimp only; first | omega | (unfold upd; split <;> omega))
  · rw [Clk.enter, if_neg h]; exact ok
theorem Clk.flush_ok {c : Clk} (ok : c.Ok) (i : Int) : (c.flush i).Ok := by
  by_cases h : c.can i = 0
  · rw [Clk.flush, if_pos h]
    have := ok.t0; have := ok.t1; have := ok.n0; have := ok.n4
    constructor <;> first
      | exact ok.n0 | exact ok.n4 | exact ok.cy0 | exact ok.cy1 | exact ok.en0 | exact ok.en1 | exact ok.fl0 | exact ok.fl1 | exact ok.t0 | exact ok.t1
      | (show _ ≤ _; dsimp only; omega)
      | (intro j; have := ok.cy0 j; have := ok.cy1 j; have := ok.en0 j; have := ok.en1 j; have := ok.fl0 j; have := ok.fl1 j; have := ok.cy0 i.toNat; have := ok.cy1 i.toNat; dsimp only; first | omega | (unfold upd; split <;> omega))
  · rw [Clk.flush, if_neg h]; exact ok
theorem Clk.step_n (c : Clk) (i : Int) : (c.step i).n = c.n := by unfold Clk.step; split <;> rfl
theorem Clk.enter_n (c : Clk) (i : Int) : (c.enter i).n = c.n := by unfold Clk.enter; split <;> rfl
theorem Clk.flush_n (c : Clk) (i : Int) : (c.flush i).n = c.n := by unfold Clk.flush; split <;> rfl
end Go.Proofs.YtmahledpcpdldaaGreat
/- ClkActs -/
set_option linter.unusedVariables false
set_option linter.unusedSimpArgs false
namespace Go.Proofs.YtmahledpcpdldaaGreat
open Go.RowKit
namespace Acts

def act (c : Clk) (k i : Int) : Clk := if k = 0 then c.step i else if k = 1 then c.enter i else c.flush i
theorem act_ok {c : Clk} (ok : c.Ok) (k i : Int) : (act c k i).Ok := by
  unfold act; split
  · exact Clk.step_ok ok i
  · split
    · exact Clk.enter_ok ok i
    · exact Clk.flush_ok ok i
theorem act_n (c : Clk) (k i : Int) : (act c k i).n = c.n := by
  unfold act; split
  · exact Clk.step_n c i
  · split
    · exact Clk.enter_n c i
    · exact Clk.flush_n c i
theorem act_now (c : Clk) (k i : Int) {m : Int} (h : c.now ≤ m) : (act c k i).now ≤ m + 1 := by
  unfold act; split
  · unfold Clk.step; split <;> first | omega | (dsimp only; omega)
  · split
    · unfold Clk.enter; split <;> first | omega | (dsimp only; omega)
    · unfold Clk.flush; split <;> first | omega | (dsimp only; omega)
theorem can_in {c : Clk} {i : Int} (hn : c.n ≠ 0) (h0 : 0 ≤ i) (hi : i < c.n) : c.can i = 0 := by
  unfold Clk.can; rw [if_neg hn, if_neg (by omega), if_neg (by omega)]

theorem leastN_mono {f g : Nat → Int} (n : Nat) (h : ∀ j, j ≤ n → f j ≤ g j) : leastN f n ≤ leastN g n := by
  induction n with
  | zero => exact h 0 (Nat.le_refl _)
  | succ n ih =>
    have h1 := ih (fun j hj => h j (by omega))
    have h2 := h (n + 1) (Nat.le_refl _)
    simp only [leastN]; omega
theorem leastN_le (f : Nat → Int) {n j : Nat} (h : j ≤ n) : leastN f n ≤ f j := by
  induction n with
  | zero => obtain rfl : j = 0 := by omega
            exact Int.le_refl _
  | succ n ih =>
    simp only [leastN]
    by_cases hj : j ≤ n
    · have := ih hj; omega
    · obtain rfl : j = n + 1 := by omega
      omega
theorem leastN_gt (f : Nat → Int) (n : Nat) (t : Int) : t < leastN f n ↔ ∀ j, j ≤ n → t < f j := by
  induction n with
  | zero => exact ⟨fun h j hj => by obtain rfl : j = 0 := by omega
                                    exact h, fun h => h 0 (Nat.le_refl _)⟩
  | succ n ih =>
    simp only [leastN]
    constructor
    · intro h j hj
      by_cases hjn : j ≤ n
      · exact (ih.1 (by omega)) j hjn
      · obtain rfl : j = n + 1 := by omega
        omega
    · intro h
      have h1 := ih.2 (fun j hj => h j (by omega))
      have h2 := h (n + 1) (Nat.le_refl _)
      omega

theorem act_en {c : Clk} (ok : c.Ok) (k i : Int) (j : Nat) : c.en j ≤ (act c k i).en j := by
  unfold act; split
  · unfold Clk.step; split <;> exact Int.le_refl _
  · split
    · unfold Clk.enter; split
      · unfold upd; dsimp only; split
        · exact ok.en1 _
        · exact Int.le_refl _
      · exact Int.le_refl _
    · unfold Clk.flush; split <;> exact Int.le_refl _
theorem act_fl {c : Clk} (ok : c.Ok) (k i : Int) (j : Nat) : c.fl j ≤ (act c k i).fl j := by
  unfold act; split
  · unfold Clk.step; split <;> exact Int.le_refl _
  · split
    · unfold Clk.enter; split <;> exact Int.le_refl _
    · unfold Clk.flush; split
      · unfold upd; dsimp only; split
        · exact ok.fl1 _
        · exact Int.le_refl _
      · exact Int.le_refl _
theorem floorE_mono {c : Clk} (ok : c.Ok) (k i : Int) : c.floorE ≤ (act c k i).floorE := by
  unfold Clk.floorE; rw [act_n]; split
  · exact Int.le_refl _
  · exact leastN_mono _ (fun j _ => act_en ok k i j)
theorem floorF_mono {c : Clk} (ok : c.Ok) (k i : Int) : c.floorF ≤ (act c k i).floorF := by
  unfold Clk.floorF; rw [act_n]; split
  · exact Int.le_refl _
  · exact leastN_mono _ (fun j _ => act_fl ok k i j)
theorem floorE_le {c : Clk} (hn : c.n ≠ 0) {i : Int} (h0 : 0 ≤ i) (hi : i < c.n) : c.floorE ≤ c.entered i := by
  unfold Clk.floorE Clk.entered; rw [if_neg hn, if_pos (can_in hn h0 hi)]; exact leastN_le _ (by omega)
theorem floorF_le {c : Clk} (hn : c.n ≠ 0) {i : Int} (h0 : 0 ≤ i) (hi : i < c.n) : c.floorF ≤ c.flushed i := by
  unfold Clk.floorF Clk.flushed; rw [if_neg hn, if_pos (can_in hn h0 hi)]; exact leastN_le _ (by omega)
theorem entered_le {c : Clk} (ok : c.Ok) (i : Int) : c.entered i ≤ c.now := by
  unfold Clk.entered; split
  · exact ok.en1 _
  · have := ok.t0; omega
theorem flushed_le {c : Clk} (ok : c.Ok) (i : Int) : c.flushed i ≤ c.now := by
  unfold Clk.flushed; split
  · exact ok.fl1 _
  · have := ok.t0; omega
theorem nowOf {c : Clk} (hn : c.n ≠ 0) : c.nowOf = c.now := by simp [Clk.nowOf, hn]
end Acts

theorem ClkAt.touch {w w' : World} {b : Nat} {c : Clk} {S : Nat → Prop} (h : ClkAt w b c) (ht : Touch S w w') (hs : ¬ S b) : ClkAt w' b c := ht.at h hs
theorem ClkAt.afterB {w w' : World} {b : Nat} {c : Clk} (h : ClkAt w b c) (hb : Below w.heap.size w w') : ClkAt w' b c := (hb.block b (lt_of_block h)).trans h
end Go.Proofs.YtmahledpcpdldaaGreat
