/- The clock (package clock): what each of its functions does, on a block of 14 cells. -/
import Derived.Test.YtejdfdllgobnhaaProg
import Derived.Test.YtejdfdllgobnhaaBase
set_option linter.unusedVariables false
set_option linter.unusedSimpArgs false
namespace Go.Proofs.Ytejdfdllgobnhaa
open Go.RowKit

structure Clk where
  now : Int
  n : Int
  cy : Nat → Int
  en : Nat → Int
  fl : Nat → Int

def Clk.arr (c : Clk) : Array Value := #[.int .i64 c.now, .int .i64 (c.cy 0), .int .i64 (c.en 0), .int .i64 (c.fl 0),
  .int .i64 (c.cy 1), .int .i64 (c.en 1), .int .i64 (c.fl 1), .int .i64 (c.cy 2), .int .i64 (c.en 2), .int .i64 (c.fl 2),
  .int .i64 (c.cy 3), .int .i64 (c.en 3), .int .i64 (c.fl 3), .int .i64 c.n]

def ClkAt (w : World) (b : Nat) (c : Clk) : Prop := w.heap[b]? = some (.cells c.arr 93 (0, 0))

structure Clk.Ok (c : Clk) : Prop where
  n0 : 0 ≤ c.n
  n4 : c.n ≤ 4
  t0 : 0 ≤ c.now
  t1 : c.now ≤ 1073741824
  cy0 : ∀ j, 0 ≤ c.cy j
  cy1 : ∀ j, c.cy j ≤ c.now
  en0 : ∀ j, -1 ≤ c.en j
  en1 : ∀ j, c.en j ≤ c.now
  fl0 : ∀ j, -1 ≤ c.fl j
  fl1 : ∀ j, c.fl j ≤ c.now

def Clk.can (c : Clk) (i : Int) : Int := if c.n = 0 then 13 else if i < 0 then 1 else if c.n ≤ i then 1 else 0
def Clk.stepE (c : Clk) (i : Int) : Int := if c.can i ≠ 0 then c.can i else if 1073741824 ≤ c.now then 11 else 0
def Clk.step (c : Clk) (i : Int) : Clk := if c.stepE i = 0 then { c with now := c.now + 1, cy := upd c.cy i.toNat (c.cy i.toNat + 1) } else c
def Clk.enter (c : Clk) (i : Int) : Clk := if c.can i = 0 then { c with en := upd c.en i.toNat c.now } else c
def Clk.flush (c : Clk) (i : Int) : Clk := if c.can i = 0 then { c with fl := upd c.fl i.toNat c.now } else c
def Clk.cycles (c : Clk) (i : Int) : Int := if c.can i = 0 then c.cy i.toNat else 0
def Clk.entered (c : Clk) (i : Int) : Int := if c.can i = 0 then c.en i.toNat else -1
def Clk.flushed (c : Clk) (i : Int) : Int := if c.can i = 0 then c.fl i.toNat else -1
def Clk.nowOf (c : Clk) : Int := if c.n = 0 then 0 else c.now

theorem Clk.can_zero {c : Clk} {i : Int} (h : c.can i = 0) : c.n ≠ 0 ∧ 0 ≤ i ∧ i < c.n := by
  unfold Clk.can at h
  split at h
  · omega
  · split at h
    · omega
    · split at h <;> omega

/-- The clock's cells, one by one, as the walk asks for them. -/
theorem ClkAt.cells {w : World} {b : Nat} {c : Clk} (h : ClkAt w b c) :
    w.cell? ⟨b, 0, none⟩ = some (.int .i64 c.now) ∧ w.cell? ⟨b, 13, none⟩ = some (.int .i64 c.n) ∧
    (w.cell? ⟨b, 1, none⟩ = some (.int .i64 (c.cy 0)) ∧ w.cell? ⟨b, 2, none⟩ = some (.int .i64 (c.en 0)) ∧ w.cell? ⟨b, 3, none⟩ = some (.int .i64 (c.fl 0))) ∧
    (w.cell? ⟨b, 4, none⟩ = some (.int .i64 (c.cy 1)) ∧ w.cell? ⟨b, 5, none⟩ = some (.int .i64 (c.en 1)) ∧ w.cell? ⟨b, 6, none⟩ = some (.int .i64 (c.fl 1))) ∧
    (w.cell? ⟨b, 7, none⟩ = some (.int .i64 (c.cy 2)) ∧ w.cell? ⟨b, 8, none⟩ = some (.int .i64 (c.en 2)) ∧ w.cell? ⟨b, 9, none⟩ = some (.int .i64 (c.fl 2))) ∧
    (w.cell? ⟨b, 10, none⟩ = some (.int .i64 (c.cy 3)) ∧ w.cell? ⟨b, 11, none⟩ = some (.int .i64 (c.en 3)) ∧ w.cell? ⟨b, 12, none⟩ = some (.int .i64 (c.fl 3))) := by
  simp only [cell_of h]
  exact ⟨rfl, rfl, ⟨rfl, rfl, rfl⟩, ⟨rfl, rfl, rfl⟩, ⟨rfl, rfl, rfl⟩, ⟨rfl, rfl, rfl⟩⟩

theorem ClkAt.free {w : World} {b : Nat} {c : Clk} (h : ClkAt w b c) (o : Nat) : w.frozen? ⟨b, o, none⟩ = false := frozen_of h o

/-! none, can -/
theorem clk_none_nil (w : World) : Calls Try.prog 82 #[.pointer none] w fun e w' => e = .returned (.bool true) ∧ w = w' := by
  go_enter Try.func82, Try.ntmps82
  go_wp2
  go_ret
  exact ⟨rfl, rfl⟩

theorem clk_none (b : Nat) (c : Clk) (w : World) (h : ClkAt w b c) :
    Calls Try.prog 82 #[.pointer (some ⟨b, 0, none⟩)] w fun e w' => e = .returned (.bool (c.n == 0)) ∧ w = w' := by
  obtain ⟨_, h13, _⟩ := h.cells
  go_enter Try.func82, Try.ntmps82
  go_wp2
  go_ret
  exact ⟨rfl, rfl⟩

theorem clk_can_nil (i : Int) (w : World) : Calls Try.prog 49 #[.pointer none, .int .i64 i] w fun e w' => e = .returned (.int .i64 13) ∧ w = w' := by
  go_enter Try.func49, Try.ntmps49
  go_wp2_with (go_at_call 82; refine (clk_none_nil _).mono ?_; rintro e w' ⟨rfl, rfl⟩)
  go_ret
  exact ⟨rfl, rfl⟩

theorem clk_can (b : Nat) (c : Clk) (i : Int) (w : World) (h : ClkAt w b c) :
    Calls Try.prog 49 #[.pointer (some ⟨b, 0, none⟩), .int .i64 i] w fun e w' => e = .returned (.int .i64 (c.can i)) ∧ w = w' := by
  obtain ⟨_, h13, _⟩ := h.cells
  unfold Clk.can
  by_cases hz : c.n = 0
  · have hz' : (c.n == 0) = true := by simp [hz]
    rw [if_pos hz]; clear hz
    go_enter Try.func49, Try.ntmps49
    go_wp2_with (go_at_call 82; refine (clk_none _ c _ h).mono ?_; rintro e w' ⟨rfl, rfl⟩)
    go_ret
    exact ⟨rfl, rfl⟩
  · have hz' : (c.n == 0) = false := by simp [hz]
    rw [if_neg hz]; clear hz
    by_cases h1 : i < 0
    · rw [if_pos h1]
      go_enter Try.func49, Try.ntmps49
      go_wp2_with (go_at_call 82; refine (clk_none _ c _ h).mono ?_; rintro e w' ⟨rfl, rfl⟩)
      go_ret
      exact ⟨rfl, rfl⟩
    · rw [if_neg h1]
      by_cases h2 : c.n ≤ i
      · rw [if_pos h2]
        go_enter Try.func49, Try.ntmps49
        go_wp2_with (go_at_call 82; refine (clk_none _ c _ h).mono ?_; rintro e w' ⟨rfl, rfl⟩)
        go_ret
        exact ⟨rfl, rfl⟩
      · rw [if_neg h2]
        go_enter Try.func49, Try.ntmps49
        go_wp2_with (go_at_call 82; refine (clk_none _ c _ h).mono ?_; rintro e w' ⟨rfl, rfl⟩)
        go_ret
        exact ⟨rfl, rfl⟩

/-! Step -/
theorem clk_step_nil (i : Int) (w : World) : Calls Try.prog 10 #[.pointer none, .int .i64 i] w fun e w' => e = .returned (.int .i64 13) ∧ w = w' := by
  go_enter Try.func10, Try.ntmps10
  go_wp2_with (go_at_call 49; refine (clk_can_nil _ _).mono ?_; rintro e w' ⟨rfl, rfl⟩)
  go_ret
  exact ⟨rfl, rfl⟩

theorem four_cases {i : Int} (h0 : 0 ≤ i) (h4 : i < 4) : i = 0 ∨ i = 1 ∨ i = 2 ∨ i = 3 := by omega

/-- The three cells of core i. -/
theorem ClkAt.row {w : World} {b : Nat} {c : Clk} (h : ClkAt w b c) {i : Int} (h0 : 0 ≤ i) (h4 : i < 4) :
    w.cell? ⟨b, 1 + i.toNat * 3, none⟩ = some (.int .i64 (c.cy i.toNat)) ∧ w.cell? ⟨b, 1 + i.toNat * 3 + 1, none⟩ = some (.int .i64 (c.en i.toNat)) ∧
    w.cell? ⟨b, 1 + i.toNat * 3 + 2, none⟩ = some (.int .i64 (c.fl i.toNat)) := by
  simp only [cell_of h]
  rcases four_cases h0 h4 with rfl | rfl | rfl | rfl <;> exact ⟨rfl, rfl, rfl⟩

theorem Clk.no {c : Clk} {i q : Int} (hc : c.can i = q) (he : ¬ q = 0) : c.stepE i = q ∧ c.step i = c ∧ c.enter i = c ∧ c.flush i = c ∧ c.cycles i = 0 ∧ c.entered i = -1 ∧ c.flushed i = -1 := by
  subst hc
  simp [Clk.stepE, Clk.step, Clk.enter, Clk.flush, Clk.cycles, Clk.entered, Clk.flushed, he]
theorem Clk.yes {c : Clk} {i : Int} (hc : c.can i = 0) : c.enter i = { c with en := upd c.en i.toNat c.now } ∧ c.flush i = { c with fl := upd c.fl i.toNat c.now } ∧
    c.cycles i = c.cy i.toNat ∧ c.entered i = c.en i.toNat ∧ c.flushed i = c.fl i.toNat := by
  simp [Clk.enter, Clk.flush, Clk.cycles, Clk.entered, Clk.flushed, hc]
theorem Clk.late {c : Clk} {i : Int} (hc : c.can i = 0) (ht : 1073741824 ≤ c.now) : c.stepE i = 11 ∧ c.step i = c := by
  simp [Clk.stepE, Clk.step, hc, ht]
theorem Clk.goes {c : Clk} {i : Int} (hc : c.can i = 0) (ht : ¬ 1073741824 ≤ c.now) :
    c.stepE i = 0 ∧ c.step i = { c with now := c.now + 1, cy := upd c.cy i.toNat (c.cy i.toNat + 1) } := by
  simp [Clk.stepE, Clk.step, hc, ht]

set_option maxHeartbeats 1000000 in
theorem clk_step (b : Nat) (c : Clk) (i : Int) (w : World) (h : ClkAt w b c) (ok : c.Ok) :
    Calls Try.prog 10 #[.pointer (some ⟨b, 0, none⟩), .int .i64 i] w fun e w' =>
      e = .returned (.int .i64 (c.stepE i)) ∧ ClkAt w' b (c.step i) ∧ Touch (· = b) w w' := by
  generalize hc : c.can i = q
  by_cases he : q = 0
  · subst he
    obtain ⟨_, hlt0, hltn⟩ := Clk.can_zero hc
    have hi4 : i < 4 := by have := ok.n4; omega
    obtain ⟨g0, g13, _⟩ := h.cells
    obtain ⟨g1, g2, g3⟩ := h.row hlt0 hi4
    have hf := h.free
    have c0 := ok.cy0 i.toNat; have c1 := ok.cy1 i.toNat
    have t0 := ok.t0
    have t1 := ok.t1
    by_cases ht : 1073741824 ≤ c.now
    · obtain ⟨e1, e2⟩ := Clk.late hc ht
      rw [e1, e2]; clear e1 e2
      have HC := Lib.hid hc; clear hc
      go_enter Try.func10, Try.ntmps10
      go_wp2_with ((go_at_call 49; (with_reducible refine (clk_can _ c i _ h).mono ?_); rintro e w' ⟨rfl, rfl⟩); rw [HC.out])
      go_ret
      exact ⟨rfl, h, Touch.refl _ _⟩
    · obtain ⟨e1, e2⟩ := Clk.goes hc ht
      rw [e1, e2]; clear e1 e2
      have HC := Lib.hid hc; clear hc
      go_enter Try.func10, Try.ntmps10
      go_wp2_with ((go_at_call 49; (with_reducible refine (clk_can _ c i _ h).mono ?_); rintro e w' ⟨rfl, rfl⟩); rw [HC.out])
      go_region
      go_wp2
      go_ret
      refine ⟨rfl, (heap_set (heap_set h _) _).trans ?_, by (repeat' (first | (with_reducible exact Touch.refl _ _) | (with_reducible assumption) | (with_reducible refine Touch.drew ?_) | (with_reducible refine Touch.drewN ?_ _) | (with_reducible refine Touch.alloc ?_ _) | (with_reducible refine Touch.setCell ?_ _ _ _ ?_) | (with_reducible refine Touch.step (by assumption) ?_) | (with_reducible refine Touch.stepT (by assumption) ?_ ?_) | (intro _; first | rfl | trivial | omega | (simp; done) | (simp; omega)) | (intro _ _; first | omega | (simp; done) | (simp; omega))))⟩
      rcases four_cases hlt0 hi4 with rfl | rfl | rfl | rfl <;> rfl
  · have hq : (q == 0) = false := by simpa using he
    have hq2 : (q != 0) = true := by simpa using he
    obtain ⟨n1, n2, n3, n4, n5, n6, n7⟩ := Clk.no hc he
    first | rw [n1, n2] | rw [n3] | rw [n4] | rw [n5] | rw [n6] | rw [n7] | skip
    clear n1 n2 n3 n4 n5 n6 n7
    have HC := Lib.hid hc
    clear hc he
    go_enter Try.func10, Try.ntmps10
    go_wp2_with ((go_at_call 49; (with_reducible refine (clk_can _ c i _ h).mono ?_); rintro e w' ⟨rfl, rfl⟩); rw [HC.out])
    go_ret
    exact ⟨rfl, h, Touch.refl _ _⟩

theorem clk_enter_nil (i : Int) (w : World) : Calls Try.prog 17 #[.pointer none, .int .i64 i] w fun e w' => e = .returned (.int .i64 13) ∧ w = w' := by
  go_enter Try.func17, Try.ntmps17
  go_wp2_with ((go_at_call 49; (with_reducible refine (clk_can_nil _ _).mono ?_); rintro e w' ⟨rfl, rfl⟩))
  go_ret
  exact ⟨rfl, rfl⟩

set_option maxHeartbeats 1000000 in
theorem clk_enter (b : Nat) (c : Clk) (i : Int) (w : World) (h : ClkAt w b c) (ok : c.Ok) :
    Calls Try.prog 17 #[.pointer (some ⟨b, 0, none⟩), .int .i64 i] w fun e w' =>
      e = .returned (.int .i64 (c.can i)) ∧ ClkAt w' b (c.enter i) ∧ Touch (· = b) w w' := by
  generalize hc : c.can i = q
  by_cases he : q = 0
  · subst he
    obtain ⟨_, hlt0, hltn⟩ := Clk.can_zero hc
    have hi4 : i < 4 := by have := ok.n4; omega
    obtain ⟨g0, g13, _⟩ := h.cells
    obtain ⟨g1, g2, g3⟩ := h.row hlt0 hi4
    have hf := h.free
    obtain ⟨e1, e2, _⟩ := Clk.yes hc
    rw [e1]; clear e1 e2
    have HC := Lib.hid hc; clear hc
    go_enter Try.func17, Try.ntmps17
    go_wp2_with ((go_at_call 49; (with_reducible refine (clk_can _ c i _ h).mono ?_); rintro e w' ⟨rfl, rfl⟩); rw [HC.out])
    go_region
    go_wp2
    go_ret
    refine ⟨rfl, (heap_set h _).trans ?_, by (repeat' (first | (with_reducible exact Touch.refl _ _) | (with_reducible assumption) | (with_reducible refine Touch.drew ?_) | (with_reducible refine Touch.drewN ?_ _) | (with_reducible refine Touch.alloc ?_ _) | (with_reducible refine Touch.setCell ?_ _ _ _ ?_) | (with_reducible refine Touch.step (by assumption) ?_) | (with_reducible refine Touch.stepT (by assumption) ?_ ?_) | (intro _; first | rfl | trivial | omega | (simp; done) | (simp; omega)) | (intro _ _; first | omega | (simp; done) | (simp; omega))))⟩
    rcases four_cases hlt0 hi4 with rfl | rfl | rfl | rfl <;> rfl
  · have hq : (q == 0) = false := by simpa using he
    have hq2 : (q != 0) = true := by simpa using he
    obtain ⟨n1, n2, n3, n4, n5, n6, n7⟩ := Clk.no hc he
    first | rw [n1, n2] | rw [n3] | rw [n4] | rw [n5] | rw [n6] | rw [n7] | skip
    clear n1 n2 n3 n4 n5 n6 n7
    have HC := Lib.hid hc
    clear hc he
    go_enter Try.func17, Try.ntmps17
    go_wp2_with ((go_at_call 49; (with_reducible refine (clk_can _ c i _ h).mono ?_); rintro e w' ⟨rfl, rfl⟩); rw [HC.out])
    go_ret
    exact ⟨rfl, h, Touch.refl _ _⟩
theorem clk_flush_nil (i : Int) (w : World) : Calls Try.prog 59 #[.pointer none, .int .i64 i] w fun e w' => e = .returned (.int .i64 13) ∧ w = w' := by
  go_enter Try.func59, Try.ntmps59
  go_wp2_with ((go_at_call 49; (with_reducible refine (clk_can_nil _ _).mono ?_); rintro e w' ⟨rfl, rfl⟩))
  go_ret
  exact ⟨rfl, rfl⟩

set_option maxHeartbeats 1000000 in
theorem clk_flush (b : Nat) (c : Clk) (i : Int) (w : World) (h : ClkAt w b c) (ok : c.Ok) :
    Calls Try.prog 59 #[.pointer (some ⟨b, 0, none⟩), .int .i64 i] w fun e w' =>
      e = .returned (.int .i64 (c.can i)) ∧ ClkAt w' b (c.flush i) ∧ Touch (· = b) w w' := by
  generalize hc : c.can i = q
  by_cases he : q = 0
  · subst he
    obtain ⟨_, hlt0, hltn⟩ := Clk.can_zero hc
    have hi4 : i < 4 := by have := ok.n4; omega
    obtain ⟨g0, g13, _⟩ := h.cells
    obtain ⟨g1, g2, g3⟩ := h.row hlt0 hi4
    have hf := h.free
    obtain ⟨e1, e2, _⟩ := Clk.yes hc
    rw [e2]; clear e1 e2
    have HC := Lib.hid hc; clear hc
    go_enter Try.func59, Try.ntmps59
    go_wp2_with ((go_at_call 49; (with_reducible refine (clk_can _ c i _ h).mono ?_); rintro e w' ⟨rfl, rfl⟩); rw [HC.out])
    go_region
    go_wp2
    go_ret
    refine ⟨rfl, (heap_set h _).trans ?_, by (repeat' (first | (with_reducible exact Touch.refl _ _) | (with_reducible assumption) | (with_reducible refine Touch.drew ?_) | (with_reducible refine Touch.drewN ?_ _) | (with_reducible refine Touch.alloc ?_ _) | (with_reducible refine Touch.setCell ?_ _ _ _ ?_) | (with_reducible refine Touch.step (by assumption) ?_) | (with_reducible refine Touch.stepT (by assumption) ?_ ?_) | (intro _; first | rfl | trivial | omega | (simp; done) | (simp; omega)) | (intro _ _; first | omega | (simp; done) | (simp; omega))))⟩
    rcases four_cases hlt0 hi4 with rfl | rfl | rfl | rfl <;> rfl
  · have hq : (q == 0) = false := by simpa using he
    have hq2 : (q != 0) = true := by simpa using he
    obtain ⟨n1, n2, n3, n4, n5, n6, n7⟩ := Clk.no hc he
    first | rw [n1, n2] | rw [n3] | rw [n4] | rw [n5] | rw [n6] | rw [n7] | skip
    clear n1 n2 n3 n4 n5 n6 n7
    have HC := Lib.hid hc
    clear hc he
    go_enter Try.func59, Try.ntmps59
    go_wp2_with ((go_at_call 49; (with_reducible refine (clk_can _ c i _ h).mono ?_); rintro e w' ⟨rfl, rfl⟩); rw [HC.out])
    go_ret
    exact ⟨rfl, h, Touch.refl _ _⟩

/-! of, Cycles, Entered, Flushed, Now, Cores -/
theorem clk_of_nil (i : Int) (w : World) : Calls Try.prog 119 #[.pointer none, .int .i64 i] w fun e w' =>
    e = .returned (.agg #[.int .i64 0, .int .i64 (-1), .int .i64 (-1)]) ∧ Below w.heap.size w w' := by
  go_enter Try.func119, Try.ntmps119
  go_wp2_with ((go_at_call 49; (with_reducible refine (clk_can_nil _ _).mono ?_); rintro e w' ⟨rfl, rfl⟩))
  go_returns
  exact ⟨rfl, by go_grown⟩

theorem clk_of (b : Nat) (c : Clk) (i : Int) (w : World) (h : ClkAt w b c) (ok : c.Ok) :
    Calls Try.prog 119 #[.pointer (some ⟨b, 0, none⟩), .int .i64 i] w fun e w' =>
      e = .returned (.agg #[.int .i64 (c.cycles i), .int .i64 (c.entered i), .int .i64 (c.flushed i)]) ∧ Below w.heap.size w w' := by
  generalize hc : c.can i = q
  by_cases he : q = 0
  · subst he
    obtain ⟨_, hlt0, hltn⟩ := Clk.can_zero hc
    have hi4 : i < 4 := by have := ok.n4; omega
    obtain ⟨g0, g13, _⟩ := h.cells
    obtain ⟨g1, g2, g3⟩ := h.row hlt0 hi4
    have hf := h.free
    obtain ⟨_, _, e1, e2, e3⟩ := Clk.yes hc
    rw [e1, e2, e3]; clear e1 e2 e3
    have hb : b < w.heap.size := lt_of_block h
    have HC := Lib.hid hc; clear hc
    have h' : ClkAt _ b c := heap_alloc h (.cells #[.int .i64 0, .int .i64 0, .int .i64 0] 90 (0, 0))
    go_enter Try.func119, Try.ntmps119
    go_wp2_with ((go_at_call 49; (with_reducible refine (clk_can _ c i _ h').mono ?_); rintro e w' ⟨rfl, rfl⟩); rw [HC.out])
    go_returns
    exact ⟨rfl, by go_grown⟩
  · have hq : (q == 0) = false := by simpa using he
    have hq2 : (q != 0) = true := by simpa using he
    obtain ⟨_, _, _, _, n5, n6, n7⟩ := Clk.no hc he
    rw [n5, n6, n7]
    clear n5 n6 n7
    have HC := Lib.hid hc
    clear hc he
    have h' : ClkAt _ b c := heap_alloc h (.cells #[.int .i64 0, .int .i64 0, .int .i64 0] 90 (0, 0))
    go_enter Try.func119, Try.ntmps119
    go_wp2_with ((go_at_call 49; (with_reducible refine (clk_can _ c i _ h').mono ?_); rintro e w' ⟨rfl, rfl⟩); rw [HC.out])
    go_returns
    exact ⟨rfl, by go_grown⟩

theorem clk_entered_nil (i : Int) (w : World) : Calls Try.prog 109 #[.pointer none, .int .i64 i] w fun e w' => e = .returned (.int .i64 (-1)) ∧ Below w.heap.size w w' := by
  go_enter Try.func109, Try.ntmps109
  go_wp2_with ((go_at_call 119; (with_reducible refine (clk_of_nil _ _).mono ?_); rintro e w' ⟨rfl, hb⟩))
  go_ret
  exact ⟨rfl, hb⟩
theorem clk_entered (b : Nat) (c : Clk) (i : Int) (w : World) (h : ClkAt w b c) (ok : c.Ok) :
    Calls Try.prog 109 #[.pointer (some ⟨b, 0, none⟩), .int .i64 i] w fun e w' => e = .returned (.int .i64 (c.entered i)) ∧ Below w.heap.size w w' := by
  go_enter Try.func109, Try.ntmps109
  go_wp2_with ((go_at_call 119; (with_reducible refine (clk_of _ c i _ h ok).mono ?_); rintro e w' ⟨rfl, hb⟩))
  go_ret
  exact ⟨rfl, hb⟩
theorem clk_flushed_nil (i : Int) (w : World) : Calls Try.prog 108 #[.pointer none, .int .i64 i] w fun e w' => e = .returned (.int .i64 (-1)) ∧ Below w.heap.size w w' := by
  go_enter Try.func108, Try.ntmps108
  go_wp2_with ((go_at_call 119; (with_reducible refine (clk_of_nil _ _).mono ?_); rintro e w' ⟨rfl, hb⟩))
  go_ret
  exact ⟨rfl, hb⟩
theorem clk_flushed (b : Nat) (c : Clk) (i : Int) (w : World) (h : ClkAt w b c) (ok : c.Ok) :
    Calls Try.prog 108 #[.pointer (some ⟨b, 0, none⟩), .int .i64 i] w fun e w' => e = .returned (.int .i64 (c.flushed i)) ∧ Below w.heap.size w w' := by
  go_enter Try.func108, Try.ntmps108
  go_wp2_with ((go_at_call 119; (with_reducible refine (clk_of _ c i _ h ok).mono ?_); rintro e w' ⟨rfl, hb⟩))
  go_ret
  exact ⟨rfl, hb⟩

theorem clk_now_nil (w : World) : Calls Try.prog 58 #[.pointer none] w fun e w' => e = .returned (.int .i64 0) ∧ w = w' := by
  go_enter Try.func58, Try.ntmps58
  go_wp2_with ((go_at_call 82; (with_reducible refine (clk_none_nil _).mono ?_); rintro e w' ⟨rfl, rfl⟩))
  go_ret
  exact ⟨rfl, rfl⟩
theorem clk_now (b : Nat) (c : Clk) (w : World) (h : ClkAt w b c) :
    Calls Try.prog 58 #[.pointer (some ⟨b, 0, none⟩)] w fun e w' => e = .returned (.int .i64 (c.nowOf)) ∧ w = w' := by
  obtain ⟨h0, h13, _⟩ := h.cells
  by_cases hz : c.n = 0
  · have hz' : (c.n == 0) = true := by simp [hz]
    rw [show c.nowOf = 0 by simp [Clk.nowOf, hz]]; clear hz
    go_enter Try.func58, Try.ntmps58
    go_wp2_with ((go_at_call 82; (with_reducible refine (clk_none _ c _ h).mono ?_); rintro e w' ⟨rfl, rfl⟩))
    go_ret
    exact ⟨rfl, rfl⟩
  · have hz' : (c.n == 0) = false := by simp [hz]
    rw [show c.nowOf = c.now by simp [Clk.nowOf, hz]]; clear hz
    go_enter Try.func58, Try.ntmps58
    go_wp2_with ((go_at_call 82; (with_reducible refine (clk_none _ c _ h).mono ?_); rintro e w' ⟨rfl, rfl⟩))
    go_ret
    exact ⟨rfl, rfl⟩
theorem clk_cores_nil (w : World) : Calls Try.prog 118 #[.pointer none] w fun e w' => e = .returned (.int .i64 0) ∧ w = w' := by
  go_enter Try.func118, Try.ntmps118
  go_wp2_with ((go_at_call 82; (with_reducible refine (clk_none_nil _).mono ?_); rintro e w' ⟨rfl, rfl⟩))
  go_ret
  exact ⟨rfl, rfl⟩
theorem clk_cores (b : Nat) (c : Clk) (w : World) (h : ClkAt w b c) :
    Calls Try.prog 118 #[.pointer (some ⟨b, 0, none⟩)] w fun e w' => e = .returned (.int .i64 (c.n)) ∧ w = w' := by
  obtain ⟨h0, h13, _⟩ := h.cells
  by_cases hz : c.n = 0
  · have hz' : (c.n == 0) = true := by simp [hz]
    rw [show c.n = 0 by simp [Clk.nowOf, hz]]; clear hz
    go_enter Try.func118, Try.ntmps118
    go_wp2_with ((go_at_call 82; (with_reducible refine (clk_none _ c _ h).mono ?_); rintro e w' ⟨rfl, rfl⟩))
    go_ret
    exact ⟨rfl, rfl⟩
  · have hz' : (c.n == 0) = false := by simp [hz]
    rw [show c.n = c.n by simp [Clk.nowOf, hz]]; clear hz
    go_enter Try.func118, Try.ntmps118
    go_wp2_with ((go_at_call 82; (with_reducible refine (clk_none _ c _ h).mono ?_); rintro e w' ⟨rfl, rfl⟩))
    go_ret
    exact ⟨rfl, rfl⟩

/-! New -/
def Clk.new (n : Int) : Clk := { now := 0, n := n, cy := fun _ => 0, en := fun _ => -1, fl := fun _ => -1 }
theorem Clk.new_ok {n : Int} (h0 : 0 ≤ n) (h4 : n ≤ 4) : (Clk.new n).Ok := by
  constructor <;> simp [Clk.new] <;> omega

theorem clk_new_no (n : Int) (w : World) (hn : n < 1 ∨ 4 < n) : Calls Try.prog 43 #[.int .i64 n] w fun e w' =>
    e = .returned (.tuple #[.pointer none, .int .i64 1]) ∧ w = w' := by
  rcases hn with hn | hn
  · go_enter Try.func43, Try.ntmps43
    go_wp2
    go_ret2
    exact ⟨rfl, rfl⟩
  · have hn' : ¬ n < 1 := by omega
    go_enter Try.func43, Try.ntmps43
    go_wp2
    go_ret2
    exact ⟨rfl, rfl⟩

set_option maxHeartbeats 1000000 in
theorem clk_new (n : Int) (w : World) (h1 : 1 ≤ n) (h4 : n ≤ 4) : Calls Try.prog 43 #[.int .i64 n] w fun e w' =>
    e = .returned (.tuple #[.pointer (some ⟨w.heap.size, 0, none⟩), .int .i64 0]) ∧ ClkAt w' w.heap.size (Clk.new n) ∧ Below w.heap.size w w' := by
  go_enter Try.func43, Try.ntmps43
  go_wp2
  go_rounds 5
  go_ret2
  refine ⟨rfl, heap_new _ _, by go_grown⟩

/-! Floor -/
def leastN (f : Nat → Int) : Nat → Int
  | 0 => f 0
  | k + 1 => min (leastN f k) (f (k + 1))
def Clk.floorE (c : Clk) : Int := if c.n = 0 then -1 else leastN c.en (c.n - 1).toNat
def Clk.floorF (c : Clk) : Int := if c.n = 0 then -1 else leastN c.fl (c.n - 1).toNat

theorem clk_sawKernel (x0 x1 x2 : Int) (w : World) : Calls Try.prog 91 #[.agg #[.int .i64 x0, .int .i64 x1, .int .i64 x2]] w fun e w' =>
    e = .returned (.int .i64 x1) ∧ Below w.heap.size w w' := by
  go_enter Try.func91, Try.ntmps91
  go_wp2
  go_ret
  exact ⟨rfl, by go_grown⟩
theorem clk_sawPages (x0 x1 x2 : Int) (w : World) : Calls Try.prog 92 #[.agg #[.int .i64 x0, .int .i64 x1, .int .i64 x2]] w fun e w' =>
    e = .returned (.int .i64 x2) ∧ Below w.heap.size w w' := by
  go_enter Try.func92, Try.ntmps92
  go_wp2
  go_ret
  exact ⟨rfl, by go_grown⟩
end Go.Proofs.Ytejdfdllgobnhaa
