/- ClockOne: the walk of the law. -/
import Derived.Test.YtalcifmojngddaaClkLaw
import Derived.Deep.DeepCutAuto
import Derived.Deep.Cut
import Derived.Deep.CutBlock
import Derived.Deep.Light
set_option linter.unusedVariables false
set_option linter.unusedSimpArgs false
namespace Go.Proofs.Ytalcifmojngddaa
open Go.RowKit

/-- An array of four ints. -/
def arr4 (f : Nat → Int) : Array Value := #[.int .i64 (f 0), .int .i64 (f 1), .int .i64 (f 2), .int .i64 (f 3)]
def Arr4 (w : World) (b : Nat) (f : Nat → Int) : Prop := w.heap[b]? = some (.cells (arr4 f) 28 (0, 0))

theorem Arr4.at {w : World} {b : Nat} {f : Nat → Int} (h : Arr4 w b f) {k : Nat} (hk : k < 4) : w.cell? ⟨b, k, none⟩ = some (.int .i64 (f k)) := by
  rw [cell_of h]
  have : k = 0 ∨ k = 1 ∨ k = 2 ∨ k = 3 := by omega
  rcases this with rfl | rfl | rfl | rfl <;> rfl

theorem Arr4.congr {w : World} {b : Nat} {f g : Nat → Int} (h : Arr4 w b f) (e : ∀ j, j < 4 → f j = g j) : Arr4 w b g := by
  unfold Arr4 arr4 at *
  rw [← e 0 (by omega), ← e 1 (by omega), ← e 2 (by omega), ← e 3 (by omega)]; exact h
theorem Arr4.set {w : World} {b : Nat} {f : Nat → Int} (h : Arr4 w b f) {k : Nat} (hk : k < 4) (x : Int) : Arr4 (w.setCell ⟨b, k, none⟩ (.int .i64 x)) b (upd f k x) := by
  refine (heap_set h _).trans ?_
  have : k = 0 ∨ k = 1 ∨ k = 2 ∨ k = 3 := by omega
  rcases this with rfl | rfl | rfl | rfl <;> rfl
theorem Arr4.keep {w : World} {b b' o : Nat} {f : Nat → Int} (h : Arr4 w b f) (v : Value) (hb : b ≠ b') : Arr4 (w.setCell ⟨b', o, none⟩ v) b f := heap_set_ne h v hb
theorem Arr4.after {w w' : World} {b : Nat} {f : Nat → Int} (h : Arr4 w b f) (hb : Below w.heap.size w w') : Arr4 w' b f := (hb.block b (lt_of_block h)).trans h
theorem ClkAt.after {w w' : World} {b : Nat} {c : Clk} (h : ClkAt w b c) (hb : Below w.heap.size w w') : ClkAt w' b c := (hb.block b (lt_of_block h)).trans h
theorem ClkAt.keep {w : World} {b b' o : Nat} {c : Clk} (h : ClkAt w b c) (v : Value) (hb : b ≠ b') : ClkAt (w.setCell ⟨b', o, none⟩ v) b c := heap_set_ne h v hb
theorem Arr4.free {w : World} {b : Nat} {f : Nat → Int} (h : Arr4 w b f) (o : Nat) : w.frozen? ⟨b, o, none⟩ = false := frozen_of h o

theorem Clk.step_now (c : Clk) (i : Int) {k : Int} (h : c.now ≤ k) : (c.step i).now ≤ k + 1 := by unfold Clk.step; split <;> first | omega | (dsimp only; omega)
theorem Clk.enter_now (c : Clk) (i : Int) {k : Int} (h : c.now ≤ k) : (c.enter i).now ≤ k := by unfold Clk.enter; split <;> exact h
theorem Clk.flush_now (c : Clk) (i : Int) {k : Int} (h : c.now ≤ k) : (c.flush i).now ≤ k := by unfold Clk.flush; split <;> exact h

theorem Arr4.touch {w w' : World} {b : Nat} {f : Nat → Int} {S : Nat → Prop} (h : Arr4 w b f) (ht : Touch S w w') (hs : ¬ S b) : Arr4 w' b f := ht.at h hs
/-- What act k of core me does. -/
def Eff (k me : Int) (c c2 : Clk) : Prop := (k = 0 ∧ c2 = c.step me) ∨ (k = 1 ∧ c2 = c.enter me) ∨ (k = 2 ∧ c2 = c.flush me)

theorem Clk.can_in {c : Clk} {i : Int} (h4 : c.n = 4) (h0 : 0 ≤ i) (hi : i < 4) : c.can i = 0 := by
  unfold Clk.can; rw [h4]; simp; omega
theorem Eff.n {k me : Int} {c c2 : Clk} (h : Eff k me c c2) : c2.n = c.n := by
  rcases h with ⟨_, rfl⟩ | ⟨_, rfl⟩ | ⟨_, rfl⟩
  · exact Clk.step_n _ _
  · exact Clk.enter_n _ _
  · exact Clk.flush_n _ _
theorem Eff.other {k me i : Int} {c c2 : Clk} (h : Eff k me c c2) (h4 : c.n = 4) (m0 : 0 ≤ me) (m4 : me < 4) (i0 : 0 ≤ i) (i4 : i < 4) (hne : ¬ i = me) :
    c2.cycles i = c.cycles i ∧ c2.entered i = c.entered i ∧ c2.flushed i = c.flushed i := by
  have e1 := Clk.can_in (c := c) h4 i0 i4
  have e2 := Clk.can_in (c := c2) (h.n.trans h4) i0 i4
  have e3 := Clk.can_in (c := c) h4 m0 m4
  have hne' : i.toNat ≠ me.toNat := by omega
  simp only [Clk.cycles, Clk.entered, Clk.flushed, e1, e2, if_true]
  rcases h with ⟨_, rfl⟩ | ⟨_, rfl⟩ | ⟨_, rfl⟩
  · unfold Clk.step; split <;> simp [upd, hne']
  · unfold Clk.enter; split <;> simp [upd, hne']
  · unfold Clk.flush; split <;> simp [upd, hne']

theorem Arr4.at4 {w : World} {b : Nat} {f : Nat → Int} (h : Arr4 w b f) {i : Int} (h0 : 0 ≤ i) (h4 : i < 4) : w.cell? ⟨b, i.toNat, none⟩ = some (.int .i64 (f i.toNat)) := h.at (by omega)
theorem Eff.me {k me : Int} {c c2 : Clk} (h : Eff k me c c2) (h4 : c.n = 4) (m0 : 0 ≤ me) (m4 : me < 4) (hno : c.now ≤ 100) :
    (k = 0 ∧ c2.nowOf = c.nowOf + 1 ∧ c2.cycles me = c.cycles me + 1) ∨ (k = 1 ∧ c2.nowOf = c.nowOf ∧ c2.entered me = c.nowOf) ∨ (k = 2 ∧ c2.nowOf = c.nowOf ∧ c2.flushed me = c.nowOf) := by
  have e1 := Clk.can_in (c := c) h4 m0 m4
  have e2 := Clk.can_in (c := c2) (h.n.trans h4) m0 m4
  have n2 : c2.n ≠ 0 := by rw [h.n, h4]; omega
  have n1 : c.n ≠ 0 := by rw [h4]; omega
  simp only [Clk.cycles, Clk.entered, Clk.flushed, Clk.nowOf, e1, e2, if_true, n1, n2, if_false]
  rcases h with ⟨hk, rfl⟩ | ⟨hk, rfl⟩ | ⟨hk, rfl⟩
  · refine .inl ⟨hk, ?_⟩
    have hE : c.stepE me = 0 := by unfold Clk.stepE; rw [e1]; simp; omega
    rw [Clk.step, if_pos hE]
    exact ⟨rfl, upd_same _ _ _⟩
  · refine .inr (.inl ⟨hk, ?_⟩)
    rw [Clk.enter, if_pos e1]
    exact ⟨rfl, upd_same _ _ _⟩
  · refine .inr (.inr ⟨hk, ?_⟩)
    rw [Clk.flush, if_pos e1]
    exact ⟨rfl, upd_same _ _ _⟩

theorem upd_grow (f : Nat → Int) (k j : Nat) : upd (fun j => if j < k then f j else 0) k (f k) j = if j < k + 1 then f j else 0 := by
  unfold upd
  by_cases h : j = k
  · subst h; simp
  · by_cases h2 : j < k
    · simp [h, h2, show j < k + 1 by omega]
    · simp [h, h2, show ¬ j < k + 1 by omega]

set_option maxHeartbeats 4000000 in
set_option maxRecDepth 100000 in
theorem clockOne_walk (a0 : Option Addr) (len0 cap0 : Nat) (z0 : List Int) (a1 : Option Addr) (len1 cap1 : Nat) (z1 : List Int) (a2 : Int) (a3 : Int) (w : World) (w0 : IsRow .u8 w a0 len0 cap0 z0) (w1 : IsRow .u8 w a1 len1 cap1 z1) (w2 : (Lit.int .u8 a2).wf = true) (w3 : (Lit.int .u8 a3).wf = true) :
    Calls Try.prog 3 #[.slice a0 len0 cap0, .slice a1 len1 cap1, .int .u8 a2, .int .u8 a3] w fun e w' => e = .returned (.bool true) ∧ Below w.heap.size w w' := by
  have m0 := w0.maxLen
  have m1 := w1.maxLen
  obtain ⟨r2, r2'⟩ := u8_range w2
  obtain ⟨r3, r3'⟩ := u8_range w3
  have o0 := w0.open
  have o1 := w1.open
  have H0 := Lib.hid o0
  have H1 := Lib.hid o1
  clear w0 w1 w2 w3 o0 o1
  go_enter Try.func3, Try.ntmps3
  go_upto_block 0 with ((go_at_call 10; (with_reducible refine (clk_new 4 _ (by omega) (by omega)).mono ?_); rintro e w' ⟨rfl, hc1, hb1⟩))
  go_cut [] (fun wr => ∃ c : Clk, ClkAt wr w.heap.size c ∧ c.Ok ∧ c.n = 4 ∧ c.now ≤ 100 ∧ Below w.heap.size w wr)
  case first =>
    go_wp2
    go_loopw [11] (fun i wr => ∃ (k : Nat) (c : Clk), k ≤ 100 ∧ i = .int .i64 k ∧ ClkAt wr w.heap.size c ∧ c.Ok ∧ c.n = 4 ∧ c.now ≤ k ∧ Below w.heap.size w wr) (fun i _ => 100 - (intOf i).toNat)
    case atStart => exact ⟨0, Clk.new 4, by omega, rfl, hc1, Clk.new_ok (by omega) (by omega), rfl, by simp [Clk.new], hb1⟩
    case round =>
      clear hc1 hb1
      obtain ⟨k, c, hk, rfl, hcr, hok, hn, hno, hbr⟩ := hrel
      by_cases hin : k < len0 ∧ k < len1 ∧ k < 100
      · obtain ⟨h0, h1, h2⟩ := hin
        rcases H0.out with h | ⟨b0, f0, rfl, hb0, hz0, hr0⟩; · omega
        rcases H1.out with h | ⟨b1, f1, rfl, hb1, hz1, hr1⟩; · omega
        have g0 := hz0 k h0; have g1 := hz1 k h1
        obtain ⟨q0, q0'⟩ := u8_range (hr0 k h0)
        obtain ⟨q1, q1'⟩ := u8_range (hr1 k h1)
        generalize z0.getD k 0 = x0 at *
        generalize z1.getD k 0 = x1 at *
        clear hz0 hz1 hr0 hr1
        have hcc := (bcell hbr).1
        have hn' := Lib.hid hn; clear hn; have hn := hn'; clear hn'
        clear H0 H1
        go_wp2_with (first | (go_at_call 11; (with_reducible refine (clk_step _ _ _ _ hcr hok).mono ?_); rintro e w' ⟨rfl, hcr, ht⟩; have hok := Clk.step_ok hok (x1 % 4); have hn := Lib.hid ((Clk.step_n _ (x1 % 4)).trans hn.out); have hno := Clk.step_now _ (x1 % 4) hno; have hbr := below_touch hbr ht hbr.size (fun i hi he => by omega); have hcc := (bcell hbr).1; clear ht) | (go_at_call 12; (with_reducible refine (clk_enter _ _ _ _ hcr hok).mono ?_); rintro e w' ⟨rfl, hcr, ht⟩; have hok := Clk.enter_ok hok (x1 % 4); have hn := Lib.hid ((Clk.enter_n _ (x1 % 4)).trans hn.out); have hno := Clk.enter_now _ (x1 % 4) hno; have hbr := below_touch hbr ht hbr.size (fun i hi he => by omega); have hcc := (bcell hbr).1; clear ht) | (go_at_call 13; (with_reducible refine (clk_flush _ _ _ _ hcr hok).mono ?_); rintro e w' ⟨rfl, hcr, ht⟩; have hok := Clk.flush_ok hok (x1 % 4); have hn := Lib.hid ((Clk.flush_n _ (x1 % 4)).trans hn.out); have hno := Clk.flush_now _ (x1 % 4) hno; have hbr := below_touch hbr ht hbr.size (fun i hi he => by omega); have hcc := (bcell hbr).1; clear ht))
        all_goals
          go_roundw
          case rel => exact ⟨k + 1, _, by omega, by go_num, hcr, hok, hn.out, by omega, hbr⟩
          case measure => simp [intOf]; omega
      · by_cases hin0 : k < len0
        · by_cases hin1 : k < len1
          · have hin2 : ¬ (k : Int) < 100 := by omega
            go_wp2; go_meet; exact ⟨c, hcr, hok, hn, by omega, hbr⟩
          · go_wp2; go_meet; exact ⟨c, hcr, hok, hn, by omega, hbr⟩
        · go_wp2; go_meet; exact ⟨c, hcr, hok, hn, by omega, hbr⟩
  case rest =>
    obtain ⟨c, hcr, hok, hn, hno, hbr⟩ := hcut
    have hmod : a3 % 4 < 4 := by omega
    have hmod0 : 0 ≤ a3 % 4 := by omega
    obtain ⟨wk, rfl⟩ : ∃ x : World, x = wc := ⟨_, rfl⟩
    have hlc := lt_of_block hcr
    go_upto_block 2 with (fail)
    go_cut [] (fun wr => Arr4 wr wk.heap.size (fun j => c.cycles j) ∧ Arr4 wr (wk.heap.size + 1) (fun j => c.entered j) ∧ Arr4 wr (wk.heap.size + 1 + 1) (fun j => c.flushed j) ∧ ClkAt wr w.heap.size c ∧ Below wk.heap.size wk wr)
    case first =>
      go_wp2
      go_loopw [16] (fun i wr => ∃ (k : Nat), k ≤ 4 ∧ i = .int .i64 k ∧ Arr4 wr wk.heap.size (fun j => if j < k then c.cycles j else 0) ∧ Arr4 wr (wk.heap.size + 1) (fun j => if j < k then c.entered j else 0) ∧ Arr4 wr (wk.heap.size + 1 + 1) (fun j => if j < k then c.flushed j else 0) ∧ Below wk.heap.size wk wr) (fun i _ => 4 - (intOf i).toNat)
      case atStart => exact ⟨0, by omega, rfl, heap_alloc (heap_alloc (heap_new _ _) _) _, heap_alloc (heap_new' (by simp) _) _, heap_new' (by simp) _, by (refine Touch.below0 ?_; (repeat' (first | (with_reducible exact Touch.refl _ _) | (with_reducible assumption) | (with_reducible refine Touch.drew ?_) | (with_reducible refine Touch.drewN ?_ _) | (with_reducible refine Touch.alloc ?_ _) | (with_reducible refine Touch.setCell ?_ _ _ _ ?_) | (with_reducible refine Touch.step (by assumption) ?_) | (with_reducible refine Touch.stepT (by assumption) ?_ ?_) | (intro _; first | rfl | trivial | omega | (simp; done) | (simp; omega)) | (intro _ _; first | omega | (simp; done) | (simp; omega)))))⟩
      case round =>
        obtain ⟨k, hk, rfl, A1, A2, A3, hb2⟩ := hrel
        have hcr2 : ClkAt wr w.heap.size c := (hb2.block _ hlc).trans hcr
        by_cases hlt : k < 4
        · have hlt' : (k : Int) < 4 := by omega
          have hko := Lib.hid hn; clear hn
          go_wp2_with (first
            | (((go_at_call 14; (with_reducible refine (clk_cycles _ c _ _ hcr2 hok).mono ?_); rintro e w' ⟨rfl, h1⟩)); have c1 := hcr2.after h1; have P1 := A1.after h1; have P2 := A2.after h1; have P3 := A3.after h1; have g1 := P1.at hlt; have f1 := P1.free)
            | (((go_at_call 15; (with_reducible refine (clk_entered _ c _ _ (c1.keep _ (by omega)) hok).mono ?_); rintro e w' ⟨rfl, h2⟩)); have c2 := (c1.keep _ (by omega)).after h2; have Q1 := (P1.set hlt _).after h2; have Q2 := (P2.keep _ (by omega)).after h2; have Q3 := (P3.keep _ (by omega)).after h2; have g2 := Q2.at hlt; have f2 := Q2.free)
            | (((go_at_call 16; (with_reducible refine (clk_flushed _ c _ _ (c2.keep _ (by omega)) hok).mono ?_); rintro e w' ⟨rfl, h3⟩)); have R1 := (Q1.keep _ (by omega)).after h3; have R2 := (Q2.set hlt _).after h3; have R3 := (Q3.keep _ (by omega)).after h3; have g3 := R3.at hlt; have f3 := R3.free))
          go_roundw
          case rel => exact ⟨k + 1, by omega, by go_num, (R1.keep _ (by omega)).congr (fun j _ => upd_grow (fun j => c.cycles j) k j), (R2.keep _ (by omega)).congr (fun j _ => upd_grow (fun j => c.entered j) k j), (R3.set hlt _).congr (fun j _ => upd_grow (fun j => c.flushed j) k j), by (refine Touch.below0 ?_; (repeat' (first | (with_reducible exact Touch.refl _ _) | (with_reducible assumption) | (with_reducible refine Touch.drew ?_) | (with_reducible refine Touch.drewN ?_ _) | (with_reducible refine Touch.alloc ?_ _) | (with_reducible refine Touch.setCell ?_ _ _ _ ?_) | (with_reducible refine Touch.step (by assumption) ?_) | (with_reducible refine Touch.stepT (by assumption) ?_ ?_) | (intro _; first | rfl | trivial | omega | (simp; done) | (simp; omega)) | (intro _ _; first | omega | (simp; done) | (simp; omega)))))⟩
          case measure => simp [intOf]; omega
        · obtain rfl : k = 4 := by omega
          go_wp2
          go_meet
          exact ⟨A1.congr (fun j hj => if_pos hj), A2.congr (fun j hj => if_pos hj), A3.congr (fun j hj => if_pos hj), hcr2, hb2⟩
    case rest =>
      obtain ⟨A1, A2, A3, hcr2, hb2⟩ := hcut
      clear H0 H1
      have e3 : a2 % 3 = 0 ∨ a2 % 3 = 1 ∨ a2 % 3 = 2 := by omega
      have hbc := hbr.trans (hb2.mono hbr.size)
      go_upto_block 4 with ((go_at_call 17; (with_reducible refine (clk_now _ _ _ hcr2).mono ?_); rintro e w' ⟨rfl, rfl⟩))
      go_cut [] (fun wr => ∃ c2 : Clk, ClkAt wr w.heap.size c2 ∧ c2.Ok ∧ Eff (a2 % 3) (a3 % 4) c c2 ∧ Arr4 wr wk.heap.size (fun j => c.cycles j) ∧ Arr4 wr (wk.heap.size + 1) (fun j => c.entered j) ∧ Arr4 wr (wk.heap.size + 1 + 1) (fun j => c.flushed j) ∧ Below w.heap.size w wr)
      case first =>
        rcases e3 with e | e | e
        · have t0 : (a2 % 3 == 0) = true := by simp [e]
          have E := Lib.hid e; clear e
          go_wp2_with ((go_at_call 11; (with_reducible refine (clk_step _ _ _ _ hcr2 hok).mono ?_); rintro e w' ⟨rfl, h2, ht⟩))
          go_meet
          exact ⟨_, h2, Clk.step_ok hok _, .inl ⟨E.out, rfl⟩, A1.touch ht (by omega), A2.touch ht (by omega), A3.touch ht (by omega), below_touch hbc ht hbc.size (fun i hi he => by omega)⟩
        · have t0 : (a2 % 3 == 0) = false := by simp [e]
          have t1 : (a2 % 3 == 1) = true := by simp [e]
          have E := Lib.hid e; clear e
          go_wp2_with ((go_at_call 12; (with_reducible refine (clk_enter _ _ _ _ hcr2 hok).mono ?_); rintro e w' ⟨rfl, h2, ht⟩))
          go_meet
          exact ⟨_, h2, Clk.enter_ok hok _, .inr (.inl ⟨E.out, rfl⟩), A1.touch ht (by omega), A2.touch ht (by omega), A3.touch ht (by omega), below_touch hbc ht hbc.size (fun i hi he => by omega)⟩
        · have t0 : (a2 % 3 == 0) = false := by simp [e]
          have t1 : (a2 % 3 == 1) = false := by simp [e]
          have E := Lib.hid e; clear e
          go_wp2_with ((go_at_call 13; (with_reducible refine (clk_flush _ _ _ _ hcr2 hok).mono ?_); rintro e w' ⟨rfl, h2, ht⟩))
          go_meet
          exact ⟨_, h2, Clk.flush_ok hok _, .inr (.inr ⟨E.out, rfl⟩), A1.touch ht (by omega), A2.touch ht (by omega), A3.touch ht (by omega), below_touch hbc ht hbc.size (fun i hi he => by omega)⟩
      case rest =>
        obtain ⟨c2, hcx, hok2, heff, A1, A2, A3, hbx⟩ := hcut
        have hc4 : c.n = 4 := hn
        have no4 : c.nowOf = c.now := by simp [Clk.nowOf, hn]
        have hm4 : a3 % 4 < 4 := hmod
        have ef := heff
        have hlx := lt_of_block hcx
        have hl1 := lt_of_block A1
        have hl2 := lt_of_block A2
        have hl3 := lt_of_block A3
        obtain ⟨wy, rfl⟩ : ∃ x : World, x = wc := ⟨_, rfl⟩
        go_upto_block 5 with (fail)
        go_cut [] (fun wr => Below wy.heap.size wy wr)
        case first =>
          go_wp2
          go_loopw [18] (fun i wr => ∃ (k : Nat), k ≤ 4 ∧ i = .int .i64 k ∧ Below wy.heap.size wy wr) (fun i _ => 4 - (intOf i).toNat)
          case atStart => exact ⟨0, by omega, rfl, by (refine Touch.below0 ?_; (repeat' (first | (with_reducible exact Touch.refl _ _) | (with_reducible assumption) | (with_reducible refine Touch.drew ?_) | (with_reducible refine Touch.drewN ?_ _) | (with_reducible refine Touch.alloc ?_ _) | (with_reducible refine Touch.setCell ?_ _ _ _ ?_) | (with_reducible refine Touch.step (by assumption) ?_) | (with_reducible refine Touch.stepT (by assumption) ?_ ?_) | (intro _; first | rfl | trivial | omega | (simp; done) | (simp; omega)) | (intro _ _; first | omega | (simp; done) | (simp; omega)))))⟩
          case round =>
            obtain ⟨k, hk, rfl, hb3⟩ := hrel
            by_cases hlt : k < 4
            · have hlt' : (k : Int) < 4 := by omega
              have D1 := A1.after hb3
              have D2 := A2.after hb3
              have D3 := A3.after hb3
              have hcz := hcx.after hb3
              have G1 := D1.at hlt; have G2 := D2.at hlt; have G3 := D3.at hlt
              have L0 := lt_of_block hcz; have L1 := lt_of_block D1; have L2 := lt_of_block D2; have L3 := lt_of_block D3
              have hc4' := Lib.hid hc4
              clear A1 A2 A3 hn hno hmod no4 hc4
              by_cases hme : (k : Int) = a3 % 4
              · have tm : ((k : Int) != a3 % 4) = false := by simp [hme]
                clear hme
                go_wp2
                (refine wp_region_calm (by kernel_rfl) (by kernel_rfl) ?_; (repeat (go_big_quiet_step ((fail)))); refine wpQuiet_nil ?_; intro _ hw'; obtain ⟨wq, hw''⟩ := hw'; subst hw''; obtain ⟨wq, hbq⟩ := wq; try dsimp only at *)
                go_wp2
                go_roundw
                case rel => exact ⟨k + 1, by omega, by go_num, by (refine Touch.below0 ?_; (repeat' (first | (with_reducible exact Touch.refl _ _) | (with_reducible assumption) | (with_reducible refine Touch.drew ?_) | (with_reducible refine Touch.drewN ?_ _) | (with_reducible refine Touch.alloc ?_ _) | (with_reducible refine Touch.setCell ?_ _ _ _ ?_) | (with_reducible refine Touch.step (by assumption) ?_) | (with_reducible refine Touch.stepT (by assumption) ?_ ?_) | (intro _; first | rfl | trivial | omega | (simp; done) | (simp; omega)) | (intro _ _; first | omega | (simp; done) | (simp; omega)))))⟩
                case measure => simp [intOf]; omega
              · have tm : ((k : Int) != a3 % 4) = true := by simp [hme]
                obtain ⟨x1, x2, x3⟩ := ef.other hc4'.out hmod0 hm4 (by omega) hlt' hme
                clear hme
                go_wp2
                (refine wp_region_calm (by kernel_rfl) (by kernel_rfl) ?_; (repeat (go_big_quiet_step ((first | (go_at_call 14; refine Calls.calm_of (clk_cycles _ c2 _ _ (After.at _ hcz) hok2)) | (go_at_call 15; refine Calls.calm_of (clk_entered _ c2 _ _ (After.at _ hcz) hok2)) | (go_at_call 16; refine Calls.calm_of (clk_flushed _ c2 _ _ (After.at _ hcz) hok2)))))); refine wpQuiet_nil ?_; intro _ hw'; obtain ⟨wq, hw''⟩ := hw'; subst hw''; obtain ⟨wq, hbq⟩ := wq; try dsimp only at *)
                go_wp2
                go_roundw
                case rel => exact ⟨k + 1, by omega, by go_num, by (refine Touch.below0 ?_; (repeat' (first | (with_reducible exact Touch.refl _ _) | (with_reducible assumption) | (with_reducible refine Touch.drew ?_) | (with_reducible refine Touch.drewN ?_ _) | (with_reducible refine Touch.alloc ?_ _) | (with_reducible refine Touch.setCell ?_ _ _ _ ?_) | (with_reducible refine Touch.step (by assumption) ?_) | (with_reducible refine Touch.stepT (by assumption) ?_ ?_) | (intro _; first | rfl | trivial | omega | (simp; done) | (simp; omega)) | (intro _ _; first | omega | (simp; done) | (simp; omega)))))⟩
                case measure => simp [intOf]; omega
            · obtain rfl : k = 4 := by omega
              go_wp2
              go_meet
              exact hb3
        case rest =>
          have hb4 := hcut
          have D1 := (A1.after hb4).at4 hmod0 hm4
          have D2 := (A2.after hb4).at4 hmod0 hm4
          have D3 := (A3.after hb4).at4 hmod0 hm4
          simp only [Int.toNat_of_nonneg hmod0] at D1 D2 D3
          have hcz := hcx.after hb4
          have L0 := lt_of_block hcz; have L1 := lt_of_block (A1.after hb4); have L2 := lt_of_block (A2.after hb4); have L3 := lt_of_block (A3.after hb4)
          have hbz := hbx.trans (hb4.mono hbx.size)
          have nb0 : 0 ≤ c.nowOf := by rw [no4]; exact hok.t0
          have nb1 : c.nowOf ≤ 100 := by rw [no4]; exact hno
          have cb0 : 0 ≤ c.cycles (a3 % 4) := by rw [Clk.cycles, if_pos (Clk.can_in hc4 hmod0 hm4)]; exact hok.cy0 _
          have cb1 : c.cycles (a3 % 4) ≤ 100 := by rw [Clk.cycles, if_pos (Clk.can_in hc4 hmod0 hm4)]; exact Int.le_trans (hok.cy1 _) hno
          have em := ef.me hc4 hmod0 hm4 hno
          clear A1 A2 A3 hn hno hmod no4 hc4 hcut heff ef e3
          rcases em with ⟨e, x1, x2⟩ | ⟨e, x1, x2⟩ | ⟨e, x1, x2⟩
          · have t0 : (a2 % 3 == 0) = true := by simp [e]
            have t1 : (a2 % 3 == 1) = false := by simp [e]
            have t2 : (a2 % 3 == 2) = false := by simp [e]
            clear e
            go_wp2
            (refine wp_region_calm (by kernel_rfl) (by kernel_rfl) ?_; (repeat (go_big_quiet_step ((first | (go_at_call 17; first | refine Calls.calm_of (clk_now _ c2 _ (After.at _ hcz)) | refine Calls.calm_of_same (clk_now _ c2 _ (After.at _ hcz))) | (go_at_call 14; first | refine Calls.calm_of (clk_cycles _ c2 _ _ (After.at _ hcz) hok2) | refine Calls.calm_of_same (clk_cycles _ c2 _ _ (After.at _ hcz) hok2)) | (go_at_call 15; first | refine Calls.calm_of (clk_entered _ c2 _ _ (After.at _ hcz) hok2) | refine Calls.calm_of_same (clk_entered _ c2 _ _ (After.at _ hcz) hok2)) | (go_at_call 16; first | refine Calls.calm_of (clk_flushed _ c2 _ _ (After.at _ hcz) hok2) | refine Calls.calm_of_same (clk_flushed _ c2 _ _ (After.at _ hcz) hok2)) | (go_at_call 18; first | refine Calls.calm_of (awake03 _) | refine Calls.calm_of_same (awake03 _)))))); refine wpQuiet_nil ?_; intro _ hw'; obtain ⟨wq, hw''⟩ := hw'; subst hw''; obtain ⟨wq, hbq⟩ := wq; try dsimp only at *)
            go_wp2
            go_ret
            exact ⟨rfl, by (refine Touch.below0 ?_; (repeat' (first | (with_reducible exact Touch.refl _ _) | (with_reducible assumption) | (with_reducible refine Touch.drew ?_) | (with_reducible refine Touch.drewN ?_ _) | (with_reducible refine Touch.alloc ?_ _) | (with_reducible refine Touch.setCell ?_ _ _ _ ?_) | (with_reducible refine Touch.step (by assumption) ?_) | (with_reducible refine Touch.stepT (by assumption) ?_ ?_) | (intro _; first | rfl | trivial | omega | (simp; done) | (simp; omega)) | (intro _ _; first | omega | (simp; done) | (simp; omega)))))⟩
          · have t0 : (a2 % 3 == 0) = false := by simp [e]
            have t1 : (a2 % 3 == 1) = true := by simp [e]
            have t2 : (a2 % 3 == 2) = false := by simp [e]
            clear e
            go_wp2
            (refine wp_region_calm (by kernel_rfl) (by kernel_rfl) ?_; (repeat (go_big_quiet_step ((first | (go_at_call 17; first | refine Calls.calm_of (clk_now _ c2 _ (After.at _ hcz)) | refine Calls.calm_of_same (clk_now _ c2 _ (After.at _ hcz))) | (go_at_call 14; first | refine Calls.calm_of (clk_cycles _ c2 _ _ (After.at _ hcz) hok2) | refine Calls.calm_of_same (clk_cycles _ c2 _ _ (After.at _ hcz) hok2)) | (go_at_call 15; first | refine Calls.calm_of (clk_entered _ c2 _ _ (After.at _ hcz) hok2) | refine Calls.calm_of_same (clk_entered _ c2 _ _ (After.at _ hcz) hok2)) | (go_at_call 16; first | refine Calls.calm_of (clk_flushed _ c2 _ _ (After.at _ hcz) hok2) | refine Calls.calm_of_same (clk_flushed _ c2 _ _ (After.at _ hcz) hok2)) | (go_at_call 18; first | refine Calls.calm_of (awake03 _) | refine Calls.calm_of_same (awake03 _)))))); refine wpQuiet_nil ?_; intro _ hw'; obtain ⟨wq, hw''⟩ := hw'; subst hw''; obtain ⟨wq, hbq⟩ := wq; try dsimp only at *)
            go_wp2
            go_ret
            exact ⟨rfl, by (refine Touch.below0 ?_; (repeat' (first | (with_reducible exact Touch.refl _ _) | (with_reducible assumption) | (with_reducible refine Touch.drew ?_) | (with_reducible refine Touch.drewN ?_ _) | (with_reducible refine Touch.alloc ?_ _) | (with_reducible refine Touch.setCell ?_ _ _ _ ?_) | (with_reducible refine Touch.step (by assumption) ?_) | (with_reducible refine Touch.stepT (by assumption) ?_ ?_) | (intro _; first | rfl | trivial | omega | (simp; done) | (simp; omega)) | (intro _ _; first | omega | (simp; done) | (simp; omega)))))⟩
          · have t0 : (a2 % 3 == 0) = false := by simp [e]
            have t1 : (a2 % 3 == 1) = false := by simp [e]
            have t2 : (a2 % 3 == 2) = true := by simp [e]
            clear e
            go_wp2
            (refine wp_region_calm (by kernel_rfl) (by kernel_rfl) ?_; (repeat (go_big_quiet_step ((first | (go_at_call 17; first | refine Calls.calm_of (clk_now _ c2 _ (After.at _ hcz)) | refine Calls.calm_of_same (clk_now _ c2 _ (After.at _ hcz))) | (go_at_call 14; first | refine Calls.calm_of (clk_cycles _ c2 _ _ (After.at _ hcz) hok2) | refine Calls.calm_of_same (clk_cycles _ c2 _ _ (After.at _ hcz) hok2)) | (go_at_call 15; first | refine Calls.calm_of (clk_entered _ c2 _ _ (After.at _ hcz) hok2) | refine Calls.calm_of_same (clk_entered _ c2 _ _ (After.at _ hcz) hok2)) | (go_at_call 16; first | refine Calls.calm_of (clk_flushed _ c2 _ _ (After.at _ hcz) hok2) | refine Calls.calm_of_same (clk_flushed _ c2 _ _ (After.at _ hcz) hok2)) | (go_at_call 18; first | refine Calls.calm_of (awake03 _) | refine Calls.calm_of_same (awake03 _)))))); refine wpQuiet_nil ?_; intro _ hw'; obtain ⟨wq, hw''⟩ := hw'; subst hw''; obtain ⟨wq, hbq⟩ := wq; try dsimp only at *)
            go_wp2
            go_ret
            exact ⟨rfl, by (refine Touch.below0 ?_; (repeat' (first | (with_reducible exact Touch.refl _ _) | (with_reducible assumption) | (with_reducible refine Touch.drew ?_) | (with_reducible refine Touch.drewN ?_ _) | (with_reducible refine Touch.alloc ?_ _) | (with_reducible refine Touch.setCell ?_ _ _ _ ?_) | (with_reducible refine Touch.step (by assumption) ?_) | (with_reducible refine Touch.stepT (by assumption) ?_ ?_) | (intro _; first | rfl | trivial | omega | (simp; done) | (simp; omega)) | (intro _ _; first | omega | (simp; done) | (simp; omega)))))⟩
end Go.Proofs.Ytalcifmojngddaa
