/- QuietEarlier: the walk of the law. -/
import Derived.Test.YtalcifmojngddaaQuiet
import Derived.Deep.Light
set_option linter.unusedVariables false
set_option linter.unusedSimpArgs false
namespace Go.Proofs.Ytalcifmojngddaa
open Go.RowKit

theorem Clk.floor_both {c : Clk} {x y : Int} (h : x ≤ y) : (c.kern y = true → c.kern x = true) ∧ (c.user y = true → c.user x = true) := by
  unfold Clk.kern Clk.user
  constructor <;> simp <;> omega

set_option maxHeartbeats 4000000 in
set_option maxRecDepth 100000 in
theorem quietEarlier_walk (a0 : Option Addr) (len0 cap0 : Nat) (z0 : List Int) (a1 : Option Addr) (len1 cap1 : Nat) (z1 : List Int) (a2 : Int) (a3 : Int) (w : World) (w0 : IsRow .u8 w a0 len0 cap0 z0) (w1 : IsRow .u8 w a1 len1 cap1 z1) (w2 : (Lit.int .i64 a2).wf = true) (w3 : (Lit.int .i64 a3).wf = true) :
    Calls Try.prog 7 #[.slice a0 len0 cap0, .slice a1 len1 cap1, .int .i64 a2, .int .i64 a3] w fun e w' => e = .returned (.bool true) ∧ Below w.heap.size w w' := by
  have m0 := w0.maxLen
  have m1 := w1.maxLen
  have o0 := w0.open
  have o1 := w1.open
  have H0 := Lib.hid o0
  have H1 := Lib.hid o1
  clear w0 w1 w2 w3 o0 o1
  go_enter Try.func7, Try.ntmps7
  go_upto_block 0 with ((go_at_call 10; (with_reducible refine (clk_new 2 _ (by omega) (by omega)).mono ?_); rintro e w' ⟨rfl, hc1, hb1⟩))
  go_cut [] (fun wr => ∃ c : Clk, ClkAt wr w.heap.size c ∧ c.Ok ∧ c.n = 2 ∧ Below w.heap.size w wr)
  case first =>
    go_wp2
    go_loopw [11] (fun i wr => ∃ (k : Nat) (c : Clk), k ≤ 100 ∧ i = .int .i64 k ∧ ClkAt wr w.heap.size c ∧ c.Ok ∧ c.n = 2 ∧ Below w.heap.size w wr) (fun i _ => 100 - (intOf i).toNat)
    case atStart => exact ⟨0, Clk.new 2, by omega, rfl, hc1, Clk.new_ok (by omega) (by omega), rfl, hb1⟩
    case round =>
      clear hc1 hb1
      obtain ⟨k, c, hk, rfl, hcr, hok, hn, hbr⟩ := hrel
      by_cases hin : k < len0 ∧ k < len1 ∧ k < 100
      · obtain ⟨h0, h1, h2⟩ := hin
        rcases H0.out with h | ⟨b0, f0, rfl, hb0, hz0, hr0⟩; · omega
        rcases H1.out with h | ⟨b1, f1, rfl, hb1, hz1, hr1⟩; · omega
        have g0 := hz0 k h0; have g1 := hz1 k h1
        obtain ⟨q0, q0'⟩ := u8_range (hr0 k h0)
        obtain ⟨q1, q1'⟩ := u8_range (hr1 k h1)
        generalize z0.getD k 0 = x0 at *
        generalize z1.getD k 0 = x1 at *
        clear hz0 hz1 hr0 hr1
        have hcc := (bcell hbr).1
        have hn' := Lib.hid hn; clear hn; have hn := hn'; clear hn'
        clear H0 H1
        go_wp2_with (first | (go_at_call 11; (with_reducible refine (clk_step _ _ _ _ hcr hok).mono ?_); rintro e w' ⟨rfl, hcr, ht⟩; have hok := Clk.step_ok hok (x1 % 2); have hn := Lib.hid ((Clk.step_n _ (x1 % 2)).trans hn.out); have hbr := below_touch hbr ht hbr.size (fun i hi he => by omega); have hcc := (bcell hbr).1; clear ht) | (go_at_call 12; (with_reducible refine (clk_enter _ _ _ _ hcr hok).mono ?_); rintro e w' ⟨rfl, hcr, ht⟩; have hok := Clk.enter_ok hok (x1 % 2); have hn := Lib.hid ((Clk.enter_n _ (x1 % 2)).trans hn.out); have hbr := below_touch hbr ht hbr.size (fun i hi he => by omega); have hcc := (bcell hbr).1; clear ht) | (go_at_call 13; (with_reducible refine (clk_flush _ _ _ _ hcr hok).mono ?_); rintro e w' ⟨rfl, hcr, ht⟩; have hok := Clk.flush_ok hok (x1 % 2); have hn := Lib.hid ((Clk.flush_n _ (x1 % 2)).trans hn.out); have hbr := below_touch hbr ht hbr.size (fun i hi he => by omega); have hcc := (bcell hbr).1; clear ht))
        all_goals
          go_roundw
          case rel => exact ⟨k + 1, _, by omega, by go_num, hcr, hok, hn.out, hbr⟩
          case measure => simp [intOf]; omega
      · by_cases hin0 : k < len0
        · by_cases hin1 : k < len1
          · have hin2 : ¬ (k : Int) < 100 := by omega
            go_wp2; go_meet; exact ⟨c, hcr, hok, hn, hbr⟩
          · go_wp2; go_meet; exact ⟨c, hcr, hok, hn, hbr⟩
        · go_wp2; go_meet; exact ⟨c, hcr, hok, hn, hbr⟩
  case rest =>
    obtain ⟨c, hcr, hok, hn, hbr⟩ := hcut
    obtain ⟨wk, rfl⟩ : ∃ x : World, x = wc := ⟨_, rfl⟩
    clear H0 H1
    go_upto_region 12 with (fail)
    go_cut [13] (fun x wr => x = .int .i64 (min a2 a3) ∧ wr = wk)
    case first =>
      go_wp2
      all_goals (go_meet; exact ⟨by first | (congr 1; omega) | rfl, rfl⟩)
    case rest =>
      obtain ⟨rfl, rfl⟩ := hcut
      obtain ⟨wk, rfl⟩ : ∃ x : World, x = wc := ⟨_, rfl⟩
      go_upto_region 13 with (fail)
      go_cut [14] (fun x wr => x = .int .i64 (max a2 a3) ∧ wr = wk)
      case first =>
        go_wp2
        all_goals (go_meet; exact ⟨by first | (congr 1; omega) | rfl, rfl⟩)
      case rest =>
        obtain ⟨rfl, rfl⟩ := hcut
        have hle : min a2 a3 ≤ max a2 a3 := by omega
        generalize min a2 a3 = x at *
        generalize max a2 a3 = y at *
        obtain ⟨b1, b2⟩ := Clk.floor_both (c := c) hle
        clear hle
        have q3 : c.quiet 3 x = (c.user x && c.kern x) := by simp [Clk.quiet]
        generalize hk1 : c.kern x = kx at *
        generalize hk2 : c.kern y = ky at *
        generalize hu1 : c.user x = ux at *
        generalize hu2 : c.user y = uy at *
        have K1 := Lib.hid hk1; have K2 := Lib.hid hk2; have U1 := Lib.hid hu1; have U2 := Lib.hid hu2; have Q3 := Lib.hid q3
        clear hk1 hk2 hu1 hu2 q3
        have hyp : (ky = false ∨ kx = true) ∧ (uy = false ∨ ux = true) := by cases ky <;> cases uy <;> simp_all
        clear b1 b2
        cases kx <;> cases ky <;> cases ux <;> cases uy <;> first | (exfalso; revert hyp; decide) | skip
        all_goals
          clear hyp
          go_wp2_with (first
            | ((go_at_call 27; (with_reducible refine (q_kernel _ _ _ _ hcr hok).mono ?_); rintro e w' ⟨rfl, hx⟩); have hcr := hcr.afterB hx; have hbr := hbr.trans (hx.mono hbr.size); first | rw [K1.out] | rw [K2.out])
            | ((go_at_call 28; (with_reducible refine (q_user _ _ _ _ hcr hok).mono ?_); rintro e w' ⟨rfl, hx⟩); have hcr := hcr.afterB hx; have hbr := hbr.trans (hx.mono hbr.size); first | rw [U1.out] | rw [U2.out])
            | ((go_at_call 29; (with_reducible refine (q_for _ _ _ _ _ hcr hok).mono ?_); rintro e w' ⟨rfl, hx⟩); have hcr := hcr.afterB hx; have hbr := hbr.trans (hx.mono hbr.size); rw [Q3.out])
            | ((go_at_call 30; (with_reducible refine (awake08 _).mono ?_); rintro e w' ⟨rfl, hx⟩); have hbr := hbr.trans (hx.mono hbr.size)))
          go_ret
          exact ⟨rfl, hbr⟩
end Go.Proofs.Ytalcifmojngddaa
