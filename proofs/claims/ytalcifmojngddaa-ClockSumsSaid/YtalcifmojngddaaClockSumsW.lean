/- ClockSums: the walk of the law. -/
import Derived.Test.YtalcifmojngddaaClkActs
import Derived.Deep.DeepCutAuto
import Derived.Deep.Cut
import Derived.Deep.CutBlock
import Derived.Deep.Light
set_option linter.unusedVariables false
set_option linter.unusedSimpArgs false
namespace Go.Proofs.Ytalcifmojngddaa
open Go.RowKit

namespace Sums
def sum (c : Clk) : Int := c.cy 0 + c.cy 1 + c.cy 2
def part (c : Clk) : Nat → Int
  | 0 => 0
  | k + 1 => part c k + c.cycles k
theorem sum_new : sum (Clk.new 3) = (Clk.new 3).now := by decide
theorem sum_act {c : Clk} (hn : c.n = 3) (k i : Int) (h0 : 0 ≤ i) (hi : i < 3) (h : sum c = c.now) : sum (Acts.act c k i) = (Acts.act c k i).now := by
  have hc : c.can i = 0 := Acts.can_in (by omega) h0 (by omega)
  have hi' : i = 0 ∨ i = 1 ∨ i = 2 := by omega
  unfold sum at *
  unfold Acts.act; split
  · unfold Clk.step; split
    · rcases hi' with rfl | rfl | rfl <;> simp [upd] <;> omega
    · exact h
  · split
    · unfold Clk.enter; split <;> exact h
    · unfold Clk.flush; split <;> exact h
theorem part_sum {c : Clk} (hn : c.n = 3) : part c 3 = sum c := by
  have h : ∀ k : Nat, k < 3 → c.cycles k = c.cy k := fun k hk => by
    rw [Clk.cycles, if_pos (Acts.can_in (by omega) (by omega) (by omega))]; rfl
  simp only [part, sum, h 0 (by omega), h 1 (by omega), h 2 (by omega)]; omega
theorem part_bound {c : Clk} (ok : c.Ok) (k : Nat) : 0 ≤ part c k ∧ part c k ≤ k * 1073741824 := by
  induction k with
  | zero => simp [part]
  | succ k ih =>
    have h1 : 0 ≤ c.cycles k ∧ c.cycles k ≤ 1073741824 := by
      unfold Clk.cycles; split
      · have := ok.cy0 (k : Int).toNat; have := ok.cy1 (k : Int).toNat; have := ok.t1; omega
      · omega
    simp only [part]; push_cast; omega
end Sums

set_option maxHeartbeats 4000000 in
set_option maxRecDepth 100000 in
theorem clockSums_walk (a0 : Option Addr) (len0 cap0 : Nat) (z0 : List Int) (a1 : Option Addr) (len1 cap1 : Nat) (z1 : List Int) (w : World) (w0 : IsRow .u8 w a0 len0 cap0 z0) (w1 : IsRow .u8 w a1 len1 cap1 z1) :
    Calls Try.prog 5 #[.slice a0 len0 cap0, .slice a1 len1 cap1] w fun e w' => e = .returned (.bool true) ∧ Below w.heap.size w w' := by
  have m0 := w0.maxLen
  have m1 := w1.maxLen
  have o0 := w0.open
  have o1 := w1.open
  have H0 := Lib.hid o0
  have H1 := Lib.hid o1
  clear w0 w1 o0 o1
  go_enter Try.func5, Try.ntmps5
  go_upto_block 0 with (first | ((go_at_call 10; (with_reducible refine (clk_new 3 _ (by omega) (by omega)).mono ?_); rintro e w' ⟨rfl, hc1, hb1⟩)) | ((go_at_call 19; (with_reducible refine (clk_floor _ _ _ hc1 (Clk.new_ok (by omega) (by omega))).mono ?_); rintro e w' ⟨rfl, hb2⟩); have hc1 := hc1.afterB hb2; have hb1 := hb1.trans (hb2.mono hb1.size)))
  go_cut [] (fun wr => ∃ c : Clk, ClkAt wr w.heap.size c ∧ Below w.heap.size w wr)
  case first =>
    go_wp2
    go_loopw [7, 8, 9] (fun x y i wr => ∃ (k : Nat) (c : Clk), k ≤ 200 ∧ i = .int .i64 k ∧ x = .int .i64 c.floorE ∧ y = .int .i64 c.floorF ∧ ClkAt wr w.heap.size c ∧ c.Ok ∧ c.n = 3 ∧ c.now ≤ k ∧ Sums.sum c = c.now ∧ Below w.heap.size w wr) (fun _ _ i _ => 200 - (intOf i).toNat)
    case atStart => exact ⟨0, Clk.new 3, by omega, rfl, rfl, rfl, hc1, Clk.new_ok (by omega) (by omega), rfl, by simp [Clk.new], Sums.sum_new, hb1⟩
    case round =>
      clear hc1 hb1
      obtain ⟨k, c, hk, rfl, rfl, rfl, hcr, hok, hn, hno, hsum, hbr⟩ := hrel
      by_cases hin : k < len0 ∧ k < len1 ∧ k < 200
      · obtain ⟨h0, h1, h2⟩ := hin
        rcases H0.out with h | ⟨b0, f0, rfl, hb0, hz0, hr0⟩; · omega
        rcases H1.out with h | ⟨b1, f1, rfl, hb1, hz1, hr1⟩; · omega
        have g0 := hz0 k h0; have g1 := hz1 k h1
        obtain ⟨q0, q0'⟩ := u8_range (hr0 k h0)
        obtain ⟨q1, q1'⟩ := u8_range (hr1 k h1)
        generalize z0.getD k 0 = x0 at *
        generalize z1.getD k 0 = x1 at *
        clear hz0 hz1 hr0 hr1 H0 H1
        have hcc := (bcell hbr).1
        have hS := Lib.hid hsum; have hN := Lib.hid hn
        clear hsum hn
        have i0 : 0 ≤ x1 % 3 := by omega
        have i3 : x1 % 3 < 3 := by omega
        obtain ⟨wo, rfl⟩ : ∃ x : World, x = wr := ⟨_, rfl⟩
        go_upto_block 2 with (fail)
        go_cut [] (fun wr => ClkAt wr w.heap.size (Acts.act c (x0 % 3) (x1 % 3)) ∧ Below w.heap.size w wr)
        case first =>
          have e0 : x0 % 3 = 0 ∨ x0 % 3 = 1 ∨ x0 % 3 = 2 := by omega
          rcases e0 with e | e | e
          · have t0 : (x0 % 3 == 0) = true := by simp [e]
            have E : Hid (Acts.act c (x0 % 3) (x1 % 3) = c.step (x1 % 3)) := by simp [Hid, Acts.act, e]
            clear e
            go_wp2_with ((go_at_call 11; (with_reducible refine (clk_step _ _ _ _ hcr hok).mono ?_); rintro e w' ⟨rfl, h2, ht⟩))
            go_meet
            exact ⟨by rw [E.out]; exact h2, below_touch hbr ht hbr.size (fun i hi he => by omega)⟩
          · have t0 : (x0 % 3 == 0) = false := by simp [e]
            have t1 : (x0 % 3 == 1) = true := by simp [e]
            have E : Hid (Acts.act c (x0 % 3) (x1 % 3) = c.enter (x1 % 3)) := by simp [Hid, Acts.act, e]
            clear e
            go_wp2_with ((go_at_call 12; (with_reducible refine (clk_enter _ _ _ _ hcr hok).mono ?_); rintro e w' ⟨rfl, h2, ht⟩))
            go_meet
            exact ⟨by rw [E.out]; exact h2, below_touch hbr ht hbr.size (fun i hi he => by omega)⟩
          · have t0 : (x0 % 3 == 0) = false := by simp [e]
            have t1 : (x0 % 3 == 1) = false := by simp [e]
            have E : Hid (Acts.act c (x0 % 3) (x1 % 3) = c.flush (x1 % 3)) := by simp [Hid, Acts.act, e]
            clear e
            go_wp2_with ((go_at_call 13; (with_reducible refine (clk_flush _ _ _ _ hcr hok).mono ?_); rintro e w' ⟨rfl, h2, ht⟩))
            go_meet
            exact ⟨by rw [E.out]; exact h2, below_touch hbr ht hbr.size (fun i hi he => by omega)⟩
        case rest =>
          obtain ⟨hc2, hb2⟩ := hcut
          have hok2 := Acts.act_ok hok (x0 % 3) (x1 % 3)
          have hs2 := Sums.sum_act hN.out (x0 % 3) (x1 % 3) i0 i3 hS.out
          have hn2 := (Acts.act_n c (x0 % 3) (x1 % 3)).trans hN.out
          have hno2 := Acts.act_now c (x0 % 3) (x1 % 3) hno
          have hE := Acts.floorE_mono hok (x0 % 3) (x1 % 3)
          have hF := Acts.floorF_mono hok (x0 % 3) (x1 % 3)
          generalize Acts.act c (x0 % 3) (x1 % 3) = c2 at *
          have hnz : c2.n ≠ 0 := by omega
          have LE := Acts.floorE_le hnz i0 (by omega)
          have LF := Acts.floorF_le hnz i0 (by omega)
          have NW := Lib.hid (Acts.nowOf hnz)
          have PS := Lib.hid ((Sums.part_sum hn2).trans hs2)
          have PB := fun k => Sums.part_bound hok2 k
          have EN := fun i => Acts.entered_le hok2 i
          have FN := fun i => Acts.flushed_le hok2 i
          have HS2 := Lib.hid hs2; have HN2 := Lib.hid hn2
          have HPB := Lib.hid PB; have HEN := Lib.hid EN; have HFN := Lib.hid FN
          clear hs2 hn2 hnz hcr PB EN FN
          obtain ⟨wo2, rfl⟩ : ∃ x : World, x = wc := ⟨_, rfl⟩
          go_upto_block 3 with (fail)
          go_cut [11] (fun n wr => n = .int .i64 c2.now ∧ ClkAt wr w.heap.size c2 ∧ Below w.heap.size w wr)
          case first =>
            go_wp2
            go_loopw [11, 12] (fun n i wr => ∃ (k : Nat), k ≤ 3 ∧ i = .int .i64 k ∧ n = .int .i64 (Sums.part c2 k) ∧ ClkAt wr w.heap.size c2 ∧ Below w.heap.size w wr) (fun _ i _ => 3 - (intOf i).toNat)
            case atStart => exact ⟨0, by omega, rfl, rfl, hc2, hb2⟩
            case round =>
              obtain ⟨j, hj, rfl, rfl, hc3, hb3⟩ := hrel
              by_cases hlt : j < 3
              · have hlt' : (j : Int) < 3 := by omega
                have p0 := (HPB.out j).1; have p1 := (HPB.out j).2
                have p2 := (HPB.out (j + 1)).1; have p3 := (HPB.out (j + 1)).2
                have hsucc : Hid (Sums.part c2 (j + 1) = Sums.part c2 j + c2.cycles j) := rfl
                have p4 : Sums.part c2 j + c2.cycles j ≤ 4000000000 := by have := hsucc.out; omega
                have p5 : 0 ≤ Sums.part c2 j + c2.cycles j := by have := hsucc.out; omega
                have ne := HEN.out j; have nf := HFN.out j
                clear p2 p3
                go_wp2_with (first
                  | ((go_at_call 14; (with_reducible refine (clk_cycles _ _ _ _ hc3 hok2).mono ?_); rintro e w' ⟨rfl, hx⟩); have hc3 := hc3.afterB hx; have hb3 := hb3.trans (hx.mono hb3.size))
                  | ((go_at_call 15; (with_reducible refine (clk_entered _ _ _ _ hc3 hok2).mono ?_); rintro e w' ⟨rfl, hx⟩); have hc3 := hc3.afterB hx; have hb3 := hb3.trans (hx.mono hb3.size))
                  | ((go_at_call 16; (with_reducible refine (clk_flushed _ _ _ _ hc3 hok2).mono ?_); rintro e w' ⟨rfl, hx⟩); have hc3 := hc3.afterB hx; have hb3 := hb3.trans (hx.mono hb3.size))
                  | ((go_at_call 17; (with_reducible refine (clk_now _ _ _ hc3).mono ?_); rintro e w' ⟨rfl, rfl⟩); rw [NW.out]))
                go_roundw
                case rel => exact ⟨j + 1, by omega, by go_num, by rw [hsucc.out], hc3, hb3⟩
                case measure => simp [intOf]; omega
              · obtain rfl : j = 3 := by omega
                go_wp2
                go_meet
                exact ⟨by rw [PS.out], hc3, hb3⟩
          case rest =>
            obtain ⟨rfl, hc3, hb3⟩ := hcut
            go_wp2_with (first
              | ((go_at_call 19; (with_reducible refine (clk_floor _ _ _ hc3 hok2).mono ?_); rintro e w' ⟨rfl, hx⟩); have hc3 := hc3.afterB hx; have hb3 := hb3.trans (hx.mono hb3.size))
              | ((go_at_call 15; (with_reducible refine (clk_entered _ _ _ _ hc3 hok2).mono ?_); rintro e w' ⟨rfl, hx⟩); have hc3 := hc3.afterB hx; have hb3 := hb3.trans (hx.mono hb3.size))
              | ((go_at_call 16; (with_reducible refine (clk_flushed _ _ _ _ hc3 hok2).mono ?_); rintro e w' ⟨rfl, hx⟩); have hc3 := hc3.afterB hx; have hb3 := hb3.trans (hx.mono hb3.size))
              | ((go_at_call 17; (with_reducible refine (clk_now _ _ _ hc3).mono ?_); rintro e w' ⟨rfl, rfl⟩); rw [NW.out]))
            go_roundw
            case rel => first | exact ⟨k + 1, c2, by omega, by go_num, rfl, rfl, hc3, hok2, HN2.out, by omega, HS2.out, hb3⟩ | ((repeat apply Exists.intro); exact ⟨⟨k + 1, c2, by omega, by go_num, rfl, rfl, hc3, hok2, HN2.out, by omega, HS2.out, hb3⟩, rfl⟩)
            case measure => simp [intOf]; omega
      · by_cases hin0 : k < len0
        · by_cases hin1 : k < len1
          · have hin2 : ¬ (k : Int) < 200 := by omega
            go_wp2; go_meet; exact ⟨c, hcr, hbr⟩
          · go_wp2; go_meet; exact ⟨c, hcr, hbr⟩
        · go_wp2; go_meet; exact ⟨c, hcr, hbr⟩
  case rest =>
    obtain ⟨c, hcr, hbr⟩ := hcut
    go_wp2_with (go_at_call 18; (with_reducible refine (awake03 _).mono ?_); rintro e w' ⟨rfl, hba⟩)
    go_ret
    exact ⟨rfl, by (refine Touch.below0 ?_; (repeat' (first | (with_reducible exact Touch.refl _ _) | (with_reducible assumption) | (with_reducible refine Touch.drew ?_) | (with_reducible refine Touch.drewN ?_ _) | (with_reducible refine Touch.alloc ?_ _) | (with_reducible refine Touch.setCell ?_ _ _ _ ?_) | (with_reducible refine Touch.step (by assumption) ?_) | (with_reducible refine Touch.stepT (by assumption) ?_ ?_) | (intro _; first | rfl | trivial | omega | (simp; done) | (simp; omega)) | (intro _ _; first | omega | (simp; done) | (simp; omega)))))⟩
end Go.Proofs.Ytalcifmojngddaa
