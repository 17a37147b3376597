/- ClockPlays: the walk of the law. -/
import Derived.Test.YtalcifmojngddaaRef03
import Derived.Deep.Light
import Derived.Deep.RegionHeld3
set_option linter.unusedVariables false
set_option linter.unusedSimpArgs false
namespace Go.Proofs.Ytalcifmojngddaa
open Go.RowKit

theorem r3_isv (v : Nat) (c : Clk) (i : Int) (w : World) (h : RClkAt w v c) {t : Bool} (ht : c.isB i = t) :
    Calls Try.prog 26 #[.pointer (some ⟨v, 0, none⟩), .int .i64 i] w fun e w' => e = .returned (.bool t) ∧ w = w' := by
  subst ht; exact r3_is v c i w h

set_option maxHeartbeats 4000000 in
set_option maxRecDepth 100000 in
theorem clockPlays_walk (n : Int) (a0 : Option Addr) (len0 cap0 : Nat) (z0 : List Int) (a1 : Option Addr) (len1 cap1 : Nat) (z1 : List Int) (w : World) (w2 : (Lit.int .i64 n).wf = true) (w0 : IsRow .u8 w a0 len0 cap0 z0) (w1 : IsRow .i64 w a1 len1 cap1 z1) :
    Calls Try.prog 6 #[.int .i64 n, .slice a0 len0 cap0, .slice a1 len1 cap1] w fun e w' => e = .returned (.bool true) ∧ Below w.heap.size w w' := by
  clear w2
  have m0 := w0.maxLen
  have m1 := w1.maxLen
  have o0 := w0.open
  have o1 := w1.open
  have H0 := Lib.hid o0
  have H1 := Lib.hid o1
  clear w0 w1 o0 o1
  by_cases hn : n < 1 ∨ 4 < n
  · go_enter Try.func6, Try.ntmps6
    go_wp2_with (first | (go_at_call 10; (with_reducible refine (clk_new_no _ _ hn).mono ?_); rintro e w' ⟨rfl, rfl⟩) | (go_at_call 21; (with_reducible refine (r3_new_no _ _ hn).mono ?_); rintro e w' ⟨rfl, rfl⟩) | (go_at_call 18; (with_reducible refine (awake03 _).mono ?_); rintro e w' ⟨rfl, hba⟩))
    go_ret
    exact ⟨rfl, hba⟩
  have n1 : 1 ≤ n := by omega
  have n4 : n ≤ 4 := by omega
  clear hn
  go_enter Try.func6, Try.ntmps6
  go_upto_block 0 with (first | ((go_at_call 10; (with_reducible refine (clk_new n _ n1 n4).mono ?_); rintro e w' ⟨rfl, hc1, hb1⟩); obtain ⟨wA, rfl⟩ : ∃ x : World, x = w' := ⟨_, rfl⟩) | ((go_at_call 21; (with_reducible refine (r3_new n _ n1 n4).mono ?_); rintro e w' ⟨rfl, hr1, hb2⟩); have hv := lt_of_block hc1; have hc1 := hc1.afterB hb2; have hb3 := hb1.trans (hb2.mono hb1.size)))
  go_cut [] (fun wr => Below w.heap.size w wr)
  case first =>
    go_wp2
    go_loopw [11] (fun i wr => ∃ (k : Nat) (c : Clk), k ≤ 200 ∧ i = .int .i64 k ∧ ClkAt wr w.heap.size c ∧ RClkAt wr wA.heap.size c ∧ c.Ok ∧ 1 ≤ c.n ∧ Below w.heap.size w wr) (fun i _ => 200 - (intOf i).toNat)
    case atStart => exact ⟨0, Clk.new n, by omega, rfl, hc1, hr1, Clk.new_ok (by omega) n4, n1, hb3⟩
    case round =>
      clear hc1 hr1 hb1 hb2 hb3
      obtain ⟨k, c, hk, rfl, hcr, hrr, hok, hn, hbr⟩ := hrel
      by_cases hin : k < len0 ∧ k < len1 ∧ k < 200
      · obtain ⟨h0, h1, h2⟩ := hin
        rcases H0.out with h | ⟨b0, f0, rfl, hb0, hz0, hr0⟩; · omega
        rcases H1.out with h | ⟨b1, f1, rfl, hb1, hz1, hr1⟩; · omega
        have g0 := hz0 k h0; have g1 := hz1 k h1
        obtain ⟨q0, q0'⟩ := u8_range (hr0 k h0)
        obtain ⟨q1, q1'⟩ := bounds_i64 (hr1 k h1)
        generalize z0.getD k 0 = x0 at *
        generalize z1.getD k 0 = x1 at *
        clear hz0 hz1 hr0 hr1 H0 H1
        have hcc := (bcell hbr).1
        obtain ⟨wo, rfl⟩ : ∃ x : World, x = wr := ⟨_, rfl⟩
        go_upto_block 2 with (fail)
        go_cut [] (fun wr => ClkAt wr w.heap.size (Acts.act c (x0 % 3) x1) ∧ RClkAt wr wA.heap.size (Acts.act c (x0 % 3) x1) ∧ Below w.heap.size w wr)
        case first =>
          have e0 : x0 % 3 = 0 ∨ x0 % 3 = 1 ∨ x0 % 3 = 2 := by omega
          have hcd : ClkAt wo.drew w.heap.size c := hcr
          have hrd : RClkAt wo.drew wA.heap.size c := hrr.after (Below.refl _ _).drew
          have hbd : Below w.heap.size w wo.drew := hbr.drew
          have hsz := hbd.size
          clear hcr hrr
          rcases e0 with e | e | e
          · have t0 : (x0 % 3 == 0) = true := by simp [e]
            have E : Hid (Acts.act c (x0 % 3) x1 = c.step x1) := by simp [Hid, Acts.act, e]
            clear e
            as_aux_lemma =>
              (go_wp2
               go_region_held3 (fun w' => w'.cell? ⟨b1, f1 + k, none⟩ = some (.int .i64 x1)) (first | assumption | (simp [*]; done))
                 (first
                   | ((go_at_call 11); (with_reducible refine (clk_step _ _ _ _ hcd hok).mono ?_); rintro e w2 ⟨rfl, hc2, ht2⟩; have hr2 := hrd.touch ht2 (fun k h1 _ h2 => by omega); have hb2 := below_touch hbd ht2 hsz (fun i hi he => by omega); have g2 : w2.cell? ⟨b1, f1 + k, none⟩ = some (.int .i64 x1) := (hb2.cell (p := ⟨b1, f1 + k, none⟩) hb1).trans g1)
                   | ((go_at_call 22); (with_reducible refine (r3_step _ _ _ _ hr2 hok).mono ?_); rintro e w3 ⟨rfl, hr3, ht3⟩; have hc3 := hc2.touch ht3 (by omega); have hb3 := below_touch hb2 ht3 hb2.size (fun i hi he => by omega); have g3 : w3.cell? ⟨b1, f1 + k, none⟩ = some (.int .i64 x1) := (hb3.cell (p := ⟨b1, f1 + k, none⟩) hb1).trans g1))
               go_wp2
               go_meet
               exact ⟨by rw [E.out]; exact hc3, by rw [E.out]; exact hr3, hb3⟩)
          · have t0 : (x0 % 3 == 0) = false := by simp [e]
            have t1 : (x0 % 3 == 1) = true := by simp [e]
            have E : Hid (Acts.act c (x0 % 3) x1 = c.enter x1) := by simp [Hid, Acts.act, e]
            clear e
            as_aux_lemma =>
              (go_wp2
               go_region_held3 (fun w' => w'.cell? ⟨b1, f1 + k, none⟩ = some (.int .i64 x1)) (first | assumption | (simp [*]; done))
                 (first
                   | ((go_at_call 12); (with_reducible refine (clk_enter _ _ _ _ hcd hok).mono ?_); rintro e w2 ⟨rfl, hc2, ht2⟩; have hr2 := hrd.touch ht2 (fun k h1 _ h2 => by omega); have hb2 := below_touch hbd ht2 hsz (fun i hi he => by omega); have g2 : w2.cell? ⟨b1, f1 + k, none⟩ = some (.int .i64 x1) := (hb2.cell (p := ⟨b1, f1 + k, none⟩) hb1).trans g1)
                   | ((go_at_call 23); (with_reducible refine (r3_enter _ _ _ _ hr2 hok).mono ?_); rintro e w3 ⟨rfl, hr3, ht3⟩; have hc3 := hc2.touch ht3 (by omega); have hb3 := below_touch hb2 ht3 hb2.size (fun i hi he => by omega); have g3 : w3.cell? ⟨b1, f1 + k, none⟩ = some (.int .i64 x1) := (hb3.cell (p := ⟨b1, f1 + k, none⟩) hb1).trans g1))
               go_wp2
               go_meet
               exact ⟨by rw [E.out]; exact hc3, by rw [E.out]; exact hr3, hb3⟩)
          · have t0 : (x0 % 3 == 0) = false := by simp [e]
            have t1 : (x0 % 3 == 1) = false := by simp [e]
            have E : Hid (Acts.act c (x0 % 3) x1 = c.flush x1) := by simp [Hid, Acts.act, e]
            clear e
            as_aux_lemma =>
              (go_wp2
               go_region_held3 (fun w' => w'.cell? ⟨b1, f1 + k, none⟩ = some (.int .i64 x1)) (first | assumption | (simp [*]; done))
                 (first
                   | ((go_at_call 13); (with_reducible refine (clk_flush _ _ _ _ hcd hok).mono ?_); rintro e w2 ⟨rfl, hc2, ht2⟩; have hr2 := hrd.touch ht2 (fun k h1 _ h2 => by omega); have hb2 := below_touch hbd ht2 hsz (fun i hi he => by omega); have g2 : w2.cell? ⟨b1, f1 + k, none⟩ = some (.int .i64 x1) := (hb2.cell (p := ⟨b1, f1 + k, none⟩) hb1).trans g1)
                   | ((go_at_call 24); (with_reducible refine (r3_flush _ _ _ _ hr2 hok).mono ?_); rintro e w3 ⟨rfl, hr3, ht3⟩; have hc3 := hc2.touch ht3 (by omega); have hb3 := below_touch hb2 ht3 hb2.size (fun i hi he => by omega); have g3 : w3.cell? ⟨b1, f1 + k, none⟩ = some (.int .i64 x1) := (hb3.cell (p := ⟨b1, f1 + k, none⟩) hb1).trans g1))
               go_wp2
               go_meet
               exact ⟨by rw [E.out]; exact hc3, by rw [E.out]; exact hr3, hb3⟩)
        case rest =>
          obtain ⟨hc2, hr2, hb2⟩ := hcut
          clear hcr hrr hcc
          have hok2 := Acts.act_ok hok (x0 % 3) x1
          have hn2 : 1 ≤ (Acts.act c (x0 % 3) x1).n := by rw [Acts.act_n]; exact hn
          generalize Acts.act c (x0 % 3) x1 = c2 at *
          clear hok hn hbr
          have hcc := (bcell hb2).1
          have gx := (hcc _ _ hb1).trans g1
          have hlb := Nat.lt_of_lt_of_le hb1 hb2.size
          have hNW := Lib.hid (Acts.nowOf (c := c2) (by omega))
          have nn : ((c2.n.toNat : Nat) : Int) = c2.n := by omega
          have NN := Lib.hid nn; clear nn
          have hl0 := lt_of_block hc2
          go_upto_region 21 with (first
            | ((go_at_call 19; (with_reducible refine (clk_floor _ _ _ hc2 hok2).mono ?_); rintro e w' ⟨rfl, hx⟩); have hr2 := hr2.after hx; have hc2 := hc2.afterB hx; have hb2 := hb2.trans (hx.mono hb2.size))
            | ((go_at_call 25; (with_reducible refine (r3_floor _ _ _ hr2 hok2).mono ?_); rintro e w' ⟨rfl, hx⟩); have hr2 := hr2.after hx; have hc2 := hc2.afterB hx; have hb2 := hb2.trans (hx.mono hb2.size)))
          have gx := ((bcell hb2).1 _ _ hb1).trans g1
          have hlb := Nat.lt_of_lt_of_le hb1 hb2.size
          obtain ⟨d1, d2, d3, e1, e2, e3, hr⟩ := id hr2
          obtain ⟨y0, y1, y2, y3⟩ := hr.cells
          have hlv := lt_of_block hr.box; have hl1 := hr.r1.lt; have hl2 := hr.r2.lt; have hl3 := hr.r3.lt; have hl0 := lt_of_block hc2
          have nw := hNW.out; have nn := NN.out
          (refine wp_region_calm (by kernel_rfl) (by kernel_rfl) ?_; (repeat (go_big_quiet_step ((first | (go_at_call 17; first | (with_reducible refine Calls.calm_of (clk_now _ c2 _ (hc2.afterB (After.h _)))) | (with_reducible refine Calls.calm_of_same (clk_now _ c2 _ (hc2.afterB (After.h _))))) | (go_at_call 20; first | (with_reducible refine Calls.calm_of (clk_cores _ c2 _ (hc2.afterB (After.h _)))) | (with_reducible refine Calls.calm_of_same (clk_cores _ c2 _ (hc2.afterB (After.h _))))))))); refine wpQuiet_nil ?_; intro _ hw'; obtain ⟨wq, hw''⟩ := hw'; subst hw''; obtain ⟨wq, hbq⟩ := wq; try dsimp only at *)
          clear nw nn
          have hb2 := hb2.trans (hbq.mono hb2.size)
          have hc2 := hc2.afterB hbq
          have hr2 := hr2.after hbq
          clear gx hlb hr y0 y1 y2 y3 hlv hl1 hl2 hl3 hl0 hbq
          obtain ⟨wz, rfl⟩ : ∃ x : World, x = wq := ⟨_, rfl⟩
          go_upto_region 23 with (fail)
          have gx := ((bcell hb2).1 _ _ hb1).trans g1
          have hlb := Nat.lt_of_lt_of_le hb1 hb2.size
          have hlr := hr2.lt
          rcases Clk.isB_can hn2 x1 with ⟨hI, hcan⟩ | ⟨hI, hcan⟩
          · as_aux_lemma =>
            obtain ⟨d1, d2, d3, e1, e2, e3, hr⟩ := id hr2
            obtain ⟨y0, y1, y2, y3⟩ := hr.cells
            have hlv := lt_of_block hr.box; have hl1 := hr.r1.lt; have hl2 := hr.r2.lt; have hl3 := hr.r3.lt; have hl0 := lt_of_block hc2
            obtain ⟨_, hx0, hxn⟩ := Clk.can_zero hcan
            have z1 := hr.r1.at (ints_at (f := c2.cy) (n := c2.n.toNat) (j := x1.toNat) (by omega))
            have z2 := hr.r2.at (ints_at (f := c2.en) (n := c2.n.toNat) (j := x1.toNat) (by omega))
            have z3 := hr.r3.at (ints_at (f := c2.fl) (n := c2.n.toNat) (j := x1.toNat) (by omega))
            obtain ⟨_, _, v1, v2, v3⟩ := Clk.yes hcan
            have hxN : x1 < ((c2.n.toNat : Nat) : Int) := by omega
            (refine wp_region_calm (by kernel_rfl) (by kernel_rfl) ?_; (repeat (go_big_quiet_step ((first | (go_at_call 26; first | (with_reducible refine Calls.calm_of (r3_isv _ c2 _ _ (hr2.after (After.h _)) hI)) | (with_reducible refine Calls.calm_of_same (r3_isv _ c2 _ _ (hr2.after (After.h _)) hI))) | (go_at_call 14; first | (with_reducible refine Calls.calm_of (clk_cycles _ c2 _ _ (hc2.afterB (After.h _)) hok2)) | (with_reducible refine Calls.calm_of_same (clk_cycles _ c2 _ _ (hc2.afterB (After.h _)) hok2))) | (go_at_call 15; first | (with_reducible refine Calls.calm_of (clk_entered _ c2 _ _ (hc2.afterB (After.h _)) hok2)) | (with_reducible refine Calls.calm_of_same (clk_entered _ c2 _ _ (hc2.afterB (After.h _)) hok2))) | (go_at_call 16; first | (with_reducible refine Calls.calm_of (clk_flushed _ c2 _ _ (hc2.afterB (After.h _)) hok2)) | (with_reducible refine Calls.calm_of_same (clk_flushed _ c2 _ _ (hc2.afterB (After.h _)) hok2))))))); refine wpQuiet_nil ?_; intro _ hw'; obtain ⟨wq, hw''⟩ := hw'; subst hw''; obtain ⟨wq, hbq⟩ := wq; try dsimp only at *)
            have hb2 := hb2.trans (hbq.mono hb2.size)
            have hc2 := hc2.afterB hbq
            have hr2 := hr2.after hbq
            have gx := ((bcell hb2).1 _ _ hb1).trans g1
            clear hr y0 y1 y2 y3 z1 z2 z3 v1 v2 v3
            go_wp2_with ((go_at_call 26; (with_reducible refine (r3_isv _ c2 _ _ hr2 hI).mono ?_); rintro e w' ⟨rfl, rfl⟩))
            go_roundw
            case rel => first | exact ⟨k + 1, c2, by omega, by go_num, hc2, hr2, hok2, hn2, hb2⟩ | ((repeat apply Exists.intro); exact ⟨⟨k + 1, c2, by omega, by go_num, hc2, hr2, hok2, hn2, hb2⟩, rfl⟩)
            case measure => simp [intOf]; omega
          · as_aux_lemma =>
            (refine wp_region_calm (by kernel_rfl) (by kernel_rfl) ?_; (repeat (go_big_quiet_step (((go_at_call 26; first | (with_reducible refine Calls.calm_of (r3_isv _ c2 _ _ (hr2.after (After.h _)) hI)) | (with_reducible refine Calls.calm_of_same (r3_isv _ c2 _ _ (hr2.after (After.h _)) hI))))))); refine wpQuiet_nil ?_; intro _ hw'; obtain ⟨wq, hw''⟩ := hw'; subst hw''; obtain ⟨wq, hbq⟩ := wq; try dsimp only at *)
            have hb2 := hb2.trans (hbq.mono hb2.size)
            have hc2 := hc2.afterB hbq
            have hr2 := hr2.after hbq
            have gx := ((bcell hb2).1 _ _ hb1).trans g1
            obtain ⟨_, _, _, _, v1, v2, v3⟩ := Clk.no hcan (by omega)
            go_wp2_with (first
              | (go_at_call 26; (with_reducible refine (r3_isv _ c2 _ _ hr2 hI).mono ?_); rintro e w' ⟨rfl, rfl⟩)
              | ((go_at_call 14; (with_reducible refine (clk_cycles _ _ _ _ hc2 hok2).mono ?_); rintro e w' ⟨rfl, hx⟩); have hc2 := hc2.afterB hx; have hr2 := hr2.after hx; have hb2 := hb2.trans (hx.mono hb2.size); have gx := ((bcell hb2).1 _ _ hb1).trans g1)
              | ((go_at_call 15; (with_reducible refine (clk_entered _ _ _ _ hc2 hok2).mono ?_); rintro e w' ⟨rfl, hx⟩); have hc2 := hc2.afterB hx; have hr2 := hr2.after hx; have hb2 := hb2.trans (hx.mono hb2.size); have gx := ((bcell hb2).1 _ _ hb1).trans g1)
              | ((go_at_call 16; (with_reducible refine (clk_flushed _ _ _ _ hc2 hok2).mono ?_); rintro e w' ⟨rfl, hx⟩); have hc2 := hc2.afterB hx; have hr2 := hr2.after hx; have hb2 := hb2.trans (hx.mono hb2.size); have gx := ((bcell hb2).1 _ _ hb1).trans g1))
            go_roundw
            case rel => first | exact ⟨k + 1, c2, by omega, by go_num, hc2, hr2, hok2, hn2, hb2⟩ | ((repeat apply Exists.intro); exact ⟨⟨k + 1, c2, by omega, by go_num, hc2, hr2, hok2, hn2, hb2⟩, rfl⟩)
            case measure => simp [intOf]; omega
      · by_cases hin0 : k < len0
        · by_cases hin1 : k < len1
          · have hin2 : ¬ (k : Int) < 200 := by omega
            go_wp2; go_meet; exact hbr
          · go_wp2; go_meet; exact hbr
        · go_wp2; go_meet; exact hbr
  case rest =>
    go_wp2_with (go_at_call 18; (with_reducible refine (awake03 _).mono ?_); rintro e w' ⟨rfl, hba⟩)
    go_ret
    exact ⟨rfl, by (refine Touch.below0 ?_; (repeat' (first | (with_reducible exact Touch.refl _ _) | (with_reducible assumption) | (with_reducible refine Touch.drew ?_) | (with_reducible refine Touch.drewN ?_ _) | (with_reducible refine Touch.alloc ?_ _) | (with_reducible refine Touch.setCell ?_ _ _ _ ?_) | (with_reducible refine Touch.step (by assumption) ?_) | (with_reducible refine Touch.stepT (by assumption) ?_ ?_) | (intro _; first | rfl | trivial | omega | (simp; done) | (simp; omega)) | (intro _ _; first | omega | (simp; done) | (simp; omega)))))⟩
end Go.Proofs.Ytalcifmojngddaa
