/- QuietTells: the walk of the law. -/
import Derived.Test.YtalcifmojngddaaRef08
set_option linter.unusedVariables false
set_option linter.unusedSimpArgs false
namespace Go.Proofs.Ytalcifmojngddaa
open Go.RowKit

theorem own_any {w : World} {base : Nat} {e : TypeId} {size : Nat} {v : Value} {n : Nat} {xs : List Value} (h : w.ownsRow base e size v n xs) :
    ∃ a cap, v = .slice a n cap ∧ (0 < n → ∃ g, a = some ⟨g, 0, none⟩ ∧ base ≤ g ∧ Row w g e xs) := by
  rcases ownsRow_row h with ⟨rfl, rfl, _⟩ | ⟨g, cap, rfl, hg, _, _, _, hr⟩
  · exact ⟨none, 0, rfl, fun h => by omega⟩
  · exact ⟨_, cap, rfl, fun _ => ⟨g, rfl, hg, hr⟩⟩
theorem ivals_at {l : List Int} {j : Nat} (h : j < l.length) : (ivals l)[j]? = some (.int .i64 (l.getD j 0)) := by
  unfold ivals; rw [List.getElem?_map, List.getElem?_eq_getElem h]; simp [h]

set_option maxHeartbeats 4000000 in
set_option maxRecDepth 100000 in
theorem quietTells_walk (n : Int) (a0 : Option Addr) (len0 cap0 : Nat) (z0 : List Int) (a1 : Option Addr) (len1 cap1 : Nat) (z1 : List Int) (was t : Int) (w : World) (_v0 : (Lit.int .i64 n).wf = true) (w0 : IsRow .u8 w a0 len0 cap0 z0) (w1 : IsRow .i64 w a1 len1 cap1 z1) (_v1 : (Lit.int .i64 was).wf = true) (_v2 : (Lit.int .i64 t).wf = true) :
    Calls Try.prog 8 #[.int .i64 n, .slice a0 len0 cap0, .slice a1 len1 cap1, .int .i64 was, .int .i64 t] w fun e w' => e = .returned (.bool true) ∧ Below w.heap.size w w' := by
  clear _v0 _v1 _v2
  have m0 := w0.maxLen
  have m1 := w1.maxLen
  have o0 := w0.open
  have o1 := w1.open
  have H0 := Lib.hid o0
  have H1 := Lib.hid o1
  clear w0 w1 o0 o1
  by_cases hn : n < 1 ∨ 4 < n
  · go_enter Try.func8, Try.ntmps8
    go_wp2_with (first | (go_at_call 10; (with_reducible refine (clk_new_no _ _ hn).mono ?_); rintro e w' ⟨rfl, rfl⟩) | (go_at_call 21; (with_reducible refine (r3_new_no _ _ hn).mono ?_); rintro e w' ⟨rfl, rfl⟩) | (go_at_call 30; (with_reducible refine (awake08 _).mono ?_); rintro e w' ⟨rfl, hba⟩))
    go_ret
    exact ⟨rfl, hba⟩
  have n1 : 1 ≤ n := by omega
  have n4 : n ≤ 4 := by omega
  clear hn
  go_enter Try.func8, Try.ntmps8
  go_upto_block 0 with (first | ((go_at_call 10; (with_reducible refine (clk_new n _ n1 n4).mono ?_); rintro e w' ⟨rfl, hc1, hb1⟩); obtain ⟨wA, rfl⟩ : ∃ x : World, x = w' := ⟨_, rfl⟩) | ((go_at_call 21; (with_reducible refine (r3_new n _ n1 n4).mono ?_); rintro e w' ⟨rfl, hr1, hb2⟩); have hv := lt_of_block hc1; have hc1 := hc1.afterB hb2; have hb3 := hb1.trans (hb2.mono hb1.size)))
  go_cut [] (fun wr => ∃ c : Clk, ClkAt wr w.heap.size c ∧ RClkAt wr wA.heap.size c ∧ c.Ok ∧ Below w.heap.size w wr)
  case first =>
    go_wp2
    go_loopw [15] (fun i wr => ∃ (k : Nat) (c : Clk), k ≤ 200 ∧ i = .int .i64 k ∧ ClkAt wr w.heap.size c ∧ RClkAt wr wA.heap.size c ∧ c.Ok ∧ Below w.heap.size w wr) (fun i _ => 200 - (intOf i).toNat)
    case atStart => exact ⟨0, Clk.new n, by omega, rfl, hc1, hr1, Clk.new_ok (by omega) n4, hb3⟩
    case round =>
      clear hc1 hr1 hb1 hb2 hb3
      obtain ⟨k, c, hk, rfl, hcr, hrr, hok, hbr⟩ := hrel
      by_cases hin : k < len0 ∧ k < len1 ∧ k < 200
      · obtain ⟨h0, h1, h2⟩ := hin
        rcases H0.out with h | ⟨b0, f0, rfl, hb0, hz0, hr0⟩; · omega
        rcases H1.out with h | ⟨b1, f1, rfl, hb1, hz1, hr1⟩; · omega
        have g0 := hz0 k h0; have g1 := hz1 k h1
        obtain ⟨q0, q0'⟩ := u8_range (hr0 k h0)
        obtain ⟨q1, q1'⟩ := bounds_i64 (hr1 k h1)
        generalize z0.getD k 0 = x0 at *
        generalize z1.getD k 0 = x1 at *
        clear hz0 hz1 hr0 hr1 H0 H1
        have hcc := (bcell hbr).1
        obtain ⟨wo, rfl⟩ : ∃ x : World, x = wr := ⟨_, rfl⟩
        go_upto_block 2 with (fail)
        have e0 : x0 % 3 = 0 ∨ x0 % 3 = 1 ∨ x0 % 3 = 2 := by omega
        rcases e0 with e | e | e
        · have t0 : (x0 % 3 == 0) = true := by simp [e]
          clear e
          (go_wp2_with (first
             | ((go_at_call 11; (with_reducible refine (clk_step _ _ _ _ hcr hok).mono ?_); rintro e w' ⟨rfl, hcr2, ht2⟩); have hrr2 := hrr.touch ht2 (fun k h1 _ h2 => by omega); have hb2 := below_touch hbr ht2 hbr.size (fun i hi he => by omega); have gx := ((bcell hb2).1 _ _ hb1).trans g1)
             | ((go_at_call 22; (with_reducible refine (r3_step _ _ _ _ hrr2 hok).mono ?_); rintro e w' ⟨rfl, hrr3, ht3⟩); have hcr3 := hcr2.touch ht3 (by omega); have hb3 := below_touch hb2 ht3 hb2.size (fun i hi he => by omega)))
           go_roundw
           case rel => exact ⟨k + 1, _, by omega, by go_num, hcr3, hrr3, Clk.step_ok hok _, hb3⟩
           case measure => (simp [intOf]; omega))
        · have t0 : (x0 % 3 == 0) = false := by simp [e]
          have t1 : (x0 % 3 == 1) = true := by simp [e]
          clear e
          (go_wp2_with (first
             | ((go_at_call 12; (with_reducible refine (clk_enter _ _ _ _ hcr hok).mono ?_); rintro e w' ⟨rfl, hcr2, ht2⟩); have hrr2 := hrr.touch ht2 (fun k h1 _ h2 => by omega); have hb2 := below_touch hbr ht2 hbr.size (fun i hi he => by omega); have gx := ((bcell hb2).1 _ _ hb1).trans g1)
             | ((go_at_call 23; (with_reducible refine (r3_enter _ _ _ _ hrr2 hok).mono ?_); rintro e w' ⟨rfl, hrr3, ht3⟩); have hcr3 := hcr2.touch ht3 (by omega); have hb3 := below_touch hb2 ht3 hb2.size (fun i hi he => by omega)))
           go_roundw
           case rel => exact ⟨k + 1, _, by omega, by go_num, hcr3, hrr3, Clk.enter_ok hok _, hb3⟩
           case measure => (simp [intOf]; omega))
        · have t0 : (x0 % 3 == 0) = false := by simp [e]
          have t1 : (x0 % 3 == 1) = false := by simp [e]
          clear e
          (go_wp2_with (first
             | ((go_at_call 13; (with_reducible refine (clk_flush _ _ _ _ hcr hok).mono ?_); rintro e w' ⟨rfl, hcr2, ht2⟩); have hrr2 := hrr.touch ht2 (fun k h1 _ h2 => by omega); have hb2 := below_touch hbr ht2 hbr.size (fun i hi he => by omega); have gx := ((bcell hb2).1 _ _ hb1).trans g1)
             | ((go_at_call 24; (with_reducible refine (r3_flush _ _ _ _ hrr2 hok).mono ?_); rintro e w' ⟨rfl, hrr3, ht3⟩); have hcr3 := hcr2.touch ht3 (by omega); have hb3 := below_touch hb2 ht3 hb2.size (fun i hi he => by omega)))
           go_roundw
           case rel => exact ⟨k + 1, _, by omega, by go_num, hcr3, hrr3, Clk.flush_ok hok _, hb3⟩
           case measure => (simp [intOf]; omega))
      · by_cases hin0 : k < len0
        · by_cases hin1 : k < len1
          · have hin2 : ¬ (k : Int) < 200 := by omega
            go_wp2; go_meet; exact ⟨c, hcr, hrr, hok, hbr⟩
          · go_wp2; go_meet; exact ⟨c, hcr, hrr, hok, hbr⟩
        · go_wp2; go_meet; exact ⟨c, hcr, hrr, hok, hbr⟩
  case rest =>
    obtain ⟨c, hcr, hrr, hok, hbr⟩ := hcut
    clear H0 H1
    have hcl := lt_of_block hcr
    obtain ⟨wk, rfl⟩ : ∃ x : World, x = wc := ⟨_, rfl⟩
    go_upto_region 19 with (first
      | ((go_at_call 31; (with_reducible refine (q_left _ _ _ _ _ hcr hok).mono ?_); rintro e w' ⟨va, rfl, hoa, hxa⟩); have hcr := hcr.afterB hxa; have hrr := hrr.after hxa; have hbr := hbr.trans (hxa.mono hbr.size))
      | ((go_at_call 32; (with_reducible refine (r8_left _ _ _ _ _ hrr hok).mono ?_); rintro e w' ⟨vb, rfl, hob, hxb⟩); have hcr := hcr.afterB hxb; have hrr := hrr.after hxb; have hbr := hbr.trans (hxb.mono hbr.size); have hoa := ownsRow_keep hoa (Touch.of_below (S := fun _ => False) hxb) (fun _ _ hf => hf)))
    obtain ⟨pa, ca, rfl, ha⟩ := own_any hoa
    obtain ⟨pb, cb, rfl, hb⟩ := own_any hob
    have hle := Clk.left_le c was t c.n.toNat
    have hn4 := hok.n4
    have ia : ∀ j : Nat, j < (c.left was t c.n.toNat).length → (ivals (c.left was t c.n.toNat))[j]? = some (.int .i64 ((c.left was t c.n.toNat).getD j 0)) := fun j h => ivals_at h
    generalize c.left was t c.n.toNat = L at *
    have hN : L.length ≤ 4 := by omega
    have HA := Lib.hid ha; have HB := Lib.hid hb; have IA := Lib.hid ia
    clear ha hb hoa hob ia hle hn4
    obtain ⟨wl, rfl⟩ : ∃ x : World, x = w' := ⟨_, rfl⟩
    go_upto_block 3 with (fail)
    go_cut [] (fun wr => Below wl.heap.size wl wr)
    case first =>
      go_wp2
      go_loopw [18] (fun i wr => ∃ k : Nat, k ≤ L.length ∧ i = .int .i64 k ∧ Below wl.heap.size wl wr) (fun i _ => L.length - (intOf i).toNat)
      case atStart => exact ⟨0, by omega, rfl, by (refine Touch.below0 ?_; (repeat' (first | (with_reducible exact Touch.refl _ _) | (with_reducible assumption) | (with_reducible refine Touch.drew ?_) | (with_reducible refine Touch.drewN ?_ _) | (with_reducible refine Touch.alloc ?_ _) | (with_reducible refine Touch.setCell ?_ _ _ _ ?_) | (with_reducible refine Touch.step (by assumption) ?_) | (with_reducible refine Touch.stepT (by assumption) ?_ ?_) | (intro _; first | rfl | trivial | omega | (simp; done) | (simp; omega)) | (intro _ _; first | omega | (simp; done) | (simp; omega)))))⟩
      case round =>
        obtain ⟨k, hk, rfl, hb4⟩ := hrel
        by_cases hlt : k < L.length
        · have hlt' : (k : Int) < (L.length : Int) := by omega
          obtain ⟨ga, rfl, _, ra⟩ := HA.out (by omega)
          obtain ⟨gb, rfl, _, rb⟩ := HB.out (by omega)
          have ra2 := ra.after hb4
          have rb2 := rb.after hb4
          have ca := ra2.at (IA.out k hlt)
          have cb := rb2.at (IA.out k hlt)
          have la := ra2.lt; have lb := rb2.lt
          clear HA HB IA ra rb
          go_wp2
          (refine wp_region_calm (by kernel_rfl) (by kernel_rfl) ?_; (repeat (go_big_quiet_step ((fail)))); refine wpQuiet_nil ?_; intro _ hw'; obtain ⟨wq, hw''⟩ := hw'; subst hw''; obtain ⟨wq, hbq⟩ := wq; try dsimp only at *)
          go_wp2
          go_roundw
          case rel => exact ⟨k + 1, by omega, by go_num, by (refine Touch.below0 ?_; (repeat' (first | (with_reducible exact Touch.refl _ _) | (with_reducible assumption) | (with_reducible refine Touch.drew ?_) | (with_reducible refine Touch.drewN ?_ _) | (with_reducible refine Touch.alloc ?_ _) | (with_reducible refine Touch.setCell ?_ _ _ _ ?_) | (with_reducible refine Touch.step (by assumption) ?_) | (with_reducible refine Touch.stepT (by assumption) ?_ ?_) | (intro _; first | rfl | trivial | omega | (simp; done) | (simp; omega)) | (intro _ _; first | omega | (simp; done) | (simp; omega)))))⟩
          case measure => simp [intOf]; omega
        · have hge : ¬ (k : Int) < (L.length : Int) := by omega
          obtain rfl : k = L.length := by omega
          go_wp2
          go_meet
          exact hb4
    case rest =>
      have hx := hcut
      have hcr := hcr.afterB hx; have hrr := hrr.after hx; have hbr := hbr.trans (hx.mono hbr.size)
      clear hcut hx HA HB IA
      generalize hk1 : c.kern t = k1
      generalize hu1 : c.user t = u1
      generalize hq1 : c.quiet was t = q1
      have K1 := Lib.hid hk1; have U1 := Lib.hid hu1; have Q1 := Lib.hid hq1
      clear hk1 hu1 hq1
      go_wp2_with (first
        | ((go_at_call 27; (with_reducible refine (q_kernel _ _ _ _ hcr hok).mono ?_); rintro e w' ⟨rfl, hx⟩); rw [K1.out]; have hcr := hcr.afterB hx; have hrr := hrr.after hx; have hbr := hbr.trans (hx.mono hbr.size))
        | ((go_at_call 28; (with_reducible refine (q_user _ _ _ _ hcr hok).mono ?_); rintro e w' ⟨rfl, hx⟩); rw [U1.out]; have hcr := hcr.afterB hx; have hrr := hrr.after hx; have hbr := hbr.trans (hx.mono hbr.size))
        | ((go_at_call 29; (with_reducible refine (q_for _ _ _ _ _ hcr hok).mono ?_); rintro e w' ⟨rfl, hx⟩); rw [Q1.out]; have hcr := hcr.afterB hx; have hrr := hrr.after hx; have hbr := hbr.trans (hx.mono hbr.size))
        | ((go_at_call 33; (with_reducible refine (r8_kernel _ _ _ _ hrr hok).mono ?_); rintro e w' ⟨rfl, hx⟩); rw [K1.out]; have hcr := hcr.afterB hx; have hrr := hrr.after hx; have hbr := hbr.trans (hx.mono hbr.size))
        | ((go_at_call 34; (with_reducible refine (r8_user _ _ _ _ hrr hok).mono ?_); rintro e w' ⟨rfl, hx⟩); rw [U1.out]; have hcr := hcr.afterB hx; have hrr := hrr.after hx; have hbr := hbr.trans (hx.mono hbr.size))
        | ((go_at_call 35; (with_reducible refine (r8_for _ _ _ _ _ hrr hok).mono ?_); rintro e w' ⟨rfl, hx⟩); rw [Q1.out]; have hcr := hcr.afterB hx; have hrr := hrr.after hx; have hbr := hbr.trans (hx.mono hbr.size))
        | ((go_at_call 30; (with_reducible refine (awake08 _).mono ?_); rintro e w' ⟨rfl, hx⟩); have hbr := hbr.trans (hx.mono hbr.size)))
      go_ret
      exact ⟨rfl, hbr⟩
end Go.Proofs.Ytalcifmojngddaa
