/- QuietLeft: the walk of the law. -/
import Derived.Test.YtalcifmojngddaaQuietLeftP
set_option linter.unusedVariables false
set_option linter.unusedSimpArgs false
namespace Go.Proofs.Ytalcifmojngddaa
open Go.RowKit

theorem own_any2 {w : World} {base : Nat} {e : TypeId} {size : Nat} {v : Value} {n : Nat} {xs : List Value} (h : w.ownsRow base e size v n xs) :
    ∃ a cap, v = .slice a n cap ∧ (0 < n → ∃ g, a = some ⟨g, 0, none⟩ ∧ base ≤ g ∧ Row w g e xs) := by
  rcases ownsRow_row h with ⟨rfl, rfl, _⟩ | ⟨g, cap, rfl, hg, _, _, _, hr⟩
  · exact ⟨none, 0, rfl, fun h => by omega⟩
  · exact ⟨_, cap, rfl, fun _ => ⟨g, rfl, hg, hr⟩⟩
theorem ivals_at2 {l : List Int} {j : Nat} (h : j < l.length) : (ivals l)[j]? = some (.int .i64 (l.getD j 0)) := by
  unfold ivals; rw [List.getElem?_map, List.getElem?_eq_getElem h]; simp [h]
theorem Clk.nowle_step (c : Clk) (i : Int) {k : Int} (h : c.now ≤ k) : (c.step i).now ≤ k + 1 := by unfold Clk.step; split <;> first | omega | (dsimp only; omega)
theorem Clk.nowle_enter (c : Clk) (i : Int) {k : Int} (h : c.now ≤ k) : (c.enter i).now ≤ k := by unfold Clk.enter; split <;> exact h
theorem Clk.nowle_flush (c : Clk) (i : Int) {k : Int} (h : c.now ≤ k) : (c.flush i).now ≤ k := by unfold Clk.flush; split <;> exact h


set_option maxHeartbeats 4000000 in
set_option maxRecDepth 100000 in
theorem quietLeft_walk (a0 : Option Addr) (len0 cap0 : Nat) (z0 : List Int) (a1 : Option Addr) (len1 cap1 : Nat) (z1 : List Int) (a2 : Int) (a3 : Int) (w : World) (w0 : IsRow .u8 w a0 len0 cap0 z0) (w1 : IsRow .u8 w a1 len1 cap1 z1) (w2 : (Lit.int .u8 a2).wf = true) (w3 : (Lit.int .u8 a3).wf = true) :
    Calls Try.prog 9 #[.slice a0 len0 cap0, .slice a1 len1 cap1, .int .u8 a2, .int .u8 a3] w fun e w' => e = .returned (.bool true) ∧ Below w.heap.size w w' := by
  have m0 := w0.maxLen
  have m1 := w1.maxLen
  obtain ⟨r2, r2'⟩ := u8_range w2
  obtain ⟨r3, r3'⟩ := u8_range w3
  have o0 := w0.open
  have o1 := w1.open
  have H0 := Lib.hid o0
  have H1 := Lib.hid o1
  clear w0 w1 w2 w3 o0 o1
  go_enter Try.func9, Try.ntmps9
  go_upto_block 0 with ((go_at_call 10; (with_reducible refine (clk_new 3 _ (by omega) (by omega)).mono ?_); rintro e w' ⟨rfl, hc1, hb1⟩))
  go_cut [] (fun wr => ∃ c : Clk, ClkAt wr w.heap.size c ∧ c.Ok ∧ c.n = 3 ∧ c.now ≤ 100 ∧ Below w.heap.size w wr)
  case first =>
    go_wp2
    go_loopw [11] (fun i wr => ∃ (k : Nat) (c : Clk), k ≤ 100 ∧ i = .int .i64 k ∧ ClkAt wr w.heap.size c ∧ c.Ok ∧ c.n = 3 ∧ c.now ≤ k ∧ Below w.heap.size w wr) (fun i _ => 100 - (intOf i).toNat)
    case atStart => exact ⟨0, Clk.new 3, by omega, rfl, hc1, Clk.new_ok (by omega) (by omega), rfl, by simp [Clk.new], hb1⟩
    case round =>
      clear hc1 hb1
      obtain ⟨k, c, hk, rfl, hcr, hok, hn, hno, hbr⟩ := hrel
      by_cases hin : k < len0 ∧ k < len1 ∧ k < 100
      · obtain ⟨h0, h1, h2⟩ := hin
        rcases H0.out with h | ⟨b0, f0, rfl, hb0, hz0, hr0⟩; · omega
        rcases H1.out with h | ⟨b1, f1, rfl, hb1, hz1, hr1⟩; · omega
        have g0 := hz0 k h0; have g1 := hz1 k h1
        obtain ⟨q0, q0'⟩ := u8_range (hr0 k h0)
        obtain ⟨q1, q1'⟩ := u8_range (hr1 k h1)
        generalize z0.getD k 0 = x0 at *
        generalize z1.getD k 0 = x1 at *
        clear hz0 hz1 hr0 hr1
        have hcc := (bcell hbr).1
        have hn' := Lib.hid hn; clear hn; have hn := hn'; clear hn'
        clear H0 H1
        go_wp2_with (first | (go_at_call 11; (with_reducible refine (clk_step _ _ _ _ hcr hok).mono ?_); rintro e w' ⟨rfl, hcr, ht⟩; have hok := Clk.step_ok hok (x1 % 3); have hn := Lib.hid ((Clk.step_n _ (x1 % 3)).trans hn.out); have hno := Clk.nowle_step _ (x1 % 3) hno; have hbr := below_touch hbr ht hbr.size (fun i hi he => by omega); have hcc := (bcell hbr).1; clear ht) | (go_at_call 12; (with_reducible refine (clk_enter _ _ _ _ hcr hok).mono ?_); rintro e w' ⟨rfl, hcr, ht⟩; have hok := Clk.enter_ok hok (x1 % 3); have hn := Lib.hid ((Clk.enter_n _ (x1 % 3)).trans hn.out); have hno := Clk.nowle_enter _ (x1 % 3) hno; have hbr := below_touch hbr ht hbr.size (fun i hi he => by omega); have hcc := (bcell hbr).1; clear ht) | (go_at_call 13; (with_reducible refine (clk_flush _ _ _ _ hcr hok).mono ?_); rintro e w' ⟨rfl, hcr, ht⟩; have hok := Clk.flush_ok hok (x1 % 3); have hn := Lib.hid ((Clk.flush_n _ (x1 % 3)).trans hn.out); have hno := Clk.nowle_flush _ (x1 % 3) hno; have hbr := below_touch hbr ht hbr.size (fun i hi he => by omega); have hcc := (bcell hbr).1; clear ht))
        all_goals
          go_roundw
          case rel => exact ⟨k + 1, _, by omega, by go_num, hcr, hok, hn.out, by omega, hbr⟩
          case measure => simp [intOf]; omega
      · by_cases hin0 : k < len0
        · by_cases hin1 : k < len1
          · have hin2 : ¬ (k : Int) < 100 := by omega
            go_wp2; go_meet; exact ⟨c, hcr, hok, hn, by omega, hbr⟩
          · go_wp2; go_meet; exact ⟨c, hcr, hok, hn, by omega, hbr⟩
        · go_wp2; go_meet; exact ⟨c, hcr, hok, hn, by omega, hbr⟩
  case rest =>
    obtain ⟨c, hcr, hok, hn, hno, hbr⟩ := hcut
    obtain ⟨wk, rfl⟩ : ∃ x : World, x = wc := ⟨_, rfl⟩
    clear H0 H1
    have hlc := lt_of_block hcr
    have t0 := hok.t0
    have nw : c.nowOf = c.now := Acts.nowOf (by omega)
    have NW := Lib.hid nw; clear nw
    have hmod : 0 ≤ a3 % (c.now + 1) ∧ a3 % (c.now + 1) < c.now + 1 := ⟨Int.emod_nonneg _ (by omega), Int.emod_lt_of_pos _ (by omega)⟩
    obtain ⟨hm0, hm1⟩ := hmod
    have hnz : c.now + 1 ≠ 0 := by omega
    have hq0 : 0 ≤ a2 % 4 := by omega
    have hq3 : a2 % 4 ≤ 3 := by omega
    have HN := Lib.hid hn; clear hn
    go_upto_region 15 with (first
      | ((go_at_call 17; (with_reducible refine (clk_now _ _ _ hcr).mono ?_); rintro e w' ⟨rfl, rfl⟩); rw [NW.out])
      | ((go_at_call 31; (with_reducible refine (q_left _ _ _ _ _ hcr hok).mono ?_); rintro e w' ⟨va, rfl, hoa, hxa⟩); have hcr := hcr.afterB hxa; have hbr := hbr.trans (hxa.mono hbr.size)))
    obtain ⟨pa, ca, rfl, ha⟩ := own_any2 hoa
    have n3 := HN.out
    have hlo := hoa.lt
    generalize a2 % 4 = q at *
    generalize a3 % (c.now + 1) = t at *
    have qL := QL.quiet_left (c := c) (by omega) hq0 hq3 t
    have hSt : c.stepE 0 = 0 := by
      unfold Clk.stepE; rw [Acts.can_in (by omega) (by omega) (by omega)]; simp; omega
    have seen0 := QL.Seen.zero hSt (t := t) (by omega) (c.left q t c.n.toNat)
    have hrg : ∀ k, k < (c.left q t c.n.toNat).length → 0 ≤ (c.left q t c.n.toNat).getD k 0 ∧ (c.left q t c.n.toNat).getD k 0 < (c.n.toNat : Nat) := fun k hk => QL.getD_range hk
    have hdone : ∀ c2, QL.Seen c c2 t (c.left q t c.n.toNat) (c.left q t c.n.toNat).length → ∀ j : Nat, j < c2.n.toNat → c2.miss q t (j : Nat) = false := fun c2 h => QL.Seen.done (by omega) hq0 hq3 h
    have hle := Clk.left_le c q t c.n.toNat
    have ia : ∀ j : Nat, j < (c.left q t c.n.toNat).length → (ivals (c.left q t c.n.toNat))[j]? = some (.int .i64 ((c.left q t c.n.toNat).getD j 0)) := fun j h => ivals_at2 h
    generalize c.left q t c.n.toNat = L at *
    have hN3 : L.length ≤ 3 := by omega
    have ql2 : (c.quiet q t != ((L.length : Int) == 0)) = false := by
      rw [qL]; by_cases h : L.length = 0
      · simp [h]
      · simp [h]
    have QL2 := Lib.hid ql2; have HA := Lib.hid ha; have IA := Lib.hid ia; have HRG := Lib.hid hrg; have HD := Lib.hid hdone; have QLL := Lib.hid qL
    clear qL ql2 ha ia hrg hdone hle n3 hSt hoa
    obtain ⟨wl, rfl⟩ : ∃ x : World, x = w' := ⟨_, rfl⟩
    generalize hqv : c.quiet q t = qv at *
    have HQ := Lib.hid hqv; clear hqv
    have ql3 := QL2.out
    have ql4 : (!(qv == ((L.length : Int) == 0))) = false := ql3
    have hSok := Clk.step_ok hok 0
    go_upto_block 2 with (first
      | ((go_at_call 29; (with_reducible refine (q_for _ _ _ _ _ hcr hok).mono ?_); rintro e w' ⟨rfl, hx⟩); rw [HQ.out]; have hcr := hcr.afterB hx; have hbr := hbr.trans (hx.mono hbr.size))
      | ((go_at_call 11; (with_reducible refine (clk_step _ _ 0 _ hcr hok).mono ?_); rintro e w' ⟨rfl, hcr2, ht2⟩); have hbr2 := below_touch hbr ht2 hbr.size (fun i hi he => by omega)))
    go_cut [] (fun wr => ∃ c2 : Clk, ClkAt wr w.heap.size c2 ∧ c2.Ok ∧ QL.Seen c c2 t L L.length ∧ Below w.heap.size w wr)
    case first =>
      go_wp2
      go_loopw [16] (fun i wr => ∃ (k : Nat) (c2 : Clk), k ≤ L.length ∧ i = .int .i64 k ∧ ClkAt wr w.heap.size c2 ∧ c2.Ok ∧ QL.Seen c c2 t L k ∧ Below w.heap.size w wr ∧ Touch (fun j => j = w.heap.size) wl wr) (fun i _ => L.length - (intOf i).toNat)
      case atStart => exact ⟨0, _, by omega, rfl, hcr2, hSok, seen0, hbr2, (Touch.of_below hx).trans ht2⟩
      case round =>
        obtain ⟨k, c2, hk, rfl, hc3, hok3, hs3, hb3, htt⟩ := hrel
        by_cases hlt : k < L.length
        · have hlt' : (k : Int) < (L.length : Int) := by omega
          obtain ⟨ga, rfl, hga, ra⟩ := HA.out (by omega)
          have ra2 := ra.touch htt (by omega)
          have hia := IA.out k hlt
          have ca := ra2.at hia
          obtain ⟨x0, x1⟩ := HRG.out k hlt
          have hn2 := hs3.n
          have hnx := hs3.next hok3 hlt x0 (by rw [hn2, HN.out]; rw [HN.out] at x1; exact x1)
          have hok4 := Clk.enter_ok hok3 (L.getD k 0)
          have hok5 := Clk.flush_ok hok4 (L.getD k 0)
          generalize L.getD k 0 = x at *
          have HS := Lib.hid hnx
          clear HA IA HRG hnx hn2 x1
          go_wp2_with (first
            | ((go_at_call 12; (with_reducible refine (clk_enter _ _ _ _ hc3 hok3).mono ?_); rintro e w' ⟨rfl, hc4, ht4⟩); have hb4 := below_touch hb3 ht4 hb3.size (fun i hi he => by omega); have ra4 := ra2.touch ht4 (by omega); have ca4 := ra4.at hia)
            | ((go_at_call 13; (with_reducible refine (clk_flush _ _ _ _ hc4 hok4).mono ?_); rintro e w' ⟨rfl, hc5, ht5⟩); have hb5 := below_touch hb4 ht5 hb4.size (fun i hi he => by omega)))
          go_roundw
          case rel => exact ⟨k + 1, _, by omega, by go_num, hc5, hok5, HS.out, hb5, (htt.trans ht4).trans ht5⟩
          case measure => simp [intOf]; omega
        · have hge : ¬ (k : Int) < (L.length : Int) := by omega
          obtain rfl : k = L.length := by omega
          go_wp2
          go_meet
          exact ⟨c2, hc3, hok3, hs3, hb3⟩
    case rest =>
      obtain ⟨c2, hc3, hok3, hs3, hb3⟩ := hcut
      have hd := HD.out c2 hs3
      have hn2 : c2.n = 3 := hs3.n.trans HN.out
      have hqq : Hid (c2.quiet q t = true) := (QL.quiet_iff (by omega) hq0 hq3 t).2 hd
      have hll : Hid ((c2.left q t c2.n.toNat).length = 0) := QL.left_nil.2 hd
      clear HA IA HRG HD hd hn2 hs3
      go_wp2_with (first
        | ((go_at_call 29; (with_reducible refine (q_for _ _ _ _ _ hc3 hok3).mono ?_); rintro e w' ⟨rfl, hx⟩); rw [hqq.out]; have hc3 := hc3.afterB hx; have hb3 := hb3.trans (hx.mono hb3.size))
        | ((go_at_call 31; (with_reducible refine (q_left _ _ _ _ _ hc3 hok3).mono ?_); rintro e w' ⟨vb, rfl, hob, hxb⟩); have hb3 := hb3.trans (hxb.mono hb3.size); rw [hll.out] at hob; obtain ⟨pb, cb, rfl, _⟩ := own_any2 hob; clear hob)
        | ((go_at_call 30; (with_reducible refine (awake08 _).mono ?_); rintro e w' ⟨rfl, hx⟩); have hb3 := hb3.trans (hx.mono hb3.size)))
      go_ret
      exact ⟨rfl, hb3⟩
end Go.Proofs.Ytalcifmojngddaa
