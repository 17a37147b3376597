/- CaptblPlays: laid, alike. -/
import Derived.Test.YtejdfdllgobnhaaGreatTwo
set_option linter.unusedVariables false
set_option linter.unusedSimpArgs false
namespace Go.Proofs.YtejdfdllgobnhaaGreat
open Go.RowKit
set_option maxHeartbeats 2000000 in
set_option maxRecDepth 100000 in
theorem laid13 (a0 : Option Addr) (len0 cap0 : Nat) (z0 : List Int) (w : World) (w0 : IsRow .u64 w a0 len0 cap0 z0) : Calls Tryz.prog 9 #[.int .i64 4, .slice a0 len0 cap0] w fun e w' => ∃ a g B m,
    e = .returned (.tuple #[.pointer (some ⟨a, 0, none⟩), .pointer (some ⟨B.v, 0, none⟩)]) ∧ Two w' a g B m ∧ m.n = 4 ∧ w.heap.size ≤ g ∧ B.From 4 w.heap.size ∧ Below w.heap.size w w' := by
  have NW : ∀ w, Calls Tryz.prog 51 #[.int .i64 4] w _ := fun w => mem_new 4 w (by omega) (by omega)
  have NR : ∀ w, Calls Tryz.prog 52 #[.int .i64 4] w _ := fun w => r2_new 4 w (by omega) (by omega)
  have hlen := w0.maxLen
  have hop := w0.open
  have ok0 : (⟨4, fun _ _ => 0⟩ : MemS).Ok := ⟨by decide, by decide, fun _ _ => Int.le_refl _, fun _ _ => by show (0 : Int) < _; omega⟩
  go_enter Tryz.func9, Tryz.ntmps9
  go_upto_block 0 with (first
    | ((go_at_call 51; (with_reducible refine (NW _).mono ?_); rintro e w' ⟨rfl, hm, hb⟩); have ha := hm.lta; have hg := hm.ltg; have hs := hb.size)
    | ((go_at_call 52; (with_reducible refine (NR _).mono ?_); rintro e w' ⟨B, rfl, hr, hF, hb2⟩); have hs2 := hb2.size))
  have hW := hb.trans (hb2.mono hb.size)
  obtain ⟨A, hA⟩ : ∃ x, x = w.heap.size + 1 := ⟨_, rfl⟩
  obtain ⟨G, hG⟩ : ∃ x, x = w.heap.size := ⟨_, rfl⟩
  have hT : Two w' A G B ⟨4, fun _ _ => 0⟩ := by
    have h1 := hF.v; have h2 := hF.b
    have h3 : ∀ x, x < w'.heap.size → x ≤ w.heap.size + 1 → ¬ B.own 4 x := fun x _ hx ⟨j, hj, e⟩ => by have := hF.f j hj; omega
    rw [hA, hG]
    exact ⟨hm.after hb2, hr, ok0, by omega, by omega, h3 _ (by omega) (by omega), h3 _ (by omega) (by omega)⟩
  have hF2 : B.From 4 w.heap.size := ⟨Nat.le_trans hs hF.v, Nat.le_trans hs hF.b, fun j hj => Nat.le_trans hs (hF.f j hj)⟩
  have hGw : w.heap.size ≤ G := by omega
  have hOwn : ∀ x, x < w.heap.size → ¬ B.two G 4 x := fun x hx e => by
    rcases e with e | ⟨j, hj, e⟩
    · omega
    · have := hF2.f j hj; omega
  rw [← hA]
  clear hm hr hF ha hg hs hs2 hb hb2 ok0 hA hG NW NR
  go_cut [] (fun wr => ∃ m, Two wr A G B m ∧ m.n = 4 ∧ Below w.heap.size w wr)
  case first =>
    go_wp2
    go_loopw [10] (fun i wr => ∃ (k : Nat) (m : MemS), k ≤ 144 ∧ i = .int .i64 k ∧ Two wr A G B m ∧ m.n = 4 ∧ Below w.heap.size w wr) (fun i _ => 144 - (intOf i).toNat)
    case atStart => exact ⟨0, _, by omega, rfl, hT, rfl, hW⟩
    case round =>
      obtain ⟨k, m, hk, rfl, hT, hn, hB⟩ := hrel
      by_cases hl : k < len0
      rotate_left
      · have hl' : ¬ (k : Int) < len0 := by omega
        go_wp2
        go_meet
        exact ⟨m, hT, hn, hB⟩
      have hl' : (k : Int) < len0 := by omega
      by_cases h16 : k < 144
      rotate_left
      · have h16' : ¬ (k : Int) < 144 := by omega
        go_wp2
        go_meet
        exact ⟨m, hT, hn, hB⟩
      have h16' : (k : Int) < 144 := by omega
      rcases hop with hop | ⟨b, o, rfl, hb, hc, hwf⟩
      · omega
      have c0 := hc k hl
      have u64 := bounds_u64 (hwf k hl)
      rw [← hB.cell (p := ⟨b, _, none⟩) hb] at c0
      generalize hX : z0.getD k 0 = X at *
      have HX := Lib.hid hX
      clear hX
      have okm := hT.ok
      have okS := fun f i => MemS.store_ok okm f i (x := X) (by omega) (by omega)
      have hns := fun f i => MemS.store_n m f i X
      have hlg := hT.p.ltg
      go_wp2_with (first
        | ((go_at_call 53; (with_reducible refine (mem_store A G m _ _ _ _ hT.p okm).mono ?_); rintro e w' ⟨rfl, hp, ht⟩); have hr := hT.rkeep ht; have hB2 := below_touch hB ht hB.size (fun i hi e => hOwn i hi (.inl e)); have c2 := hc k hl; rw [← hB2.cell (p := ⟨b, _, none⟩) hb, HX.out] at c2)
        | ((go_at_call 54; (with_reducible refine (r2_store B m _ _ _ _ hr okm).mono ?_); rintro e w' ⟨rfl, hr2, ht2⟩); have hB3 := below_touch hB2 ht2 hB2.size (fun i hi e => hOwn i hi (.inr (by rw [hn] at e; exact e)))))
      exact ⟨⟨k + 1, m.store (↑k / 36) (↑k % 36) X, by omega, by go_num, hT.both hp ht2 hr2 (okS _ _) (hns _ _), by rw [hns]; exact hn, hB3⟩, by simp [intOf]; omega⟩
  case rest =>
    obtain ⟨m, hT, hn, hB⟩ := hcut
    go_wp2
    go_ret2
    exact ⟨A, G, B, m, rfl, hT, hn, hGw, hF2, hB⟩
set_option maxHeartbeats 2000000 in
set_option maxRecDepth 100000 in
theorem alike13 (a g : Nat) (B : RMB) (m : MemS) (w : World) (h : Two w a g B m) : Calls Tryz.prog 11 #[.pointer (some ⟨a, 0, none⟩), .pointer (some ⟨B.v, 0, none⟩)] w fun e w' => e = .returned (.bool true) ∧ Below w.heap.size w w' := by
  have ok := h.ok
  have n64 := ok.n64
  go_enter Tryz.func11, Tryz.ntmps11
  go_upto_block 0 with (fail)
  go_cut [] (fun wr => Below w.heap.size w wr)
  case first =>
    go_wp2
    go_loopw [5] (fun i wr => ∃ (k : Nat), k ≤ m.n ∧ i = .int .i64 k ∧ Below w.heap.size w wr) (fun i _ => m.n - (intOf i).toNat)
    case atStart => exact ⟨0, by omega, rfl, Below.refl _ _⟩
    case round =>
      obtain ⟨k, hk, rfl, hB⟩ := hrel
      have h1 := h.after hB
      have g0 := h1.r.cell0
      by_cases hl : k < m.n
      rotate_left
      · have hl' : ¬ (k : Int) < m.n := by omega
        go_wp2
        go_meet
        exact hB
      have hl' : (k : Int) < m.n := by omega
      have g1 := h1.r.head hl
      have WY := fun w h => words_yes a g m k w h ok hl
      obtain ⟨wo, hwo⟩ : ∃ x : World, x = wr := ⟨_, rfl⟩
      subst hwo
      go_upto_block 1 with (fail)
      go_cut [] (fun wi => Below w.heap.size w wi)
      case first =>
        go_upto_block 2 with ((go_at_call 65; (with_reducible refine (WY _ h1.p).mono ?_); rintro e w' ⟨b, rfl, hb1, hb2, hbc, hx⟩); have hB2 := hB.trans (hx.mono hB.size); have h2 := h.after hB2; have g0 := h2.r.cell0; have g1 := h2.r.head hl)
        obtain ⟨w5, hw5⟩ : ∃ x : World, x = w' := ⟨_, rfl⟩
        subst hw5
        go_wp2
        go_loopw [8] (fun i wi => ∃ (j : Nat), j ≤ 36 ∧ i = .int .i64 j ∧ Below w5.heap.size w5 wi) (fun i _ => 36 - (intOf i).toNat)
        case atStart => exact ⟨0, by omega, rfl, Below.refl _ _⟩
        case round =>
          obtain ⟨j, hj, rfl, hB3⟩ := hrel
          have h3 := h2.after hB3
          have g0 := h3.r.cell0
          have g1 := h3.r.head hl
          by_cases hj2 : j < 36
          rotate_left
          · have hj3 : ¬ (j : Int) < 36 := by omega
            go_wp2
            go_meet
            exact hB2.trans (hB3.mono hB2.size)
          have hj3 : (j : Int) < 36 := by omega
          have g2 := h3.r.at hl hj2
          have c0 := hbc j hj2
          rw [← hB3.cell (p := ⟨b, j, none⟩) hb2] at c0
          have l1 := lt_of_block h3.r.box
          have l2 := h3.r.heads.lt
          have l3 := (h3.r.rows k hl).lt
          have l4 := Nat.lt_of_lt_of_le hb2 hB3.size
          go_upto_region 10 with (fail)
          (refine wp_region_calm (by kernel_rfl) (by kernel_rfl) ?_; (repeat (go_big_quiet_step ((fail)))); refine wpQuiet_nil ?_; intro _ hw'; obtain ⟨wq, hw''⟩ := hw'; subst hw''; obtain ⟨wq, hbq⟩ := wq; try dsimp only at *)
          go_wp2
          go_roundw
          case rel => first | exact ⟨j + 1, by omega, by go_num, hB3.trans (hbq.mono hB3.size)⟩ | ((repeat apply Exists.intro); exact ⟨⟨j + 1, by omega, by go_num, hB3.trans (hbq.mono hB3.size)⟩, rfl⟩)
          case measure => simp [intOf]; omega
      case rest =>
        go_wp2
        go_roundw
        case rel => first | exact ⟨k + 1, by omega, by go_num, hcut⟩ | ((repeat apply Exists.intro); exact ⟨⟨k + 1, by omega, by go_num, hcut⟩, rfl⟩)
        case measure => simp [intOf]; omega
  case rest =>
    have h1 := h.after hcut
    have g0 := h1.r.cell0
    have l1 := lt_of_block h1.r.box
    go_upto_region 12 with (fail)
    (refine wp_region_calm (by kernel_rfl) (by kernel_rfl) ?_; (repeat (go_big_quiet_step (((go_at_call 66; first | (with_reducible refine Calls.calm_of (mem_len a g m _ (h1.p.after (After.h _)) ok)) | (with_reducible refine Calls.calm_of_same (mem_len a g m _ (h1.p.after (After.h _)) ok))))))); refine wpQuiet_nil ?_; intro _ hw'; obtain ⟨wq, hw''⟩ := hw'; subst hw''; obtain ⟨wq, hbq⟩ := wq; try dsimp only at *)
    go_wp2
    go_ret
    exact ⟨ret_bool (by simp), hcut.trans (hbq.mono hcut.size)⟩
end Go.Proofs.YtejdfdllgobnhaaGreat
