/- Both memories hold the same words (alike, for a machine's law). -/
import Derived.Test.YtmahledpcpdldaaGreatR25
import Derived.Test.YtmahledpcpdldaaGreatWords2
import Derived.Test.YtmahledpcpdldaaGreatMem3
set_option linter.unusedVariables false
set_option linter.unusedSimpArgs false
namespace Go.Proofs.YtmahledpcpdldaaGreat
open Go.RowKit
structure MTwo (w : World) (a g : Nat) (B : RMB) (m : MemS) : Prop where
  p : MemIs w a g m
  r : RMemIs w B m
  ok : m.Ok
theorem MTwo.after {w w' : World} {a g : Nat} {B : RMB} {m : MemS} (h : MTwo w a g B m) (hb : Below w.heap.size w w') : MTwo w' a g B m := ⟨h.p.after hb, h.r.after hb, h.ok⟩
set_option maxHeartbeats 2000000 in
set_option maxRecDepth 100000 in
theorem alike25 (a g : Nat) (B : RMB) (m : MemS) (w : World) (h : MTwo w a g B m) : Calls Tryz.prog 90 #[.pointer (some ⟨a, 0, none⟩), .pointer (some ⟨B.v, 0, none⟩)] w fun e w' => e = .returned (.bool true) ∧ Below w.heap.size w w' := by
  have ok := h.ok
  have n64 := ok.n64
  go_enter Tryz.func90, Tryz.ntmps90
  go_upto_block 0 with (fail)
  go_cut [] (fun wr => Below w.heap.size w wr)
  case first =>
    go_wp2
    go_loopw [5] (fun i wr => ∃ (k : Nat), k ≤ m.n ∧ i = .int .i64 k ∧ Below w.heap.size w wr) (fun i _ => m.n - (intOf i).toNat)
    case atStart => exact ⟨0, by omega, rfl, Below.refl _ _⟩
    case round =>
      obtain ⟨k, hk, rfl, hB⟩ := hrel
      have h1 := h.after hB
      have g0 := h1.r.cell0
      by_cases hl : k < m.n
      rotate_left
      · have hl' : ¬ (k : Int) < m.n := by omega
        go_wp2
        go_meet
        exact hB
      have hl' : (k : Int) < m.n := by omega
      have g1 := h1.r.head hl
      have WY := fun w h => words_yes a g m k w h ok hl
      obtain ⟨wo, hwo⟩ : ∃ x : World, x = wr := ⟨_, rfl⟩
      subst hwo
      go_upto_block 1 with (fail)
      go_cut [] (fun wi => Below w.heap.size w wi)
      case first =>
        go_upto_block 2 with ((go_at_call 188; (with_reducible refine (WY _ h1.p).mono ?_); rintro e w' ⟨b, rfl, hb1, hb2, hbc, hx⟩); have hB2 := hB.trans (hx.mono hB.size); have h2 := h.after hB2; have g0 := h2.r.cell0; have g1 := h2.r.head hl)
        obtain ⟨w5, hw5⟩ : ∃ x : World, x = w' := ⟨_, rfl⟩
        subst hw5
        go_wp2
        go_loopw [8] (fun i wi => ∃ (j : Nat), j ≤ 36 ∧ i = .int .i64 j ∧ Below w5.heap.size w5 wi) (fun i _ => 36 - (intOf i).toNat)
        case atStart => exact ⟨0, by omega, rfl, Below.refl _ _⟩
        case round =>
          obtain ⟨j, hj, rfl, hB3⟩ := hrel
          have h3 := h2.after hB3
          have g0 := h3.r.cell0
          have g1 := h3.r.head hl
          by_cases hj2 : j < 36
          rotate_left
          · have hj3 : ¬ (j : Int) < 36 := by omega
            go_wp2
            go_meet
            exact hB2.trans (hB3.mono hB2.size)
          have hj3 : (j : Int) < 36 := by omega
          have g2 := h3.r.at hl hj2
          have c0 := hbc j hj2
          rw [← hB3.cell (p := ⟨b, j, none⟩) hb2] at c0
          have l1 := lt_of_block h3.r.box
          have l2 := h3.r.heads.lt
          have l3 := (h3.r.rows k hl).lt
          have l4 := Nat.lt_of_lt_of_le hb2 hB3.size
          go_upto_region 10 with (fail)
          (refine wp_region_calm (by kernel_rfl) (by kernel_rfl) ?_; (repeat (go_big_quiet_step ((fail)))); refine wpQuiet_nil ?_; intro _ hw'; obtain ⟨wq, hw''⟩ := hw'; subst hw''; obtain ⟨wq, hbq⟩ := wq; try dsimp only at *)
          go_wp2
          go_roundw
          case rel => first | exact ⟨j + 1, by omega, by go_num, hB3.trans (hbq.mono hB3.size)⟩ | ((repeat apply Exists.intro); exact ⟨⟨j + 1, by omega, by go_num, hB3.trans (hbq.mono hB3.size)⟩, rfl⟩)
          case measure => simp [intOf]; omega
      case rest =>
        go_wp2
        go_roundw
        case rel => first | exact ⟨k + 1, by omega, by go_num, hcut⟩ | ((repeat apply Exists.intro); exact ⟨⟨k + 1, by omega, by go_num, hcut⟩, rfl⟩)
        case measure => simp [intOf]; omega
  case rest =>
    have h1 := h.after hcut
    have g0 := h1.r.cell0
    have l1 := lt_of_block h1.r.box
    go_upto_region 12 with (fail)
    (refine wp_region_calm (by kernel_rfl) (by kernel_rfl) ?_; (repeat (go_big_quiet_step (((go_at_call 189; first | (with_reducible refine Calls.calm_of (mem_len a g m _ (h1.p.after (After.h _)) ok)) | (with_reducible refine Calls.calm_of_same (mem_len a g m _ (h1.p.after (After.h _)) ok))))))); refine wpQuiet_nil ?_; intro _ hw'; obtain ⟨wq, hw''⟩ := hw'; subst hw''; obtain ⟨wq, hbq⟩ := wq; try dsimp only at *)
    go_wp2
    go_ret
    exact ⟨ret_bool (by simp), hcut.trans (hbq.mono hcut.size)⟩
end Go.Proofs.YtmahledpcpdldaaGreat
