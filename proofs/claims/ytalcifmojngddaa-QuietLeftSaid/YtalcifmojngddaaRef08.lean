/- The reference of layer 8 (palanquinref08). -/
import Derived.Test.YtalcifmojngddaaQLeft
set_option linter.unusedVariables false
set_option linter.unusedSimpArgs false
namespace Go.Proofs.Ytalcifmojngddaa
open Go.RowKit

theorem Clk.kern_floor {c : Clk} (n1 : 1 ≤ c.n) (t : Int) : c.kern t = decide (t < c.floorE) := by simp [Clk.kern]; omega
theorem Clk.user_floor {c : Clk} (n1 : 1 ≤ c.n) (t : Int) : c.user t = decide (t < c.floorF) := by simp [Clk.user]; omega
theorem RClkAt.n1 {w : World} {v : Nat} {c : Clk} (h : RClkAt w v c) : 1 ≤ c.n := by obtain ⟨_, _, _, _, _, _, h⟩ := h; exact h.n1

theorem r8_kernel (v : Nat) (c : Clk) (t : Int) (w : World) (h : RClkAt w v c) (ok : c.Ok) :
    Calls Try.prog 33 #[.pointer (some ⟨v, 0, none⟩), .int .i64 t] w fun e w' => e = .returned (.bool (c.kern t)) ∧ Below w.heap.size w w' := by
  rw [Clk.kern_floor h.n1]
  go_enter Try.func33, Try.ntmps33
  go_wp2_with (go_at_call 25; (with_reducible refine (r3_floor _ _ _ h ok).mono ?_); rintro e w' ⟨rfl, hb⟩)
  go_ret
  exact ⟨rfl, hb⟩
theorem r8_user (v : Nat) (c : Clk) (t : Int) (w : World) (h : RClkAt w v c) (ok : c.Ok) :
    Calls Try.prog 34 #[.pointer (some ⟨v, 0, none⟩), .int .i64 t] w fun e w' => e = .returned (.bool (c.user t)) ∧ Below w.heap.size w w' := by
  rw [Clk.user_floor h.n1]
  go_enter Try.func34, Try.ntmps34
  go_wp2_with (go_at_call 25; (with_reducible refine (r3_floor _ _ _ h ok).mono ?_); rintro e w' ⟨rfl, hb⟩)
  go_ret
  exact ⟨rfl, hb⟩

set_option maxHeartbeats 1000000 in
theorem r8_for (v : Nat) (c : Clk) (was t : Int) (w : World) (h : RClkAt w v c) (ok : c.Ok) :
    Calls Try.prog 35 #[.pointer (some ⟨v, 0, none⟩), .int .i64 was, .int .i64 t] w fun e w' => e = .returned (.bool (c.quiet was t)) ∧ Below w.heap.size w w' := by
  unfold Clk.quiet
  by_cases h0 : was = 0
  · subst h0
    rw [if_pos rfl]
    go_enter Try.func35, Try.ntmps35
    go_wp2
    go_ret
    exact ⟨rfl, Below.refl _ _⟩
  rw [if_neg h0]
  by_cases h3 : was = 3
  · subst h3
    rw [if_pos rfl]
    generalize hu : c.user t = u
    have HU := Lib.hid hu; clear hu
    cases u
    · go_enter Try.func35, Try.ntmps35
      go_wp2_with ((go_at_call 34; (with_reducible refine (r8_user _ _ _ _ h ok).mono ?_); rintro e w' ⟨rfl, hb⟩); rw [HU.out])
      go_ret
      exact ⟨rfl, by (refine Touch.below0 ?_; (repeat' (first | (with_reducible exact Touch.refl _ _) | (with_reducible assumption) | (with_reducible refine Touch.drew ?_) | (with_reducible refine Touch.drewN ?_ _) | (with_reducible refine Touch.alloc ?_ _) | (with_reducible refine Touch.setCell ?_ _ _ _ ?_) | (with_reducible refine Touch.step (by assumption) ?_) | (with_reducible refine Touch.stepT (by assumption) ?_ ?_) | (intro _; first | rfl | trivial | omega | (simp; done) | (simp; omega)) | (intro _ _; first | omega | (simp; done) | (simp; omega)))))⟩
    · go_enter Try.func35, Try.ntmps35
      go_wp2_with (first
        | ((go_at_call 34; (with_reducible refine (r8_user _ _ _ _ h ok).mono ?_); rintro e w' ⟨rfl, hb⟩); rw [HU.out]; have h := h.after hb)
        | (go_at_call 33; (with_reducible refine (r8_kernel _ _ _ _ h ok).mono ?_); rintro e w' ⟨rfl, hb2⟩))
      go_ret
      exact ⟨rfl, by (refine Touch.below0 ?_; (repeat' (first | (with_reducible exact Touch.refl _ _) | (with_reducible assumption) | (with_reducible refine Touch.drew ?_) | (with_reducible refine Touch.drewN ?_ _) | (with_reducible refine Touch.alloc ?_ _) | (with_reducible refine Touch.setCell ?_ _ _ _ ?_) | (with_reducible refine Touch.step (by assumption) ?_) | (with_reducible refine Touch.stepT (by assumption) ?_ ?_) | (intro _; first | rfl | trivial | omega | (simp; done) | (simp; omega)) | (intro _ _; first | omega | (simp; done) | (simp; omega)))))⟩
  rw [if_neg h3]
  by_cases h2 : was = 2
  · subst h2
    rw [if_pos rfl]
    go_enter Try.func35, Try.ntmps35
    go_wp2_with (go_at_call 33; (with_reducible refine (r8_kernel _ _ _ _ h ok).mono ?_); rintro e w' ⟨rfl, hb2⟩)
    go_ret
    exact ⟨rfl, by (refine Touch.below0 ?_; (repeat' (first | (with_reducible exact Touch.refl _ _) | (with_reducible assumption) | (with_reducible refine Touch.drew ?_) | (with_reducible refine Touch.drewN ?_ _) | (with_reducible refine Touch.alloc ?_ _) | (with_reducible refine Touch.setCell ?_ _ _ _ ?_) | (with_reducible refine Touch.step (by assumption) ?_) | (with_reducible refine Touch.stepT (by assumption) ?_ ?_) | (intro _; first | rfl | trivial | omega | (simp; done) | (simp; omega)) | (intro _ _; first | omega | (simp; done) | (simp; omega)))))⟩
  rw [if_neg h2]
  by_cases h1 : was = 1
  · subst h1
    rw [if_pos rfl]
    go_enter Try.func35, Try.ntmps35
    go_wp2_with (go_at_call 34; (with_reducible refine (r8_user _ _ _ _ h ok).mono ?_); rintro e w' ⟨rfl, hb2⟩)
    go_ret
    exact ⟨rfl, by (refine Touch.below0 ?_; (repeat' (first | (with_reducible exact Touch.refl _ _) | (with_reducible assumption) | (with_reducible refine Touch.drew ?_) | (with_reducible refine Touch.drewN ?_ _) | (with_reducible refine Touch.alloc ?_ _) | (with_reducible refine Touch.setCell ?_ _ _ _ ?_) | (with_reducible refine Touch.step (by assumption) ?_) | (with_reducible refine Touch.stepT (by assumption) ?_ ?_) | (intro _; first | rfl | trivial | omega | (simp; done) | (simp; omega)) | (intro _ _; first | omega | (simp; done) | (simp; omega)))))⟩
  · rw [if_neg h1]
    have e0 : (was == 0) = false := by simp [h0]
    have e1 : (was == 1) = false := by simp [h1]
    have e2 : (was == 2) = false := by simp [h2]
    have e3 : (was == 3) = false := by simp [h3]
    clear h0 h1 h2 h3
    go_enter Try.func35, Try.ntmps35
    go_wp2
    go_ret
    exact ⟨rfl, Below.refl _ _⟩

theorem was_cases (was : Int) : was < 0 ∨ 3 < was ∨ was = 0 ∨ was = 1 ∨ was = 2 ∨ was = 3 := by omega

set_option maxHeartbeats 8000000 in
set_option maxRecDepth 100000 in
theorem r8_left (v : Nat) (c : Clk) (was t : Int) (w : World) (h : RClkAt w v c) (ok : c.Ok) :
    Calls Try.prog 32 #[.pointer (some ⟨v, 0, none⟩), .int .i64 was, .int .i64 t] w fun e w' => ∃ o,
      e = .returned o ∧ w'.ownsRow w.heap.size 3 1 o (c.left was t c.n.toNat).length (ivals (c.left was t c.n.toNat)) ∧ Below w.heap.size w w' := by
  obtain ⟨i0, hi, hz0, hz1, hz2⟩ := info_parts Try.infoInt
  have n4 := ok.n4; have n1 := h.n1
  go_enter Try.func32, Try.ntmps32
  go_upto_block 0 with (fail)
  go_cut [7] (fun o wr => wr.ownsRow w.heap.size 3 1 o (c.left was t c.n.toNat).length (ivals (c.left was t c.n.toNat)) ∧ Below w.heap.size w wr)
  case first =>
    go_wp2
    go_loopw [7, 8] (fun o i wr => ∃ k : Nat, k ≤ c.n.toNat ∧ i = .int .i64 k ∧ wr.ownsRow w.heap.size 3 1 o (c.left was t k).length (ivals (c.left was t k)) ∧ Below w.heap.size w wr) (fun _ i _ => c.n.toNat - (intOf i).toNat)
    case atStart => exact ⟨0, by omega, rfl, World.ownsRow_nil _ _ _ _, Below.refl _ _⟩
    case round =>
      obtain ⟨k, hk, rfl, ho, hbr⟩ := hrel
      have hr := h.after hbr
      obtain ⟨b1, b2, b3, c1, c2, c3, hr⟩ := hr
      obtain ⟨g0, g1, g2, g3⟩ := hr.cells
      by_cases hlt : k < c.n.toNat
      · have hlt' : (k : Int) < ((c.n.toNat : Nat) : Int) := by omega
        have z2 := hr.r2.at (ints_at (f := c.en) (n := c.n.toNat) hlt)
        have z3 := hr.r3.at (ints_at (f := c.fl) (n := c.n.toNat) hlt)
        have hle := Clk.left_le c was t k
        have hln : (c.left was t k).length < 1000000 := by omega
        have hbase : w.heap.size ≤ wr.heap.size := hbr.size
        have hsu := Lib.hid (c.left_succ was t k)
        have ev1 : c.entered k = c.en k := by rw [Clk.entered, if_pos (Acts.can_in (by omega) (by omega) (by omega))]; rfl
        have ev2 : c.flushed k = c.fl k := by rw [Clk.flushed, if_pos (Acts.can_in (by omega) (by omega) (by omega))]; rfl
        have hmiss : c.miss was t k = (!mustI was || mustK was && decide (c.en k ≤ t) || mustP was && decide (c.fl k ≤ t)) := by rw [Clk.miss_eq, ev1, ev2]
        have HMS := Lib.hid hmiss
        clear ev1 ev2 hmiss g0 hr
        (rcases was_cases was with hw | hw | hw | hw | hw | hw) <;> (by_cases d1 : c.en k ≤ t) <;> (by_cases d2 : c.fl k ≤ t)
        all_goals
          (try subst hw)
          go_wp2_with (at_builtin; refine wpList_append_one wr rfl _ _ 42 rfl 3 i0 (.int .i64 0) (.int .i64 k) 8 Try.underlying42 hi hz0 hz1 hz2 rfl (by decide) w.heap.size u7 _ _ rfl ho _ rfl rfl rfl hln hbase ?_; intro g cp w1 hn ht hl)
          go_roundw
          case rel =>
            first
              | (have htt : Touch (fun j => w.heap.size ≤ j) wr w1 := Touch.stepT ht ((Touch.refl _ _).alloc _) (fun i _ hi => (ho.lt i hi.symm).1)
                 refine ⟨k + 1, by omega, by go_num, ?_, below_touchB hbr htt hbr.size⟩
                 rw [hsu.out, HMS.out, if_pos (by first | (simp [mustI, mustK, mustP]; done) | (simp [mustI, mustK, mustP]; omega))]
                 simpa [ivals] using hn)
              | (refine ⟨k + 1, by omega, by go_num, ?_, hbr⟩
                 rw [hsu.out, HMS.out, if_neg (by first | (simp [mustI, mustK, mustP]; done) | (simp [mustI, mustK, mustP]; omega))]
                 simpa using ho)
          case measure => simp [intOf]; omega
      · have hge : ¬ (k : Int) < ((c.n.toNat : Nat) : Int) := by omega
        obtain rfl : k = c.n.toNat := by omega
        go_wp2
        go_meet
        exact ⟨ho, hbr⟩
  case rest =>
    obtain ⟨ho, hbr⟩ := hcut
    go_wp2
    go_ret
    exact ⟨_, rfl, ho, hbr⟩
end Go.Proofs.Ytalcifmojngddaa
