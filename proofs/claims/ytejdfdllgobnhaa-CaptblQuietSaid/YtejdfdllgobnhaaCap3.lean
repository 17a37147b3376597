/- Capabilities out of words: Get. -/
import Derived.Test.YtejdfdllgobnhaaCap2
set_option linter.unusedVariables false
set_option linter.unusedSimpArgs false
namespace Go.Proofs.Ytejdfdllgobnhaa
open Go.RowKit

theorem wrap_i64_small {x : Int} (h0 : 0 ≤ x) (h1 : x < 9223372036854775808) : IntKind.i64.wrap x = x := by simp [IntKind.wrap, IntKind.bits, IntKind.signed]; omega
def CapS.zero : CapS := ⟨0, 0, 0, 0, 0, 0⟩
def CapS.ofW (v b : Int) : CapS := ⟨v % 16, v / 16 % 32, v / 512 % 64, v / 32768 % 64, v / 2097152 % 65536, b⟩
def okW (v b : Int) : Bool := decide (v < 137438953472) && decide (b ≤ 1073741824) && (CapS.ofW v b).right
def getC (v b : Int) : CapS := if okW v b then CapS.ofW v b else CapS.zero
def getE (v b : Int) : Int := if okW v b then 0 else 12
theorem CapS.w1_lt {c : CapS} (h : c.sized = true) : 0 ≤ c.w1 ∧ c.w1 < 137438953472 := by
  obtain ⟨h1, h2, h3, h4, h5, h6⟩ := CapS.sized_b h
  unfold CapS.w1; omega
theorem CapS.ofW_w1 {c : CapS} (h : c.sized = true) : CapS.ofW c.w1 c.a = c := by
  obtain ⟨h1, h2, h3, h4, h5, h6⟩ := CapS.sized_b h
  obtain ⟨k, r, t, l, e, a⟩ := c
  simp only [CapS.ofW, CapS.w1, CapS.mk.injEq]
  dsimp only at *
  refine ⟨?_, ?_, ?_, ?_, ?_, trivial⟩ <;> omega
theorem CapS.right_sized {c : CapS} (h : c.right = true) : c.sized = true := by unfold CapS.right at h; simp only [Bool.and_eq_true] at h; exact h.1
theorem getC_put {c : CapS} (h : c.right = true) : getC c.w1 c.a = c ∧ getE c.w1 c.a = 0 := by
  have hs := CapS.right_sized h
  obtain ⟨h1, h2, h3, h4, h5, h6⟩ := CapS.sized_b hs
  have e : okW c.w1 c.a = true := by
    unfold okW; rw [CapS.ofW_w1 hs, h, decide_eq_true (CapS.w1_lt hs).2, decide_eq_true (show c.a ≤ 1073741824 by omega)]; rfl
  unfold getC getE
  rw [e]
  exact ⟨CapS.ofW_w1 hs, rfl⟩

theorem cap_unpack_no (v : Int) (bn : Nat) (w : World) (h0 : 0 ≤ v) (h1 : v < 18446744073709551616) (hv : 137438953472 ≤ v) (hn : w.heap[bn]? = some (.cells #[.int .i64 4, .int .i64 5, .int .i64 6, .int .i64 6, .int .i64 16] 171 (0, 0))) :
    Calls Try.prog 116 #[.slice (some ⟨bn, 0, none⟩) 5 5, .int .u64 v] w fun e w' => e = .returned (.tuple #[.slice none 0 0, .int .i64 1]) ∧ Below w.heap.size w w' := by
  refine (cap_unpack v bn w h0 h1 hn).mono ?_
  rintro e w' ⟨hb, ⟨h, _⟩ | ⟨_, rfl⟩⟩
  · exact absurd h (by omega)
  · exact ⟨rfl, hb⟩
theorem cap_unpack_yes (v : Int) (bn : Nat) (w : World) (h0 : 0 ≤ v) (h1 : v < 18446744073709551616) (hv : v < 137438953472) (hn : w.heap[bn]? = some (.cells #[.int .i64 4, .int .i64 5, .int .i64 6, .int .i64 6, .int .i64 16] 171 (0, 0))) :
    Calls Try.prog 116 #[.slice (some ⟨bn, 0, none⟩) 5 5, .int .u64 v] w fun e w' => ∃ g cap, e = .returned (.tuple #[.slice (some ⟨g, 0, none⟩) 5 cap, .int .i64 0]) ∧ Below w.heap.size w w' ∧ w'.cell? ⟨g, 0, none⟩ = some (.int .u64 (v % 16)) ∧ w'.cell? ⟨g, 1, none⟩ = some (.int .u64 (v / 16 % 32)) ∧
        w'.cell? ⟨g, 2, none⟩ = some (.int .u64 (v / 512 % 64)) ∧ w'.cell? ⟨g, 3, none⟩ = some (.int .u64 (v / 32768 % 64)) ∧ w'.cell? ⟨g, 4, none⟩ = some (.int .u64 (v / 2097152 % 65536)) := by
  refine (cap_unpack v bn w h0 h1 hn).mono ?_
  rintro e w' ⟨hb, ⟨_, g, cap, he, _, hc⟩ | ⟨h, _⟩⟩
  · exact ⟨g, cap, he, hb, hc⟩
  · exact absurd hv h
set_option maxHeartbeats 4000000 in
set_option maxRecDepth 100000 in
theorem cap_get (v b : Int) (w : World) (h0 : 0 ≤ v) (h1 : v < 18446744073709551616) (b0 : 0 ≤ b) (b1 : b < 18446744073709551616) : Calls Try.prog 106 #[.int .u64 v, .int .u64 b] w fun e w' => e = .returned (.tuple #[(getC v b).v, .int .i64 (getE v b)]) ∧ Below w.heap.size w w' := by
  by_cases hv : v < 137438953472
  · by_cases hb : b ≤ 1073741824
    · have hA : getC v b = (if (CapS.ofW v b).right then CapS.ofW v b else CapS.zero) ∧ getE v b = (if (CapS.ofW v b).right then 0 else 12) := by
        unfold getC getE okW; rw [decide_eq_true hv, decide_eq_true hb]; simp
      rw [hA.1, hA.2]
      clear hA
      have hr := cap_right (CapS.ofW v b)
      unfold CapS.ofW CapS.v at hr
      dsimp only at hr
      generalize hcr : (CapS.ofW v b).right = cr at *
      have hcr2 : CapS.right ⟨v % 16, v / 16 % 32, v / 512 % 64, v / 32768 % 64, v / 2097152 % 65536, b⟩ = cr := hcr
      rw [hcr2] at hr
      clear hcr hcr2
      have hw0 : Below w.heap.size w (w.alloc (.cells #[.int .i64 0, .int .i64 0, .int .i64 0, .int .i64 0, .int .i64 0, .int .i64 0] 57 (0, 0))) := by (refine Touch.below0 ?_; (repeat' (first | (with_reducible exact Touch.refl _ _) | (with_reducible assumption) | (with_reducible refine Touch.drew ?_) | (with_reducible refine Touch.drewN ?_ _) | (with_reducible refine Touch.alloc ?_ _) | (with_reducible refine Touch.setCell ?_ _ _ _ ?_) | (with_reducible refine Touch.step (by assumption) ?_) | (with_reducible refine Touch.stepT (by assumption) ?_ ?_) | (intro _; first | rfl | trivial | omega | (simp; done) | (simp; omega)) | (intro _ _; first | omega | (simp; done) | (simp; omega)))))
      have hR : (w.alloc (.cells #[.int .i64 0, .int .i64 0, .int .i64 0, .int .i64 0, .int .i64 0, .int .i64 0] 57 (0, 0))).heap[w.heap.size]? = some (.cells #[.int .i64 0, .int .i64 0, .int .i64 0, .int .i64 0, .int .i64 0, .int .i64 0] 57 (0, 0)) := heap_new _ _
      go_enter Try.func106, Try.ntmps106
      go_upto_region 2 with ((go_at_call 111; (with_reducible refine (cap_widths _).mono ?_); rintro e w' ⟨rfl, hx⟩))
      have hR2 : (w'.alloc (.cells #[.int .i64 4, .int .i64 5, .int .i64 6, .int .i64 6, .int .i64 16] 171 (0, 0))).heap[w.heap.size]? = _ := heap_alloc ((hx.block _ (lt_of_block hR)).trans hR) _
      have hN : (w'.alloc (.cells #[.int .i64 4, .int .i64 5, .int .i64 6, .int .i64 6, .int .i64 16] 171 (0, 0))).heap[w'.heap.size]? = some (.cells #[.int .i64 4, .int .i64 5, .int .i64 6, .int .i64 6, .int .i64 16] 171 (0, 0)) := heap_new _ _
      have hw1 := hw0.trans (hx.mono hw0.size)
      have hw2 := hw1.alloc hw1.size (.cells #[.int .i64 4, .int .i64 5, .int .i64 6, .int .i64 6, .int .i64 16] 171 (0, 0))
      generalize w'.alloc (.cells #[.int .i64 4, .int .i64 5, .int .i64 6, .int .i64 6, .int .i64 16] 171 (0, 0)) = w2 at *
      generalize w'.heap.size = N at *
      go_upto_region 5 with ((go_at_call 116; (with_reducible refine (cap_unpack_yes v N _ h0 h1 hv hN).mono ?_); rintro e w' ⟨g, cap, rfl, hb3, q0, q1, q2, q3, q4⟩); have hR3 := (hb3.block _ (lt_of_block hR2)).trans hR2; have g0 := cell_of hR3 0; have g1 := cell_of hR3 1; have g2 := cell_of hR3 2; have g3 := cell_of hR3 3; have g4 := cell_of hR3 4; have g5 := cell_of hR3 5; have fr := frozen_of hR3; dsimp at g0 g1 g2 g3 g4 g5)
      obtain ⟨w3, rfl⟩ : ∃ y : World, y = w' := ⟨_, rfl⟩
      have hw3 := hw2.trans (hb3.mono hw2.size)
      have hg : g < w3.heap.size := lt_of_cell (a := ⟨g, 0, none⟩) q0
      have hgB : g ≠ w3.heap.size := by omega
      have P : ∀ obj o, (w3.alloc obj).cell? ⟨g, o, none⟩ = w3.cell? ⟨g, o, none⟩ := fun obj o => ((Below.refl w3.heap.size w3).alloc (Nat.le_refl _) obj).cell (p := ⟨g, o, none⟩) hg
      have v0 := wrap_i64_small (x := v % 16) (by omega) (by omega); have v1 := wrap_i64_small (x := v / 16 % 32) (by omega) (by omega); have v2 := wrap_i64_small (x := v / 512 % 64) (by omega) (by omega)
      have v3 := wrap_i64_small (x := v / 32768 % 64) (by omega) (by omega); have v4 := wrap_i64_small (x := v / 2097152 % 65536) (by omega) (by omega); have v5 := wrap_i64_small (x := b) (by omega) (by omega)
      have hwB : w.heap.size < w3.heap.size := lt_of_block hR3
      clear hR hR2 hw0 hw1 hw2 hx hN hb3
      go_cut [9] (fun x wr => ∃ C, x = .pointer (some ⟨C, 0, none⟩) ∧ wr.heap[C]? = some (.cells #[.int .i64 (v % 16), .int .i64 (v / 16 % 32), .int .i64 (v / 512 % 64), .int .i64 (v / 32768 % 64), .int .i64 (v / 2097152 % 65536), .int .i64 b] 57 (0, 0)) ∧ wr.heap[w.heap.size]? = some (.cells #[.int .i64 0, .int .i64 0, .int .i64 0, .int .i64 0, .int .i64 0, .int .i64 0] 57 (0, 0)) ∧ Below w.heap.size w wr)
      case first =>
        go_region_held3 (fun y => y.cell? ⟨g, 0, none⟩ = some (.int .u64 (v % 16)) ∧ y.cell? ⟨g, 1, none⟩ = some (.int .u64 (v / 16 % 32)) ∧ y.cell? ⟨g, 2, none⟩ = some (.int .u64 (v / 512 % 64)) ∧ y.cell? ⟨g, 3, none⟩ = some (.int .u64 (v / 32768 % 64)) ∧ y.cell? ⟨g, 4, none⟩ = some (.int .u64 (v / 2097152 % 65536))) ((simp only [cell_drew', cell_other hgB]; first | exact ⟨q0, q1, q2, q3, q4⟩ | exact ⟨(P _ _).trans q0, (P _ _).trans q1, (P _ _).trans q2, (P _ _).trans q3, (P _ _).trans q4⟩)) (fail)
        all_goals
          go_wp2
          go_meet
          exact ⟨w3.heap.size, rfl, heap_new _ _, heap_alloc hR3 _, (hw3.alloc hw3.size _).drew⟩
      case rest =>
        obtain ⟨C, rfl, hC, hR5, hw5⟩ := hcut
        have d0 := cell_of hC 0; have d1 := cell_of hC 1; have d2 := cell_of hC 2; have d3 := cell_of hC 3; have d4 := cell_of hC 4; have d5 := cell_of hC 5
        dsimp at d0 d1 d2 d3 d4 d5
        clear g0 g1 g2 g3 g4 g5 fr hR3
        cases cr
        · go_wp2_with ((go_at_call 101; (with_reducible refine (hr _).mono ?_); rintro e w' ⟨rfl, hb3⟩); have hR2 := hR5; have hR3 := (hb3.block _ (lt_of_block hR2)).trans hR2; have g0 := cell_of hR3 0; have g1 := cell_of hR3 1; have g2 := cell_of hR3 2; have g3 := cell_of hR3 3; have g4 := cell_of hR3 4; have g5 := cell_of hR3 5; have fr := frozen_of hR3; dsimp at g0 g1 g2 g3 g4 g5)
          have hw2 := hw5; have hR2 := hR5
          have hF := heap_set (o := 5) (heap_set (o := 4) (heap_set (o := 3) (heap_set (o := 2) (heap_set (o := 1) (heap_set (o := 0) hR3 (.int .i64 0)) (.int .i64 0)) (.int .i64 0)) (.int .i64 0)) (.int .i64 0)) (.int .i64 0)
          have hw3 := hw2.trans (hb3.mono hw2.size)
          refine bodyPost_ret (v := .tuple #[CapS.zero.v, .int .i64 12]) ?_ rfl ⟨rfl, ?_⟩
          · have hc := cell_of hF
            simp [results, Try.f106, go_sem, hc, CapS.zero, CapS.v]
          · exact (((((hw3.setCell (p := ⟨w.heap.size, 0, none⟩) (Nat.le_refl _) _).setCell (p := ⟨w.heap.size, 1, none⟩) (Nat.le_refl _) _).setCell (p := ⟨w.heap.size, 2, none⟩) (Nat.le_refl _) _).setCell (p := ⟨w.heap.size, 3, none⟩) (Nat.le_refl _) _).setCell (p := ⟨w.heap.size, 4, none⟩) (Nat.le_refl _) _).setCell (p := ⟨w.heap.size, 5, none⟩) (Nat.le_refl _) _
        · go_wp2_with ((go_at_call 101; (with_reducible refine (hr _).mono ?_); rintro e w' ⟨rfl, hb3⟩); have hR2 := hR5; have hR3 := (hb3.block _ (lt_of_block hR2)).trans hR2; have g0 := cell_of hR3 0; have g1 := cell_of hR3 1; have g2 := cell_of hR3 2; have g3 := cell_of hR3 3; have g4 := cell_of hR3 4; have g5 := cell_of hR3 5; have fr := frozen_of hR3; dsimp at g0 g1 g2 g3 g4 g5; have hC3 := (hb3.block _ (lt_of_block hC)).trans hC; have d0 := cell_of hC3 0; have d1 := cell_of hC3 1; have d2 := cell_of hC3 2; have d3 := cell_of hC3 3; have d4 := cell_of hC3 4; have d5 := cell_of hC3 5; dsimp at d0 d1 d2 d3 d4 d5)
          have hF := heap_set (o := 5) (heap_set (o := 4) (heap_set (o := 3) (heap_set (o := 2) (heap_set (o := 1) (heap_set (o := 0) hR3 (.int .i64 (v % 16))) (.int .i64 (v / 16 % 32))) (.int .i64 (v / 512 % 64))) (.int .i64 (v / 32768 % 64))) (.int .i64 (v / 2097152 % 65536))) (.int .i64 b)
          have hw3 := hw5.trans (hb3.mono hw5.size)
          refine bodyPost_ret (v := .tuple #[(CapS.ofW v b).v, .int .i64 0]) ?_ rfl ⟨rfl, ?_⟩
          · have hc := cell_of hF
            simp [results, Try.f106, go_sem, hc, CapS.ofW, CapS.v]
          · exact (((((hw3.setCell (p := ⟨w.heap.size, 0, none⟩) (Nat.le_refl _) _).setCell (p := ⟨w.heap.size, 1, none⟩) (Nat.le_refl _) _).setCell (p := ⟨w.heap.size, 2, none⟩) (Nat.le_refl _) _).setCell (p := ⟨w.heap.size, 3, none⟩) (Nat.le_refl _) _).setCell (p := ⟨w.heap.size, 4, none⟩) (Nat.le_refl _) _).setCell (p := ⟨w.heap.size, 5, none⟩) (Nat.le_refl _) _
    · have e : okW v b = false := by unfold okW; rw [decide_eq_false hb]; simp
      have ec : getC v b = CapS.zero := by unfold getC; rw [e]; rfl
      have ee : getE v b = 12 := by unfold getE; rw [e]; rfl
      rw [ec, ee]
      clear ec ee e
      have HB : 1073741824 < b := by omega
      clear hb
      have hw0 : Below w.heap.size w (w.alloc (.cells #[.int .i64 0, .int .i64 0, .int .i64 0, .int .i64 0, .int .i64 0, .int .i64 0] 57 (0, 0))) := by (refine Touch.below0 ?_; (repeat' (first | (with_reducible exact Touch.refl _ _) | (with_reducible assumption) | (with_reducible refine Touch.drew ?_) | (with_reducible refine Touch.drewN ?_ _) | (with_reducible refine Touch.alloc ?_ _) | (with_reducible refine Touch.setCell ?_ _ _ _ ?_) | (with_reducible refine Touch.step (by assumption) ?_) | (with_reducible refine Touch.stepT (by assumption) ?_ ?_) | (intro _; first | rfl | trivial | omega | (simp; done) | (simp; omega)) | (intro _ _; first | omega | (simp; done) | (simp; omega)))))
      have hR : (w.alloc (.cells #[.int .i64 0, .int .i64 0, .int .i64 0, .int .i64 0, .int .i64 0, .int .i64 0] 57 (0, 0))).heap[w.heap.size]? = some (.cells #[.int .i64 0, .int .i64 0, .int .i64 0, .int .i64 0, .int .i64 0, .int .i64 0] 57 (0, 0)) := heap_new _ _
      go_enter Try.func106, Try.ntmps106
      go_upto_region 2 with ((go_at_call 111; (with_reducible refine (cap_widths _).mono ?_); rintro e w' ⟨rfl, hx⟩))
      have hR2 : (w'.alloc (.cells #[.int .i64 4, .int .i64 5, .int .i64 6, .int .i64 6, .int .i64 16] 171 (0, 0))).heap[w.heap.size]? = _ := heap_alloc ((hx.block _ (lt_of_block hR)).trans hR) _
      have hN : (w'.alloc (.cells #[.int .i64 4, .int .i64 5, .int .i64 6, .int .i64 6, .int .i64 16] 171 (0, 0))).heap[w'.heap.size]? = some (.cells #[.int .i64 4, .int .i64 5, .int .i64 6, .int .i64 6, .int .i64 16] 171 (0, 0)) := heap_new _ _
      have hw1 := hw0.trans (hx.mono hw0.size)
      have hw2 := hw1.alloc hw1.size (.cells #[.int .i64 4, .int .i64 5, .int .i64 6, .int .i64 6, .int .i64 16] 171 (0, 0))
      generalize w'.alloc (.cells #[.int .i64 4, .int .i64 5, .int .i64 6, .int .i64 6, .int .i64 16] 171 (0, 0)) = w2 at *
      generalize w'.heap.size = N at *
      go_wp2_with ((go_at_call 116; (with_reducible refine (cap_unpack_yes v N _ h0 h1 hv hN).mono ?_); rintro e w' ⟨g, cap, rfl, hb3, q0, q1, q2, q3, q4⟩); have hR3 := (hb3.block _ (lt_of_block hR2)).trans hR2; have g0 := cell_of hR3 0; have g1 := cell_of hR3 1; have g2 := cell_of hR3 2; have g3 := cell_of hR3 3; have g4 := cell_of hR3 4; have g5 := cell_of hR3 5; have fr := frozen_of hR3; dsimp at g0 g1 g2 g3 g4 g5)
      have hF := heap_set (o := 5) (heap_set (o := 4) (heap_set (o := 3) (heap_set (o := 2) (heap_set (o := 1) (heap_set (o := 0) hR3 (.int .i64 0)) (.int .i64 0)) (.int .i64 0)) (.int .i64 0)) (.int .i64 0)) (.int .i64 0)
      have hw3 := hw2.trans (hb3.mono hw2.size)
      refine bodyPost_ret (v := .tuple #[CapS.zero.v, .int .i64 12]) ?_ rfl ⟨rfl, ?_⟩
      · have hc := cell_of hF
        simp [results, Try.f106, go_sem, hc, CapS.zero, CapS.v]
      · exact (((((hw3.setCell (p := ⟨w.heap.size, 0, none⟩) (Nat.le_refl _) _).setCell (p := ⟨w.heap.size, 1, none⟩) (Nat.le_refl _) _).setCell (p := ⟨w.heap.size, 2, none⟩) (Nat.le_refl _) _).setCell (p := ⟨w.heap.size, 3, none⟩) (Nat.le_refl _) _).setCell (p := ⟨w.heap.size, 4, none⟩) (Nat.le_refl _) _).setCell (p := ⟨w.heap.size, 5, none⟩) (Nat.le_refl _) _
  · have e : okW v b = false := by unfold okW; rw [decide_eq_false hv]; simp
    have ec : getC v b = CapS.zero := by unfold getC; rw [e]; rfl
    have ee : getE v b = 12 := by unfold getE; rw [e]; rfl
    rw [ec, ee]
    clear ec ee e
    have HV : 137438953472 ≤ v := by omega
    clear hv
    have hw0 : Below w.heap.size w (w.alloc (.cells #[.int .i64 0, .int .i64 0, .int .i64 0, .int .i64 0, .int .i64 0, .int .i64 0] 57 (0, 0))) := by (refine Touch.below0 ?_; (repeat' (first | (with_reducible exact Touch.refl _ _) | (with_reducible assumption) | (with_reducible refine Touch.drew ?_) | (with_reducible refine Touch.drewN ?_ _) | (with_reducible refine Touch.alloc ?_ _) | (with_reducible refine Touch.setCell ?_ _ _ _ ?_) | (with_reducible refine Touch.step (by assumption) ?_) | (with_reducible refine Touch.stepT (by assumption) ?_ ?_) | (intro _; first | rfl | trivial | omega | (simp; done) | (simp; omega)) | (intro _ _; first | omega | (simp; done) | (simp; omega)))))
    have hR : (w.alloc (.cells #[.int .i64 0, .int .i64 0, .int .i64 0, .int .i64 0, .int .i64 0, .int .i64 0] 57 (0, 0))).heap[w.heap.size]? = some (.cells #[.int .i64 0, .int .i64 0, .int .i64 0, .int .i64 0, .int .i64 0, .int .i64 0] 57 (0, 0)) := heap_new _ _
    go_enter Try.func106, Try.ntmps106
    go_upto_region 2 with ((go_at_call 111; (with_reducible refine (cap_widths _).mono ?_); rintro e w' ⟨rfl, hx⟩))
    have hR2 : (w'.alloc (.cells #[.int .i64 4, .int .i64 5, .int .i64 6, .int .i64 6, .int .i64 16] 171 (0, 0))).heap[w.heap.size]? = _ := heap_alloc ((hx.block _ (lt_of_block hR)).trans hR) _
    have hN : (w'.alloc (.cells #[.int .i64 4, .int .i64 5, .int .i64 6, .int .i64 6, .int .i64 16] 171 (0, 0))).heap[w'.heap.size]? = some (.cells #[.int .i64 4, .int .i64 5, .int .i64 6, .int .i64 6, .int .i64 16] 171 (0, 0)) := heap_new _ _
    have hw1 := hw0.trans (hx.mono hw0.size)
    have hw2 := hw1.alloc hw1.size (.cells #[.int .i64 4, .int .i64 5, .int .i64 6, .int .i64 6, .int .i64 16] 171 (0, 0))
    generalize w'.alloc (.cells #[.int .i64 4, .int .i64 5, .int .i64 6, .int .i64 6, .int .i64 16] 171 (0, 0)) = w2 at *
    generalize w'.heap.size = N at *
    go_wp2_with ((go_at_call 116; (with_reducible refine (cap_unpack_no v N _ h0 h1 HV hN).mono ?_); rintro e w' ⟨rfl, hb3⟩); have hR3 := (hb3.block _ (lt_of_block hR2)).trans hR2; have g0 := cell_of hR3 0; have g1 := cell_of hR3 1; have g2 := cell_of hR3 2; have g3 := cell_of hR3 3; have g4 := cell_of hR3 4; have g5 := cell_of hR3 5; have fr := frozen_of hR3; dsimp at g0 g1 g2 g3 g4 g5)
    have hF := heap_set (o := 5) (heap_set (o := 4) (heap_set (o := 3) (heap_set (o := 2) (heap_set (o := 1) (heap_set (o := 0) hR3 (.int .i64 0)) (.int .i64 0)) (.int .i64 0)) (.int .i64 0)) (.int .i64 0)) (.int .i64 0)
    have hw3 := hw2.trans (hb3.mono hw2.size)
    refine bodyPost_ret (v := .tuple #[CapS.zero.v, .int .i64 12]) ?_ rfl ⟨rfl, ?_⟩
    · have hc := cell_of hF
      simp [results, Try.f106, go_sem, hc, CapS.zero, CapS.v]
    · exact (((((hw3.setCell (p := ⟨w.heap.size, 0, none⟩) (Nat.le_refl _) _).setCell (p := ⟨w.heap.size, 1, none⟩) (Nat.le_refl _) _).setCell (p := ⟨w.heap.size, 2, none⟩) (Nat.le_refl _) _).setCell (p := ⟨w.heap.size, 3, none⟩) (Nat.le_refl _) _).setCell (p := ⟨w.heap.size, 4, none⟩) (Nat.le_refl _) _).setCell (p := ⟨w.heap.size, 5, none⟩) (Nat.le_refl _) _
end Go.Proofs.Ytejdfdllgobnhaa
