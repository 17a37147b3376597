/- The head of a frame (head.Get). -/
import Derived.Test.YtmahledpcpdldaaGreatHeadOf
set_option linter.unusedVariables false
set_option linter.unusedSimpArgs false
namespace Go.Proofs.YtmahledpcpdldaaGreat
open Go.RowKit

def hdPre (m : MemS) (f : Int) : Bool := decide (m.wd f 0 < 64) && decide (m.wd f 1 ≤ 1073741824) && decide (m.wd f 2 = 0) && decide (m.wd f 3 = 0)
def hdOk (m : MemS) (f : Int) : Bool := m.has f && hdPre m f && (HeadS.ofW (m.wd f 0) (m.wd f 1)).right
def hdC (m : MemS) (f : Int) : HeadS := if hdOk m f then HeadS.ofW (m.wd f 0) (m.wd f 1) else HeadS.zero
def hdE (m : MemS) (f : Int) : Int := if m.has f then (if hdOk m f then 0 else 12) else 1

theorem of_any (b : Nat) (x0 x1 x2 x3 : Int) (w : World) (h0 : 0 ≤ x0) (h1 : x0 < 18446744073709551616) (p0 : 0 ≤ x1) (hb : b < w.heap.size) (q0 : w.cell? ⟨b, 0, none⟩ = some (.int .u64 x0)) (q1 : w.cell? ⟨b, 1, none⟩ = some (.int .u64 x1))
    (q2 : w.cell? ⟨b, 2, none⟩ = some (.int .u64 x2)) (q3 : w.cell? ⟨b, 3, none⟩ = some (.int .u64 x3)) :
    Calls Tryz.prog 238 #[.slice (some ⟨b, 0, none⟩) 36 36] w fun e w' => (∃ C : HeadS, e = .returned (.tuple #[C.v, .bool (decide (x0 < 64) && decide (x1 ≤ 1073741824) && decide (x2 = 0) && decide (x3 = 0) && (HeadS.ofW x0 x1).right)]) ∧
      ((decide (x0 < 64) && decide (x1 ≤ 1073741824) && decide (x2 = 0) && decide (x3 = 0) && (HeadS.ofW x0 x1).right) = true → C = HeadS.ofW x0 x1)) ∧ Below w.heap.size w w' := by
  by_cases hx : x0 < 64
  · refine (of_yes0 b x0 x1 x2 x3 w h0 hx p0 hb q0 q1 q2 q3).mono ?_
    rintro e w' ⟨rfl, hB⟩
    refine ⟨?_, hB⟩
    by_cases hc : x1 ≤ 1073741824 ∧ x2 = 0 ∧ x3 = 0
    · refine ⟨HeadS.ofW x0 x1, ?_, fun _ => rfl⟩
      rw [if_pos hc, if_pos hc, decide_eq_true hx, decide_eq_true hc.1, decide_eq_true hc.2.1, decide_eq_true hc.2.2]
      rfl
    · have e : (decide (x0 < 64) && decide (x1 ≤ 1073741824) && decide (x2 = 0) && decide (x3 = 0) && (HeadS.ofW x0 x1).right) = false := by
        rw [Bool.eq_false_iff]; intro h; simp at h; exact hc ⟨h.1.1.1.2, h.1.1.2, h.1.2⟩
      refine ⟨HeadS.zero, ?_, fun h => by rw [e] at h; cases h⟩
      rw [if_neg hc, if_neg hc, e]
  · refine (of_no0 b x0 w h0 h1 hb q0 (by omega)).mono ?_
    rintro e w' ⟨rfl, hB⟩
    have e : (decide (x0 < 64) && decide (x1 ≤ 1073741824) && decide (x2 = 0) && decide (x3 = 0) && (HeadS.ofW x0 x1).right) = false := by rw [decide_eq_false hx]; rfl
    exact ⟨⟨HeadS.zero, by rw [e], fun h => by rw [e] at h; cases h⟩, hB⟩
set_option maxHeartbeats 1000000 in
set_option maxRecDepth 100000 in
theorem head_get (a g : Nat) (m : MemS) (f : Int) (w : World) (h : MemIs w a g m) (ok : m.Ok) : Calls Tryz.prog 164 #[.pointer (some ⟨a, 0, none⟩), .int .i64 f] w fun e w' =>
    e = .returned (.tuple #[(hdC m f).v, .int .i64 (hdE m f)]) ∧ Below w.heap.size w w' := by
  have hw0 : Below w.heap.size w (w.alloc (.cells #[.int .i64 0, .int .i64 0, .bool false, .int .i64 0] 192 (0, 0))) := by (refine Touch.below0 ?_; (repeat' (first | (with_reducible exact Touch.refl _ _) | (with_reducible assumption) | (with_reducible refine Touch.drew ?_) | (with_reducible refine Touch.drewN ?_ _) | (with_reducible refine Touch.alloc ?_ _) | (with_reducible refine Touch.setCell ?_ _ _ _ ?_) | (with_reducible refine Touch.step (by assumption) ?_) | (with_reducible refine Touch.stepT (by assumption) ?_ ?_) | (intro _; first | rfl | trivial | omega | (simp; done) | (simp; omega)) | (intro _ _; first | omega | (simp; done) | (simp; omega)))))
  have hR : (w.alloc (.cells #[.int .i64 0, .int .i64 0, .bool false, .int .i64 0] 192 (0, 0))).heap[w.heap.size]? = some (.cells #[.int .i64 0, .int .i64 0, .bool false, .int .i64 0] 192 (0, 0)) := heap_new _ _
  have h1 := h.after hw0
  cases hf : m.has f
  · have e0 : hdOk m f = false := by unfold hdOk; rw [hf]; rfl
    have e1 : hdC m f = HeadS.zero := by unfold hdC; rw [e0]; rfl
    have e2 : hdE m f = 1 := by unfold hdE; rw [hf]; rfl
    rw [e1, e2]
    have W := fun w h => words_no a g m f w h ok hf
    clear e0 e1 e2 hf
    go_enter Tryz.func164, Tryz.ntmps164
    go_wp2_with ((go_at_call 188; (with_reducible refine (W _ h1).mono ?_); rintro e w' ⟨rfl, hx⟩); have hR2 := (hx.block _ (lt_of_block hR)).trans hR; have hw2 := hw0.trans (hx.mono hw0.size); have g0 := cell_of hR2 0; have g1 := cell_of hR2 1; have g2 := cell_of hR2 2; have g3 := cell_of hR2 3; have fr := frozen_of hR2; dsimp at g0 g1 g2 g3)
    have hF := heap_set (o := 3) (heap_set (o := 2) (heap_set (o := 1) (heap_set (o := 0) hR2 (.int .i64 0)) (.int .i64 0)) (.bool false)) (.int .i64 0)
    refine bodyPost_ret (v := .tuple #[HeadS.zero.v, .int .i64 1]) ?_ rfl ⟨rfl, ?_⟩
    · have hc := cell_of hF
      simp [results, Tryz.f164, go_sem, hc, HeadS.zero, HeadS.v]
    · exact (((hw2.setCell (p := ⟨w.heap.size, 0, none⟩) (Nat.le_refl _) _).setCell (p := ⟨w.heap.size, 1, none⟩) (Nat.le_refl _) _).setCell (p := ⟨w.heap.size, 2, none⟩) (Nat.le_refl _) _).setCell (p := ⟨w.heap.size, 3, none⟩) (Nat.le_refl _) _
  · obtain ⟨f0, f1⟩ := inB_iff.1 hf
    obtain ⟨F, rfl⟩ : ∃ F : Nat, f = F := ⟨f.toNat, by omega⟩
    have W := fun w h => words_yes a g m F w h ok (by omega)
    have lo := fun o => ok.lo F o
    have hi := fun o => ok.hi F o
    have e0 : hdOk m F = (decide (m.w F 0 < 64) && decide (m.w F 1 ≤ 1073741824) && decide (m.w F 2 = 0) && decide (m.w F 3 = 0) && (HeadS.ofW (m.w F 0) (m.w F 1)).right) := by unfold hdOk; rw [hf]; rfl
    have e2 : hdE m F = if hdOk m F then 0 else 12 := by unfold hdE; rw [hf]; rfl
    have e1 : hdC m F = if hdOk m F then HeadS.ofW (m.w F 0) (m.w F 1) else HeadS.zero := rfl
    rw [e1, e2]
    have OF := fun b w hb q0 q1 q2 q3 => of_any b (m.w F 0) (m.w F 1) (m.w F 2) (m.w F 3) w (lo 0) (hi 0) (lo 1) hb q0 q1 q2 q3
    rw [← e0] at OF
    clear hf f0 f1 e0 e1 e2 lo hi
    cases hk : hdOk m F
    · rw [hk] at OF
      simp only [Bool.false_eq_true, if_false]
      clear hk
      go_enter Tryz.func164, Tryz.ntmps164
      go_wp2_with (first
        | ((go_at_call 188; (with_reducible refine (W _ h1).mono ?_); rintro e w' ⟨b, rfl, hbl, hbs, hc, hx⟩); have hR2 := (hx.block _ (lt_of_block hR)).trans hR; have hw2 := hw0.trans (hx.mono hw0.size); have u0 := hc 0 (by decide); have u1 := hc 1 (by decide); have u2 := hc 2 (by decide); have u3 := hc 3 (by decide))
        | ((go_at_call 238; (with_reducible refine (OF _ _ hbs u0 u1 u2 u3).mono ?_); rintro e w' ⟨⟨C, rfl, _⟩, hx⟩); have hR3 := (hx.block _ (lt_of_block hR2)).trans hR2; have hw3 := hw2.trans (hx.mono hw2.size); have g0 := cell_of hR3 0; have g1 := cell_of hR3 1; have g2 := cell_of hR3 2; have g3 := cell_of hR3 3; have fr := frozen_of hR3; dsimp at g0 g1 g2 g3; have hRl := lt_of_block hR3; obtain ⟨ck, cl, cf, ct⟩ := C; unfold HeadS.v))
      have hF := heap_alloc (heap_set (o := 3) (heap_set (o := 2) (heap_set (o := 1) (heap_set (o := 0) hR3 (.int .i64 0)) (.int .i64 0)) (.bool false)) (.int .i64 0)) (.cells #[.int .i64 ck, .int .i64 cl, .bool cf, .int .i64 ct] 192 (0, 0))
      have hwA := (((hw3.setCell (p := ⟨w.heap.size, 0, none⟩) (Nat.le_refl _) (.int .i64 0)).setCell (p := ⟨w.heap.size, 1, none⟩) (Nat.le_refl _) (.int .i64 0)).setCell (p := ⟨w.heap.size, 2, none⟩) (Nat.le_refl _) (.bool false)).setCell (p := ⟨w.heap.size, 3, none⟩) (Nat.le_refl _) (.int .i64 0)
      refine bodyPost_ret (v := .tuple #[HeadS.zero.v, .int .i64 12]) ?_ rfl ⟨rfl, ?_⟩
      · have hc := cell_of hF
        simp [results, Tryz.f164, go_sem, hc, HeadS.zero, HeadS.v]
      · exact hwA.alloc hwA.size _
    · rw [hk] at OF
      have OF2 : ∀ (b : Nat) (w : World), b < w.heap.size → w.cell? ⟨b, 0, none⟩ = some (.int .u64 (m.w F 0)) → w.cell? ⟨b, 1, none⟩ = some (.int .u64 (m.w F 1)) → w.cell? ⟨b, 2, none⟩ = some (.int .u64 (m.w F 2)) → w.cell? ⟨b, 3, none⟩ = some (.int .u64 (m.w F 3)) →
          Calls Tryz.prog 238 #[.slice (some ⟨b, 0, none⟩) 36 36] w fun e w' => e = .returned (.tuple #[(HeadS.ofW (m.w F 0) (m.w F 1)).v, .bool true]) ∧ Below w.heap.size w w' := fun b w h0 h1 h2 h3 h4 =>
        (OF b w h0 h1 h2 h3 h4).mono fun e w' ⟨⟨C, he, hC⟩, hB⟩ => ⟨by rw [he, hC rfl], hB⟩
      simp only [if_true]
      generalize HeadS.ofW (m.w F 0) (m.w F 1) = C at *
      obtain ⟨ck, cl, cf, ct⟩ := C
      unfold HeadS.v at *
      dsimp only at *
      clear hk OF
      go_enter Tryz.func164, Tryz.ntmps164
      go_wp2_with (first
        | ((go_at_call 188; (with_reducible refine (W _ h1).mono ?_); rintro e w' ⟨b, rfl, hbl, hbs, hc, hx⟩); have hR2 := (hx.block _ (lt_of_block hR)).trans hR; have hw2 := hw0.trans (hx.mono hw0.size); have u0 := hc 0 (by decide); have u1 := hc 1 (by decide); have u2 := hc 2 (by decide); have u3 := hc 3 (by decide))
        | ((go_at_call 238; (with_reducible refine (OF2 _ _ hbs u0 u1 u2 u3).mono ?_); rintro e w' ⟨rfl, hx⟩); have hR3 := (hx.block _ (lt_of_block hR2)).trans hR2; have hw3 := hw2.trans (hx.mono hw2.size); have g0 := cell_of hR3 0; have g1 := cell_of hR3 1; have g2 := cell_of hR3 2; have g3 := cell_of hR3 3; have fr := frozen_of hR3; dsimp at g0 g1 g2 g3; have hRl := lt_of_block hR3))
      have hF := heap_alloc (heap_set (o := 3) (heap_set (o := 2) (heap_set (o := 1) (heap_set (o := 0) hR3 (.int .i64 ck)) (.int .i64 cl)) (.bool cf)) (.int .i64 ct)) (.cells #[.int .i64 ck, .int .i64 cl, .bool cf, .int .i64 ct] 192 (0, 0))
      have hwA := (((hw3.setCell (p := ⟨w.heap.size, 0, none⟩) (Nat.le_refl _) (.int .i64 ck)).setCell (p := ⟨w.heap.size, 1, none⟩) (Nat.le_refl _) (.int .i64 cl)).setCell (p := ⟨w.heap.size, 2, none⟩) (Nat.le_refl _) (.bool cf)).setCell (p := ⟨w.heap.size, 3, none⟩) (Nat.le_refl _) (.int .i64 ct)
      refine bodyPost_ret (v := .tuple #[.agg #[.int .i64 ck, .int .i64 cl, .bool cf, .int .i64 ct], .int .i64 0]) ?_ rfl ⟨rfl, ?_⟩
      · have hc := cell_of hF
        simp [results, Tryz.f164, go_sem, hc, HeadS.zero, HeadS.v]
      · exact hwA.alloc hwA.size _
end Go.Proofs.YtmahledpcpdldaaGreat
