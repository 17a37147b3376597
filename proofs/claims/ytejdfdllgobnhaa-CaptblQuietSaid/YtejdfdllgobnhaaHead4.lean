/- A cleared frame with a head: Make. -/
import Derived.Test.YtejdfdllgobnhaaHead3
set_option linter.unusedVariables false
set_option linter.unusedSimpArgs false
namespace Go.Proofs.Ytejdfdllgobnhaa
open Go.RowKit

theorem MemS.clear_n (m : MemS) (f : Int) : (m.clear f).n = m.n := by unfold MemS.clear; split <;> rfl
theorem MemS.clear_ok' {m : MemS} (ok : m.Ok) (f : Int) : (m.clear f).Ok := by
  unfold MemS.clear
  split
  · refine ⟨ok.n1, ok.n64, fun g o => ?_, fun g o => ?_⟩
    · show 0 ≤ upd m.w f.toNat (fun _ => 0) g o
      have := ok.lo g o; unfold upd; split <;> (try dsimp only) <;> omega
    · show upd m.w f.toNat (fun _ => 0) g o < _
      have := ok.hi g o; unfold upd; split <;> (try dsimp only) <;> omega
  · exact ok
theorem headOk_clear (m : MemS) (f : Int) (h : HeadS) : headOk (m.clear f) f h = headOk m f h := by unfold headOk MemS.has; rw [MemS.clear_n]
def MemS.make (m : MemS) (f : Int) (h : HeadS) : MemS := if headOk m f h then (m.clear f).head f h else m
theorem clear_of (a g : Nat) (m : MemS) (f e : Int) (w : World) (h : MemIs w a g m) (ok : m.Ok) (he : m.can f 0 = e) : Calls Try.prog 54 #[.pointer (some ⟨a, 0, none⟩), .int .i64 f] w fun e' w' =>
    e' = .returned (.int .i64 e) ∧ MemIs w' a g (m.clear f) ∧ Touch (· = g) w w' := by subst he; exact mem_clear a g m f w h ok
set_option maxHeartbeats 1000000 in
theorem head_put1 (a g : Nat) (m : MemS) (f : Int) (hd : HeadS) (w : World) (h : MemIs w a g m) (ok : m.Ok) (p0 p1 p2 : Nat) (h0 : w.heap[p0]? = some (.cells #[.pointer (some ⟨a, 0, none⟩)] 34 (0, 0))) (h1 : w.heap[p1]? = some (.cells #[.int .i64 f] 3 (0, 0)))
    (h2 : w.heap[p2]? = some (.cells #[.int .i64 hd.k, .int .i64 hd.lv, .bool hd.fz, .int .i64 hd.tm] 113 (0, 0))) : Calls Try.prog 95 #[.pointer (some ⟨p0, 0, none⟩), .pointer (some ⟨p1, 0, none⟩), .pointer (some ⟨p2, 0, none⟩)] w fun e w' =>
    e = .returned (.int .i64 (if headOk m f hd then 0 else 1)) ∧ MemIs w' a g (m.head f hd) ∧ Touch (· = g) w w' := by
  have hP := fun w h => head_put a g m f hd w h ok
  generalize (if headOk m f hd then (0 : Int) else 1) = E at *
  generalize m.head f hd = M at *
  obtain ⟨k, lv, fz, tm⟩ := hd
  unfold HeadS.v at *
  dsimp only at *
  have c0 := cell_of h0 0; have c1 := cell_of h1 0
  have g0 := cell_of h2 0; have g1 := cell_of h2 1; have g2 := cell_of h2 2; have g3 := cell_of h2 3
  dsimp at c0 c1 g0 g1 g2 g3
  go_enter Try.func95, Try.ntmps95
  go_wp2_with ((go_at_call 78; (with_reducible refine (hP _ h).mono ?_); rintro e w' ⟨rfl, hm, ht⟩))
  go_ret
  exact ⟨rfl, hm, ht⟩
set_option maxHeartbeats 1000000 in
theorem head_make (a g : Nat) (m : MemS) (f : Int) (hd : HeadS) (w : World) (h : MemIs w a g m) (ok : m.Ok) : Calls Try.prog 67 #[.pointer (some ⟨a, 0, none⟩), .int .i64 f, hd.v] w fun e w' =>
    e = .returned (.int .i64 (if headOk m f hd then 0 else 1)) ∧ MemIs w' a g (m.make f hd) ∧ Touch (· = g) w w' := by
  have hR := head_right hd
  have hltg := h.ltg
  unfold MemS.make
  cases hr : hd.right
  · have e1 : headOk m f hd = false := by unfold headOk; rw [hr]; rfl
    simp only [e1, Bool.false_eq_true, if_false]
    rw [hr] at hR
    clear e1 hr
    obtain ⟨k, lv, fz, tm⟩ := hd
    unfold HeadS.v at *
    dsimp only at *
    have hw0 : Below w.heap.size w (((w.alloc (.cells #[.pointer (some ⟨a, 0, none⟩)] 34 (0, 0))).alloc (.cells #[.int .i64 f] 3 (0, 0))).alloc (.cells #[.int .i64 k, .int .i64 lv, .bool fz, .int .i64 tm] 113 (0, 0))) := by (refine Touch.below0 ?_; (repeat' (first | (with_reducible exact Touch.refl _ _) | (with_reducible assumption) | (with_reducible refine Touch.drew ?_) | (with_reducible refine Touch.drewN ?_ _) | (with_reducible refine Touch.alloc ?_ _) | (with_reducible refine Touch.setCell ?_ _ _ _ ?_) | (with_reducible refine Touch.step (by assumption) ?_) | (with_reducible refine Touch.stepT (by assumption) ?_ ?_) | (intro _; first | rfl | trivial | omega | (simp; done) | (simp; omega)) | (intro _ _; first | omega | (simp; done) | (simp; omega)))))
    go_enter Try.func67, Try.ntmps67
    go_wp2_with ((go_at_call 96; (with_reducible refine (hR _).mono ?_); rintro e w' ⟨rfl, hx⟩))
    go_ret
    have hb := hw0.trans (hx.mono hw0.size)
    exact ⟨rfl, h.after hb, Touch.of_below hb⟩
  rw [hr] at hR
  cases hf : m.has f
  · have e1 : headOk m f hd = false := by unfold headOk; rw [hr, hf]; rfl
    simp only [e1, Bool.false_eq_true, if_false]
    have L := fun w h => clear_of a g m f 1 w h ok (MemS.can_out hf)
    have hst : m.clear f = m := by rw [MemS.clear, MemS.can_out hf, if_neg (by decide)]
    rw [hst] at L
    clear e1 hr hf hst
    obtain ⟨k, lv, fz, tm⟩ := hd
    unfold HeadS.v at *
    dsimp only at *
    have hw0 : Below w.heap.size w (((w.alloc (.cells #[.pointer (some ⟨a, 0, none⟩)] 34 (0, 0))).alloc (.cells #[.int .i64 f] 3 (0, 0))).alloc (.cells #[.int .i64 k, .int .i64 lv, .bool fz, .int .i64 tm] 113 (0, 0))) := by (refine Touch.below0 ?_; (repeat' (first | (with_reducible exact Touch.refl _ _) | (with_reducible assumption) | (with_reducible refine Touch.drew ?_) | (with_reducible refine Touch.drewN ?_ _) | (with_reducible refine Touch.alloc ?_ _) | (with_reducible refine Touch.setCell ?_ _ _ _ ?_) | (with_reducible refine Touch.step (by assumption) ?_) | (with_reducible refine Touch.stepT (by assumption) ?_ ?_) | (intro _; first | rfl | trivial | omega | (simp; done) | (simp; omega)) | (intro _ _; first | omega | (simp; done) | (simp; omega)))))
    have a0 : (((w.alloc (.cells #[.pointer (some ⟨a, 0, none⟩)] 34 (0, 0))).alloc (.cells #[.int .i64 f] 3 (0, 0))).alloc (.cells #[.int .i64 k, .int .i64 lv, .bool fz, .int .i64 tm] 113 (0, 0))).heap[w.heap.size]? = some (.cells #[.pointer (some ⟨a, 0, none⟩)] 34 (0, 0)) := heap_alloc (heap_alloc (heap_new _ _) _) _
    have a1 : (((w.alloc (.cells #[.pointer (some ⟨a, 0, none⟩)] 34 (0, 0))).alloc (.cells #[.int .i64 f] 3 (0, 0))).alloc (.cells #[.int .i64 k, .int .i64 lv, .bool fz, .int .i64 tm] 113 (0, 0))).heap[w.heap.size + 1]? = some (.cells #[.int .i64 f] 3 (0, 0)) := heap_alloc (heap_new' (by simp) _) _
    go_enter Try.func67, Try.ntmps67
    go_wp2_with (first
      | ((go_at_call 96; (with_reducible refine (hR _).mono ?_); rintro e w' ⟨rfl, hx⟩); have hb := hw0.trans (hx.mono hw0.size); have h2 := h.after hb; have c0 := cell_of ((hx.block _ (lt_of_block a0)).trans a0) 0; have c1 := cell_of ((hx.block _ (lt_of_block a1)).trans a1) 0; dsimp at c0 c1)
      | ((go_at_call 54; (with_reducible refine (L _ h2).mono ?_); rintro e w' ⟨rfl, hm, ht⟩)))
    go_ret
    exact ⟨rfl, hm, (Touch.of_below hb).trans ht⟩
  · have e1 : headOk m f hd = true := by unfold headOk; rw [hr, hf]; rfl
    have L := fun w h => clear_of a g m f 0 w h ok (MemS.can_in hf (by decide) (by decide))
    have P := fun w h => head_put1 a g (m.clear f) f hd w h (MemS.clear_ok' ok f)
    rw [headOk_clear, e1] at P
    simp only [e1, if_true] at P ⊢
    generalize (m.clear f).head f hd = M2 at *
    generalize m.clear f = M1 at *
    clear e1 hr hf
    obtain ⟨k, lv, fz, tm⟩ := hd
    unfold HeadS.v at *
    dsimp only at *
    have hw0 : Below w.heap.size w (((w.alloc (.cells #[.pointer (some ⟨a, 0, none⟩)] 34 (0, 0))).alloc (.cells #[.int .i64 f] 3 (0, 0))).alloc (.cells #[.int .i64 k, .int .i64 lv, .bool fz, .int .i64 tm] 113 (0, 0))) := by (refine Touch.below0 ?_; (repeat' (first | (with_reducible exact Touch.refl _ _) | (with_reducible assumption) | (with_reducible refine Touch.drew ?_) | (with_reducible refine Touch.drewN ?_ _) | (with_reducible refine Touch.alloc ?_ _) | (with_reducible refine Touch.setCell ?_ _ _ _ ?_) | (with_reducible refine Touch.step (by assumption) ?_) | (with_reducible refine Touch.stepT (by assumption) ?_ ?_) | (intro _; first | rfl | trivial | omega | (simp; done) | (simp; omega)) | (intro _ _; first | omega | (simp; done) | (simp; omega)))))
    have a0 : (((w.alloc (.cells #[.pointer (some ⟨a, 0, none⟩)] 34 (0, 0))).alloc (.cells #[.int .i64 f] 3 (0, 0))).alloc (.cells #[.int .i64 k, .int .i64 lv, .bool fz, .int .i64 tm] 113 (0, 0))).heap[w.heap.size]? = some (.cells #[.pointer (some ⟨a, 0, none⟩)] 34 (0, 0)) := heap_alloc (heap_alloc (heap_new _ _) _) _
    have a1 : (((w.alloc (.cells #[.pointer (some ⟨a, 0, none⟩)] 34 (0, 0))).alloc (.cells #[.int .i64 f] 3 (0, 0))).alloc (.cells #[.int .i64 k, .int .i64 lv, .bool fz, .int .i64 tm] 113 (0, 0))).heap[w.heap.size + 1]? = some (.cells #[.int .i64 f] 3 (0, 0)) := heap_alloc (heap_new' (by simp) _) _
    have a2 : (((w.alloc (.cells #[.pointer (some ⟨a, 0, none⟩)] 34 (0, 0))).alloc (.cells #[.int .i64 f] 3 (0, 0))).alloc (.cells #[.int .i64 k, .int .i64 lv, .bool fz, .int .i64 tm] 113 (0, 0))).heap[w.heap.size + 1 + 1]? = some (.cells #[.int .i64 k, .int .i64 lv, .bool fz, .int .i64 tm] 113 (0, 0)) := heap_new' (by simp) _
    go_enter Try.func67, Try.ntmps67
    go_wp2_with (first
      | ((go_at_call 96; (with_reducible refine (hR _).mono ?_); rintro e w' ⟨rfl, hx⟩); have hb := hw0.trans (hx.mono hw0.size); have h2 := h.after hb; have b0 := (hx.block _ (lt_of_block a0)).trans a0; have b1 := (hx.block _ (lt_of_block a1)).trans a1; have b2 := (hx.block _ (lt_of_block a2)).trans a2; have c0 := cell_of b0 0; have c1 := cell_of b1 0; dsimp at c0 c1)
      | ((go_at_call 54; (with_reducible refine (L _ h2).mono ?_); rintro e w' ⟨rfl, h3, ht⟩); have d0 := ht.at b0 (by show ¬ w.heap.size = g; omega); have d1 := ht.at b1 (by show ¬ w.heap.size + 1 = g; omega); have d2 := ht.at b2 (by show ¬ w.heap.size + 1 + 1 = g; omega))
      | ((go_at_call 95; (with_reducible refine (P _ h3 _ _ _ d0 d1 d2).mono ?_); rintro e w' ⟨rfl, h4, ht2⟩)))
    go_ret
    exact ⟨rfl, h4, ((Touch.of_below hb).trans ht).trans ht2⟩
end Go.Proofs.Ytejdfdllgobnhaa
