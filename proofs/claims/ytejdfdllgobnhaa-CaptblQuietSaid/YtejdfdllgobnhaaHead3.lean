/- A head into a frame: Put, Make. -/
import Derived.Test.YtejdfdllgobnhaaHead2
set_option linter.unusedVariables false
set_option linter.unusedSimpArgs false
namespace Go.Proofs.Ytejdfdllgobnhaa
open Go.RowKit

def HeadS.wk (h : HeadS) : Nat → Int
  | 0 => h.w0
  | 1 => h.tm
  | _ => 0
def MemS.hk (m : MemS) (f : Int) (h : HeadS) : Nat → MemS
  | 0 => m
  | k + 1 => (m.hk f h k).store f k (h.wk k)
theorem MemS.hk_n (m : MemS) (f : Int) (h : HeadS) : ∀ k, (m.hk f h k).n = m.n
  | 0 => rfl
  | k + 1 => by unfold MemS.hk; rw [MemS.store_n, MemS.hk_n]
theorem HeadS.w0_b {h : HeadS} (hr : h.right = true) : 0 ≤ h.w0 ∧ h.w0 < 64 := by
  obtain ⟨h1, h2, h3⟩ := HeadS.bounds hr
  unfold HeadS.w0; split <;> omega
theorem HeadS.wk_b {h : HeadS} (hr : h.right = true) : ∀ k, 0 ≤ h.wk k ∧ h.wk k < 18446744073709551616 := by
  obtain ⟨h1, h2, h3⟩ := HeadS.bounds hr
  have := HeadS.w0_b hr
  intro k
  match k with
  | 0 => exact ⟨by show 0 ≤ h.w0; omega, by show h.w0 < _; omega⟩
  | 1 => exact ⟨by show 0 ≤ h.tm; omega, by show h.tm < _; omega⟩
  | k + 2 => exact ⟨Int.le_refl _, by show (0 : Int) < _; omega⟩
theorem MemS.hk_ok {m : MemS} (ok : m.Ok) (f : Int) {h : HeadS} (hr : h.right = true) : ∀ k, (m.hk f h k).Ok
  | 0 => ok
  | k + 1 => MemS.store_ok (MemS.hk_ok ok f hr k) _ _ (HeadS.wk_b hr k).1 (HeadS.wk_b hr k).2
def headOk (m : MemS) (f : Int) (h : HeadS) : Bool := h.right && m.has f
def MemS.head (m : MemS) (f : Int) (h : HeadS) : MemS := if headOk m f h then m.hk f h 4 else m

theorem Try.idx0 (a b c d : Int) (w : World) : (Instr.index 166 (.agg #[.int .u64 a, .int .u64 b, .int .u64 c, .int .u64 d]) (.int .i64 0)).run Try.prog w = .ok (.int .u64 a) w := by kernel_rfl
theorem Try.idx1 (a b c d : Int) (w : World) : (Instr.index 166 (.agg #[.int .u64 a, .int .u64 b, .int .u64 c, .int .u64 d]) (.int .i64 1)).run Try.prog w = .ok (.int .u64 b) w := by kernel_rfl
theorem Try.idx2 (a b c d : Int) (w : World) : (Instr.index 166 (.agg #[.int .u64 a, .int .u64 b, .int .u64 c, .int .u64 d]) (.int .i64 2)).run Try.prog w = .ok (.int .u64 c) w := by kernel_rfl
theorem Try.idx3 (a b c d : Int) (w : World) : (Instr.index 166 (.agg #[.int .u64 a, .int .u64 b, .int .u64 c, .int .u64 d]) (.int .i64 3)).run Try.prog w = .ok (.int .u64 d) w := by kernel_rfl
attribute [local go_sem] Try.idx0 Try.idx1 Try.idx2 Try.idx3
set_option maxHeartbeats 1000000 in
set_option maxRecDepth 100000 in
theorem head_put (a g : Nat) (m : MemS) (f : Int) (hd : HeadS) (w : World) (h : MemIs w a g m) (ok : m.Ok) : Calls Try.prog 78 #[.pointer (some ⟨a, 0, none⟩), .int .i64 f, hd.v] w fun e w' =>
    e = .returned (.int .i64 (if headOk m f hd then 0 else 1)) ∧ MemIs w' a g (m.head f hd) ∧ Touch (· = g) w w' := by
  have hR := head_right hd
  unfold MemS.head
  cases hr : hd.right
  · have e1 : headOk m f hd = false := by unfold headOk; rw [hr]; rfl
    simp only [e1, Bool.false_eq_true, if_false]
    rw [hr] at hR
    clear e1 hr
    obtain ⟨k, lv, fz, tm⟩ := hd
    unfold HeadS.v at *
    dsimp only at *
    have hw0 : Below w.heap.size w (w.alloc (.cells #[.int .i64 k, .int .i64 lv, .bool fz, .int .i64 tm] 113 (0, 0))) := by (refine Touch.below0 ?_; (repeat' (first | (with_reducible exact Touch.refl _ _) | (with_reducible assumption) | (with_reducible refine Touch.drew ?_) | (with_reducible refine Touch.drewN ?_ _) | (with_reducible refine Touch.alloc ?_ _) | (with_reducible refine Touch.setCell ?_ _ _ _ ?_) | (with_reducible refine Touch.step (by assumption) ?_) | (with_reducible refine Touch.stepT (by assumption) ?_ ?_) | (intro _; first | rfl | trivial | omega | (simp; done) | (simp; omega)) | (intro _ _; first | omega | (simp; done) | (simp; omega)))))
    go_enter Try.func78, Try.ntmps78
    go_wp2_with ((go_at_call 96; (with_reducible refine (hR _).mono ?_); rintro e w' ⟨rfl, hx⟩))
    go_ret
    have hb := hw0.trans (hx.mono hw0.size)
    exact ⟨rfl, h.after hb, Touch.of_below hb⟩
  rw [hr] at hR
  have hW := fun w => head_words hd w hr
  have hok := MemS.hk_ok ok f hr
  cases hf : m.has f
  · have e1 : headOk m f hd = false := by unfold headOk; rw [hr, hf]; rfl
    simp only [e1, Bool.false_eq_true, if_false]
    have L := fun x i w h => store_of a g m f i x 1 w h ok (MemS.can_out hf)
    have hst : ∀ i x, m.store f i x = m := fun i x => by rw [MemS.store, MemS.can_out hf, if_neg (by decide)]
    have HS := Lib.hid hst
    clear e1 hr hf hst hok
    generalize hd.w0 = W0 at *
    obtain ⟨k, lv, fz, tm⟩ := hd
    unfold HeadS.v at *
    dsimp only at *
    have hw0 : Below w.heap.size w (w.alloc (.cells #[.int .i64 k, .int .i64 lv, .bool fz, .int .i64 tm] 113 (0, 0))) := by (refine Touch.below0 ?_; (repeat' (first | (with_reducible exact Touch.refl _ _) | (with_reducible assumption) | (with_reducible refine Touch.drew ?_) | (with_reducible refine Touch.drewN ?_ _) | (with_reducible refine Touch.alloc ?_ _) | (with_reducible refine Touch.setCell ?_ _ _ _ ?_) | (with_reducible refine Touch.step (by assumption) ?_) | (with_reducible refine Touch.stepT (by assumption) ?_ ?_) | (intro _; first | rfl | trivial | omega | (simp; done) | (simp; omega)) | (intro _ _; first | omega | (simp; done) | (simp; omega)))))
    have hp0 : (w.alloc (.cells #[.int .i64 k, .int .i64 lv, .bool fz, .int .i64 tm] 113 (0, 0))).heap[w.heap.size]? = some (.cells #[.int .i64 k, .int .i64 lv, .bool fz, .int .i64 tm] 113 (0, 0)) := heap_new _ _
    go_enter Try.func78, Try.ntmps78
    go_upto_block 0 with (first
      | ((go_at_call 96; (with_reducible refine (hR _).mono ?_); rintro e w' ⟨rfl, hx⟩); have hw1 := hw0.trans (hx.mono hw0.size); have hp1 := (hx.block _ (lt_of_block hp0)).trans hp0; have g0 := cell_of hp1 0; have g1 := cell_of hp1 1; have g2 := cell_of hp1 2; have g3 := cell_of hp1 3; dsimp at g0 g1 g2 g3)
      | ((go_at_call 105; (with_reducible refine (hW _).mono ?_); rintro e w' ⟨rfl, hx⟩); have hw2 := hw1.trans (hx.mono hw1.size)))
    obtain ⟨w2, rfl⟩ : ∃ y : World, y = w' := ⟨_, rfl⟩
    have h2 := h.after hw2
    clear g0 g1 g2 g3 hp1 hp0 hx
    go_wp2
    go_loopw [18] (fun i wr => i = .int .i64 0 ∧ wr = w2) (fun _ _ => 0)
    case atStart => exact ⟨rfl, rfl⟩
    case round =>
      obtain ⟨rfl, rfl⟩ := hrel
      go_wp2_with ((go_at_call 13; (with_reducible refine (L _ _ _ h2).mono ?_); rintro e w' ⟨rfl, hm, ht⟩); rw [HS.out] at hm)
      go_ret
      exact ⟨rfl, hm, (Touch.of_below hw2).trans ht⟩
  · have e1 : headOk m f hd = true := by unfold headOk; rw [hr, hf]; rfl
    simp only [e1, if_true]
    have hcan : ∀ (k : Nat) (i : Int), 0 ≤ i → i < 36 → (m.hk f hd k).can f i = 0 := fun k i h0 h1 => MemS.can_in (by unfold MemS.has; rw [MemS.hk_n]; exact hf) h0 h1
    have L0 := fun w h => store_of a g (m.hk f hd 0) f 0 hd.w0 0 w h (hok 0) (hcan 0 0 (by decide) (by decide))
    have L1 := fun w h => store_of a g (m.hk f hd 1) f 1 hd.tm 0 w h (hok 1) (hcan 1 1 (by decide) (by decide))
    have L2 := fun w h => store_of a g (m.hk f hd 2) f 2 0 0 w h (hok 2) (hcan 2 2 (by decide) (by decide))
    have L3 := fun w h => store_of a g (m.hk f hd 3) f 3 0 0 w h (hok 3) (hcan 3 3 (by decide) (by decide))
    obtain ⟨M, hM⟩ : ∃ M : Nat → MemS, M = m.hk f hd := ⟨_, rfl⟩
    have N0 : ∀ {w}, MemIs w a g ((M 0).store f 0 hd.w0) → MemIs w a g (M 1) := fun h => by rw [hM] at h ⊢; exact h
    have N1 : ∀ {w}, MemIs w a g ((M 1).store f 1 hd.tm) → MemIs w a g (M 2) := fun h => by rw [hM] at h ⊢; exact h
    have N2 : ∀ {w}, MemIs w a g ((M 2).store f 2 0) → MemIs w a g (M 3) := fun h => by rw [hM] at h ⊢; exact h
    have N3 : ∀ {w}, MemIs w a g ((M 3).store f 3 0) → MemIs w a g (M 4) := fun h => by rw [hM] at h ⊢; exact h
    have hM0 : MemIs w a g (M 0) := by rw [hM]; exact h
    rw [← hM] at L0 L1 L2 L3 ⊢
    clear e1 hr hf hok hcan hM h
    generalize hd.w0 = W0 at *
    obtain ⟨k, lv, fz, tm⟩ := hd
    unfold HeadS.v at *
    dsimp only at *
    have hw0 : Below w.heap.size w (w.alloc (.cells #[.int .i64 k, .int .i64 lv, .bool fz, .int .i64 tm] 113 (0, 0))) := by (refine Touch.below0 ?_; (repeat' (first | (with_reducible exact Touch.refl _ _) | (with_reducible assumption) | (with_reducible refine Touch.drew ?_) | (with_reducible refine Touch.drewN ?_ _) | (with_reducible refine Touch.alloc ?_ _) | (with_reducible refine Touch.setCell ?_ _ _ _ ?_) | (with_reducible refine Touch.step (by assumption) ?_) | (with_reducible refine Touch.stepT (by assumption) ?_ ?_) | (intro _; first | rfl | trivial | omega | (simp; done) | (simp; omega)) | (intro _ _; first | omega | (simp; done) | (simp; omega)))))
    have hp0 : (w.alloc (.cells #[.int .i64 k, .int .i64 lv, .bool fz, .int .i64 tm] 113 (0, 0))).heap[w.heap.size]? = some (.cells #[.int .i64 k, .int .i64 lv, .bool fz, .int .i64 tm] 113 (0, 0)) := heap_new _ _
    go_enter Try.func78, Try.ntmps78
    go_upto_block 0 with (first
      | ((go_at_call 96; (with_reducible refine (hR _).mono ?_); rintro e w' ⟨rfl, hx⟩); have hw1 := hw0.trans (hx.mono hw0.size); have hp1 := (hx.block _ (lt_of_block hp0)).trans hp0; have g0 := cell_of hp1 0; have g1 := cell_of hp1 1; have g2 := cell_of hp1 2; have g3 := cell_of hp1 3; dsimp at g0 g1 g2 g3)
      | ((go_at_call 105; (with_reducible refine (hW _).mono ?_); rintro e w' ⟨rfl, hx⟩); have hw2 := hw1.trans (hx.mono hw1.size)))
    obtain ⟨w2, rfl⟩ : ∃ y : World, y = w' := ⟨_, rfl⟩
    have h2 := hM0.after hw2
    have ht2 : Touch (· = g) w w2 := Touch.of_below hw2
    clear g0 g1 g2 g3 hp1 hp0 hx hM0 hw0 hw1 hw2
    go_wp2
    go_loopw [18] (fun i wr => ∃ k : Nat, k ≤ 4 ∧ i = .int .i64 k ∧ MemIs wr a g (M k) ∧ Touch (· = g) w wr) (fun i _ => 4 - (intOf i).toNat)
    case atStart => exact ⟨0, by omega, rfl, h2, ht2⟩
    case round =>
      obtain ⟨k, hk, rfl, hm, ht⟩ := hrel
      clear h2 ht2
      match k, hk with
      | 0, _ =>
        go_wp2_with ((go_at_call 13; (with_reducible refine (L0 _ hm).mono ?_); rintro e w' ⟨rfl, hm2, ht2⟩))
        go_roundw
        case rel => exact ⟨1, by omega, rfl, N0 hm2, ht.trans ht2⟩
        case measure => decide
      | 1, _ =>
        go_wp2_with ((go_at_call 13; (with_reducible refine (L1 _ hm).mono ?_); rintro e w' ⟨rfl, hm2, ht2⟩))
        go_roundw
        case rel => exact ⟨2, by omega, rfl, N1 hm2, ht.trans ht2⟩
        case measure => decide
      | 2, _ =>
        go_wp2_with ((go_at_call 13; (with_reducible refine (L2 _ hm).mono ?_); rintro e w' ⟨rfl, hm2, ht2⟩))
        go_roundw
        case rel => exact ⟨3, by omega, rfl, N2 hm2, ht.trans ht2⟩
        case measure => decide
      | 3, _ =>
        go_wp2_with ((go_at_call 13; (with_reducible refine (L3 _ hm).mono ?_); rintro e w' ⟨rfl, hm2, ht2⟩))
        go_roundw
        case rel => exact ⟨4, by omega, rfl, N3 hm2, ht.trans ht2⟩
        case measure => decide
      | 4, _ =>
        go_wp2
        go_ret
        exact ⟨rfl, hm, ht⟩
      | k + 5, hk => omega
end Go.Proofs.Ytejdfdllgobnhaa
