/- Several texts in one: Slot, Slot2. -/
import Derived.Test.YtmahledpcpdldaaGreatGCap
import Derived.Test.YtmahledpcpdldaaGreatMem2
/- Slot -/
set_option linter.unusedVariables false
set_option linter.unusedSimpArgs false
namespace Go.Proofs.YtmahledpcpdldaaGreat
open Go.RowKit

theorem slot_is (i : Int) (w : World) : Calls Tryz.prog 206 #[.int .i64 i] w fun e w' => e = .returned (.bool (inB i 16)) ∧ w = w' := by
  by_cases h : i < 0
  · have e : inB i 16 = false := by simp [inB]; omega
    rw [e]; clear e
    go_enter Tryz.func206, Tryz.ntmps206
    go_wp2
    go_ret
    exact ⟨rfl, rfl⟩
  · have e : inB i 16 = decide (i < 16) := by simp [inB]; omega
    rw [e]; clear e
    go_enter Tryz.func206, Tryz.ntmps206
    go_wp2
    go_ret
    exact ⟨rfl, rfl⟩
theorem slot_at (i : Int) (w : World) (h0 : 0 ≤ i) (h1 : i < 16) : Calls Tryz.prog 208 #[.int .i64 i] w fun e w' => e = .returned (.int .i64 (4 + 2 * i)) ∧ w = w' := by
  go_enter Tryz.func208, Tryz.ntmps208
  go_wp2
  go_ret
  exact ⟨rfl, rfl⟩
theorem radix_in (n m : Int) (w : World) : Calls Tryz.prog 291 #[.int .i64 n, .int .i64 m] w fun e w' => e = .returned (.bool (inB n m)) ∧ w = w' := by
  by_cases h : n < 0
  · have e : inB n m = false := by simp [inB]; omega
    rw [e]; clear e
    go_enter Tryz.func291, Tryz.ntmps291
    go_wp2
    go_ret
    exact ⟨rfl, rfl⟩
  · have e : inB n m = decide (n < m) := by simp [inB]; omega
    rw [e]; clear e
    go_enter Tryz.func291, Tryz.ntmps291
    go_wp2
    go_ret
    exact ⟨rfl, rfl⟩
theorem radix_cut (n : Int) (w : World) (h0 : 0 ≤ n) (h1 : n < 256) : Calls Tryz.prog 292 #[.int .i64 n, .int .i64 16] w fun e w' => e = .returned (.tuple #[.int .i64 (n / 16), .int .i64 (n % 16)]) ∧ Below w.heap.size w w' := by
  go_enter Tryz.func292, Tryz.ntmps292
  go_wp2
  (refine wp_region_calm (by kernel_rfl) (by kernel_rfl) ?_; (repeat (go_big_quiet_step ((fail)))); refine wpQuiet_nil ?_; intro _ hw'; obtain ⟨wq, hw''⟩ := hw'; subst hw''; obtain ⟨wq, hbq⟩ := wq; try dsimp only at *)
  go_wp2
  go_ret2
  exact ⟨rfl, hbq⟩
theorem radix_slot (n : Int) (w : World) : Calls Tryz.prog 262 #[.int .i64 n] w fun e w' => e = .returned (.tuple #[.int .i64 (if inB n 256 then n / 16 else 0), .int .i64 (if inB n 256 then n % 16 else 0), .int .i64 (if inB n 256 then 0 else 1)]) ∧ Below w.heap.size w w' := by
  cases hb : inB n 256
  · have HB := Lib.hid hb
    clear hb
    go_enter Tryz.func262, Tryz.ntmps262
    go_wp2_with ((go_at_call 291; (with_reducible refine (radix_in _ _ _).mono ?_); rintro e w' ⟨rfl, rfl⟩); rw [HB.out])
    go_ret3
    exact ⟨rfl, Below.refl _ _⟩
  · obtain ⟨h0, h1⟩ := inB_iff.1 hb
    have HB := Lib.hid hb
    clear hb
    go_enter Tryz.func262, Tryz.ntmps262
    go_wp2_with (first | ((go_at_call 291; (with_reducible refine (radix_in _ _ _).mono ?_); rintro e w' ⟨rfl, rfl⟩); rw [HB.out]) | (go_at_call 292; (with_reducible refine (radix_cut _ _ h0 h1).mono ?_); rintro e w' ⟨rfl, hx⟩))
    go_ret3
    exact ⟨rfl, hx⟩

/-- Is there such a frame? -/
def MemS.has (m : MemS) (f : Int) : Bool := inB f m.n
theorem MemS.can_in {m : MemS} {f a : Int} (hf : m.has f = true) (h0 : 0 ≤ a) (h1 : a < 36) : m.can f a = 0 := by
  obtain ⟨f0, f1⟩ := inB_iff.1 hf
  unfold MemS.can; rw [if_neg (by omega), if_neg (by omega), if_neg (by omega), if_neg (by omega)]
theorem MemS.can_out {m : MemS} {f a : Int} (hf : m.has f = false) : m.can f a = 1 := by
  have : ¬ (0 ≤ f ∧ f < m.n) := fun h => by rw [MemS.has, inB_iff.2 h] at hf; cases hf
  unfold MemS.can
  split
  · rfl
  · rw [if_pos (by omega)]
def MemS.wd (m : MemS) (f a : Int) : Int := m.w f.toNat a.toNat
def slotC (m : MemS) (f i : Int) : CapS := if inB i 16 && m.has f then getC (m.wd f (4 + 2 * i)) (m.wd f (4 + 2 * i + 1)) else CapS.zero
def slotE (m : MemS) (f i : Int) : Int := if inB i 16 && m.has f then getE (m.wd f (4 + 2 * i)) (m.wd f (4 + 2 * i + 1)) else 1

theorem load_of (a g : Nat) (m : MemS) (f i x e : Int) (w : World) (h : MemIs w a g m) (ok : m.Ok) (hx : m.load f i = x) (he : m.can f i = e) : Calls Tryz.prog 222 #[.pointer (some ⟨a, 0, none⟩), .int .i64 f, .int .i64 i] w fun e' w' => e' = .returned (.tuple #[.int .u64 x, .int .i64 e]) ∧ Below w.heap.size w w' := by
  subst hx; subst he; exact mem_load a g m f i w h ok
theorem MemS.load_in {m : MemS} {f a : Int} (hf : m.has f = true) (h0 : 0 ≤ a) (h1 : a < 36) : m.load f a = m.wd f a := by rw [MemS.load, if_pos (MemS.can_in hf h0 h1)]; rfl
theorem MemS.load_out {m : MemS} {f a : Int} (hf : m.has f = false) : m.load f a = 0 := by rw [MemS.load, MemS.can_out hf, if_neg (by decide)]
set_option maxHeartbeats 4000000 in
theorem slot_get (a g : Nat) (m : MemS) (f i : Int) (w : World) (h : MemIs w a g m) (ok : m.Ok) : Calls Tryz.prog 204 #[.pointer (some ⟨a, 0, none⟩), .int .i64 f, .int .i64 i] w fun e w' =>
    e = .returned (.tuple #[(slotC m f i).v, .int .i64 (slotE m f i)]) ∧ Below w.heap.size w w' := by
  have hw0 : Below w.heap.size w (w.alloc (.cells #[.int .i64 0, .int .i64 0, .int .i64 0, .int .i64 0, .int .i64 0, .int .i64 0] 38 (0, 0))) := by (refine Touch.below0 ?_; (repeat' (first | (with_reducible exact Touch.refl _ _) | (with_reducible assumption) | (with_reducible refine Touch.drew ?_) | (with_reducible refine Touch.drewN ?_ _) | (with_reducible refine Touch.alloc ?_ _) | (with_reducible refine Touch.setCell ?_ _ _ _ ?_) | (with_reducible refine Touch.step (by assumption) ?_) | (with_reducible refine Touch.stepT (by assumption) ?_ ?_) | (intro _; first | rfl | trivial | omega | (simp; done) | (simp; omega)) | (intro _ _; first | omega | (simp; done) | (simp; omega)))))
  have hR : (w.alloc (.cells #[.int .i64 0, .int .i64 0, .int .i64 0, .int .i64 0, .int .i64 0, .int .i64 0] 38 (0, 0))).heap[w.heap.size]? = some (.cells #[.int .i64 0, .int .i64 0, .int .i64 0, .int .i64 0, .int .i64 0, .int .i64 0] 38 (0, 0)) := heap_new _ _
  have h1 := h.after hw0
  cases hi : inB i 16
  · have e1 : slotC m f i = CapS.zero := by unfold slotC; rw [hi]; rfl
    have e2 : slotE m f i = 1 := by unfold slotE; rw [hi]; rfl
    rw [e1, e2]
    have HI := Lib.hid hi
    clear hi e1 e2
    go_enter Tryz.func204, Tryz.ntmps204
    go_wp2_with ((go_at_call 206; (with_reducible refine (slot_is _ _).mono ?_); rintro e w' ⟨rfl, rfl⟩); rw [HI.out])
    refine bodyPost_ret (v := .tuple #[CapS.zero.v, .int .i64 1]) ?_ rfl ⟨rfl, hw0⟩
    have hc := cell_of hR
    simp [results, Tryz.f204, go_sem, hc, CapS.zero, CapS.v]
  obtain ⟨i0, i1⟩ := inB_iff.1 hi
  cases hf : m.has f
  · have e1 : slotC m f i = CapS.zero := by unfold slotC; rw [hi, hf]; rfl
    have e2 : slotE m f i = 1 := by unfold slotE; rw [hi, hf]; rfl
    rw [e1, e2]
    have l1 := MemS.load_out (a := 4 + 2 * i) hf
    have l2 := MemS.can_out (a := 4 + 2 * i) hf
    have L := fun w h => load_of a g m f (4 + 2 * i) 0 1 w h ok l1 l2
    have HI := Lib.hid hi
    clear hi hf e1 e2 l1 l2
    go_enter Tryz.func204, Tryz.ntmps204
    go_wp2_with (first
      | ((go_at_call 206; (with_reducible refine (slot_is _ _).mono ?_); rintro e w' ⟨rfl, rfl⟩); rw [HI.out])
      | (go_at_call 208; (with_reducible refine (slot_at _ _ i0 i1).mono ?_); rintro e w' ⟨rfl, rfl⟩)
      | ((go_at_call 222; (with_reducible refine (L _ h1).mono ?_); rintro e w' ⟨rfl, hx⟩); have hR3 := (hx.block _ (lt_of_block hR)).trans hR; have g0 := cell_of hR3 0; have g1 := cell_of hR3 1; have g2 := cell_of hR3 2; have g3 := cell_of hR3 3; have g4 := cell_of hR3 4; have g5 := cell_of hR3 5; have fr := frozen_of hR3; dsimp at g0 g1 g2 g3 g4 g5))
    have hF := heap_set (o := 5) (heap_set (o := 4) (heap_set (o := 3) (heap_set (o := 2) (heap_set (o := 1) (heap_set (o := 0) hR3 (.int .i64 0)) (.int .i64 0)) (.int .i64 0)) (.int .i64 0)) (.int .i64 0)) (.int .i64 0)
    have hwF := Below.trans hw0 (Below.mono hx (Below.size hw0))
    refine bodyPost_ret (v := .tuple #[CapS.zero.v, .int .i64 1]) ?_ rfl ⟨rfl, ?_⟩
    · have hc := cell_of hF
      simp [results, Tryz.f204, go_sem, hc, CapS.zero, CapS.v]
    · exact (((((hwF.setCell (p := ⟨w.heap.size, 0, none⟩) (Nat.le_refl _) _).setCell (p := ⟨w.heap.size, 1, none⟩) (Nat.le_refl _) _).setCell (p := ⟨w.heap.size, 2, none⟩) (Nat.le_refl _) _).setCell (p := ⟨w.heap.size, 3, none⟩) (Nat.le_refl _) _).setCell (p := ⟨w.heap.size, 4, none⟩) (Nat.le_refl _) _).setCell (p := ⟨w.heap.size, 5, none⟩) (Nat.le_refl _) _
  · have e1 : slotC m f i = getC (m.wd f (4 + 2 * i)) (m.wd f (4 + 2 * i + 1)) := by unfold slotC; rw [hi, hf]; rfl
    have e2 : slotE m f i = getE (m.wd f (4 + 2 * i)) (m.wd f (4 + 2 * i + 1)) := by unfold slotE; rw [hi, hf]; rfl
    rw [e1, e2]
    have L1 := fun w h => load_of a g m f (4 + 2 * i) _ 0 w h ok (MemS.load_in (a := 4 + 2 * i) hf (by omega) (by omega)) (MemS.can_in (a := 4 + 2 * i) hf (by omega) (by omega))
    have L2 := fun w h => load_of a g m f (4 + 2 * i + 1) _ 0 w h ok (MemS.load_in (a := 4 + 2 * i + 1) hf (by omega) (by omega)) (MemS.can_in (a := 4 + 2 * i + 1) hf (by omega) (by omega))
    have HI := Lib.hid hi
    have b0 := ok.lo f.toNat (4 + 2 * i).toNat; have b1 := ok.hi f.toNat (4 + 2 * i).toNat
    have b2 := ok.lo f.toNat (4 + 2 * i + 1).toNat; have b3 := ok.hi f.toNat (4 + 2 * i + 1).toNat
    have hG := fun w => cap_get (m.wd f (4 + 2 * i)) (m.wd f (4 + 2 * i + 1)) w b0 b1 b2 b3
    clear hi hf e1 e2 b0 b1 b2 b3
    generalize m.wd f (4 + 2 * i) = x1 at *
    generalize m.wd f (4 + 2 * i + 1) = x2 at *
    generalize getC x1 x2 = C at *
    generalize getE x1 x2 = E at *
    obtain ⟨ck, cr, ct, cl, ce, ca⟩ := C
    unfold CapS.v at *
    dsimp only at *
    go_enter Tryz.func204, Tryz.ntmps204
    go_wp2_with (first
      | ((go_at_call 206; (with_reducible refine (slot_is _ _).mono ?_); rintro e w' ⟨rfl, rfl⟩); rw [HI.out])
      | (go_at_call 208; (with_reducible refine (slot_at _ _ i0 i1).mono ?_); rintro e w' ⟨rfl, rfl⟩)
      | ((go_at_call 222; (with_reducible refine (L1 _ h1).mono ?_); rintro e w' ⟨rfl, hx⟩); have h2 := h1.after hx; have hR2 := (hx.block _ (lt_of_block hR)).trans hR; have hw2 := hw0.trans (hx.mono hw0.size))
      | ((go_at_call 222; (with_reducible refine (L2 _ h2).mono ?_); rintro e w' ⟨rfl, hx⟩); have h3 := h2.after hx; have hR3 := (hx.block _ (lt_of_block hR2)).trans hR2; have hw3 := hw2.trans (hx.mono hw2.size))
      | ((go_at_call 255; (with_reducible refine (hG _).mono ?_); rintro e w' ⟨rfl, hx⟩); have hR4 := (hx.block _ (lt_of_block hR3)).trans hR3; have g0 := cell_of hR4 0; have g1 := cell_of hR4 1; have g2 := cell_of hR4 2; have g3 := cell_of hR4 3; have g4 := cell_of hR4 4; have g5 := cell_of hR4 5; have fr := frozen_of hR4; dsimp at g0 g1 g2 g3 g4 g5))
    have hF := heap_set (o := 5) (heap_set (o := 4) (heap_set (o := 3) (heap_set (o := 2) (heap_set (o := 1) (heap_set (o := 0) hR4 (.int .i64 ck)) (.int .i64 cr)) (.int .i64 ct)) (.int .i64 cl)) (.int .i64 ce)) (.int .i64 ca)
    have hwF := Below.trans hw3 (Below.mono hx (Below.size hw3))
    refine bodyPost_ret (v := .tuple #[.agg #[.int .i64 ck, .int .i64 cr, .int .i64 ct, .int .i64 cl, .int .i64 ce, .int .i64 ca], .int .i64 E]) ?_ rfl ⟨rfl, ?_⟩
    · have hc := cell_of hF
      simp [results, Tryz.f204, go_sem, hc, CapS.zero, CapS.v]
    · exact (((((hwF.setCell (p := ⟨w.heap.size, 0, none⟩) (Nat.le_refl _) _).setCell (p := ⟨w.heap.size, 1, none⟩) (Nat.le_refl _) _).setCell (p := ⟨w.heap.size, 2, none⟩) (Nat.le_refl _) _).setCell (p := ⟨w.heap.size, 3, none⟩) (Nat.le_refl _) _).setCell (p := ⟨w.heap.size, 4, none⟩) (Nat.le_refl _) _).setCell (p := ⟨w.heap.size, 5, none⟩) (Nat.le_refl _) _
end Go.Proofs.YtmahledpcpdldaaGreat
/- Slot2 -/
set_option linter.unusedVariables false
set_option linter.unusedSimpArgs false
namespace Go.Proofs.YtmahledpcpdldaaGreat
open Go.RowKit

def putOk (m : MemS) (f i : Int) (c : CapS) : Bool := inB i 16 && c.right && m.has f
def MemS.slot (m : MemS) (f i : Int) (c : CapS) : MemS := if putOk m f i c then (m.store f (4 + 2 * i) c.w1).store f (4 + 2 * i + 1) c.a else m
theorem MemS.store_n (m : MemS) (f a x : Int) : (m.store f a x).n = m.n := by unfold MemS.store; split <;> rfl
theorem MemS.store_ok {m : MemS} (ok : m.Ok) (f a : Int) {x : Int} (h0 : 0 ≤ x) (h1 : x < 18446744073709551616) : (m.store f a x).Ok := by
  unfold MemS.store
  split
  · refine ⟨ok.n1, ok.n64, fun g o => ?_, fun g o => ?_⟩
    · show 0 ≤ upd m.w f.toNat (upd (m.w f.toNat) a.toNat x) g o
      have := ok.lo g o; have := ok.lo f.toNat o
      unfold upd; split
      · dsimp only; split <;> omega
      · omega
    · show upd m.w f.toNat (upd (m.w f.toNat) a.toNat x) g o < _
      have := ok.hi g o; have := ok.hi f.toNat o
      unfold upd; split
      · dsimp only; split <;> omega
      · omega
  · exact ok
theorem MemS.has_store (m : MemS) (f a x f' : Int) : (m.store f a x).has f' = m.has f' := by unfold MemS.has; rw [MemS.store_n]
theorem store_of (a g : Nat) (m : MemS) (f i x e : Int) (w : World) (h : MemIs w a g m) (ok : m.Ok) (he : m.can f i = e) : Calls Tryz.prog 88 #[.pointer (some ⟨a, 0, none⟩), .int .i64 f, .int .i64 i, .int .u64 x] w fun e' w' =>
    e' = .returned (.int .i64 e) ∧ MemIs w' a g (m.store f i x) ∧ Touch (· = g) w w' := by
  subst he; exact mem_store a g m f i x w h ok
set_option maxHeartbeats 4000000 in
theorem slot_put (a g : Nat) (m : MemS) (f i : Int) (c : CapS) (w : World) (h : MemIs w a g m) (ok : m.Ok) : Calls Tryz.prog 119 #[.pointer (some ⟨a, 0, none⟩), .int .i64 f, .int .i64 i, c.v] w fun e w' =>
    e = .returned (.int .i64 (if putOk m f i c then 0 else 1)) ∧ MemIs w' a g (m.slot f i c) ∧ Touch (· = g) w w' := by
  have hP := cap_put c
  unfold MemS.slot
  cases hi : inB i 16
  · have e1 : putOk m f i c = false := by unfold putOk; rw [hi]; rfl
    simp only [e1, Bool.false_eq_true, if_false]
    have HI := Lib.hid hi
    clear hi e1
    obtain ⟨ck, cr, ct, cl, ce, ca⟩ := c
    unfold CapS.v
    dsimp only
    go_enter Tryz.func119, Tryz.ntmps119
    go_wp2_with ((go_at_call 206; (with_reducible refine (slot_is _ _).mono ?_); rintro e w' ⟨rfl, rfl⟩); rw [HI.out])
    go_ret
    exact ⟨rfl, h.after (by (refine Touch.below0 ?_; (repeat' (first | (with_reducible exact Touch.refl _ _) | (with_reducible assumption) | (with_reducible refine Touch.drew ?_) | (with_reducible refine Touch.drewN ?_ _) | (with_reducible refine Touch.alloc ?_ _) | (with_reducible refine Touch.setCell ?_ _ _ _ ?_) | (with_reducible refine Touch.step (by assumption) ?_) | (with_reducible refine Touch.stepT (by assumption) ?_ ?_) | (intro _; first | rfl | trivial | omega | (simp; done) | (simp; omega)) | (intro _ _; first | omega | (simp; done) | (simp; omega)))))), by (repeat' (first | (with_reducible exact Touch.refl _ _) | (with_reducible assumption) | (with_reducible refine Touch.drew ?_) | (with_reducible refine Touch.drewN ?_ _) | (with_reducible refine Touch.alloc ?_ _) | (with_reducible refine Touch.setCell ?_ _ _ _ ?_) | (with_reducible refine Touch.step (by assumption) ?_) | (with_reducible refine Touch.stepT (by assumption) ?_ ?_) | (intro _; first | rfl | trivial | omega | (simp; done) | (simp; omega)) | (intro _ _; first | omega | (simp; done) | (simp; omega))))⟩
  obtain ⟨i0, i1⟩ := inB_iff.1 hi
  cases hr : c.right
  · have e1 : putOk m f i c = false := by unfold putOk; rw [hi, hr]; rfl
    simp only [e1, Bool.false_eq_true, if_false]
    rw [hr] at hP
    have HI := Lib.hid hi
    clear hi e1 hr
    obtain ⟨ck, cr, ct, cl, ce, ca⟩ := c
    unfold CapS.v at *
    dsimp only at *
    have hw0 : Below w.heap.size w (w.alloc (.cells #[.int .i64 ck, .int .i64 cr, .int .i64 ct, .int .i64 cl, .int .i64 ce, .int .i64 ca] 38 (0, 0))) := by (refine Touch.below0 ?_; (repeat' (first | (with_reducible exact Touch.refl _ _) | (with_reducible assumption) | (with_reducible refine Touch.drew ?_) | (with_reducible refine Touch.drewN ?_ _) | (with_reducible refine Touch.alloc ?_ _) | (with_reducible refine Touch.setCell ?_ _ _ _ ?_) | (with_reducible refine Touch.step (by assumption) ?_) | (with_reducible refine Touch.stepT (by assumption) ?_ ?_) | (intro _; first | rfl | trivial | omega | (simp; done) | (simp; omega)) | (intro _ _; first | omega | (simp; done) | (simp; omega)))))
    go_enter Tryz.func119, Tryz.ntmps119
    go_wp2_with (first
      | ((go_at_call 206; (with_reducible refine (slot_is _ _).mono ?_); rintro e w' ⟨rfl, rfl⟩); rw [HI.out])
      | (go_at_call 207; (with_reducible refine (hP _).mono ?_); rintro e w' ⟨rfl, hx⟩))
    go_ret
    have hb := hw0.trans (hx.mono hw0.size)
    exact ⟨rfl, h.after hb, Touch.of_below hb⟩
  rw [hr] at hP
  have hw1 := CapS.w1_lt (CapS.right_sized hr)
  have hca := (CapS.sized_b (CapS.right_sized hr)).2.2.2.2.2
  cases hf : m.has f
  · have e1 : putOk m f i c = false := by unfold putOk; rw [hi, hr, hf]; rfl
    simp only [e1, Bool.false_eq_true, if_false]
    have L := fun x w h => store_of a g m f (4 + 2 * i) x 1 w h ok (MemS.can_out hf)
    have hst : ∀ x, m.store f (4 + 2 * i) x = m := fun x => by rw [MemS.store, MemS.can_out hf, if_neg (by decide)]
    have HS := Lib.hid hst
    have HI := Lib.hid hi
    clear hi e1 hr hf hst hw1 hca
    generalize c.w1 = W1 at *
    obtain ⟨ck, cr, ct, cl, ce, ca⟩ := c
    unfold CapS.v at *
    dsimp only at *
    have hw0 : Below w.heap.size w (w.alloc (.cells #[.int .i64 ck, .int .i64 cr, .int .i64 ct, .int .i64 cl, .int .i64 ce, .int .i64 ca] 38 (0, 0))) := by (refine Touch.below0 ?_; (repeat' (first | (with_reducible exact Touch.refl _ _) | (with_reducible assumption) | (with_reducible refine Touch.drew ?_) | (with_reducible refine Touch.drewN ?_ _) | (with_reducible refine Touch.alloc ?_ _) | (with_reducible refine Touch.setCell ?_ _ _ _ ?_) | (with_reducible refine Touch.step (by assumption) ?_) | (with_reducible refine Touch.stepT (by assumption) ?_ ?_) | (intro _; first | rfl | trivial | omega | (simp; done) | (simp; omega)) | (intro _ _; first | omega | (simp; done) | (simp; omega)))))
    have h1 := h.after hw0
    go_enter Tryz.func119, Tryz.ntmps119
    go_wp2_with (first
      | ((go_at_call 206; (with_reducible refine (slot_is _ _).mono ?_); rintro e w' ⟨rfl, rfl⟩); rw [HI.out])
      | (go_at_call 208; (with_reducible refine (slot_at _ _ i0 i1).mono ?_); rintro e w' ⟨rfl, rfl⟩)
      | ((go_at_call 207; (with_reducible refine (hP _).mono ?_); rintro e w' ⟨rfl, hx⟩); have h2 := h1.after hx; have hb := hw0.trans (hx.mono hw0.size))
      | ((go_at_call 88; (with_reducible refine (L _ _ h2).mono ?_); rintro e w' ⟨rfl, hm, ht⟩); rw [HS.out] at hm))
    go_ret
    exact ⟨rfl, hm, (Touch.of_below hb).trans ht⟩
  · have e1 : putOk m f i c = true := by unfold putOk; rw [hi, hr, hf]; rfl
    simp only [e1, if_true]
    have c1 := MemS.can_in (a := 4 + 2 * i) hf (by omega) (by omega)
    have ok1 : (m.store f (4 + 2 * i) c.w1).Ok := MemS.store_ok ok _ _ hw1.1 (by omega)
    have c2 : (m.store f (4 + 2 * i) c.w1).can f (4 + 2 * i + 1) = 0 := MemS.can_in (by rw [MemS.has_store]; exact hf) (by omega) (by omega)
    have L1 := fun w h => store_of a g m f (4 + 2 * i) c.w1 0 w h ok c1
    have L2 := fun w h => store_of a g (m.store f (4 + 2 * i) c.w1) f (4 + 2 * i + 1) c.a 0 w h ok1 c2
    have HI := Lib.hid hi
    clear hi e1 hr hf c1 c2 ok1 hw1 hca
    generalize c.w1 = W1 at *
    obtain ⟨ck, cr, ct, cl, ce, ca⟩ := c
    unfold CapS.v at *
    dsimp only at *
    have hw0 : Below w.heap.size w (w.alloc (.cells #[.int .i64 ck, .int .i64 cr, .int .i64 ct, .int .i64 cl, .int .i64 ce, .int .i64 ca] 38 (0, 0))) := by (refine Touch.below0 ?_; (repeat' (first | (with_reducible exact Touch.refl _ _) | (with_reducible assumption) | (with_reducible refine Touch.drew ?_) | (with_reducible refine Touch.drewN ?_ _) | (with_reducible refine Touch.alloc ?_ _) | (with_reducible refine Touch.setCell ?_ _ _ _ ?_) | (with_reducible refine Touch.step (by assumption) ?_) | (with_reducible refine Touch.stepT (by assumption) ?_ ?_) | (intro _; first | rfl | trivial | omega | (simp; done) | (simp; omega)) | (intro _ _; first | omega | (simp; done) | (simp; omega)))))
    have h1 := h.after hw0
    go_enter Tryz.func119, Tryz.ntmps119
    go_wp2_with (first
      | ((go_at_call 206; (with_reducible refine (slot_is _ _).mono ?_); rintro e w' ⟨rfl, rfl⟩); rw [HI.out])
      | (go_at_call 208; (with_reducible refine (slot_at _ _ i0 i1).mono ?_); rintro e w' ⟨rfl, rfl⟩)
      | ((go_at_call 207; (with_reducible refine (hP _).mono ?_); rintro e w' ⟨rfl, hx⟩); have h2 := h1.after hx; have hb := hw0.trans (hx.mono hw0.size))
      | ((go_at_call 88; (with_reducible refine (L1 _ h2).mono ?_); rintro e w' ⟨rfl, h3, ht⟩))
      | ((go_at_call 88; (with_reducible refine (L2 _ h3).mono ?_); rintro e w' ⟨rfl, h4, ht2⟩)))
    go_ret
    exact ⟨rfl, h4, ((Touch.of_below hb).trans ht).trans ht2⟩
end Go.Proofs.YtmahledpcpdldaaGreat
