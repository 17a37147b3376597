/- The reference's slots (palanquinref11) and addresses (palanquinref12). -/
import Derived.Test.YtejdfdllgobnhaaGreatGRb
import Derived.Test.YtejdfdllgobnhaaGreatGRc
import Derived.Test.YtejdfdllgobnhaaGreatGSlot
set_option linter.unusedVariables false
set_option linter.unusedSimpArgs false
namespace Go.Proofs.YtejdfdllgobnhaaGreat
open Go.RowKit
theorem rload_of (B : RMB) (m : MemS) (f i x e : Int) (w : World) (h : RMemIs w B m) (ok : m.Ok) (hx : m.load f i = x) (he : m.can f i = e) : Calls Tryz.prog 209 #[.pointer (some ⟨B.v, 0, none⟩), .int .i64 f, .int .i64 i] w fun e' w' => e' = .returned (.tuple #[.int .u64 x, .int .i64 e]) ∧ w = w' := by
  subst hx; subst he; exact r2_load B m f i w h ok
theorem rstore_of (B : RMB) (m : MemS) (f i x e : Int) (w : World) (h : RMemIs w B m) (ok : m.Ok) (he : m.can f i = e) : Calls Tryz.prog 54 #[.pointer (some ⟨B.v, 0, none⟩), .int .i64 f, .int .i64 i, .int .u64 x] w fun e' w' =>
    e' = .returned (.int .i64 e) ∧ RMemIs w' B (m.store f i x) ∧ Touch (B.own m.n) w w' := by
  subst he; exact r2_store B m f i x w h ok
theorem i16_out {i : Int} (h : inB i 16 = false) : i < 0 ∨ (0 ≤ i ∧ 16 ≤ i) := by
  by_cases h0 : i < 0
  · exact .inl h0
  · refine .inr ⟨by omega, ?_⟩
    by_cases h1 : 16 ≤ i
    · exact h1
    · rw [inB_iff.2 ⟨by omega, by omega⟩] at h; cases h
set_option maxHeartbeats 4000000 in
set_option maxRecDepth 100000 in
theorem r11_get (B : RMB) (m : MemS) (f i : Int) (w : World) (h : RMemIs w B m) (ok : m.Ok) : Calls Tryz.prog 142 #[.pointer (some ⟨B.v, 0, none⟩), .int .i64 f, .int .i64 i] w fun e w' =>
    e = .returned (.tuple #[(slotC m f i).v, .int .i64 (slotE m f i)]) ∧ Below w.heap.size w w' := by
  have hw0 : Below w.heap.size w (w.alloc (.cells #[.int .i64 0, .int .i64 0, .int .i64 0, .int .i64 0, .int .i64 0, .int .i64 0] 32 (0, 0))) := by (refine Touch.below0 ?_; (repeat' (first | (with_reducible exact Touch.refl _ _) | (with_reducible assumption) | (with_reducible refine Touch.drew ?_) | (with_reducible refine Touch.drewN ?_ _) | (with_reducible refine Touch.alloc ?_ _) | (with_reducible refine Touch.setCell ?_ _ _ _ ?_) | (with_reducible refine Touch.step (by assumption) ?_) | (with_reducible refine Touch.stepT (by assumption) ?_ ?_) | (intro _; first | rfl | trivial | omega | (simp; done) | (simp; omega)) | (intro _ _; first | omega | (simp; done) | (simp; omega)))))
  have hR : (w.alloc (.cells #[.int .i64 0, .int .i64 0, .int .i64 0, .int .i64 0, .int .i64 0, .int .i64 0] 32 (0, 0))).heap[w.heap.size]? = some (.cells #[.int .i64 0, .int .i64 0, .int .i64 0, .int .i64 0, .int .i64 0, .int .i64 0] 32 (0, 0)) := heap_new _ _
  have h1 := h.after hw0
  cases hi : inB i 16
  · have e1 : slotC m f i = CapS.zero := by unfold slotC; rw [hi]; rfl
    have e2 : slotE m f i = 1 := by unfold slotE; rw [hi]; rfl
    rw [e1, e2]
    rcases i16_out hi with hi | ⟨hi0, hi⟩
    all_goals
      clear e1 e2
      go_enter Tryz.func142, Tryz.ntmps142
      go_wp2
      refine bodyPost_ret (v := .tuple #[CapS.zero.v, .int .i64 1]) ?_ rfl ⟨rfl, hw0⟩
      have hc := cell_of hR
      simp [results, Tryz.f142, go_sem, hc, CapS.zero, CapS.v]
  obtain ⟨i0, i1⟩ := inB_iff.1 hi
  generalize hW : w.alloc (.cells #[.int .i64 0, .int .i64 0, .int .i64 0, .int .i64 0, .int .i64 0, .int .i64 0] 32 (0, 0)) = W at *
  cases hf : m.has f
  · have e1 : slotC m f i = CapS.zero := by unfold slotC; rw [hi, hf]; rfl
    have e2 : slotE m f i = 1 := by unfold slotE; rw [hi, hf]; rfl
    rw [e1, e2]
    have l1 := MemS.load_out (a := 4 + 2 * i) hf
    have l2 := MemS.can_out (a := 4 + 2 * i) hf
    have L := fun w h => rload_of B m f (4 + 2 * i) 0 1 w h ok l1 l2
    clear hi hf e1 e2 l1 l2
    have g0 := cell_of hR 0; have g1 := cell_of hR 1; have g2 := cell_of hR 2; have g3 := cell_of hR 3; have g4 := cell_of hR 4; have g5 := cell_of hR 5; have fr := frozen_of hR; dsimp at g0 g1 g2 g3 g4 g5
    go_enter Tryz.func142, Tryz.ntmps142
    go_upto_region 3 with (fail)
    clear hW
    go_wp2_with ((go_at_call 209; (with_reducible refine (L _ h1).mono ?_); rintro e w' ⟨rfl, rfl⟩))
    have hF := heap_set (o := 5) (heap_set (o := 4) (heap_set (o := 3) (heap_set (o := 2) (heap_set (o := 1) (heap_set (o := 0) hR (.int .i64 0)) (.int .i64 0)) (.int .i64 0)) (.int .i64 0)) (.int .i64 0)) (.int .i64 0)
    refine bodyPost_ret (v := .tuple #[CapS.zero.v, .int .i64 1]) ?_ rfl ⟨rfl, ?_⟩
    · have hc := cell_of hF
      simp [results, Tryz.f142, go_sem, hc, CapS.zero, CapS.v]
    · exact ((((((hw0).setCell (p := ⟨w.heap.size, 0, none⟩) (Nat.le_refl _) _).setCell (p := ⟨w.heap.size, 1, none⟩) (Nat.le_refl _) _).setCell (p := ⟨w.heap.size, 2, none⟩) (Nat.le_refl _) _).setCell (p := ⟨w.heap.size, 3, none⟩) (Nat.le_refl _) _).setCell (p := ⟨w.heap.size, 4, none⟩) (Nat.le_refl _) _).setCell (p := ⟨w.heap.size, 5, none⟩) (Nat.le_refl _) _
  · have e1 : slotC m f i = getC (m.wd f (4 + 2 * i)) (m.wd f (4 + 2 * i + 1)) := by unfold slotC; rw [hi, hf]; rfl
    have e2 : slotE m f i = getE (m.wd f (4 + 2 * i)) (m.wd f (4 + 2 * i + 1)) := by unfold slotE; rw [hi, hf]; rfl
    rw [e1, e2]
    have L1 := fun w h => rload_of B m f (4 + 2 * i) _ 0 w h ok (MemS.load_in (a := 4 + 2 * i) hf (by omega) (by omega)) (MemS.can_in (a := 4 + 2 * i) hf (by omega) (by omega))
    have L2 := fun w h => rload_of B m f (4 + 2 * i + 1) _ 0 w h ok (MemS.load_in (a := 4 + 2 * i + 1) hf (by omega) (by omega)) (MemS.can_in (a := 4 + 2 * i + 1) hf (by omega) (by omega))
    have b0 := ok.lo f.toNat (4 + 2 * i).toNat; have b1 := ok.hi f.toNat (4 + 2 * i).toNat
    have b2 := ok.lo f.toNat (4 + 2 * i + 1).toNat; have b3 := ok.hi f.toNat (4 + 2 * i + 1).toNat
    have hG := fun w => r9_get (m.wd f (4 + 2 * i)) (m.wd f (4 + 2 * i + 1)) w b0 b1 b2 b3
    clear hi hf e1 e2 b0 b1 b2 b3
    generalize m.wd f (4 + 2 * i) = x1 at *
    generalize m.wd f (4 + 2 * i + 1) = x2 at *
    generalize getC x1 x2 = C at *
    generalize getE x1 x2 = E at *
    obtain ⟨ck, cr, ct, cl, ce, ca⟩ := C
    unfold CapS.v at *
    dsimp only at *
    go_enter Tryz.func142, Tryz.ntmps142
    go_upto_region 3 with (fail)
    clear hW
    go_wp2_with (first
      | ((go_at_call 209; (with_reducible refine (L1 _ h1).mono ?_); rintro e w' ⟨rfl, rfl⟩))
      | ((go_at_call 209; (with_reducible refine (L2 _ h1).mono ?_); rintro e w' ⟨rfl, rfl⟩))
      | ((go_at_call 210; (with_reducible refine (hG _).mono ?_); rintro e w' ⟨rfl, hx⟩); have hR4 := (hx.block _ (lt_of_block hR)).trans hR; have hw4 := hw0.trans (hx.mono hw0.size); have g0 := cell_of hR4 0; have g1 := cell_of hR4 1; have g2 := cell_of hR4 2; have g3 := cell_of hR4 3; have g4 := cell_of hR4 4; have g5 := cell_of hR4 5; have fr := frozen_of hR4; dsimp at g0 g1 g2 g3 g4 g5))
    have hF := heap_set (o := 5) (heap_set (o := 4) (heap_set (o := 3) (heap_set (o := 2) (heap_set (o := 1) (heap_set (o := 0) hR4 (.int .i64 ck)) (.int .i64 cr)) (.int .i64 ct)) (.int .i64 cl)) (.int .i64 ce)) (.int .i64 ca)
    refine bodyPost_ret (v := .tuple #[.agg #[.int .i64 ck, .int .i64 cr, .int .i64 ct, .int .i64 cl, .int .i64 ce, .int .i64 ca], .int .i64 E]) ?_ rfl ⟨rfl, ?_⟩
    · have hc := cell_of hF
      simp [results, Tryz.f142, go_sem, hc, CapS.zero, CapS.v]
    · exact ((((((hw4).setCell (p := ⟨w.heap.size, 0, none⟩) (Nat.le_refl _) _).setCell (p := ⟨w.heap.size, 1, none⟩) (Nat.le_refl _) _).setCell (p := ⟨w.heap.size, 2, none⟩) (Nat.le_refl _) _).setCell (p := ⟨w.heap.size, 3, none⟩) (Nat.le_refl _) _).setCell (p := ⟨w.heap.size, 4, none⟩) (Nat.le_refl _) _).setCell (p := ⟨w.heap.size, 5, none⟩) (Nat.le_refl _) _
set_option maxHeartbeats 4000000 in
set_option maxRecDepth 100000 in
theorem r11_put (B : RMB) (m : MemS) (f i : Int) (c : CapS) (w : World) (h : RMemIs w B m) (ok : m.Ok) : Calls Tryz.prog 144 #[.pointer (some ⟨B.v, 0, none⟩), .int .i64 f, .int .i64 i, c.v] w fun e w' =>
    e = .returned (.int .i64 (if putOk m f i c then 0 else 1)) ∧ RMemIs w' B (m.slot f i c) ∧ Touch (B.own m.n) w w' := by
  have hP := r9_put c
  unfold MemS.slot
  cases hi : inB i 16
  · have e1 : putOk m f i c = false := by unfold putOk; rw [hi]; rfl
    simp only [e1, Bool.false_eq_true, if_false]
    rcases i16_out hi with hi | ⟨hi0, hi⟩
    all_goals
      clear e1 hP
      obtain ⟨ck, cr, ct, cl, ce, ca⟩ := c
      unfold CapS.v
      dsimp only
      go_enter Tryz.func144, Tryz.ntmps144
      go_wp2
      go_ret
      exact ⟨rfl, h.after (by (refine Touch.below0 ?_; (repeat' (first | (with_reducible exact Touch.refl _ _) | (with_reducible assumption) | (with_reducible refine Touch.drew ?_) | (with_reducible refine Touch.drewN ?_ _) | (with_reducible refine Touch.alloc ?_ _) | (with_reducible refine Touch.setCell ?_ _ _ _ ?_) | (with_reducible refine Touch.step (by assumption) ?_) | (with_reducible refine Touch.stepT (by assumption) ?_ ?_) | (intro _; first | rfl | trivial | omega | (simp; done) | (simp; omega)) | (intro _ _; first | omega | (simp; done) | (simp; omega)))))), by (repeat' (first | (with_reducible exact Touch.refl _ _) | (with_reducible assumption) | (with_reducible refine Touch.drew ?_) | (with_reducible refine Touch.drewN ?_ _) | (with_reducible refine Touch.alloc ?_ _) | (with_reducible refine Touch.setCell ?_ _ _ _ ?_) | (with_reducible refine Touch.step (by assumption) ?_) | (with_reducible refine Touch.stepT (by assumption) ?_ ?_) | (intro _; first | rfl | trivial | omega | (simp; done) | (simp; omega)) | (intro _ _; first | omega | (simp; done) | (simp; omega))))⟩
  obtain ⟨i0, i1⟩ := inB_iff.1 hi
  cases hr : c.right
  · have e1 : putOk m f i c = false := by unfold putOk; rw [hi, hr]; rfl
    simp only [e1, Bool.false_eq_true, if_false]
    rw [hr] at hP
    clear hi e1 hr
    obtain ⟨ck, cr, ct, cl, ce, ca⟩ := c
    unfold CapS.v at *
    dsimp only at *
    have hw0 : Below w.heap.size w (w.alloc (.cells #[.int .i64 ck, .int .i64 cr, .int .i64 ct, .int .i64 cl, .int .i64 ce, .int .i64 ca] 32 (0, 0))) := by (refine Touch.below0 ?_; (repeat' (first | (with_reducible exact Touch.refl _ _) | (with_reducible assumption) | (with_reducible refine Touch.drew ?_) | (with_reducible refine Touch.drewN ?_ _) | (with_reducible refine Touch.alloc ?_ _) | (with_reducible refine Touch.setCell ?_ _ _ _ ?_) | (with_reducible refine Touch.step (by assumption) ?_) | (with_reducible refine Touch.stepT (by assumption) ?_ ?_) | (intro _; first | rfl | trivial | omega | (simp; done) | (simp; omega)) | (intro _ _; first | omega | (simp; done) | (simp; omega)))))
    go_enter Tryz.func144, Tryz.ntmps144
    go_wp2_with ((go_at_call 211; (with_reducible refine (hP _).mono ?_); rintro e w' ⟨rfl, hx⟩))
    go_ret
    have hb := hw0.trans (hx.mono hw0.size)
    exact ⟨rfl, h.after hb, Touch.of_below hb⟩
  rw [hr] at hP
  have hw1 := CapS.w1_lt (CapS.right_sized hr)
  have hca := (CapS.sized_b (CapS.right_sized hr)).2.2.2.2.2
  cases hf : m.has f
  · have e1 : putOk m f i c = false := by unfold putOk; rw [hi, hr, hf]; rfl
    simp only [e1, Bool.false_eq_true, if_false]
    have L := fun x w h => rstore_of B m f (4 + 2 * i) x 1 w h ok (MemS.can_out hf)
    have hst : ∀ x, m.store f (4 + 2 * i) x = m := fun x => by rw [MemS.store, MemS.can_out hf, if_neg (by decide)]
    have HS := Lib.hid hst
    clear hi e1 hr hf hst hw1 hca
    generalize c.w1 = W1 at *
    obtain ⟨ck, cr, ct, cl, ce, ca⟩ := c
    unfold CapS.v at *
    dsimp only at *
    have hw0 : Below w.heap.size w (w.alloc (.cells #[.int .i64 ck, .int .i64 cr, .int .i64 ct, .int .i64 cl, .int .i64 ce, .int .i64 ca] 32 (0, 0))) := by (refine Touch.below0 ?_; (repeat' (first | (with_reducible exact Touch.refl _ _) | (with_reducible assumption) | (with_reducible refine Touch.drew ?_) | (with_reducible refine Touch.drewN ?_ _) | (with_reducible refine Touch.alloc ?_ _) | (with_reducible refine Touch.setCell ?_ _ _ _ ?_) | (with_reducible refine Touch.step (by assumption) ?_) | (with_reducible refine Touch.stepT (by assumption) ?_ ?_) | (intro _; first | rfl | trivial | omega | (simp; done) | (simp; omega)) | (intro _ _; first | omega | (simp; done) | (simp; omega)))))
    have h1 := h.after hw0
    go_enter Tryz.func144, Tryz.ntmps144
    go_wp2_with (first
      | ((go_at_call 211; (with_reducible refine (hP _).mono ?_); rintro e w' ⟨rfl, hx⟩); have h2 := h1.after hx; have hb := hw0.trans (hx.mono hw0.size))
      | ((go_at_call 54; (with_reducible refine (L _ _ h2).mono ?_); rintro e w' ⟨rfl, hm, ht⟩); rw [HS.out] at hm))
    go_ret
    exact ⟨rfl, hm, (Touch.of_below hb).trans ht⟩
  · have e1 : putOk m f i c = true := by unfold putOk; rw [hi, hr, hf]; rfl
    simp only [e1, if_true]
    have c1 := MemS.can_in (a := 4 + 2 * i) hf (by omega) (by omega)
    have ok1 : (m.store f (4 + 2 * i) c.w1).Ok := MemS.store_ok ok _ _ hw1.1 (by omega)
    have c2 : (m.store f (4 + 2 * i) c.w1).can f (4 + 2 * i + 1) = 0 := MemS.can_in (by rw [MemS.has_store]; exact hf) (by omega) (by omega)
    have L1 := fun w h => rstore_of B m f (4 + 2 * i) c.w1 0 w h ok c1
    have L2 := fun w h => rstore_of B (m.store f (4 + 2 * i) c.w1) f (4 + 2 * i + 1) c.a 0 w h ok1 c2
    rw [MemS.store_n] at L2
    clear hi e1 hr hf c1 c2 ok1 hw1 hca
    generalize c.w1 = W1 at *
    obtain ⟨ck, cr, ct, cl, ce, ca⟩ := c
    unfold CapS.v at *
    dsimp only at *
    have hw0 : Below w.heap.size w (w.alloc (.cells #[.int .i64 ck, .int .i64 cr, .int .i64 ct, .int .i64 cl, .int .i64 ce, .int .i64 ca] 32 (0, 0))) := by (refine Touch.below0 ?_; (repeat' (first | (with_reducible exact Touch.refl _ _) | (with_reducible assumption) | (with_reducible refine Touch.drew ?_) | (with_reducible refine Touch.drewN ?_ _) | (with_reducible refine Touch.alloc ?_ _) | (with_reducible refine Touch.setCell ?_ _ _ _ ?_) | (with_reducible refine Touch.step (by assumption) ?_) | (with_reducible refine Touch.stepT (by assumption) ?_ ?_) | (intro _; first | rfl | trivial | omega | (simp; done) | (simp; omega)) | (intro _ _; first | omega | (simp; done) | (simp; omega)))))
    have h1 := h.after hw0
    go_enter Tryz.func144, Tryz.ntmps144
    go_wp2_with (first
      | ((go_at_call 211; (with_reducible refine (hP _).mono ?_); rintro e w' ⟨rfl, hx⟩); have h2 := h1.after hx; have hb := hw0.trans (hx.mono hw0.size))
      | ((go_at_call 54; (with_reducible refine (L1 _ h2).mono ?_); rintro e w' ⟨rfl, h3, ht⟩))
      | ((go_at_call 54; (with_reducible refine (L2 _ h3).mono ?_); rintro e w' ⟨rfl, h4, ht2⟩)))
    go_ret
    exact ⟨rfl, h4, ((Touch.of_below hb).trans ht).trans ht2⟩
theorem r12_slot_no (n : Int) (w : World) (h : inB n 256 = false) : Calls Tryz.prog 213 #[.int .i64 n] w fun e w' => e = .returned (.tuple #[.int .i64 0, .int .i64 0, .int .i64 1]) ∧ w = w' := by
  by_cases h0 : n < 0
  · go_enter Tryz.func213, Tryz.ntmps213
    go_wp2
    go_ret3
    exact ⟨rfl, rfl⟩
  · have h1 : 256 ≤ n := by
      by_cases h1 : 256 ≤ n
      · exact h1
      · rw [inB_iff.2 ⟨by omega, by omega⟩] at h; cases h
    go_enter Tryz.func213, Tryz.ntmps213
    go_wp2
    go_ret3
    exact ⟨rfl, rfl⟩
theorem r12_slot (n : Int) (w : World) (h0 : 0 ≤ n) (h1 : n < 256) : Calls Tryz.prog 213 #[.int .i64 n] w fun e w' => e = .returned (.tuple #[.int .i64 (n / 16), .int .i64 (n % 16), .int .i64 0]) ∧ w = w' := by
  have e1 : Int.tdiv n 16 = n / 16 := Int.tdiv_eq_ediv_of_nonneg h0
  have e2 : Int.tmod n 16 = n % 16 := Int.tmod_eq_emod_of_nonneg h0
  go_enter Tryz.func213, Tryz.ntmps213
  go_wp2
  go_ret3
  exact ⟨rfl, rfl⟩
end Go.Proofs.YtejdfdllgobnhaaGreat
