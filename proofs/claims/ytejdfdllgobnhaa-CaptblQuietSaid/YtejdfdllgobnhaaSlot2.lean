/- Slots: Put. -/
import Derived.Test.YtejdfdllgobnhaaSlot
set_option linter.unusedVariables false
set_option linter.unusedSimpArgs false
namespace Go.Proofs.Ytejdfdllgobnhaa
open Go.RowKit

def putOk (m : MemS) (f i : Int) (c : CapS) : Bool := inB i 16 && c.right && m.has f
def MemS.slot (m : MemS) (f i : Int) (c : CapS) : MemS := if putOk m f i c then (m.store f (4 + 2 * i) c.w1).store f (4 + 2 * i + 1) c.a else m
theorem MemS.store_n (m : MemS) (f a x : Int) : (m.store f a x).n = m.n := by unfold MemS.store; split <;> rfl
theorem MemS.store_ok {m : MemS} (ok : m.Ok) (f a : Int) {x : Int} (h0 : 0 ≤ x) (h1 : x < 18446744073709551616) : (m.store f a x).Ok := by
  unfold MemS.store
  split
  · refine ⟨ok.n1, ok.n64, fun g o => ?_, fun g o => ?_⟩
    · show 0 ≤ upd m.w f.toNat (upd (m.w f.toNat) a.toNat x) g o
      have := ok.lo g o; have := ok.lo f.toNat o
      unfold upd; split
      · dsimp only; split <;> omega
      · omega
    · show upd m.w f.toNat (upd (m.w f.toNat) a.toNat x) g o < _
      have := ok.hi g o; have := ok.hi f.toNat o
      unfold upd; split
      · dsimp only; split <;> omega
      · omega
  · exact ok
theorem MemS.has_store (m : MemS) (f a x f' : Int) : (m.store f a x).has f' = m.has f' := by unfold MemS.has; rw [MemS.store_n]
theorem store_of (a g : Nat) (m : MemS) (f i x e : Int) (w : World) (h : MemIs w a g m) (ok : m.Ok) (he : m.can f i = e) : Calls Try.prog 13 #[.pointer (some ⟨a, 0, none⟩), .int .i64 f, .int .i64 i, .int .u64 x] w fun e' w' =>
    e' = .returned (.int .i64 e) ∧ MemIs w' a g (m.store f i x) ∧ Touch (· = g) w w' := by
  subst he; exact mem_store a g m f i x w h ok
set_option maxHeartbeats 4000000 in
theorem slot_put (a g : Nat) (m : MemS) (f i : Int) (c : CapS) (w : World) (h : MemIs w a g m) (ok : m.Ok) : Calls Try.prog 70 #[.pointer (some ⟨a, 0, none⟩), .int .i64 f, .int .i64 i, c.v] w fun e w' =>
    e = .returned (.int .i64 (if putOk m f i c then 0 else 1)) ∧ MemIs w' a g (m.slot f i c) ∧ Touch (· = g) w w' := by
  have hP := cap_put c
  unfold MemS.slot
  cases hi : inB i 16
  · have e1 : putOk m f i c = false := by unfold putOk; rw [hi]; rfl
    simp only [e1, Bool.false_eq_true, if_false]
    have HI := Lib.hid hi
    clear hi e1
    obtain ⟨ck, cr, ct, cl, ce, ca⟩ := c
    unfold CapS.v
    dsimp only
    go_enter Try.func70, Try.ntmps70
    go_wp2_with ((go_at_call 98; (with_reducible refine (slot_is _ _).mono ?_); rintro e w' ⟨rfl, rfl⟩); rw [HI.out])
    go_ret
    exact ⟨rfl, h.after (by (refine Touch.below0 ?_; (repeat' (first | (with_reducible exact Touch.refl _ _) | (with_reducible assumption) | (with_reducible refine Touch.drew ?_) | (with_reducible refine Touch.drewN ?_ _) | (with_reducible refine Touch.alloc ?_ _) | (with_reducible refine Touch.setCell ?_ _ _ _ ?_) | (with_reducible refine Touch.step (by assumption) ?_) | (with_reducible refine Touch.stepT (by assumption) ?_ ?_) | (intro _; first | rfl | trivial | omega | (simp; done) | (simp; omega)) | (intro _ _; first | omega | (simp; done) | (simp; omega)))))), by (repeat' (first | (with_reducible exact Touch.refl _ _) | (with_reducible assumption) | (with_reducible refine Touch.drew ?_) | (with_reducible refine Touch.drewN ?_ _) | (with_reducible refine Touch.alloc ?_ _) | (with_reducible refine Touch.setCell ?_ _ _ _ ?_) | (with_reducible refine Touch.step (by assumption) ?_) | (with_reducible refine Touch.stepT (by assumption) ?_ ?_) | (intro _; first | rfl | trivial | omega | (simp; done) | (simp; omega)) | (intro _ _; first | omega | (simp; done) | (simp; omega))))⟩
  obtain ⟨i0, i1⟩ := inB_iff.1 hi
  cases hr : c.right
  · have e1 : putOk m f i c = false := by unfold putOk; rw [hi, hr]; rfl
    simp only [e1, Bool.false_eq_true, if_false]
    rw [hr] at hP
    have HI := Lib.hid hi
    clear hi e1 hr
    obtain ⟨ck, cr, ct, cl, ce, ca⟩ := c
    unfold CapS.v at *
    dsimp only at *
    have hw0 : Below w.heap.size w (w.alloc (.cells #[.int .i64 ck, .int .i64 cr, .int .i64 ct, .int .i64 cl, .int .i64 ce, .int .i64 ca] 57 (0, 0))) := by (refine Touch.below0 ?_; (repeat' (first | (with_reducible exact Touch.refl _ _) | (with_reducible assumption) | (with_reducible refine Touch.drew ?_) | (with_reducible refine Touch.drewN ?_ _) | (with_reducible refine Touch.alloc ?_ _) | (with_reducible refine Touch.setCell ?_ _ _ _ ?_) | (with_reducible refine Touch.step (by assumption) ?_) | (with_reducible refine Touch.stepT (by assumption) ?_ ?_) | (intro _; first | rfl | trivial | omega | (simp; done) | (simp; omega)) | (intro _ _; first | omega | (simp; done) | (simp; omega)))))
    go_enter Try.func70, Try.ntmps70
    go_wp2_with (first
      | ((go_at_call 98; (with_reducible refine (slot_is _ _).mono ?_); rintro e w' ⟨rfl, rfl⟩); rw [HI.out])
      | (go_at_call 99; (with_reducible refine (hP _).mono ?_); rintro e w' ⟨rfl, hx⟩))
    go_ret
    have hb := hw0.trans (hx.mono hw0.size)
    exact ⟨rfl, h.after hb, Touch.of_below hb⟩
  rw [hr] at hP
  have hw1 := CapS.w1_lt (CapS.right_sized hr)
  have hca := (CapS.sized_b (CapS.right_sized hr)).2.2.2.2.2
  cases hf : m.has f
  · have e1 : putOk m f i c = false := by unfold putOk; rw [hi, hr, hf]; rfl
    simp only [e1, Bool.false_eq_true, if_false]
    have L := fun x w h => store_of a g m f (4 + 2 * i) x 1 w h ok (MemS.can_out hf)
    have hst : ∀ x, m.store f (4 + 2 * i) x = m := fun x => by rw [MemS.store, MemS.can_out hf, if_neg (by decide)]
    have HS := Lib.hid hst
    have HI := Lib.hid hi
    clear hi e1 hr hf hst hw1 hca
    generalize c.w1 = W1 at *
    obtain ⟨ck, cr, ct, cl, ce, ca⟩ := c
    unfold CapS.v at *
    dsimp only at *
    have hw0 : Below w.heap.size w (w.alloc (.cells #[.int .i64 ck, .int .i64 cr, .int .i64 ct, .int .i64 cl, .int .i64 ce, .int .i64 ca] 57 (0, 0))) := by (refine Touch.below0 ?_; (repeat' (first | (with_reducible exact Touch.refl _ _) | (with_reducible assumption) | (with_reducible refine Touch.drew ?_) | (with_reducible refine Touch.drewN ?_ _) | (with_reducible refine Touch.alloc ?_ _) | (with_reducible refine Touch.setCell ?_ _ _ _ ?_) | (with_reducible refine Touch.step (by assumption) ?_) | (with_reducible refine Touch.stepT (by assumption) ?_ ?_) | (intro _; first | rfl | trivial | omega | (simp; done) | (simp; omega)) | (intro _ _; first | omega | (simp; done) | (simp; omega)))))
    have h1 := h.after hw0
    go_enter Try.func70, Try.ntmps70
    go_wp2_with (first
      | ((go_at_call 98; (with_reducible refine (slot_is _ _).mono ?_); rintro e w' ⟨rfl, rfl⟩); rw [HI.out])
      | (go_at_call 100; (with_reducible refine (slot_at _ _ i0 i1).mono ?_); rintro e w' ⟨rfl, rfl⟩)
      | ((go_at_call 99; (with_reducible refine (hP _).mono ?_); rintro e w' ⟨rfl, hx⟩); have h2 := h1.after hx; have hb := hw0.trans (hx.mono hw0.size))
      | ((go_at_call 13; (with_reducible refine (L _ _ h2).mono ?_); rintro e w' ⟨rfl, hm, ht⟩); rw [HS.out] at hm))
    go_ret
    exact ⟨rfl, hm, (Touch.of_below hb).trans ht⟩
  · have e1 : putOk m f i c = true := by unfold putOk; rw [hi, hr, hf]; rfl
    simp only [e1, if_true]
    have c1 := MemS.can_in (a := 4 + 2 * i) hf (by omega) (by omega)
    have ok1 : (m.store f (4 + 2 * i) c.w1).Ok := MemS.store_ok ok _ _ hw1.1 (by omega)
    have c2 : (m.store f (4 + 2 * i) c.w1).can f (4 + 2 * i + 1) = 0 := MemS.can_in (by rw [MemS.has_store]; exact hf) (by omega) (by omega)
    have L1 := fun w h => store_of a g m f (4 + 2 * i) c.w1 0 w h ok c1
    have L2 := fun w h => store_of a g (m.store f (4 + 2 * i) c.w1) f (4 + 2 * i + 1) c.a 0 w h ok1 c2
    have HI := Lib.hid hi
    clear hi e1 hr hf c1 c2 ok1 hw1 hca
    generalize c.w1 = W1 at *
    obtain ⟨ck, cr, ct, cl, ce, ca⟩ := c
    unfold CapS.v at *
    dsimp only at *
    have hw0 : Below w.heap.size w (w.alloc (.cells #[.int .i64 ck, .int .i64 cr, .int .i64 ct, .int .i64 cl, .int .i64 ce, .int .i64 ca] 57 (0, 0))) := by (refine Touch.below0 ?_; (repeat' (first | (with_reducible exact Touch.refl _ _) | (with_reducible assumption) | (with_reducible refine Touch.drew ?_) | (with_reducible refine Touch.drewN ?_ _) | (with_reducible refine Touch.alloc ?_ _) | (with_reducible refine Touch.setCell ?_ _ _ _ ?_) | (with_reducible refine Touch.step (by assumption) ?_) | (with_reducible refine Touch.stepT (by assumption) ?_ ?_) | (intro _; first | rfl | trivial | omega | (simp; done) | (simp; omega)) | (intro _ _; first | omega | (simp; done) | (simp; omega)))))
    have h1 := h.after hw0
    go_enter Try.func70, Try.ntmps70
    go_wp2_with (first
      | ((go_at_call 98; (with_reducible refine (slot_is _ _).mono ?_); rintro e w' ⟨rfl, rfl⟩); rw [HI.out])
      | (go_at_call 100; (with_reducible refine (slot_at _ _ i0 i1).mono ?_); rintro e w' ⟨rfl, rfl⟩)
      | ((go_at_call 99; (with_reducible refine (hP _).mono ?_); rintro e w' ⟨rfl, hx⟩); have h2 := h1.after hx; have hb := hw0.trans (hx.mono hw0.size))
      | ((go_at_call 13; (with_reducible refine (L1 _ h2).mono ?_); rintro e w' ⟨rfl, h3, ht⟩))
      | ((go_at_call 13; (with_reducible refine (L2 _ h3).mono ?_); rintro e w' ⟨rfl, h4, ht2⟩)))
    go_ret
    exact ⟨rfl, h4, ((Touch.of_below hb).trans ht).trans ht2⟩
end Go.Proofs.Ytejdfdllgobnhaa
