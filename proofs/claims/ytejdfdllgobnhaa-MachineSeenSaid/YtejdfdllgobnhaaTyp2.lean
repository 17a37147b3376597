/- What frames are (package typ): can, of, Retype, Untype. -/
import Derived.Test.YtejdfdllgobnhaaTyp
set_option linter.unusedVariables false
set_option linter.unusedSimpArgs false
namespace Go.Proofs.Ytejdfdllgobnhaa
open Go.RowKit

structure TypS.Ok (t : TypS) : Prop where
  n1 : 1 ≤ t.n
  n64 : t.n ≤ 64
  k0 : ∀ f, 0 ≤ t.k f
  k2 : ∀ f, t.k f ≤ 2
  c0 : ∀ f, 0 ≤ t.c f
  c1 : ∀ f, t.c f ≤ 1000
  f0 : ∀ f, -1 ≤ t.fr f
  f1 : ∀ f, t.fr f ≤ 1073741824
  w0 : ∀ f, 0 ≤ t.wa f
  w3 : ∀ f, t.wa f ≤ 3
def TypS.can (t : TypS) (f : Int) : Int := if f < 0 then 1 else if (t.n : Int) ≤ f then 1 else 0
theorem TypS.can_cases (t : TypS) (f : Int) : (t.can f = 0 ∧ 0 ≤ f ∧ f < t.n) ∨ t.can f = 1 := by
  unfold TypS.can
  by_cases h0 : f < 0
  · right; rw [if_pos h0]
  rw [if_neg h0]
  by_cases h1 : (t.n : Int) ≤ f
  · right; rw [if_pos h1]
  left; rw [if_neg h1]; omega

theorem TypIs.touch {w w' : World} {a g cap : Nat} {t : TypS} {S : Nat → Prop} (h : TypIs w a g cap t) (ht : Touch S w w') (ha : ¬ S a) (hg : ¬ S g) : TypIs w' a g cap t := by
  obtain ⟨arr, hr, hc⟩ := h.row
  exact ⟨ht.at h.box ha, ⟨arr, ht.at hr hg, hc⟩, h.ne⟩
theorem TypIs.after {w w' : World} {a g cap : Nat} {t : TypS} (h : TypIs w a g cap t) (hb : Below w.heap.size w w') : TypIs w' a g cap t :=
  h.touch (Touch.of_below (S := fun _ => False) hb) (fun h => h) (fun h => h)
theorem TypIs.lta {w : World} {a g cap : Nat} {t : TypS} (h : TypIs w a g cap t) : a < w.heap.size := lt_of_block h.box
theorem TypIs.ltg {w : World} {a g cap : Nat} {t : TypS} (h : TypIs w a g cap t) : g < w.heap.size := by obtain ⟨_, hr, _⟩ := h.row; exact lt_of_block hr
theorem TypIs.cell0 {w : World} {a g cap : Nat} {t : TypS} (h : TypIs w a g cap t) : w.cell? ⟨a, 0, none⟩ = some (.slice (some ⟨g, 0, none⟩) t.n cap) := by rw [cell_of h.box]; rfl
theorem TypIs.at {w : World} {a g cap : Nat} {t : TypS} (h : TypIs w a g cap t) {f : Nat} (hf : f < t.n) :
    w.cell? ⟨g, f * 4, none⟩ = some (.int .i64 (t.k f)) ∧ w.cell? ⟨g, f * 4 + 1, none⟩ = some (.int .i64 (t.c f)) ∧ w.cell? ⟨g, f * 4 + 2, none⟩ = some (.int .i64 (t.fr f)) ∧ w.cell? ⟨g, f * 4 + 3, none⟩ = some (.int .i64 (t.wa f)) := by
  obtain ⟨arr, hr, hc⟩ := h.row
  simp only [cell_of hr]
  exact ⟨hc f 0 hf (by decide), hc f 1 hf (by decide), hc f 2 hf (by decide), hc f 3 hf (by decide)⟩
theorem TypIs.free {w : World} {a g cap : Nat} {t : TypS} (h : TypIs w a g cap t) (o : Nat) : w.frozen? ⟨g, o, none⟩ = false := by
  obtain ⟨arr, hr, hc⟩ := h.row; exact frozen_of hr o
/-- One cell turned. -/
theorem TypIs.set {w : World} {a g cap : Nat} {t t' : TypS} (h : TypIs w a g cap t) (f o : Nat) (hf : f < t.n) (ho : o < 4) (v : Value) (hn : t'.n = t.n) (hv : tcell t' f o = v)
    (hs : ∀ f' o', (f' ≠ f ∨ o' ≠ o) → o' < 4 → tcell t' f' o' = tcell t f' o') : TypIs (w.setCell ⟨g, f * 4 + o, none⟩ v) a g cap t' := by
  obtain ⟨arr, hr, hc⟩ := h.row
  refine ⟨by rw [hn]; exact heap_set_ne h.box _ h.ne, ⟨_, heap_set hr _, ?_⟩, h.ne⟩
  intro f' o' hf' ho'
  rw [hn] at hf'
  have hlt : f' * 4 + o' < arr.size := by
    have := hc f' o' hf' ho'
    rcases Nat.lt_or_ge (f' * 4 + o') arr.size with h | h
    · exact h
    · rw [Array.getElem?_eq_none h] at this; cases this
  rw [Array.getElem?_setIfInBounds]
  by_cases e : f * 4 + o = f' * 4 + o'
  · have e1 : f' = f := by omega
    have e2 : o' = o := by omega
    subst e1; subst e2
    rw [if_pos rfl, if_pos hlt, hv]
  · rw [if_neg e, hc f' o' hf' ho', hs f' o' (by omega) ho']

theorem typ_none (a g cap : Nat) (t : TypS) (w : World) (h : TypIs w a g cap t) (ok : t.Ok) : Calls Try.prog 88 #[.pointer (some ⟨a, 0, none⟩)] w fun e w' => e = .returned (.bool false) ∧ w = w' := by
  have g0 := h.cell0
  have n1 := ok.n1
  have hz : ((t.n : Int) == 0) = false := by simp; omega
  go_enter Try.func88, Try.ntmps88
  go_wp2
  go_ret
  exact ⟨rfl, rfl⟩
theorem typ_can (a g cap : Nat) (t : TypS) (f : Int) (w : World) (h : TypIs w a g cap t) (ok : t.Ok) : Calls Try.prog 56 #[.pointer (some ⟨a, 0, none⟩), .int .i64 f] w fun e w' =>
    e = .returned (.int .i64 (t.can f)) ∧ w = w' := by
  have g0 := h.cell0
  unfold TypS.can
  by_cases h0 : f < 0
  · rw [if_pos h0]
    go_enter Try.func56, Try.ntmps56
    go_wp2_with ((go_at_call 88; (with_reducible refine (typ_none _ _ _ _ w h ok).mono ?_); rintro e w' ⟨rfl, rfl⟩))
    go_ret
    exact ⟨rfl, rfl⟩
  by_cases h1 : (t.n : Int) ≤ f
  · rw [if_neg h0, if_pos h1]
    go_enter Try.func56, Try.ntmps56
    go_wp2_with ((go_at_call 88; (with_reducible refine (typ_none _ _ _ _ w h ok).mono ?_); rintro e w' ⟨rfl, rfl⟩))
    go_ret
    exact ⟨rfl, rfl⟩
  rw [if_neg h0, if_neg h1]
  go_enter Try.func56, Try.ntmps56
  go_wp2_with ((go_at_call 88; (with_reducible refine (typ_none _ _ _ _ w h ok).mono ?_); rintro e w' ⟨rfl, rfl⟩))
  go_ret
  exact ⟨rfl, rfl⟩

/-- free: the later time. -/
theorem typ_free (g o : Nat) (x now : Int) (w : World) (hc : w.cell? ⟨g, o + 2, none⟩ = some (.int .i64 x)) (hf : w.frozen? ⟨g, o + 2, none⟩ = false) :
    Calls Try.prog 57 #[.pointer (some ⟨g, o, none⟩), .int .i64 now] w fun e w' => e = .returned (.tuple #[]) ∧ w' = w.setCell ⟨g, o + 2, none⟩ (.int .i64 (max x now)) := by
  have hf' := hf
  by_cases hx : x < now
  · rw [show max x now = now by omega]
    go_enter Try.func57, Try.ntmps57
    go_wp2
    go_end0
    exact ⟨rfl, rfl⟩
  · rw [show max x now = x by omega]
    go_enter Try.func57, Try.ntmps57
    go_wp2
    go_end0
    exact ⟨rfl, rfl⟩
theorem typ_of (a g cap : Nat) (t : TypS) (f : Int) (w : World) (h : TypIs w a g cap t) (ok : t.Ok) : Calls Try.prog 85 #[.pointer (some ⟨a, 0, none⟩), .int .i64 f] w fun e w' =>
    e = .returned (.agg (if t.can f = 0 then #[.int .i64 (t.k f.toNat), .int .i64 (t.c f.toNat), .int .i64 (t.fr f.toNat), .int .i64 (t.wa f.toNat)] else #[.int .i64 0, .int .i64 0, .int .i64 (-1), .int .i64 0])) ∧ Below w.heap.size w w' := by
  have hA : ∀ o, TypIs (w.alloc o) a g cap t := fun o => h.after (by (refine Touch.below0 ?_; (repeat' (first | (with_reducible exact Touch.refl _ _) | (with_reducible assumption) | (with_reducible refine Touch.drew ?_) | (with_reducible refine Touch.drewN ?_ _) | (with_reducible refine Touch.alloc ?_ _) | (with_reducible refine Touch.setCell ?_ _ _ _ ?_) | (with_reducible refine Touch.step (by assumption) ?_) | (with_reducible refine Touch.stepT (by assumption) ?_ ?_) | (intro _; first | rfl | trivial | omega | (simp; done) | (simp; omega)) | (intro _ _; first | omega | (simp; done) | (simp; omega))))))
  have hl := h.ltg
  have hl0 := h.lta
  rcases t.can_cases f with ⟨hc, f0, fn⟩ | hc
  · rw [if_pos hc]
    have HC := Lib.hid hc; clear hc
    have g0 := h.cell0
    obtain ⟨c0, c1, c2, c3⟩ := h.at (f := f.toNat) (by omega)
    go_enter Try.func85, Try.ntmps85
    go_wp2_with ((go_at_call 56; (with_reducible refine (typ_can _ _ _ _ _ _ (hA _) ok).mono ?_); rintro e w' ⟨rfl, rfl⟩); rw [HC.out])
    ((try simp only [Exit.inBlock, Exit.then]); refine bodyPost_ret (results_cell_row rfl _ _ w.heap.size 102 #[.int .i64 (t.k f.toNat), .int .i64 (t.c f.toNat), .int .i64 (t.fr f.toNat), .int .i64 (t.wa f.toNat)] (0, 0) _ rfl ?_ Try.underlying102 rfl (by kernel_rfl)) rfl ?_)
    · exact heap_new _ _
    exact ⟨rfl, by (refine Touch.below0 ?_; (repeat' (first | (with_reducible exact Touch.refl _ _) | (with_reducible assumption) | (with_reducible refine Touch.drew ?_) | (with_reducible refine Touch.drewN ?_ _) | (with_reducible refine Touch.alloc ?_ _) | (with_reducible refine Touch.setCell ?_ _ _ _ ?_) | (with_reducible refine Touch.step (by assumption) ?_) | (with_reducible refine Touch.stepT (by assumption) ?_ ?_) | (intro _; first | rfl | trivial | omega | (simp; done) | (simp; omega)) | (intro _ _; first | omega | (simp; done) | (simp; omega)))))⟩
  · rw [if_neg (by omega)]
    have HC := Lib.hid hc; clear hc
    go_enter Try.func85, Try.ntmps85
    go_wp2_with (first
      | ((go_at_call 56; (with_reducible refine (typ_can _ _ _ _ _ _ (hA _) ok).mono ?_); rintro e w' ⟨rfl, rfl⟩); rw [HC.out])
      | ((go_at_call 81; (with_reducible refine (typ_fresh _).mono ?_); rintro e w' ⟨rfl, hb1⟩)
         have hbx : w'.heap[w.heap.size]? = _ := (hb1.block _ (by simp)).trans (heap_new w _)
         have x0 := cell_of hbx 0
         have x1 := cell_of hbx 1
         have x2 := cell_of hbx 2
         have x3 := cell_of hbx 3
         have fz := frozen_of hbx
         have hbw : Below w.heap.size w w' := Below.trans (b := w.alloc _) (by (refine Touch.below0 ?_; (repeat' (first | (with_reducible exact Touch.refl _ _) | (with_reducible assumption) | (with_reducible refine Touch.drew ?_) | (with_reducible refine Touch.drewN ?_ _) | (with_reducible refine Touch.alloc ?_ _) | (with_reducible refine Touch.setCell ?_ _ _ _ ?_) | (with_reducible refine Touch.step (by assumption) ?_) | (with_reducible refine Touch.stepT (by assumption) ?_ ?_) | (intro _; first | rfl | trivial | omega | (simp; done) | (simp; omega)) | (intro _ _; first | omega | (simp; done) | (simp; omega)))))) (hb1.mono (by simp))
         dsimp at x0 x1 x2 x3))
    ((try simp only [Exit.inBlock, Exit.then]); refine bodyPost_ret (results_cell_row rfl _ _ w.heap.size 102 #[.int .i64 0, .int .i64 0, .int .i64 (-1), .int .i64 0] (0, 0) _ rfl ?_ Try.underlying102 rfl (by kernel_rfl)) rfl ?_)
    · exact heap_set (heap_set (heap_set (heap_set hbx _) _) _) _
    exact ⟨rfl, by (refine Touch.below0 ?_; (repeat' (first | (with_reducible exact Touch.refl _ _) | (with_reducible assumption) | (with_reducible refine Touch.drew ?_) | (with_reducible refine Touch.drewN ?_ _) | (with_reducible refine Touch.alloc ?_ _) | (with_reducible refine Touch.setCell ?_ _ _ _ ?_) | (with_reducible refine Touch.step (by assumption) ?_) | (with_reducible refine Touch.stepT (by assumption) ?_ ?_) | (intro _; first | rfl | trivial | omega | (simp; done) | (simp; omega)) | (intro _ _; first | omega | (simp; done) | (simp; omega)))))⟩
end Go.Proofs.Ytejdfdllgobnhaa
