/- Several texts in one: R06, R06b. -/
import Derived.Test.YtmahledpcpdldaaGreatTypD
import Derived.Test.YtmahledpcpdldaaGreatGRef
/- R06 -/
set_option linter.unusedVariables false
set_option linter.unusedSimpArgs false
namespace Go.Proofs.YtmahledpcpdldaaGreat
open Go.RowKit

structure RTypIs (w : World) (a g cap : Nat) (t : TypS) : Prop where
  box : w.heap[a]? = some (.cells #[.slice (some ⟨g, 0, none⟩) t.n cap] 272 (0, 0))
  row : ∃ arr : Array Value, w.heap[g]? = some (.cells arr 158 (0, 0)) ∧ ∀ f o, f < t.n → o < 4 → arr[f * 4 + o]? = some (tcell t f o)
  ne : a ≠ g
theorem RTypIs.touch {w w' : World} {a g cap : Nat} {t : TypS} {S : Nat → Prop} (h : RTypIs w a g cap t) (ht : Touch S w w') (ha : ¬ S a) (hg : ¬ S g) : RTypIs w' a g cap t := by
  obtain ⟨arr, hr, hc⟩ := h.row
  exact ⟨ht.at h.box ha, ⟨arr, ht.at hr hg, hc⟩, h.ne⟩
theorem RTypIs.after {w w' : World} {a g cap : Nat} {t : TypS} (h : RTypIs w a g cap t) (hb : Below w.heap.size w w') : RTypIs w' a g cap t :=
  h.touch (Touch.of_below (S := fun _ => False) hb) (fun h => h) (fun h => h)
theorem RTypIs.lta {w : World} {a g cap : Nat} {t : TypS} (h : RTypIs w a g cap t) : a < w.heap.size := lt_of_block h.box
theorem RTypIs.ltg {w : World} {a g cap : Nat} {t : TypS} (h : RTypIs w a g cap t) : g < w.heap.size := by obtain ⟨_, hr, _⟩ := h.row; exact lt_of_block hr
theorem RTypIs.cell0 {w : World} {a g cap : Nat} {t : TypS} (h : RTypIs w a g cap t) : w.cell? ⟨a, 0, none⟩ = some (.slice (some ⟨g, 0, none⟩) t.n cap) := by rw [cell_of h.box]; rfl
theorem RTypIs.at {w : World} {a g cap : Nat} {t : TypS} (h : RTypIs w a g cap t) {f : Nat} (hf : f < t.n) :
    w.cell? ⟨g, f * 4, none⟩ = some (.int .i64 (t.k f)) ∧ w.cell? ⟨g, f * 4 + 1, none⟩ = some (.int .i64 (t.c f)) ∧ w.cell? ⟨g, f * 4 + 2, none⟩ = some (.int .i64 (t.fr f)) ∧ w.cell? ⟨g, f * 4 + 3, none⟩ = some (.int .i64 (t.wa f)) := by
  obtain ⟨arr, hr, hc⟩ := h.row
  simp only [cell_of hr]
  exact ⟨hc f 0 hf (by decide), hc f 1 hf (by decide), hc f 2 hf (by decide), hc f 3 hf (by decide)⟩
theorem RTypIs.free {w : World} {a g cap : Nat} {t : TypS} (h : RTypIs w a g cap t) (o : Nat) : w.frozen? ⟨g, o, none⟩ = false := by
  obtain ⟨arr, hr, hc⟩ := h.row; exact frozen_of hr o
/-- One cell turned. -/
theorem RTypIs.set {w : World} {a g cap : Nat} {t t' : TypS} (h : RTypIs w a g cap t) (f o : Nat) (hf : f < t.n) (ho : o < 4) (v : Value) (hn : t'.n = t.n) (hv : tcell t' f o = v)
    (hs : ∀ f' o', (f' ≠ f ∨ o' ≠ o) → o' < 4 → tcell t' f' o' = tcell t f' o') : RTypIs (w.setCell ⟨g, f * 4 + o, none⟩ v) a g cap t' := by
  obtain ⟨arr, hr, hc⟩ := h.row
  refine ⟨by rw [hn]; exact heap_set_ne h.box _ h.ne, ⟨_, heap_set hr _, ?_⟩, h.ne⟩
  intro f' o' hf' ho'
  rw [hn] at hf'
  have hlt : f' * 4 + o' < arr.size := by
    have := hc f' o' hf' ho'
    rcases Nat.lt_or_ge (f' * 4 + o') arr.size with h | h
    · exact h
    · rw [Array.getElem?_eq_none h] at this; cases this
  rw [Array.getElem?_setIfInBounds]
  by_cases e : f * 4 + o = f' * 4 + o'
  · have e1 : f' = f := by omega
    have e2 : o' = o := by omega
    subst e1; subst e2
    rw [if_pos rfl, if_pos hlt, hv]
  · rw [if_neg e, hc f' o' hf' ho', hs f' o' (by omega) ho']

theorem RTypIs.setk {w : World} {a g cap : Nat} {t : TypS} (h : RTypIs w a g cap t) (f : Nat) (hf : f < t.n) (x : Int) : RTypIs (w.setCell ⟨g, f * 4, none⟩ (.int .i64 x)) a g cap { t with k := upd t.k f x } :=
  h.set f 0 hf (by decide) _ rfl (by simp [tcell, upd]) (fun f' o' hn ho => by
    match o', ho with
    | 0, _ => simp only [tcell]; rw [upd_ne _ _ _ _ (by omega)]
    | 1, _ => rfl
    | 2, _ => rfl
    | 3, _ => rfl)
theorem RTypIs.setfr {w : World} {a g cap : Nat} {t : TypS} (h : RTypIs w a g cap t) (f : Nat) (hf : f < t.n) (x : Int) : RTypIs (w.setCell ⟨g, f * 4 + 2, none⟩ (.int .i64 x)) a g cap { t with fr := upd t.fr f x } :=
  h.set f 2 hf (by decide) _ rfl (by simp [tcell, upd]) (fun f' o' hn ho => by
    match o', ho with
    | 0, _ => rfl
    | 1, _ => rfl
    | 2, _ => simp only [tcell]; rw [upd_ne _ _ _ _ (by omega)]
    | 3, _ => rfl)
theorem RTypIs.setwa {w : World} {a g cap : Nat} {t : TypS} (h : RTypIs w a g cap t) (f : Nat) (hf : f < t.n) (x : Int) : RTypIs (w.setCell ⟨g, f * 4 + 3, none⟩ (.int .i64 x)) a g cap { t with wa := upd t.wa f x } :=
  h.set f 3 hf (by decide) _ rfl (by simp [tcell, upd]) (fun f' o' hn ho => by
    match o', ho with
    | 0, _ => rfl
    | 1, _ => rfl
    | 2, _ => rfl
    | 3, _ => simp only [tcell]; rw [upd_ne _ _ _ _ (by omega)])
theorem RTypIs.setc {w : World} {a g cap : Nat} {t : TypS} (h : RTypIs w a g cap t) (f : Nat) (hf : f < t.n) (x : Int) : RTypIs (w.setCell ⟨g, f * 4 + 1, none⟩ (.int .i64 x)) a g cap { t with c := upd t.c f x } :=
  h.set f 1 hf (by decide) _ rfl (by simp [tcell, upd]) (fun f' o' hn ho => by
    match o', ho with
    | 0, _ => rfl
    | 1, _ => simp only [tcell]; rw [upd_ne _ _ _ _ (by omega)]
    | 2, _ => rfl
    | 3, _ => rfl)

theorem r6_is (a g cap : Nat) (t : TypS) (f : Int) (w : World) (h : RTypIs w a g cap t) : Calls Tryz.prog 185 #[.pointer (some ⟨a, 0, none⟩), .int .i64 f] w fun e w' => e = .returned (.bool (decide (t.can f = 0))) ∧ w = w' := by
  have g0 := h.cell0
  unfold TypS.can
  by_cases h0 : f < 0
  · rw [if_pos h0]
    have h0' : ¬ 0 ≤ f := by omega
    go_enter Tryz.func185, Tryz.ntmps185
    go_wp2
    go_ret
    exact ⟨rfl, rfl⟩
  rw [if_neg h0]
  have h0' : 0 ≤ f := by omega
  by_cases h1 : (t.n : Int) ≤ f
  · rw [if_pos h1]
    have h1' : ¬ f < t.n := by omega
    go_enter Tryz.func185, Tryz.ntmps185
    go_wp2
    go_ret
    exact ⟨rfl, rfl⟩
  · rw [if_neg h1]
    have h1' : f < t.n := by omega
    go_enter Tryz.func185, Tryz.ntmps185
    go_wp2
    go_ret
    exact ⟨rfl, rfl⟩
theorem is_yes {t : TypS} {f : Int} (h : t.can f = 0) : decide (t.can f = 0) = true := by simp [h]
theorem is_no {t : TypS} {f : Int} (h : t.can f = 1) : decide (t.can f = 0) = false := by simp [h]
theorem r6_of (a g cap : Nat) (t : TypS) (f : Int) (w : World) (h : RTypIs w a g cap t) : Calls Tryz.prog 95 #[.pointer (some ⟨a, 0, none⟩), .int .i64 f] w fun e w' =>
    e = .returned (.agg (if t.can f = 0 then #[.int .i64 (t.k f.toNat), .int .i64 (t.c f.toNat), .int .i64 (t.fr f.toNat), .int .i64 (t.wa f.toNat)] else #[.int .i64 0, .int .i64 0, .int .i64 (-1), .int .i64 0])) ∧ Below w.heap.size w w' := by
  have hA : ∀ o, RTypIs (w.alloc o) a g cap t := fun o => h.after (by (refine Touch.below0 ?_; (repeat' (first | (with_reducible exact Touch.refl _ _) | (with_reducible assumption) | (with_reducible refine Touch.drew ?_) | (with_reducible refine Touch.drewN ?_ _) | (with_reducible refine Touch.alloc ?_ _) | (with_reducible refine Touch.setCell ?_ _ _ _ ?_) | (with_reducible refine Touch.step (by assumption) ?_) | (with_reducible refine Touch.stepT (by assumption) ?_ ?_) | (intro _; first | rfl | trivial | omega | (simp; done) | (simp; omega)) | (intro _ _; first | omega | (simp; done) | (simp; omega))))))
  have hl := h.ltg
  have hl0 := h.lta
  have g0 := h.cell0
  rcases t.can_cases f with ⟨hc, f0, fn⟩ | hc
  · rw [if_pos hc]
    have hc := is_yes hc
    have HC := Lib.hid hc; clear hc
    obtain ⟨c0, c1, c2, c3⟩ := h.at (f := f.toNat) (by omega)
    go_enter Tryz.func95, Tryz.ntmps95
    go_wp2_with ((go_at_call 185; (with_reducible refine (r6_is _ _ _ t _ _ (hA _)).mono ?_); rintro e w' ⟨rfl, rfl⟩); rw [HC.out])
    ((try simp only [Exit.inBlock, Exit.then]); refine bodyPost_ret (results_cell_row rfl _ _ w.heap.size 158 #[.int .i64 (t.k f.toNat), .int .i64 (t.c f.toNat), .int .i64 (t.fr f.toNat), .int .i64 (t.wa f.toNat)] (0, 0) _ rfl ?_ Tryz.underlying158 rfl (by kernel_rfl)) rfl ?_)
    · exact heap_new _ _
    exact ⟨rfl, by (refine Touch.below0 ?_; (repeat' (first | (with_reducible exact Touch.refl _ _) | (with_reducible assumption) | (with_reducible refine Touch.drew ?_) | (with_reducible refine Touch.drewN ?_ _) | (with_reducible refine Touch.alloc ?_ _) | (with_reducible refine Touch.setCell ?_ _ _ _ ?_) | (with_reducible refine Touch.step (by assumption) ?_) | (with_reducible refine Touch.stepT (by assumption) ?_ ?_) | (intro _; first | rfl | trivial | omega | (simp; done) | (simp; omega)) | (intro _ _; first | omega | (simp; done) | (simp; omega)))))⟩
  · rw [if_neg (by omega)]
    have hc := is_no hc
    have HC := Lib.hid hc; clear hc
    go_enter Tryz.func95, Tryz.ntmps95
    go_wp2_with ((go_at_call 185; (with_reducible refine (r6_is _ _ _ t _ _ (hA _)).mono ?_); rintro e w' ⟨rfl, rfl⟩); rw [HC.out])
    ((try simp only [Exit.inBlock, Exit.then]); refine bodyPost_ret (results_cell_row rfl _ _ w.heap.size 158 #[.int .i64 0, .int .i64 0, .int .i64 (-1), .int .i64 0] (0, 0) _ rfl ?_ Tryz.underlying158 rfl (by kernel_rfl)) rfl ?_)
    · exact heap_new _ _
    exact ⟨rfl, by (refine Touch.below0 ?_; (repeat' (first | (with_reducible exact Touch.refl _ _) | (with_reducible assumption) | (with_reducible refine Touch.drew ?_) | (with_reducible refine Touch.drewN ?_ _) | (with_reducible refine Touch.alloc ?_ _) | (with_reducible refine Touch.setCell ?_ _ _ _ ?_) | (with_reducible refine Touch.step (by assumption) ?_) | (with_reducible refine Touch.stepT (by assumption) ?_ ?_) | (intro _; first | rfl | trivial | omega | (simp; done) | (simp; omega)) | (intro _ _; first | omega | (simp; done) | (simp; omega)))))⟩
set_option maxHeartbeats 4000000 in
theorem r6_retype (a g cap : Nat) (t : TypS) (f kd : Int) (q : Bool) (w : World) (h : RTypIs w a g cap t) : Calls Tryz.prog 110 #[.pointer (some ⟨a, 0, none⟩), .int .i64 f, .int .i64 kd, .bool q] w fun e w' =>
    e = .returned (.int .i64 (t.retypeE f kd q)) ∧ RTypIs w' a g cap (t.retype f kd q) ∧ Touch (· = g) w w' := by
  rcases t.can_cases f with ⟨hc, f0, fn⟩ | hc
  · have g0 := h.cell0
    obtain ⟨c0, c1, c2, c3⟩ := h.at (f := f.toNat) (by omega)
    have gf := h.free
    by_cases ht : kd ≠ 1 ∧ kd ≠ 2
    · have hE : t.retypeE f kd q = 1 := by simp [TypS.retypeE, hc, ht]
      rw [TypS.retype, hE, if_neg (by decide)]
      have hc := is_yes hc
      have HC := Lib.hid hc; clear hc
      obtain ⟨ht1, ht2⟩ := ht
      have ht3 : (kd != 1) = true := by simpa using ht1
      have ht4 : (kd != 2) = true := by simpa using ht2
      go_enter Tryz.func110, Tryz.ntmps110
      go_wp2_with ((go_at_call 185; (with_reducible refine (r6_is _ _ _ t _ _ h).mono ?_); rintro e w' ⟨rfl, rfl⟩); rw [HC.out])
      go_ret
      exact ⟨rfl, h, Touch.refl _ _⟩
    · by_cases hk : t.k f.toNat = 0
      · cases q
        · have hE : t.retypeE f kd false = 6 := by simp [TypS.retypeE, hc, hk]; omega
          rw [TypS.retype, hE, if_neg (by decide)]
          have hc := is_yes hc
          have HC := Lib.hid hc; clear hc
          obtain rfl | rfl : kd = 1 ∨ kd = 2 := by omega
          all_goals
            go_enter Tryz.func110, Tryz.ntmps110
            go_wp2_with ((go_at_call 185; (with_reducible refine (r6_is _ _ _ t _ _ h).mono ?_); rintro e w' ⟨rfl, rfl⟩); rw [HC.out])
            go_ret
            exact ⟨rfl, h, Touch.refl _ _⟩
        · have hE : t.retypeE f kd true = 0 := by simp [TypS.retypeE, hc, hk]; omega
          rw [TypS.retype, hE, if_pos rfl]
          have hc := is_yes hc
          have HC := Lib.hid hc; clear hc
          have hset := h.setk f.toNat (by omega) kd
          obtain rfl | rfl : kd = 1 ∨ kd = 2 := by omega
          all_goals
            go_enter Tryz.func110, Tryz.ntmps110
            go_wp2_with ((go_at_call 185; (with_reducible refine (r6_is _ _ _ t _ _ h).mono ?_); rintro e w' ⟨rfl, rfl⟩); rw [HC.out])
            go_ret
            exact ⟨rfl, hset, by (repeat' (first | (with_reducible exact Touch.refl _ _) | (with_reducible assumption) | (with_reducible refine Touch.drew ?_) | (with_reducible refine Touch.drewN ?_ _) | (with_reducible refine Touch.alloc ?_ _) | (with_reducible refine Touch.setCell ?_ _ _ _ ?_) | (with_reducible refine Touch.step (by assumption) ?_) | (with_reducible refine Touch.stepT (by assumption) ?_ ?_) | (intro _; first | rfl | trivial | omega | (simp; done) | (simp; omega)) | (intro _ _; first | omega | (simp; done) | (simp; omega))))⟩
      · have hE : t.retypeE f kd q = 4 := by simp [TypS.retypeE, hc, hk]; omega
        rw [TypS.retype, hE, if_neg (by decide)]
        have hc := is_yes hc
        have HC := Lib.hid hc; clear hc
        obtain rfl | rfl : kd = 1 ∨ kd = 2 := by omega
        all_goals
          go_enter Tryz.func110, Tryz.ntmps110
          go_wp2_with ((go_at_call 185; (with_reducible refine (r6_is _ _ _ t _ _ h).mono ?_); rintro e w' ⟨rfl, rfl⟩); rw [HC.out])
          go_ret
          exact ⟨rfl, h, Touch.refl _ _⟩
  · have hE : t.retypeE f kd q = 1 := by simp [TypS.retypeE, hc]
    rw [TypS.retype, hE, if_neg (by decide)]
    have hc := is_no hc
    have HC := Lib.hid hc; clear hc
    go_enter Tryz.func110, Tryz.ntmps110
    go_wp2_with ((go_at_call 185; (with_reducible refine (r6_is _ _ _ t _ _ h).mono ?_); rintro e w' ⟨rfl, rfl⟩); rw [HC.out])
    go_ret
    exact ⟨rfl, h, Touch.refl _ _⟩
set_option maxHeartbeats 4000000 in
theorem r6_ref (a g cap : Nat) (t : TypS) (f : Int) (w : World) (h : RTypIs w a g cap t) (ok : t.Ok) : Calls Tryz.prog 173 #[.pointer (some ⟨a, 0, none⟩), .int .i64 f] w fun e w' =>
    e = .returned (.int .i64 (t.refE f)) ∧ RTypIs w' a g cap (t.ref f) ∧ Touch (· = g) w w' := by
  rcases t.can_cases f with ⟨hc, f0, fn⟩ | hc
  · have g0 := h.cell0
    have hf : f.toNat < t.n := by omega
    obtain ⟨c0, c1, c2, c3⟩ := h.at hf
    have gf := h.free
    have b0 := ok.c0 f.toNat; have b1 := ok.c1 f.toNat
    by_cases hk : t.k f.toNat = 0
    · have hE : t.refE f = 4 := by simp [TypS.refE, hc, hk]
      rw [TypS.ref, hE, if_neg (by decide)]
      have hc := is_yes hc
      have HC := Lib.hid hc; clear hc
      go_enter Tryz.func173, Tryz.ntmps173
      go_wp2_with ((go_at_call 185; (with_reducible refine (r6_is _ _ _ t _ _ h).mono ?_); rintro e w' ⟨rfl, rfl⟩); rw [HC.out])
      go_ret
      exact ⟨rfl, h, Touch.refl _ _⟩
    by_cases hm : 1000 ≤ t.c f.toNat
    · have hE : t.refE f = 2 := by simp [TypS.refE, hc, hk, hm]
      rw [TypS.ref, hE, if_neg (by decide)]
      have hc := is_yes hc
      have HC := Lib.hid hc; clear hc
      go_enter Tryz.func173, Tryz.ntmps173
      go_wp2_with ((go_at_call 185; (with_reducible refine (r6_is _ _ _ t _ _ h).mono ?_); rintro e w' ⟨rfl, rfl⟩); rw [HC.out])
      go_ret
      exact ⟨rfl, h, Touch.refl _ _⟩
    · have hE : t.refE f = 0 := by simp [TypS.refE, hc, hk, hm]
      rw [TypS.ref, hE, if_pos rfl]
      have hc := is_yes hc
      have HC := Lib.hid hc; clear hc
      have h1 := h.setc f.toNat hf (t.c f.toNat + 1)
      go_enter Tryz.func173, Tryz.ntmps173
      go_wp2_with ((go_at_call 185; (with_reducible refine (r6_is _ _ _ t _ _ h).mono ?_); rintro e w' ⟨rfl, rfl⟩); rw [HC.out])
      go_ret
      exact ⟨rfl, h1, by (repeat' (first | (with_reducible exact Touch.refl _ _) | (with_reducible assumption) | (with_reducible refine Touch.drew ?_) | (with_reducible refine Touch.drewN ?_ _) | (with_reducible refine Touch.alloc ?_ _) | (with_reducible refine Touch.setCell ?_ _ _ _ ?_) | (with_reducible refine Touch.step (by assumption) ?_) | (with_reducible refine Touch.stepT (by assumption) ?_ ?_) | (intro _; first | rfl | trivial | omega | (simp; done) | (simp; omega)) | (intro _ _; first | omega | (simp; done) | (simp; omega))))⟩
  · have hE : t.refE f = 1 := by simp [TypS.refE, hc]
    rw [TypS.ref, hE, if_neg (by decide)]
    have hc := is_no hc
    have HC := Lib.hid hc; clear hc
    go_enter Tryz.func173, Tryz.ntmps173
    go_wp2_with ((go_at_call 185; (with_reducible refine (r6_is _ _ _ t _ _ h).mono ?_); rintro e w' ⟨rfl, rfl⟩); rw [HC.out])
    go_ret
    exact ⟨rfl, h, Touch.refl _ _⟩
end Go.Proofs.YtmahledpcpdldaaGreat
/- R06b -/
set_option linter.unusedVariables false
set_option linter.unusedSimpArgs false
namespace Go.Proofs.YtmahledpcpdldaaGreat
open Go.RowKit
set_option maxHeartbeats 4000000 in
theorem r6_unref (a g cap : Nat) (t : TypS) (f now : Int) (w : World) (h : RTypIs w a g cap t) (ok : t.Ok) : Calls Tryz.prog 174 #[.pointer (some ⟨a, 0, none⟩), .int .i64 f, .int .i64 now] w fun e w' =>
    e = .returned (.int .i64 (t.unrefE f)) ∧ RTypIs w' a g cap (t.unref f now) ∧ Touch (· = g) w w' := by
  rcases t.can_cases f with ⟨hc, f0, fn⟩ | hc
  · have g0 := h.cell0
    have hf : f.toNat < t.n := by omega
    obtain ⟨c0, c1, c2, c3⟩ := h.at hf
    have gf := h.free
    have hne := h.ne
    have b0 := ok.c0 f.toNat; have b1 := ok.c1 f.toNat
    by_cases hk : t.c f.toNat = 0
    · have hE : t.unrefE f = 3 := by simp [TypS.unrefE, hc, hk]
      rw [TypS.unref, hE, if_neg (by decide)]
      have hc := is_yes hc
      have HC := Lib.hid hc; clear hc
      go_enter Tryz.func174, Tryz.ntmps174
      go_wp2_with ((go_at_call 185; (with_reducible refine (r6_is _ _ _ t _ _ h).mono ?_); rintro e w' ⟨rfl, rfl⟩); rw [HC.out])
      go_ret
      exact ⟨rfl, h, Touch.refl _ _⟩
    have hE : t.unrefE f = 0 := by simp [TypS.unrefE, hc, hk]
    rw [TypS.unref, hE, if_pos rfl]
    have hc := is_yes hc
    have HC := Lib.hid hc; clear hc
    have h1 := h.setc f.toNat hf (t.c f.toNat - 1)
    by_cases he : t.c f.toNat = 1
    · rw [if_pos he]
      have h2 := h1.setfr f.toNat hf (max (t.fr f.toNat) now)
      have he0 : t.c f.toNat - 1 = 0 := by omega
      rw [he0] at h1 h2 ⊢
      rw [he] at c1
      clear he he0
      by_cases hx : t.fr f.toNat < now
      · rw [show max (t.fr f.toNat) now = now by omega] at h2 ⊢
        go_enter Tryz.func174, Tryz.ntmps174
        go_wp2_with ((go_at_call 185; (with_reducible refine (r6_is _ _ _ t _ _ h).mono ?_); rintro e w' ⟨rfl, rfl⟩); rw [HC.out])
        go_region
        go_wp2
        go_ret
        exact ⟨rfl, h2.after ((Below.refl _ _).drew), by (repeat' (first | (with_reducible exact Touch.refl _ _) | (with_reducible assumption) | (with_reducible refine Touch.drew ?_) | (with_reducible refine Touch.drewN ?_ _) | (with_reducible refine Touch.alloc ?_ _) | (with_reducible refine Touch.setCell ?_ _ _ _ ?_) | (with_reducible refine Touch.step (by assumption) ?_) | (with_reducible refine Touch.stepT (by assumption) ?_ ?_) | (intro _; first | rfl | trivial | omega | (simp; done) | (simp; omega)) | (intro _ _; first | omega | (simp; done) | (simp; omega))))⟩
      · rw [show max (t.fr f.toNat) now = t.fr f.toNat by omega] at h2 ⊢
        go_enter Tryz.func174, Tryz.ntmps174
        go_wp2_with ((go_at_call 185; (with_reducible refine (r6_is _ _ _ t _ _ h).mono ?_); rintro e w' ⟨rfl, rfl⟩); rw [HC.out])
        go_region
        go_wp2
        go_ret
        exact ⟨rfl, h2.after ((Below.refl _ _).drew), by (repeat' (first | (with_reducible exact Touch.refl _ _) | (with_reducible assumption) | (with_reducible refine Touch.drew ?_) | (with_reducible refine Touch.drewN ?_ _) | (with_reducible refine Touch.alloc ?_ _) | (with_reducible refine Touch.setCell ?_ _ _ _ ?_) | (with_reducible refine Touch.step (by assumption) ?_) | (with_reducible refine Touch.stepT (by assumption) ?_ ?_) | (intro _; first | rfl | trivial | omega | (simp; done) | (simp; omega)) | (intro _ _; first | omega | (simp; done) | (simp; omega))))⟩
    · rw [if_neg he]
      have hne1 : ¬ t.c f.toNat - 1 = 0 := by omega
      go_enter Tryz.func174, Tryz.ntmps174
      go_wp2_with ((go_at_call 185; (with_reducible refine (r6_is _ _ _ t _ _ h).mono ?_); rintro e w' ⟨rfl, rfl⟩); rw [HC.out])
      go_ret
      exact ⟨rfl, h1, by (repeat' (first | (with_reducible exact Touch.refl _ _) | (with_reducible assumption) | (with_reducible refine Touch.drew ?_) | (with_reducible refine Touch.drewN ?_ _) | (with_reducible refine Touch.alloc ?_ _) | (with_reducible refine Touch.setCell ?_ _ _ _ ?_) | (with_reducible refine Touch.step (by assumption) ?_) | (with_reducible refine Touch.stepT (by assumption) ?_ ?_) | (intro _; first | rfl | trivial | omega | (simp; done) | (simp; omega)) | (intro _ _; first | omega | (simp; done) | (simp; omega))))⟩
  · have hE : t.unrefE f = 1 := by simp [TypS.unrefE, hc]
    rw [TypS.unref, hE, if_neg (by decide)]
    have hc := is_no hc
    have HC := Lib.hid hc; clear hc
    go_enter Tryz.func174, Tryz.ntmps174
    go_wp2_with ((go_at_call 185; (with_reducible refine (r6_is _ _ _ t _ _ h).mono ?_); rintro e w' ⟨rfl, rfl⟩); rw [HC.out])
    go_ret
    exact ⟨rfl, h, Touch.refl _ _⟩
theorem upd_eq {α : Type} {f : Nat → α} {i : Nat} {x : α} (h : f i = x) : upd f i x = f := by
  funext j; unfold upd; split
  · next e => rw [e, h]
  · rfl
theorem RTypIs.set4 {w : World} {a g cap : Nat} {t : TypS} (h : RTypIs w a g cap t) {f : Nat} (hf : f < t.n) (hc : t.c f = 0) (x z u : Int) :
    RTypIs ((((w.setCell ⟨g, f * 4, none⟩ (.int .i64 x)).setCell ⟨g, f * 4 + 1, none⟩ (.int .i64 0)).setCell ⟨g, f * 4 + 2, none⟩ (.int .i64 z)).setCell ⟨g, f * 4 + 3, none⟩ (.int .i64 u)) a g cap { t with k := upd t.k f x, fr := upd t.fr f z, wa := upd t.wa f u } := by
  have h4 := (((h.setk f hf x).setc f hf 0).setfr f hf z).setwa f hf u
  dsimp only at h4
  rw [upd_eq hc] at h4
  exact h4
set_option maxHeartbeats 4000000 in
theorem r6_untype (a g cap : Nat) (t : TypS) (f now : Int) (pages : Bool) (w : World) (h : RTypIs w a g cap t) : Calls Tryz.prog 87 #[.pointer (some ⟨a, 0, none⟩), .int .i64 f, .int .i64 now, .bool pages] w fun e w' =>
    e = .returned (.int .i64 (t.untypeE f)) ∧ RTypIs w' a g cap (t.untype f now pages) ∧ Touch (· = g) w w' := by
  have hA : ∀ o, RTypIs (w.alloc o) a g cap t := fun o => h.after (by (refine Touch.below0 ?_; (repeat' (first | (with_reducible exact Touch.refl _ _) | (with_reducible assumption) | (with_reducible refine Touch.drew ?_) | (with_reducible refine Touch.drewN ?_ _) | (with_reducible refine Touch.alloc ?_ _) | (with_reducible refine Touch.setCell ?_ _ _ _ ?_) | (with_reducible refine Touch.step (by assumption) ?_) | (with_reducible refine Touch.stepT (by assumption) ?_ ?_) | (intro _; first | rfl | trivial | omega | (simp; done) | (simp; omega)) | (intro _ _; first | omega | (simp; done) | (simp; omega))))))
  rcases t.can_cases f with ⟨hc, f0, fn⟩ | hc
  · have g0 := h.cell0
    have hf : f.toNat < t.n := by omega
    obtain ⟨c0, c1, c2, c3⟩ := h.at hf
    have gf := h.free
    have hl := h.ltg
    have hl0 := h.lta
    by_cases hk : t.k f.toNat = 0
    · have hE : t.untypeE f = 4 := by simp [TypS.untypeE, hc, hk]
      rw [TypS.untype, hE, if_neg (by decide)]
      have hc := is_yes hc
      have HC := Lib.hid hc; clear hc
      go_enter Tryz.func87, Tryz.ntmps87
      go_wp2_with ((go_at_call 185; (with_reducible refine (r6_is _ _ _ t _ _ h).mono ?_); rintro e w' ⟨rfl, rfl⟩); rw [HC.out])
      go_ret
      exact ⟨rfl, hA _, by (repeat' (first | (with_reducible exact Touch.refl _ _) | (with_reducible assumption) | (with_reducible refine Touch.drew ?_) | (with_reducible refine Touch.drewN ?_ _) | (with_reducible refine Touch.alloc ?_ _) | (with_reducible refine Touch.setCell ?_ _ _ _ ?_) | (with_reducible refine Touch.step (by assumption) ?_) | (with_reducible refine Touch.stepT (by assumption) ?_ ?_) | (intro _; first | rfl | trivial | omega | (simp; done) | (simp; omega)) | (intro _ _; first | omega | (simp; done) | (simp; omega))))⟩
    by_cases hcc : t.c f.toNat = 0
    · have hE : t.untypeE f = 0 := by simp [TypS.untypeE, hc, hk, hcc]
      rw [TypS.untype, hE, if_pos rfl]
      have hc := is_yes hc
      have HC := Lib.hid hc; clear hc
      by_cases hx : t.fr f.toNat < now
      · have hmx : max (t.fr f.toNat) now = now := by omega
        rw [hmx]; clear hmx
        by_cases hp : pages = true ∧ t.k f.toNat = 2
        · rw [if_pos hp]
          obtain ⟨rfl, hk2⟩ := hp
          go_enter Tryz.func87, Tryz.ntmps87
          go_wp2_with ((go_at_call 185; (with_reducible refine (r6_is _ _ _ t _ _ h).mono ?_); rintro e w' ⟨rfl, rfl⟩); rw [HC.out])
          go_region
          go_wp2
          go_ret
          exact ⟨rfl, ((h.set4 hf hcc 0 now 3).after (show Below _ _ (World.alloc _ _) by (refine Touch.below0 ?_; (repeat' (first | (with_reducible exact Touch.refl _ _) | (with_reducible assumption) | (with_reducible refine Touch.drew ?_) | (with_reducible refine Touch.drewN ?_ _) | (with_reducible refine Touch.alloc ?_ _) | (with_reducible refine Touch.setCell ?_ _ _ _ ?_) | (with_reducible refine Touch.step (by assumption) ?_) | (with_reducible refine Touch.stepT (by assumption) ?_ ?_) | (intro _; first | rfl | trivial | omega | (simp; done) | (simp; omega)) | (intro _ _; first | omega | (simp; done) | (simp; omega))))))).after ((Below.refl _ _).drew), by (repeat' (first | (with_reducible exact Touch.refl _ _) | (with_reducible assumption) | (with_reducible refine Touch.drew ?_) | (with_reducible refine Touch.drewN ?_ _) | (with_reducible refine Touch.alloc ?_ _) | (with_reducible refine Touch.setCell ?_ _ _ _ ?_) | (with_reducible refine Touch.step (by assumption) ?_) | (with_reducible refine Touch.stepT (by assumption) ?_ ?_) | (intro _; first | rfl | trivial | omega | (simp; done) | (simp; omega)) | (intro _ _; first | omega | (simp; done) | (simp; omega))))⟩
        · rw [if_neg hp]
          cases pages
          · clear hp
            go_enter Tryz.func87, Tryz.ntmps87
            go_wp2_with ((go_at_call 185; (with_reducible refine (r6_is _ _ _ t _ _ h).mono ?_); rintro e w' ⟨rfl, rfl⟩); rw [HC.out])
            go_region
            go_wp2
            go_ret
            exact ⟨rfl, ((h.set4 hf hcc 0 now (t.k f.toNat)).after (show Below _ _ (World.alloc _ _) by (refine Touch.below0 ?_; (repeat' (first | (with_reducible exact Touch.refl _ _) | (with_reducible assumption) | (with_reducible refine Touch.drew ?_) | (with_reducible refine Touch.drewN ?_ _) | (with_reducible refine Touch.alloc ?_ _) | (with_reducible refine Touch.setCell ?_ _ _ _ ?_) | (with_reducible refine Touch.step (by assumption) ?_) | (with_reducible refine Touch.stepT (by assumption) ?_ ?_) | (intro _; first | rfl | trivial | omega | (simp; done) | (simp; omega)) | (intro _ _; first | omega | (simp; done) | (simp; omega))))))).after ((Below.refl _ _).drew), by (repeat' (first | (with_reducible exact Touch.refl _ _) | (with_reducible assumption) | (with_reducible refine Touch.drew ?_) | (with_reducible refine Touch.drewN ?_ _) | (with_reducible refine Touch.alloc ?_ _) | (with_reducible refine Touch.setCell ?_ _ _ _ ?_) | (with_reducible refine Touch.step (by assumption) ?_) | (with_reducible refine Touch.stepT (by assumption) ?_ ?_) | (intro _; first | rfl | trivial | omega | (simp; done) | (simp; omega)) | (intro _ _; first | omega | (simp; done) | (simp; omega))))⟩
          · have hk2 : ¬ t.k f.toNat = 2 := fun e => hp ⟨rfl, e⟩
            clear hp
            go_enter Tryz.func87, Tryz.ntmps87
            go_wp2_with ((go_at_call 185; (with_reducible refine (r6_is _ _ _ t _ _ h).mono ?_); rintro e w' ⟨rfl, rfl⟩); rw [HC.out])
            go_region
            go_wp2
            go_ret
            exact ⟨rfl, ((h.set4 hf hcc 0 now (t.k f.toNat)).after (show Below _ _ (World.alloc _ _) by (refine Touch.below0 ?_; (repeat' (first | (with_reducible exact Touch.refl _ _) | (with_reducible assumption) | (with_reducible refine Touch.drew ?_) | (with_reducible refine Touch.drewN ?_ _) | (with_reducible refine Touch.alloc ?_ _) | (with_reducible refine Touch.setCell ?_ _ _ _ ?_) | (with_reducible refine Touch.step (by assumption) ?_) | (with_reducible refine Touch.stepT (by assumption) ?_ ?_) | (intro _; first | rfl | trivial | omega | (simp; done) | (simp; omega)) | (intro _ _; first | omega | (simp; done) | (simp; omega))))))).after ((Below.refl _ _).drew), by (repeat' (first | (with_reducible exact Touch.refl _ _) | (with_reducible assumption) | (with_reducible refine Touch.drew ?_) | (with_reducible refine Touch.drewN ?_ _) | (with_reducible refine Touch.alloc ?_ _) | (with_reducible refine Touch.setCell ?_ _ _ _ ?_) | (with_reducible refine Touch.step (by assumption) ?_) | (with_reducible refine Touch.stepT (by assumption) ?_ ?_) | (intro _; first | rfl | trivial | omega | (simp; done) | (simp; omega)) | (intro _ _; first | omega | (simp; done) | (simp; omega))))⟩
      · have hmx : max (t.fr f.toNat) now = (t.fr f.toNat) := by omega
        rw [hmx]; clear hmx
        by_cases hp : pages = true ∧ t.k f.toNat = 2
        · rw [if_pos hp]
          obtain ⟨rfl, hk2⟩ := hp
          go_enter Tryz.func87, Tryz.ntmps87
          go_wp2_with ((go_at_call 185; (with_reducible refine (r6_is _ _ _ t _ _ h).mono ?_); rintro e w' ⟨rfl, rfl⟩); rw [HC.out])
          go_region
          go_wp2
          go_ret
          exact ⟨rfl, ((h.set4 hf hcc 0 (t.fr f.toNat) 3).after (show Below _ _ (World.alloc _ _) by (refine Touch.below0 ?_; (repeat' (first | (with_reducible exact Touch.refl _ _) | (with_reducible assumption) | (with_reducible refine Touch.drew ?_) | (with_reducible refine Touch.drewN ?_ _) | (with_reducible refine Touch.alloc ?_ _) | (with_reducible refine Touch.setCell ?_ _ _ _ ?_) | (with_reducible refine Touch.step (by assumption) ?_) | (with_reducible refine Touch.stepT (by assumption) ?_ ?_) | (intro _; first | rfl | trivial | omega | (simp; done) | (simp; omega)) | (intro _ _; first | omega | (simp; done) | (simp; omega))))))).after ((Below.refl _ _).drew), by (repeat' (first | (with_reducible exact Touch.refl _ _) | (with_reducible assumption) | (with_reducible refine Touch.drew ?_) | (with_reducible refine Touch.drewN ?_ _) | (with_reducible refine Touch.alloc ?_ _) | (with_reducible refine Touch.setCell ?_ _ _ _ ?_) | (with_reducible refine Touch.step (by assumption) ?_) | (with_reducible refine Touch.stepT (by assumption) ?_ ?_) | (intro _; first | rfl | trivial | omega | (simp; done) | (simp; omega)) | (intro _ _; first | omega | (simp; done) | (simp; omega))))⟩
        · rw [if_neg hp]
          cases pages
          · clear hp
            go_enter Tryz.func87, Tryz.ntmps87
            go_wp2_with ((go_at_call 185; (with_reducible refine (r6_is _ _ _ t _ _ h).mono ?_); rintro e w' ⟨rfl, rfl⟩); rw [HC.out])
            go_region
            go_wp2
            go_ret
            exact ⟨rfl, ((h.set4 hf hcc 0 (t.fr f.toNat) (t.k f.toNat)).after (show Below _ _ (World.alloc _ _) by (refine Touch.below0 ?_; (repeat' (first | (with_reducible exact Touch.refl _ _) | (with_reducible assumption) | (with_reducible refine Touch.drew ?_) | (with_reducible refine Touch.drewN ?_ _) | (with_reducible refine Touch.alloc ?_ _) | (with_reducible refine Touch.setCell ?_ _ _ _ ?_) | (with_reducible refine Touch.step (by assumption) ?_) | (with_reducible refine Touch.stepT (by assumption) ?_ ?_) | (intro _; first | rfl | trivial | omega | (simp; done) | (simp; omega)) | (intro _ _; first | omega | (simp; done) | (simp; omega))))))).after ((Below.refl _ _).drew), by (repeat' (first | (with_reducible exact Touch.refl _ _) | (with_reducible assumption) | (with_reducible refine Touch.drew ?_) | (with_reducible refine Touch.drewN ?_ _) | (with_reducible refine Touch.alloc ?_ _) | (with_reducible refine Touch.setCell ?_ _ _ _ ?_) | (with_reducible refine Touch.step (by assumption) ?_) | (with_reducible refine Touch.stepT (by assumption) ?_ ?_) | (intro _; first | rfl | trivial | omega | (simp; done) | (simp; omega)) | (intro _ _; first | omega | (simp; done) | (simp; omega))))⟩
          · have hk2 : ¬ t.k f.toNat = 2 := fun e => hp ⟨rfl, e⟩
            clear hp
            go_enter Tryz.func87, Tryz.ntmps87
            go_wp2_with ((go_at_call 185; (with_reducible refine (r6_is _ _ _ t _ _ h).mono ?_); rintro e w' ⟨rfl, rfl⟩); rw [HC.out])
            go_region
            go_wp2
            go_ret
            exact ⟨rfl, ((h.set4 hf hcc 0 (t.fr f.toNat) (t.k f.toNat)).after (show Below _ _ (World.alloc _ _) by (refine Touch.below0 ?_; (repeat' (first | (with_reducible exact Touch.refl _ _) | (with_reducible assumption) | (with_reducible refine Touch.drew ?_) | (with_reducible refine Touch.drewN ?_ _) | (with_reducible refine Touch.alloc ?_ _) | (with_reducible refine Touch.setCell ?_ _ _ _ ?_) | (with_reducible refine Touch.step (by assumption) ?_) | (with_reducible refine Touch.stepT (by assumption) ?_ ?_) | (intro _; first | rfl | trivial | omega | (simp; done) | (simp; omega)) | (intro _ _; first | omega | (simp; done) | (simp; omega))))))).after ((Below.refl _ _).drew), by (repeat' (first | (with_reducible exact Touch.refl _ _) | (with_reducible assumption) | (with_reducible refine Touch.drew ?_) | (with_reducible refine Touch.drewN ?_ _) | (with_reducible refine Touch.alloc ?_ _) | (with_reducible refine Touch.setCell ?_ _ _ _ ?_) | (with_reducible refine Touch.step (by assumption) ?_) | (with_reducible refine Touch.stepT (by assumption) ?_ ?_) | (intro _; first | rfl | trivial | omega | (simp; done) | (simp; omega)) | (intro _ _; first | omega | (simp; done) | (simp; omega))))⟩
    · have hE : t.untypeE f = 10 := by simp [TypS.untypeE, hc, hk, hcc]
      rw [TypS.untype, hE, if_neg (by decide)]
      have hc := is_yes hc
      have HC := Lib.hid hc; clear hc
      go_enter Tryz.func87, Tryz.ntmps87
      go_wp2_with ((go_at_call 185; (with_reducible refine (r6_is _ _ _ t _ _ h).mono ?_); rintro e w' ⟨rfl, rfl⟩); rw [HC.out])
      go_ret
      exact ⟨rfl, hA _, by (repeat' (first | (with_reducible exact Touch.refl _ _) | (with_reducible assumption) | (with_reducible refine Touch.drew ?_) | (with_reducible refine Touch.drewN ?_ _) | (with_reducible refine Touch.alloc ?_ _) | (with_reducible refine Touch.setCell ?_ _ _ _ ?_) | (with_reducible refine Touch.step (by assumption) ?_) | (with_reducible refine Touch.stepT (by assumption) ?_ ?_) | (intro _; first | rfl | trivial | omega | (simp; done) | (simp; omega)) | (intro _ _; first | omega | (simp; done) | (simp; omega))))⟩
  · have hE : t.untypeE f = 1 := by simp [TypS.untypeE, hc]
    rw [TypS.untype, hE, if_neg (by decide)]
    have hc := is_no hc
    have HC := Lib.hid hc; clear hc
    go_enter Tryz.func87, Tryz.ntmps87
    go_wp2_with ((go_at_call 185; (with_reducible refine (r6_is _ _ _ t _ _ h).mono ?_); rintro e w' ⟨rfl, rfl⟩); rw [HC.out])
    go_ret
    exact ⟨rfl, h, Touch.refl _ _⟩
end Go.Proofs.YtmahledpcpdldaaGreat
