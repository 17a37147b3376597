/- What frames are (package typ): Ref, Unref. -/
import Derived.Test.YtmahledpcpdldaaGreatGTyp
set_option linter.unusedVariables false
set_option linter.unusedSimpArgs false
namespace Go.Proofs.YtmahledpcpdldaaGreat
open Go.RowKit

def TypS.refE (t : TypS) (f : Int) : Int := if t.can f ≠ 0 then 1 else if t.k f.toNat = 0 then 4 else if 1000 ≤ t.c f.toNat then 2 else 0
def TypS.ref (t : TypS) (f : Int) : TypS := if t.refE f = 0 then { t with c := upd t.c f.toNat (t.c f.toNat + 1) } else t
def TypS.unrefE (t : TypS) (f : Int) : Int := if t.can f ≠ 0 then 1 else if t.c f.toNat = 0 then 3 else 0
def TypS.unref (t : TypS) (f now : Int) : TypS := if t.unrefE f = 0 then (if t.c f.toNat = 1 then { t with c := upd t.c f.toNat (t.c f.toNat - 1), fr := upd t.fr f.toNat (max (t.fr f.toNat) now) } else { t with c := upd t.c f.toNat (t.c f.toNat - 1) }) else t

theorem upd_le {f : Nat → Int} {i : Nat} {x a : Int} (h : ∀ j, a ≤ f j) (hx : a ≤ x) : ∀ j, a ≤ upd f i x j := fun j => by unfold upd; split <;> first | exact hx | exact h j
theorem upd_ge {f : Nat → Int} {i : Nat} {x a : Int} (h : ∀ j, f j ≤ a) (hx : x ≤ a) : ∀ j, upd f i x j ≤ a := fun j => by unfold upd; split <;> first | exact hx | exact h j
theorem TypS.ref_ok {t : TypS} (ok : t.Ok) (f : Int) : (t.ref f).Ok := by
  unfold TypS.ref
  split
  · next h =>
    have : t.c f.toNat < 1000 := by
      unfold TypS.refE at h; split at h; · omega
      split at h; · omega
      split at h <;> omega
    have c0 := ok.c0 f.toNat
    exact ⟨ok.n1, ok.n64, ok.k0, ok.k2, upd_le ok.c0 (by omega), upd_ge ok.c1 (by omega), ok.f0, ok.f1, ok.w0, ok.w3⟩
  · exact ok
theorem TypS.unref_ok {t : TypS} (ok : t.Ok) (f : Int) {now : Int} (h1 : now ≤ 1073741824) : (t.unref f now).Ok := by
  unfold TypS.unref
  split
  · next h =>
    have c0 := ok.c0 f.toNat
    have c1 := ok.c1 f.toNat
    have hc : t.c f.toNat ≠ 0 := by
      unfold TypS.unrefE at h; split at h; · omega
      split at h <;> omega
    have f0 := ok.f0 f.toNat; have f1 := ok.f1 f.toNat
    split
    · exact ⟨ok.n1, ok.n64, ok.k0, ok.k2, upd_le ok.c0 (by omega), upd_ge ok.c1 (by omega), upd_le ok.f0 (by omega), upd_ge ok.f1 (by omega), ok.w0, ok.w3⟩
    · exact ⟨ok.n1, ok.n64, ok.k0, ok.k2, upd_le ok.c0 (by omega), upd_ge ok.c1 (by omega), ok.f0, ok.f1, ok.w0, ok.w3⟩
  · exact ok
theorem TypS.ref_n (t : TypS) (f : Int) : (t.ref f).n = t.n := by unfold TypS.ref; split <;> rfl
theorem TypS.unref_n (t : TypS) (f now : Int) : (t.unref f now).n = t.n := by unfold TypS.unref; split <;> (try split) <;> rfl

set_option maxHeartbeats 4000000 in
theorem typ_ref (a g cap : Nat) (t : TypS) (f : Int) (w : World) (h : TypIs w a g cap t) (ok : t.Ok) : Calls Tryz.prog 171 #[.pointer (some ⟨a, 0, none⟩), .int .i64 f] w fun e w' =>
    e = .returned (.int .i64 (t.refE f)) ∧ TypIs w' a g cap (t.ref f) ∧ Touch (· = g) w w' := by
  rcases t.can_cases f with ⟨hc, f0, fn⟩ | hc
  · have g0 := h.cell0
    have hf : f.toNat < t.n := by omega
    obtain ⟨c0, c1, c2, c3⟩ := h.at hf
    have gf := h.free
    have hl := h.ltg
    have hl0 := h.lta
    have hA : ∀ o, TypIs (w.alloc o) a g cap t := fun o => h.after (by (refine Touch.below0 ?_; (repeat' (first | (with_reducible exact Touch.refl _ _) | (with_reducible assumption) | (with_reducible refine Touch.drew ?_) | (with_reducible refine Touch.drewN ?_ _) | (with_reducible refine Touch.alloc ?_ _) | (with_reducible refine Touch.setCell ?_ _ _ _ ?_) | (with_reducible refine Touch.step (by assumption) ?_) | (with_reducible refine Touch.stepT (by assumption) ?_ ?_) | (intro _; first | rfl | trivial | omega | (simp; done) | (simp; omega)) | (intro _ _; first | omega | (simp; done) | (simp; omega))))))
    have b0 := ok.c0 f.toNat; have b1 := ok.c1 f.toNat
    by_cases hk : t.k f.toNat = 0
    · have hE : t.refE f = 4 := by simp [TypS.refE, hc, hk]
      rw [TypS.ref, hE, if_neg (by decide)]
      have HC := Lib.hid hc; clear hc
      go_enter Tryz.func171, Tryz.ntmps171
      go_wp2_with ((go_at_call 182; (with_reducible refine (typ_can _ _ _ _ _ _ h ok).mono ?_); rintro e w' ⟨rfl, rfl⟩); rw [HC.out])
      go_ret
      exact ⟨rfl, hA _, by (repeat' (first | (with_reducible exact Touch.refl _ _) | (with_reducible assumption) | (with_reducible refine Touch.drew ?_) | (with_reducible refine Touch.drewN ?_ _) | (with_reducible refine Touch.alloc ?_ _) | (with_reducible refine Touch.setCell ?_ _ _ _ ?_) | (with_reducible refine Touch.step (by assumption) ?_) | (with_reducible refine Touch.stepT (by assumption) ?_ ?_) | (intro _; first | rfl | trivial | omega | (simp; done) | (simp; omega)) | (intro _ _; first | omega | (simp; done) | (simp; omega))))⟩
    by_cases hm : 1000 ≤ t.c f.toNat
    · have hE : t.refE f = 2 := by simp [TypS.refE, hc, hk, hm]
      rw [TypS.ref, hE, if_neg (by decide)]
      have HC := Lib.hid hc; clear hc
      go_enter Tryz.func171, Tryz.ntmps171
      go_wp2_with ((go_at_call 182; (with_reducible refine (typ_can _ _ _ _ _ _ h ok).mono ?_); rintro e w' ⟨rfl, rfl⟩); rw [HC.out])
      go_ret
      exact ⟨rfl, hA _, by (repeat' (first | (with_reducible exact Touch.refl _ _) | (with_reducible assumption) | (with_reducible refine Touch.drew ?_) | (with_reducible refine Touch.drewN ?_ _) | (with_reducible refine Touch.alloc ?_ _) | (with_reducible refine Touch.setCell ?_ _ _ _ ?_) | (with_reducible refine Touch.step (by assumption) ?_) | (with_reducible refine Touch.stepT (by assumption) ?_ ?_) | (intro _; first | rfl | trivial | omega | (simp; done) | (simp; omega)) | (intro _ _; first | omega | (simp; done) | (simp; omega))))⟩
    · have hE : t.refE f = 0 := by simp [TypS.refE, hc, hk, hm]
      rw [TypS.ref, hE, if_pos rfl]
      have HC := Lib.hid hc; clear hc
      have h1 := h.setc f.toNat hf (t.c f.toNat + 1)
      go_enter Tryz.func171, Tryz.ntmps171
      go_wp2_with ((go_at_call 182; (with_reducible refine (typ_can _ _ _ _ _ _ h ok).mono ?_); rintro e w' ⟨rfl, rfl⟩); rw [HC.out])
      go_ret
      first
        | exact ⟨rfl, (hA _).setc f.toNat hf (t.c f.toNat + 1), by (repeat' (first | (with_reducible exact Touch.refl _ _) | (with_reducible assumption) | (with_reducible refine Touch.drew ?_) | (with_reducible refine Touch.drewN ?_ _) | (with_reducible refine Touch.alloc ?_ _) | (with_reducible refine Touch.setCell ?_ _ _ _ ?_) | (with_reducible refine Touch.step (by assumption) ?_) | (with_reducible refine Touch.stepT (by assumption) ?_ ?_) | (intro _; first | rfl | trivial | omega | (simp; done) | (simp; omega)) | (intro _ _; first | omega | (simp; done) | (simp; omega))))⟩
        | exact ⟨rfl, h1.after (by (refine Touch.below0 ?_; (repeat' (first | (with_reducible exact Touch.refl _ _) | (with_reducible assumption) | (with_reducible refine Touch.drew ?_) | (with_reducible refine Touch.drewN ?_ _) | (with_reducible refine Touch.alloc ?_ _) | (with_reducible refine Touch.setCell ?_ _ _ _ ?_) | (with_reducible refine Touch.step (by assumption) ?_) | (with_reducible refine Touch.stepT (by assumption) ?_ ?_) | (intro _; first | rfl | trivial | omega | (simp; done) | (simp; omega)) | (intro _ _; first | omega | (simp; done) | (simp; omega)))))), by (repeat' (first | (with_reducible exact Touch.refl _ _) | (with_reducible assumption) | (with_reducible refine Touch.drew ?_) | (with_reducible refine Touch.drewN ?_ _) | (with_reducible refine Touch.alloc ?_ _) | (with_reducible refine Touch.setCell ?_ _ _ _ ?_) | (with_reducible refine Touch.step (by assumption) ?_) | (with_reducible refine Touch.stepT (by assumption) ?_ ?_) | (intro _; first | rfl | trivial | omega | (simp; done) | (simp; omega)) | (intro _ _; first | omega | (simp; done) | (simp; omega))))⟩
  · have hE : t.refE f = 1 := by simp [TypS.refE, hc]
    rw [TypS.ref, hE, if_neg (by decide)]
    have HC := Lib.hid hc; clear hc
    go_enter Tryz.func171, Tryz.ntmps171
    go_wp2_with ((go_at_call 182; (with_reducible refine (typ_can _ _ _ _ _ _ h ok).mono ?_); rintro e w' ⟨rfl, rfl⟩); rw [HC.out])
    go_ret
    exact ⟨rfl, h, Touch.refl _ _⟩
set_option maxHeartbeats 4000000 in
theorem typ_unref (a g cap : Nat) (t : TypS) (f now : Int) (w : World) (h : TypIs w a g cap t) (ok : t.Ok) : Calls Tryz.prog 167 #[.pointer (some ⟨a, 0, none⟩), .int .i64 f, .int .i64 now] w fun e w' =>
    e = .returned (.int .i64 (t.unrefE f)) ∧ TypIs w' a g cap (t.unref f now) ∧ Touch (· = g) w w' := by
  rcases t.can_cases f with ⟨hc, f0, fn⟩ | hc
  · have g0 := h.cell0
    have hf : f.toNat < t.n := by omega
    obtain ⟨c0, c1, c2, c3⟩ := h.at hf
    have gf := h.free
    have b0 := ok.c0 f.toNat; have b1 := ok.c1 f.toNat
    by_cases hk : t.c f.toNat = 0
    · have hE : t.unrefE f = 3 := by simp [TypS.unrefE, hc, hk]
      rw [TypS.unref, hE, if_neg (by decide)]
      have HC := Lib.hid hc; clear hc
      go_enter Tryz.func167, Tryz.ntmps167
      go_wp2_with ((go_at_call 182; (with_reducible refine (typ_can _ _ _ _ _ _ h ok).mono ?_); rintro e w' ⟨rfl, rfl⟩); rw [HC.out])
      go_ret
      exact ⟨rfl, h, Touch.refl _ _⟩
    have hE : t.unrefE f = 0 := by simp [TypS.unrefE, hc, hk]
    rw [TypS.unref, hE, if_pos rfl]
    have HC := Lib.hid hc; clear hc
    have h1 := h.setc f.toNat hf (t.c f.toNat - 1)
    by_cases he : t.c f.toNat = 1
    · rw [if_pos he]
      have h2 := h1.setfr f.toNat hf (max (t.fr f.toNat) now)
      have he0 : t.c f.toNat - 1 = 0 := by omega
      rw [he0] at h1 h2 ⊢
      rw [he] at c1
      clear he he0
      obtain ⟨d0, d1, d2, d3⟩ := h1.at hf
      dsimp only at d0 d1 d2 d3
      rw [upd_same] at d1
      have df := h1.free
      go_enter Tryz.func167, Tryz.ntmps167
      go_wp2_with (first
        | ((go_at_call 182; (with_reducible refine (typ_can _ _ _ _ _ _ h ok).mono ?_); rintro e w' ⟨rfl, rfl⟩); rw [HC.out])
        | (go_at_call 183; (with_reducible refine (typ_free _ _ _ _ _ d2 (df _)).mono ?_); rintro e w' ⟨rfl, rfl⟩))
      go_ret
      exact ⟨rfl, h2, by (repeat' (first | (with_reducible exact Touch.refl _ _) | (with_reducible assumption) | (with_reducible refine Touch.drew ?_) | (with_reducible refine Touch.drewN ?_ _) | (with_reducible refine Touch.alloc ?_ _) | (with_reducible refine Touch.setCell ?_ _ _ _ ?_) | (with_reducible refine Touch.step (by assumption) ?_) | (with_reducible refine Touch.stepT (by assumption) ?_ ?_) | (intro _; first | rfl | trivial | omega | (simp; done) | (simp; omega)) | (intro _ _; first | omega | (simp; done) | (simp; omega))))⟩
    · rw [if_neg he]
      have hne : ¬ t.c f.toNat - 1 = 0 := by omega
      go_enter Tryz.func167, Tryz.ntmps167
      go_wp2_with ((go_at_call 182; (with_reducible refine (typ_can _ _ _ _ _ _ h ok).mono ?_); rintro e w' ⟨rfl, rfl⟩); rw [HC.out])
      go_ret
      exact ⟨rfl, h1, by (repeat' (first | (with_reducible exact Touch.refl _ _) | (with_reducible assumption) | (with_reducible refine Touch.drew ?_) | (with_reducible refine Touch.drewN ?_ _) | (with_reducible refine Touch.alloc ?_ _) | (with_reducible refine Touch.setCell ?_ _ _ _ ?_) | (with_reducible refine Touch.step (by assumption) ?_) | (with_reducible refine Touch.stepT (by assumption) ?_ ?_) | (intro _; first | rfl | trivial | omega | (simp; done) | (simp; omega)) | (intro _ _; first | omega | (simp; done) | (simp; omega))))⟩
  · have hE : t.unrefE f = 1 := by simp [TypS.unrefE, hc]
    rw [TypS.unref, hE, if_neg (by decide)]
    have HC := Lib.hid hc; clear hc
    go_enter Tryz.func167, Tryz.ntmps167
    go_wp2_with ((go_at_call 182; (with_reducible refine (typ_can _ _ _ _ _ _ h ok).mono ?_); rintro e w' ⟨rfl, rfl⟩); rw [HC.out])
    go_ret
    exact ⟨rfl, h, Touch.refl _ _⟩
end Go.Proofs.YtmahledpcpdldaaGreat
