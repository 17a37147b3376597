/- What frames are (package typ): Freed, Was, Retype, Untype. -/
import Derived.Test.YtejdfdllgobnhaaTyp2
set_option linter.unusedVariables false
set_option linter.unusedSimpArgs false
namespace Go.Proofs.Ytejdfdllgobnhaa
open Go.RowKit

def TypS.freed (t : TypS) (f : Int) : Int := if t.can f = 0 then t.fr f.toNat else -1
def TypS.was (t : TypS) (f : Int) : Int := if t.can f = 0 then t.wa f.toNat else 0
def TypS.retypeE (t : TypS) (f kd : Int) (q : Bool) : Int :=
  if t.can f ≠ 0 then 1 else if kd ≠ 1 ∧ kd ≠ 2 then 1 else if t.k f.toNat ≠ 0 then 4 else if q = true then 0 else 6
def TypS.retype (t : TypS) (f kd : Int) (q : Bool) : TypS := if t.retypeE f kd q = 0 then { t with k := upd t.k f.toNat kd } else t
def TypS.untypeE (t : TypS) (f : Int) : Int := if t.can f ≠ 0 then 1 else if t.k f.toNat = 0 then 4 else if t.c f.toNat ≠ 0 then 10 else 0
def TypS.untype (t : TypS) (f now : Int) (pages : Bool) : TypS :=
  if t.untypeE f = 0 then { t with k := upd t.k f.toNat 0, wa := upd t.wa f.toNat (if pages = true ∧ t.k f.toNat = 2 then 3 else t.k f.toNat), fr := upd t.fr f.toNat (max (t.fr f.toNat) now) } else t

theorem typ_freed (a g cap : Nat) (t : TypS) (f : Int) (w : World) (h : TypIs w a g cap t) (ok : t.Ok) : Calls Try.prog 52 #[.pointer (some ⟨a, 0, none⟩), .int .i64 f] w fun e w' =>
    e = .returned (.int .i64 (t.freed f)) ∧ Below w.heap.size w w' := by
  unfold TypS.freed
  rcases t.can_cases f with ⟨hc, f0, fn⟩ | hc
  · have hof := typ_of a g cap t f w h ok
    rw [if_pos hc] at hof ⊢
    go_enter Try.func52, Try.ntmps52
    go_wp2_with ((go_at_call 85; (with_reducible refine (hof).mono ?_); rintro e w' ⟨rfl, hb1⟩))
    go_ret
    exact ⟨rfl, hb1⟩
  · have hof := typ_of a g cap t f w h ok
    rw [if_neg (by omega)] at hof ⊢
    go_enter Try.func52, Try.ntmps52
    go_wp2_with ((go_at_call 85; (with_reducible refine (hof).mono ?_); rintro e w' ⟨rfl, hb1⟩))
    go_ret
    exact ⟨rfl, hb1⟩
theorem typ_was (a g cap : Nat) (t : TypS) (f : Int) (w : World) (h : TypIs w a g cap t) (ok : t.Ok) : Calls Try.prog 51 #[.pointer (some ⟨a, 0, none⟩), .int .i64 f] w fun e w' =>
    e = .returned (.int .i64 (t.was f)) ∧ Below w.heap.size w w' := by
  unfold TypS.was
  rcases t.can_cases f with ⟨hc, f0, fn⟩ | hc
  · have hof := typ_of a g cap t f w h ok
    rw [if_pos hc] at hof ⊢
    go_enter Try.func51, Try.ntmps51
    go_wp2_with ((go_at_call 85; (with_reducible refine (hof).mono ?_); rintro e w' ⟨rfl, hb1⟩))
    go_ret
    exact ⟨rfl, hb1⟩
  · have hof := typ_of a g cap t f w h ok
    rw [if_neg (by omega)] at hof ⊢
    go_enter Try.func51, Try.ntmps51
    go_wp2_with ((go_at_call 85; (with_reducible refine (hof).mono ?_); rintro e w' ⟨rfl, hb1⟩))
    go_ret
    exact ⟨rfl, hb1⟩

set_option maxHeartbeats 4000000 in
theorem typ_retype (a g cap : Nat) (t : TypS) (f kd : Int) (q : Bool) (w : World) (h : TypIs w a g cap t) (ok : t.Ok) : Calls Try.prog 53 #[.pointer (some ⟨a, 0, none⟩), .int .i64 f, .int .i64 kd, .bool q] w fun e w' =>
    e = .returned (.int .i64 (t.retypeE f kd q)) ∧ TypIs w' a g cap (t.retype f kd q) ∧ Touch (· = g) w w' := by
  rcases t.can_cases f with ⟨hc, f0, fn⟩ | hc
  · have g0 := h.cell0
    obtain ⟨c0, c1, c2, c3⟩ := h.at (f := f.toNat) (by omega)
    have gf := h.free
    by_cases ht : kd ≠ 1 ∧ kd ≠ 2
    · have hE : t.retypeE f kd q = 1 := by simp [TypS.retypeE, hc, ht]
      rw [TypS.retype, hE, if_neg (by decide)]
      have HC := Lib.hid hc; clear hc
      obtain ⟨ht1, ht2⟩ := ht
      go_enter Try.func53, Try.ntmps53
      go_wp2_with ((go_at_call 56; (with_reducible refine (typ_can _ _ _ _ _ _ h ok).mono ?_); rintro e w' ⟨rfl, rfl⟩); rw [HC.out])
      go_ret
      exact ⟨rfl, h, Touch.refl _ _⟩
    · by_cases hk : t.k f.toNat = 0
      · cases q
        · have hE : t.retypeE f kd false = 6 := by simp [TypS.retypeE, hc, hk]; omega
          rw [TypS.retype, hE, if_neg (by decide)]
          have HC := Lib.hid hc; clear hc
          obtain rfl | rfl : kd = 1 ∨ kd = 2 := by omega
          all_goals
            go_enter Try.func53, Try.ntmps53
            go_wp2_with ((go_at_call 56; (with_reducible refine (typ_can _ _ _ _ _ _ h ok).mono ?_); rintro e w' ⟨rfl, rfl⟩); rw [HC.out])
            go_ret
            exact ⟨rfl, h, Touch.refl _ _⟩
        · have hE : t.retypeE f kd true = 0 := by simp [TypS.retypeE, hc, hk]; omega
          rw [TypS.retype, hE, if_pos rfl]
          have HC := Lib.hid hc; clear hc
          have hset : TypIs (w.setCell ⟨g, f.toNat * 4 + 0, none⟩ (.int .i64 kd)) a g cap { t with k := upd t.k f.toNat kd } :=
            h.set f.toNat 0 (by omega) (by decide) _ rfl (by simp [tcell, upd]) (fun f' o' hn ho => by
              match o', ho with
              | 0, _ => simp only [tcell]; rw [upd_ne _ _ _ _ (by omega)]
              | 1, _ => rfl
              | 2, _ => rfl
              | 3, _ => rfl)
          obtain rfl | rfl : kd = 1 ∨ kd = 2 := by omega
          all_goals
            go_enter Try.func53, Try.ntmps53
            go_wp2_with ((go_at_call 56; (with_reducible refine (typ_can _ _ _ _ _ _ h ok).mono ?_); rintro e w' ⟨rfl, rfl⟩); rw [HC.out])
            go_ret
            exact ⟨rfl, hset, by (repeat' (first | (with_reducible exact Touch.refl _ _) | (with_reducible assumption) | (with_reducible refine Touch.drew ?_) | (with_reducible refine Touch.drewN ?_ _) | (with_reducible refine Touch.alloc ?_ _) | (with_reducible refine Touch.setCell ?_ _ _ _ ?_) | (with_reducible refine Touch.step (by assumption) ?_) | (with_reducible refine Touch.stepT (by assumption) ?_ ?_) | (intro _; first | rfl | trivial | omega | (simp; done) | (simp; omega)) | (intro _ _; first | omega | (simp; done) | (simp; omega))))⟩
      · have hE : t.retypeE f kd q = 4 := by simp [TypS.retypeE, hc, hk]; omega
        rw [TypS.retype, hE, if_neg (by decide)]
        have HC := Lib.hid hc; clear hc
        obtain rfl | rfl : kd = 1 ∨ kd = 2 := by omega
        all_goals
          go_enter Try.func53, Try.ntmps53
          go_wp2_with ((go_at_call 56; (with_reducible refine (typ_can _ _ _ _ _ _ h ok).mono ?_); rintro e w' ⟨rfl, rfl⟩); rw [HC.out])
          go_ret
          exact ⟨rfl, h, Touch.refl _ _⟩
  · have hE : t.retypeE f kd q = 1 := by simp [TypS.retypeE, hc]
    rw [TypS.retype, hE, if_neg (by decide)]
    have HC := Lib.hid hc; clear hc
    go_enter Try.func53, Try.ntmps53
    go_wp2_with ((go_at_call 56; (with_reducible refine (typ_can _ _ _ _ _ _ h ok).mono ?_); rintro e w' ⟨rfl, rfl⟩); rw [HC.out])
    go_ret
    exact ⟨rfl, h, Touch.refl _ _⟩

theorem TypIs.setk {w : World} {a g cap : Nat} {t : TypS} (h : TypIs w a g cap t) (f : Nat) (hf : f < t.n) (x : Int) : TypIs (w.setCell ⟨g, f * 4, none⟩ (.int .i64 x)) a g cap { t with k := upd t.k f x } :=
  h.set f 0 hf (by decide) _ rfl (by simp [tcell, upd]) (fun f' o' hn ho => by
    match o', ho with
    | 0, _ => simp only [tcell]; rw [upd_ne _ _ _ _ (by omega)]
    | 1, _ => rfl
    | 2, _ => rfl
    | 3, _ => rfl)
theorem TypIs.setfr {w : World} {a g cap : Nat} {t : TypS} (h : TypIs w a g cap t) (f : Nat) (hf : f < t.n) (x : Int) : TypIs (w.setCell ⟨g, f * 4 + 2, none⟩ (.int .i64 x)) a g cap { t with fr := upd t.fr f x } :=
  h.set f 2 hf (by decide) _ rfl (by simp [tcell, upd]) (fun f' o' hn ho => by
    match o', ho with
    | 0, _ => rfl
    | 1, _ => rfl
    | 2, _ => simp only [tcell]; rw [upd_ne _ _ _ _ (by omega)]
    | 3, _ => rfl)
theorem TypIs.setwa {w : World} {a g cap : Nat} {t : TypS} (h : TypIs w a g cap t) (f : Nat) (hf : f < t.n) (x : Int) : TypIs (w.setCell ⟨g, f * 4 + 3, none⟩ (.int .i64 x)) a g cap { t with wa := upd t.wa f x } :=
  h.set f 3 hf (by decide) _ rfl (by simp [tcell, upd]) (fun f' o' hn ho => by
    match o', ho with
    | 0, _ => rfl
    | 1, _ => rfl
    | 2, _ => rfl
    | 3, _ => simp only [tcell]; rw [upd_ne _ _ _ _ (by omega)])
theorem TypIs.setc {w : World} {a g cap : Nat} {t : TypS} (h : TypIs w a g cap t) (f : Nat) (hf : f < t.n) (x : Int) : TypIs (w.setCell ⟨g, f * 4 + 1, none⟩ (.int .i64 x)) a g cap { t with c := upd t.c f x } :=
  h.set f 1 hf (by decide) _ rfl (by simp [tcell, upd]) (fun f' o' hn ho => by
    match o', ho with
    | 0, _ => rfl
    | 1, _ => simp only [tcell]; rw [upd_ne _ _ _ _ (by omega)]
    | 2, _ => rfl
    | 3, _ => rfl)
theorem upd_upd {α : Type} (f : Nat → α) (i : Nat) (x y : α) : upd (upd f i x) i y = upd f i y := by funext j; unfold upd; split <;> rfl

set_option maxHeartbeats 4000000 in
theorem typ_untype (a g cap : Nat) (t : TypS) (f now : Int) (pages : Bool) (w : World) (h : TypIs w a g cap t) (ok : t.Ok) : Calls Try.prog 15 #[.pointer (some ⟨a, 0, none⟩), .int .i64 f, .int .i64 now, .bool pages] w fun e w' =>
    e = .returned (.int .i64 (t.untypeE f)) ∧ TypIs w' a g cap (t.untype f now pages) ∧ Touch (· = g) w w' := by
  rcases t.can_cases f with ⟨hc, f0, fn⟩ | hc
  · have g0 := h.cell0
    have hf : f.toNat < t.n := by omega
    obtain ⟨c0, c1, c2, c3⟩ := h.at hf
    have gf := h.free
    by_cases hk : t.k f.toNat = 0
    · have hE : t.untypeE f = 4 := by simp [TypS.untypeE, hc, hk]
      rw [TypS.untype, hE, if_neg (by decide)]
      have HC := Lib.hid hc; clear hc
      go_enter Try.func15, Try.ntmps15
      go_wp2_with ((go_at_call 56; (with_reducible refine (typ_can _ _ _ _ _ _ h ok).mono ?_); rintro e w' ⟨rfl, rfl⟩); rw [HC.out])
      go_ret
      exact ⟨rfl, h, Touch.refl _ _⟩
    by_cases hcc : t.c f.toNat = 0
    · have hE : t.untypeE f = 0 := by simp [TypS.untypeE, hc, hk, hcc]
      rw [TypS.untype, hE, if_pos rfl]
      have HC := Lib.hid hc; clear hc
      by_cases hp : pages = true ∧ t.k f.toNat = 2
      · rw [if_pos hp]
        obtain ⟨rfl, hk2⟩ := hp
        have h1 := ((h.setwa f.toNat hf 2).setwa f.toNat hf 3).setk f.toNat hf 0
        have h2 := h1.setfr f.toNat hf (max (t.fr f.toNat) now)
        simp only [upd_upd] at h2
        obtain ⟨d0, d1, d2, d3⟩ := h1.at hf
        have df := h1.free
        go_enter Try.func15, Try.ntmps15
        go_wp2_with (first
          | ((go_at_call 56; (with_reducible refine (typ_can _ _ _ _ _ _ h ok).mono ?_); rintro e w' ⟨rfl, rfl⟩); rw [HC.out])
          | (go_at_call 57; (with_reducible refine (typ_free _ _ _ _ _ d2 (df _)).mono ?_); rintro e w' ⟨rfl, rfl⟩))
        go_ret
        exact ⟨rfl, h2, by (repeat' (first | (with_reducible exact Touch.refl _ _) | (with_reducible assumption) | (with_reducible refine Touch.drew ?_) | (with_reducible refine Touch.drewN ?_ _) | (with_reducible refine Touch.alloc ?_ _) | (with_reducible refine Touch.setCell ?_ _ _ _ ?_) | (with_reducible refine Touch.step (by assumption) ?_) | (with_reducible refine Touch.stepT (by assumption) ?_ ?_) | (intro _; first | rfl | trivial | omega | (simp; done) | (simp; omega)) | (intro _ _; first | omega | (simp; done) | (simp; omega))))⟩
      · rw [if_neg hp]
        have h1 := (h.setwa f.toNat hf (t.k f.toNat)).setk f.toNat hf 0
        have h2 := h1.setfr f.toNat hf (max (t.fr f.toNat) now)
        obtain ⟨d0, d1, d2, d3⟩ := h1.at hf
        have df := h1.free
        cases pages
        · go_enter Try.func15, Try.ntmps15
          go_wp2_with (first
            | ((go_at_call 56; (with_reducible refine (typ_can _ _ _ _ _ _ h ok).mono ?_); rintro e w' ⟨rfl, rfl⟩); rw [HC.out])
            | (go_at_call 57; (with_reducible refine (typ_free _ _ _ _ _ d2 (df _)).mono ?_); rintro e w' ⟨rfl, rfl⟩))
          go_ret
          exact ⟨rfl, h2, by (repeat' (first | (with_reducible exact Touch.refl _ _) | (with_reducible assumption) | (with_reducible refine Touch.drew ?_) | (with_reducible refine Touch.drewN ?_ _) | (with_reducible refine Touch.alloc ?_ _) | (with_reducible refine Touch.setCell ?_ _ _ _ ?_) | (with_reducible refine Touch.step (by assumption) ?_) | (with_reducible refine Touch.stepT (by assumption) ?_ ?_) | (intro _; first | rfl | trivial | omega | (simp; done) | (simp; omega)) | (intro _ _; first | omega | (simp; done) | (simp; omega))))⟩
        · have hk2 : t.k f.toNat ≠ 2 := fun e => hp ⟨rfl, e⟩
          go_enter Try.func15, Try.ntmps15
          go_wp2_with (first
            | ((go_at_call 56; (with_reducible refine (typ_can _ _ _ _ _ _ h ok).mono ?_); rintro e w' ⟨rfl, rfl⟩); rw [HC.out])
            | (go_at_call 57; (with_reducible refine (typ_free _ _ _ _ _ d2 (df _)).mono ?_); rintro e w' ⟨rfl, rfl⟩))
          go_ret
          exact ⟨rfl, h2, by (repeat' (first | (with_reducible exact Touch.refl _ _) | (with_reducible assumption) | (with_reducible refine Touch.drew ?_) | (with_reducible refine Touch.drewN ?_ _) | (with_reducible refine Touch.alloc ?_ _) | (with_reducible refine Touch.setCell ?_ _ _ _ ?_) | (with_reducible refine Touch.step (by assumption) ?_) | (with_reducible refine Touch.stepT (by assumption) ?_ ?_) | (intro _; first | rfl | trivial | omega | (simp; done) | (simp; omega)) | (intro _ _; first | omega | (simp; done) | (simp; omega))))⟩
    · have hE : t.untypeE f = 10 := by simp [TypS.untypeE, hc, hk, hcc]
      rw [TypS.untype, hE, if_neg (by decide)]
      have HC := Lib.hid hc; clear hc
      go_enter Try.func15, Try.ntmps15
      go_wp2_with ((go_at_call 56; (with_reducible refine (typ_can _ _ _ _ _ _ h ok).mono ?_); rintro e w' ⟨rfl, rfl⟩); rw [HC.out])
      go_ret
      exact ⟨rfl, h, Touch.refl _ _⟩
  · have hE : t.untypeE f = 1 := by simp [TypS.untypeE, hc]
    rw [TypS.untype, hE, if_neg (by decide)]
    have HC := Lib.hid hc; clear hc
    go_enter Try.func15, Try.ntmps15
    go_wp2_with ((go_at_call 56; (with_reducible refine (typ_can _ _ _ _ _ _ h ok).mono ?_); rintro e w' ⟨rfl, rfl⟩); rw [HC.out])
    go_ret
    exact ⟨rfl, h, Touch.refl _ _⟩
end Go.Proofs.Ytejdfdllgobnhaa
