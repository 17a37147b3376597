/- Capabilities (package cap): which may be. -/
import Derived.Test.YtmahledpcpdldaaGreatUnpack
set_option linter.unusedVariables false
set_option linter.unusedSimpArgs false
namespace Go.Proofs.YtmahledpcpdldaaGreat
open Go.RowKit

structure CapS where
  k : Int
  r : Int
  t : Int
  l : Int
  e : Int
  a : Int
def CapS.v (c : CapS) : Value := .agg #[.int .i64 c.k, .int .i64 c.r, .int .i64 c.t, .int .i64 c.l, .int .i64 c.e, .int .i64 c.a]
def inB (n m : Int) : Bool := decide (0 ≤ n) && decide (n < m)
theorem inB_iff {n m : Int} : inB n m = true ↔ 0 ≤ n ∧ n < m := by simp [inB]
def CapS.sized (c : CapS) : Bool := inB c.k 12 && inB c.r 32 && inB c.t 64 && inB c.l 64 && inB c.e 65536 && inB c.a 1073741825
def CapS.bare (c : CapS) : Bool := decide (c.l = 0) && decide (c.e = 0)
def CapS.kind (c : CapS) : Bool :=
  if c.k = 0 then decide (c.r = 0 ∧ c.t = 0 ∧ c.l = 0 ∧ c.e = 0 ∧ c.a = 0) else if c.k = 1 then decide (c.r = 0 ∧ c.t = 0 ∧ c.l = 0 ∧ c.e = 0)
  else if c.k = 2 then c.bare && decide (1 ≤ c.a) && decide (c.a ≤ 64 - c.t) else if c.k = 5 then decide (c.a = 0) else if c.k = 7 then true
  else if c.k = 11 then c.bare && decide (c.a = 0) && decide (c.t = 0) else c.bare && decide (c.a = 0)
def CapS.right (c : CapS) : Bool := c.sized && c.kind

theorem cap_in (n m : Int) (w : World) : Calls Tryz.prog 290 #[.int .i64 n, .int .i64 m] w fun e w' => e = .returned (.bool (inB n m)) ∧ w = w' := by
  by_cases h : n < 0
  · have e : inB n m = false := by simp [inB]; omega
    rw [e]; clear e
    go_enter Tryz.func290, Tryz.ntmps290
    go_wp2
    go_ret
    exact ⟨rfl, rfl⟩
  · have e : inB n m = decide (n < m) := by simp [inB]; omega
    rw [e]; clear e
    go_enter Tryz.func290, Tryz.ntmps290
    go_wp2
    go_ret
    exact ⟨rfl, rfl⟩
theorem cap_bare (c : CapS) (w : World) : Calls Tryz.prog 261 #[c.v] w fun e w' => e = .returned (.bool c.bare) ∧ Below w.heap.size w w' := by
  obtain ⟨k, r, t, l, ep, a⟩ := c
  show Calls _ _ #[.agg #[.int .i64 k, .int .i64 r, .int .i64 t, .int .i64 l, .int .i64 ep, .int .i64 a]] _ _
  by_cases h : l = 0
  · go_enter Tryz.func261, Tryz.ntmps261
    go_wp2
    go_ret
    exact ⟨ret_bool (by rw [Bool.eq_iff_iff]; simp [CapS.bare, h]), by (refine Touch.below0 ?_; (repeat' (first | (with_reducible exact Touch.refl _ _) | (with_reducible assumption) | (with_reducible refine Touch.drew ?_) | (with_reducible refine Touch.drewN ?_ _) | (with_reducible refine Touch.alloc ?_ _) | (with_reducible refine Touch.setCell ?_ _ _ _ ?_) | (with_reducible refine Touch.step (by assumption) ?_) | (with_reducible refine Touch.stepT (by assumption) ?_ ?_) | (intro _; first | rfl | trivial | omega | (simp; done) | (simp; omega)) | (intro _ _; first | omega | (simp; done) | (simp; omega)))))⟩
  · go_enter Tryz.func261, Tryz.ntmps261
    go_wp2
    go_ret
    exact ⟨by simp [CapS.bare, h], by (refine Touch.below0 ?_; (repeat' (first | (with_reducible exact Touch.refl _ _) | (with_reducible assumption) | (with_reducible refine Touch.drew ?_) | (with_reducible refine Touch.drewN ?_ _) | (with_reducible refine Touch.alloc ?_ _) | (with_reducible refine Touch.setCell ?_ _ _ _ ?_) | (with_reducible refine Touch.step (by assumption) ?_) | (with_reducible refine Touch.stepT (by assumption) ?_ ?_) | (intro _; first | rfl | trivial | omega | (simp; done) | (simp; omega)) | (intro _ _; first | omega | (simp; done) | (simp; omega)))))⟩
set_option maxHeartbeats 1000000 in
theorem cap_sized (c : CapS) (w : World) : Calls Tryz.prog 260 #[c.v] w fun e w' => e = .returned (.bool c.sized) ∧ Below w.heap.size w w' := by
  obtain ⟨k, r, t, l, ep, a⟩ := c
  show Calls _ _ #[.agg #[.int .i64 k, .int .i64 r, .int .i64 t, .int .i64 l, .int .i64 ep, .int .i64 a]] _ _
  unfold CapS.sized
  dsimp only
  generalize h1 : inB k 12 = b1
  generalize h2 : inB r 32 = b2
  generalize h3 : inB t 64 = b3
  generalize h4 : inB l 64 = b4
  generalize h5 : inB ep 65536 = b5
  generalize h6 : inB a 1073741825 = b6
  have H1 := Lib.hid h1; have H2 := Lib.hid h2; have H3 := Lib.hid h3; have H4 := Lib.hid h4; have H5 := Lib.hid h5; have H6 := Lib.hid h6
  clear h1 h2 h3 h4 h5 h6
  rcases (by cases b1 <;> cases b2 <;> cases b3 <;> cases b4 <;> cases b5 <;> simp : b1 = false ∨ b1 = true ∧ b2 = false ∨ b1 = true ∧ b2 = true ∧ b3 = false ∨ b1 = true ∧ b2 = true ∧ b3 = true ∧ b4 = false ∨ b1 = true ∧ b2 = true ∧ b3 = true ∧ b4 = true ∧ b5 = false ∨ b1 = true ∧ b2 = true ∧ b3 = true ∧ b4 = true ∧ b5 = true) with rfl | ⟨rfl, rfl⟩ | ⟨rfl, rfl, rfl⟩ | ⟨rfl, rfl, rfl, rfl⟩ | ⟨rfl, rfl, rfl, rfl, rfl⟩ | ⟨rfl, rfl, rfl, rfl, rfl⟩
  all_goals
    go_enter Tryz.func260, Tryz.ntmps260
    go_wp2_with ((go_at_call 290; (with_reducible refine (cap_in _ _ _).mono ?_); rintro e w' ⟨rfl, rfl⟩); first | rw [H1.out] | rw [H2.out] | rw [H3.out] | rw [H4.out] | rw [H5.out] | rw [H6.out])
    go_ret
    exact ⟨by simp, by (refine Touch.below0 ?_; (repeat' (first | (with_reducible exact Touch.refl _ _) | (with_reducible assumption) | (with_reducible refine Touch.drew ?_) | (with_reducible refine Touch.drewN ?_ _) | (with_reducible refine Touch.alloc ?_ _) | (with_reducible refine Touch.setCell ?_ _ _ _ ?_) | (with_reducible refine Touch.step (by assumption) ?_) | (with_reducible refine Touch.stepT (by assumption) ?_ ?_) | (intro _; first | rfl | trivial | omega | (simp; done) | (simp; omega)) | (intro _ _; first | omega | (simp; done) | (simp; omega)))))⟩
set_option maxHeartbeats 4000000 in
theorem cap_right (c : CapS) (w : World) : Calls Tryz.prog 214 #[c.v] w fun e w' => e = .returned (.bool c.right) ∧ Below w.heap.size w w' := by
  have hs := cap_sized c
  have hb := cap_bare c
  obtain ⟨k, r, t, l, ep, a⟩ := c
  unfold CapS.v at *
  dsimp only at *
  unfold CapS.right
  generalize hsz : CapS.sized ⟨k, r, t, l, ep, a⟩ = sz at *
  generalize hbr : CapS.bare ⟨k, r, t, l, ep, a⟩ = br at *
  have HSZ := Lib.hid hsz
  have HBR := Lib.hid hbr
  clear hsz hbr
  cases sz
  · go_enter Tryz.func214, Tryz.ntmps214
    go_wp2_with ((go_at_call 260; (with_reducible refine (hs _).mono ?_); rintro e w' ⟨rfl, hx⟩))
    go_ret
    exact ⟨rfl, by (refine Touch.below0 ?_; (repeat' (first | (with_reducible exact Touch.refl _ _) | (with_reducible assumption) | (with_reducible refine Touch.drew ?_) | (with_reducible refine Touch.drewN ?_ _) | (with_reducible refine Touch.alloc ?_ _) | (with_reducible refine Touch.setCell ?_ _ _ _ ?_) | (with_reducible refine Touch.step (by assumption) ?_) | (with_reducible refine Touch.stepT (by assumption) ?_ ?_) | (intro _; first | rfl | trivial | omega | (simp; done) | (simp; omega)) | (intro _ _; first | omega | (simp; done) | (simp; omega)))))⟩
  · have hbox : ∀ {x y : World}, Below x.heap.size x y → x.heap[w.heap.size]? = some (.cells #[.int .i64 k, .int .i64 r, .int .i64 t, .int .i64 l, .int .i64 ep, .int .i64 a] 38 (0, 0)) → y.heap[w.heap.size]? = some (.cells #[.int .i64 k, .int .i64 r, .int .i64 t, .int .i64 l, .int .i64 ep, .int .i64 a] 38 (0, 0)) := fun h h2 => (h.block _ (lt_of_block h2)).trans h2
    have h0 : (w.alloc (.cells #[.int .i64 k, .int .i64 r, .int .i64 t, .int .i64 l, .int .i64 ep, .int .i64 a] 38 (0, 0))).heap[w.heap.size]? = some (.cells #[.int .i64 k, .int .i64 r, .int .i64 t, .int .i64 l, .int .i64 ep, .int .i64 a] 38 (0, 0)) := heap_new w _
    have hw0 : Below w.heap.size w (w.alloc (.cells #[.int .i64 k, .int .i64 r, .int .i64 t, .int .i64 l, .int .i64 ep, .int .i64 a] 38 (0, 0))) := by (refine Touch.below0 ?_; (repeat' (first | (with_reducible exact Touch.refl _ _) | (with_reducible assumption) | (with_reducible refine Touch.drew ?_) | (with_reducible refine Touch.drewN ?_ _) | (with_reducible refine Touch.alloc ?_ _) | (with_reducible refine Touch.setCell ?_ _ _ _ ?_) | (with_reducible refine Touch.step (by assumption) ?_) | (with_reducible refine Touch.stepT (by assumption) ?_ ?_) | (intro _; first | rfl | trivial | omega | (simp; done) | (simp; omega)) | (intro _ _; first | omega | (simp; done) | (simp; omega)))))
    go_enter Tryz.func214, Tryz.ntmps214
    go_upto_region 3 with ((go_at_call 260; (with_reducible refine (hs _).mono ?_); rintro e w' ⟨rfl, hx⟩); have hp := hbox hx h0; have hwx := hw0.trans (hx.mono hw0.size))
    obtain ⟨w1, rfl⟩ : ∃ y : World, y = w' := ⟨_, rfl⟩
    clear hx h0 hw0 hs
    have g0 := cell_of hp 0; have g1 := cell_of hp 1; have g2 := cell_of hp 2; have g3 := cell_of hp 3; have g4 := cell_of hp 4; have g5 := cell_of hp 5
    have fr := frozen_of hp
    dsimp at g0 g1 g2 g3 g4 g5
    obtain ⟨ht0, ht1⟩ : 0 ≤ t ∧ t < 64 := by have := HSZ.out; simp [CapS.sized, inB] at this; omega
    have hstep : ∀ {x y : World}, Below w.heap.size w x → Below x.heap.size x y → Below w.heap.size w y := fun h1 h2 => h1.trans (h2.mono h1.size)
    by_cases k0 : k = 0
    · subst k0
      go_wp2
      all_goals
        go_ret
        exact ⟨ret_bool (by simp_all [CapS.kind]), hwx⟩
    by_cases k1 : k = 1
    · subst k1
      go_wp2
      all_goals
        go_ret
        exact ⟨ret_bool (by simp_all [CapS.kind]), hwx.setCell (p := ⟨w.heap.size, 5, none⟩) (Nat.le_refl _) _⟩
    by_cases k2 : k = 2
    · subst k2
      have hk : CapS.kind ⟨2, r, t, l, ep, a⟩ = (br && decide (1 ≤ a) && decide (a ≤ 64 - t)) := by rw [← HBR.out]; simp [CapS.kind, CapS.bare]
      have HK := Lib.hid hk
      clear hk
      cases br
      · go_wp2_with ((go_at_call 261; (with_reducible refine (hb _).mono ?_); rintro e w' ⟨rfl, hx⟩))
        go_ret
        exact ⟨by rw [HK.out]; rfl, hstep hwx hx⟩
      · by_cases h1 : 1 ≤ a
        · go_wp2_with ((go_at_call 261; (with_reducible refine (hb _).mono ?_); rintro e w' ⟨rfl, hx⟩); have hp := hbox hx hp; have g2 := cell_of hp 2; have g5 := cell_of hp 5; dsimp at g2 g5)
          go_ret
          exact ⟨by rw [HK.out]; simp [h1], hstep hwx hx⟩
        · have H1 := Lib.hid h1
          go_wp2_with ((go_at_call 261; (with_reducible refine (hb _).mono ?_); rintro e w' ⟨rfl, hx⟩); have hp := hbox hx hp; have g2 := cell_of hp 2; have g5 := cell_of hp 5; dsimp at g2 g5)
          go_ret
          exact ⟨ret_bool (by rw [HK.out, decide_eq_false (by have := H1.out; omega)]; simp), hstep hwx hx⟩
    by_cases k5 : k = 5
    · subst k5
      go_wp2
      go_ret
      exact ⟨ret_bool (by rw [Bool.eq_iff_iff]; simp [CapS.kind]), hwx⟩
    by_cases k7 : k = 7
    · subst k7
      go_wp2
      go_ret
      exact ⟨ret_bool (by simp [CapS.kind]), hwx⟩
    by_cases k11 : k = 11
    · subst k11
      have hk : CapS.kind ⟨11, r, t, l, ep, a⟩ = (br && decide (a = 0) && decide (t = 0)) := by rw [← HBR.out]; simp [CapS.kind, CapS.bare]
      have HK := Lib.hid hk
      clear hk
      cases br
      · go_wp2_with ((go_at_call 261; (with_reducible refine (hb _).mono ?_); rintro e w' ⟨rfl, hx⟩))
        go_ret
        exact ⟨by rw [HK.out]; rfl, hstep hwx hx⟩
      · by_cases h1 : a = 0
        · subst h1
          go_wp2_with ((go_at_call 261; (with_reducible refine (hb _).mono ?_); rintro e w' ⟨rfl, hx⟩); have hp := hbox hx hp; have g2 := cell_of hp 2; have g5 := cell_of hp 5; dsimp at g2 g5)
          go_ret
          exact ⟨ret_bool (by rw [HK.out, Bool.eq_iff_iff]; simp), hstep hwx hx⟩
        · go_wp2_with ((go_at_call 261; (with_reducible refine (hb _).mono ?_); rintro e w' ⟨rfl, hx⟩); have hp := hbox hx hp; have g2 := cell_of hp 2; have g5 := cell_of hp 5; dsimp at g2 g5)
          go_ret
          exact ⟨ret_bool (by rw [HK.out, Bool.eq_iff_iff]; simp [h1]), hstep hwx hx⟩
    have hk : CapS.kind ⟨k, r, t, l, ep, a⟩ = (br && decide (a = 0)) := by rw [← HBR.out]; simp [CapS.kind, CapS.bare, k0, k1, k2, k5, k7, k11]
    have HK := Lib.hid hk
    clear hk
    cases br
    · go_wp2_with ((go_at_call 261; (with_reducible refine (hb _).mono ?_); rintro e w' ⟨rfl, hx⟩))
      go_ret
      exact ⟨by rw [HK.out]; rfl, hstep hwx hx⟩
    · go_wp2_with ((go_at_call 261; (with_reducible refine (hb _).mono ?_); rintro e w' ⟨rfl, hx⟩); have hp := hbox hx hp; have g2 := cell_of hp 2; have g5 := cell_of hp 5; dsimp at g2 g5)
      go_ret
      exact ⟨ret_bool (by rw [HK.out, Bool.eq_iff_iff]; simp), hstep hwx hx⟩
theorem cap_check (c : CapS) (w : World) : Calls Tryz.prog 125 #[c.v] w fun e w' => e = .returned (.int .i64 (if c.right then 0 else 1)) ∧ Below w.heap.size w w' := by
  have hr := cap_right c
  generalize hb : c.right = b at *
  clear hb
  obtain ⟨k, r, t, l, ep, a⟩ := c
  unfold CapS.v at *
  dsimp only at *
  have hw0 : Below w.heap.size w (w.alloc (.cells #[.int .i64 k, .int .i64 r, .int .i64 t, .int .i64 l, .int .i64 ep, .int .i64 a] 38 (0, 0))) := by (refine Touch.below0 ?_; (repeat' (first | (with_reducible exact Touch.refl _ _) | (with_reducible assumption) | (with_reducible refine Touch.drew ?_) | (with_reducible refine Touch.drewN ?_ _) | (with_reducible refine Touch.alloc ?_ _) | (with_reducible refine Touch.setCell ?_ _ _ _ ?_) | (with_reducible refine Touch.step (by assumption) ?_) | (with_reducible refine Touch.stepT (by assumption) ?_ ?_) | (intro _; first | rfl | trivial | omega | (simp; done) | (simp; omega)) | (intro _ _; first | omega | (simp; done) | (simp; omega)))))
  cases b
  all_goals
    go_enter Tryz.func125, Tryz.ntmps125
    go_wp2_with ((go_at_call 214; (with_reducible refine (hr _).mono ?_); rintro e w' ⟨rfl, hx⟩))
    go_ret
    exact ⟨rfl, hw0.trans (hx.mono hw0.size)⟩
end Go.Proofs.YtmahledpcpdldaaGreat
