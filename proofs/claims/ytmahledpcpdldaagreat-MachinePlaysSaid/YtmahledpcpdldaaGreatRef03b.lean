/- The reference's clock with its blocks named. -/
import Derived.Test.YtmahledpcpdldaaGreatRef03
set_option linter.unusedVariables false
set_option linter.unusedSimpArgs false
namespace Go.Proofs.YtmahledpcpdldaaGreat
open Go.RowKit
theorem RClk.setB {w w' : World} {v : Nat} {c c' : Clk} {b1 b2 b3 c1 c2 c3 : Nat} (h : RClk w v c b1 b2 b3 c1 c2 c3) (hn : c'.n = c.n)
    (hb : w'.heap[v]? = some (.cells #[.int .i64 c'.now, .slice (some ⟨b1, 0, none⟩) c.n.toNat c1, .slice (some ⟨b2, 0, none⟩) c.n.toNat c2, .slice (some ⟨b3, 0, none⟩) c.n.toNat c3] 148 (0, 0)))
    (r1 : Row w' b1 3 (ints c'.cy c.n.toNat)) (r2 : Row w' b2 3 (ints c'.en c.n.toNat)) (r3 : Row w' b3 3 (ints c'.fl c.n.toNat)) : RClk w' v c' b1 b2 b3 c1 c2 c3 :=
  ⟨by rw [hn]; exact hb, by rw [hn]; exact r1, by rw [hn]; exact r2, by rw [hn]; exact r3, h.v1, h.v2, h.v3, h.d12, h.d13, h.d23, by rw [hn]; exact h.n1⟩
theorem RClk.touch {w w' : World} {v : Nat} {c : Clk} {b1 b2 b3 c1 c2 c3 : Nat} {S : Nat → Prop} (h : RClk w v c b1 b2 b3 c1 c2 c3) (ht : Touch S w w') (h0 : ¬ S v) (h1 : ¬ S b1) (h2 : ¬ S b2) (h3 : ¬ S b3) : RClk w' v c b1 b2 b3 c1 c2 c3 :=
  ⟨ht.at h.box h0, h.r1.touch ht h1, h.r2.touch ht h2, h.r3.touch ht h3, h.v1, h.v2, h.v3, h.d12, h.d13, h.d23, h.n1⟩

set_option maxHeartbeats 1000000 in
theorem r3_stepB (v b1 b2 b3 c1 c2 c3 : Nat) (c : Clk) (i : Int) (w : World) (h : RClk w v c b1 b2 b3 c1 c2 c3) (ok : c.Ok) :
    Calls Tryz.prog 81 #[.pointer (some ⟨v, 0, none⟩), .int .i64 i] w fun e w' =>
      e = .returned (.int .i64 (c.stepE i)) ∧ RClk w' v (c.step i) b1 b2 b3 c1 c2 c3 ∧ Touch (fun k => k = v ∨ k = b1 ∨ k = b2 ∨ k = b3) w w' := by
  have n1 : 1 ≤ c.n := h.n1
  have H : RClkAt w v c := ⟨b1, b2, b3, c1, c2, c3, h⟩
  rcases Clk.isB_can n1 i with ⟨hI, hc⟩ | ⟨hI, hc⟩
  · obtain ⟨_, hlt0, hltn⟩ := Clk.can_zero hc
    obtain ⟨g0, g1, g2, g3⟩ := h.cells
    have t0 := ok.t0; have t1 := ok.t1; have y0 := ok.cy0 i.toNat; have y1 := ok.cy1 i.toNat; have n4 := ok.n4
    have hr := h.r1.at (ints_at (f := c.cy) (n := c.n.toNat) (j := i.toNat) (by omega))
    have fr := h.r1.free
    have fv := frozen_of h.box
    have hlt2 : i < ((c.n.toNat : Nat) : Int) := by omega
    have hv1 := h.v1
    have ne1 : b1 ≠ v := by omega
    have HI := Lib.hid hI; clear hI
    by_cases ht : 1073741824 ≤ c.now
    · obtain ⟨e1, e2⟩ := Clk.late hc ht
      rw [e1, e2]; clear e1 e2 hc
      go_enter Tryz.func81, Tryz.ntmps81
      go_wp2_with ((go_at_call 181; (with_reducible refine (r3_is _ c i _ H).mono ?_); rintro e w' ⟨rfl, rfl⟩); rw [HI.out])
      go_ret
      exact ⟨rfl, h, Touch.refl _ _⟩
    · obtain ⟨e1, e2⟩ := Clk.goes hc ht
      rw [e1, e2]; clear e1 e2 hc
      go_enter Tryz.func81, Tryz.ntmps81
      go_wp2_with ((go_at_call 181; (with_reducible refine (r3_is _ c i _ H).mono ?_); rintro e w' ⟨rfl, rfl⟩); rw [HI.out])
      go_ret
      refine ⟨rfl, h.setB (c' := { c with now := c.now + 1, cy := upd c.cy i.toNat (c.cy i.toNat + 1) }) rfl (heap_set_ne (heap_set h.box _) _ (by omega)) ?_ ((h.r2.keep _ (by have := h.v2; omega)).keep _ (Ne.symm h.d12)) ((h.r3.keep _ (by have := h.v3; omega)).keep _ (Ne.symm h.d13)), by (repeat' (first | (with_reducible exact Touch.refl _ _) | (with_reducible assumption) | (with_reducible refine Touch.drew ?_) | (with_reducible refine Touch.drewN ?_ _) | (with_reducible refine Touch.alloc ?_ _) | (with_reducible refine Touch.setCell ?_ _ _ _ ?_) | (with_reducible refine Touch.step (by assumption) ?_) | (with_reducible refine Touch.stepT (by assumption) ?_ ?_) | (intro _; first | rfl | trivial | omega | (simp; done) | (simp; omega)) | (intro _ _; first | omega | (simp; done) | (simp; omega))))⟩
      rw [← ints_set]
      exact (h.r1.keep _ (by omega)).set (by rw [ints_length]; omega) _
  · obtain ⟨m1, m2, m3, m4, m5, m6, m7⟩ := Clk.no hc (by omega)
    rw [m1, m2]
    clear m1 m2 m3 m4 m5 m6 m7
    have HI := Lib.hid hI
    clear hc hI
    go_enter Tryz.func81, Tryz.ntmps81
    go_wp2_with ((go_at_call 181; (with_reducible refine (r3_is _ c i _ H).mono ?_); rintro e w' ⟨rfl, rfl⟩); rw [HI.out])
    go_ret
    exact ⟨rfl, h, Touch.refl _ _⟩

set_option maxHeartbeats 1000000 in
theorem r3_enterB (v b1 b2 b3 c1 c2 c3 : Nat) (c : Clk) (i : Int) (w : World) (h : RClk w v c b1 b2 b3 c1 c2 c3) (ok : c.Ok) :
    Calls Tryz.prog 83 #[.pointer (some ⟨v, 0, none⟩), .int .i64 i] w fun e w' =>
      e = .returned (.int .i64 (c.can i)) ∧ RClk w' v (c.enter i) b1 b2 b3 c1 c2 c3 ∧ Touch (fun k => k = v ∨ k = b1 ∨ k = b2 ∨ k = b3) w w' := by
  have n1 : 1 ≤ c.n := h.n1
  have H : RClkAt w v c := ⟨b1, b2, b3, c1, c2, c3, h⟩
  rcases Clk.isB_can n1 i with ⟨hI, hc⟩ | ⟨hI, hc⟩
  · obtain ⟨_, hlt0, hltn⟩ := Clk.can_zero hc
    obtain ⟨g0, g1, g2, g3⟩ := h.cells
    have hr := (h.r2).at (ints_at (n := c.n.toNat) (j := i.toNat) (by omega))
    have fr := (h.r2).free
    have hlt2 : i < ((c.n.toNat : Nat) : Int) := by omega
    have hv1 := h.v1; have hv2 := h.v2; have hv3 := h.v3
    have HI := Lib.hid hI; clear hI
    obtain ⟨e1, e2, _⟩ := Clk.yes hc
    rw [e1, hc]; clear e1 e2 hc
    go_enter Tryz.func83, Tryz.ntmps83
    go_wp2_with ((go_at_call 181; (with_reducible refine (r3_is _ c i _ H).mono ?_); rintro e w' ⟨rfl, rfl⟩); rw [HI.out])
    go_region
    go_wp2
    go_ret
    refine ⟨rfl, h.setB (c' := { c with en := upd c.en i.toNat c.now }) rfl (heap_set_ne h.box _ (by omega)) ?_ ?_ ?_, by (repeat' (first | (with_reducible exact Touch.refl _ _) | (with_reducible assumption) | (with_reducible refine Touch.drew ?_) | (with_reducible refine Touch.drewN ?_ _) | (with_reducible refine Touch.alloc ?_ _) | (with_reducible refine Touch.setCell ?_ _ _ _ ?_) | (with_reducible refine Touch.step (by assumption) ?_) | (with_reducible refine Touch.stepT (by assumption) ?_ ?_) | (intro _; first | rfl | trivial | omega | (simp; done) | (simp; omega)) | (intro _ _; first | omega | (simp; done) | (simp; omega))))⟩
    · first | exact h.r1.keep _ (by first | exact h.d12 | exact h.d13)
    · first | exact h.r2.keep _ (by first | exact h.d23) | (rw [← ints_set]; exact h.r2.set (by rw [ints_length]; omega) _)
    · first | exact h.r3.keep _ (by first | exact Ne.symm h.d23) | (rw [← ints_set]; exact h.r3.set (by rw [ints_length]; omega) _)
  · obtain ⟨m1, m2, m3, m4, m5, m6, m7⟩ := Clk.no hc (by omega)
    rw [m3, hc]
    clear m1 m2 m3 m4 m5 m6 m7
    have HI := Lib.hid hI
    clear hc hI
    go_enter Tryz.func83, Tryz.ntmps83
    go_wp2_with ((go_at_call 181; (with_reducible refine (r3_is _ c i _ H).mono ?_); rintro e w' ⟨rfl, rfl⟩); rw [HI.out])
    go_ret
    exact ⟨rfl, h, Touch.refl _ _⟩
set_option maxHeartbeats 1000000 in
theorem r3_flushB (v b1 b2 b3 c1 c2 c3 : Nat) (c : Clk) (i : Int) (w : World) (h : RClk w v c b1 b2 b3 c1 c2 c3) (ok : c.Ok) :
    Calls Tryz.prog 177 #[.pointer (some ⟨v, 0, none⟩), .int .i64 i] w fun e w' =>
      e = .returned (.int .i64 (c.can i)) ∧ RClk w' v (c.flush i) b1 b2 b3 c1 c2 c3 ∧ Touch (fun k => k = v ∨ k = b1 ∨ k = b2 ∨ k = b3) w w' := by
  have n1 : 1 ≤ c.n := h.n1
  have H : RClkAt w v c := ⟨b1, b2, b3, c1, c2, c3, h⟩
  rcases Clk.isB_can n1 i with ⟨hI, hc⟩ | ⟨hI, hc⟩
  · obtain ⟨_, hlt0, hltn⟩ := Clk.can_zero hc
    obtain ⟨g0, g1, g2, g3⟩ := h.cells
    have hr := (h.r3).at (ints_at (n := c.n.toNat) (j := i.toNat) (by omega))
    have fr := (h.r3).free
    have hlt2 : i < ((c.n.toNat : Nat) : Int) := by omega
    have hv1 := h.v1; have hv2 := h.v2; have hv3 := h.v3
    have HI := Lib.hid hI; clear hI
    obtain ⟨e1, e2, _⟩ := Clk.yes hc
    rw [e2, hc]; clear e1 e2 hc
    go_enter Tryz.func177, Tryz.ntmps177
    go_wp2_with ((go_at_call 181; (with_reducible refine (r3_is _ c i _ H).mono ?_); rintro e w' ⟨rfl, rfl⟩); rw [HI.out])
    go_region
    go_wp2
    go_ret
    refine ⟨rfl, h.setB (c' := { c with fl := upd c.fl i.toNat c.now }) rfl (heap_set_ne h.box _ (by omega)) ?_ ?_ ?_, by (repeat' (first | (with_reducible exact Touch.refl _ _) | (with_reducible assumption) | (with_reducible refine Touch.drew ?_) | (with_reducible refine Touch.drewN ?_ _) | (with_reducible refine Touch.alloc ?_ _) | (with_reducible refine Touch.setCell ?_ _ _ _ ?_) | (with_reducible refine Touch.step (by assumption) ?_) | (with_reducible refine Touch.stepT (by assumption) ?_ ?_) | (intro _; first | rfl | trivial | omega | (simp; done) | (simp; omega)) | (intro _ _; first | omega | (simp; done) | (simp; omega))))⟩
    · first | exact h.r1.keep _ (by first | exact h.d12 | exact h.d13)
    · first | exact h.r2.keep _ (by first | exact h.d23) | (rw [← ints_set]; exact h.r2.set (by rw [ints_length]; omega) _)
    · first | exact h.r3.keep _ (by first | exact Ne.symm h.d23) | (rw [← ints_set]; exact h.r3.set (by rw [ints_length]; omega) _)
  · obtain ⟨m1, m2, m3, m4, m5, m6, m7⟩ := Clk.no hc (by omega)
    rw [m4, hc]
    clear m1 m2 m3 m4 m5 m6 m7
    have HI := Lib.hid hI
    clear hc hI
    go_enter Tryz.func177, Tryz.ntmps177
    go_wp2_with ((go_at_call 181; (with_reducible refine (r3_is _ c i _ H).mono ?_); rintro e w' ⟨rfl, rfl⟩); rw [HI.out])
    go_ret
    exact ⟨rfl, h, Touch.refl _ _⟩

end Go.Proofs.YtmahledpcpdldaaGreat
