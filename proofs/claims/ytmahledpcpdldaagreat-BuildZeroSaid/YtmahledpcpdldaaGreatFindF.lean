/- find.Fresh; find on a machine that nobody made. -/
import Derived.Test.YtmahledpcpdldaaGreatLive
import Derived.Test.YtmahledpcpdldaaGreatHeadIs
import Derived.Test.YtmahledpcpdldaaGreatZero25
set_option linter.unusedVariables false
set_option linter.unusedSimpArgs false
namespace Go.Proofs.YtmahledpcpdldaaGreat
open Go.RowKit
theorem fz_none (p : Option Addr) (w : World) (h : Mz w p) : Calls Tryz.prog 137 #[.pointer p] w fun e w' => e = .returned (.bool true) ∧ w = w' := by
  go_enter Tryz.func137, Tryz.ntmps137
  go_wp2_with ((go_at_call 70; (with_reducible refine (mz_cores p w h).mono ?_); rintro e w' ⟨rfl, rfl⟩))
  go_ret
  exact ⟨rfl, rfl⟩
theorem f_none (B : MBl) (m : Mach) (w : World) (h : MachIs w B m) (ok : m.Ok) : Calls Tryz.prog 137 #[.pointer (some ⟨B.b, 0, none⟩)] w fun e w' => e = .returned (.bool false) ∧ w = w' := by
  have n1 := ok.n1
  have hm : max m.clk.n 0 = m.clk.n := by omega
  have MC := mach_cores B m w h
  rw [hm] at MC
  have hz : (m.clk.n == 0) = false := by simp; omega
  generalize m.clk.n = n at *
  go_enter Tryz.func137, Tryz.ntmps137
  go_wp2_with ((go_at_call 70; (with_reducible refine (MC).mono ?_); rintro e w' ⟨rfl, rfl⟩))
  go_ret
  exact ⟨rfl, rfl⟩
theorem fz_cap (p : Option Addr) (root a k r : Int) (w : World) (h : Mz w p) : Calls Tryz.prog 32 #[.pointer p, .int .i64 root, .int .i64 a, .int .i64 k, .int .i64 r] w fun e w' => e = .returned (.tuple #[cap0, .int .i64 13]) ∧ Below w.heap.size w w' := by
  have hA : ∀ o, Mz (w.alloc o) p := fun o => h.below (by (refine Touch.below0 ?_; (repeat' (first | (with_reducible exact Touch.refl _ _) | (with_reducible assumption) | (with_reducible refine Touch.drew ?_) | (with_reducible refine Touch.drewN ?_ _) | (with_reducible refine Touch.alloc ?_ _) | (with_reducible refine Touch.setCell ?_ _ _ _ ?_) | (with_reducible refine Touch.step (by assumption) ?_) | (with_reducible refine Touch.stepT (by assumption) ?_ ?_) | (intro _; first | rfl | trivial | omega | (simp; done) | (simp; omega)) | (intro _ _; first | omega | (simp; done) | (simp; omega))))))
  have hA2 : ∀ o o2, Mz ((w.alloc o).alloc o2) p := fun o o2 => (h.below (by (refine Touch.below0 ?_; (repeat' (first | (with_reducible exact Touch.refl _ _) | (with_reducible assumption) | (with_reducible refine Touch.drew ?_) | (with_reducible refine Touch.drewN ?_ _) | (with_reducible refine Touch.alloc ?_ _) | (with_reducible refine Touch.setCell ?_ _ _ _ ?_) | (with_reducible refine Touch.step (by assumption) ?_) | (with_reducible refine Touch.stepT (by assumption) ?_ ?_) | (intro _; first | rfl | trivial | omega | (simp; done) | (simp; omega)) | (intro _ _; first | omega | (simp; done) | (simp; omega))))))).below (show Below (w.alloc o).heap.size _ _ by (refine Touch.below0 ?_; (repeat' (first | (with_reducible exact Touch.refl _ _) | (with_reducible assumption) | (with_reducible refine Touch.drew ?_) | (with_reducible refine Touch.drewN ?_ _) | (with_reducible refine Touch.alloc ?_ _) | (with_reducible refine Touch.setCell ?_ _ _ _ ?_) | (with_reducible refine Touch.step (by assumption) ?_) | (with_reducible refine Touch.stepT (by assumption) ?_ ?_) | (intro _; first | rfl | trivial | omega | (simp; done) | (simp; omega)) | (intro _ _; first | omega | (simp; done) | (simp; omega))))))
  go_enter Tryz.func32, Tryz.ntmps32
  go_wp2_with (first | (go_at_call 137; (with_reducible refine (fz_none _ _ (hA2 _ _)).mono ?_); rintro e w' ⟨rfl, rfl⟩) | (go_at_call 137; (with_reducible refine (fz_none _ _ (hA _)).mono ?_); rintro e w' ⟨rfl, rfl⟩))
  have hF := heap_new (w.alloc (.cells #[.pointer p] 27 (0, 0))) (.cells #[.int .i64 0, .int .i64 0, .int .i64 0, .int .i64 0, .int .i64 0, .int .i64 0] 38 (0, 0))
  refine bodyPost_ret (v := .tuple #[cap0, .int .i64 13]) ?_ rfl ⟨rfl, by (refine Touch.below0 ?_; (repeat' (first | (with_reducible exact Touch.refl _ _) | (with_reducible assumption) | (with_reducible refine Touch.drew ?_) | (with_reducible refine Touch.drewN ?_ _) | (with_reducible refine Touch.alloc ?_ _) | (with_reducible refine Touch.setCell ?_ _ _ _ ?_) | (with_reducible refine Touch.step (by assumption) ?_) | (with_reducible refine Touch.stepT (by assumption) ?_ ?_) | (intro _; first | rfl | trivial | omega | (simp; done) | (simp; omega)) | (intro _ _; first | omega | (simp; done) | (simp; omega)))))⟩
  have hc := cell_of hF
  simp at hc
  simp [results, Tryz.f32, go_sem, hc, cap0]
theorem fz_comp (p : Option Addr) (f : Int) (w : World) (h : Mz w p) : Calls Tryz.prog 34 #[.pointer p, .int .i64 f] w fun e w' => e = .returned (.tuple #[cap0, .int .i64 13]) ∧ Below w.heap.size w w' := by
  have hA : ∀ o, Mz (w.alloc o) p := fun o => h.below (by (refine Touch.below0 ?_; (repeat' (first | (with_reducible exact Touch.refl _ _) | (with_reducible assumption) | (with_reducible refine Touch.drew ?_) | (with_reducible refine Touch.drewN ?_ _) | (with_reducible refine Touch.alloc ?_ _) | (with_reducible refine Touch.setCell ?_ _ _ _ ?_) | (with_reducible refine Touch.step (by assumption) ?_) | (with_reducible refine Touch.stepT (by assumption) ?_ ?_) | (intro _; first | rfl | trivial | omega | (simp; done) | (simp; omega)) | (intro _ _; first | omega | (simp; done) | (simp; omega))))))
  go_enter Tryz.func34, Tryz.ntmps34
  go_wp2_with ((go_at_call 137; (with_reducible refine (fz_none _ _ (hA _)).mono ?_); rintro e w' ⟨rfl, rfl⟩))
  have hF := heap_new w (.cells #[.int .i64 0, .int .i64 0, .int .i64 0, .int .i64 0, .int .i64 0, .int .i64 0] 76 (0, 0))
  refine bodyPost_ret (v := .tuple #[cap0, .int .i64 13]) ?_ rfl ⟨rfl, by (refine Touch.below0 ?_; (repeat' (first | (with_reducible exact Touch.refl _ _) | (with_reducible assumption) | (with_reducible refine Touch.drew ?_) | (with_reducible refine Touch.drewN ?_ _) | (with_reducible refine Touch.alloc ?_ _) | (with_reducible refine Touch.setCell ?_ _ _ _ ?_) | (with_reducible refine Touch.step (by assumption) ?_) | (with_reducible refine Touch.stepT (by assumption) ?_ ?_) | (intro _; first | rfl | trivial | omega | (simp; done) | (simp; omega)) | (intro _ _; first | omega | (simp; done) | (simp; omega)))))⟩
  have hc := cell_of hF
  simp [results, Tryz.f34, go_sem, hc, cap0]
theorem fz_mem (p : Option Addr) (root a r f : Int) (w : World) (h : Mz w p) : Calls Tryz.prog 36 #[.pointer p, .int .i64 root, .int .i64 a, .int .i64 r, .int .i64 f] w fun e w' => e = .returned (.int .i64 13) ∧ Below w.heap.size w w' := by
  go_enter Tryz.func36, Tryz.ntmps36
  go_wp2_with ((go_at_call 32; (with_reducible refine (fz_cap p root a 2 r w h).mono ?_); rintro e w' ⟨rfl, hx⟩); have hw2 := hx.alloc hx.size (.cells #[.int .i64 0, .int .i64 0, .int .i64 0, .int .i64 0, .int .i64 0, .int .i64 0] 38 (0, 0)))
  go_ret
  exact ⟨rfl, hw2⟩
theorem fz_fresh (p : Option Addr) (f : Int) (w : World) (h : Mz w p) : Calls Tryz.prog 38 #[.pointer p, .int .i64 f] w fun e w' => e = .returned (.int .i64 13) ∧ Below w.heap.size w w' := by
  have hA2 : ∀ o o2, Mz ((w.alloc o).alloc o2) p := fun o o2 => (h.below (by (refine Touch.below0 ?_; (repeat' (first | (with_reducible exact Touch.refl _ _) | (with_reducible assumption) | (with_reducible refine Touch.drew ?_) | (with_reducible refine Touch.drewN ?_ _) | (with_reducible refine Touch.alloc ?_ _) | (with_reducible refine Touch.setCell ?_ _ _ _ ?_) | (with_reducible refine Touch.step (by assumption) ?_) | (with_reducible refine Touch.stepT (by assumption) ?_ ?_) | (intro _; first | rfl | trivial | omega | (simp; done) | (simp; omega)) | (intro _ _; first | omega | (simp; done) | (simp; omega))))))).below (show Below (w.alloc o).heap.size _ _ by (refine Touch.below0 ?_; (repeat' (first | (with_reducible exact Touch.refl _ _) | (with_reducible assumption) | (with_reducible refine Touch.drew ?_) | (with_reducible refine Touch.drewN ?_ _) | (with_reducible refine Touch.alloc ?_ _) | (with_reducible refine Touch.setCell ?_ _ _ _ ?_) | (with_reducible refine Touch.step (by assumption) ?_) | (with_reducible refine Touch.stepT (by assumption) ?_ ?_) | (intro _; first | rfl | trivial | omega | (simp; done) | (simp; omega)) | (intro _ _; first | omega | (simp; done) | (simp; omega))))))
  go_enter Tryz.func38, Tryz.ntmps38
  go_wp2
  go_step3
  go_wp2_with ((go_at_call 137; (with_reducible refine (fz_none _ _ (hA2 _ _)).mono ?_); rintro e w' ⟨rfl, rfl⟩))
  (try rw [Exit.noGoto_ret])
  go_ret
  exact ⟨rfl, by (refine Touch.below0 ?_; (repeat' (first | (with_reducible exact Touch.refl _ _) | (with_reducible assumption) | (with_reducible refine Touch.drew ?_) | (with_reducible refine Touch.drewN ?_ _) | (with_reducible refine Touch.alloc ?_ _) | (with_reducible refine Touch.setCell ?_ _ _ _ ?_) | (with_reducible refine Touch.step (by assumption) ?_) | (with_reducible refine Touch.stepT (by assumption) ?_ ?_) | (intro _; first | rfl | trivial | omega | (simp; done) | (simp; omega)) | (intro _ _; first | omega | (simp; done) | (simp; omega)))))⟩
theorem fz_alive (p : Option Addr) (w : World) (h : Mz w p) (x0 x1 x2 x3 x4 x5 : Int) : Calls Tryz.prog 40 #[.pointer p, .agg #[.int .i64 x0, .int .i64 x1, .int .i64 x2, .int .i64 x3, .int .i64 x4, .int .i64 x5]] w fun e w' => e = .returned (.bool false) ∧ Below w.heap.size w w' := by
  have hA : ∀ o, Mz (w.alloc o) p := fun o => h.below (by (refine Touch.below0 ?_; (repeat' (first | (with_reducible exact Touch.refl _ _) | (with_reducible assumption) | (with_reducible refine Touch.drew ?_) | (with_reducible refine Touch.drewN ?_ _) | (with_reducible refine Touch.alloc ?_ _) | (with_reducible refine Touch.setCell ?_ _ _ _ ?_) | (with_reducible refine Touch.step (by assumption) ?_) | (with_reducible refine Touch.stepT (by assumption) ?_ ?_) | (intro _; first | rfl | trivial | omega | (simp; done) | (simp; omega)) | (intro _ _; first | omega | (simp; done) | (simp; omega))))))
  go_enter Tryz.func40, Tryz.ntmps40
  go_upto_region 1 with (fail)
  have hF := heap_new w (.cells #[.int .i64 x0, .int .i64 x1, .int .i64 x2, .int .i64 x3, .int .i64 x4, .int .i64 x5] 89 (0, 0))
  (refine wp_region_calm (by kernel_rfl) (by kernel_rfl) ?_; (repeat (go_big_quiet_step (((go_at_call 137; first | (with_reducible refine Calls.calm_of (fz_none _ _ ((hA _).below (After.h _)))) | (with_reducible refine Calls.calm_of_same (fz_none _ _ ((hA _).below (After.h _))))))))); refine wpQuiet_nil ?_; intro _ hw'; obtain ⟨wq, hw''⟩ := hw'; subst hw''; obtain ⟨wq, hbq⟩ := wq; try dsimp only at *)
  go_wp2
  go_ret
  exact ⟨rfl, (show Below w.heap.size w _ by (refine Touch.below0 ?_; (repeat' (first | (with_reducible exact Touch.refl _ _) | (with_reducible assumption) | (with_reducible refine Touch.drew ?_) | (with_reducible refine Touch.drewN ?_ _) | (with_reducible refine Touch.alloc ?_ _) | (with_reducible refine Touch.setCell ?_ _ _ _ ?_) | (with_reducible refine Touch.step (by assumption) ?_) | (with_reducible refine Touch.stepT (by assumption) ?_ ?_) | (intro _; first | rfl | trivial | omega | (simp; done) | (simp; omega)) | (intro _ _; first | omega | (simp; done) | (simp; omega)))))).trans (hbq.mono (by simp))⟩
def Mach.freshE (m : Mach) (f : Int) : Int := if m.typ.type f = 2 then (if m.typ.count f = 0 ∧ isE m.mem f 0 = 0 then 0 else 10) else 4
theorem f_free (B : MBl) (m : Mach) (pb fb : Nat) (f : Int) (w : World) (h : MachIs w B m) (ok : m.Ok) (hp : w.heap[pb]? = some (.cells #[.pointer (some ⟨B.b, 0, none⟩)] 27 (0, 0))) (hf : w.heap[fb]? = some (.cells #[.int .i64 f] 3 (0, 0))) :
    Calls Tryz.prog 145 #[.pointer (some ⟨pb, 0, none⟩), .pointer (some ⟨fb, 0, none⟩)] w fun e w' => e = .returned (.bool (decide (m.typ.count f = 0) && decide (isE m.mem f 0 = 0))) ∧ Below w.heap.size w w' := by
  have CT := fun w h => typ_count B.ta B.tg B.tcap m.typ f w h ok.typ
  have IS := fun w h => head_is B.mb B.mg m.mem f 0 w h ok.mem
  have p0 := cell_of hp 0
  have f0 := cell_of hf 0
  have lp := lt_of_block hp
  have lf := lt_of_block hf
  dsimp at p0 f0
  generalize m.typ.count f = c at *
  generalize isE m.mem f 0 = E at *
  by_cases hc : c = 0
  · subst hc
    go_enter Tryz.func145, Tryz.ntmps145
    go_upto_region 1 with (fail)
    (refine wp_region_calm (by kernel_rfl) (by kernel_rfl) ?_; (repeat (go_big_quiet_step ((first
          | (go_at_call 84; first | (with_reducible refine Calls.calm_of (mach_typ _ _ _ (h.after (After.h _)))) | (with_reducible refine Calls.calm_of_same (mach_typ _ _ _ (h.after (After.h _)))))
          | (go_at_call 22; first | (with_reducible refine Calls.calm_of (mach_mem _ _ _ (h.after (After.h _)))) | (with_reducible refine Calls.calm_of_same (mach_mem _ _ _ (h.after (After.h _)))))
          | (go_at_call 97; first | (with_reducible refine Calls.calm_of (CT _ (h.typ.after (After.h _)))) | (with_reducible refine Calls.calm_of_same (CT _ (h.typ.after (After.h _)))))
          | (go_at_call 146; first | (with_reducible refine Calls.calm_of (IS _ (h.mem.after (After.h _)))) | (with_reducible refine Calls.calm_of_same (IS _ (h.mem.after (After.h _))))))))); refine wpQuiet_nil ?_; intro _ hw'; obtain ⟨wq, hw''⟩ := hw'; subst hw''; obtain ⟨wq, hbq⟩ := wq; try dsimp only at *)
    go_wp2
    go_ret
    exact ⟨ret_bool (by simp; rfl), hbq⟩
  · have hc2 : (c == 0) = false := by simpa using hc
    go_enter Tryz.func145, Tryz.ntmps145
    go_upto_region 1 with (fail)
    (refine wp_region_calm (by kernel_rfl) (by kernel_rfl) ?_; (repeat (go_big_quiet_step ((first
          | (go_at_call 84; first | (with_reducible refine Calls.calm_of (mach_typ _ _ _ (h.after (After.h _)))) | (with_reducible refine Calls.calm_of_same (mach_typ _ _ _ (h.after (After.h _)))))
          | (go_at_call 22; first | (with_reducible refine Calls.calm_of (mach_mem _ _ _ (h.after (After.h _)))) | (with_reducible refine Calls.calm_of_same (mach_mem _ _ _ (h.after (After.h _)))))
          | (go_at_call 97; first | (with_reducible refine Calls.calm_of (CT _ (h.typ.after (After.h _)))) | (with_reducible refine Calls.calm_of_same (CT _ (h.typ.after (After.h _)))))
          | (go_at_call 146; first | (with_reducible refine Calls.calm_of (IS _ (h.mem.after (After.h _)))) | (with_reducible refine Calls.calm_of_same (IS _ (h.mem.after (After.h _))))))))); refine wpQuiet_nil ?_; intro _ hw'; obtain ⟨wq, hw''⟩ := hw'; subst hw''; obtain ⟨wq, hbq⟩ := wq; try dsimp only at *)
    go_wp2
    go_ret
    exact ⟨ret_bool (by simp [hc]), hbq⟩
set_option maxHeartbeats 1000000 in
theorem f_fresh (B : MBl) (m : Mach) (f : Int) (w : World) (h : MachIs w B m) (ok : m.Ok) : Calls Tryz.prog 38 #[.pointer (some ⟨B.b, 0, none⟩), .int .i64 f] w fun e w' => e = .returned (.int .i64 (m.freshE f)) ∧ Below w.heap.size w w' := by
  have TY := fun w h => typ_type B.ta B.tg B.tcap m.typ f w h ok.typ
  have FR := fun pb fb w h => f_free B m pb fb f w h ok
  unfold Mach.freshE
  generalize m.typ.type f = T at *
  by_cases hT : T = 2
  · subst hT
    rw [if_pos rfl]
    by_cases hc : m.typ.count f = 0 ∧ isE m.mem f 0 = 0
    · rw [if_pos hc]
      have hd : (decide (m.typ.count f = 0) && decide (isE m.mem f 0 = 0)) = true := by simp [hc.1, hc.2]
      rw [hd] at FR
      clear hc hd
      go_enter Tryz.func38, Tryz.ntmps38
      go_wp2
      go_step3
      have hB0 : Below w.heap.size w ((w.alloc (.cells #[.pointer (some ⟨B.b, 0, none⟩)] 27 (0, 0))).alloc (.cells #[.int .i64 f] 3 (0, 0))) := by (refine Touch.below0 ?_; (repeat' (first | (with_reducible exact Touch.refl _ _) | (with_reducible assumption) | (with_reducible refine Touch.drew ?_) | (with_reducible refine Touch.drewN ?_ _) | (with_reducible refine Touch.alloc ?_ _) | (with_reducible refine Touch.setCell ?_ _ _ _ ?_) | (with_reducible refine Touch.step (by assumption) ?_) | (with_reducible refine Touch.stepT (by assumption) ?_ ?_) | (intro _; first | rfl | trivial | omega | (simp; done) | (simp; omega)) | (intro _ _; first | omega | (simp; done) | (simp; omega)))))
      have hp := heap_alloc (heap_new w (.cells #[.pointer (some ⟨B.b, 0, none⟩)] 27 (0, 0))) (.cells #[.int .i64 f] 3 (0, 0))
      have hf : ((w.alloc (.cells #[.pointer (some ⟨B.b, 0, none⟩)] 27 (0, 0))).alloc (.cells #[.int .i64 f] 3 (0, 0))).heap[w.heap.size + 1]? = some (.cells #[.int .i64 f] 3 (0, 0)) := heap_new' (by simp) _
      have hM := h.after hB0
      generalize (w.alloc (.cells #[.pointer (some ⟨B.b, 0, none⟩)] 27 (0, 0))).alloc (.cells #[.int .i64 f] 3 (0, 0)) = W at *
      have p0 := cell_of hp 0
      have f0 := cell_of hf 0
      have lp := lt_of_block hp
      have lf := lt_of_block hf
      dsimp at p0 f0
      go_upto_region 3 with ((go_at_call 137; (with_reducible refine (f_none _ _ _ hM ok).mono ?_); rintro e w' ⟨rfl, rfl⟩))
      go_wp2
      go_step3
      go_upto_region 5 with (fail)
      (refine wp_region_calm (by kernel_rfl) (by kernel_rfl) ?_; (repeat (go_big_quiet_step ((first
              | (go_at_call 84; first | (with_reducible refine Calls.calm_of (mach_typ _ _ _ (hM.after (After.h _)))) | (with_reducible refine Calls.calm_of_same (mach_typ _ _ _ (hM.after (After.h _)))))
              | (go_at_call 96; first | (with_reducible refine Calls.calm_of (TY _ (hM.typ.after (After.h _)))) | (with_reducible refine Calls.calm_of_same (TY _ (hM.typ.after (After.h _))))))))); refine wpQuiet_nil ?_; intro _ hw'; obtain ⟨wq, hw''⟩ := hw'; subst hw''; obtain ⟨wq, hbq⟩ := wq; try dsimp only at *)
      go_wp2_with ((go_at_call 145; (with_reducible refine (FR _ _ _ (hM.after hbq) ((hbq.block _ lp).trans hp) ((hbq.block _ lf).trans hf)).mono ?_); rintro e w' ⟨rfl, hx⟩); have hw9 := (hB0.trans (hbq.mono hB0.size)); have hw9 := hw9.trans (hx.mono hw9.size))
      (try rw [Exit.noGoto_ret])
      go_ret
      exact ⟨rfl, hw9⟩
    · rw [if_neg hc]
      have hd : (decide (m.typ.count f = 0) && decide (isE m.mem f 0 = 0)) = false := by
        by_cases h0 : m.typ.count f = 0
        · have : ¬ isE m.mem f 0 = 0 := fun e => hc ⟨h0, e⟩
          simp [this]
        · simp [h0]
      rw [hd] at FR
      clear hc hd
      go_enter Tryz.func38, Tryz.ntmps38
      go_wp2
      go_step3
      have hB0 : Below w.heap.size w ((w.alloc (.cells #[.pointer (some ⟨B.b, 0, none⟩)] 27 (0, 0))).alloc (.cells #[.int .i64 f] 3 (0, 0))) := by (refine Touch.below0 ?_; (repeat' (first | (with_reducible exact Touch.refl _ _) | (with_reducible assumption) | (with_reducible refine Touch.drew ?_) | (with_reducible refine Touch.drewN ?_ _) | (with_reducible refine Touch.alloc ?_ _) | (with_reducible refine Touch.setCell ?_ _ _ _ ?_) | (with_reducible refine Touch.step (by assumption) ?_) | (with_reducible refine Touch.stepT (by assumption) ?_ ?_) | (intro _; first | rfl | trivial | omega | (simp; done) | (simp; omega)) | (intro _ _; first | omega | (simp; done) | (simp; omega)))))
      have hp := heap_alloc (heap_new w (.cells #[.pointer (some ⟨B.b, 0, none⟩)] 27 (0, 0))) (.cells #[.int .i64 f] 3 (0, 0))
      have hf : ((w.alloc (.cells #[.pointer (some ⟨B.b, 0, none⟩)] 27 (0, 0))).alloc (.cells #[.int .i64 f] 3 (0, 0))).heap[w.heap.size + 1]? = some (.cells #[.int .i64 f] 3 (0, 0)) := heap_new' (by simp) _
      have hM := h.after hB0
      generalize (w.alloc (.cells #[.pointer (some ⟨B.b, 0, none⟩)] 27 (0, 0))).alloc (.cells #[.int .i64 f] 3 (0, 0)) = W at *
      have p0 := cell_of hp 0
      have f0 := cell_of hf 0
      have lp := lt_of_block hp
      have lf := lt_of_block hf
      dsimp at p0 f0
      go_upto_region 3 with ((go_at_call 137; (with_reducible refine (f_none _ _ _ hM ok).mono ?_); rintro e w' ⟨rfl, rfl⟩))
      go_wp2
      go_step3
      go_upto_region 5 with (fail)
      (refine wp_region_calm (by kernel_rfl) (by kernel_rfl) ?_; (repeat (go_big_quiet_step ((first
              | (go_at_call 84; first | (with_reducible refine Calls.calm_of (mach_typ _ _ _ (hM.after (After.h _)))) | (with_reducible refine Calls.calm_of_same (mach_typ _ _ _ (hM.after (After.h _)))))
              | (go_at_call 96; first | (with_reducible refine Calls.calm_of (TY _ (hM.typ.after (After.h _)))) | (with_reducible refine Calls.calm_of_same (TY _ (hM.typ.after (After.h _))))))))); refine wpQuiet_nil ?_; intro _ hw'; obtain ⟨wq, hw''⟩ := hw'; subst hw''; obtain ⟨wq, hbq⟩ := wq; try dsimp only at *)
      go_wp2_with ((go_at_call 145; (with_reducible refine (FR _ _ _ (hM.after hbq) ((hbq.block _ lp).trans hp) ((hbq.block _ lf).trans hf)).mono ?_); rintro e w' ⟨rfl, hx⟩); have hw9 := (hB0.trans (hbq.mono hB0.size)); have hw9 := hw9.trans (hx.mono hw9.size))
      (try rw [Exit.noGoto_ret])
      go_ret
      exact ⟨rfl, hw9⟩
  · rw [if_neg hT]
    have hT2 : (T == 2) = false := by simpa using hT
    have hT3 : (T != 2) = true := by simpa using hT
    go_enter Tryz.func38, Tryz.ntmps38
    go_wp2
    go_step3
    have hB0 : Below w.heap.size w ((w.alloc (.cells #[.pointer (some ⟨B.b, 0, none⟩)] 27 (0, 0))).alloc (.cells #[.int .i64 f] 3 (0, 0))) := by (refine Touch.below0 ?_; (repeat' (first | (with_reducible exact Touch.refl _ _) | (with_reducible assumption) | (with_reducible refine Touch.drew ?_) | (with_reducible refine Touch.drewN ?_ _) | (with_reducible refine Touch.alloc ?_ _) | (with_reducible refine Touch.setCell ?_ _ _ _ ?_) | (with_reducible refine Touch.step (by assumption) ?_) | (with_reducible refine Touch.stepT (by assumption) ?_ ?_) | (intro _; first | rfl | trivial | omega | (simp; done) | (simp; omega)) | (intro _ _; first | omega | (simp; done) | (simp; omega)))))
    have hp := heap_alloc (heap_new w (.cells #[.pointer (some ⟨B.b, 0, none⟩)] 27 (0, 0))) (.cells #[.int .i64 f] 3 (0, 0))
    have hf : ((w.alloc (.cells #[.pointer (some ⟨B.b, 0, none⟩)] 27 (0, 0))).alloc (.cells #[.int .i64 f] 3 (0, 0))).heap[w.heap.size + 1]? = some (.cells #[.int .i64 f] 3 (0, 0)) := heap_new' (by simp) _
    have hM := h.after hB0
    generalize (w.alloc (.cells #[.pointer (some ⟨B.b, 0, none⟩)] 27 (0, 0))).alloc (.cells #[.int .i64 f] 3 (0, 0)) = W at *
    have p0 := cell_of hp 0
    have f0 := cell_of hf 0
    have lp := lt_of_block hp
    have lf := lt_of_block hf
    dsimp at p0 f0
    go_upto_region 3 with ((go_at_call 137; (with_reducible refine (f_none _ _ _ hM ok).mono ?_); rintro e w' ⟨rfl, rfl⟩))
    go_wp2
    go_step3
    go_upto_region 5 with (fail)
    (refine wp_region_calm (by kernel_rfl) (by kernel_rfl) ?_; (repeat (go_big_quiet_step ((first
          | (go_at_call 84; first | (with_reducible refine Calls.calm_of (mach_typ _ _ _ (hM.after (After.h _)))) | (with_reducible refine Calls.calm_of_same (mach_typ _ _ _ (hM.after (After.h _)))))
          | (go_at_call 96; first | (with_reducible refine Calls.calm_of (TY _ (hM.typ.after (After.h _)))) | (with_reducible refine Calls.calm_of_same (TY _ (hM.typ.after (After.h _))))))))); refine wpQuiet_nil ?_; intro _ hw'; obtain ⟨wq, hw''⟩ := hw'; subst hw''; obtain ⟨wq, hbq⟩ := wq; try dsimp only at *)
    have hw9 := (hB0.trans (hbq.mono hB0.size))
    go_wp2
    (try rw [Exit.noGoto_ret])
    go_ret
    exact ⟨rfl, hw9⟩
end Go.Proofs.YtmahledpcpdldaaGreat
