/- find.Cap, find.Mem on a machine. -/
import Derived.Test.YtejdfdllgobnhaaGreatFindF
import Derived.Test.YtejdfdllgobnhaaGreatGTbb
set_option linter.unusedVariables false
set_option linter.unusedSimpArgs false
namespace Go.Proofs.YtejdfdllgobnhaaGreat
open Go.RowKit
theorem cap_lives (ck cr ct cl ce ca : Int) (w : World) : Calls Tryz.prog 119 #[.agg #[.int .i64 ck, .int .i64 cr, .int .i64 ct, .int .i64 cl, .int .i64 ce, .int .i64 ca]] w fun e w' => e = .returned (.bool (decide (ck = 5) || decide (ck = 7))) ∧ Below w.heap.size w w' := by
  by_cases h5 : ck = 5
  · subst h5
    go_enter Tryz.func119, Tryz.ntmps119
    go_wp2
    go_ret
    exact ⟨ret_bool (by simp), by (refine Touch.below0 ?_; (repeat' (first | (with_reducible exact Touch.refl _ _) | (with_reducible assumption) | (with_reducible refine Touch.drew ?_) | (with_reducible refine Touch.drewN ?_ _) | (with_reducible refine Touch.alloc ?_ _) | (with_reducible refine Touch.setCell ?_ _ _ _ ?_) | (with_reducible refine Touch.step (by assumption) ?_) | (with_reducible refine Touch.stepT (by assumption) ?_ ?_) | (intro _; first | rfl | trivial | omega | (simp; done) | (simp; omega)) | (intro _ _; first | omega | (simp; done) | (simp; omega)))))⟩
  · have h6 : (ck == 5) = false := by simpa using h5
    go_enter Tryz.func119, Tryz.ntmps119
    go_wp2
    go_ret
    exact ⟨ret_bool (by simp [h5]; rfl), by (refine Touch.below0 ?_; (repeat' (first | (with_reducible exact Touch.refl _ _) | (with_reducible assumption) | (with_reducible refine Touch.drew ?_) | (with_reducible refine Touch.drewN ?_ _) | (with_reducible refine Touch.alloc ?_ _) | (with_reducible refine Touch.setCell ?_ _ _ _ ?_) | (with_reducible refine Touch.step (by assumption) ?_) | (with_reducible refine Touch.stepT (by assumption) ?_ ?_) | (intro _; first | rfl | trivial | omega | (simp; done) | (simp; omega)) | (intro _ _; first | omega | (simp; done) | (simp; omega)))))⟩
set_option maxHeartbeats 1000000 in
theorem f_dead (B : MBl) (m : Mach) (l : LiveS) (cb pb : Nat) (ck cr ct cl ce ca : Int) (w : World) (h : MachL w B m l) (hc : w.heap[cb]? = some (.cells #[.int .i64 ck, .int .i64 cr, .int .i64 ct, .int .i64 cl, .int .i64 ce, .int .i64 ca] 32 (0, 0))) (hp : w.heap[pb]? = some (.cells #[.pointer (some ⟨B.b, 0, none⟩)] 38 (0, 0))) :
    Calls Tryz.prog 118 #[.pointer (some ⟨cb, 0, none⟩), .pointer (some ⟨pb, 0, none⟩)] w fun e w' => e = .returned (.bool ((decide (ck = 5) || decide (ck = 7)) && !(l.valid cl ce))) ∧ Below w.heap.size w w' := by
  have LV := fun w => cap_lives ck cr ct cl ce ca w
  have VA := fun w h => live_valid B.lb (B.lb - 1) l cl ce w h
  have p0 := cell_of hp 0
  have q0 := cell_of hc 0; have q1 := cell_of hc 1; have q2 := cell_of hc 2; have q3 := cell_of hc 3; have q4 := cell_of hc 4; have q5 := cell_of hc 5
  have lp := lt_of_block hp
  have lc := lt_of_block hc
  dsimp at p0 q0 q1 q2 q3 q4 q5
  generalize l.valid cl ce = V at *
  generalize (decide (ck = 5) || decide (ck = 7)) = L at *
  cases L
  · go_enter Tryz.func118, Tryz.ntmps118
    go_upto_region 1 with (fail)
    (refine wp_region_calm (by kernel_rfl) (by kernel_rfl) ?_; (repeat (go_big_quiet_step ((first
          | (go_at_call 119; first | (with_reducible refine Calls.calm_of (LV _)) | (with_reducible refine Calls.calm_of_same (LV _)))
          | (go_at_call 35; first | (with_reducible refine Calls.calm_of (mach_live _ _ _ (h.mach.after (After.h _)))) | (with_reducible refine Calls.calm_of_same (mach_live _ _ _ (h.mach.after (After.h _)))))
          | (go_at_call 120; first | (with_reducible refine Calls.calm_of (VA _ (h.live.after (After.h _)))) | (with_reducible refine Calls.calm_of_same (VA _ (h.live.after (After.h _))))))))); refine wpQuiet_nil ?_; intro _ hw'; obtain ⟨wq, hw''⟩ := hw'; subst hw''; obtain ⟨wq, hbq⟩ := wq; try dsimp only at *)
    go_wp2
    go_ret
    exact ⟨rfl, hbq⟩
  · go_enter Tryz.func118, Tryz.ntmps118
    go_upto_region 1 with (fail)
    (refine wp_region_calm (by kernel_rfl) (by kernel_rfl) ?_; (repeat (go_big_quiet_step ((first
          | (go_at_call 119; first | (with_reducible refine Calls.calm_of (LV _)) | (with_reducible refine Calls.calm_of_same (LV _)))
          | (go_at_call 35; first | (with_reducible refine Calls.calm_of (mach_live _ _ _ (h.mach.after (After.h _)))) | (with_reducible refine Calls.calm_of_same (mach_live _ _ _ (h.mach.after (After.h _)))))
          | (go_at_call 120; first | (with_reducible refine Calls.calm_of (VA _ (h.live.after (After.h _)))) | (with_reducible refine Calls.calm_of_same (VA _ (h.live.after (After.h _))))))))); refine wpQuiet_nil ?_; intro _ hw'; obtain ⟨wq, hw''⟩ := hw'; subst hw''; obtain ⟨wq, hbq⟩ := wq; try dsimp only at *)
    go_wp2
    go_ret
    exact ⟨ret_bool (by simp), hbq⟩

def Mach.capE (m : Mach) (l : LiveS) (root a k r : Int) : Int :=
  if lookE m.mem root a = 0 then (if (lookC m.mem root a).k = k then (if bits .andNot .i64 r (lookC m.mem root a).r = 0 then (if ((decide ((lookC m.mem root a).k = 5) || decide ((lookC m.mem root a).k = 7)) && !(l.valid (lookC m.mem root a).l (lookC m.mem root a).e)) = true then 7 else 0) else 5) else 4) else lookE m.mem root a
def Mach.capC (m : Mach) (l : LiveS) (root a k r : Int) : CapS := if m.capE l root a k r = 0 then lookC m.mem root a else CapS.zero
set_option maxHeartbeats 4000000 in
set_option maxRecDepth 100000 in
theorem f_cap (B : MBl) (m : Mach) (l : LiveS) (root a k r : Int) (w : World) (h : MachL w B m l) (ok : m.Ok) : Calls Tryz.prog 22 #[.pointer (some ⟨B.b, 0, none⟩), .int .i64 root, .int .i64 a, .int .i64 k, .int .i64 r] w fun e w' =>
    e = .returned (.tuple #[(m.capC l root a k r).v, .int .i64 (m.capE l root a k r)]) ∧ Below w.heap.size w w' := by
  have LK := fun w h => tbl_Look B.mb B.mg m.mem root a w h ok.mem
  have DD := fun cb pb w => f_dead B m l cb pb (lookC m.mem root a).k (lookC m.mem root a).r (lookC m.mem root a).t (lookC m.mem root a).l (lookC m.mem root a).e (lookC m.mem root a).a w
  unfold Mach.capC Mach.capE
  generalize lookC m.mem root a = C at *
  generalize lookE m.mem root a = E at *
  obtain ⟨ck, cr, ct, cl, ce, ca⟩ := C
  unfold CapS.v at LK ⊢
  dsimp only at LK DD ⊢
  generalize hF : (if E = 0 then (if ck = k then (if bits .andNot .i64 r cr = 0 then (if ((decide (ck = 5) || decide (ck = 7)) && !(l.valid cl ce)) = true then (7 : Int) else 0) else 5) else 4) else E) = FE at *
  generalize hG : (if FE = 0 then (⟨ck, cr, ct, cl, ce, ca⟩ : CapS) else CapS.zero) = FC at *
  have HF := Lib.hid hF
  have HG := Lib.hid hG
  clear hF hG
  go_enter Tryz.func22, Tryz.ntmps22
  go_upto_region 1 with (fail)
  have hB0 : Below w.heap.size w ((w.alloc (.cells #[.pointer (some ⟨B.b, 0, none⟩)] 38 (0, 0))).alloc (.cells #[.int .i64 0, .int .i64 0, .int .i64 0, .int .i64 0, .int .i64 0, .int .i64 0] 32 (0, 0))) := by (refine Touch.below0 ?_; (repeat' (first | (with_reducible exact Touch.refl _ _) | (with_reducible assumption) | (with_reducible refine Touch.drew ?_) | (with_reducible refine Touch.drewN ?_ _) | (with_reducible refine Touch.alloc ?_ _) | (with_reducible refine Touch.setCell ?_ _ _ _ ?_) | (with_reducible refine Touch.step (by assumption) ?_) | (with_reducible refine Touch.stepT (by assumption) ?_ ?_) | (intro _; first | rfl | trivial | omega | (simp; done) | (simp; omega)) | (intro _ _; first | omega | (simp; done) | (simp; omega)))))
  have hp := heap_alloc (heap_new w (.cells #[.pointer (some ⟨B.b, 0, none⟩)] 38 (0, 0))) (.cells #[.int .i64 0, .int .i64 0, .int .i64 0, .int .i64 0, .int .i64 0, .int .i64 0] 32 (0, 0))
  have hC : ((w.alloc (.cells #[.pointer (some ⟨B.b, 0, none⟩)] 38 (0, 0))).alloc (.cells #[.int .i64 0, .int .i64 0, .int .i64 0, .int .i64 0, .int .i64 0, .int .i64 0] 32 (0, 0))).heap[w.heap.size + 1]? = some (.cells #[.int .i64 0, .int .i64 0, .int .i64 0, .int .i64 0, .int .i64 0, .int .i64 0] 32 (0, 0)) := heap_new' (by simp) _
  have hM := h.after hB0
  generalize (w.alloc (.cells #[.pointer (some ⟨B.b, 0, none⟩)] 38 (0, 0))).alloc (.cells #[.int .i64 0, .int .i64 0, .int .i64 0, .int .i64 0, .int .i64 0, .int .i64 0] 32 (0, 0)) = W at *
  have hR : w.heap.size ≤ w.heap.size + 1 := Nat.le_succ _
  have hRp : w.heap.size ≠ w.heap.size + 1 := by omega
  generalize w.heap.size + 1 = R at *
  have p0 := cell_of hp 0
  dsimp at p0
  go_upto_region 4 with (first
    | (go_at_call 117; (with_reducible refine (f_none _ _ _ hM.mach ok).mono ?_); rintro e w' ⟨rfl, rfl⟩)
    | (go_at_call 30; (with_reducible refine (mach_mem _ _ _ hM.mach).mono ?_); rintro e w' ⟨rfl, rfl⟩)
    | ((go_at_call 61; (with_reducible refine (LK _ hM.mach.mem).mono ?_); rintro e w' ⟨rfl, hx⟩); have hy := hx.alloc hx.size (.cells #[.int .i64 ck, .int .i64 cr, .int .i64 ct, .int .i64 cl, .int .i64 ce, .int .i64 ca] 32 (0, 0))))
  have hc := heap_new w' (.cells #[.int .i64 ck, .int .i64 cr, .int .i64 ct, .int .i64 cl, .int .i64 ce, .int .i64 ca] 32 (0, 0))
  have hp := (hy.block _ (lt_of_block hp)).trans hp
  have hC := (hy.block _ (lt_of_block hC)).trans hC
  have hM := hM.after hy
  have hw2 := hB0.trans (hy.mono hB0.size)
  have hRc : R ≠ w'.heap.size := by have := hx.size; have := lt_of_block ‹W.heap[R]? = _›; omega
  generalize w'.alloc (.cells #[.int .i64 ck, .int .i64 cr, .int .i64 ct, .int .i64 cl, .int .i64 ce, .int .i64 ca] 32 (0, 0)) = W2 at *
  generalize w'.heap.size = cb at *
  have p0 := cell_of hp 0
  have q0 := cell_of hc 0; have q1 := cell_of hc 1; have q2 := cell_of hc 2; have q3 := cell_of hc 3; have q4 := cell_of hc 4; have q5 := cell_of hc 5
  have r0 := cell_of hC 0; have r1 := cell_of hC 1; have r2 := cell_of hC 2; have r3 := cell_of hC 3; have r4 := cell_of hC 4; have r5 := cell_of hC 5
  have frR := frozen_of hC
  dsimp at p0 q0 q1 q2 q3 q4 q5 r0 r1 r2 r3 r4 r5
  by_cases hE : E = 0
  rotate_left
  · have hE2 : (E == 0) = false := by simpa using hE
    have hE3 : (E != 0) = true := by simpa using hE
    have hF := HF.out; have hG := HG.out; clear HF HG
    rw [if_neg hE] at hF; subst hF
    rw [if_neg hE] at hG; subst hG
    go_wp2
    have hFC := heap_set (o := 5) (heap_set (o := 4) (heap_set (o := 3) (heap_set (o := 2) (heap_set (o := 1) (heap_set (o := 0) hC (.int .i64 0)) (.int .i64 0)) (.int .i64 0)) (.int .i64 0)) (.int .i64 0)) (.int .i64 0)
    have hwF := (((((hw2.setCell (p := ⟨R, 0, none⟩) hR (.int .i64 0)).setCell (p := ⟨R, 1, none⟩) hR (.int .i64 0)).setCell (p := ⟨R, 2, none⟩) hR (.int .i64 0)).setCell (p := ⟨R, 3, none⟩) hR (.int .i64 0)).setCell (p := ⟨R, 4, none⟩) hR (.int .i64 0)).setCell (p := ⟨R, 5, none⟩) hR (.int .i64 0)
    refine bodyPost_ret (v := .tuple #[.agg #[.int .i64 0, .int .i64 0, .int .i64 0, .int .i64 0, .int .i64 0, .int .i64 0], .int .i64 E]) ?_ rfl ⟨rfl, hwF⟩
    have hc1 := cell_of hFC
    simp [results, Tryz.f22, go_sem, hc1]
  subst hE
  by_cases hk : ck = k
  rotate_left
  · have hk2 : (ck == k) = false := by simpa using hk
    have hk3 : (ck != k) = true := by simpa using hk
    have hF := HF.out; have hG := HG.out; clear HF HG
    rw [if_pos rfl, if_neg hk] at hF; subst hF
    rw [if_neg (by decide)] at hG; subst hG
    go_wp2
    have hFC := heap_set (o := 5) (heap_set (o := 4) (heap_set (o := 3) (heap_set (o := 2) (heap_set (o := 1) (heap_set (o := 0) hC (.int .i64 0)) (.int .i64 0)) (.int .i64 0)) (.int .i64 0)) (.int .i64 0)) (.int .i64 0)
    have hwF := (((((hw2.setCell (p := ⟨R, 0, none⟩) hR (.int .i64 0)).setCell (p := ⟨R, 1, none⟩) hR (.int .i64 0)).setCell (p := ⟨R, 2, none⟩) hR (.int .i64 0)).setCell (p := ⟨R, 3, none⟩) hR (.int .i64 0)).setCell (p := ⟨R, 4, none⟩) hR (.int .i64 0)).setCell (p := ⟨R, 5, none⟩) hR (.int .i64 0)
    refine bodyPost_ret (v := .tuple #[.agg #[.int .i64 0, .int .i64 0, .int .i64 0, .int .i64 0, .int .i64 0, .int .i64 0], .int .i64 4]) ?_ rfl ⟨rfl, hwF⟩
    have hc1 := cell_of hFC
    simp [results, Tryz.f22, go_sem, hc1]
  subst hk
  by_cases hn : bits .andNot .i64 r cr = 0
  rotate_left
  · have hn2 : (bits .andNot .i64 r cr == 0) = false := by simpa using hn
    have hn3 : (bits .andNot .i64 r cr != 0) = true := by simpa using hn
    have hF := HF.out; have hG := HG.out; clear HF HG
    rw [if_pos rfl, if_pos rfl, if_neg hn] at hF; subst hF
    rw [if_neg (by decide)] at hG; subst hG
    go_wp2
    have hFC := heap_set (o := 5) (heap_set (o := 4) (heap_set (o := 3) (heap_set (o := 2) (heap_set (o := 1) (heap_set (o := 0) hC (.int .i64 0)) (.int .i64 0)) (.int .i64 0)) (.int .i64 0)) (.int .i64 0)) (.int .i64 0)
    have hwF := (((((hw2.setCell (p := ⟨R, 0, none⟩) hR (.int .i64 0)).setCell (p := ⟨R, 1, none⟩) hR (.int .i64 0)).setCell (p := ⟨R, 2, none⟩) hR (.int .i64 0)).setCell (p := ⟨R, 3, none⟩) hR (.int .i64 0)).setCell (p := ⟨R, 4, none⟩) hR (.int .i64 0)).setCell (p := ⟨R, 5, none⟩) hR (.int .i64 0)
    refine bodyPost_ret (v := .tuple #[.agg #[.int .i64 0, .int .i64 0, .int .i64 0, .int .i64 0, .int .i64 0, .int .i64 0], .int .i64 5]) ?_ rfl ⟨rfl, hwF⟩
    have hc1 := cell_of hFC
    simp [results, Tryz.f22, go_sem, hc1]
  generalize hD : ((decide (ck = 5) || decide (ck = 7)) && !(l.valid cl ce)) = D at *
  cases D
  · have hF := HF.out; have hG := HG.out; clear HF HG hD
    rw [if_pos rfl, if_pos rfl, if_pos hn, if_neg (by decide)] at hF; subst hF
    rw [if_pos rfl] at hG; subst hG
    go_wp2_with ((go_at_call 118; (with_reducible refine (DD _ _ _ hM hc hp).mono ?_); rintro e w' ⟨rfl, hx⟩); have hw3 := hw2.trans (hx.mono hw2.size); have hC := (hx.block _ (lt_of_block hC)).trans hC; have s0 := cell_of hC 0; have s1 := cell_of hC 1; have s2 := cell_of hC 2; have s3 := cell_of hC 3; have s4 := cell_of hC 4; have s5 := cell_of hC 5; have fr2 := frozen_of hC; have hc := (hx.block _ (lt_of_block hc)).trans hc; have q0 := cell_of hc 0; have q1 := cell_of hc 1; have q2 := cell_of hc 2; have q3 := cell_of hc 3; have q4 := cell_of hc 4; have q5 := cell_of hc 5; dsimp at s0 s1 s2 s3 s4 s5 q0 q1 q2 q3 q4 q5)
    have hFC := heap_set (o := 5) (heap_set (o := 4) (heap_set (o := 3) (heap_set (o := 2) (heap_set (o := 1) (heap_set (o := 0) hC (.int .i64 ck)) (.int .i64 cr)) (.int .i64 ct)) (.int .i64 cl)) (.int .i64 ce)) (.int .i64 ca)
    have hwF := (((((hw3.setCell (p := ⟨R, 0, none⟩) hR (.int .i64 ck)).setCell (p := ⟨R, 1, none⟩) hR (.int .i64 cr)).setCell (p := ⟨R, 2, none⟩) hR (.int .i64 ct)).setCell (p := ⟨R, 3, none⟩) hR (.int .i64 cl)).setCell (p := ⟨R, 4, none⟩) hR (.int .i64 ce)).setCell (p := ⟨R, 5, none⟩) hR (.int .i64 ca)
    refine bodyPost_ret (v := .tuple #[.agg #[.int .i64 ck, .int .i64 cr, .int .i64 ct, .int .i64 cl, .int .i64 ce, .int .i64 ca], .int .i64 0]) ?_ rfl ⟨rfl, hwF⟩
    have hc1 := cell_of hFC
    simp [results, Tryz.f22, go_sem, hc1]
  · have hF := HF.out; have hG := HG.out; clear HF HG hD
    rw [if_pos rfl, if_pos rfl, if_pos hn, if_pos rfl] at hF; subst hF
    rw [if_neg (by decide)] at hG; subst hG
    go_wp2_with ((go_at_call 118; (with_reducible refine (DD _ _ _ hM hc hp).mono ?_); rintro e w' ⟨rfl, hx⟩); have hw3 := hw2.trans (hx.mono hw2.size); have hC := (hx.block _ (lt_of_block hC)).trans hC; have s0 := cell_of hC 0; have s1 := cell_of hC 1; have s2 := cell_of hC 2; have s3 := cell_of hC 3; have s4 := cell_of hC 4; have s5 := cell_of hC 5; have fr2 := frozen_of hC; dsimp at s0 s1 s2 s3 s4 s5)
    have hFC := heap_set (o := 5) (heap_set (o := 4) (heap_set (o := 3) (heap_set (o := 2) (heap_set (o := 1) (heap_set (o := 0) hC (.int .i64 0)) (.int .i64 0)) (.int .i64 0)) (.int .i64 0)) (.int .i64 0)) (.int .i64 0)
    have hwF := (((((hw3.setCell (p := ⟨R, 0, none⟩) hR (.int .i64 0)).setCell (p := ⟨R, 1, none⟩) hR (.int .i64 0)).setCell (p := ⟨R, 2, none⟩) hR (.int .i64 0)).setCell (p := ⟨R, 3, none⟩) hR (.int .i64 0)).setCell (p := ⟨R, 4, none⟩) hR (.int .i64 0)).setCell (p := ⟨R, 5, none⟩) hR (.int .i64 0)
    refine bodyPost_ret (v := .tuple #[.agg #[.int .i64 0, .int .i64 0, .int .i64 0, .int .i64 0, .int .i64 0, .int .i64 0], .int .i64 7]) ?_ rfl ⟨rfl, hwF⟩
    have hc1 := cell_of hFC
    simp [results, Tryz.f22, go_sem, hc1]
theorem getC_sized (v b : Int) : (getC v b).sized = true := by
  unfold getC
  split
  · rename_i h
    unfold okW at h; simp only [Bool.and_eq_true] at h
    exact CapS.right_sized h.2
  · rfl
theorem slotC_sized (m : MemS) (f i : Int) : (slotC m f i).sized = true := by
  unfold slotC
  split
  · exact getC_sized _ _
  · rfl
theorem lookC_sized (m : MemS) (root n : Int) : (lookC m root n).sized = true := by
  unfold lookC
  split
  · exact slotC_sized _ _ _
  · rfl
theorem capC_sized (m : Mach) (l : LiveS) (root a k r : Int) : (m.capC l root a k r).sized = true := by
  unfold Mach.capC
  split
  · exact lookC_sized _ _ _
  · rfl
def Mach.memE (m : Mach) (l : LiveS) (root a r f : Int) : Int :=
  if m.capE l root a 2 r = 0 then (if f < (m.capC l root a 2 r).t then 1 else if (m.capC l root a 2 r).t + (m.capC l root a 2 r).a ≤ f then 1 else 0) else m.capE l root a 2 r
set_option maxHeartbeats 1000000 in
theorem f_mem (B : MBl) (m : Mach) (l : LiveS) (root a r f : Int) (w : World) (h : MachL w B m l) (ok : m.Ok) : Calls Tryz.prog 24 #[.pointer (some ⟨B.b, 0, none⟩), .int .i64 root, .int .i64 a, .int .i64 r, .int .i64 f] w fun e w' =>
    e = .returned (.int .i64 (m.memE l root a r f)) ∧ Below w.heap.size w w' := by
  have CP := f_cap B m l root a 2 r w h ok
  have SZ := CapS.sized_b (capC_sized m l root a 2 r)
  unfold Mach.memE
  generalize m.capE l root a 2 r = E at *
  generalize m.capC l root a 2 r = C at *
  obtain ⟨ck, cr, ct, cl, ce, ca⟩ := C
  unfold CapS.v at CP
  dsimp only at CP SZ ⊢
  obtain ⟨-, -, ⟨t0, t1⟩, -, -, ⟨a0, a1⟩⟩ := SZ
  by_cases hE : E = 0
  rotate_left
  · have hE2 : (E == 0) = false := by simpa using hE
    have hE3 : (E != 0) = true := by simpa using hE
    rw [if_neg hE]
    go_enter Tryz.func24, Tryz.ntmps24
    go_wp2_with ((go_at_call 22; (with_reducible refine (CP).mono ?_); rintro e w' ⟨rfl, hx⟩); have hw2 := hx.alloc hx.size (.cells #[.int .i64 ck, .int .i64 cr, .int .i64 ct, .int .i64 cl, .int .i64 ce, .int .i64 ca] 32 (0, 0)))
    go_ret
    exact ⟨rfl, hw2⟩
  subst hE
  rw [if_pos rfl]
  by_cases h1 : f < ct
  · rw [if_pos h1]
    go_enter Tryz.func24, Tryz.ntmps24
    go_wp2_with ((go_at_call 22; (with_reducible refine (CP).mono ?_); rintro e w' ⟨rfl, hx⟩); have hw2 := hx.alloc hx.size (.cells #[.int .i64 ck, .int .i64 cr, .int .i64 ct, .int .i64 cl, .int .i64 ce, .int .i64 ca] 32 (0, 0)))
    go_ret
    exact ⟨rfl, hw2⟩
  rw [if_neg h1]
  by_cases h2 : ct + ca ≤ f
  · rw [if_pos h2]
    go_enter Tryz.func24, Tryz.ntmps24
    go_wp2_with ((go_at_call 22; (with_reducible refine (CP).mono ?_); rintro e w' ⟨rfl, hx⟩); have hw2 := hx.alloc hx.size (.cells #[.int .i64 ck, .int .i64 cr, .int .i64 ct, .int .i64 cl, .int .i64 ce, .int .i64 ca] 32 (0, 0)))
    go_ret
    exact ⟨rfl, hw2⟩
  rw [if_neg h2]
  go_enter Tryz.func24, Tryz.ntmps24
  go_wp2_with ((go_at_call 22; (with_reducible refine (CP).mono ?_); rintro e w' ⟨rfl, hx⟩); have hw2 := hx.alloc hx.size (.cells #[.int .i64 ck, .int .i64 cr, .int .i64 ct, .int .i64 cl, .int .i64 ce, .int .i64 ca] 32 (0, 0)))
  go_ret
  exact ⟨rfl, hw2⟩
end Go.Proofs.YtejdfdllgobnhaaGreat
