/- The reference's tables (palanquinref13): Make, Table, time, quiet, leaf. -/
import Derived.Test.YtejdfdllgobnhaaGreatR10d
import Derived.Test.YtejdfdllgobnhaaGreatGTbc
set_option linter.unusedVariables false
set_option linter.unusedSimpArgs false
namespace Go.Proofs.YtejdfdllgobnhaaGreat
open Go.RowKit
theorem r13_make (B : RMB) (m : MemS) (f lv : Int) (w : World) (h : RMemIs w B m) (ok : m.Ok) : Calls Tryz.prog 38 #[.pointer (some ⟨B.v, 0, none⟩), .int .i64 f, .int .i64 lv] w fun e w' =>
    e = .returned (.int .i64 (if headOk m f ⟨1, lv, false, 0⟩ then 0 else 1)) ∧ RMemIs w' B (m.make f ⟨1, lv, false, 0⟩) ∧ Touch (B.own m.n) w w' := by
  have MK := fun w h => r10_make B m f ⟨1, lv, false, 0⟩ w h ok
  unfold HeadS.v at MK
  dsimp only at MK
  generalize (if headOk m f ⟨1, lv, false, 0⟩ then (0 : Int) else 1) = E at *
  generalize m.make f ⟨1, lv, false, 0⟩ = M at *
  go_enter Tryz.func38, Tryz.ntmps38
  go_wp2_with ((go_at_call 140; (with_reducible refine (MK _ h).mono ?_); rintro e w' ⟨rfl, hm, ht⟩))
  go_ret
  exact ⟨rfl, hm, ht⟩
set_option maxHeartbeats 1000000 in
set_option maxRecDepth 100000 in
theorem r13_table (B : RMB) (m : MemS) (f lv : Int) (w : World) (h : RMemIs w B m) (ok : m.Ok) : Calls Tryz.prog 141 #[.pointer (some ⟨B.v, 0, none⟩), .int .i64 f, .int .i64 lv] w fun e w' =>
    e = .returned (.tuple #[.bool (isT m f lv), .bool (hdC m f).fz]) ∧ Below w.heap.size w w' := by
  have HG := fun w h => r10_get B m f w h ok
  unfold isT
  generalize hdE m f = E at *
  generalize hdC m f = C at *
  obtain ⟨k0, l0, z0, t0⟩ := C
  unfold HeadS.v at HG
  dsimp only at HG ⊢
  generalize hRB : (decide (E = 0) && decide (k0 = 1) && decide (l0 = lv)) = RB
  have HRB := Lib.hid hRB
  clear hRB
  rcases (by by_cases h1 : E = 0 <;> by_cases h2 : k0 = 1 <;> simp [h1, h2] : ¬ E = 0 ∨ (E = 0 ∧ ¬ k0 = 1) ∨ (E = 0 ∧ k0 = 1)) with hE | ⟨rfl, hk⟩ | ⟨rfl, hk⟩
  · have hE2 : (E == 0) = false := by simpa using hE
    obtain rfl : RB = false := by rw [← HRB.out]; simp [hE]
    clear HRB
    go_enter Tryz.func141, Tryz.ntmps141
    go_upto_region 2 with ((go_at_call 155; (with_reducible refine (HG _ h).mono ?_); rintro e w' ⟨rfl, hx⟩); have hw2 := hx.alloc hx.size (.cells #[.int .i64 k0, .int .i64 l0, .bool z0, .int .i64 t0] 195 (0, 0)); have hb := heap_new w' (.cells #[.int .i64 k0, .int .i64 l0, .bool z0, .int .i64 t0] 195 (0, 0)); have g0 := cell_of hb 0; have g1 := cell_of hb 1; have g2 := cell_of hb 2; have lb := lt_of_block hb; dsimp at g0 g1 g2)
    (refine wp_region_calm (by kernel_rfl) (by kernel_rfl) ?_; (repeat (go_big_quiet_step ((fail)))); refine wpQuiet_nil ?_; intro _ hw'; obtain ⟨wq, hw''⟩ := hw'; subst hw''; obtain ⟨wq, hbq⟩ := wq; try dsimp only at *)
    go_wp2
    go_ret2
    exact ⟨rfl, hw2.trans (hbq.mono hw2.size)⟩
  · have hk2 : (k0 == 1) = false := by simpa using hk
    obtain rfl : RB = false := by rw [← HRB.out]; simp [hk]
    clear HRB
    go_enter Tryz.func141, Tryz.ntmps141
    go_upto_region 2 with ((go_at_call 155; (with_reducible refine (HG _ h).mono ?_); rintro e w' ⟨rfl, hx⟩); have hw2 := hx.alloc hx.size (.cells #[.int .i64 k0, .int .i64 l0, .bool z0, .int .i64 t0] 195 (0, 0)); have hb := heap_new w' (.cells #[.int .i64 k0, .int .i64 l0, .bool z0, .int .i64 t0] 195 (0, 0)); have g0 := cell_of hb 0; have g1 := cell_of hb 1; have g2 := cell_of hb 2; have lb := lt_of_block hb; dsimp at g0 g1 g2)
    (refine wp_region_calm (by kernel_rfl) (by kernel_rfl) ?_; (repeat (go_big_quiet_step ((fail)))); refine wpQuiet_nil ?_; intro _ hw'; obtain ⟨wq, hw''⟩ := hw'; subst hw''; obtain ⟨wq, hbq⟩ := wq; try dsimp only at *)
    go_wp2
    go_ret2
    exact ⟨rfl, hw2.trans (hbq.mono hw2.size)⟩
  · have hk2 : (k0 == 1) = true := by simpa using hk
    have HK := Lib.hid hk
    clear hk
    go_enter Tryz.func141, Tryz.ntmps141
    go_upto_region 2 with ((go_at_call 155; (with_reducible refine (HG _ h).mono ?_); rintro e w' ⟨rfl, hx⟩); have hw2 := hx.alloc hx.size (.cells #[.int .i64 k0, .int .i64 l0, .bool z0, .int .i64 t0] 195 (0, 0)); have hb := heap_new w' (.cells #[.int .i64 k0, .int .i64 l0, .bool z0, .int .i64 t0] 195 (0, 0)); have g0 := cell_of hb 0; have g1 := cell_of hb 1; have g2 := cell_of hb 2; have lb := lt_of_block hb; dsimp at g0 g1 g2)
    (refine wp_region_calm (by kernel_rfl) (by kernel_rfl) ?_; (repeat (go_big_quiet_step ((fail)))); refine wpQuiet_nil ?_; intro _ hw'; obtain ⟨wq, hw''⟩ := hw'; subst hw''; obtain ⟨wq, hbq⟩ := wq; try dsimp only at *)
    go_wp2
    go_ret2
    exact ⟨by rw [← HRB.out, HK.out]; rfl, hw2.trans (hbq.mono hw2.size)⟩
theorem r13_time (n : Int) (w : World) : Calls Tryz.prog 162 #[.int .i64 n] w fun e w' => e = .returned (.bool (timeB n)) ∧ w = w' := by
  unfold timeB
  by_cases h : 1 ≤ n
  · go_enter Tryz.func162, Tryz.ntmps162
    go_wp2
    go_ret
    exact ⟨ret_bool (by simp [h]), rfl⟩
  · go_enter Tryz.func162, Tryz.ntmps162
    go_wp2
    go_ret
    exact ⟨ret_bool (by simp; omega), rfl⟩
theorem r13_quiet (c : CapS) (fl : Int) (w : World) : Calls Tryz.prog 143 #[c.v, .int .i64 fl] w fun e w' => e = .returned (.bool (quietC c fl)) ∧ Below w.heap.size w w' := by
  obtain ⟨k, r, t, l, ep, a⟩ := c
  unfold CapS.v quietC
  dsimp only
  by_cases h0 : k = 0
  · subst h0
    go_enter Tryz.func143, Tryz.ntmps143
    go_wp2
    go_ret
    exact ⟨ret_bool (by simp), by (refine Touch.below0 ?_; (repeat' (first | (with_reducible exact Touch.refl _ _) | (with_reducible assumption) | (with_reducible refine Touch.drew ?_) | (with_reducible refine Touch.drewN ?_ _) | (with_reducible refine Touch.alloc ?_ _) | (with_reducible refine Touch.setCell ?_ _ _ _ ?_) | (with_reducible refine Touch.step (by assumption) ?_) | (with_reducible refine Touch.stepT (by assumption) ?_ ?_) | (intro _; first | rfl | trivial | omega | (simp; done) | (simp; omega)) | (intro _ _; first | omega | (simp; done) | (simp; omega)))))⟩
  have h2 : (k == 0) = false := by simpa using h0
  by_cases h1 : k = 1
  · subst h1
    go_enter Tryz.func143, Tryz.ntmps143
    go_wp2
    go_ret
    exact ⟨ret_bool (by simp), by (refine Touch.below0 ?_; (repeat' (first | (with_reducible exact Touch.refl _ _) | (with_reducible assumption) | (with_reducible refine Touch.drew ?_) | (with_reducible refine Touch.drewN ?_ _) | (with_reducible refine Touch.alloc ?_ _) | (with_reducible refine Touch.setCell ?_ _ _ _ ?_) | (with_reducible refine Touch.step (by assumption) ?_) | (with_reducible refine Touch.stepT (by assumption) ?_ ?_) | (intro _; first | rfl | trivial | omega | (simp; done) | (simp; omega)) | (intro _ _; first | omega | (simp; done) | (simp; omega)))))⟩
  · have h3 : (k == 1) = false := by simpa using h1
    go_enter Tryz.func143, Tryz.ntmps143
    go_wp2
    go_ret
    exact ⟨ret_bool (by simp [h0, h1]), by (refine Touch.below0 ?_; (repeat' (first | (with_reducible exact Touch.refl _ _) | (with_reducible assumption) | (with_reducible refine Touch.drew ?_) | (with_reducible refine Touch.drewN ?_ _) | (with_reducible refine Touch.alloc ?_ _) | (with_reducible refine Touch.setCell ?_ _ _ _ ?_) | (with_reducible refine Touch.step (by assumption) ?_) | (with_reducible refine Touch.stepT (by assumption) ?_ ?_) | (intro _; first | rfl | trivial | omega | (simp; done) | (simp; omega)) | (intro _ _; first | omega | (simp; done) | (simp; omega)))))⟩
set_option maxHeartbeats 2000000 in
set_option maxRecDepth 100000 in
theorem r13_leaf (B : RMB) (m : MemS) (root n : Int) (w : World) (h : RMemIs w B m) (ok : m.Ok) : Calls Tryz.prog 146 #[.pointer (some ⟨B.v, 0, none⟩), .int .i64 root, .int .i64 n] w fun e w' =>
    e = .returned (.tuple #[.int .i64 (walkP m root n).f, .int .i64 (walkP m root n).i, .bool (walkP m root n).fz, .int .i64 (walkE m root n)]) ∧ Below w.heap.size w w' := by
  have TB := fun f lv w h => r13_table B m f lv w h ok
  have SG := fun w h => r11_get B m root (n / 16) w h ok
  cases hn : inB n 256
  · have we : walkE m root n = 1 := by unfold walkE; rw [hn]; rfl
    rw [we, walkP_no we (by decide)]
    have SL := fun w => r12_slot_no n w hn
    clear hn we TB SG
    unfold PlaceS.zero
    dsimp only
    go_enter Tryz.func146, Tryz.ntmps146
    go_wp2_with ((go_at_call 213; (with_reducible refine (SL _).mono ?_); rintro e w' ⟨rfl, rfl⟩))
    refine bodyPost_ret (v := .tuple #[.int .i64 0, .int .i64 0, .bool false, .int .i64 1]) ?_ rfl ⟨rfl, Below.refl _ _⟩
    simp [results, Tryz.f146, go_sem]
  obtain ⟨n0, n1⟩ := inB_iff.1 hn
  have SL := fun w => r12_slot n w n0 n1
  cases hT : isT m root 0
  · have we : walkE m root n = 4 := by unfold walkE; rw [hn, hT]; rfl
    rw [we, walkP_no we (by decide)]
    have T0 := fun w h => TB root 0 w h
    rw [hT] at T0
    generalize (hdC m root).fz = z1 at *
    generalize n / 16 = hi at *
    generalize n % 16 = lo at *
    clear TB SG hT hn we
    unfold PlaceS.zero
    dsimp only
    go_enter Tryz.func146, Tryz.ntmps146
    go_wp2_with (first | (go_at_call 213; (with_reducible refine (SL _).mono ?_); rintro e w' ⟨rfl, rfl⟩) | ((go_at_call 141; (with_reducible refine (T0 _ h).mono ?_); rintro e w' ⟨rfl, hx⟩); have hB := hx; have h2 := h.after hx))
    refine bodyPost_ret (v := .tuple #[.int .i64 0, .int .i64 0, .bool false, .int .i64 4]) ?_ rfl ⟨rfl, hB⟩
    simp [results, Tryz.f146, go_sem]
  have T0 := fun w h => TB root 0 w h
  rw [hT] at T0
  by_cases hE : slotE m root (n / 16) = 0
  rotate_left
  · have we : walkE m root n = 3 := by unfold walkE; rw [hn, hT, if_neg (fun h : slotE m root (n / 16) = 0 ∧ _ => hE h.1)]; rfl
    rw [we, walkP_no we (by decide)]
    clear TB hT hn we
    generalize (hdC m root).fz = z1 at *
    generalize slotE m root (n / 16) = E at *
    generalize slotC m root (n / 16) = C at *
    generalize n / 16 = hi at *
    generalize n % 16 = lo at *
    obtain ⟨k, r, t, l, ep, ca⟩ := C
    unfold CapS.v at SG
    unfold PlaceS.zero
    dsimp only at SG ⊢
    have hE2 : (E == 0) = false := by simpa using hE
    have hE3 : (E != 0) = true := by simpa using hE
    go_enter Tryz.func146, Tryz.ntmps146
    go_wp2_with (first | (go_at_call 213; (with_reducible refine (SL _).mono ?_); rintro e w' ⟨rfl, rfl⟩) | ((go_at_call 141; (with_reducible refine (T0 _ h).mono ?_); rintro e w' ⟨rfl, hx⟩); have hB := hx; have h2 := h.after hx) | ((go_at_call 142; (with_reducible refine (SG _ h2).mono ?_); rintro e w' ⟨rfl, hx⟩); have h3 := h2.after hx; have h3 := h3.after ((Below.refl w'.heap.size w').alloc (Nat.le_refl _) (.cells #[.int .i64 k, .int .i64 r, .int .i64 t, .int .i64 l, .int .i64 ep, .int .i64 ca] 32 (0, 0))); have hB := hB.trans (hx.mono hB.size); have hB := hB.alloc hB.size (.cells #[.int .i64 k, .int .i64 r, .int .i64 t, .int .i64 l, .int .i64 ep, .int .i64 ca] 32 (0, 0)); have hb3 := heap_new w' (.cells #[.int .i64 k, .int .i64 r, .int .i64 t, .int .i64 l, .int .i64 ep, .int .i64 ca] 32 (0, 0))))
    refine bodyPost_ret (v := .tuple #[.int .i64 0, .int .i64 0, .bool false, .int .i64 3]) ?_ rfl ⟨rfl, hB⟩
    simp [results, Tryz.f146, go_sem]
  by_cases hk : (slotC m root (n / 16)).k = 3
  rotate_left
  · have we : walkE m root n = 3 := by unfold walkE; rw [hn, hT, if_neg (fun h : _ ∧ (slotC m root (n / 16)).k = 3 => hk h.2)]; rfl
    rw [we, walkP_no we (by decide)]
    rw [hE] at SG
    clear TB hT hn we hE
    generalize (hdC m root).fz = z1 at *
    generalize slotC m root (n / 16) = C at *
    generalize n / 16 = hi at *
    generalize n % 16 = lo at *
    obtain ⟨k, r, t, l, ep, ca⟩ := C
    unfold CapS.v at SG
    unfold PlaceS.zero
    dsimp only at SG hk ⊢
    have hk2 : (k == 3) = false := by simpa using hk
    have hk3 : (k != 3) = true := by simpa using hk
    go_enter Tryz.func146, Tryz.ntmps146
    go_wp2_with (first | (go_at_call 213; (with_reducible refine (SL _).mono ?_); rintro e w' ⟨rfl, rfl⟩) | ((go_at_call 141; (with_reducible refine (T0 _ h).mono ?_); rintro e w' ⟨rfl, hx⟩); have hB := hx; have h2 := h.after hx) | ((go_at_call 142; (with_reducible refine (SG _ h2).mono ?_); rintro e w' ⟨rfl, hx⟩); have h3 := h2.after hx; have h3 := h3.after ((Below.refl w'.heap.size w').alloc (Nat.le_refl _) (.cells #[.int .i64 k, .int .i64 r, .int .i64 t, .int .i64 l, .int .i64 ep, .int .i64 ca] 32 (0, 0))); have hB := hB.trans (hx.mono hB.size); have hB := hB.alloc hB.size (.cells #[.int .i64 k, .int .i64 r, .int .i64 t, .int .i64 l, .int .i64 ep, .int .i64 ca] 32 (0, 0)); have hb3 := heap_new w' (.cells #[.int .i64 k, .int .i64 r, .int .i64 t, .int .i64 l, .int .i64 ep, .int .i64 ca] 32 (0, 0))))
    refine bodyPost_ret (v := .tuple #[.int .i64 0, .int .i64 0, .bool false, .int .i64 3]) ?_ rfl ⟨rfl, hB⟩
    simp [results, Tryz.f146, go_sem]
  have T1 := fun w h => TB (slotC m root (n / 16)).t 1 w h
  cases hb : isT m (slotC m root (n / 16)).t 1
  · have we : walkE m root n = 4 := by unfold walkE; rw [hn, hT, if_pos (show slotE m root (n / 16) = 0 ∧ (slotC m root (n / 16)).k = 3 from ⟨hE, hk⟩), hb]; rfl
    rw [we, walkP_no we (by decide)]
    rw [hE] at SG
    rw [hb] at T1
    clear TB hT hn we hE hb
    generalize (hdC m root).fz = z1 at *
    generalize (hdC m (slotC m root (n / 16)).t).fz = z2 at *
    generalize slotC m root (n / 16) = C at *
    generalize n / 16 = hi at *
    generalize n % 16 = lo at *
    obtain ⟨k, r, t, l, ep, ca⟩ := C
    unfold CapS.v at SG
    unfold PlaceS.zero
    dsimp only at SG hk T1 ⊢
    have hk2 : (k == 3) = true := by simpa using hk
    have hk3 : (k != 3) = false := by simpa using hk
    clear hk
    go_enter Tryz.func146, Tryz.ntmps146
    go_wp2_with (first | (go_at_call 213; (with_reducible refine (SL _).mono ?_); rintro e w' ⟨rfl, rfl⟩) | ((go_at_call 141; (with_reducible refine (T0 _ h).mono ?_); rintro e w' ⟨rfl, hx⟩); have hB := hx; have h2 := h.after hx) | ((go_at_call 142; (with_reducible refine (SG _ h2).mono ?_); rintro e w' ⟨rfl, hx⟩); have h3 := h2.after hx; have h3 := h3.after ((Below.refl w'.heap.size w').alloc (Nat.le_refl _) (.cells #[.int .i64 k, .int .i64 r, .int .i64 t, .int .i64 l, .int .i64 ep, .int .i64 ca] 32 (0, 0))); have hB := hB.trans (hx.mono hB.size); have hB := hB.alloc hB.size (.cells #[.int .i64 k, .int .i64 r, .int .i64 t, .int .i64 l, .int .i64 ep, .int .i64 ca] 32 (0, 0)); have hb3 := heap_new w' (.cells #[.int .i64 k, .int .i64 r, .int .i64 t, .int .i64 l, .int .i64 ep, .int .i64 ca] 32 (0, 0))) | ((go_at_call 141; (with_reducible refine (T1 _ h3).mono ?_); rintro e w' ⟨rfl, hx⟩); have hB := hB.trans (hx.mono hB.size); have hb4 := (hx.block _ (lt_of_block hb3)).trans hb3; have g0 := cell_of hb4 0; have g2 := cell_of hb4 2; dsimp at g0 g2))
    refine bodyPost_ret (v := .tuple #[.int .i64 0, .int .i64 0, .bool false, .int .i64 4]) ?_ rfl ⟨rfl, hB⟩
    simp [results, Tryz.f146, go_sem]
  · have we : walkE m root n = 0 := by unfold walkE; rw [hn, hT, if_pos (show slotE m root (n / 16) = 0 ∧ (slotC m root (n / 16)).k = 3 from ⟨hE, hk⟩), hb]; rfl
    have wp : walkP m root n = ⟨(slotC m root (n / 16)).t, n % 16, (hdC m (slotC m root (n / 16)).t).fz⟩ := by unfold walkP; rw [we, if_pos rfl]
    rw [we, wp]
    rw [hE] at SG
    rw [hb] at T1
    clear TB hT hn we wp hE hb
    generalize (hdC m root).fz = z1 at *
    generalize (hdC m (slotC m root (n / 16)).t).fz = z2 at *
    generalize slotC m root (n / 16) = C at *
    generalize n / 16 = hi at *
    generalize n % 16 = lo at *
    obtain ⟨k, r, t, l, ep, ca⟩ := C
    unfold CapS.v at SG
    dsimp only at SG hk T1 ⊢
    have hk2 : (k == 3) = true := by simpa using hk
    have hk3 : (k != 3) = false := by simpa using hk
    clear hk
    go_enter Tryz.func146, Tryz.ntmps146
    go_wp2_with (first | (go_at_call 213; (with_reducible refine (SL _).mono ?_); rintro e w' ⟨rfl, rfl⟩) | ((go_at_call 141; (with_reducible refine (T0 _ h).mono ?_); rintro e w' ⟨rfl, hx⟩); have hB := hx; have h2 := h.after hx) | ((go_at_call 142; (with_reducible refine (SG _ h2).mono ?_); rintro e w' ⟨rfl, hx⟩); have h3 := h2.after hx; have h3 := h3.after ((Below.refl w'.heap.size w').alloc (Nat.le_refl _) (.cells #[.int .i64 k, .int .i64 r, .int .i64 t, .int .i64 l, .int .i64 ep, .int .i64 ca] 32 (0, 0))); have hB := hB.trans (hx.mono hB.size); have hB := hB.alloc hB.size (.cells #[.int .i64 k, .int .i64 r, .int .i64 t, .int .i64 l, .int .i64 ep, .int .i64 ca] 32 (0, 0)); have hb3 := heap_new w' (.cells #[.int .i64 k, .int .i64 r, .int .i64 t, .int .i64 l, .int .i64 ep, .int .i64 ca] 32 (0, 0))) | ((go_at_call 141; (with_reducible refine (T1 _ h3).mono ?_); rintro e w' ⟨rfl, hx⟩); have hB := hB.trans (hx.mono hB.size); have hb4 := (hx.block _ (lt_of_block hb3)).trans hb3; have g0 := cell_of hb4 0; have g2 := cell_of hb4 2; dsimp at g0 g2))
    refine bodyPost_ret (v := .tuple #[.int .i64 t, .int .i64 lo, .bool z2, .int .i64 0]) ?_ rfl ⟨rfl, hB⟩
    simp [results, Tryz.f146, go_sem]
end Go.Proofs.YtejdfdllgobnhaaGreat
