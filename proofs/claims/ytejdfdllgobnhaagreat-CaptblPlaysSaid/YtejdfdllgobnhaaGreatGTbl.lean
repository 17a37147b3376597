/- Several texts in one: Tbl, Tbl2, Tbl3, Tbl4, Tbl5. -/
import Derived.Test.YtejdfdllgobnhaaGreatHeadGet
import Derived.Test.YtejdfdllgobnhaaGreatHeldRound
/- Tbl -/
set_option linter.unusedVariables false
set_option linter.unusedSimpArgs false
namespace Go.Proofs.YtejdfdllgobnhaaGreat
open Go.RowKit

def isT (m : MemS) (f lv : Int) : Bool := decide (hdE m f = 0) && decide ((hdC m f).k = 1) && decide ((hdC m f).lv = lv)
def quietC (c : CapS) (floor : Int) : Bool := decide (c.k = 0) || (decide (c.k = 1) && decide (c.a < floor))
def freeE (m : MemS) (f i floor : Int) : Int := if slotE m f i = 0 then (if 1 < (slotC m f i).k then 10 else if quietC (slotC m f i) floor then 0 else 6) else slotE m f i
def lvA (s0 s1 s2 s3 s4 s5 s6 s7 s8 s9 s10 s11 s12 s13 s14 s15 s16 s17 s18 s19 s20 s21 s22 s23 s24 s25 s26 s27 s28 s29 s30 : Value) : Act := { tmps := #[s0, s1, s2, s3, s4, s5, s6, s7, s8, s9, s10, s11, s12, s13, s14, s15, s16, s17, s18, s19, s20, s21, s22, s23, s24, s25, s26, s27, s28, s29, s30], defers := [] }
set_option maxHeartbeats 4000000 in
set_option maxRecDepth 100000 in
theorem tbl_level (a g : Nat) (m : MemS) (f lv : Int) (w : World) (h : MemIs w a g m) (ok : m.Ok) : Calls Tryz.prog 126 #[.agg #[.pointer (some ⟨a, 0, none⟩)], .int .i64 f, .int .i64 lv] w fun e w' =>
    e = .returned (.tuple #[(hdC m f).v, .bool (isT m f lv)]) ∧ Below w.heap.size w w' := by
  have hG := fun w h => head_get a g m f w h ok
  have hw0 : Below w.heap.size w ((w.alloc (.cells #[.pointer (some ⟨a, 0, none⟩)] 197 (0, 0))).alloc (.cells #[.int .i64 0, .int .i64 0, .bool false, .int .i64 0] 195 (0, 0))) := by (refine Touch.below0 ?_; (repeat' (first | (with_reducible exact Touch.refl _ _) | (with_reducible assumption) | (with_reducible refine Touch.drew ?_) | (with_reducible refine Touch.drewN ?_ _) | (with_reducible refine Touch.alloc ?_ _) | (with_reducible refine Touch.setCell ?_ _ _ _ ?_) | (with_reducible refine Touch.step (by assumption) ?_) | (with_reducible refine Touch.stepT (by assumption) ?_ ?_) | (intro _; first | rfl | trivial | omega | (simp; done) | (simp; omega)) | (intro _ _; first | omega | (simp; done) | (simp; omega)))))
  have hT : ((w.alloc (.cells #[.pointer (some ⟨a, 0, none⟩)] 197 (0, 0))).alloc (.cells #[.int .i64 0, .int .i64 0, .bool false, .int .i64 0] 195 (0, 0))).heap[w.heap.size]? = some (.cells #[.pointer (some ⟨a, 0, none⟩)] 197 (0, 0)) := heap_alloc (heap_new _ _) _
  have hR : ((w.alloc (.cells #[.pointer (some ⟨a, 0, none⟩)] 197 (0, 0))).alloc (.cells #[.int .i64 0, .int .i64 0, .bool false, .int .i64 0] 195 (0, 0))).heap[w.heap.size + 1]? = some (.cells #[.int .i64 0, .int .i64 0, .bool false, .int .i64 0] 195 (0, 0)) := heap_new' (by simp) _
  have h1 := h.after hw0
  unfold isT
  generalize hdC m f = C at *
  generalize hdE m f = E at *
  obtain ⟨k, l, fz, tm⟩ := C
  unfold HeadS.v at *
  dsimp only at *
  go_enter Tryz.func126, Tryz.ntmps126
  go_upto_region 2 with ((go_at_call 165; (with_reducible refine (hG _ h1).mono ?_); rintro e w' ⟨rfl, hx⟩); have hR2 := (hx.block _ (lt_of_block hR)).trans hR; have hw2 := hw0.trans (hx.mono hw0.size))
  have hR3 : (w'.alloc (.cells #[.int .i64 k, .int .i64 l, .bool fz, .int .i64 tm] 195 (0, 0))).heap[w.heap.size + 1]? = some (.cells #[.int .i64 0, .int .i64 0, .bool false, .int .i64 0] 195 (0, 0)) := heap_alloc hR2 _
  have hC : (w'.alloc (.cells #[.int .i64 k, .int .i64 l, .bool fz, .int .i64 tm] 195 (0, 0))).heap[w'.heap.size]? = some (.cells #[.int .i64 k, .int .i64 l, .bool fz, .int .i64 tm] 195 (0, 0)) := heap_new _ _
  have hw3 := hw2.alloc hw2.size (.cells #[.int .i64 k, .int .i64 l, .bool fz, .int .i64 tm] 195 (0, 0))
  have hCR : w'.heap.size ≠ w.heap.size + 1 := by have := lt_of_block hR2; omega
  generalize w'.alloc (.cells #[.int .i64 k, .int .i64 l, .bool fz, .int .i64 tm] 195 (0, 0)) = w3 at *
  generalize w'.heap.size = N at *
  clear hR2 hw2 hx hR hT hw0 h1 hG
  have g0 := cell_of hR3 0; have g1 := cell_of hR3 1; have g2 := cell_of hR3 2; have g3 := cell_of hR3 3; have fr := frozen_of hR3; dsimp at g0 g1 g2 g3
  have s0 := cell_of hC 0; have s1 := cell_of hC 1; have s2 := cell_of hC 2; have s3 := cell_of hC 3
  dsimp at s0 s1 s2 s3
  have fin : ∀ v, Below w.heap.size w ((((w3.setCell ⟨w.heap.size + 1, 0, none⟩ (.int .i64 k)).setCell ⟨w.heap.size + 1, 1, none⟩ (.int .i64 l)).setCell ⟨w.heap.size + 1, 2, none⟩ (.bool fz)).setCell ⟨w.heap.size + 1, 3, none⟩ v) := fun v =>
    (((hw3.setCell (p := ⟨w.heap.size + 1, 0, none⟩) (Nat.le_succ _) _).setCell (p := ⟨w.heap.size + 1, 1, none⟩) (Nat.le_succ _) _).setCell (p := ⟨w.heap.size + 1, 2, none⟩) (Nat.le_succ _) _).setCell (p := ⟨w.heap.size + 1, 3, none⟩) (Nat.le_succ _) _
  have hF := heap_set (o := 3) (heap_set (o := 2) (heap_set (o := 1) (heap_set (o := 0) hR3 (.int .i64 k)) (.int .i64 l)) (.bool fz)) (.int .i64 tm)
  have hcs := cell_of hF
  by_cases hE : E = 0
  · subst hE
    by_cases hk : k = 1
    · subst hk
      go_region_held3 (fun y => y.cell? ⟨N, 0, none⟩ = some (.int .i64 1) ∧ y.cell? ⟨N, 1, none⟩ = some (.int .i64 l) ∧ y.cell? ⟨N, 2, none⟩ = some (.bool fz) ∧ y.cell? ⟨N, 3, none⟩ = some (.int .i64 tm)) (first | exact ⟨s0, s1, s2, s3⟩ | (simp only [cell_drew', cell_other hCR]; exact ⟨s0, s1, s2, s3⟩)) (fail)
      all_goals
        go_wp2
        refine bodyPost_ret (v := .tuple #[.agg #[.int .i64 1, .int .i64 l, .bool fz, .int .i64 tm], .bool (decide (l = lv))]) ?_ rfl ⟨by simp, (fin _).drew⟩
        simp [results, Tryz.f126, go_sem, hcs]
        try rfl
    · have hk2 : (k == 1) = false := by simpa using hk
      obtain ⟨S, hSS⟩ : ∃ S : World → Prop, S = (fun y => y.cell? ⟨N, 0, none⟩ = some (.int .i64 k) ∧ y.cell? ⟨N, 1, none⟩ = some (.int .i64 l) ∧ y.cell? ⟨N, 2, none⟩ = some (.bool fz) ∧ y.cell? ⟨N, 3, none⟩ = some (.int .i64 tm)) := ⟨_, rfl⟩
      have hS : S w3.drew := by rw [hSS]; exact ⟨s0, s1, s2, s3⟩
      have hS4 : S ((((w3.drew.setCell ⟨w.heap.size + 1, 0, none⟩ (.int .i64 k)).setCell ⟨w.heap.size + 1, 1, none⟩ (.int .i64 l)).setCell ⟨w.heap.size + 1, 2, none⟩ (.bool fz)).setCell ⟨w.heap.size + 1, 3, none⟩ (.int .i64 tm)) := by rw [hSS]; simp only [cell_other hCR]; exact ⟨s0, s1, s2, s3⟩
      refine (wpIn_wide (n := 0)).1 (region_held_round S (by kernel_rfl) ?_)
      show anyS _ _ _ _ _ _ _ _ _ (lvA _ _ _ _ _ _ _ _ _ _ _ _ _ _ _ _ _ _ _ _ _ _ _ _ _ _ _ _ _ _ _) _
      refine anyS_take (v := ?_) 0 rfl (by kernel_rfl) (by kernel_rfl) (by kernel_rfl) (by kernel_rfl) (fun _ _ _ h => h) ⟨fun _ => rfl, Or.inl ⟨by rfl, fun w' hS' => ?_⟩⟩ hS ?_
      rotate_left
      · rw [hSS] at hS'; obtain ⟨z0, z1, z2, z3⟩ := hS'; simp only [lvA]
        go_simp
        try rfl
      show anyS _ _ _ _ _ _ _ _ _ (lvA _ _ _ _ _ _ _ _ _ _ _ _ _ _ _ _ _ _ _ _ _ _ _ _ _ _ _ _ _ _ _) _
      refine anyS_take (v := ?_) 1 rfl (by kernel_rfl) (by kernel_rfl) (by kernel_rfl) (by kernel_rfl) (fun _ _ _ h => h) ⟨fun _ => rfl, Or.inl ⟨by rfl, fun w' hS' => ?_⟩⟩ hS ?_
      rotate_left
      · rw [hSS] at hS'; obtain ⟨z0, z1, z2, z3⟩ := hS'; simp only [lvA]
        go_simp
        try rfl
      show anyS _ _ _ _ _ _ _ _ _ (lvA _ _ _ _ _ _ _ _ _ _ _ _ _ _ _ _ _ _ _ _ _ _ _ _ _ _ _ _ _ _ _) _
      refine anyS_take (v := ?_) 2 rfl (by kernel_rfl) (by kernel_rfl) (by kernel_rfl) (by kernel_rfl) (fun _ _ _ h => h) ⟨fun _ => rfl, Or.inl ⟨by rfl, fun w' hS' => ?_⟩⟩ hS ?_
      rotate_left
      · rw [hSS] at hS'; obtain ⟨z0, z1, z2, z3⟩ := hS'; simp only [lvA]
        go_simp
        try rfl
      show anyS _ _ _ _ _ _ _ _ _ (lvA _ _ _ _ _ _ _ _ _ _ _ _ _ _ _ _ _ _ _ _ _ _ _ _ _ _ _ _ _ _ _) _
      refine anyS_take (v := ?_) 3 rfl (by kernel_rfl) (by kernel_rfl) (by kernel_rfl) (by kernel_rfl) (fun _ _ _ h => h) ⟨fun _ => rfl, Or.inl ⟨by rfl, fun w' hS' => ?_⟩⟩ hS ?_
      rotate_left
      · rw [hSS] at hS'; obtain ⟨z0, z1, z2, z3⟩ := hS'; simp only [lvA]
        go_simp
        try rfl
      show anyS _ _ _ _ _ _ _ _ _ (lvA _ _ _ _ _ _ _ _ _ _ _ _ _ _ _ _ _ _ _ _ _ _ _ _ _ _ _ _ _ _ _) _
      refine anyS_take (v := ?_) 4 rfl (by kernel_rfl) (by kernel_rfl) (by kernel_rfl) (by kernel_rfl) (fun _ _ _ h => h) ⟨fun _ => rfl, Or.inl ⟨by rfl, fun w' hS' => ?_⟩⟩ hS ?_
      rotate_left
      · rw [hSS] at hS'; obtain ⟨z0, z1, z2, z3⟩ := hS'; simp only [lvA]
        go_simp
        try rfl
      show anyS _ _ _ _ _ _ _ _ _ (lvA _ _ _ _ _ _ _ _ _ _ _ _ _ _ _ _ _ _ _ _ _ _ _ _ _ _ _ _ _ _ _) _
      refine anyS_take (v := ?_) 5 rfl (by kernel_rfl) (by kernel_rfl) (by kernel_rfl) (by kernel_rfl) (fun _ _ _ h => h) ⟨fun _ => rfl, Or.inl ⟨by rfl, fun w' hS' => ?_⟩⟩ hS ?_
      rotate_left
      · rw [hSS] at hS'; obtain ⟨z0, z1, z2, z3⟩ := hS'; simp only [lvA]
        go_simp
        try rfl
      show anyS _ _ _ _ _ _ _ _ _ (lvA _ _ _ _ _ _ _ _ _ _ _ _ _ _ _ _ _ _ _ _ _ _ _ _ _ _ _ _ _ _ _) _
      refine anyS_take (v := ?_) 6 rfl (by kernel_rfl) (by kernel_rfl) (by kernel_rfl) (by kernel_rfl) (fun _ _ _ h => h) ⟨fun _ => rfl, Or.inl ⟨by rfl, fun w' hS' => ?_⟩⟩ hS ?_
      rotate_left
      · rw [hSS] at hS'; obtain ⟨z0, z1, z2, z3⟩ := hS'; simp only [lvA]
        go_simp
        try rfl
      show anyS _ _ _ _ _ _ _ _ _ (lvA _ _ _ _ _ _ _ _ _ _ _ _ _ _ _ _ _ _ _ _ _ _ _ _ _ _ _ _ _ _ _) _
      refine anyS_take (v := ?_) 7 rfl (by kernel_rfl) (by kernel_rfl) (by kernel_rfl) (by kernel_rfl) (fun _ _ _ h => h) ⟨fun _ => rfl, Or.inl ⟨by rfl, fun w' hS' => ?_⟩⟩ hS ?_
      rotate_left
      · rw [hSS] at hS'; obtain ⟨z0, z1, z2, z3⟩ := hS'; simp only [lvA]
        go_simp
        try rfl
      show anyS _ _ _ _ _ _ _ _ _ (lvA _ _ _ _ _ _ _ _ _ _ _ _ _ _ _ _ _ _ _ _ _ _ _ _ _ _ _ _ _ _ _) _
      refine anyS_take (v := ?_) 8 rfl (by kernel_rfl) (by kernel_rfl) (by kernel_rfl) (by kernel_rfl) (fun _ _ _ h => h) ⟨fun _ => rfl, Or.inl ⟨by rfl, fun w' hS' => ?_⟩⟩ hS ?_
      rotate_left
      · rw [hSS] at hS'; obtain ⟨z0, z1, z2, z3⟩ := hS'; simp only [lvA]
        go_simp
        try rfl
      show anyS _ _ _ _ _ _ _ _ _ (lvA _ _ _ _ _ _ _ _ _ _ _ _ _ _ _ _ _ _ _ _ _ _ _ _ _ _ _ _ _ _ _) _
      refine anyS_take (v := undef) 9 rfl (by kernel_rfl) (by kernel_rfl) (by kernel_rfl) (by kernel_rfl) (fun _ _ _ h => h) ⟨fun _ => rfl, Or.inr ⟨by rfl, rfl⟩⟩ hS ?_
      show anyS _ _ _ _ _ _ _ _ _ (lvA _ _ _ _ _ _ _ _ _ _ _ _ _ _ _ _ _ _ _ _ _ _ _ _ _ _ _ _ _ _ _) _
      refine anyS_take (v := undef) 10 rfl (by kernel_rfl) (by kernel_rfl) (by kernel_rfl) (by kernel_rfl) (fun _ _ _ h => h) ⟨fun _ => rfl, Or.inr ⟨by rfl, rfl⟩⟩ hS ?_
      show anyS _ _ _ _ _ _ _ _ _ (lvA _ _ _ _ _ _ _ _ _ _ _ _ _ _ _ _ _ _ _ _ _ _ _ _ _ _ _ _ _ _ _) _
      refine anyS_take (v := undef) 11 rfl (by kernel_rfl) (by kernel_rfl) (by kernel_rfl) (by kernel_rfl) (fun _ _ _ h => h) ⟨fun _ => rfl, Or.inr ⟨by rfl, rfl⟩⟩ hS ?_
      show anyS _ _ _ _ _ _ _ _ _ (lvA _ _ _ _ _ _ _ _ _ _ _ _ _ _ _ _ _ _ _ _ _ _ _ _ _ _ _ _ _ _ _) _
      refine anyS_take (v := undef) 12 rfl (by kernel_rfl) (by kernel_rfl) (by kernel_rfl) (by kernel_rfl) (fun _ _ _ h => h) ⟨fun _ => rfl, Or.inr ⟨by rfl, rfl⟩⟩ hS ?_
      show anyS _ _ _ _ _ _ _ _ _ (lvA _ _ _ _ _ _ _ _ _ _ _ _ _ _ _ _ _ _ _ _ _ _ _ _ _ _ _ _ _ _ _) _
      refine anyS_take (v := ?_) 13 rfl (by kernel_rfl) (by kernel_rfl) (by kernel_rfl) (by kernel_rfl) (fun _ _ _ h => h) ⟨fun _ => rfl, Or.inl ⟨by rfl, fun w' hS' => ?_⟩⟩ hS ?_
      rotate_left
      · rw [hSS] at hS'; obtain ⟨z0, z1, z2, z3⟩ := hS'; simp only [lvA]
        go_simp
        try rfl
      show anyS _ _ _ _ _ _ _ _ _ (lvA _ _ _ _ _ _ _ _ _ _ _ _ _ _ _ _ _ _ _ _ _ _ _ _ _ _ _ _ _ _ _) _
      refine anyS_all [14] (by kernel_rfl) (by decide) (fun i hi => ?_)
      obtain rfl := List.mem_singleton.1 hi
      refine op_skip (w' := (((w3.drew.setCell ⟨w.heap.size + 1, 0, none⟩ (.int .i64 k)).setCell ⟨w.heap.size + 1, 1, none⟩ (.int .i64 l)).setCell ⟨w.heap.size + 1, 2, none⟩ (.bool fz)).setCell ⟨w.heap.size + 1, 3, none⟩ (.int .i64 tm)) rfl (by kernel_rfl) (by rfl) rfl (by simp only [lvA]; go_simp) ⟨hS4, ?_⟩
      show anyS _ _ _ _ _ _ _ _ _ (lvA _ _ _ _ _ _ _ _ _ _ _ _ _ _ _ _ _ _ _ _ _ _ _ _ _ _ _ _ _ _ _) _
      have hS := hS4
      refine anyS_take (v := ?_) 15 rfl (by kernel_rfl) (by kernel_rfl) (by kernel_rfl) (by kernel_rfl) (fun _ _ _ h => h) ⟨fun _ => rfl, Or.inl ⟨by rfl, fun w' hS' => ?_⟩⟩ hS ?_
      rotate_left
      · rw [hSS] at hS'; obtain ⟨z0, z1, z2, z3⟩ := hS'; simp only [lvA]
        go_simp
        try rfl
      show anyS _ _ _ _ _ _ _ _ _ (lvA _ _ _ _ _ _ _ _ _ _ _ _ _ _ _ _ _ _ _ _ _ _ _ _ _ _ _ _ _ _ _) _
      refine anyS_done (by kernel_rfl) ?_ _
      simp only [OnNormal, lvA]

      go_wp2
      refine bodyPost_ret (v := .tuple #[.agg #[.int .i64 k, .int .i64 l, .bool fz, .int .i64 tm], .bool false]) ?_ rfl ⟨by simp [hk], (fin _).drew⟩
      simp [results, Tryz.f126, go_sem, hcs]
  · have hE2 : (E == 0) = false := by simpa using hE
    obtain ⟨S, hSS⟩ : ∃ S : World → Prop, S = (fun y => y.cell? ⟨N, 0, none⟩ = some (.int .i64 k) ∧ y.cell? ⟨N, 1, none⟩ = some (.int .i64 l) ∧ y.cell? ⟨N, 2, none⟩ = some (.bool fz) ∧ y.cell? ⟨N, 3, none⟩ = some (.int .i64 tm)) := ⟨_, rfl⟩
    have hS : S w3.drew := by rw [hSS]; exact ⟨s0, s1, s2, s3⟩
    have hS4 : S ((((w3.drew.setCell ⟨w.heap.size + 1, 0, none⟩ (.int .i64 k)).setCell ⟨w.heap.size + 1, 1, none⟩ (.int .i64 l)).setCell ⟨w.heap.size + 1, 2, none⟩ (.bool fz)).setCell ⟨w.heap.size + 1, 3, none⟩ (.int .i64 tm)) := by rw [hSS]; simp only [cell_other hCR]; exact ⟨s0, s1, s2, s3⟩
    refine (wpIn_wide (n := 0)).1 (region_held_round S (by kernel_rfl) ?_)
    show anyS _ _ _ _ _ _ _ _ _ (lvA _ _ _ _ _ _ _ _ _ _ _ _ _ _ _ _ _ _ _ _ _ _ _ _ _ _ _ _ _ _ _) _
    refine anyS_take (v := ?_) 0 rfl (by kernel_rfl) (by kernel_rfl) (by kernel_rfl) (by kernel_rfl) (fun _ _ _ h => h) ⟨fun _ => rfl, Or.inl ⟨by rfl, fun w' hS' => ?_⟩⟩ hS ?_
    rotate_left
    · rw [hSS] at hS'; obtain ⟨z0, z1, z2, z3⟩ := hS'; simp only [lvA]
      go_simp
      try rfl
    show anyS _ _ _ _ _ _ _ _ _ (lvA _ _ _ _ _ _ _ _ _ _ _ _ _ _ _ _ _ _ _ _ _ _ _ _ _ _ _ _ _ _ _) _
    refine anyS_take (v := ?_) 1 rfl (by kernel_rfl) (by kernel_rfl) (by kernel_rfl) (by kernel_rfl) (fun _ _ _ h => h) ⟨fun _ => rfl, Or.inl ⟨by rfl, fun w' hS' => ?_⟩⟩ hS ?_
    rotate_left
    · rw [hSS] at hS'; obtain ⟨z0, z1, z2, z3⟩ := hS'; simp only [lvA]
      go_simp
      try rfl
    show anyS _ _ _ _ _ _ _ _ _ (lvA _ _ _ _ _ _ _ _ _ _ _ _ _ _ _ _ _ _ _ _ _ _ _ _ _ _ _ _ _ _ _) _
    refine anyS_take (v := ?_) 2 rfl (by kernel_rfl) (by kernel_rfl) (by kernel_rfl) (by kernel_rfl) (fun _ _ _ h => h) ⟨fun _ => rfl, Or.inl ⟨by rfl, fun w' hS' => ?_⟩⟩ hS ?_
    rotate_left
    · rw [hSS] at hS'; obtain ⟨z0, z1, z2, z3⟩ := hS'; simp only [lvA]
      go_simp
      try rfl
    show anyS _ _ _ _ _ _ _ _ _ (lvA _ _ _ _ _ _ _ _ _ _ _ _ _ _ _ _ _ _ _ _ _ _ _ _ _ _ _ _ _ _ _) _
    refine anyS_take (v := ?_) 3 rfl (by kernel_rfl) (by kernel_rfl) (by kernel_rfl) (by kernel_rfl) (fun _ _ _ h => h) ⟨fun _ => rfl, Or.inl ⟨by rfl, fun w' hS' => ?_⟩⟩ hS ?_
    rotate_left
    · rw [hSS] at hS'; obtain ⟨z0, z1, z2, z3⟩ := hS'; simp only [lvA]
      go_simp
      try rfl
    show anyS _ _ _ _ _ _ _ _ _ (lvA _ _ _ _ _ _ _ _ _ _ _ _ _ _ _ _ _ _ _ _ _ _ _ _ _ _ _ _ _ _ _) _
    refine anyS_take (v := undef) 4 rfl (by kernel_rfl) (by kernel_rfl) (by kernel_rfl) (by kernel_rfl) (fun _ _ _ h => h) ⟨fun _ => rfl, Or.inr ⟨by rfl, rfl⟩⟩ hS ?_
    show anyS _ _ _ _ _ _ _ _ _ (lvA _ _ _ _ _ _ _ _ _ _ _ _ _ _ _ _ _ _ _ _ _ _ _ _ _ _ _ _ _ _ _) _
    refine anyS_take (v := undef) 5 rfl (by kernel_rfl) (by kernel_rfl) (by kernel_rfl) (by kernel_rfl) (fun _ _ _ h => h) ⟨fun _ => rfl, Or.inr ⟨by rfl, rfl⟩⟩ hS ?_
    show anyS _ _ _ _ _ _ _ _ _ (lvA _ _ _ _ _ _ _ _ _ _ _ _ _ _ _ _ _ _ _ _ _ _ _ _ _ _ _ _ _ _ _) _
    refine anyS_take (v := undef) 6 rfl (by kernel_rfl) (by kernel_rfl) (by kernel_rfl) (by kernel_rfl) (fun _ _ _ h => h) ⟨fun _ => rfl, Or.inr ⟨by rfl, rfl⟩⟩ hS ?_
    show anyS _ _ _ _ _ _ _ _ _ (lvA _ _ _ _ _ _ _ _ _ _ _ _ _ _ _ _ _ _ _ _ _ _ _ _ _ _ _ _ _ _ _) _
    refine anyS_take (v := ?_) 7 rfl (by kernel_rfl) (by kernel_rfl) (by kernel_rfl) (by kernel_rfl) (fun _ _ _ h => h) ⟨fun _ => rfl, Or.inl ⟨by rfl, fun w' hS' => ?_⟩⟩ hS ?_
    rotate_left
    · rw [hSS] at hS'; obtain ⟨z0, z1, z2, z3⟩ := hS'; simp only [lvA]
      go_simp
      try rfl
    show anyS _ _ _ _ _ _ _ _ _ (lvA _ _ _ _ _ _ _ _ _ _ _ _ _ _ _ _ _ _ _ _ _ _ _ _ _ _ _ _ _ _ _) _
    refine anyS_take (v := ?_) 8 rfl (by kernel_rfl) (by kernel_rfl) (by kernel_rfl) (by kernel_rfl) (fun _ _ _ h => h) ⟨fun _ => rfl, Or.inl ⟨by rfl, fun w' hS' => ?_⟩⟩ hS ?_
    rotate_left
    · rw [hSS] at hS'; obtain ⟨z0, z1, z2, z3⟩ := hS'; simp only [lvA]
      go_simp
      try rfl
    show anyS _ _ _ _ _ _ _ _ _ (lvA _ _ _ _ _ _ _ _ _ _ _ _ _ _ _ _ _ _ _ _ _ _ _ _ _ _ _ _ _ _ _) _
    refine anyS_take (v := undef) 9 rfl (by kernel_rfl) (by kernel_rfl) (by kernel_rfl) (by kernel_rfl) (fun _ _ _ h => h) ⟨fun _ => rfl, Or.inr ⟨by rfl, rfl⟩⟩ hS ?_
    show anyS _ _ _ _ _ _ _ _ _ (lvA _ _ _ _ _ _ _ _ _ _ _ _ _ _ _ _ _ _ _ _ _ _ _ _ _ _ _ _ _ _ _) _
    refine anyS_take (v := undef) 10 rfl (by kernel_rfl) (by kernel_rfl) (by kernel_rfl) (by kernel_rfl) (fun _ _ _ h => h) ⟨fun _ => rfl, Or.inr ⟨by rfl, rfl⟩⟩ hS ?_
    show anyS _ _ _ _ _ _ _ _ _ (lvA _ _ _ _ _ _ _ _ _ _ _ _ _ _ _ _ _ _ _ _ _ _ _ _ _ _ _ _ _ _ _) _
    refine anyS_take (v := undef) 11 rfl (by kernel_rfl) (by kernel_rfl) (by kernel_rfl) (by kernel_rfl) (fun _ _ _ h => h) ⟨fun _ => rfl, Or.inr ⟨by rfl, rfl⟩⟩ hS ?_
    show anyS _ _ _ _ _ _ _ _ _ (lvA _ _ _ _ _ _ _ _ _ _ _ _ _ _ _ _ _ _ _ _ _ _ _ _ _ _ _ _ _ _ _) _
    refine anyS_take (v := undef) 12 rfl (by kernel_rfl) (by kernel_rfl) (by kernel_rfl) (by kernel_rfl) (fun _ _ _ h => h) ⟨fun _ => rfl, Or.inr ⟨by rfl, rfl⟩⟩ hS ?_
    show anyS _ _ _ _ _ _ _ _ _ (lvA _ _ _ _ _ _ _ _ _ _ _ _ _ _ _ _ _ _ _ _ _ _ _ _ _ _ _ _ _ _ _) _
    refine anyS_take (v := ?_) 13 rfl (by kernel_rfl) (by kernel_rfl) (by kernel_rfl) (by kernel_rfl) (fun _ _ _ h => h) ⟨fun _ => rfl, Or.inl ⟨by rfl, fun w' hS' => ?_⟩⟩ hS ?_
    rotate_left
    · rw [hSS] at hS'; obtain ⟨z0, z1, z2, z3⟩ := hS'; simp only [lvA]
      go_simp
      try rfl
    show anyS _ _ _ _ _ _ _ _ _ (lvA _ _ _ _ _ _ _ _ _ _ _ _ _ _ _ _ _ _ _ _ _ _ _ _ _ _ _ _ _ _ _) _
    refine anyS_all [14] (by kernel_rfl) (by decide) (fun i hi => ?_)
    obtain rfl := List.mem_singleton.1 hi
    refine op_skip (w' := (((w3.drew.setCell ⟨w.heap.size + 1, 0, none⟩ (.int .i64 k)).setCell ⟨w.heap.size + 1, 1, none⟩ (.int .i64 l)).setCell ⟨w.heap.size + 1, 2, none⟩ (.bool fz)).setCell ⟨w.heap.size + 1, 3, none⟩ (.int .i64 tm)) rfl (by kernel_rfl) (by rfl) rfl (by simp only [lvA]; go_simp) ⟨hS4, ?_⟩
    show anyS _ _ _ _ _ _ _ _ _ (lvA _ _ _ _ _ _ _ _ _ _ _ _ _ _ _ _ _ _ _ _ _ _ _ _ _ _ _ _ _ _ _) _
    have hS := hS4
    refine anyS_take (v := ?_) 15 rfl (by kernel_rfl) (by kernel_rfl) (by kernel_rfl) (by kernel_rfl) (fun _ _ _ h => h) ⟨fun _ => rfl, Or.inl ⟨by rfl, fun w' hS' => ?_⟩⟩ hS ?_
    rotate_left
    · rw [hSS] at hS'; obtain ⟨z0, z1, z2, z3⟩ := hS'; simp only [lvA]
      go_simp
      try rfl
    show anyS _ _ _ _ _ _ _ _ _ (lvA _ _ _ _ _ _ _ _ _ _ _ _ _ _ _ _ _ _ _ _ _ _ _ _ _ _ _ _ _ _ _) _
    refine anyS_done (by kernel_rfl) ?_ _
    simp only [OnNormal, lvA]

    go_wp2
    refine bodyPost_ret (v := .tuple #[.agg #[.int .i64 k, .int .i64 l, .bool fz, .int .i64 tm], .bool false]) ?_ rfl ⟨by simp [hE], (fin _).drew⟩
    simp [results, Tryz.f126, go_sem, hcs]
end Go.Proofs.YtejdfdllgobnhaaGreat
/- Tbl2 -/
set_option linter.unusedVariables false
set_option linter.unusedSimpArgs false
namespace Go.Proofs.YtejdfdllgobnhaaGreat
open Go.RowKit
set_option maxHeartbeats 1000000 in
theorem tbl_quiet (c : CapS) (fl : Int) (w : World) : Calls Tryz.prog 198 #[c.v, .int .i64 fl] w fun e w' => e = .returned (.bool (quietC c fl)) ∧ Below w.heap.size w w' := by
  obtain ⟨k, r, t, l, ep, a⟩ := c
  unfold CapS.v quietC
  dsimp only
  by_cases h0 : k = 0
  · subst h0
    go_enter Tryz.func198, Tryz.ntmps198
    go_wp2
    go_ret
    exact ⟨ret_bool (by simp), by (refine Touch.below0 ?_; (repeat' (first | (with_reducible exact Touch.refl _ _) | (with_reducible assumption) | (with_reducible refine Touch.drew ?_) | (with_reducible refine Touch.drewN ?_ _) | (with_reducible refine Touch.alloc ?_ _) | (with_reducible refine Touch.setCell ?_ _ _ _ ?_) | (with_reducible refine Touch.step (by assumption) ?_) | (with_reducible refine Touch.stepT (by assumption) ?_ ?_) | (intro _; first | rfl | trivial | omega | (simp; done) | (simp; omega)) | (intro _ _; first | omega | (simp; done) | (simp; omega)))))⟩
  · by_cases h1 : k = 1
    · subst h1
      go_enter Tryz.func198, Tryz.ntmps198
      go_wp2
      go_ret
      exact ⟨ret_bool (by simp), by (refine Touch.below0 ?_; (repeat' (first | (with_reducible exact Touch.refl _ _) | (with_reducible assumption) | (with_reducible refine Touch.drew ?_) | (with_reducible refine Touch.drewN ?_ _) | (with_reducible refine Touch.alloc ?_ _) | (with_reducible refine Touch.setCell ?_ _ _ _ ?_) | (with_reducible refine Touch.step (by assumption) ?_) | (with_reducible refine Touch.stepT (by assumption) ?_ ?_) | (intro _; first | rfl | trivial | omega | (simp; done) | (simp; omega)) | (intro _ _; first | omega | (simp; done) | (simp; omega)))))⟩
    · go_enter Tryz.func198, Tryz.ntmps198
      go_wp2
      go_ret
      exact ⟨ret_bool (by simp [h0, h1]), by (refine Touch.below0 ?_; (repeat' (first | (with_reducible exact Touch.refl _ _) | (with_reducible assumption) | (with_reducible refine Touch.drew ?_) | (with_reducible refine Touch.drewN ?_ _) | (with_reducible refine Touch.alloc ?_ _) | (with_reducible refine Touch.setCell ?_ _ _ _ ?_) | (with_reducible refine Touch.step (by assumption) ?_) | (with_reducible refine Touch.stepT (by assumption) ?_ ?_) | (intro _; first | rfl | trivial | omega | (simp; done) | (simp; omega)) | (intro _ _; first | omega | (simp; done) | (simp; omega)))))⟩
set_option maxHeartbeats 1000000 in
theorem tbl_free (a g : Nat) (m : MemS) (f i fl : Int) (w : World) (h : MemIs w a g m) (ok : m.Ok) : Calls Tryz.prog 127 #[.agg #[.pointer (some ⟨a, 0, none⟩)], .int .i64 f, .int .i64 i, .int .i64 fl] w fun e w' =>
    e = .returned (.int .i64 (freeE m f i fl)) ∧ Below w.heap.size w w' := by
  have hG := fun w h => slot_get a g m f i w h ok
  have hw0 : Below w.heap.size w (w.alloc (.cells #[.pointer (some ⟨a, 0, none⟩)] 197 (0, 0))) := by (refine Touch.below0 ?_; (repeat' (first | (with_reducible exact Touch.refl _ _) | (with_reducible assumption) | (with_reducible refine Touch.drew ?_) | (with_reducible refine Touch.drewN ?_ _) | (with_reducible refine Touch.alloc ?_ _) | (with_reducible refine Touch.setCell ?_ _ _ _ ?_) | (with_reducible refine Touch.step (by assumption) ?_) | (with_reducible refine Touch.stepT (by assumption) ?_ ?_) | (intro _; first | rfl | trivial | omega | (simp; done) | (simp; omega)) | (intro _ _; first | omega | (simp; done) | (simp; omega)))))
  have h1 := h.after hw0
  unfold freeE
  have hQ := tbl_quiet (slotC m f i) fl
  generalize hqc : quietC (slotC m f i) fl = q at *
  clear hqc
  generalize slotC m f i = C at *
  generalize slotE m f i = E at *
  obtain ⟨k, r, t, l, ep, ca⟩ := C
  unfold CapS.v at *
  dsimp only at *
  by_cases hE : E = 0
  · subst hE
    simp only [if_true]
    by_cases hk : 1 < k
    · simp only [hk, if_true]
      go_enter Tryz.func127, Tryz.ntmps127
      go_wp2_with ((go_at_call 163; (with_reducible refine (hG _ h1).mono ?_); rintro e w' ⟨rfl, hx⟩); have hw2 := hw0.trans (hx.mono hw0.size))
      go_ret
      exact ⟨rfl, hw2.alloc hw2.size _⟩
    · simp only [hk, if_false]
      have hk' : k ≤ 1 := by omega
      clear hk
      cases q
      all_goals
        go_enter Tryz.func127, Tryz.ntmps127
        go_wp2_with (first
          | ((go_at_call 163; (with_reducible refine (hG _ h1).mono ?_); rintro e w' ⟨rfl, hx⟩); have hw2 := hw0.trans (hx.mono hw0.size); have hw3 := hw2.alloc hw2.size (.cells #[.int .i64 k, .int .i64 r, .int .i64 t, .int .i64 l, .int .i64 ep, .int .i64 ca] 32 (0, 0)))
          | ((go_at_call 198; (with_reducible refine (hQ _).mono ?_); rintro e w' ⟨rfl, hx⟩)))
        go_ret
        exact ⟨rfl, hw3.trans (hx.mono hw3.size)⟩
  · simp only [hE, if_false]
    go_enter Tryz.func127, Tryz.ntmps127
    go_wp2_with ((go_at_call 163; (with_reducible refine (hG _ h1).mono ?_); rintro e w' ⟨rfl, hx⟩); have hw2 := hw0.trans (hx.mono hw0.size))
    go_ret
    exact ⟨rfl, hw2.alloc hw2.size _⟩
end Go.Proofs.YtejdfdllgobnhaaGreat
/- Tbl3 -/
set_option linter.unusedVariables false
set_option linter.unusedSimpArgs false
namespace Go.Proofs.YtejdfdllgobnhaaGreat
open Go.RowKit
structure PlaceS where
  f : Int
  i : Int
  fz : Bool
def PlaceS.v (p : PlaceS) : Value := .agg #[.int .i64 p.f, .int .i64 p.i, .bool p.fz]
def PlaceS.zero : PlaceS := ⟨0, 0, false⟩
def walkE (m : MemS) (root a : Int) : Int := if inB a 256 then (if isT m root 0 then (if slotE m root (a / 16) = 0 ∧ (slotC m root (a / 16)).k = 3 then (if isT m (slotC m root (a / 16)).t 1 then 0 else 4) else 3) else 4) else 1
def walkP (m : MemS) (root a : Int) : PlaceS := if walkE m root a = 0 then ⟨(slotC m root (a / 16)).t, a % 16, (hdC m (slotC m root (a / 16)).t).fz⟩ else PlaceS.zero
theorem walkP_no {m : MemS} {root a e : Int} (h : walkE m root a = e) (he : e ≠ 0) : walkP m root a = PlaceS.zero := by unfold walkP; rw [h, if_neg he]
theorem radix_no (n : Int) (w : World) (h : inB n 256 = false) : Calls Tryz.prog 238 #[.int .i64 n] w fun e w' => e = .returned (.tuple #[.int .i64 0, .int .i64 0, .int .i64 1]) ∧ Below w.heap.size w w' := by have := radix_slot n w; rw [h] at this; exact this
theorem radix_yes (n : Int) (w : World) (h : inB n 256 = true) : Calls Tryz.prog 238 #[.int .i64 n] w fun e w' => e = .returned (.tuple #[.int .i64 (n / 16), .int .i64 (n % 16), .int .i64 0]) ∧ Below w.heap.size w w' := by have := radix_slot n w; rw [h] at this; exact this
set_option maxHeartbeats 1000000 in
set_option maxRecDepth 100000 in
theorem walk_no (a g : Nat) (m : MemS) (root n : Int) (w : World) (h : MemIs w a g m) (ok : m.Ok) (hi : inB n 256 = false) : Calls Tryz.prog 203 #[.agg #[.pointer (some ⟨a, 0, none⟩)], .int .i64 root, .int .i64 n] w fun e w' =>
    e = .returned (.tuple #[PlaceS.zero.v, .int .i64 1]) ∧ Below w.heap.size w w' := by
  have hw0 : Below w.heap.size w ((w.alloc (.cells #[.pointer (some ⟨a, 0, none⟩)] 197 (0, 0))).alloc (.cells #[.int .i64 0, .int .i64 0, .bool false] 202 (0, 0))) := by (refine Touch.below0 ?_; (repeat' (first | (with_reducible exact Touch.refl _ _) | (with_reducible assumption) | (with_reducible refine Touch.drew ?_) | (with_reducible refine Touch.drewN ?_ _) | (with_reducible refine Touch.alloc ?_ _) | (with_reducible refine Touch.setCell ?_ _ _ _ ?_) | (with_reducible refine Touch.step (by assumption) ?_) | (with_reducible refine Touch.stepT (by assumption) ?_ ?_) | (intro _; first | rfl | trivial | omega | (simp; done) | (simp; omega)) | (intro _ _; first | omega | (simp; done) | (simp; omega)))))
  have hR : ((w.alloc (.cells #[.pointer (some ⟨a, 0, none⟩)] 197 (0, 0))).alloc (.cells #[.int .i64 0, .int .i64 0, .bool false] 202 (0, 0))).heap[w.heap.size + 1]? = some (.cells #[.int .i64 0, .int .i64 0, .bool false] 202 (0, 0)) := heap_new' (by simp) _
  have RN := fun w => radix_no n w hi
  clear hi
  go_enter Tryz.func203, Tryz.ntmps203
  go_wp2_with ((go_at_call 238; (with_reducible refine (RN _).mono ?_); rintro e w' ⟨rfl, hx⟩); have hw2 := hw0.trans (hx.mono hw0.size); have hR2 := (hx.block _ (lt_of_block hR)).trans hR; have g0 := cell_of hR2 0; have g1 := cell_of hR2 1; have g2 := cell_of hR2 2; have fr := frozen_of hR2; have lR := lt_of_block hR2; dsimp at g0 g1 g2)
  have hF := heap_set (o := 2) (heap_set (o := 1) (heap_set (o := 0) hR2 (.int .i64 0)) (.int .i64 0)) (.bool false)
  have hwF := ((hw2.setCell (p := ⟨w.heap.size + 1, 0, none⟩) (Nat.le_succ _) (.int .i64 0)).setCell (p := ⟨w.heap.size + 1, 1, none⟩) (Nat.le_succ _) (.int .i64 0)).setCell (p := ⟨w.heap.size + 1, 2, none⟩) (Nat.le_succ _) (.bool false)
  have hc := cell_of hF
  refine bodyPost_ret (v := .tuple #[PlaceS.zero.v, .int .i64 1]) ?_ rfl ⟨rfl, hwF⟩
  simp [results, Tryz.f203, go_sem, hc, PlaceS.zero, PlaceS.v]
set_option maxHeartbeats 1000000 in
set_option maxRecDepth 100000 in
theorem walk_no2 (a g : Nat) (m : MemS) (root n : Int) (w : World) (h : MemIs w a g m) (ok : m.Ok) (hi : inB n 256 = true) (hT : isT m root 0 = false) : Calls Tryz.prog 203 #[.agg #[.pointer (some ⟨a, 0, none⟩)], .int .i64 root, .int .i64 n] w fun e w' =>
    e = .returned (.tuple #[PlaceS.zero.v, .int .i64 4]) ∧ Below w.heap.size w w' := by
  have hw0 : Below w.heap.size w ((w.alloc (.cells #[.pointer (some ⟨a, 0, none⟩)] 197 (0, 0))).alloc (.cells #[.int .i64 0, .int .i64 0, .bool false] 202 (0, 0))) := by (refine Touch.below0 ?_; (repeat' (first | (with_reducible exact Touch.refl _ _) | (with_reducible assumption) | (with_reducible refine Touch.drew ?_) | (with_reducible refine Touch.drewN ?_ _) | (with_reducible refine Touch.alloc ?_ _) | (with_reducible refine Touch.setCell ?_ _ _ _ ?_) | (with_reducible refine Touch.step (by assumption) ?_) | (with_reducible refine Touch.stepT (by assumption) ?_ ?_) | (intro _; first | rfl | trivial | omega | (simp; done) | (simp; omega)) | (intro _ _; first | omega | (simp; done) | (simp; omega)))))
  have hB : ((w.alloc (.cells #[.pointer (some ⟨a, 0, none⟩)] 197 (0, 0))).alloc (.cells #[.int .i64 0, .int .i64 0, .bool false] 202 (0, 0))).heap[w.heap.size]? = some (.cells #[.pointer (some ⟨a, 0, none⟩)] 197 (0, 0)) := heap_alloc (heap_new _ _) _
  have hR : ((w.alloc (.cells #[.pointer (some ⟨a, 0, none⟩)] 197 (0, 0))).alloc (.cells #[.int .i64 0, .int .i64 0, .bool false] 202 (0, 0))).heap[w.heap.size + 1]? = some (.cells #[.int .i64 0, .int .i64 0, .bool false] 202 (0, 0)) := heap_new' (by simp) _
  have RY := fun w => radix_yes n w hi
  have L0 := fun w h => tbl_level a g m root 0 w h ok
  rw [hT] at L0
  have h1 := h.after hw0
  clear hi hT
  generalize hdC m root = D at *
  obtain ⟨dk, dl, df, dt⟩ := D
  unfold HeadS.v at *
  dsimp only at *
  go_enter Tryz.func203, Tryz.ntmps203
  go_wp2_with (first
    | ((go_at_call 238; (with_reducible refine (RY _).mono ?_); rintro e w' ⟨rfl, hx⟩); have hw2 := hw0.trans (hx.mono hw0.size); have hR2 := (hx.block _ (lt_of_block hR)).trans hR; have hB2 := (hx.block _ (lt_of_block hB)).trans hB; have h2 := h1.after hx; have b0 := cell_of hB2 0; dsimp at b0)
    | ((go_at_call 126; (with_reducible refine (L0 _ h2).mono ?_); rintro e w' ⟨rfl, hx⟩); have hw3 := hw2.trans (hx.mono hw2.size); have hR3 := (hx.block _ (lt_of_block hR2)).trans hR2; have g0 := cell_of hR3 0; have g1 := cell_of hR3 1; have g2 := cell_of hR3 2; have fr := frozen_of hR3; have lR := lt_of_block hR3; dsimp at g0 g1 g2))
  have hF := heap_set (o := 2) (heap_set (o := 1) (heap_set (o := 0) hR3 (.int .i64 0)) (.int .i64 0)) (.bool false)
  have hwF := ((hw3.setCell (p := ⟨w.heap.size + 1, 0, none⟩) (Nat.le_succ _) (.int .i64 0)).setCell (p := ⟨w.heap.size + 1, 1, none⟩) (Nat.le_succ _) (.int .i64 0)).setCell (p := ⟨w.heap.size + 1, 2, none⟩) (Nat.le_succ _) (.bool false)
  have hc := cell_of hF
  refine bodyPost_ret (v := .tuple #[PlaceS.zero.v, .int .i64 4]) ?_ rfl ⟨rfl, hwF.alloc hwF.size _⟩
  have hc2 := cell_of (heap_alloc hF (.cells #[.int .i64 dk, .int .i64 dl, .bool df, .int .i64 dt] 195 (0, 0)))
  simp [results, Tryz.f203, go_sem, hc2, PlaceS.zero, PlaceS.v]
set_option maxHeartbeats 1000000 in
set_option maxRecDepth 100000 in
theorem walk_no3 (a g : Nat) (m : MemS) (root n : Int) (w : World) (h : MemIs w a g m) (ok : m.Ok) (hi : inB n 256 = true) (hT : isT m root 0 = true) (hE : slotE m root (n / 16) ≠ 0) : Calls Tryz.prog 203 #[.agg #[.pointer (some ⟨a, 0, none⟩)], .int .i64 root, .int .i64 n] w fun e w' =>
    e = .returned (.tuple #[PlaceS.zero.v, .int .i64 3]) ∧ Below w.heap.size w w' := by
  have hw0 : Below w.heap.size w ((w.alloc (.cells #[.pointer (some ⟨a, 0, none⟩)] 197 (0, 0))).alloc (.cells #[.int .i64 0, .int .i64 0, .bool false] 202 (0, 0))) := by (refine Touch.below0 ?_; (repeat' (first | (with_reducible exact Touch.refl _ _) | (with_reducible assumption) | (with_reducible refine Touch.drew ?_) | (with_reducible refine Touch.drewN ?_ _) | (with_reducible refine Touch.alloc ?_ _) | (with_reducible refine Touch.setCell ?_ _ _ _ ?_) | (with_reducible refine Touch.step (by assumption) ?_) | (with_reducible refine Touch.stepT (by assumption) ?_ ?_) | (intro _; first | rfl | trivial | omega | (simp; done) | (simp; omega)) | (intro _ _; first | omega | (simp; done) | (simp; omega)))))
  have hB : ((w.alloc (.cells #[.pointer (some ⟨a, 0, none⟩)] 197 (0, 0))).alloc (.cells #[.int .i64 0, .int .i64 0, .bool false] 202 (0, 0))).heap[w.heap.size]? = some (.cells #[.pointer (some ⟨a, 0, none⟩)] 197 (0, 0)) := heap_alloc (heap_new _ _) _
  have hR : ((w.alloc (.cells #[.pointer (some ⟨a, 0, none⟩)] 197 (0, 0))).alloc (.cells #[.int .i64 0, .int .i64 0, .bool false] 202 (0, 0))).heap[w.heap.size + 1]? = some (.cells #[.int .i64 0, .int .i64 0, .bool false] 202 (0, 0)) := heap_new' (by simp) _
  have RY := fun w => radix_yes n w hi
  have L0 := fun w h => tbl_level a g m root 0 w h ok
  have SG := fun w h => slot_get a g m root (n / 16) w h ok
  rw [hT] at L0
  have h1 := h.after hw0
  generalize slotC m root (n / 16) = C at *
  generalize slotE m root (n / 16) = E at *
  have hE2 : (E == 0) = false := by simpa using hE
  clear hi hT
  generalize hdC m root = D at *
  obtain ⟨dk, dl, df, dt⟩ := D
  obtain ⟨ck, cr, ct, cl, ce, ca⟩ := C
  unfold HeadS.v at *
  unfold CapS.v at *
  dsimp only at *
  go_enter Tryz.func203, Tryz.ntmps203
  go_wp2_with (first
    | ((go_at_call 238; (with_reducible refine (RY _).mono ?_); rintro e w' ⟨rfl, hx⟩); have hw2 := hw0.trans (hx.mono hw0.size); have hR2 := (hx.block _ (lt_of_block hR)).trans hR; have hB2 := (hx.block _ (lt_of_block hB)).trans hB; have h2 := h1.after hx; have b0 := cell_of hB2 0; dsimp at b0)
    | ((go_at_call 126; (with_reducible refine (L0 _ h2).mono ?_); rintro e w' ⟨rfl, hx⟩); have hw3 := (hw2.trans (hx.mono hw2.size)).alloc (hw2.trans (hx.mono hw2.size)).size (.cells #[.int .i64 dk, .int .i64 dl, .bool df, .int .i64 dt] 195 (0, 0)); have hR3 := heap_alloc ((hx.block _ (lt_of_block hR2)).trans hR2) (.cells #[.int .i64 dk, .int .i64 dl, .bool df, .int .i64 dt] 195 (0, 0)); have hB3 := heap_alloc ((hx.block _ (lt_of_block hB2)).trans hB2) (.cells #[.int .i64 dk, .int .i64 dl, .bool df, .int .i64 dt] 195 (0, 0)); have h3 := (h2.after hx).after ((Below.refl _ _).alloc (Nat.le_refl _) (.cells #[.int .i64 dk, .int .i64 dl, .bool df, .int .i64 dt] 195 (0, 0))); have b0 := cell_of ((hx.block _ (lt_of_block hB2)).trans hB2) 0; have lB := lt_of_block ((hx.block _ (lt_of_block hB2)).trans hB2); dsimp at b0)
    | ((go_at_call 163; (with_reducible refine (SG _ h3).mono ?_); rintro e w' ⟨rfl, hx⟩); have hw4 := hw3.trans (hx.mono hw3.size); have hR4 := (hx.block _ (lt_of_block hR3)).trans hR3; have g0 := cell_of hR4 0; have g1 := cell_of hR4 1; have g2 := cell_of hR4 2; have fr := frozen_of hR4; have lR := lt_of_block hR4; dsimp at g0 g1 g2))
  have hF := heap_set (o := 2) (heap_set (o := 1) (heap_set (o := 0) hR4 (.int .i64 0)) (.int .i64 0)) (.bool false)
  have hwF := ((hw4.setCell (p := ⟨w.heap.size + 1, 0, none⟩) (Nat.le_succ _) (.int .i64 0)).setCell (p := ⟨w.heap.size + 1, 1, none⟩) (Nat.le_succ _) (.int .i64 0)).setCell (p := ⟨w.heap.size + 1, 2, none⟩) (Nat.le_succ _) (.bool false)
  have hc := cell_of hF
  refine bodyPost_ret (v := .tuple #[PlaceS.zero.v, .int .i64 3]) ?_ rfl ⟨rfl, hwF.alloc hwF.size _⟩
  have hc2 := cell_of (heap_alloc hF (.cells #[.int .i64 ck, .int .i64 cr, .int .i64 ct, .int .i64 cl, .int .i64 ce, .int .i64 ca] 32 (0, 0)))
  simp [results, Tryz.f203, go_sem, hc2, PlaceS.zero, PlaceS.v]
set_option maxHeartbeats 1000000 in
set_option maxRecDepth 100000 in
theorem walk_no4 (a g : Nat) (m : MemS) (root n : Int) (w : World) (h : MemIs w a g m) (ok : m.Ok) (hi : inB n 256 = true) (hT : isT m root 0 = true) (hE : slotE m root (n / 16) = 0) (hk : (slotC m root (n / 16)).k ≠ 3) : Calls Tryz.prog 203 #[.agg #[.pointer (some ⟨a, 0, none⟩)], .int .i64 root, .int .i64 n] w fun e w' =>
    e = .returned (.tuple #[PlaceS.zero.v, .int .i64 3]) ∧ Below w.heap.size w w' := by
  have hw0 : Below w.heap.size w ((w.alloc (.cells #[.pointer (some ⟨a, 0, none⟩)] 197 (0, 0))).alloc (.cells #[.int .i64 0, .int .i64 0, .bool false] 202 (0, 0))) := by (refine Touch.below0 ?_; (repeat' (first | (with_reducible exact Touch.refl _ _) | (with_reducible assumption) | (with_reducible refine Touch.drew ?_) | (with_reducible refine Touch.drewN ?_ _) | (with_reducible refine Touch.alloc ?_ _) | (with_reducible refine Touch.setCell ?_ _ _ _ ?_) | (with_reducible refine Touch.step (by assumption) ?_) | (with_reducible refine Touch.stepT (by assumption) ?_ ?_) | (intro _; first | rfl | trivial | omega | (simp; done) | (simp; omega)) | (intro _ _; first | omega | (simp; done) | (simp; omega)))))
  have hB : ((w.alloc (.cells #[.pointer (some ⟨a, 0, none⟩)] 197 (0, 0))).alloc (.cells #[.int .i64 0, .int .i64 0, .bool false] 202 (0, 0))).heap[w.heap.size]? = some (.cells #[.pointer (some ⟨a, 0, none⟩)] 197 (0, 0)) := heap_alloc (heap_new _ _) _
  have hR : ((w.alloc (.cells #[.pointer (some ⟨a, 0, none⟩)] 197 (0, 0))).alloc (.cells #[.int .i64 0, .int .i64 0, .bool false] 202 (0, 0))).heap[w.heap.size + 1]? = some (.cells #[.int .i64 0, .int .i64 0, .bool false] 202 (0, 0)) := heap_new' (by simp) _
  have RY := fun w => radix_yes n w hi
  have L0 := fun w h => tbl_level a g m root 0 w h ok
  have SG := fun w h => slot_get a g m root (n / 16) w h ok
  rw [hT] at L0
  have h1 := h.after hw0
  rw [hE] at SG
  clear hE
  generalize slotC m root (n / 16) = C at *
  clear hi hT
  generalize hdC m root = D at *
  obtain ⟨dk, dl, df, dt⟩ := D
  obtain ⟨ck, cr, ct, cl, ce, ca⟩ := C
  unfold HeadS.v at *
  unfold CapS.v at *
  dsimp only at *
  have hk2 : (ck == 3) = false := by simpa using hk
  go_enter Tryz.func203, Tryz.ntmps203
  go_wp2_with (first
    | ((go_at_call 238; (with_reducible refine (RY _).mono ?_); rintro e w' ⟨rfl, hx⟩); have hw2 := hw0.trans (hx.mono hw0.size); have hR2 := (hx.block _ (lt_of_block hR)).trans hR; have hB2 := (hx.block _ (lt_of_block hB)).trans hB; have h2 := h1.after hx; have b0 := cell_of hB2 0; dsimp at b0)
    | ((go_at_call 126; (with_reducible refine (L0 _ h2).mono ?_); rintro e w' ⟨rfl, hx⟩); have hw3 := (hw2.trans (hx.mono hw2.size)).alloc (hw2.trans (hx.mono hw2.size)).size (.cells #[.int .i64 dk, .int .i64 dl, .bool df, .int .i64 dt] 195 (0, 0)); have hR3 := heap_alloc ((hx.block _ (lt_of_block hR2)).trans hR2) (.cells #[.int .i64 dk, .int .i64 dl, .bool df, .int .i64 dt] 195 (0, 0)); have hB3 := heap_alloc ((hx.block _ (lt_of_block hB2)).trans hB2) (.cells #[.int .i64 dk, .int .i64 dl, .bool df, .int .i64 dt] 195 (0, 0)); have h3 := (h2.after hx).after ((Below.refl _ _).alloc (Nat.le_refl _) (.cells #[.int .i64 dk, .int .i64 dl, .bool df, .int .i64 dt] 195 (0, 0))); have b0 := cell_of ((hx.block _ (lt_of_block hB2)).trans hB2) 0; have lB := lt_of_block ((hx.block _ (lt_of_block hB2)).trans hB2); dsimp at b0)
    | ((go_at_call 163; (with_reducible refine (SG _ h3).mono ?_); rintro e w' ⟨rfl, hx⟩); have hw4 := hw3.trans (hx.mono hw3.size); have hR4 := (hx.block _ (lt_of_block hR3)).trans hR3; have g0 := cell_of hR4 0; have g1 := cell_of hR4 1; have g2 := cell_of hR4 2; have fr := frozen_of hR4; have lR := lt_of_block hR4; dsimp at g0 g1 g2))
  have hF := heap_set (o := 2) (heap_set (o := 1) (heap_set (o := 0) hR4 (.int .i64 0)) (.int .i64 0)) (.bool false)
  have hwF := ((hw4.setCell (p := ⟨w.heap.size + 1, 0, none⟩) (Nat.le_succ _) (.int .i64 0)).setCell (p := ⟨w.heap.size + 1, 1, none⟩) (Nat.le_succ _) (.int .i64 0)).setCell (p := ⟨w.heap.size + 1, 2, none⟩) (Nat.le_succ _) (.bool false)
  have hc := cell_of hF
  refine bodyPost_ret (v := .tuple #[PlaceS.zero.v, .int .i64 3]) ?_ rfl ⟨rfl, hwF.alloc hwF.size _⟩
  have hc2 := cell_of (heap_alloc hF (.cells #[.int .i64 ck, .int .i64 cr, .int .i64 ct, .int .i64 cl, .int .i64 ce, .int .i64 ca] 32 (0, 0)))
  simp [results, Tryz.f203, go_sem, hc2, PlaceS.zero, PlaceS.v]
end Go.Proofs.YtejdfdllgobnhaaGreat
/- Tbl4 -/
set_option linter.unusedVariables false
set_option linter.unusedSimpArgs false
namespace Go.Proofs.YtejdfdllgobnhaaGreat
open Go.RowKit
set_option maxHeartbeats 1000000 in
set_option maxRecDepth 100000 in
theorem walk_no5 (a g : Nat) (m : MemS) (root n : Int) (w : World) (h : MemIs w a g m) (ok : m.Ok) (hi : inB n 256 = true) (hT : isT m root 0 = true) (hE : slotE m root (n / 16) = 0) (hk : (slotC m root (n / 16)).k = 3) (hT1 : isT m (slotC m root (n / 16)).t 1 = false) : Calls Tryz.prog 203 #[.agg #[.pointer (some ⟨a, 0, none⟩)], .int .i64 root, .int .i64 n] w fun e w' =>
    e = .returned (.tuple #[PlaceS.zero.v, .int .i64 4]) ∧ Below w.heap.size w w' := by
  have hw0 : Below w.heap.size w ((w.alloc (.cells #[.pointer (some ⟨a, 0, none⟩)] 197 (0, 0))).alloc (.cells #[.int .i64 0, .int .i64 0, .bool false] 202 (0, 0))) := by (refine Touch.below0 ?_; (repeat' (first | (with_reducible exact Touch.refl _ _) | (with_reducible assumption) | (with_reducible refine Touch.drew ?_) | (with_reducible refine Touch.drewN ?_ _) | (with_reducible refine Touch.alloc ?_ _) | (with_reducible refine Touch.setCell ?_ _ _ _ ?_) | (with_reducible refine Touch.step (by assumption) ?_) | (with_reducible refine Touch.stepT (by assumption) ?_ ?_) | (intro _; first | rfl | trivial | omega | (simp; done) | (simp; omega)) | (intro _ _; first | omega | (simp; done) | (simp; omega)))))
  have hB : ((w.alloc (.cells #[.pointer (some ⟨a, 0, none⟩)] 197 (0, 0))).alloc (.cells #[.int .i64 0, .int .i64 0, .bool false] 202 (0, 0))).heap[w.heap.size]? = some (.cells #[.pointer (some ⟨a, 0, none⟩)] 197 (0, 0)) := heap_alloc (heap_new _ _) _
  have hR : ((w.alloc (.cells #[.pointer (some ⟨a, 0, none⟩)] 197 (0, 0))).alloc (.cells #[.int .i64 0, .int .i64 0, .bool false] 202 (0, 0))).heap[w.heap.size + 1]? = some (.cells #[.int .i64 0, .int .i64 0, .bool false] 202 (0, 0)) := heap_new' (by simp) _
  have RY := fun w => radix_yes n w hi
  have L0 := fun w h => tbl_level a g m root 0 w h ok
  have SG := fun w h => slot_get a g m root (n / 16) w h ok
  rw [hT] at L0
  have h1 := h.after hw0
  rw [hE] at SG
  have L1 := fun w h => tbl_level a g m (slotC m root (n / 16)).t 1 w h ok
  rw [hT1] at L1
  clear hE hT1
  generalize slotC m root (n / 16) = C at *
  clear hi hT
  generalize hdC m root = D at *
  obtain ⟨dk, dl, df, dt⟩ := D
  obtain ⟨ck, cr, ct, cl, ce, ca⟩ := C
  dsimp only at *
  generalize hdC m ct = H at *
  obtain ⟨hk2, hl, hf, ht⟩ := H
  unfold HeadS.v at *
  unfold CapS.v at *
  dsimp only at *
  subst hk
  go_enter Tryz.func203, Tryz.ntmps203
  go_wp2_with (first
    | ((go_at_call 238; (with_reducible refine (RY _).mono ?_); rintro e w' ⟨rfl, hx⟩); have hw2 := hw0.trans (hx.mono hw0.size); have hR2 := (hx.block _ (lt_of_block hR)).trans hR; have hB2 := (hx.block _ (lt_of_block hB)).trans hB; have h2 := h1.after hx; have b0 := cell_of hB2 0; dsimp at b0)
    | ((go_at_call 126; (with_reducible refine (L0 _ h2).mono ?_); rintro e w' ⟨rfl, hx⟩); have hw3 := (hw2.trans (hx.mono hw2.size)).alloc (hw2.trans (hx.mono hw2.size)).size (.cells #[.int .i64 dk, .int .i64 dl, .bool df, .int .i64 dt] 195 (0, 0)); have hR3 := heap_alloc ((hx.block _ (lt_of_block hR2)).trans hR2) (.cells #[.int .i64 dk, .int .i64 dl, .bool df, .int .i64 dt] 195 (0, 0)); have hB3 := heap_alloc ((hx.block _ (lt_of_block hB2)).trans hB2) (.cells #[.int .i64 dk, .int .i64 dl, .bool df, .int .i64 dt] 195 (0, 0)); have h3 := (h2.after hx).after ((Below.refl _ _).alloc (Nat.le_refl _) (.cells #[.int .i64 dk, .int .i64 dl, .bool df, .int .i64 dt] 195 (0, 0))); have b0 := cell_of ((hx.block _ (lt_of_block hB2)).trans hB2) 0; have lB := lt_of_block ((hx.block _ (lt_of_block hB2)).trans hB2); dsimp at b0)
    | ((go_at_call 163; (with_reducible refine (SG _ h3).mono ?_); rintro e w' ⟨rfl, hx⟩); have hw4 := (hw3.trans (hx.mono hw3.size)).alloc (hw3.trans (hx.mono hw3.size)).size (.cells #[.int .i64 3, .int .i64 cr, .int .i64 ct, .int .i64 cl, .int .i64 ce, .int .i64 ca] 32 (0, 0)); have hR4 := heap_alloc ((hx.block _ (lt_of_block hR3)).trans hR3) (.cells #[.int .i64 3, .int .i64 cr, .int .i64 ct, .int .i64 cl, .int .i64 ce, .int .i64 ca] 32 (0, 0)); have hB4' := (hx.block _ (lt_of_block hB3)).trans hB3; have hB4 := heap_alloc hB4' (.cells #[.int .i64 3, .int .i64 cr, .int .i64 ct, .int .i64 cl, .int .i64 ce, .int .i64 ca] 32 (0, 0)); have h4 := (h3.after hx).after ((Below.refl _ _).alloc (Nat.le_refl _) (.cells #[.int .i64 3, .int .i64 cr, .int .i64 ct, .int .i64 cl, .int .i64 ce, .int .i64 ca] 32 (0, 0))); have hC4 := heap_new w' (.cells #[.int .i64 3, .int .i64 cr, .int .i64 ct, .int .i64 cl, .int .i64 ce, .int .i64 ca] 32 (0, 0)); have b0 := cell_of hB4' 0; have lB := lt_of_block hB4'; dsimp at b0)
    | ((go_at_call 126; (with_reducible refine (L1 _ h4).mono ?_); rintro e w' ⟨rfl, hx⟩); have hw5 := hw4.trans (hx.mono hw4.size); have hR5 := (hx.block _ (lt_of_block hR4)).trans hR4; have hC5 := (hx.block _ (lt_of_block hC4)).trans hC4; have e2 := cell_of hC5 2; have lC := lt_of_block hC5; dsimp at e2; have g0 := cell_of hR5 0; have g1 := cell_of hR5 1; have g2 := cell_of hR5 2; have fr := frozen_of hR5; have lR := lt_of_block hR5; dsimp at g0 g1 g2))
  have hF := heap_set (o := 2) (heap_set (o := 1) (heap_set (o := 0) hR5 (.int .i64 0)) (.int .i64 0)) (.bool false)
  have hwF := ((hw5.setCell (p := ⟨w.heap.size + 1, 0, none⟩) (Nat.le_succ _) (.int .i64 0)).setCell (p := ⟨w.heap.size + 1, 1, none⟩) (Nat.le_succ _) (.int .i64 0)).setCell (p := ⟨w.heap.size + 1, 2, none⟩) (Nat.le_succ _) (.bool false)
  have hc := cell_of hF
  refine bodyPost_ret (v := .tuple #[PlaceS.zero.v, .int .i64 4]) ?_ rfl ⟨rfl, hwF.alloc hwF.size _⟩
  have hc2 := cell_of (heap_alloc hF (.cells #[.int .i64 hk2, .int .i64 hl, .bool hf, .int .i64 ht] 195 (0, 0)))
  simp [results, Tryz.f203, go_sem, hc2, PlaceS.zero, PlaceS.v]
set_option maxHeartbeats 1000000 in
set_option maxRecDepth 100000 in
theorem walk_yes (a g : Nat) (m : MemS) (root n : Int) (w : World) (h : MemIs w a g m) (ok : m.Ok) (hi : inB n 256 = true) (hT : isT m root 0 = true) (hE : slotE m root (n / 16) = 0) (hk : (slotC m root (n / 16)).k = 3) (hT1 : isT m (slotC m root (n / 16)).t 1 = true) : Calls Tryz.prog 203 #[.agg #[.pointer (some ⟨a, 0, none⟩)], .int .i64 root, .int .i64 n] w fun e w' =>
    e = .returned (.tuple #[.agg #[.int .i64 (slotC m root (n / 16)).t, .int .i64 (n % 16), .bool (hdC m (slotC m root (n / 16)).t).fz], .int .i64 0]) ∧ Below w.heap.size w w' := by
  have hw0 : Below w.heap.size w ((w.alloc (.cells #[.pointer (some ⟨a, 0, none⟩)] 197 (0, 0))).alloc (.cells #[.int .i64 0, .int .i64 0, .bool false] 202 (0, 0))) := by (refine Touch.below0 ?_; (repeat' (first | (with_reducible exact Touch.refl _ _) | (with_reducible assumption) | (with_reducible refine Touch.drew ?_) | (with_reducible refine Touch.drewN ?_ _) | (with_reducible refine Touch.alloc ?_ _) | (with_reducible refine Touch.setCell ?_ _ _ _ ?_) | (with_reducible refine Touch.step (by assumption) ?_) | (with_reducible refine Touch.stepT (by assumption) ?_ ?_) | (intro _; first | rfl | trivial | omega | (simp; done) | (simp; omega)) | (intro _ _; first | omega | (simp; done) | (simp; omega)))))
  have hB : ((w.alloc (.cells #[.pointer (some ⟨a, 0, none⟩)] 197 (0, 0))).alloc (.cells #[.int .i64 0, .int .i64 0, .bool false] 202 (0, 0))).heap[w.heap.size]? = some (.cells #[.pointer (some ⟨a, 0, none⟩)] 197 (0, 0)) := heap_alloc (heap_new _ _) _
  have hR : ((w.alloc (.cells #[.pointer (some ⟨a, 0, none⟩)] 197 (0, 0))).alloc (.cells #[.int .i64 0, .int .i64 0, .bool false] 202 (0, 0))).heap[w.heap.size + 1]? = some (.cells #[.int .i64 0, .int .i64 0, .bool false] 202 (0, 0)) := heap_new' (by simp) _
  have RY := fun w => radix_yes n w hi
  have L0 := fun w h => tbl_level a g m root 0 w h ok
  have SG := fun w h => slot_get a g m root (n / 16) w h ok
  rw [hT] at L0
  have h1 := h.after hw0
  rw [hE] at SG
  have L1 := fun w h => tbl_level a g m (slotC m root (n / 16)).t 1 w h ok
  rw [hT1] at L1
  clear hE hT1
  generalize slotC m root (n / 16) = C at *
  clear hi hT
  generalize hdC m root = D at *
  obtain ⟨dk, dl, df, dt⟩ := D
  obtain ⟨ck, cr, ct, cl, ce, ca⟩ := C
  dsimp only at *
  generalize hdC m ct = H at *
  obtain ⟨hk2, hl, hf, ht⟩ := H
  unfold HeadS.v at *
  unfold CapS.v at *
  dsimp only at *
  subst hk
  go_enter Tryz.func203, Tryz.ntmps203
  go_wp2_with (first
    | ((go_at_call 238; (with_reducible refine (RY _).mono ?_); rintro e w' ⟨rfl, hx⟩); have hw2 := hw0.trans (hx.mono hw0.size); have hR2 := (hx.block _ (lt_of_block hR)).trans hR; have hB2 := (hx.block _ (lt_of_block hB)).trans hB; have h2 := h1.after hx; have b0 := cell_of hB2 0; dsimp at b0)
    | ((go_at_call 126; (with_reducible refine (L0 _ h2).mono ?_); rintro e w' ⟨rfl, hx⟩); have hw3 := (hw2.trans (hx.mono hw2.size)).alloc (hw2.trans (hx.mono hw2.size)).size (.cells #[.int .i64 dk, .int .i64 dl, .bool df, .int .i64 dt] 195 (0, 0)); have hR3 := heap_alloc ((hx.block _ (lt_of_block hR2)).trans hR2) (.cells #[.int .i64 dk, .int .i64 dl, .bool df, .int .i64 dt] 195 (0, 0)); have hB3 := heap_alloc ((hx.block _ (lt_of_block hB2)).trans hB2) (.cells #[.int .i64 dk, .int .i64 dl, .bool df, .int .i64 dt] 195 (0, 0)); have h3 := (h2.after hx).after ((Below.refl _ _).alloc (Nat.le_refl _) (.cells #[.int .i64 dk, .int .i64 dl, .bool df, .int .i64 dt] 195 (0, 0))); have b0 := cell_of ((hx.block _ (lt_of_block hB2)).trans hB2) 0; have lB := lt_of_block ((hx.block _ (lt_of_block hB2)).trans hB2); dsimp at b0)
    | ((go_at_call 163; (with_reducible refine (SG _ h3).mono ?_); rintro e w' ⟨rfl, hx⟩); have hw4 := (hw3.trans (hx.mono hw3.size)).alloc (hw3.trans (hx.mono hw3.size)).size (.cells #[.int .i64 3, .int .i64 cr, .int .i64 ct, .int .i64 cl, .int .i64 ce, .int .i64 ca] 32 (0, 0)); have hR4 := heap_alloc ((hx.block _ (lt_of_block hR3)).trans hR3) (.cells #[.int .i64 3, .int .i64 cr, .int .i64 ct, .int .i64 cl, .int .i64 ce, .int .i64 ca] 32 (0, 0)); have hB4' := (hx.block _ (lt_of_block hB3)).trans hB3; have hB4 := heap_alloc hB4' (.cells #[.int .i64 3, .int .i64 cr, .int .i64 ct, .int .i64 cl, .int .i64 ce, .int .i64 ca] 32 (0, 0)); have h4 := (h3.after hx).after ((Below.refl _ _).alloc (Nat.le_refl _) (.cells #[.int .i64 3, .int .i64 cr, .int .i64 ct, .int .i64 cl, .int .i64 ce, .int .i64 ca] 32 (0, 0))); have hC4 := heap_new w' (.cells #[.int .i64 3, .int .i64 cr, .int .i64 ct, .int .i64 cl, .int .i64 ce, .int .i64 ca] 32 (0, 0)); have b0 := cell_of hB4' 0; have lB := lt_of_block hB4'; dsimp at b0)
    | ((go_at_call 126; (with_reducible refine (L1 _ h4).mono ?_); rintro e w' ⟨rfl, hx⟩); have hw5 := hw4.trans (hx.mono hw4.size); have hR5 := (hx.block _ (lt_of_block hR4)).trans hR4; have hC5 := (hx.block _ (lt_of_block hC4)).trans hC4; have e2 := cell_of hC5 2; have lC := lt_of_block hC5; dsimp at e2; have g0 := cell_of hR5 0; have g1 := cell_of hR5 1; have g2 := cell_of hR5 2; have fr := frozen_of hR5; have lR := lt_of_block hR5; dsimp at g0 g1 g2))
  have hF := heap_set (o := 2) (heap_set (o := 1) (heap_set (o := 0) hR5 (.int .i64 ct)) (.int .i64 (n % 16))) (.bool hf)
  have hwF := ((hw5.setCell (p := ⟨w.heap.size + 1, 0, none⟩) (Nat.le_succ _) (.int .i64 ct)).setCell (p := ⟨w.heap.size + 1, 1, none⟩) (Nat.le_succ _) (.int .i64 (n % 16))).setCell (p := ⟨w.heap.size + 1, 2, none⟩) (Nat.le_succ _) (.bool hf)
  have hc := cell_of hF
  refine bodyPost_ret (v := .tuple #[.agg #[.int .i64 ct, .int .i64 (n % 16), .bool hf], .int .i64 0]) ?_ rfl ⟨rfl, hwF.alloc hwF.size _⟩
  have hc2 := cell_of (heap_alloc hF (.cells #[.int .i64 hk2, .int .i64 hl, .bool hf, .int .i64 ht] 195 (0, 0)))
  simp [results, Tryz.f203, go_sem, hc2, PlaceS.zero, PlaceS.v]
theorem tbl_walk (a g : Nat) (m : MemS) (root n : Int) (w : World) (h : MemIs w a g m) (ok : m.Ok) : Calls Tryz.prog 203 #[.agg #[.pointer (some ⟨a, 0, none⟩)], .int .i64 root, .int .i64 n] w fun e w' =>
    e = .returned (.tuple #[(walkP m root n).v, .int .i64 (walkE m root n)]) ∧ Below w.heap.size w w' := by
  cases hi : inB n 256
  · have e : walkE m root n = 1 := by unfold walkE; rw [hi]; rfl
    rw [walkP_no e (by decide), e]; exact walk_no a g m root n w h ok hi
  cases hT : isT m root 0
  · have e : walkE m root n = 4 := by unfold walkE; rw [hi, hT]; rfl
    rw [walkP_no e (by decide), e]; exact walk_no2 a g m root n w h ok hi hT
  by_cases hE : slotE m root (n / 16) = 0
  · by_cases hk : (slotC m root (n / 16)).k = 3
    · cases hT1 : isT m (slotC m root (n / 16)).t 1
      · have e : walkE m root n = 4 := by unfold walkE; rw [hi, hT, if_pos rfl, if_pos rfl, if_pos ⟨hE, hk⟩, hT1]; rfl
        rw [walkP_no e (by decide), e]; exact walk_no5 a g m root n w h ok hi hT hE hk hT1
      · have e : walkE m root n = 0 := by unfold walkE; rw [hi, hT, if_pos rfl, if_pos rfl, if_pos ⟨hE, hk⟩, hT1]; rfl
        rw [walkP, e, if_pos rfl]; exact walk_yes a g m root n w h ok hi hT hE hk hT1
    · have e : walkE m root n = 3 := by unfold walkE; rw [hi, hT, if_pos rfl, if_pos rfl, if_neg (fun h => hk h.2)]
      rw [walkP_no e (by decide), e]; exact walk_no4 a g m root n w h ok hi hT hE hk
  · have e : walkE m root n = 3 := by unfold walkE; rw [hi, hT, if_pos rfl, if_pos rfl, if_neg (fun h => hE h.1)]
    rw [walkP_no e (by decide), e]; exact walk_no3 a g m root n w h ok hi hT hE
end Go.Proofs.YtejdfdllgobnhaaGreat
/- Tbl5 -/
set_option linter.unusedVariables false
set_option linter.unusedSimpArgs false
namespace Go.Proofs.YtejdfdllgobnhaaGreat
open Go.RowKit
def roomE (m : MemS) (root n fl : Int) : Int := if walkE m root n = 0 then (if (walkP m root n).fz then 6 else freeE m (walkP m root n).f (walkP m root n).i fl) else walkE m root n
def roomP (m : MemS) (root n : Int) : PlaceS := if walkE m root n = 0 then (if (walkP m root n).fz then PlaceS.zero else walkP m root n) else PlaceS.zero
theorem tbl_make (a g : Nat) (m : MemS) (f lv : Int) (w : World) (h : MemIs w a g m) (ok : m.Ok) : Calls Tryz.prog 29 #[.pointer (some ⟨a, 0, none⟩), .int .i64 f, .int .i64 lv] w fun e w' =>
    e = .returned (.int .i64 (if headOk m f ⟨1, lv, false, 0⟩ then 0 else 1)) ∧ MemIs w' a g (m.make f ⟨1, lv, false, 0⟩) ∧ Touch (· = g) w w' := by
  have H := fun w h => head_make a g m f ⟨1, lv, false, 0⟩ w h ok
  unfold HeadS.v at H
  dsimp only at H
  generalize m.make f ⟨1, lv, false, 0⟩ = M at *
  generalize (if headOk m f ⟨1, lv, false, 0⟩ then (0 : Int) else 1) = E at *
  go_enter Tryz.func29, Tryz.ntmps29
  go_wp2_with ((go_at_call 124; (with_reducible refine (H _ h).mono ?_); rintro e w' ⟨rfl, hm, ht⟩))
  go_ret
  exact ⟨rfl, hm, ht⟩
def timeB (n : Int) : Bool := decide (1 ≤ n) && decide (n ≤ 1073741824)
theorem tbl_time (n : Int) (w : World) : Calls Tryz.prog 159 #[.int .i64 n] w fun e w' => e = .returned (.bool (timeB n)) ∧ w = w' := by
  unfold timeB
  by_cases h : 1 ≤ n
  · go_enter Tryz.func159, Tryz.ntmps159
    go_wp2
    go_ret
    exact ⟨ret_bool (by simp [h]), rfl⟩
  · go_enter Tryz.func159, Tryz.ntmps159
    go_wp2
    go_ret
    exact ⟨ret_bool (by have : ¬ 1 ≤ n := by omega
                        rw [decide_eq_false this]; rfl), rfl⟩
def goneC (n : Int) : CapS := ⟨1, 0, 0, 0, 0, n⟩
theorem tbl_gone (n : Int) (w : World) : Calls Tryz.prog 161 #[.int .i64 n] w fun e w' => e = .returned (goneC n).v ∧ Below w.heap.size w w' := by
  go_enter Tryz.func161, Tryz.ntmps161
  go_wp2
  ((try simp only [Exit.inBlock, Exit.then]); refine bodyPost_ret (results_cell_row rfl _ _ w.heap.size 32 #[.int .i64 1, .int .i64 0, .int .i64 0, .int .i64 0, .int .i64 0, .int .i64 n] (0, 0) _ rfl ?_ Tryz.underlying32 rfl (by kernel_rfl)) rfl ?_)
  · exact heap_new _ _
  exact ⟨rfl, by (refine Touch.below0 ?_; (repeat' (first | (with_reducible exact Touch.refl _ _) | (with_reducible assumption) | (with_reducible refine Touch.drew ?_) | (with_reducible refine Touch.drewN ?_ _) | (with_reducible refine Touch.alloc ?_ _) | (with_reducible refine Touch.setCell ?_ _ _ _ ?_) | (with_reducible refine Touch.step (by assumption) ?_) | (with_reducible refine Touch.stepT (by assumption) ?_ ?_) | (intro _; first | rfl | trivial | omega | (simp; done) | (simp; omega)) | (intro _ _; first | omega | (simp; done) | (simp; omega)))))⟩
set_option maxHeartbeats 1000000 in
set_option maxRecDepth 100000 in
theorem tbl_room (a g : Nat) (m : MemS) (root n fl : Int) (w : World) (h : MemIs w a g m) (ok : m.Ok) : Calls Tryz.prog 130 #[.agg #[.pointer (some ⟨a, 0, none⟩)], .int .i64 root, .int .i64 n, .int .i64 fl] w fun e w' =>
    e = .returned (.tuple #[(roomP m root n).v, .int .i64 (roomE m root n fl)]) ∧ Below w.heap.size w w' := by
  have hw0 : Below w.heap.size w ((w.alloc (.cells #[.pointer (some ⟨a, 0, none⟩)] 197 (0, 0))).alloc (.cells #[.int .i64 0, .int .i64 0, .bool false] 202 (0, 0))) := by (refine Touch.below0 ?_; (repeat' (first | (with_reducible exact Touch.refl _ _) | (with_reducible assumption) | (with_reducible refine Touch.drew ?_) | (with_reducible refine Touch.drewN ?_ _) | (with_reducible refine Touch.alloc ?_ _) | (with_reducible refine Touch.setCell ?_ _ _ _ ?_) | (with_reducible refine Touch.step (by assumption) ?_) | (with_reducible refine Touch.stepT (by assumption) ?_ ?_) | (intro _; first | rfl | trivial | omega | (simp; done) | (simp; omega)) | (intro _ _; first | omega | (simp; done) | (simp; omega)))))
  have hB : ((w.alloc (.cells #[.pointer (some ⟨a, 0, none⟩)] 197 (0, 0))).alloc (.cells #[.int .i64 0, .int .i64 0, .bool false] 202 (0, 0))).heap[w.heap.size]? = some (.cells #[.pointer (some ⟨a, 0, none⟩)] 197 (0, 0)) := heap_alloc (heap_new _ _) _
  have hR : ((w.alloc (.cells #[.pointer (some ⟨a, 0, none⟩)] 197 (0, 0))).alloc (.cells #[.int .i64 0, .int .i64 0, .bool false] 202 (0, 0))).heap[w.heap.size + 1]? = some (.cells #[.int .i64 0, .int .i64 0, .bool false] 202 (0, 0)) := heap_new' (by simp) _
  have h1 := h.after hw0
  have WK := fun w h => tbl_walk a g m root n w h ok
  unfold roomE roomP
  generalize hwp : walkP m root n = P at *
  generalize hwe : walkE m root n = E at *
  clear hwp hwe
  obtain ⟨pf, pi, pz⟩ := P
  have FR := fun w h => tbl_free a g m pf pi fl w h ok
  unfold PlaceS.v at *
  dsimp only at *
  by_cases hE : E = 0
  · subst hE
    simp only [if_true]
    cases pz
    · simp only [Bool.false_eq_true, if_false]
      generalize freeE m pf pi fl = FE at *
      go_enter Tryz.func130, Tryz.ntmps130
      go_upto_region 6 with ((go_at_call 203; (with_reducible refine (WK _ h1).mono ?_); rintro e w' ⟨rfl, hx⟩); have hw2 := hw0.trans (hx.mono hw0.size); have hR2 := (hx.block _ (lt_of_block hR)).trans hR; have hB2 := (hx.block _ (lt_of_block hB)).trans hB; have h2 := h1.after hx)
      have hP3 : (w'.alloc (.cells #[.int .i64 pf, .int .i64 pi, .bool false] 202 (0, 0))).heap[w'.heap.size]? = some (.cells #[.int .i64 pf, .int .i64 pi, .bool false] 202 (0, 0)) := heap_new _ _
      have hR3 := heap_alloc hR2 (.cells #[.int .i64 pf, .int .i64 pi, .bool false] 202 (0, 0))
      have hB3 := heap_alloc hB2 (.cells #[.int .i64 pf, .int .i64 pi, .bool false] 202 (0, 0))
      have hw3 := hw2.alloc hw2.size (.cells #[.int .i64 pf, .int .i64 pi, .bool false] 202 (0, 0))
      have h3 := h2.after ((Below.refl _ _).alloc (Nat.le_refl _) (.cells #[.int .i64 pf, .int .i64 pi, .bool false] 202 (0, 0)))
      have hPR : w'.heap.size ≠ w.heap.size + 1 := by have := lt_of_block hR2; omega
      have hBR : w.heap.size ≠ w.heap.size + 1 := by omega
      generalize w'.alloc (.cells #[.int .i64 pf, .int .i64 pi, .bool false] 202 (0, 0)) = w3 at *
      generalize w'.heap.size = N at *
      clear hx hR2 hB2 h2 hw2 h1 hR hB hw0 WK
      have s0 := cell_of hP3 0; have s1 := cell_of hP3 1; have s2 := cell_of hP3 2; have s3 := cell_of hB3 0
      dsimp at s0 s1 s2 s3
      have lP := lt_of_block hP3; have lB := lt_of_block hB3
      have kS : ∀ y, Below w3.heap.size w3 y → y.cell? ⟨N, 0, none⟩ = some (.int .i64 pf) ∧ y.cell? ⟨N, 1, none⟩ = some (.int .i64 pi) ∧ y.cell? ⟨N, 2, none⟩ = some (.bool false) ∧ y.cell? ⟨w.heap.size, 0, none⟩ = some (.pointer (some ⟨a, 0, none⟩)) :=
        fun y h => ⟨(h.cell (p := ⟨N, 0, none⟩) lP).trans s0, (h.cell (p := ⟨N, 1, none⟩) lP).trans s1, (h.cell (p := ⟨N, 2, none⟩) lP).trans s2, (h.cell (p := ⟨w.heap.size, 0, none⟩) lB).trans s3⟩
      have d0 : Below w3.heap.size w3 w3.drew := (Below.refl _ w3).drew
      have h3d := h3.after d0
      go_region_held3 (fun y => y.cell? ⟨N, 0, none⟩ = some (.int .i64 pf) ∧ y.cell? ⟨N, 1, none⟩ = some (.int .i64 pi) ∧ y.cell? ⟨N, 2, none⟩ = some (.bool false) ∧ y.cell? ⟨w.heap.size, 0, none⟩ = some (.pointer (some ⟨a, 0, none⟩))) (first | exact kS _ d0 | (refine kS _ ?_; assumption) | (simp only [cell_drew', cell_other hPR, cell_other hBR]; refine kS _ ?_; assumption))
        (first
          | (go_at_call 127; (with_reducible refine (FR _ h3d).mono ?_); rintro e w' ⟨rfl, hx5⟩; have hB9 := d0.trans (hx5.mono d0.size); have hR8 := (hB9.block _ (lt_of_block hR3)).trans hR3; have g0 := cell_of hR8 0; have g1 := cell_of hR8 1; have g2 := cell_of hR8 2; have fr := frozen_of hR8; have lR := lt_of_block hR8; dsimp at g0 g1 g2))
      all_goals
        go_wp2
        have hw8 := hw3.trans (hB9.mono hw3.size)
        have hF := heap_set (o := 2) (heap_set (o := 1) (heap_set (o := 0) hR8 (.int .i64 pf)) (.int .i64 pi)) (.bool false)
        have hwF := ((hw8.setCell (p := ⟨w.heap.size + 1, 0, none⟩) (Nat.le_succ _) (.int .i64 pf)).setCell (p := ⟨w.heap.size + 1, 1, none⟩) (Nat.le_succ _) (.int .i64 pi)).setCell (p := ⟨w.heap.size + 1, 2, none⟩) (Nat.le_succ _) (.bool false)
        refine bodyPost_ret (v := .tuple #[.agg #[.int .i64 pf, .int .i64 pi, .bool false], .int .i64 FE]) ?_ rfl ⟨rfl, hwF⟩
        have hc := cell_of hF
        simp [results, Tryz.f130, go_sem, hc]
    · simp only [if_true]
      clear FR
      go_enter Tryz.func130, Tryz.ntmps130
      go_wp2_with ((go_at_call 203; (with_reducible refine (WK _ h1).mono ?_); rintro e w' ⟨rfl, hx⟩); have hw2 := hw0.trans (hx.mono hw0.size); have hR2 := (hx.block _ (lt_of_block hR)).trans hR; have g0 := cell_of hR2 0; have g1 := cell_of hR2 1; have g2 := cell_of hR2 2; have fr := frozen_of hR2; have lR := lt_of_block hR2; dsimp at g0 g1 g2)
      have hF := heap_set (o := 2) (heap_set (o := 1) (heap_set (o := 0) hR2 (.int .i64 0)) (.int .i64 0)) (.bool false)
      have hwF := ((hw2.setCell (p := ⟨w.heap.size + 1, 0, none⟩) (Nat.le_succ _) (.int .i64 0)).setCell (p := ⟨w.heap.size + 1, 1, none⟩) (Nat.le_succ _) (.int .i64 0)).setCell (p := ⟨w.heap.size + 1, 2, none⟩) (Nat.le_succ _) (.bool false)
      refine bodyPost_ret (v := .tuple #[PlaceS.zero.v, .int .i64 6]) ?_ rfl ⟨rfl, hwF.alloc hwF.size _⟩
      have hc2 := cell_of (heap_alloc hF (.cells #[.int .i64 pf, .int .i64 pi, .bool true] 202 (0, 0)))
      simp [results, Tryz.f130, go_sem, hc2, PlaceS.zero, PlaceS.v]
  · simp only [hE, if_false]
    have hE2 : (E == 0) = false := by simpa using hE
    clear FR
    go_enter Tryz.func130, Tryz.ntmps130
    go_wp2_with ((go_at_call 203; (with_reducible refine (WK _ h1).mono ?_); rintro e w' ⟨rfl, hx⟩); have hw2 := hw0.trans (hx.mono hw0.size); have hR2 := (hx.block _ (lt_of_block hR)).trans hR; have g0 := cell_of hR2 0; have g1 := cell_of hR2 1; have g2 := cell_of hR2 2; have fr := frozen_of hR2; have lR := lt_of_block hR2; dsimp at g0 g1 g2)
    have hF := heap_set (o := 2) (heap_set (o := 1) (heap_set (o := 0) hR2 (.int .i64 0)) (.int .i64 0)) (.bool false)
    have hwF := ((hw2.setCell (p := ⟨w.heap.size + 1, 0, none⟩) (Nat.le_succ _) (.int .i64 0)).setCell (p := ⟨w.heap.size + 1, 1, none⟩) (Nat.le_succ _) (.int .i64 0)).setCell (p := ⟨w.heap.size + 1, 2, none⟩) (Nat.le_succ _) (.bool false)
    refine bodyPost_ret (v := .tuple #[PlaceS.zero.v, .int .i64 E]) ?_ rfl ⟨rfl, hwF.alloc hwF.size _⟩
    have hc2 := cell_of (heap_alloc hF (.cells #[.int .i64 pf, .int .i64 pi, .bool pz] 202 (0, 0)))
    simp [results, Tryz.f130, go_sem, hc2, PlaceS.zero, PlaceS.v]
end Go.Proofs.YtejdfdllgobnhaaGreat
