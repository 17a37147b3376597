/- Tables of capabilities (package captbl): level, quiet, free. -/
import Derived.Test.YtejdfdllgobnhaaHeadGet
import Derived.Test.YtejdfdllgobnhaaHeldRound
set_option linter.unusedVariables false
set_option linter.unusedSimpArgs false
namespace Go.Proofs.Ytejdfdllgobnhaa
open Go.RowKit

def isT (m : MemS) (f lv : Int) : Bool := decide (hdE m f = 0) && decide ((hdC m f).k = 1) && decide ((hdC m f).lv = lv)
def quietC (c : CapS) (floor : Int) : Bool := decide (c.k = 0) || (decide (c.k = 1) && decide (c.a < floor))
def freeE (m : MemS) (f i floor : Int) : Int := if slotE m f i = 0 then (if 1 < (slotC m f i).k then 10 else if quietC (slotC m f i) floor then 0 else 6) else slotE m f i
def lvA (s0 s1 s2 s3 s4 s5 s6 s7 s8 s9 s10 s11 s12 s13 s14 s15 s16 s17 s18 s19 s20 s21 s22 s23 s24 s25 s26 s27 s28 s29 s30 : Value) : Act := { tmps := #[s0, s1, s2, s3, s4, s5, s6, s7, s8, s9, s10, s11, s12, s13, s14, s15, s16, s17, s18, s19, s20, s21, s22, s23, s24, s25, s26, s27, s28, s29, s30], defers := [] }
set_option maxHeartbeats 4000000 in
set_option maxRecDepth 100000 in
theorem tbl_level (a g : Nat) (m : MemS) (f lv : Int) (w : World) (h : MemIs w a g m) (ok : m.Ok) : Calls Try.prog 68 #[.agg #[.pointer (some ⟨a, 0, none⟩)], .int .i64 f, .int .i64 lv] w fun e w' =>
    e = .returned (.tuple #[(hdC m f).v, .bool (isT m f lv)]) ∧ Below w.heap.size w w' := by
  have hG := fun w h => head_get a g m f w h ok
  have hw0 : Below w.heap.size w ((w.alloc (.cells #[.pointer (some ⟨a, 0, none⟩)] 115 (0, 0))).alloc (.cells #[.int .i64 0, .int .i64 0, .bool false, .int .i64 0] 113 (0, 0))) := by (refine Touch.below0 ?_; (repeat' (first | (with_reducible exact Touch.refl _ _) | (with_reducible assumption) | (with_reducible refine Touch.drew ?_) | (with_reducible refine Touch.drewN ?_ _) | (with_reducible refine Touch.alloc ?_ _) | (with_reducible refine Touch.setCell ?_ _ _ _ ?_) | (with_reducible refine Touch.step (by assumption) ?_) | (with_reducible refine Touch.stepT (by assumption) ?_ ?_) | (intro _; first | rfl | trivial | omega | (simp; done) | (simp; omega)) | (intro _ _; first | omega | (simp; done) | (simp; omega)))))
  have hT : ((w.alloc (.cells #[.pointer (some ⟨a, 0, none⟩)] 115 (0, 0))).alloc (.cells #[.int .i64 0, .int .i64 0, .bool false, .int .i64 0] 113 (0, 0))).heap[w.heap.size]? = some (.cells #[.pointer (some ⟨a, 0, none⟩)] 115 (0, 0)) := heap_alloc (heap_new _ _) _
  have hR : ((w.alloc (.cells #[.pointer (some ⟨a, 0, none⟩)] 115 (0, 0))).alloc (.cells #[.int .i64 0, .int .i64 0, .bool false, .int .i64 0] 113 (0, 0))).heap[w.heap.size + 1]? = some (.cells #[.int .i64 0, .int .i64 0, .bool false, .int .i64 0] 113 (0, 0)) := heap_new' (by simp) _
  have h1 := h.after hw0
  unfold isT
  generalize hdC m f = C at *
  generalize hdE m f = E at *
  obtain ⟨k, l, fz, tm⟩ := C
  unfold HeadS.v at *
  dsimp only at *
  go_enter Try.func68, Try.ntmps68
  go_upto_region 2 with ((go_at_call 77; (with_reducible refine (hG _ h1).mono ?_); rintro e w' ⟨rfl, hx⟩); have hR2 := (hx.block _ (lt_of_block hR)).trans hR; have hw2 := hw0.trans (hx.mono hw0.size))
  have hR3 : (w'.alloc (.cells #[.int .i64 k, .int .i64 l, .bool fz, .int .i64 tm] 113 (0, 0))).heap[w.heap.size + 1]? = some (.cells #[.int .i64 0, .int .i64 0, .bool false, .int .i64 0] 113 (0, 0)) := heap_alloc hR2 _
  have hC : (w'.alloc (.cells #[.int .i64 k, .int .i64 l, .bool fz, .int .i64 tm] 113 (0, 0))).heap[w'.heap.size]? = some (.cells #[.int .i64 k, .int .i64 l, .bool fz, .int .i64 tm] 113 (0, 0)) := heap_new _ _
  have hw3 := hw2.alloc hw2.size (.cells #[.int .i64 k, .int .i64 l, .bool fz, .int .i64 tm] 113 (0, 0))
  have hCR : w'.heap.size ≠ w.heap.size + 1 := by have := lt_of_block hR2; omega
  generalize w'.alloc (.cells #[.int .i64 k, .int .i64 l, .bool fz, .int .i64 tm] 113 (0, 0)) = w3 at *
  generalize w'.heap.size = N at *
  clear hR2 hw2 hx hR hT hw0 h1 hG
  have g0 := cell_of hR3 0; have g1 := cell_of hR3 1; have g2 := cell_of hR3 2; have g3 := cell_of hR3 3; have fr := frozen_of hR3; dsimp at g0 g1 g2 g3
  have s0 := cell_of hC 0; have s1 := cell_of hC 1; have s2 := cell_of hC 2; have s3 := cell_of hC 3
  dsimp at s0 s1 s2 s3
  have fin : ∀ v, Below w.heap.size w ((((w3.setCell ⟨w.heap.size + 1, 0, none⟩ (.int .i64 k)).setCell ⟨w.heap.size + 1, 1, none⟩ (.int .i64 l)).setCell ⟨w.heap.size + 1, 2, none⟩ (.bool fz)).setCell ⟨w.heap.size + 1, 3, none⟩ v) := fun v =>
    (((hw3.setCell (p := ⟨w.heap.size + 1, 0, none⟩) (Nat.le_succ _) _).setCell (p := ⟨w.heap.size + 1, 1, none⟩) (Nat.le_succ _) _).setCell (p := ⟨w.heap.size + 1, 2, none⟩) (Nat.le_succ _) _).setCell (p := ⟨w.heap.size + 1, 3, none⟩) (Nat.le_succ _) _
  have hF := heap_set (o := 3) (heap_set (o := 2) (heap_set (o := 1) (heap_set (o := 0) hR3 (.int .i64 k)) (.int .i64 l)) (.bool fz)) (.int .i64 tm)
  have hcs := cell_of hF
  by_cases hE : E = 0
  · subst hE
    by_cases hk : k = 1
    · subst hk
      go_region_held3 (fun y => y.cell? ⟨N, 0, none⟩ = some (.int .i64 1) ∧ y.cell? ⟨N, 1, none⟩ = some (.int .i64 l) ∧ y.cell? ⟨N, 2, none⟩ = some (.bool fz) ∧ y.cell? ⟨N, 3, none⟩ = some (.int .i64 tm)) (first | exact ⟨s0, s1, s2, s3⟩ | (simp only [cell_drew', cell_other hCR]; exact ⟨s0, s1, s2, s3⟩)) (fail)
      all_goals
        go_wp2
        refine bodyPost_ret (v := .tuple #[.agg #[.int .i64 1, .int .i64 l, .bool fz, .int .i64 tm], .bool (decide (l = lv))]) ?_ rfl ⟨by simp, (fin _).drew⟩
        simp [results, Try.f68, go_sem, hcs]
        try rfl
    · have hk2 : (k == 1) = false := by simpa using hk
      obtain ⟨S, hSS⟩ : ∃ S : World → Prop, S = (fun y => y.cell? ⟨N, 0, none⟩ = some (.int .i64 k) ∧ y.cell? ⟨N, 1, none⟩ = some (.int .i64 l) ∧ y.cell? ⟨N, 2, none⟩ = some (.bool fz) ∧ y.cell? ⟨N, 3, none⟩ = some (.int .i64 tm)) := ⟨_, rfl⟩
      have hS : S w3.drew := by rw [hSS]; exact ⟨s0, s1, s2, s3⟩
      have hS4 : S ((((w3.drew.setCell ⟨w.heap.size + 1, 0, none⟩ (.int .i64 k)).setCell ⟨w.heap.size + 1, 1, none⟩ (.int .i64 l)).setCell ⟨w.heap.size + 1, 2, none⟩ (.bool fz)).setCell ⟨w.heap.size + 1, 3, none⟩ (.int .i64 tm)) := by rw [hSS]; simp only [cell_other hCR]; exact ⟨s0, s1, s2, s3⟩
      refine (wpIn_wide (n := 0)).1 (region_held_round S (by kernel_rfl) ?_)
      show anyS _ _ _ _ _ _ _ _ _ (lvA _ _ _ _ _ _ _ _ _ _ _ _ _ _ _ _ _ _ _ _ _ _ _ _ _ _ _ _ _ _ _) _
      refine anyS_take (v := ?_) 0 rfl (by kernel_rfl) (by kernel_rfl) (by kernel_rfl) (by kernel_rfl) (fun _ _ _ h => h) ⟨fun _ => rfl, Or.inl ⟨by rfl, fun w' hS' => ?_⟩⟩ hS ?_
      rotate_left
      · rw [hSS] at hS'; obtain ⟨z0, z1, z2, z3⟩ := hS'; simp only [lvA]
        go_simp
        try rfl
      show anyS _ _ _ _ _ _ _ _ _ (lvA _ _ _ _ _ _ _ _ _ _ _ _ _ _ _ _ _ _ _ _ _ _ _ _ _ _ _ _ _ _ _) _
      refine anyS_take (v := ?_) 1 rfl (by kernel_rfl) (by kernel_rfl) (by kernel_rfl) (by kernel_rfl) (fun _ _ _ h => h) ⟨fun _ => rfl, Or.inl ⟨by rfl, fun w' hS' => ?_⟩⟩ hS ?_
      rotate_left
      · rw [hSS] at hS'; obtain ⟨z0, z1, z2, z3⟩ := hS'; simp only [lvA]
        go_simp
        try rfl
      show anyS _ _ _ _ _ _ _ _ _ (lvA _ _ _ _ _ _ _ _ _ _ _ _ _ _ _ _ _ _ _ _ _ _ _ _ _ _ _ _ _ _ _) _
      refine anyS_take (v := ?_) 2 rfl (by kernel_rfl) (by kernel_rfl) (by kernel_rfl) (by kernel_rfl) (fun _ _ _ h => h) ⟨fun _ => rfl, Or.inl ⟨by rfl, fun w' hS' => ?_⟩⟩ hS ?_
      rotate_left
      · rw [hSS] at hS'; obtain ⟨z0, z1, z2, z3⟩ := hS'; simp only [lvA]
        go_simp
        try rfl
      show anyS _ _ _ _ _ _ _ _ _ (lvA _ _ _ _ _ _ _ _ _ _ _ _ _ _ _ _ _ _ _ _ _ _ _ _ _ _ _ _ _ _ _) _
      refine anyS_take (v := ?_) 3 rfl (by kernel_rfl) (by kernel_rfl) (by kernel_rfl) (by kernel_rfl) (fun _ _ _ h => h) ⟨fun _ => rfl, Or.inl ⟨by rfl, fun w' hS' => ?_⟩⟩ hS ?_
      rotate_left
      · rw [hSS] at hS'; obtain ⟨z0, z1, z2, z3⟩ := hS'; simp only [lvA]
        go_simp
        try rfl
      show anyS _ _ _ _ _ _ _ _ _ (lvA _ _ _ _ _ _ _ _ _ _ _ _ _ _ _ _ _ _ _ _ _ _ _ _ _ _ _ _ _ _ _) _
      refine anyS_take (v := ?_) 4 rfl (by kernel_rfl) (by kernel_rfl) (by kernel_rfl) (by kernel_rfl) (fun _ _ _ h => h) ⟨fun _ => rfl, Or.inl ⟨by rfl, fun w' hS' => ?_⟩⟩ hS ?_
      rotate_left
      · rw [hSS] at hS'; obtain ⟨z0, z1, z2, z3⟩ := hS'; simp only [lvA]
        go_simp
        try rfl
      show anyS _ _ _ _ _ _ _ _ _ (lvA _ _ _ _ _ _ _ _ _ _ _ _ _ _ _ _ _ _ _ _ _ _ _ _ _ _ _ _ _ _ _) _
      refine anyS_take (v := ?_) 5 rfl (by kernel_rfl) (by kernel_rfl) (by kernel_rfl) (by kernel_rfl) (fun _ _ _ h => h) ⟨fun _ => rfl, Or.inl ⟨by rfl, fun w' hS' => ?_⟩⟩ hS ?_
      rotate_left
      · rw [hSS] at hS'; obtain ⟨z0, z1, z2, z3⟩ := hS'; simp only [lvA]
        go_simp
        try rfl
      show anyS _ _ _ _ _ _ _ _ _ (lvA _ _ _ _ _ _ _ _ _ _ _ _ _ _ _ _ _ _ _ _ _ _ _ _ _ _ _ _ _ _ _) _
      refine anyS_take (v := ?_) 6 rfl (by kernel_rfl) (by kernel_rfl) (by kernel_rfl) (by kernel_rfl) (fun _ _ _ h => h) ⟨fun _ => rfl, Or.inl ⟨by rfl, fun w' hS' => ?_⟩⟩ hS ?_
      rotate_left
      · rw [hSS] at hS'; obtain ⟨z0, z1, z2, z3⟩ := hS'; simp only [lvA]
        go_simp
        try rfl
      show anyS _ _ _ _ _ _ _ _ _ (lvA _ _ _ _ _ _ _ _ _ _ _ _ _ _ _ _ _ _ _ _ _ _ _ _ _ _ _ _ _ _ _) _
      refine anyS_take (v := ?_) 7 rfl (by kernel_rfl) (by kernel_rfl) (by kernel_rfl) (by kernel_rfl) (fun _ _ _ h => h) ⟨fun _ => rfl, Or.inl ⟨by rfl, fun w' hS' => ?_⟩⟩ hS ?_
      rotate_left
      · rw [hSS] at hS'; obtain ⟨z0, z1, z2, z3⟩ := hS'; simp only [lvA]
        go_simp
        try rfl
      show anyS _ _ _ _ _ _ _ _ _ (lvA _ _ _ _ _ _ _ _ _ _ _ _ _ _ _ _ _ _ _ _ _ _ _ _ _ _ _ _ _ _ _) _
      refine anyS_take (v := ?_) 8 rfl (by kernel_rfl) (by kernel_rfl) (by kernel_rfl) (by kernel_rfl) (fun _ _ _ h => h) ⟨fun _ => rfl, Or.inl ⟨by rfl, fun w' hS' => ?_⟩⟩ hS ?_
      rotate_left
      · rw [hSS] at hS'; obtain ⟨z0, z1, z2, z3⟩ := hS'; simp only [lvA]
        go_simp
        try rfl
      show anyS _ _ _ _ _ _ _ _ _ (lvA _ _ _ _ _ _ _ _ _ _ _ _ _ _ _ _ _ _ _ _ _ _ _ _ _ _ _ _ _ _ _) _
      refine anyS_take (v := undef) 9 rfl (by kernel_rfl) (by kernel_rfl) (by kernel_rfl) (by kernel_rfl) (fun _ _ _ h => h) ⟨fun _ => rfl, Or.inr ⟨by rfl, rfl⟩⟩ hS ?_
      show anyS _ _ _ _ _ _ _ _ _ (lvA _ _ _ _ _ _ _ _ _ _ _ _ _ _ _ _ _ _ _ _ _ _ _ _ _ _ _ _ _ _ _) _
      refine anyS_take (v := undef) 10 rfl (by kernel_rfl) (by kernel_rfl) (by kernel_rfl) (by kernel_rfl) (fun _ _ _ h => h) ⟨fun _ => rfl, Or.inr ⟨by rfl, rfl⟩⟩ hS ?_
      show anyS _ _ _ _ _ _ _ _ _ (lvA _ _ _ _ _ _ _ _ _ _ _ _ _ _ _ _ _ _ _ _ _ _ _ _ _ _ _ _ _ _ _) _
      refine anyS_take (v := undef) 11 rfl (by kernel_rfl) (by kernel_rfl) (by kernel_rfl) (by kernel_rfl) (fun _ _ _ h => h) ⟨fun _ => rfl, Or.inr ⟨by rfl, rfl⟩⟩ hS ?_
      show anyS _ _ _ _ _ _ _ _ _ (lvA _ _ _ _ _ _ _ _ _ _ _ _ _ _ _ _ _ _ _ _ _ _ _ _ _ _ _ _ _ _ _) _
      refine anyS_take (v := undef) 12 rfl (by kernel_rfl) (by kernel_rfl) (by kernel_rfl) (by kernel_rfl) (fun _ _ _ h => h) ⟨fun _ => rfl, Or.inr ⟨by rfl, rfl⟩⟩ hS ?_
      show anyS _ _ _ _ _ _ _ _ _ (lvA _ _ _ _ _ _ _ _ _ _ _ _ _ _ _ _ _ _ _ _ _ _ _ _ _ _ _ _ _ _ _) _
      refine anyS_take (v := ?_) 13 rfl (by kernel_rfl) (by kernel_rfl) (by kernel_rfl) (by kernel_rfl) (fun _ _ _ h => h) ⟨fun _ => rfl, Or.inl ⟨by rfl, fun w' hS' => ?_⟩⟩ hS ?_
      rotate_left
      · rw [hSS] at hS'; obtain ⟨z0, z1, z2, z3⟩ := hS'; simp only [lvA]
        go_simp
        try rfl
      show anyS _ _ _ _ _ _ _ _ _ (lvA _ _ _ _ _ _ _ _ _ _ _ _ _ _ _ _ _ _ _ _ _ _ _ _ _ _ _ _ _ _ _) _
      refine anyS_all [14] (by kernel_rfl) (by decide) (fun i hi => ?_)
      obtain rfl := List.mem_singleton.1 hi
      refine op_skip (w' := (((w3.drew.setCell ⟨w.heap.size + 1, 0, none⟩ (.int .i64 k)).setCell ⟨w.heap.size + 1, 1, none⟩ (.int .i64 l)).setCell ⟨w.heap.size + 1, 2, none⟩ (.bool fz)).setCell ⟨w.heap.size + 1, 3, none⟩ (.int .i64 tm)) rfl (by kernel_rfl) (by rfl) rfl (by simp only [lvA]; go_simp) ⟨hS4, ?_⟩
      show anyS _ _ _ _ _ _ _ _ _ (lvA _ _ _ _ _ _ _ _ _ _ _ _ _ _ _ _ _ _ _ _ _ _ _ _ _ _ _ _ _ _ _) _
      have hS := hS4
      refine anyS_take (v := ?_) 15 rfl (by kernel_rfl) (by kernel_rfl) (by kernel_rfl) (by kernel_rfl) (fun _ _ _ h => h) ⟨fun _ => rfl, Or.inl ⟨by rfl, fun w' hS' => ?_⟩⟩ hS ?_
      rotate_left
      · rw [hSS] at hS'; obtain ⟨z0, z1, z2, z3⟩ := hS'; simp only [lvA]
        go_simp
        try rfl
      show anyS _ _ _ _ _ _ _ _ _ (lvA _ _ _ _ _ _ _ _ _ _ _ _ _ _ _ _ _ _ _ _ _ _ _ _ _ _ _ _ _ _ _) _
      refine anyS_done (by kernel_rfl) ?_ _
      simp only [OnNormal, lvA]

      go_wp2
      refine bodyPost_ret (v := .tuple #[.agg #[.int .i64 k, .int .i64 l, .bool fz, .int .i64 tm], .bool false]) ?_ rfl ⟨by simp [hk], (fin _).drew⟩
      simp [results, Try.f68, go_sem, hcs]
  · have hE2 : (E == 0) = false := by simpa using hE
    obtain ⟨S, hSS⟩ : ∃ S : World → Prop, S = (fun y => y.cell? ⟨N, 0, none⟩ = some (.int .i64 k) ∧ y.cell? ⟨N, 1, none⟩ = some (.int .i64 l) ∧ y.cell? ⟨N, 2, none⟩ = some (.bool fz) ∧ y.cell? ⟨N, 3, none⟩ = some (.int .i64 tm)) := ⟨_, rfl⟩
    have hS : S w3.drew := by rw [hSS]; exact ⟨s0, s1, s2, s3⟩
    have hS4 : S ((((w3.drew.setCell ⟨w.heap.size + 1, 0, none⟩ (.int .i64 k)).setCell ⟨w.heap.size + 1, 1, none⟩ (.int .i64 l)).setCell ⟨w.heap.size + 1, 2, none⟩ (.bool fz)).setCell ⟨w.heap.size + 1, 3, none⟩ (.int .i64 tm)) := by rw [hSS]; simp only [cell_other hCR]; exact ⟨s0, s1, s2, s3⟩
    refine (wpIn_wide (n := 0)).1 (region_held_round S (by kernel_rfl) ?_)
    show anyS _ _ _ _ _ _ _ _ _ (lvA _ _ _ _ _ _ _ _ _ _ _ _ _ _ _ _ _ _ _ _ _ _ _ _ _ _ _ _ _ _ _) _
    refine anyS_take (v := ?_) 0 rfl (by kernel_rfl) (by kernel_rfl) (by kernel_rfl) (by kernel_rfl) (fun _ _ _ h => h) ⟨fun _ => rfl, Or.inl ⟨by rfl, fun w' hS' => ?_⟩⟩ hS ?_
    rotate_left
    · rw [hSS] at hS'; obtain ⟨z0, z1, z2, z3⟩ := hS'; simp only [lvA]
      go_simp
      try rfl
    show anyS _ _ _ _ _ _ _ _ _ (lvA _ _ _ _ _ _ _ _ _ _ _ _ _ _ _ _ _ _ _ _ _ _ _ _ _ _ _ _ _ _ _) _
    refine anyS_take (v := ?_) 1 rfl (by kernel_rfl) (by kernel_rfl) (by kernel_rfl) (by kernel_rfl) (fun _ _ _ h => h) ⟨fun _ => rfl, Or.inl ⟨by rfl, fun w' hS' => ?_⟩⟩ hS ?_
    rotate_left
    · rw [hSS] at hS'; obtain ⟨z0, z1, z2, z3⟩ := hS'; simp only [lvA]
      go_simp
      try rfl
    show anyS _ _ _ _ _ _ _ _ _ (lvA _ _ _ _ _ _ _ _ _ _ _ _ _ _ _ _ _ _ _ _ _ _ _ _ _ _ _ _ _ _ _) _
    refine anyS_take (v := ?_) 2 rfl (by kernel_rfl) (by kernel_rfl) (by kernel_rfl) (by kernel_rfl) (fun _ _ _ h => h) ⟨fun _ => rfl, Or.inl ⟨by rfl, fun w' hS' => ?_⟩⟩ hS ?_
    rotate_left
    · rw [hSS] at hS'; obtain ⟨z0, z1, z2, z3⟩ := hS'; simp only [lvA]
      go_simp
      try rfl
    show anyS _ _ _ _ _ _ _ _ _ (lvA _ _ _ _ _ _ _ _ _ _ _ _ _ _ _ _ _ _ _ _ _ _ _ _ _ _ _ _ _ _ _) _
    refine anyS_take (v := ?_) 3 rfl (by kernel_rfl) (by kernel_rfl) (by kernel_rfl) (by kernel_rfl) (fun _ _ _ h => h) ⟨fun _ => rfl, Or.inl ⟨by rfl, fun w' hS' => ?_⟩⟩ hS ?_
    rotate_left
    · rw [hSS] at hS'; obtain ⟨z0, z1, z2, z3⟩ := hS'; simp only [lvA]
      go_simp
      try rfl
    show anyS _ _ _ _ _ _ _ _ _ (lvA _ _ _ _ _ _ _ _ _ _ _ _ _ _ _ _ _ _ _ _ _ _ _ _ _ _ _ _ _ _ _) _
    refine anyS_take (v := undef) 4 rfl (by kernel_rfl) (by kernel_rfl) (by kernel_rfl) (by kernel_rfl) (fun _ _ _ h => h) ⟨fun _ => rfl, Or.inr ⟨by rfl, rfl⟩⟩ hS ?_
    show anyS _ _ _ _ _ _ _ _ _ (lvA _ _ _ _ _ _ _ _ _ _ _ _ _ _ _ _ _ _ _ _ _ _ _ _ _ _ _ _ _ _ _) _
    refine anyS_take (v := undef) 5 rfl (by kernel_rfl) (by kernel_rfl) (by kernel_rfl) (by kernel_rfl) (fun _ _ _ h => h) ⟨fun _ => rfl, Or.inr ⟨by rfl, rfl⟩⟩ hS ?_
    show anyS _ _ _ _ _ _ _ _ _ (lvA _ _ _ _ _ _ _ _ _ _ _ _ _ _ _ _ _ _ _ _ _ _ _ _ _ _ _ _ _ _ _) _
    refine anyS_take (v := undef) 6 rfl (by kernel_rfl) (by kernel_rfl) (by kernel_rfl) (by kernel_rfl) (fun _ _ _ h => h) ⟨fun _ => rfl, Or.inr ⟨by rfl, rfl⟩⟩ hS ?_
    show anyS _ _ _ _ _ _ _ _ _ (lvA _ _ _ _ _ _ _ _ _ _ _ _ _ _ _ _ _ _ _ _ _ _ _ _ _ _ _ _ _ _ _) _
    refine anyS_take (v := ?_) 7 rfl (by kernel_rfl) (by kernel_rfl) (by kernel_rfl) (by kernel_rfl) (fun _ _ _ h => h) ⟨fun _ => rfl, Or.inl ⟨by rfl, fun w' hS' => ?_⟩⟩ hS ?_
    rotate_left
    · rw [hSS] at hS'; obtain ⟨z0, z1, z2, z3⟩ := hS'; simp only [lvA]
      go_simp
      try rfl
    show anyS _ _ _ _ _ _ _ _ _ (lvA _ _ _ _ _ _ _ _ _ _ _ _ _ _ _ _ _ _ _ _ _ _ _ _ _ _ _ _ _ _ _) _
    refine anyS_take (v := ?_) 8 rfl (by kernel_rfl) (by kernel_rfl) (by kernel_rfl) (by kernel_rfl) (fun _ _ _ h => h) ⟨fun _ => rfl, Or.inl ⟨by rfl, fun w' hS' => ?_⟩⟩ hS ?_
    rotate_left
    · rw [hSS] at hS'; obtain ⟨z0, z1, z2, z3⟩ := hS'; simp only [lvA]
      go_simp
      try rfl
    show anyS _ _ _ _ _ _ _ _ _ (lvA _ _ _ _ _ _ _ _ _ _ _ _ _ _ _ _ _ _ _ _ _ _ _ _ _ _ _ _ _ _ _) _
    refine anyS_take (v := undef) 9 rfl (by kernel_rfl) (by kernel_rfl) (by kernel_rfl) (by kernel_rfl) (fun _ _ _ h => h) ⟨fun _ => rfl, Or.inr ⟨by rfl, rfl⟩⟩ hS ?_
    show anyS _ _ _ _ _ _ _ _ _ (lvA _ _ _ _ _ _ _ _ _ _ _ _ _ _ _ _ _ _ _ _ _ _ _ _ _ _ _ _ _ _ _) _
    refine anyS_take (v := undef) 10 rfl (by kernel_rfl) (by kernel_rfl) (by kernel_rfl) (by kernel_rfl) (fun _ _ _ h => h) ⟨fun _ => rfl, Or.inr ⟨by rfl, rfl⟩⟩ hS ?_
    show anyS _ _ _ _ _ _ _ _ _ (lvA _ _ _ _ _ _ _ _ _ _ _ _ _ _ _ _ _ _ _ _ _ _ _ _ _ _ _ _ _ _ _) _
    refine anyS_take (v := undef) 11 rfl (by kernel_rfl) (by kernel_rfl) (by kernel_rfl) (by kernel_rfl) (fun _ _ _ h => h) ⟨fun _ => rfl, Or.inr ⟨by rfl, rfl⟩⟩ hS ?_
    show anyS _ _ _ _ _ _ _ _ _ (lvA _ _ _ _ _ _ _ _ _ _ _ _ _ _ _ _ _ _ _ _ _ _ _ _ _ _ _ _ _ _ _) _
    refine anyS_take (v := undef) 12 rfl (by kernel_rfl) (by kernel_rfl) (by kernel_rfl) (by kernel_rfl) (fun _ _ _ h => h) ⟨fun _ => rfl, Or.inr ⟨by rfl, rfl⟩⟩ hS ?_
    show anyS _ _ _ _ _ _ _ _ _ (lvA _ _ _ _ _ _ _ _ _ _ _ _ _ _ _ _ _ _ _ _ _ _ _ _ _ _ _ _ _ _ _) _
    refine anyS_take (v := ?_) 13 rfl (by kernel_rfl) (by kernel_rfl) (by kernel_rfl) (by kernel_rfl) (fun _ _ _ h => h) ⟨fun _ => rfl, Or.inl ⟨by rfl, fun w' hS' => ?_⟩⟩ hS ?_
    rotate_left
    · rw [hSS] at hS'; obtain ⟨z0, z1, z2, z3⟩ := hS'; simp only [lvA]
      go_simp
      try rfl
    show anyS _ _ _ _ _ _ _ _ _ (lvA _ _ _ _ _ _ _ _ _ _ _ _ _ _ _ _ _ _ _ _ _ _ _ _ _ _ _ _ _ _ _) _
    refine anyS_all [14] (by kernel_rfl) (by decide) (fun i hi => ?_)
    obtain rfl := List.mem_singleton.1 hi
    refine op_skip (w' := (((w3.drew.setCell ⟨w.heap.size + 1, 0, none⟩ (.int .i64 k)).setCell ⟨w.heap.size + 1, 1, none⟩ (.int .i64 l)).setCell ⟨w.heap.size + 1, 2, none⟩ (.bool fz)).setCell ⟨w.heap.size + 1, 3, none⟩ (.int .i64 tm)) rfl (by kernel_rfl) (by rfl) rfl (by simp only [lvA]; go_simp) ⟨hS4, ?_⟩
    show anyS _ _ _ _ _ _ _ _ _ (lvA _ _ _ _ _ _ _ _ _ _ _ _ _ _ _ _ _ _ _ _ _ _ _ _ _ _ _ _ _ _ _) _
    have hS := hS4
    refine anyS_take (v := ?_) 15 rfl (by kernel_rfl) (by kernel_rfl) (by kernel_rfl) (by kernel_rfl) (fun _ _ _ h => h) ⟨fun _ => rfl, Or.inl ⟨by rfl, fun w' hS' => ?_⟩⟩ hS ?_
    rotate_left
    · rw [hSS] at hS'; obtain ⟨z0, z1, z2, z3⟩ := hS'; simp only [lvA]
      go_simp
      try rfl
    show anyS _ _ _ _ _ _ _ _ _ (lvA _ _ _ _ _ _ _ _ _ _ _ _ _ _ _ _ _ _ _ _ _ _ _ _ _ _ _ _ _ _ _) _
    refine anyS_done (by kernel_rfl) ?_ _
    simp only [OnNormal, lvA]

    go_wp2
    refine bodyPost_ret (v := .tuple #[.agg #[.int .i64 k, .int .i64 l, .bool fz, .int .i64 tm], .bool false]) ?_ rfl ⟨by simp [hE], (fin _).drew⟩
    simp [results, Try.f68, go_sem, hcs]
end Go.Proofs.Ytejdfdllgobnhaa
