/- FindMem: the walk of the law. -/
import Derived.Test.YtejdfdllgobnhaaGreatFindMP
import Derived.Test.YtejdfdllgobnhaaGreatFindA
import Derived.Test.YtejdfdllgobnhaaGreatSix
set_option linter.unusedVariables false
set_option linter.unusedSimpArgs false
namespace Go.Proofs.YtejdfdllgobnhaaGreat
open Go.RowKit Go.OpenShut
set_option maxHeartbeats 4000000 in
set_option maxRecDepth 100000 in
theorem findMem_walk (x0 x1 x2 x3 x4 x5 r f : Int) (w : World)
    (wx0 : (Lit.int .i64 x0).wf = true) (wx1 : (Lit.int .i64 x1).wf = true) (wx2 : (Lit.int .i64 x2).wf = true) (wx3 : (Lit.int .i64 x3).wf = true) (wx4 : (Lit.int .i64 x4).wf = true) (wx5 : (Lit.int .i64 x5).wf = true)
    (wr : (Lit.int .i64 r).wf = true) (wf : (Lit.int .i64 f).wf = true) :
    Calls Tryz.prog 7 #[.agg #[.int .i64 x0, .int .i64 x1, .int .i64 x2, .int .i64 x3, .int .i64 x4, .int .i64 x5], .int .i64 r, .int .i64 f] w
      fun e w' => e = .returned (.bool true) ∧ Below w.heap.size w w' := by
  have P8 : ∀ w, Calls Tryz.prog 28 #[.int .i64 8] w _ := fun w => pair26 8 w (by decide) (by decide)
  have br := bounds_i64 wr
  have AW := awake26
  go_enter Tryz.func7, Tryz.ntmps7
  go_upto_region 2 with ((go_at_call 28; (with_reducible refine (P8 _).mono ?_); rintro e w' ⟨B, v, rfl, hM, hown, hb⟩))
  have hB0 : Below w.heap.size w (w.alloc (.cells #[.int .i64 x0, .int .i64 x1, .int .i64 x2, .int .i64 x3, .int .i64 x4, .int .i64 x5] 32 (0, 0))) := by (refine Touch.below0 ?_; (repeat' (first | (with_reducible exact Touch.refl _ _) | (with_reducible assumption) | (with_reducible refine Touch.drew ?_) | (with_reducible refine Touch.drewN ?_ _) | (with_reducible refine Touch.alloc ?_ _) | (with_reducible refine Touch.setCell ?_ _ _ _ ?_) | (with_reducible refine Touch.step (by assumption) ?_) | (with_reducible refine Touch.stepT (by assumption) ?_ ?_) | (intro _; first | rfl | trivial | omega | (simp; done) | (simp; omega)) | (intro _ _; first | omega | (simp; done) | (simp; omega)))))
  have hX0 := heap_new w (.cells #[.int .i64 x0, .int .i64 x1, .int .i64 x2, .int .i64 x3, .int .i64 x4, .int .i64 x5] 32 (0, 0))
  have hX := (hb.block _ (lt_of_block hX0)).trans hX0
  have hW := hB0.trans (hb.mono hB0.size)
  have hg2 : w.heap.size + 1 ≤ B.mg := by have := hown _ (.inl rfl); simpa using this
  have okM := PM_ok (F := 8) (by decide) (by decide)
  clear hb hown hX0 hB0 P8
  have ok3 := ((M2_tab (n := 8) (by omega) (by omega)).cons (hi := 0) (by omega) (by omega) rfl 0).2.ok
  have MK0 := make0 (n := 8) (by omega) (by omega) B.mb B.mg
  have MK1 := make1 (n := 8) (by omega) (by omega) B.mb B.mg
  have CN := cons_at (n := 8) (by omega) (by omega) (hi := 0) (by omega) (by omega) B.mb B.mg
  have LAW := fun m4 => findMem_law ⟨x0, x1, x2, x3, x4, x5⟩ (r := r) (f := f) (m3 := (M2 8).cons 0 0 1 0) (m4 := m4)
  have hm : MemIs w' B.mb B.mg ⟨8, fun _ _ => 0⟩ := hM.mach.mem
  generalize PM 8 = M0 at *
  generalize (M2 8).cons 0 0 1 0 = m3 at *
  generalize M2 8 = m2 at *
  generalize (⟨8, fun _ _ => 0⟩ : MemS).make 0 ⟨1, 0, false, 0⟩ = m1 at *
  generalize (⟨8, fun _ _ => 0⟩ : MemS) = m0 at *
  replace LAW := LAW _ rfl rfl
  have PX := fun w h => tbl_put B.mb B.mg m3 0 5 0 ⟨x0, x1, x2, x3, x4, x5⟩ w h ok3
  have ok4 := MemS.tput_ok ok3 0 5 ⟨x0, x1, x2, x3, x4, x5⟩ 0
  generalize m3.tput 0 5 ⟨x0, x1, x2, x3, x4, x5⟩ 0 = m4 at *
  unfold CapS.v at PX
  dsimp only at PX
  have hT : Touch (· = B.mg) w' w' := Touch.refl _ _
  obtain ⟨w1, hw1⟩ : ∃ x : World, x = w' := ⟨_, rfl⟩
  subst hw1
  go_upto_region 7 with (first
    | ((go_at_call 30; (with_reducible refine (mach_mem _ _ _ (hM.mach.setmem hT hm)).mono ?_); rintro e w' ⟨rfl, rfl⟩))
    | ((go_at_call 29; (with_reducible refine (MK0 _ hm).mono ?_); rintro e w' ⟨rfl, hm, ht⟩); have hT := hT.trans ht)
    | ((go_at_call 29; (with_reducible refine (MK1 _ hm).mono ?_); rintro e w' ⟨rfl, hm, ht⟩); have hT := hT.trans ht)
    | ((go_at_call 31; (with_reducible refine (CN _ hm).mono ?_); rintro e w' ⟨rfl, hm, ht⟩); have hT := hT.trans ht))
  have nX : ¬ w.heap.size = B.mg := by omega
  have aX := hT.at hX nX
  have hMM := hM.mach.setmem hT hm
  have hMD := hMM.after ((Below.refl w'.heap.size w').drew)
  have hmD := hm.after ((Below.refl w'.heap.size w').drew)
  have gx0 := cell_of aX 0; have gx1 := cell_of aX 1; have gx2 := cell_of aX 2; have gx3 := cell_of aX 3; have gx4 := cell_of aX 4; have gx5 := cell_of aX 5; dsimp at gx0 gx1 gx2 gx3 gx4 gx5
  by_cases hE : tputE m3 0 5 ⟨x0, x1, x2, x3, x4, x5⟩ 0 = 0
  rotate_left
  · clear LAW
    generalize tputE m3 0 5 ⟨x0, x1, x2, x3, x4, x5⟩ 0 = EX at *
    have hE2 : (EX == 0) = false := by simpa using hE
    have hE3 : (EX != 0) = true := by simpa using hE
    obtain ⟨w7, hw7⟩ : ∃ x : World, x = w' := ⟨_, rfl⟩
    subst hw7
    go_region_law (first
      | (go_simp; (go_at_call 30; (with_reducible refine (mach_mem _ _ _ hMD).mono ?_); rintro e w' ⟨rfl, rfl⟩))
      | (go_simp; (go_at_call 32; (with_reducible refine (PX _ hmD).mono ?_); rintro e w' ⟨rfl, hm9, ht9⟩)))
    all_goals
      have hT9 := hT.trans (((Touch.refl (· = B.mg) w7).drew).trans ht9)
      have hB9 := keepB hW (by omega) hT9
      go_wp2_with ((go_at_call 27; (with_reducible refine (AW _).mono ?_); rintro e w' ⟨rfl, hx⟩))
      go_ret
      exact ⟨rfl, hB9.trans (hx.mono hB9.size)⟩
  rw [hE] at PX
  obtain ⟨xr, HE⟩ := LAW hE LiveS.zero { M0 with mem := m4 } rfl (by omega) (by omega)
  obtain ⟨-, -, ⟨t0, t1⟩, -, -, ⟨a0, a1⟩⟩ := CapS.sized_b (CapS.right_sized xr)
  dsimp only at HE t0 t1 a0 a1
  clear LAW xr hE
  obtain ⟨w7, hw7⟩ : ∃ x : World, x = w' := ⟨_, rfl⟩
  subst hw7
  go_cut [30] (fun t wr => t = .bool false ∧ MemIs wr B.mb B.mg m4 ∧ Touch (· = B.mg) w1 wr)
  case first =>
    go_region_law (first
      | (go_simp; (go_at_call 30; (with_reducible refine (mach_mem _ _ _ hMD).mono ?_); rintro e w' ⟨rfl, rfl⟩))
      | (go_simp; (go_at_call 32; (with_reducible refine (PX _ hmD).mono ?_); rintro e w' ⟨rfl, hm9, ht9⟩)))
    all_goals
      go_wp2
      go_meet
      exact ⟨rfl, hm9, hT.trans (((Touch.refl (· = B.mg) w7).drew).trans ht9)⟩
  case rest =>
    obtain ⟨rfl, hm, hT⟩ := hcut
    have hL : MachL wc B { M0 with mem := m4 } LiveS.zero := hM.setmem hm hT
    have FM := fun w h => f_mem B { M0 with mem := m4 } LiveS.zero 0 5 r f w h (Mach.mem_ok okM ok4)
    rw [HE] at FM
    clear HE MK0 MK1 CN PX ok3 ok4 hMD hmD hMM gx0 gx1 gx2 gx3 gx4 gx5
    have hB := keepB hW (by omega) hT
    have aX := hT.at hX nX
    have gx0 := cell_of aX 0; have gx1 := cell_of aX 1; have gx2 := cell_of aX 2; have gx3 := cell_of aX 3; have gx4 := cell_of aX 4; have gx5 := cell_of aX 5; dsimp at gx0 gx1 gx2 gx3 gx4 gx5
    by_cases hk : x0 = 2
    rotate_left
    · have hk2 : (x0 == 2) = false := by simpa using hk
      rw [if_neg hk] at FM
      go_wp2_with (first
        | ((go_at_call 24; (with_reducible refine (FM _ hL).mono ?_); rintro e w' ⟨rfl, hx⟩); have hB := hB.trans (hx.mono hB.size); have aX := (hx.block _ (lt_of_block aX)).trans aX; have gx0 := cell_of aX 0; have gx1 := cell_of aX 1; have gx2 := cell_of aX 2; have gx3 := cell_of aX 3; have gx4 := cell_of aX 4; have gx5 := cell_of aX 5; dsimp at gx0 gx1 gx2 gx3 gx4 gx5)
        | ((go_at_call 27; (with_reducible refine (AW _).mono ?_); rintro e w' ⟨rfl, hx⟩); have hB := hB.trans (hx.mono hB.size)))
      go_ret
      exact ⟨rfl, hB⟩
    subst hk
    rw [if_pos rfl] at FM
    by_cases hb : bits .and .i64 x1 r = r
    rotate_left
    · have hb2 : (bits .and .i64 x1 r == r) = false := by simpa using hb
      rw [if_neg hb] at FM
      go_wp2_with (first
        | ((go_at_call 24; (with_reducible refine (FM _ hL).mono ?_); rintro e w' ⟨rfl, hx⟩); have hB := hB.trans (hx.mono hB.size); have aX := (hx.block _ (lt_of_block aX)).trans aX; have gx0 := cell_of aX 0; have gx1 := cell_of aX 1; have gx2 := cell_of aX 2; have gx3 := cell_of aX 3; have gx4 := cell_of aX 4; have gx5 := cell_of aX 5; dsimp at gx0 gx1 gx2 gx3 gx4 gx5)
        | ((go_at_call 27; (with_reducible refine (AW _).mono ?_); rintro e w' ⟨rfl, hx⟩); have hB := hB.trans (hx.mono hB.size)))
      go_ret
      exact ⟨rfl, hB⟩
    have hb2 : (bits .and .i64 x1 r == r) = true := by simpa using hb
    rw [if_pos hb] at FM
    by_cases h1 : f < x2
    · rw [if_pos h1] at FM
      go_wp2_with (first
        | ((go_at_call 24; (with_reducible refine (FM _ hL).mono ?_); rintro e w' ⟨rfl, hx⟩); have hB := hB.trans (hx.mono hB.size); have aX := (hx.block _ (lt_of_block aX)).trans aX; have gx0 := cell_of aX 0; have gx1 := cell_of aX 1; have gx2 := cell_of aX 2; have gx3 := cell_of aX 3; have gx4 := cell_of aX 4; have gx5 := cell_of aX 5; dsimp at gx0 gx1 gx2 gx3 gx4 gx5)
        | ((go_at_call 27; (with_reducible refine (AW _).mono ?_); rintro e w' ⟨rfl, hx⟩); have hB := hB.trans (hx.mono hB.size)))
      go_ret
      exact ⟨rfl, hB⟩
    rw [if_neg h1] at FM
    by_cases h2 : x2 + x5 ≤ f
    · have h3 : ¬ f < x2 + x5 := by omega
      rw [if_pos h2] at FM
      go_wp2_with (first
        | ((go_at_call 24; (with_reducible refine (FM _ hL).mono ?_); rintro e w' ⟨rfl, hx⟩); have hB := hB.trans (hx.mono hB.size); have aX := (hx.block _ (lt_of_block aX)).trans aX; have gx0 := cell_of aX 0; have gx1 := cell_of aX 1; have gx2 := cell_of aX 2; have gx3 := cell_of aX 3; have gx4 := cell_of aX 4; have gx5 := cell_of aX 5; dsimp at gx0 gx1 gx2 gx3 gx4 gx5)
        | ((go_at_call 27; (with_reducible refine (AW _).mono ?_); rintro e w' ⟨rfl, hx⟩); have hB := hB.trans (hx.mono hB.size)))
      go_ret
      have e : (!decide (f < x2 + x5)) = true := by simp; omega
      rw [e]
      exact ⟨rfl, hB⟩
    · have h3 : f < x2 + x5 := by omega
      rw [if_neg h2] at FM
      go_wp2_with (first
        | ((go_at_call 24; (with_reducible refine (FM _ hL).mono ?_); rintro e w' ⟨rfl, hx⟩); have hB := hB.trans (hx.mono hB.size); have aX := (hx.block _ (lt_of_block aX)).trans aX; have gx0 := cell_of aX 0; have gx1 := cell_of aX 1; have gx2 := cell_of aX 2; have gx3 := cell_of aX 3; have gx4 := cell_of aX 4; have gx5 := cell_of aX 5; dsimp at gx0 gx1 gx2 gx3 gx4 gx5)
        | ((go_at_call 27; (with_reducible refine (AW _).mono ?_); rintro e w' ⟨rfl, hx⟩); have hB := hB.trans (hx.mono hB.size)))
      go_ret
      exact ⟨rfl, hB⟩
end Go.Proofs.YtejdfdllgobnhaaGreat
