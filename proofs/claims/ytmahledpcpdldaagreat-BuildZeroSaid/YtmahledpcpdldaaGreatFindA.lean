/- palanquinlaw26: pair, awake. -/
import Derived.Test.YtmahledpcpdldaaGreatFindF
import Derived.Test.YtmahledpcpdldaaGreatRNew25
import Derived.Test.YtmahledpcpdldaaGreatGSeen
set_option linter.unusedVariables false
set_option linter.unusedSimpArgs false
namespace Go.Proofs.YtmahledpcpdldaaGreat
open Go.RowKit
def PM (F : Nat) : Mach := ⟨⟨F, fun _ _ => 0⟩, Clk.new 2, TypS.new F⟩
theorem cfg22 {F : Nat} (h1 : 1 ≤ F) (h2 : F ≤ 64) : CfgOk (F : Nat) (2 : Nat) 0 2 := by constructor <;> omega
theorem PM_ok {F : Nat} (h1 : 1 ≤ F) (h2 : F ≤ 64) : (PM F).Ok := Mach.new_ok (cfg22 h1 h2)
set_option maxHeartbeats 1000000 in
theorem pair26 (F : Nat) (w : World) (h1 : 1 ≤ F) (h2 : F ≤ 64) : Calls Tryz.prog 15 #[.int .i64 F] w fun e w' => ∃ (B : MBl) (v : Nat),
    e = .returned (.tuple #[.pointer (some ⟨B.b, 0, none⟩), .pointer (some ⟨v, 0, none⟩)]) ∧ MachL w' B (PM F) LiveS.zero ∧ (∀ x, B.own x → w.heap.size ≤ x) ∧ Below w.heap.size w w' := by
  have NM : ∀ w, Calls Tryz.prog 6 #[.agg #[.int .i64 F, .int .i64 2, .int .i64 0, .int .i64 2]] w _ := fun w => mach_newL F 2 0 2 w (cfg22 h1 h2)
  have NR : ∀ w, Calls Tryz.prog 7 #[.agg #[.int .i64 F, .int .i64 2, .int .i64 0, .int .i64 2]] w _ := fun w => r25_new F 2 0 2 w (cfg22 h1 h2)
  have hw0 : Below w.heap.size w (w.alloc (.cells #[.int .i64 F, .int .i64 2, .int .i64 0, .int .i64 2] 23 (0, 0))) := by (refine Touch.below0 ?_; (repeat' (first | (with_reducible exact Touch.refl _ _) | (with_reducible assumption) | (with_reducible refine Touch.drew ?_) | (with_reducible refine Touch.drewN ?_ _) | (with_reducible refine Touch.alloc ?_ _) | (with_reducible refine Touch.setCell ?_ _ _ _ ?_) | (with_reducible refine Touch.step (by assumption) ?_) | (with_reducible refine Touch.stepT (by assumption) ?_ ?_) | (intro _; first | rfl | trivial | omega | (simp; done) | (simp; omega)) | (intro _ _; first | omega | (simp; done) | (simp; omega)))))
  have hc0 := heap_new w (.cells #[.int .i64 F, .int .i64 2, .int .i64 0, .int .i64 2] 23 (0, 0))
  go_enter Tryz.func15, Tryz.ntmps15
  go_wp2_with (first
    | ((go_at_call 6; (with_reducible refine (NM _).mono ?_); rintro e w' ⟨B, rfl, hM, hown, hx, -, h1L, h2L, h3L, h4L, h5L⟩)
       have hw1 := hw0.trans (hx.mono hw0.size)
       have hc1 := (hx.block _ (lt_of_block hc0)).trans hc0
       have hML : MachL w' B (PM F) LiveS.zero := ⟨hM, LiveIs.new h1L h2L (by omega), h4L, h5L⟩
       have hs0 := hw0.size
       have z0 := cell_of hc1 0; have z1 := cell_of hc1 1; have z2 := cell_of hc1 2; have z3 := cell_of hc1 3
       dsimp at z0 z1 z2 z3)
    | ((go_at_call 7; (with_reducible refine (NR _).mono ?_); rintro e w' ⟨v, rfl, hx2⟩)
       have hw2 := hw1.trans (hx2.mono hw1.size)
       have hML2 := hML.after hx2))
  go_ret2
  exact ⟨B, v, rfl, hML2, fun x hx => Nat.le_trans hs0 (hown x hx), hw2⟩
theorem hd_zero {m : MemS} {f : Int} (hf : m.has f = true) (hz : ∀ b, m.wd f b = 0) : hdE m f = 0 ∧ hdC m f = HeadS.zero := by
  have hp : hdPre m f = true := by unfold hdPre; rw [hz, hz, hz, hz]; decide
  have hk : hdOk m f = true := by unfold hdOk; rw [hf, hp, hz, hz]; decide
  unfold hdE hdC
  rw [hk, hf, hz, hz]
  exact ⟨rfl, rfl⟩
set_option maxHeartbeats 1000000 in
theorem awake26 (w : World) : Calls Tryz.prog 43 #[] w fun e w' => e = .returned (.bool true) ∧ Below w.heap.size w w' := by
  have P1 : Calls Tryz.prog 15 #[.int .i64 1] w _ := pair26 1 w (by decide) (by decide)
  have ok := PM_ok (F := 1) (by decide) (by decide)
  have hE1 : (PM 1).freshE 0 = 4 := by rfl
  have hR : (PM 1).retypeE 0 2 = 0 := by rfl
  have ok2 := Mach.retype_ok ok 0 2
  have hE2 : ((PM 1).retype 0 2).freshE 0 = 0 := by
    have hz : isE ((PM 1).retype 0 2).mem 0 0 = 0 := by
      have := hd_zero (m := ((PM 1).retype 0 2).mem) (f := 0) rfl (fun b => by rfl)
      unfold isE; rw [this.1, this.2]; rfl
    unfold Mach.freshE
    rw [if_pos (by rfl), if_pos ⟨by rfl, hz⟩]
  have RT := fun B w h => mach_retype B (PM 1) 0 2 w h ok (by decide)
  have F1 := fun B w h => f_fresh B (PM 1) 0 w h ok
  have F2 := fun B w h => f_fresh B ((PM 1).retype 0 2) 0 w h ok2
  rw [hR] at RT
  rw [hE1] at F1
  rw [hE2] at F2
  generalize (PM 1).retype 0 2 = M2 at *
  generalize PM 1 = M1 at *
  go_enter Tryz.func43, Tryz.ntmps43
  go_wp2_with (first
    | (go_at_call 15; (with_reducible refine (P1).mono ?_); rintro e w' ⟨B, v, rfl, hM, hown, hw1⟩)
    | ((go_at_call 38; (with_reducible refine (F1 B _ hM.mach).mono ?_); rintro e w' ⟨rfl, hx⟩); have hM := hM.after hx; have hw1 := hw1.trans (hx.mono hw1.size))
    | ((go_at_call 16; (with_reducible refine (RT B _ hM.mach).mono ?_); rintro e w' ⟨rfl, hM2, ht⟩); have hw2 := hw1.trans (ht.below hw1.size (fun i hi hh => by have := hown i hh; omega)))
    | ((go_at_call 38; (with_reducible refine (F2 B _ hM2).mono ?_); rintro e w' ⟨rfl, hx⟩); have hw3 := hw2.trans (hx.mono hw2.size)))
  go_ret
  exact ⟨rfl, hw3⟩
end Go.Proofs.YtmahledpcpdldaaGreat
