/- palanquinlaw27: pair, awake; build on a machine that nobody made. -/
import Derived.Test.YtmahledpcpdldaaGreatFindA
import Derived.Test.YtmahledpcpdldaaGreatBuildA
set_option linter.unusedVariables false
set_option linter.unusedSimpArgs false
namespace Go.Proofs.YtmahledpcpdldaaGreat
open Go.RowKit
set_option maxHeartbeats 1000000 in
theorem pair27 (F : Nat) (w : World) (h1 : 1 ≤ F) (h2 : F ≤ 64) : Calls Tryz.prog 168 #[.int .i64 F] w fun e w' => ∃ (B : MBl) (v : Nat),
    e = .returned (.tuple #[.pointer (some ⟨B.b, 0, none⟩), .pointer (some ⟨v, 0, none⟩)]) ∧ MachL w' B (PM F) LiveS.zero ∧ (∀ x, B.own x → w.heap.size ≤ x) ∧ Below w.heap.size w w' := by
  have NM : ∀ w, Calls Tryz.prog 6 #[.agg #[.int .i64 F, .int .i64 2, .int .i64 0, .int .i64 2]] w _ := fun w => mach_newL F 2 0 2 w (cfg22 h1 h2)
  have NR : ∀ w, Calls Tryz.prog 7 #[.agg #[.int .i64 F, .int .i64 2, .int .i64 0, .int .i64 2]] w _ := fun w => r25_new F 2 0 2 w (cfg22 h1 h2)
  have hw0 : Below w.heap.size w (w.alloc (.cells #[.int .i64 F, .int .i64 2, .int .i64 0, .int .i64 2] 23 (0, 0))) := by (refine Touch.below0 ?_; (repeat' (first | (with_reducible exact Touch.refl _ _) | (with_reducible assumption) | (with_reducible refine Touch.drew ?_) | (with_reducible refine Touch.drewN ?_ _) | (with_reducible refine Touch.alloc ?_ _) | (with_reducible refine Touch.setCell ?_ _ _ _ ?_) | (with_reducible refine Touch.step (by assumption) ?_) | (with_reducible refine Touch.stepT (by assumption) ?_ ?_) | (intro _; first | rfl | trivial | omega | (simp; done) | (simp; omega)) | (intro _ _; first | omega | (simp; done) | (simp; omega)))))
  have hc0 := heap_new w (.cells #[.int .i64 F, .int .i64 2, .int .i64 0, .int .i64 2] 23 (0, 0))
  go_enter Tryz.func168, Tryz.ntmps168
  go_wp2_with (first
    | ((go_at_call 6; (with_reducible refine (NM _).mono ?_); rintro e w' ⟨B, rfl, hM, hown, hx, -, h1L, h2L, h3L, h4L, h5L⟩)
       have hw1 := hw0.trans (hx.mono hw0.size)
       have hc1 := (hx.block _ (lt_of_block hc0)).trans hc0
       have hML : MachL w' B (PM F) LiveS.zero := ⟨hM, LiveIs.new h1L h2L (by omega), h4L, h5L⟩
       have hs0 := hw0.size
       have z0 := cell_of hc1 0; have z1 := cell_of hc1 1; have z2 := cell_of hc1 2; have z3 := cell_of hc1 3
       dsimp at z0 z1 z2 z3)
    | ((go_at_call 7; (with_reducible refine (NR _).mono ?_); rintro e w' ⟨v, rfl, hx2⟩)
       have hw2 := hw1.trans (hx2.mono hw1.size)
       have hML2 := hML.after hx2))
  go_ret2
  exact ⟨B, v, rfl, hML2, fun x hx => Nat.le_trans hs0 (hown x hx), hw2⟩
theorem b_tcap_no (B : MBl) (m : Mach) (f e : Int) (w : World) (h : MachIs w B m) (ok : m.Ok) (he : m.freshE f = e) (hn : ¬ e = 0) : Calls Tryz.prog 48 #[.pointer (some ⟨B.b, 0, none⟩), .int .i64 f] w fun e' w' => e' = .returned (.int .i64 e) ∧ Below w.heap.size w w' := by
  have F := fun w h => f_fresh B m f w h ok
  rw [he] at F
  clear he
  have hz : (e == 0) = false := by simpa using hn
  go_enter Tryz.func48, Tryz.ntmps48
  go_wp2_with ((go_at_call 38; (with_reducible refine (F _ h).mono ?_); rintro e w' ⟨rfl, hb⟩))
  go_ret
  exact ⟨rfl, hb⟩
theorem b_tcap_yes (B : MBl) (m : Mach) (f : Int) (w : World) (h : MachIs w B m) (ok : m.Ok) (he : m.freshE f = 0) (hf : m.mem.has f = true) (okM : (m.mem.make f ⟨5, 0, false, 0⟩).Ok) (hn : (m.mem.make f ⟨5, 0, false, 0⟩).n = m.mem.n) : Calls Tryz.prog 48 #[.pointer (some ⟨B.b, 0, none⟩), .int .i64 f] w fun e' w' => e' = .returned (.int .i64 0) ∧ MachIs w' B { m with mem := m.mem.tz f } ∧ Touch (fun x => B.own x) w w' := by
  have F := fun w h => f_fresh B m f w h ok
  rw [he] at F
  have T := fun w h => tcap_make0 B.mb B.mg m.mem f w h ok.mem hf okM hn
  clear he hf okM hn
  generalize m.mem.tz f = M at *
  go_enter Tryz.func48, Tryz.ntmps48
  go_wp2_with (first
    | ((go_at_call 38; (with_reducible refine (F _ h).mono ?_); rintro e w' ⟨rfl, hb⟩); have h1 := h.after hb)
    | ((go_at_call 22; (with_reducible refine (mach_mem _ _ _ h1).mono ?_); rintro e w' ⟨rfl, rfl⟩))
    | ((go_at_call 159; (with_reducible refine (T _ h1.mem).mono ?_); rintro e w' ⟨rfl, hm, ht⟩)))
  go_ret
  exact ⟨rfl, h1.setmem ht hm, (Touch.of_below hb).trans (ht.mono (fun _ _ hx => .inl hx))⟩
theorem lay_mach {m : Mach} (ok : m.Ok) (f : Int) (okM : (m.mem.make f ⟨5, 0, false, 0⟩).Ok) : ({ m with mem := m.mem.tz f } : Mach).Ok := Mach.mem_ok ok (lay0_ok okM f 3)
set_option maxHeartbeats 1000000 in
theorem awake27 (w : World) : Calls Tryz.prog 52 #[] w fun e w' => e = .returned (.bool true) ∧ Below w.heap.size w w' := by
  have P1 : Calls Tryz.prog 168 #[.int .i64 1] w _ := pair27 1 w (by decide) (by decide)
  have ok := PM_ok (F := 1) (by decide) (by decide)
  have hE1 : (PM 1).freshE 0 = 4 := by rfl
  have hR : (PM 1).retypeE 0 2 = 0 := by rfl
  have ok2 := Mach.retype_ok ok 0 2
  have hE2 : ((PM 1).retype 0 2).freshE 0 = 0 := by
    have hz : isE ((PM 1).retype 0 2).mem 0 0 = 0 := by
      have := hd_zero (m := ((PM 1).retype 0 2).mem) (f := 0) rfl (fun b => by rfl)
      unfold isE; rw [this.1, this.2]; rfl
    unfold Mach.freshE
    rw [if_pos (by rfl), if_pos ⟨by rfl, hz⟩]
  have hf : ((PM 1).retype 0 2).mem.has 0 = true := by rfl
  have hh : headOk ((PM 1).retype 0 2).mem 0 ⟨5, 0, false, 0⟩ = true := by unfold headOk; rw [hf]; rfl
  have okM : (((PM 1).retype 0 2).mem.make 0 ⟨5, 0, false, 0⟩).Ok := by
    unfold MemS.make MemS.head
    rw [if_pos hh]
    split
    · exact MemS.hk_ok (MemS.clear_ok ok2.mem 0) 0 rfl 4
    · exact MemS.clear_ok ok2.mem 0
  have hn : (((PM 1).retype 0 2).mem.make 0 ⟨5, 0, false, 0⟩).n = ((PM 1).retype 0 2).mem.n := by rfl
  have hE3 : ({ ((PM 1).retype 0 2) with mem := ((PM 1).retype 0 2).mem.tz 0 } : Mach).freshE 0 = 10 := by
    unfold Mach.freshE
    have hz : isE (((PM 1).retype 0 2).mem.tz 0) 0 0 = 4 := by kernel_rfl
    rw [if_pos (by rfl), if_neg (fun h => by have := h.2; rw [show ({ ((PM 1).retype 0 2) with mem := ((PM 1).retype 0 2).mem.tz 0 } : Mach).mem = ((PM 1).retype 0 2).mem.tz 0 from rfl, hz] at this; omega)]
  have ok3 := lay_mach ok2 0 okM
  have RT := fun B w h => mach_retype B (PM 1) 0 2 w h ok (by decide)
  have F1 := fun B w h => b_tcap_no B (PM 1) 0 4 w h ok hE1 (by decide)
  have F2 := fun B w h => b_tcap_yes B ((PM 1).retype 0 2) 0 w h ok2 hE2 hf okM hn
  have F3 := fun B w h => b_tcap_no B _ 0 10 w h ok3 hE3 (by decide)
  rw [hR] at RT
  clear hE1 hE2 hE3 hR hf hh okM hn ok3 ok2 ok
  generalize ({ ((PM 1).retype 0 2) with mem := ((PM 1).retype 0 2).mem.tz 0 } : Mach) = M3 at *
  generalize (PM 1).retype 0 2 = M2 at *
  generalize PM 1 = M1 at *
  go_enter Tryz.func52, Tryz.ntmps52
  go_wp2_with (first
    | (go_at_call 168; (with_reducible refine (P1).mono ?_); rintro e w' ⟨B, v, rfl, hM, hown, hw1⟩)
    | ((go_at_call 48; (with_reducible refine (F1 B _ hM.mach).mono ?_); rintro e w' ⟨rfl, hx⟩); have hM := hM.after hx; have hw1 := hw1.trans (hx.mono hw1.size))
    | ((go_at_call 16; (with_reducible refine (RT B _ hM.mach).mono ?_); rintro e w' ⟨rfl, hM2, ht⟩); have hw2 := hw1.trans (ht.below hw1.size (fun i hi hh => by have := hown i hh; omega)))
    | ((go_at_call 48; (with_reducible refine (F2 B _ hM2).mono ?_); rintro e w' ⟨rfl, hM3, ht2⟩); have hw3 := hw2.trans (ht2.below hw2.size (fun i hi hh => by have := hown i hh; omega)))
    | ((go_at_call 48; (with_reducible refine (F3 B _ hM3).mono ?_); rintro e w' ⟨rfl, hx⟩); have hw4 := hw3.trans (hx.mono hw3.size)))
  go_ret
  exact ⟨rfl, hw4⟩
end Go.Proofs.YtmahledpcpdldaaGreat
