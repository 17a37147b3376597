/- A machine that nobody made. -/
import Derived.Test.YtmahledpcpdldaaGreatProg
import Derived.Test.YtmahledpcpdldaaGreatBase
set_option linter.unusedVariables false
set_option linter.unusedSimpArgs false
namespace Go.Proofs.YtmahledpcpdldaaGreat
open Go.RowKit

def Mz (w : World) (p : Option Addr) : Prop := p = none ∨ ∃ b, p = some ⟨b, 0, none⟩ ∧ w.cell? ⟨b, 0, none⟩ = some (.pointer none)
theorem Mz.nil (w : World) : Mz w none := .inl rfl
theorem Mz.below {w w' : World} {p : Option Addr} (h : Mz w p) (hb : Below w.heap.size w w') : Mz w' p := by
  rcases h with h | ⟨b, h, hc⟩
  · exact .inl h
  · exact .inr ⟨b, h, by rw [hb.cell (p := ⟨b, 0, none⟩) (lt_of_cell hc)]; exact hc⟩
abbrev cap0 : Value := .agg #[.int .i64 0, .int .i64 0, .int .i64 0, .int .i64 0, .int .i64 0, .int .i64 0]


theorem clk_now_nil (w : World) : Calls Tryz.prog 184 #[.pointer none] w fun e w' => e = .returned (.int .i64 0) ∧ w = w' := by
  have hn : Calls Tryz.prog 243 #[.pointer none] w fun e w' => e = .returned (.bool true) ∧ w = w' := by
    go_enter Tryz.func243, Tryz.ntmps243
    go_wp2
    go_ret
    exact ⟨rfl, rfl⟩
  go_enter Tryz.func184, Tryz.ntmps184
  go_wp2_with ((go_at_call 243; (with_reducible refine (hn).mono ?_); rintro e w' ⟨rfl, rfl⟩))
  go_ret
  exact ⟨rfl, rfl⟩
theorem mz_none (p : Option Addr) (w : World) (h : Mz w p) : Calls Tryz.prog 106 #[.pointer p] w fun e w' => e = .returned (.bool true) ∧ w = w' := by
  (rcases (h) with rfl | ⟨b, rfl, hb⟩) <;> (go_enter Tryz.func106, Tryz.ntmps106; go_wp2; go_ret; exact ⟨rfl, rfl⟩)
theorem mz_mem (p : Option Addr) (w : World) (h : Mz w p) : Calls Tryz.prog 22 #[.pointer p] w fun e w' => e = .returned (.pointer none) ∧ w = w' := by
  go_enter Tryz.func22, Tryz.ntmps22
  go_wp2_with (first
    | (go_at_call 106; (with_reducible refine (mz_none p w h).mono ?_); rintro e w' ⟨rfl, rfl⟩))
  go_ret
  exact ⟨rfl, rfl⟩
theorem mz_clock (p : Option Addr) (w : World) (h : Mz w p) : Calls Tryz.prog 79 #[.pointer p] w fun e w' => e = .returned (.pointer none) ∧ w = w' := by
  go_enter Tryz.func79, Tryz.ntmps79
  go_wp2_with (first
    | (go_at_call 106; (with_reducible refine (mz_none p w h).mono ?_); rintro e w' ⟨rfl, rfl⟩))
  go_ret
  exact ⟨rfl, rfl⟩
theorem mz_typ (p : Option Addr) (w : World) (h : Mz w p) : Calls Tryz.prog 84 #[.pointer p] w fun e w' => e = .returned (.pointer none) ∧ w = w' := by
  go_enter Tryz.func84, Tryz.ntmps84
  go_wp2_with (first
    | (go_at_call 106; (with_reducible refine (mz_none p w h).mono ?_); rintro e w' ⟨rfl, rfl⟩))
  go_ret
  exact ⟨rfl, rfl⟩
theorem mz_live (p : Option Addr) (w : World) (h : Mz w p) : Calls Tryz.prog 18 #[.pointer p] w fun e w' => e = .returned (.pointer none) ∧ w = w' := by
  go_enter Tryz.func18, Tryz.ntmps18
  go_wp2_with (first
    | (go_at_call 106; (with_reducible refine (mz_none p w h).mono ?_); rintro e w' ⟨rfl, rfl⟩))
  go_ret
  exact ⟨rfl, rfl⟩
theorem mz_lines (p : Option Addr) (w : World) (h : Mz w p) : Calls Tryz.prog 100 #[.pointer p] w fun e w' => e = .returned (.pointer none) ∧ w = w' := by
  go_enter Tryz.func100, Tryz.ntmps100
  go_wp2_with (first
    | (go_at_call 106; (with_reducible refine (mz_none p w h).mono ?_); rintro e w' ⟨rfl, rfl⟩))
  go_ret
  exact ⟨rfl, rfl⟩
theorem mz_cores (p : Option Addr) (w : World) (h : Mz w p) : Calls Tryz.prog 70 #[.pointer p] w fun e w' => e = .returned (.int .i64 0) ∧ w = w' := by
  go_enter Tryz.func70, Tryz.ntmps70
  go_wp2_with (first
    | (go_at_call 106; (with_reducible refine (mz_none p w h).mono ?_); rintro e w' ⟨rfl, rfl⟩))
  go_ret
  exact ⟨rfl, rfl⟩
theorem mz_floors (p : Option Addr) (w : World) (h : Mz w p) : Calls Tryz.prog 93 #[.pointer p] w fun e w' => e = .returned (.tuple #[.int .i64 (-1), .int .i64 (-1)]) ∧ w = w' := by
  go_enter Tryz.func93, Tryz.ntmps93
  go_wp2_with (first
    | (go_at_call 106; (with_reducible refine (mz_none p w h).mono ?_); rintro e w' ⟨rfl, rfl⟩))
  go_ret2
  exact ⟨rfl, rfl⟩
theorem mz_core (p : Option Addr) (i : Int) (w : World) (h : Mz w p) : Calls Tryz.prog 105 #[.pointer p, .int .i64 i] w fun e w' => e = .returned (.pointer none) ∧ w = w' := by
  go_enter Tryz.func105, Tryz.ntmps105
  go_wp2_with (first
    | (go_at_call 106; (with_reducible refine (mz_none p w h).mono ?_); rintro e w' ⟨rfl, rfl⟩))
  go_ret
  exact ⟨rfl, rfl⟩
theorem mz_tlb (p : Option Addr) (i : Int) (w : World) (h : Mz w p) : Calls Tryz.prog 12 #[.pointer p, .int .i64 i] w fun e w' => e = .returned (.pointer none) ∧ w = w' := by
  go_enter Tryz.func12, Tryz.ntmps12
  go_wp2_with (first
    | (go_at_call 105; (with_reducible refine (mz_core p i w h).mono ?_); rintro e w' ⟨rfl, rfl⟩))
  go_ret
  exact ⟨rfl, rfl⟩
theorem mz_regs (p : Option Addr) (i : Int) (w : World) (h : Mz w p) : Calls Tryz.prog 13 #[.pointer p, .int .i64 i] w fun e w' => e = .returned (.pointer none) ∧ w = w' := by
  go_enter Tryz.func13, Tryz.ntmps13
  go_wp2_with (first
    | (go_at_call 105; (with_reducible refine (mz_core p i w h).mono ?_); rintro e w' ⟨rfl, rfl⟩))
  go_ret
  exact ⟨rfl, rfl⟩
theorem mz_cur (p : Option Addr) (i : Int) (w : World) (h : Mz w p) : Calls Tryz.prog 14 #[.pointer p, .int .i64 i] w fun e w' => e = .returned (.int .i64 (-1)) ∧ w = w' := by
  go_enter Tryz.func14, Tryz.ntmps14
  go_wp2_with (first
    | (go_at_call 105; (with_reducible refine (mz_core p i w h).mono ?_); rintro e w' ⟨rfl, rfl⟩))
  go_ret
  exact ⟨rfl, rfl⟩
theorem mz_now (p : Option Addr) (w : World) (h : Mz w p) : Calls Tryz.prog 86 #[.pointer p] w fun e w' => e = .returned (.int .i64 0) ∧ w = w' := by
  go_enter Tryz.func86, Tryz.ntmps86
  go_wp2_with (first
    | (go_at_call 79; (with_reducible refine (mz_clock p w h).mono ?_); rintro e w' ⟨rfl, rfl⟩)
    | (go_at_call 184; (with_reducible refine (clk_now_nil w).mono ?_); rintro e w' ⟨rfl, rfl⟩))
  go_ret
  exact ⟨rfl, rfl⟩
theorem mz_retype (p : Option Addr) (f t : Int) (w : World) (h : Mz w p) : Calls Tryz.prog 16 #[.pointer p, .int .i64 f, .int .i64 t] w fun e w' => e = .returned (.int .i64 13) ∧ w = w' := by
  go_enter Tryz.func16, Tryz.ntmps16
  go_wp2_with (first
    | (go_at_call 106; (with_reducible refine (mz_none p w h).mono ?_); rintro e w' ⟨rfl, rfl⟩))
  go_ret
  exact ⟨rfl, rfl⟩
theorem mz_flush (p : Option Addr) (i : Int) (w : World) (h : Mz w p) : Calls Tryz.prog 75 #[.pointer p, .int .i64 i] w fun e w' => e = .returned (.tuple #[.int .i64 0, .int .i64 13]) ∧ w = w' := by
  go_enter Tryz.func75, Tryz.ntmps75
  go_wp2_with (first
    | (go_at_call 106; (with_reducible refine (mz_none p w h).mono ?_); rintro e w' ⟨rfl, rfl⟩))
  go_ret2
  exact ⟨rfl, rfl⟩
theorem mz_setcur (p : Option Addr) (i f : Int) (w : World) (h : Mz w p) : Calls Tryz.prog 77 #[.pointer p, .int .i64 i, .int .i64 f] w fun e w' => e = .returned (.int .i64 13) ∧ w = w' := by
  go_enter Tryz.func77, Tryz.ntmps77
  go_wp2_with (first
    | (go_at_call 105; (with_reducible refine (mz_core p i w h).mono ?_); rintro e w' ⟨rfl, rfl⟩)
    | (go_at_call 106; (with_reducible refine (mz_none p w h).mono ?_); rintro e w' ⟨rfl, rfl⟩))
  go_ret
  exact ⟨rfl, rfl⟩
theorem cap_holds0 (w : World) : Calls Tryz.prog 241 #[cap0] w fun e w' => e = .returned (.tuple #[.int .i64 0, .bool false]) ∧ Below w.heap.size w w' := by
  go_enter Tryz.func241, Tryz.ntmps241
  go_wp2
  go_ret2
  exact ⟨rfl, by (refine Touch.below0 ?_; (repeat' (first | (with_reducible exact Touch.refl _ _) | (with_reducible assumption) | (with_reducible refine Touch.drew ?_) | (with_reducible refine Touch.drewN ?_ _) | (with_reducible refine Touch.alloc ?_ _) | (with_reducible refine Touch.setCell ?_ _ _ _ ?_) | (with_reducible refine Touch.step (by assumption) ?_) | (with_reducible refine Touch.stepT (by assumption) ?_ ?_) | (intro _; first | rfl | trivial | omega | (simp; done) | (simp; omega)) | (intro _ _; first | omega | (simp; done) | (simp; omega)))))⟩
theorem mz_needed (p : Option Addr) (w : World) (h : Mz w p) : Calls Tryz.prog 170 #[.pointer p, cap0] w fun e w' => e = .returned (.tuple #[.int .i64 0, .bool false, .int .i64 13]) ∧ Below w.heap.size w w' := by
  have hbA : ∀ o, Below w.heap.size w (w.alloc o) := fun o => by (refine Touch.below0 ?_; (repeat' (first | (with_reducible exact Touch.refl _ _) | (with_reducible assumption) | (with_reducible refine Touch.drew ?_) | (with_reducible refine Touch.drewN ?_ _) | (with_reducible refine Touch.alloc ?_ _) | (with_reducible refine Touch.setCell ?_ _ _ _ ?_) | (with_reducible refine Touch.step (by assumption) ?_) | (with_reducible refine Touch.stepT (by assumption) ?_ ?_) | (intro _; first | rfl | trivial | omega | (simp; done) | (simp; omega)) | (intro _ _; first | omega | (simp; done) | (simp; omega)))))
  go_enter Tryz.func170, Tryz.ntmps170
  go_wp2_with (first
    | ((go_at_call 241; (with_reducible refine (cap_holds0 _).mono ?_); rintro e w' ⟨rfl, hb1⟩); have hbw := (hbA _).trans (hb1.mono (hbA _).size); have hm := h.below hbw)
    | (go_at_call 106; (with_reducible refine (mz_none p _ hm).mono ?_); rintro e w' ⟨rfl, rfl⟩))
  go_ret3
  exact ⟨rfl, hbw⟩
theorem mz_link (p : Option Addr) (w : World) (h : Mz w p) : Calls Tryz.prog 71 #[.pointer p, cap0] w fun e w' => e = .returned (.int .i64 13) ∧ Below w.heap.size w w' := by
  have hbA : ∀ o, Below w.heap.size w (w.alloc o) := fun o => by (refine Touch.below0 ?_; (repeat' (first | (with_reducible exact Touch.refl _ _) | (with_reducible assumption) | (with_reducible refine Touch.drew ?_) | (with_reducible refine Touch.drewN ?_ _) | (with_reducible refine Touch.alloc ?_ _) | (with_reducible refine Touch.setCell ?_ _ _ _ ?_) | (with_reducible refine Touch.step (by assumption) ?_) | (with_reducible refine Touch.stepT (by assumption) ?_ ?_) | (intro _; first | rfl | trivial | omega | (simp; done) | (simp; omega)) | (intro _ _; first | omega | (simp; done) | (simp; omega)))))
  go_enter Tryz.func71, Tryz.ntmps71
  go_wp2_with (first
    | ((go_at_call 170; (with_reducible refine (mz_needed p _ (h.below (hbA _))).mono ?_); rintro e w' ⟨rfl, hb1⟩); have hbw := (hbA _).trans (hb1.mono (hbA _).size)))
  go_ret
  exact ⟨rfl, hbw⟩
theorem mz_unlink (p : Option Addr) (w : World) (h : Mz w p) : Calls Tryz.prog 73 #[.pointer p, cap0] w fun e w' => e = .returned (.int .i64 13) ∧ Below w.heap.size w w' := by
  have hbA : ∀ o, Below w.heap.size w (w.alloc o) := fun o => by (refine Touch.below0 ?_; (repeat' (first | (with_reducible exact Touch.refl _ _) | (with_reducible assumption) | (with_reducible refine Touch.drew ?_) | (with_reducible refine Touch.drewN ?_ _) | (with_reducible refine Touch.alloc ?_ _) | (with_reducible refine Touch.setCell ?_ _ _ _ ?_) | (with_reducible refine Touch.step (by assumption) ?_) | (with_reducible refine Touch.stepT (by assumption) ?_ ?_) | (intro _; first | rfl | trivial | omega | (simp; done) | (simp; omega)) | (intro _ _; first | omega | (simp; done) | (simp; omega)))))
  go_enter Tryz.func73, Tryz.ntmps73
  go_wp2_with (first
    | ((go_at_call 170; (with_reducible refine (mz_needed p _ (h.below (hbA _))).mono ?_); rintro e w' ⟨rfl, hb1⟩); have hbw := (hbA _).trans (hb1.mono (hbA _).size)))
  go_ret
  exact ⟨rfl, hbw⟩
end Go.Proofs.YtmahledpcpdldaaGreat
