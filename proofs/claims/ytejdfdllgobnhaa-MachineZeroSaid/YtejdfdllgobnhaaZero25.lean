/- A machine that nobody made. -/
import Derived.Test.YtejdfdllgobnhaaProg
import Derived.Test.YtejdfdllgobnhaaBase
set_option linter.unusedVariables false
set_option linter.unusedSimpArgs false
namespace Go.Proofs.Ytejdfdllgobnhaa
open Go.RowKit

def Mz (w : World) (p : Option Addr) : Prop := p = none ∨ ∃ b, p = some ⟨b, 0, none⟩ ∧ w.cell? ⟨b, 0, none⟩ = some (.pointer none)
theorem Mz.nil (w : World) : Mz w none := .inl rfl
theorem Mz.below {w w' : World} {p : Option Addr} (h : Mz w p) (hb : Below w.heap.size w w') : Mz w' p := by
  rcases h with h | ⟨b, h, hc⟩
  · exact .inl h
  · exact .inr ⟨b, h, by rw [hb.cell (p := ⟨b, 0, none⟩) (lt_of_cell hc)]; exact hc⟩
abbrev cap0 : Value := .agg #[.int .i64 0, .int .i64 0, .int .i64 0, .int .i64 0, .int .i64 0, .int .i64 0]


theorem clk_now_nil (w : World) : Calls Try.prog 58 #[.pointer none] w fun e w' => e = .returned (.int .i64 0) ∧ w = w' := by
  have hn : Calls Try.prog 82 #[.pointer none] w fun e w' => e = .returned (.bool true) ∧ w = w' := by
    go_enter Try.func82, Try.ntmps82
    go_wp2
    go_ret
    exact ⟨rfl, rfl⟩
  go_enter Try.func58, Try.ntmps58
  go_wp2_with ((go_at_call 82; (with_reducible refine (hn).mono ?_); rintro e w' ⟨rfl, rfl⟩))
  go_ret
  exact ⟨rfl, rfl⟩
theorem mz_none (p : Option Addr) (w : World) (h : Mz w p) : Calls Try.prog 48 #[.pointer p] w fun e w' => e = .returned (.bool true) ∧ w = w' := by
  (rcases (h) with rfl | ⟨b, rfl, hb⟩) <;> (go_enter Try.func48, Try.ntmps48; go_wp2; go_ret; exact ⟨rfl, rfl⟩)
theorem mz_mem (p : Option Addr) (w : World) (h : Mz w p) : Calls Try.prog 12 #[.pointer p] w fun e w' => e = .returned (.pointer none) ∧ w = w' := by
  go_enter Try.func12, Try.ntmps12
  go_wp2_with (first
    | (go_at_call 48; (with_reducible refine (mz_none p w h).mono ?_); rintro e w' ⟨rfl, rfl⟩))
  go_ret
  exact ⟨rfl, rfl⟩
theorem mz_clock (p : Option Addr) (w : World) (h : Mz w p) : Calls Try.prog 9 #[.pointer p] w fun e w' => e = .returned (.pointer none) ∧ w = w' := by
  go_enter Try.func9, Try.ntmps9
  go_wp2_with (first
    | (go_at_call 48; (with_reducible refine (mz_none p w h).mono ?_); rintro e w' ⟨rfl, rfl⟩))
  go_ret
  exact ⟨rfl, rfl⟩
theorem mz_typ (p : Option Addr) (w : World) (h : Mz w p) : Calls Try.prog 14 #[.pointer p] w fun e w' => e = .returned (.pointer none) ∧ w = w' := by
  go_enter Try.func14, Try.ntmps14
  go_wp2_with (first
    | (go_at_call 48; (with_reducible refine (mz_none p w h).mono ?_); rintro e w' ⟨rfl, rfl⟩))
  go_ret
  exact ⟨rfl, rfl⟩
theorem mz_live (p : Option Addr) (w : World) (h : Mz w p) : Calls Try.prog 27 #[.pointer p] w fun e w' => e = .returned (.pointer none) ∧ w = w' := by
  go_enter Try.func27, Try.ntmps27
  go_wp2_with (first
    | (go_at_call 48; (with_reducible refine (mz_none p w h).mono ?_); rintro e w' ⟨rfl, rfl⟩))
  go_ret
  exact ⟨rfl, rfl⟩
theorem mz_lines (p : Option Addr) (w : World) (h : Mz w p) : Calls Try.prog 28 #[.pointer p] w fun e w' => e = .returned (.pointer none) ∧ w = w' := by
  go_enter Try.func28, Try.ntmps28
  go_wp2_with (first
    | (go_at_call 48; (with_reducible refine (mz_none p w h).mono ?_); rintro e w' ⟨rfl, rfl⟩))
  go_ret
  exact ⟨rfl, rfl⟩
theorem mz_cores (p : Option Addr) (w : World) (h : Mz w p) : Calls Try.prog 30 #[.pointer p] w fun e w' => e = .returned (.int .i64 0) ∧ w = w' := by
  go_enter Try.func30, Try.ntmps30
  go_wp2_with (first
    | (go_at_call 48; (with_reducible refine (mz_none p w h).mono ?_); rintro e w' ⟨rfl, rfl⟩))
  go_ret
  exact ⟨rfl, rfl⟩
theorem mz_floors (p : Option Addr) (w : World) (h : Mz w p) : Calls Try.prog 21 #[.pointer p] w fun e w' => e = .returned (.tuple #[.int .i64 (-1), .int .i64 (-1)]) ∧ w = w' := by
  go_enter Try.func21, Try.ntmps21
  go_wp2_with (first
    | (go_at_call 48; (with_reducible refine (mz_none p w h).mono ?_); rintro e w' ⟨rfl, rfl⟩))
  go_ret2
  exact ⟨rfl, rfl⟩
theorem mz_core (p : Option Addr) (i : Int) (w : World) (h : Mz w p) : Calls Try.prog 65 #[.pointer p, .int .i64 i] w fun e w' => e = .returned (.pointer none) ∧ w = w' := by
  go_enter Try.func65, Try.ntmps65
  go_wp2_with (first
    | (go_at_call 48; (with_reducible refine (mz_none p w h).mono ?_); rintro e w' ⟨rfl, rfl⟩))
  go_ret
  exact ⟨rfl, rfl⟩
theorem mz_tlb (p : Option Addr) (i : Int) (w : World) (h : Mz w p) : Calls Try.prog 25 #[.pointer p, .int .i64 i] w fun e w' => e = .returned (.pointer none) ∧ w = w' := by
  go_enter Try.func25, Try.ntmps25
  go_wp2_with (first
    | (go_at_call 65; (with_reducible refine (mz_core p i w h).mono ?_); rintro e w' ⟨rfl, rfl⟩))
  go_ret
  exact ⟨rfl, rfl⟩
theorem mz_regs (p : Option Addr) (i : Int) (w : World) (h : Mz w p) : Calls Try.prog 26 #[.pointer p, .int .i64 i] w fun e w' => e = .returned (.pointer none) ∧ w = w' := by
  go_enter Try.func26, Try.ntmps26
  go_wp2_with (first
    | (go_at_call 65; (with_reducible refine (mz_core p i w h).mono ?_); rintro e w' ⟨rfl, rfl⟩))
  go_ret
  exact ⟨rfl, rfl⟩
theorem mz_cur (p : Option Addr) (i : Int) (w : World) (h : Mz w p) : Calls Try.prog 29 #[.pointer p, .int .i64 i] w fun e w' => e = .returned (.int .i64 (-1)) ∧ w = w' := by
  go_enter Try.func29, Try.ntmps29
  go_wp2_with (first
    | (go_at_call 65; (with_reducible refine (mz_core p i w h).mono ?_); rintro e w' ⟨rfl, rfl⟩))
  go_ret
  exact ⟨rfl, rfl⟩
theorem mz_now (p : Option Addr) (w : World) (h : Mz w p) : Calls Try.prog 16 #[.pointer p] w fun e w' => e = .returned (.int .i64 0) ∧ w = w' := by
  go_enter Try.func16, Try.ntmps16
  go_wp2_with (first
    | (go_at_call 9; (with_reducible refine (mz_clock p w h).mono ?_); rintro e w' ⟨rfl, rfl⟩)
    | (go_at_call 58; (with_reducible refine (clk_now_nil w).mono ?_); rintro e w' ⟨rfl, rfl⟩))
  go_ret
  exact ⟨rfl, rfl⟩
theorem mz_retype (p : Option Addr) (f t : Int) (w : World) (h : Mz w p) : Calls Try.prog 11 #[.pointer p, .int .i64 f, .int .i64 t] w fun e w' => e = .returned (.int .i64 13) ∧ w = w' := by
  go_enter Try.func11, Try.ntmps11
  go_wp2_with (first
    | (go_at_call 48; (with_reducible refine (mz_none p w h).mono ?_); rintro e w' ⟨rfl, rfl⟩))
  go_ret
  exact ⟨rfl, rfl⟩
theorem mz_flush (p : Option Addr) (i : Int) (w : World) (h : Mz w p) : Calls Try.prog 18 #[.pointer p, .int .i64 i] w fun e w' => e = .returned (.tuple #[.int .i64 0, .int .i64 13]) ∧ w = w' := by
  go_enter Try.func18, Try.ntmps18
  go_wp2_with (first
    | (go_at_call 48; (with_reducible refine (mz_none p w h).mono ?_); rintro e w' ⟨rfl, rfl⟩))
  go_ret2
  exact ⟨rfl, rfl⟩
theorem mz_setcur (p : Option Addr) (i f : Int) (w : World) (h : Mz w p) : Calls Try.prog 24 #[.pointer p, .int .i64 i, .int .i64 f] w fun e w' => e = .returned (.int .i64 13) ∧ w = w' := by
  go_enter Try.func24, Try.ntmps24
  go_wp2_with (first
    | (go_at_call 65; (with_reducible refine (mz_core p i w h).mono ?_); rintro e w' ⟨rfl, rfl⟩)
    | (go_at_call 48; (with_reducible refine (mz_none p w h).mono ?_); rintro e w' ⟨rfl, rfl⟩))
  go_ret
  exact ⟨rfl, rfl⟩
theorem cap_holds0 (w : World) : Calls Try.prog 93 #[cap0] w fun e w' => e = .returned (.tuple #[.int .i64 0, .bool false]) ∧ Below w.heap.size w w' := by
  go_enter Try.func93, Try.ntmps93
  go_wp2
  go_ret2
  exact ⟨rfl, by (refine Touch.below0 ?_; (repeat' (first | (with_reducible exact Touch.refl _ _) | (with_reducible assumption) | (with_reducible refine Touch.drew ?_) | (with_reducible refine Touch.drewN ?_ _) | (with_reducible refine Touch.alloc ?_ _) | (with_reducible refine Touch.setCell ?_ _ _ _ ?_) | (with_reducible refine Touch.step (by assumption) ?_) | (with_reducible refine Touch.stepT (by assumption) ?_ ?_) | (intro _; first | rfl | trivial | omega | (simp; done) | (simp; omega)) | (intro _ _; first | omega | (simp; done) | (simp; omega)))))⟩
theorem mz_needed (p : Option Addr) (w : World) (h : Mz w p) : Calls Try.prog 62 #[.pointer p, cap0] w fun e w' => e = .returned (.tuple #[.int .i64 0, .bool false, .int .i64 13]) ∧ Below w.heap.size w w' := by
  have hbA : ∀ o, Below w.heap.size w (w.alloc o) := fun o => by (refine Touch.below0 ?_; (repeat' (first | (with_reducible exact Touch.refl _ _) | (with_reducible assumption) | (with_reducible refine Touch.drew ?_) | (with_reducible refine Touch.drewN ?_ _) | (with_reducible refine Touch.alloc ?_ _) | (with_reducible refine Touch.setCell ?_ _ _ _ ?_) | (with_reducible refine Touch.step (by assumption) ?_) | (with_reducible refine Touch.stepT (by assumption) ?_ ?_) | (intro _; first | rfl | trivial | omega | (simp; done) | (simp; omega)) | (intro _ _; first | omega | (simp; done) | (simp; omega)))))
  go_enter Try.func62, Try.ntmps62
  go_wp2_with (first
    | ((go_at_call 93; (with_reducible refine (cap_holds0 _).mono ?_); rintro e w' ⟨rfl, hb1⟩); have hbw := (hbA _).trans (hb1.mono (hbA _).size); have hm := h.below hbw)
    | (go_at_call 48; (with_reducible refine (mz_none p _ hm).mono ?_); rintro e w' ⟨rfl, rfl⟩))
  go_ret3
  exact ⟨rfl, hbw⟩
theorem mz_link (p : Option Addr) (w : World) (h : Mz w p) : Calls Try.prog 22 #[.pointer p, cap0] w fun e w' => e = .returned (.int .i64 13) ∧ Below w.heap.size w w' := by
  have hbA : ∀ o, Below w.heap.size w (w.alloc o) := fun o => by (refine Touch.below0 ?_; (repeat' (first | (with_reducible exact Touch.refl _ _) | (with_reducible assumption) | (with_reducible refine Touch.drew ?_) | (with_reducible refine Touch.drewN ?_ _) | (with_reducible refine Touch.alloc ?_ _) | (with_reducible refine Touch.setCell ?_ _ _ _ ?_) | (with_reducible refine Touch.step (by assumption) ?_) | (with_reducible refine Touch.stepT (by assumption) ?_ ?_) | (intro _; first | rfl | trivial | omega | (simp; done) | (simp; omega)) | (intro _ _; first | omega | (simp; done) | (simp; omega)))))
  go_enter Try.func22, Try.ntmps22
  go_wp2_with (first
    | ((go_at_call 62; (with_reducible refine (mz_needed p _ (h.below (hbA _))).mono ?_); rintro e w' ⟨rfl, hb1⟩); have hbw := (hbA _).trans (hb1.mono (hbA _).size)))
  go_ret
  exact ⟨rfl, hbw⟩
theorem mz_unlink (p : Option Addr) (w : World) (h : Mz w p) : Calls Try.prog 23 #[.pointer p, cap0] w fun e w' => e = .returned (.int .i64 13) ∧ Below w.heap.size w w' := by
  have hbA : ∀ o, Below w.heap.size w (w.alloc o) := fun o => by (refine Touch.below0 ?_; (repeat' (first | (with_reducible exact Touch.refl _ _) | (with_reducible assumption) | (with_reducible refine Touch.drew ?_) | (with_reducible refine Touch.drewN ?_ _) | (with_reducible refine Touch.alloc ?_ _) | (with_reducible refine Touch.setCell ?_ _ _ _ ?_) | (with_reducible refine Touch.step (by assumption) ?_) | (with_reducible refine Touch.stepT (by assumption) ?_ ?_) | (intro _; first | rfl | trivial | omega | (simp; done) | (simp; omega)) | (intro _ _; first | omega | (simp; done) | (simp; omega)))))
  go_enter Try.func23, Try.ntmps23
  go_wp2_with (first
    | ((go_at_call 62; (with_reducible refine (mz_needed p _ (h.below (hbA _))).mono ?_); rintro e w' ⟨rfl, hb1⟩); have hbw := (hbA _).trans (hb1.mono (hbA _).size)))
  go_ret
  exact ⟨rfl, hbw⟩
end Go.Proofs.Ytejdfdllgobnhaa
