/- A machine that nobody made. -/
import Derived.Test.YtejdfdllgobnhaaGreatProg
import Derived.Test.YtejdfdllgobnhaaGreatBase
set_option linter.unusedVariables false
set_option linter.unusedSimpArgs false
namespace Go.Proofs.YtejdfdllgobnhaaGreat
open Go.RowKit

def Mz (w : World) (p : Option Addr) : Prop := p = none ∨ ∃ b, p = some ⟨b, 0, none⟩ ∧ w.cell? ⟨b, 0, none⟩ = some (.pointer none)
theorem Mz.nil (w : World) : Mz w none := .inl rfl
theorem Mz.below {w w' : World} {p : Option Addr} (h : Mz w p) (hb : Below w.heap.size w w') : Mz w' p := by
  rcases h with h | ⟨b, h, hc⟩
  · exact .inl h
  · exact .inr ⟨b, h, by rw [hb.cell (p := ⟨b, 0, none⟩) (lt_of_cell hc)]; exact hc⟩
abbrev cap0 : Value := .agg #[.int .i64 0, .int .i64 0, .int .i64 0, .int .i64 0, .int .i64 0, .int .i64 0]


theorem clk_now_nil (w : World) : Calls Tryz.prog 185 #[.pointer none] w fun e w' => e = .returned (.int .i64 0) ∧ w = w' := by
  have hn : Calls Tryz.prog 227 #[.pointer none] w fun e w' => e = .returned (.bool true) ∧ w = w' := by
    go_enter Tryz.func227, Tryz.ntmps227
    go_wp2
    go_ret
    exact ⟨rfl, rfl⟩
  go_enter Tryz.func185, Tryz.ntmps185
  go_wp2_with ((go_at_call 227; (with_reducible refine (hn).mono ?_); rintro e w' ⟨rfl, rfl⟩))
  go_ret
  exact ⟨rfl, rfl⟩
theorem mz_none (p : Option Addr) (w : World) (h : Mz w p) : Calls Tryz.prog 125 #[.pointer p] w fun e w' => e = .returned (.bool true) ∧ w = w' := by
  (rcases (h) with rfl | ⟨b, rfl, hb⟩) <;> (go_enter Tryz.func125, Tryz.ntmps125; go_wp2; go_ret; exact ⟨rfl, rfl⟩)
theorem mz_mem (p : Option Addr) (w : World) (h : Mz w p) : Calls Tryz.prog 30 #[.pointer p] w fun e w' => e = .returned (.pointer none) ∧ w = w' := by
  go_enter Tryz.func30, Tryz.ntmps30
  go_wp2_with (first
    | (go_at_call 125; (with_reducible refine (mz_none p w h).mono ?_); rintro e w' ⟨rfl, rfl⟩))
  go_ret
  exact ⟨rfl, rfl⟩
theorem mz_clock (p : Option Addr) (w : World) (h : Mz w p) : Calls Tryz.prog 92 #[.pointer p] w fun e w' => e = .returned (.pointer none) ∧ w = w' := by
  go_enter Tryz.func92, Tryz.ntmps92
  go_wp2_with (first
    | (go_at_call 125; (with_reducible refine (mz_none p w h).mono ?_); rintro e w' ⟨rfl, rfl⟩))
  go_ret
  exact ⟨rfl, rfl⟩
theorem mz_typ (p : Option Addr) (w : World) (h : Mz w p) : Calls Tryz.prog 97 #[.pointer p] w fun e w' => e = .returned (.pointer none) ∧ w = w' := by
  go_enter Tryz.func97, Tryz.ntmps97
  go_wp2_with (first
    | (go_at_call 125; (with_reducible refine (mz_none p w h).mono ?_); rintro e w' ⟨rfl, rfl⟩))
  go_ret
  exact ⟨rfl, rfl⟩
theorem mz_live (p : Option Addr) (w : World) (h : Mz w p) : Calls Tryz.prog 35 #[.pointer p] w fun e w' => e = .returned (.pointer none) ∧ w = w' := by
  go_enter Tryz.func35, Tryz.ntmps35
  go_wp2_with (first
    | (go_at_call 125; (with_reducible refine (mz_none p w h).mono ?_); rintro e w' ⟨rfl, rfl⟩))
  go_ret
  exact ⟨rfl, rfl⟩
theorem mz_lines (p : Option Addr) (w : World) (h : Mz w p) : Calls Tryz.prog 111 #[.pointer p] w fun e w' => e = .returned (.pointer none) ∧ w = w' := by
  go_enter Tryz.func111, Tryz.ntmps111
  go_wp2_with (first
    | (go_at_call 125; (with_reducible refine (mz_none p w h).mono ?_); rintro e w' ⟨rfl, rfl⟩))
  go_ret
  exact ⟨rfl, rfl⟩
theorem mz_cores (p : Option Addr) (w : World) (h : Mz w p) : Calls Tryz.prog 83 #[.pointer p] w fun e w' => e = .returned (.int .i64 0) ∧ w = w' := by
  go_enter Tryz.func83, Tryz.ntmps83
  go_wp2_with (first
    | (go_at_call 125; (with_reducible refine (mz_none p w h).mono ?_); rintro e w' ⟨rfl, rfl⟩))
  go_ret
  exact ⟨rfl, rfl⟩
theorem mz_floors (p : Option Addr) (w : World) (h : Mz w p) : Calls Tryz.prog 104 #[.pointer p] w fun e w' => e = .returned (.tuple #[.int .i64 (-1), .int .i64 (-1)]) ∧ w = w' := by
  go_enter Tryz.func104, Tryz.ntmps104
  go_wp2_with (first
    | (go_at_call 125; (with_reducible refine (mz_none p w h).mono ?_); rintro e w' ⟨rfl, rfl⟩))
  go_ret2
  exact ⟨rfl, rfl⟩
theorem mz_core (p : Option Addr) (i : Int) (w : World) (h : Mz w p) : Calls Tryz.prog 116 #[.pointer p, .int .i64 i] w fun e w' => e = .returned (.pointer none) ∧ w = w' := by
  go_enter Tryz.func116, Tryz.ntmps116
  go_wp2_with (first
    | (go_at_call 125; (with_reducible refine (mz_none p w h).mono ?_); rintro e w' ⟨rfl, rfl⟩))
  go_ret
  exact ⟨rfl, rfl⟩
theorem mz_tlb (p : Option Addr) (i : Int) (w : World) (h : Mz w p) : Calls Tryz.prog 19 #[.pointer p, .int .i64 i] w fun e w' => e = .returned (.pointer none) ∧ w = w' := by
  go_enter Tryz.func19, Tryz.ntmps19
  go_wp2_with (first
    | (go_at_call 116; (with_reducible refine (mz_core p i w h).mono ?_); rintro e w' ⟨rfl, rfl⟩))
  go_ret
  exact ⟨rfl, rfl⟩
theorem mz_regs (p : Option Addr) (i : Int) (w : World) (h : Mz w p) : Calls Tryz.prog 20 #[.pointer p, .int .i64 i] w fun e w' => e = .returned (.pointer none) ∧ w = w' := by
  go_enter Tryz.func20, Tryz.ntmps20
  go_wp2_with (first
    | (go_at_call 116; (with_reducible refine (mz_core p i w h).mono ?_); rintro e w' ⟨rfl, rfl⟩))
  go_ret
  exact ⟨rfl, rfl⟩
theorem mz_cur (p : Option Addr) (i : Int) (w : World) (h : Mz w p) : Calls Tryz.prog 21 #[.pointer p, .int .i64 i] w fun e w' => e = .returned (.int .i64 (-1)) ∧ w = w' := by
  go_enter Tryz.func21, Tryz.ntmps21
  go_wp2_with (first
    | (go_at_call 116; (with_reducible refine (mz_core p i w h).mono ?_); rintro e w' ⟨rfl, rfl⟩))
  go_ret
  exact ⟨rfl, rfl⟩
theorem mz_now (p : Option Addr) (w : World) (h : Mz w p) : Calls Tryz.prog 99 #[.pointer p] w fun e w' => e = .returned (.int .i64 0) ∧ w = w' := by
  go_enter Tryz.func99, Tryz.ntmps99
  go_wp2_with (first
    | (go_at_call 92; (with_reducible refine (mz_clock p w h).mono ?_); rintro e w' ⟨rfl, rfl⟩)
    | (go_at_call 185; (with_reducible refine (clk_now_nil w).mono ?_); rintro e w' ⟨rfl, rfl⟩))
  go_ret
  exact ⟨rfl, rfl⟩
theorem mz_retype (p : Option Addr) (f t : Int) (w : World) (h : Mz w p) : Calls Tryz.prog 33 #[.pointer p, .int .i64 f, .int .i64 t] w fun e w' => e = .returned (.int .i64 13) ∧ w = w' := by
  go_enter Tryz.func33, Tryz.ntmps33
  go_wp2_with (first
    | (go_at_call 125; (with_reducible refine (mz_none p w h).mono ?_); rintro e w' ⟨rfl, rfl⟩))
  go_ret
  exact ⟨rfl, rfl⟩
theorem mz_flush (p : Option Addr) (i : Int) (w : World) (h : Mz w p) : Calls Tryz.prog 88 #[.pointer p, .int .i64 i] w fun e w' => e = .returned (.tuple #[.int .i64 0, .int .i64 13]) ∧ w = w' := by
  go_enter Tryz.func88, Tryz.ntmps88
  go_wp2_with (first
    | (go_at_call 125; (with_reducible refine (mz_none p w h).mono ?_); rintro e w' ⟨rfl, rfl⟩))
  go_ret2
  exact ⟨rfl, rfl⟩
theorem mz_setcur (p : Option Addr) (i f : Int) (w : World) (h : Mz w p) : Calls Tryz.prog 90 #[.pointer p, .int .i64 i, .int .i64 f] w fun e w' => e = .returned (.int .i64 13) ∧ w = w' := by
  go_enter Tryz.func90, Tryz.ntmps90
  go_wp2_with (first
    | (go_at_call 116; (with_reducible refine (mz_core p i w h).mono ?_); rintro e w' ⟨rfl, rfl⟩)
    | (go_at_call 125; (with_reducible refine (mz_none p w h).mono ?_); rintro e w' ⟨rfl, rfl⟩))
  go_ret
  exact ⟨rfl, rfl⟩
theorem cap_holds0 (w : World) : Calls Tryz.prog 225 #[cap0] w fun e w' => e = .returned (.tuple #[.int .i64 0, .bool false]) ∧ Below w.heap.size w w' := by
  go_enter Tryz.func225, Tryz.ntmps225
  go_wp2
  go_ret2
  exact ⟨rfl, by (refine Touch.below0 ?_; (repeat' (first | (with_reducible exact Touch.refl _ _) | (with_reducible assumption) | (with_reducible refine Touch.drew ?_) | (with_reducible refine Touch.drewN ?_ _) | (with_reducible refine Touch.alloc ?_ _) | (with_reducible refine Touch.setCell ?_ _ _ _ ?_) | (with_reducible refine Touch.step (by assumption) ?_) | (with_reducible refine Touch.stepT (by assumption) ?_ ?_) | (intro _; first | rfl | trivial | omega | (simp; done) | (simp; omega)) | (intro _ _; first | omega | (simp; done) | (simp; omega)))))⟩
theorem mz_needed (p : Option Addr) (w : World) (h : Mz w p) : Calls Tryz.prog 170 #[.pointer p, cap0] w fun e w' => e = .returned (.tuple #[.int .i64 0, .bool false, .int .i64 13]) ∧ Below w.heap.size w w' := by
  have hbA : ∀ o, Below w.heap.size w (w.alloc o) := fun o => by (refine Touch.below0 ?_; (repeat' (first | (with_reducible exact Touch.refl _ _) | (with_reducible assumption) | (with_reducible refine Touch.drew ?_) | (with_reducible refine Touch.drewN ?_ _) | (with_reducible refine Touch.alloc ?_ _) | (with_reducible refine Touch.setCell ?_ _ _ _ ?_) | (with_reducible refine Touch.step (by assumption) ?_) | (with_reducible refine Touch.stepT (by assumption) ?_ ?_) | (intro _; first | rfl | trivial | omega | (simp; done) | (simp; omega)) | (intro _ _; first | omega | (simp; done) | (simp; omega)))))
  go_enter Tryz.func170, Tryz.ntmps170
  go_wp2_with (first
    | ((go_at_call 225; (with_reducible refine (cap_holds0 _).mono ?_); rintro e w' ⟨rfl, hb1⟩); have hbw := (hbA _).trans (hb1.mono (hbA _).size); have hm := h.below hbw)
    | (go_at_call 125; (with_reducible refine (mz_none p _ hm).mono ?_); rintro e w' ⟨rfl, rfl⟩))
  go_ret3
  exact ⟨rfl, hbw⟩
theorem mz_link (p : Option Addr) (w : World) (h : Mz w p) : Calls Tryz.prog 84 #[.pointer p, cap0] w fun e w' => e = .returned (.int .i64 13) ∧ Below w.heap.size w w' := by
  have hbA : ∀ o, Below w.heap.size w (w.alloc o) := fun o => by (refine Touch.below0 ?_; (repeat' (first | (with_reducible exact Touch.refl _ _) | (with_reducible assumption) | (with_reducible refine Touch.drew ?_) | (with_reducible refine Touch.drewN ?_ _) | (with_reducible refine Touch.alloc ?_ _) | (with_reducible refine Touch.setCell ?_ _ _ _ ?_) | (with_reducible refine Touch.step (by assumption) ?_) | (with_reducible refine Touch.stepT (by assumption) ?_ ?_) | (intro _; first | rfl | trivial | omega | (simp; done) | (simp; omega)) | (intro _ _; first | omega | (simp; done) | (simp; omega)))))
  go_enter Tryz.func84, Tryz.ntmps84
  go_wp2_with (first
    | ((go_at_call 170; (with_reducible refine (mz_needed p _ (h.below (hbA _))).mono ?_); rintro e w' ⟨rfl, hb1⟩); have hbw := (hbA _).trans (hb1.mono (hbA _).size)))
  go_ret
  exact ⟨rfl, hbw⟩
theorem mz_unlink (p : Option Addr) (w : World) (h : Mz w p) : Calls Tryz.prog 86 #[.pointer p, cap0] w fun e w' => e = .returned (.int .i64 13) ∧ Below w.heap.size w w' := by
  have hbA : ∀ o, Below w.heap.size w (w.alloc o) := fun o => by (refine Touch.below0 ?_; (repeat' (first | (with_reducible exact Touch.refl _ _) | (with_reducible assumption) | (with_reducible refine Touch.drew ?_) | (with_reducible refine Touch.drewN ?_ _) | (with_reducible refine Touch.alloc ?_ _) | (with_reducible refine Touch.setCell ?_ _ _ _ ?_) | (with_reducible refine Touch.step (by assumption) ?_) | (with_reducible refine Touch.stepT (by assumption) ?_ ?_) | (intro _; first | rfl | trivial | omega | (simp; done) | (simp; omega)) | (intro _ _; first | omega | (simp; done) | (simp; omega)))))
  go_enter Tryz.func86, Tryz.ntmps86
  go_wp2_with (first
    | ((go_at_call 170; (with_reducible refine (mz_needed p _ (h.below (hbA _))).mono ?_); rintro e w' ⟨rfl, hb1⟩); have hbw := (hbA _).trans (hb1.mono (hbA _).size)))
  go_ret
  exact ⟨rfl, hbw⟩
end Go.Proofs.YtejdfdllgobnhaaGreat
