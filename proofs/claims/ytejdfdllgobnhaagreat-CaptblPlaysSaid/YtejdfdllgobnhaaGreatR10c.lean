/- The reference's heads: Make, Get. -/
import Derived.Test.YtejdfdllgobnhaaGreatR10b
import Derived.Test.YtejdfdllgobnhaaGreatHeadGet
set_option linter.unusedVariables false
set_option linter.unusedSimpArgs false
namespace Go.Proofs.YtejdfdllgobnhaaGreat
open Go.RowKit
theorem rclear_of (B : RMB) (m : MemS) (f e : Int) (w : World) (h : RMemIs w B m) (ok : m.Ok) (he : m.can f 0 = e) : Calls Tryz.prog 136 #[.pointer (some ⟨B.v, 0, none⟩), .int .i64 f] w fun e' w' =>
    e' = .returned (.int .i64 e) ∧ RMemIs w' B (m.clear f) ∧ Touch (B.own m.n) w w' := by subst he; exact r2_clear B m f w h ok
theorem RMemIs.own_lt {w : World} {B : RMB} {m : MemS} (h : RMemIs w B m) {x : Nat} (hx : w.heap.size ≤ x) : ¬ B.own m.n x := fun ⟨j, hj, e⟩ => by have := (h.rows j hj).lt; omega
set_option maxHeartbeats 4000000 in
theorem r10_make (B : RMB) (m : MemS) (f : Int) (hd : HeadS) (w : World) (h : RMemIs w B m) (ok : m.Ok) : Calls Tryz.prog 140 #[.pointer (some ⟨B.v, 0, none⟩), .int .i64 f, hd.v] w fun e w' =>
    e = .returned (.int .i64 (if headOk m f hd then 0 else 1)) ∧ RMemIs w' B (m.make f hd) ∧ Touch (B.own m.n) w w' := by
  have hR := r10_right hd
  have hown : ∀ x, w.heap.size ≤ x → ¬ B.own m.n x := fun x hx => h.own_lt hx
  unfold MemS.make
  cases hr : hd.right
  · have e1 : headOk m f hd = false := by unfold headOk; rw [hr]; rfl
    simp only [e1, Bool.false_eq_true, if_false]
    rw [hr] at hR
    clear e1 hr
    obtain ⟨k, lv, fz, tm⟩ := hd
    unfold HeadS.v at *
    dsimp only at *
    have hw0 : Below w.heap.size w (w.alloc (.cells #[.int .i64 k, .int .i64 lv, .bool fz, .int .i64 tm] 195 (0, 0))) := by (refine Touch.below0 ?_; (repeat' (first | (with_reducible exact Touch.refl _ _) | (with_reducible assumption) | (with_reducible refine Touch.drew ?_) | (with_reducible refine Touch.drewN ?_ _) | (with_reducible refine Touch.alloc ?_ _) | (with_reducible refine Touch.setCell ?_ _ _ _ ?_) | (with_reducible refine Touch.step (by assumption) ?_) | (with_reducible refine Touch.stepT (by assumption) ?_ ?_) | (intro _; first | rfl | trivial | omega | (simp; done) | (simp; omega)) | (intro _ _; first | omega | (simp; done) | (simp; omega)))))
    go_enter Tryz.func140, Tryz.ntmps140
    go_wp2_with ((go_at_call 208; (with_reducible refine (hR _).mono ?_); rintro e w' ⟨rfl, hx⟩))
    go_ret
    have hb := hw0.trans (hx.mono hw0.size)
    exact ⟨rfl, h.after hb, Touch.of_below hb⟩
  rw [hr] at hR
  cases hf : m.has f
  · have e1 : headOk m f hd = false := by unfold headOk; rw [hf]; simp
    simp only [e1, Bool.false_eq_true, if_false]
    have CL := fun w h => rclear_of B m f 1 w h ok (MemS.can_out hf)
    rw [show m.clear f = m by unfold MemS.clear; rw [MemS.can_out hf, if_neg (by decide)]] at CL
    clear e1 hr hf
    obtain ⟨k, lv, fz, tm⟩ := hd
    unfold HeadS.v at *
    dsimp only at *
    have hw0 : Below w.heap.size w (w.alloc (.cells #[.int .i64 k, .int .i64 lv, .bool fz, .int .i64 tm] 195 (0, 0))) := by (refine Touch.below0 ?_; (repeat' (first | (with_reducible exact Touch.refl _ _) | (with_reducible assumption) | (with_reducible refine Touch.drew ?_) | (with_reducible refine Touch.drewN ?_ _) | (with_reducible refine Touch.alloc ?_ _) | (with_reducible refine Touch.setCell ?_ _ _ _ ?_) | (with_reducible refine Touch.step (by assumption) ?_) | (with_reducible refine Touch.stepT (by assumption) ?_ ?_) | (intro _; first | rfl | trivial | omega | (simp; done) | (simp; omega)) | (intro _ _; first | omega | (simp; done) | (simp; omega)))))
    have h1 := h.after hw0
    go_enter Tryz.func140, Tryz.ntmps140
    go_wp2_with (first
      | ((go_at_call 208; (with_reducible refine (hR _).mono ?_); rintro e w' ⟨rfl, hx⟩); have h2 := h1.after hx; have hw2 := hw0.trans (hx.mono hw0.size))
      | ((go_at_call 136; (with_reducible refine (CL _ h2).mono ?_); rintro e w' ⟨rfl, h3, ht⟩)))
    go_ret
    exact ⟨rfl, h3, (Touch.of_below hw2).trans ht⟩
  have e1 : headOk m f hd = true := by unfold headOk; rw [hr, hf]; rfl
  simp only [e1, if_true]
  have CL := fun w h => rclear_of B m f 0 w h ok (MemS.can_in hf (by omega) (by omega))
  have PT := fun w h => r10_put B (m.clear f) f hd w h (MemS.clear_ok' ok f)
  rw [headOk_clear, e1, if_pos rfl, MemS.clear_n] at PT
  generalize (m.clear f).head f hd = M2 at *
  generalize m.clear f = M1 at *
  clear e1 hr hf
  obtain ⟨k, lv, fz, tm⟩ := hd
  unfold HeadS.v at *
  dsimp only at *
  have hw0 : Below w.heap.size w (w.alloc (.cells #[.int .i64 k, .int .i64 lv, .bool fz, .int .i64 tm] 195 (0, 0))) := by (refine Touch.below0 ?_; (repeat' (first | (with_reducible exact Touch.refl _ _) | (with_reducible assumption) | (with_reducible refine Touch.drew ?_) | (with_reducible refine Touch.drewN ?_ _) | (with_reducible refine Touch.alloc ?_ _) | (with_reducible refine Touch.setCell ?_ _ _ _ ?_) | (with_reducible refine Touch.step (by assumption) ?_) | (with_reducible refine Touch.stepT (by assumption) ?_ ?_) | (intro _; first | rfl | trivial | omega | (simp; done) | (simp; omega)) | (intro _ _; first | omega | (simp; done) | (simp; omega)))))
  have hb0 := heap_new w (.cells #[.int .i64 k, .int .i64 lv, .bool fz, .int .i64 tm] 195 (0, 0))
  have h1 := h.after hw0
  go_enter Tryz.func140, Tryz.ntmps140
  go_wp2_with (first
    | ((go_at_call 208; (with_reducible refine (hR _).mono ?_); rintro e w' ⟨rfl, hx⟩); have h2 := h1.after hx; have hw2 := hw0.trans (hx.mono hw0.size); have hb2 := (hx.block _ (lt_of_block hb0)).trans hb0)
    | ((go_at_call 136; (with_reducible refine (CL _ h2).mono ?_); rintro e w' ⟨rfl, h3, ht⟩); have hT := (Touch.of_below hw2).trans ht; have hb3 := ht.at hb2 (hown _ (Nat.le_refl _)); have g0 := cell_of hb3 0; have g1 := cell_of hb3 1; have g2 := cell_of hb3 2; have g3 := cell_of hb3 3; dsimp at g0 g1 g2 g3)
    | ((go_at_call 167; (with_reducible refine (PT _ h3).mono ?_); rintro e w' ⟨rfl, h4, ht2⟩)))
  go_ret
  exact ⟨rfl, h4, hT.trans ht2⟩
theorem head_prt (x : Nat) : prtL x headN headO 3 = [.int .u64 ((x : Int) % 16), .int .u64 ((x : Int) / 16 % 2), .int .u64 ((x : Int) / 32 % 2)] := by
  unfold prtL
  simp only [List.range, List.range.loop, List.map]
  rw [show headO 0 = 0 from rfl, show headO 1 = 4 from rfl, show headO 2 = 5 from rfl, show headN 0 = 4 from rfl, show headN 1 = 1 from rfl, show headN 2 = 1 from rfl]
  have e0 : ((x / 2 ^ 0 % 2 ^ 4 : Nat) : Int) = (x : Int) % 16 := by omega
  have e1 : ((x / 2 ^ 4 % 2 ^ 1 : Nat) : Int) = (x : Int) / 16 % 2 := by omega
  have e2 : ((x / 2 ^ 5 % 2 ^ 1 : Nat) : Int) = (x : Int) / 32 % 2 := by omega
  rw [e0, e1, e2]
theorem r10_unpack_no (v : Int) (bn : Nat) (w : World) (h0 : 0 ≤ v) (h1 : v < 18446744073709551616) (hv : 64 ≤ v) (hn : w.heap[bn]? = some (.cells #[.int .i64 4, .int .i64 1, .int .i64 1] 3 (0, 0))) :
    Calls Tryz.prog 219 #[.slice (some ⟨bn, 0, none⟩) 3 3, .int .u64 v] w fun e w' => e = .returned (.tuple #[.slice none 0 0, .int .i64 1]) ∧ Below w.heap.size w w' := by
  obtain ⟨x, rfl⟩ : ∃ x : Nat, v = x := ⟨v.toNat, by omega⟩
  exact r01_unpack_no (L := 3) x bn 3 w headWS (by decide) (by omega) (fun j hj => by rw [cell_of hn]; match j, hj with | 0, _ => rfl | 1, _ => rfl | 2, _ => rfl) (lt_of_block hn) (by rw [show headO 3 = 6 from rfl]; omega)
theorem r10_unpack_yes (v : Int) (bn : Nat) (w : World) (h0 : 0 ≤ v) (hv : v < 64) (hn : w.heap[bn]? = some (.cells #[.int .i64 4, .int .i64 1, .int .i64 1] 3 (0, 0))) :
    Calls Tryz.prog 219 #[.slice (some ⟨bn, 0, none⟩) 3 3, .int .u64 v] w fun e w' => ∃ g cap, e = .returned (.tuple #[.slice (some ⟨g, 0, none⟩) 3 cap, .int .i64 0]) ∧ Below w.heap.size w w' ∧
      w'.cell? ⟨g, 0, none⟩ = some (.int .u64 (v % 16)) ∧ w'.cell? ⟨g, 1, none⟩ = some (.int .u64 (v / 16 % 2)) ∧ w'.cell? ⟨g, 2, none⟩ = some (.int .u64 (v / 32 % 2)) := by
  obtain ⟨x, rfl⟩ : ∃ x : Nat, v = x := ⟨v.toNat, by omega⟩
  refine (r01_unpack_yes (L := 3) x bn 3 w headWS (by decide) (by omega) (fun j hj => by rw [cell_of hn]; match j, hj with | 0, _ => rfl | 1, _ => rfl | 2, _ => rfl) (lt_of_block hn) (by rw [show headO 3 = 6 from rfl]; omega)).mono ?_
  rintro e w' ⟨g, cap, he, hr, _, hb⟩
  rw [head_prt] at hr
  exact ⟨g, cap, he, hb, hr.at (j := 0) rfl, hr.at (j := 1) rfl, hr.at (j := 2) rfl⟩
end Go.Proofs.YtejdfdllgobnhaaGreat
