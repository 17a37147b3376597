/- CaptblPlays: one act (Put, Cons), and any act. -/
import Derived.Test.YtejdfdllgobnhaaGreatAct13
set_option linter.unusedVariables false
set_option linter.unusedSimpArgs false
namespace Go.Proofs.YtejdfdllgobnhaaGreat
open Go.RowKit
section
variable {a g : Nat} {B : RMB} {m : MemS} {x1 x2 x3 c0 c1 c2 c3 c4 c5 : Int} {w : World}
set_option maxHeartbeats 4000000 in
set_option maxRecDepth 100000 in
theorem act_put1 (h : Two w a g B m) : Calls Tryz.prog 10 #[.pointer (some ⟨a, 0, none⟩), .pointer (some ⟨B.v, 0, none⟩), .int .i64 1, .int .i64 x1, .int .i64 x2, .int .i64 x3, .agg #[.int .i64 c0, .int .i64 c1, .int .i64 c2, .int .i64 c3, .int .i64 c4, .int .i64 c5]] w fun e w' =>
    e = .returned (.bool true) ∧ ∃ m', Two w' a g B m' ∧ m'.n = m.n ∧ Touch (B.two g m.n) w w' := by
  have hw0 : Below w.heap.size w (w.alloc (.cells #[.int .i64 c0, .int .i64 c1, .int .i64 c2, .int .i64 c3, .int .i64 c4, .int .i64 c5] 32 (0, 0))) := by (refine Touch.below0 ?_; (repeat' (first | (with_reducible exact Touch.refl _ _) | (with_reducible assumption) | (with_reducible refine Touch.drew ?_) | (with_reducible refine Touch.drewN ?_ _) | (with_reducible refine Touch.alloc ?_ _) | (with_reducible refine Touch.setCell ?_ _ _ _ ?_) | (with_reducible refine Touch.step (by assumption) ?_) | (with_reducible refine Touch.stepT (by assumption) ?_ ?_) | (intro _; first | rfl | trivial | omega | (simp; done) | (simp; omega)) | (intro _ _; first | omega | (simp; done) | (simp; omega)))))
  have hX := heap_new w (.cells #[.int .i64 c0, .int .i64 c1, .int .i64 c2, .int .i64 c3, .int .i64 c4, .int .i64 c5] 32 (0, 0))
  have h1 := h.after hw0
  have ok := h.ok
  have own1 : ∀ x, w.heap.size ≤ x → ¬ B.own m.n x := fun x hx => h.r.own_lt hx
  have hlg := h.p.ltg
  have nX : ¬ B.two g m.n w.heap.size := fun e => by
    rcases e with e | e
    · omega
    · exact own1 _ (Nat.le_refl _) e
  have P := fun w h => tbl_put a g m x1 x2 x3 ⟨c0, c1, c2, c3, c4, c5⟩ w h ok
  have R := fun w h => r13_put B m x1 x2 x3 ⟨c0, c1, c2, c3, c4, c5⟩ w h ok
  have okM := MemS.tput_ok ok x1 x2 ⟨c0, c1, c2, c3, c4, c5⟩ x3
  have hn := MemS.tput_n m x1 x2 ⟨c0, c1, c2, c3, c4, c5⟩ x3
  have PR := fun w h => tbl_Room a g (m.tput x1 x2 ⟨c0, c1, c2, c3, c4, c5⟩ x3) x1 x2 x3 w h okM
  have RR := fun w h => r13_room B (m.tput x1 x2 ⟨c0, c1, c2, c3, c4, c5⟩ x3) x1 x2 x3 w h okM
  generalize tputE m x1 x2 ⟨c0, c1, c2, c3, c4, c5⟩ x3 = E at *
  generalize m.tput x1 x2 ⟨c0, c1, c2, c3, c4, c5⟩ x3 = M at *
  generalize roomE M x1 x2 x3 = RE at *
  unfold CapS.v at P R
  dsimp only at P R
  go_enter Tryz.func10, Tryz.ntmps10
  go_upto_region 6 with (fail)
  generalize w.alloc (.cells #[.int .i64 c0, .int .i64 c1, .int .i64 c2, .int .i64 c3, .int .i64 c4, .int .i64 c5] 32 (0, 0)) = W at *
  have kT : ∀ y, Touch (B.two g m.n) W y → y.cell? ⟨w.heap.size, 0, none⟩ = some (.int .i64 c0) ∧ y.cell? ⟨w.heap.size, 1, none⟩ = some (.int .i64 c1) ∧ y.cell? ⟨w.heap.size, 2, none⟩ = some (.int .i64 c2) ∧ y.cell? ⟨w.heap.size, 3, none⟩ = some (.int .i64 c3) ∧ y.cell? ⟨w.heap.size, 4, none⟩ = some (.int .i64 c4) ∧ y.cell? ⟨w.heap.size, 5, none⟩ = some (.int .i64 c5) := fun y hT => by
    have q := hT.at hX nX
    have z0 := cell_of q 0; have z1 := cell_of q 1; have z2 := cell_of q 2; have z3 := cell_of q 3; have z4 := cell_of q 4; have z5 := cell_of q 5
    dsimp at z0 z1 z2 z3 z4 z5
    exact ⟨z0, z1, z2, z3, z4, z5⟩
  have b0 : Below W.heap.size W W.drew := (Below.refl _ W).drew
  have d0 : Touch (B.two g m.n) W W.drew := Touch.of_below b0
  have hD := h1.after b0
  go_region_held3 (fun y => y.cell? ⟨w.heap.size, 0, none⟩ = some (.int .i64 c0) ∧ y.cell? ⟨w.heap.size, 1, none⟩ = some (.int .i64 c1) ∧ y.cell? ⟨w.heap.size, 2, none⟩ = some (.int .i64 c2) ∧ y.cell? ⟨w.heap.size, 3, none⟩ = some (.int .i64 c3) ∧ y.cell? ⟨w.heap.size, 4, none⟩ = some (.int .i64 c4) ∧ y.cell? ⟨w.heap.size, 5, none⟩ = some (.int .i64 c5)) (first | (with_reducible exact kT _ d0) | (with_reducible refine kT _ ?_; with_reducible assumption))
    (first
      | (go_at_call 32; (with_reducible refine (P _ hD.p).mono ?_); rintro e w' ⟨rfl, hp, ht⟩; have hr := hD.rkeep ht; have t1 : Touch (B.two g m.n) W w' := d0.trans (ht.mono (fun _ _ hx => .inl hx)))
      | (go_at_call 40; (with_reducible refine (R _ hr).mono ?_); rintro e w' ⟨rfl, hr2, ht2⟩; have h2 := hD.both hp ht2 hr2 okM hn; have t2 : Touch (B.two g m.n) W w' := t1.trans (ht2.mono (fun _ _ hx => .inr hx)))
      | (go_at_call 55; (with_reducible refine (PR _ h2.p).mono ?_); rintro e w' ⟨rfl, hx⟩; have h3 := h2.after hx; have t3 : Touch (B.two g m.n) W w' := t2.trans (Touch.of_below hx))
      | (go_at_call 56; (with_reducible refine (RR _ h3.r).mono ?_); rintro e w' ⟨rfl, hx⟩; have h4 := h3.after hx; have t4 : Touch (B.two g m.n) W w' := t3.trans (Touch.of_below hx)))
  all_goals
    go_wp2
    go_ret
    exact ⟨ret_bool (by simp), M, h4, hn, (Touch.of_below hw0).trans t4⟩
set_option maxHeartbeats 4000000 in
set_option maxRecDepth 100000 in
theorem act_put2 (h : Two w a g B m) : Calls Tryz.prog 10 #[.pointer (some ⟨a, 0, none⟩), .pointer (some ⟨B.v, 0, none⟩), .int .i64 2, .int .i64 x1, .int .i64 x2, .int .i64 x3, .agg #[.int .i64 c0, .int .i64 c1, .int .i64 c2, .int .i64 c3, .int .i64 c4, .int .i64 c5]] w fun e w' =>
    e = .returned (.bool true) ∧ ∃ m', Two w' a g B m' ∧ m'.n = m.n ∧ Touch (B.two g m.n) w w' := by
  have hw0 : Below w.heap.size w (w.alloc (.cells #[.int .i64 c0, .int .i64 c1, .int .i64 c2, .int .i64 c3, .int .i64 c4, .int .i64 c5] 32 (0, 0))) := by (refine Touch.below0 ?_; (repeat' (first | (with_reducible exact Touch.refl _ _) | (with_reducible assumption) | (with_reducible refine Touch.drew ?_) | (with_reducible refine Touch.drewN ?_ _) | (with_reducible refine Touch.alloc ?_ _) | (with_reducible refine Touch.setCell ?_ _ _ _ ?_) | (with_reducible refine Touch.step (by assumption) ?_) | (with_reducible refine Touch.stepT (by assumption) ?_ ?_) | (intro _; first | rfl | trivial | omega | (simp; done) | (simp; omega)) | (intro _ _; first | omega | (simp; done) | (simp; omega)))))
  have hX := heap_new w (.cells #[.int .i64 c0, .int .i64 c1, .int .i64 c2, .int .i64 c3, .int .i64 c4, .int .i64 c5] 32 (0, 0))
  have h1 := h.after hw0
  have ok := h.ok
  have own1 : ∀ x, w.heap.size ≤ x → ¬ B.own m.n x := fun x hx => h.r.own_lt hx
  have hlg := h.p.ltg
  have nX : ¬ B.two g m.n w.heap.size := fun e => by
    rcases e with e | e
    · omega
    · exact own1 _ (Nat.le_refl _) e
  have P := fun w h => tbl_put a g m x1 x2 x3 ⟨c0, c1, c2, c3, c4, c5⟩ w h ok
  have R := fun w h => r13_put B m x1 x2 x3 ⟨c0, c1, c2, c3, c4, c5⟩ w h ok
  have okM := MemS.tput_ok ok x1 x2 ⟨c0, c1, c2, c3, c4, c5⟩ x3
  have hn := MemS.tput_n m x1 x2 ⟨c0, c1, c2, c3, c4, c5⟩ x3
  have PR := fun w h => tbl_Room a g (m.tput x1 x2 ⟨c0, c1, c2, c3, c4, c5⟩ x3) x1 x2 x3 w h okM
  have RR := fun w h => r13_room B (m.tput x1 x2 ⟨c0, c1, c2, c3, c4, c5⟩ x3) x1 x2 x3 w h okM
  generalize tputE m x1 x2 ⟨c0, c1, c2, c3, c4, c5⟩ x3 = E at *
  generalize m.tput x1 x2 ⟨c0, c1, c2, c3, c4, c5⟩ x3 = M at *
  generalize roomE M x1 x2 x3 = RE at *
  unfold CapS.v at P R
  dsimp only at P R
  go_enter Tryz.func10, Tryz.ntmps10
  go_upto_region 6 with (fail)
  generalize w.alloc (.cells #[.int .i64 c0, .int .i64 c1, .int .i64 c2, .int .i64 c3, .int .i64 c4, .int .i64 c5] 32 (0, 0)) = W at *
  have kT : ∀ y, Touch (B.two g m.n) W y → y.cell? ⟨w.heap.size, 0, none⟩ = some (.int .i64 c0) ∧ y.cell? ⟨w.heap.size, 1, none⟩ = some (.int .i64 c1) ∧ y.cell? ⟨w.heap.size, 2, none⟩ = some (.int .i64 c2) ∧ y.cell? ⟨w.heap.size, 3, none⟩ = some (.int .i64 c3) ∧ y.cell? ⟨w.heap.size, 4, none⟩ = some (.int .i64 c4) ∧ y.cell? ⟨w.heap.size, 5, none⟩ = some (.int .i64 c5) := fun y hT => by
    have q := hT.at hX nX
    have z0 := cell_of q 0; have z1 := cell_of q 1; have z2 := cell_of q 2; have z3 := cell_of q 3; have z4 := cell_of q 4; have z5 := cell_of q 5
    dsimp at z0 z1 z2 z3 z4 z5
    exact ⟨z0, z1, z2, z3, z4, z5⟩
  have b0 : Below W.heap.size W W.drew := (Below.refl _ W).drew
  have d0 : Touch (B.two g m.n) W W.drew := Touch.of_below b0
  have hD := h1.after b0
  go_region_held3 (fun y => y.cell? ⟨w.heap.size, 0, none⟩ = some (.int .i64 c0) ∧ y.cell? ⟨w.heap.size, 1, none⟩ = some (.int .i64 c1) ∧ y.cell? ⟨w.heap.size, 2, none⟩ = some (.int .i64 c2) ∧ y.cell? ⟨w.heap.size, 3, none⟩ = some (.int .i64 c3) ∧ y.cell? ⟨w.heap.size, 4, none⟩ = some (.int .i64 c4) ∧ y.cell? ⟨w.heap.size, 5, none⟩ = some (.int .i64 c5)) (first | (with_reducible exact kT _ d0) | (with_reducible refine kT _ ?_; with_reducible assumption))
    (first
      | (go_at_call 32; (with_reducible refine (P _ hD.p).mono ?_); rintro e w' ⟨rfl, hp, ht⟩; have hr := hD.rkeep ht; have t1 : Touch (B.two g m.n) W w' := d0.trans (ht.mono (fun _ _ hx => .inl hx)))
      | (go_at_call 40; (with_reducible refine (R _ hr).mono ?_); rintro e w' ⟨rfl, hr2, ht2⟩; have h2 := hD.both hp ht2 hr2 okM hn; have t2 : Touch (B.two g m.n) W w' := t1.trans (ht2.mono (fun _ _ hx => .inr hx)))
      | (go_at_call 55; (with_reducible refine (PR _ h2.p).mono ?_); rintro e w' ⟨rfl, hx⟩; have h3 := h2.after hx; have t3 : Touch (B.two g m.n) W w' := t2.trans (Touch.of_below hx))
      | (go_at_call 56; (with_reducible refine (RR _ h3.r).mono ?_); rintro e w' ⟨rfl, hx⟩; have h4 := h3.after hx; have t4 : Touch (B.two g m.n) W w' := t3.trans (Touch.of_below hx)))
  all_goals
    go_wp2
    go_ret
    exact ⟨ret_bool (by simp), M, h4, hn, (Touch.of_below hw0).trans t4⟩
set_option maxHeartbeats 4000000 in
set_option maxRecDepth 100000 in
theorem act_cons (h : Two w a g B m) : Calls Tryz.prog 10 #[.pointer (some ⟨a, 0, none⟩), .pointer (some ⟨B.v, 0, none⟩), .int .i64 4, .int .i64 x1, .int .i64 x2, .int .i64 x3, .agg #[.int .i64 c0, .int .i64 c1, .int .i64 c2, .int .i64 c3, .int .i64 c4, .int .i64 c5]] w fun e w' =>
    e = .returned (.bool true) ∧ ∃ m', Two w' a g B m' ∧ m'.n = m.n ∧ Touch (B.two g m.n) w w' := by
  have hw0 : Below w.heap.size w (w.alloc (.cells #[.int .i64 c0, .int .i64 c1, .int .i64 c2, .int .i64 c3, .int .i64 c4, .int .i64 c5] 32 (0, 0))) := by (refine Touch.below0 ?_; (repeat' (first | (with_reducible exact Touch.refl _ _) | (with_reducible assumption) | (with_reducible refine Touch.drew ?_) | (with_reducible refine Touch.drewN ?_ _) | (with_reducible refine Touch.alloc ?_ _) | (with_reducible refine Touch.setCell ?_ _ _ _ ?_) | (with_reducible refine Touch.step (by assumption) ?_) | (with_reducible refine Touch.stepT (by assumption) ?_ ?_) | (intro _; first | rfl | trivial | omega | (simp; done) | (simp; omega)) | (intro _ _; first | omega | (simp; done) | (simp; omega)))))
  have hX := heap_new w (.cells #[.int .i64 c0, .int .i64 c1, .int .i64 c2, .int .i64 c3, .int .i64 c4, .int .i64 c5] 32 (0, 0))
  have h1 := h.after hw0
  have ok := h.ok
  have own1 : ∀ x, w.heap.size ≤ x → ¬ B.own m.n x := fun x hx => h.r.own_lt hx
  have hlg := h.p.ltg
  have nX : ¬ B.two g m.n w.heap.size := fun e => by
    rcases e with e | e
    · omega
    · exact own1 _ (Nat.le_refl _) e
  have P := fun w h => tbl_cons a g m x1 (Int.tmod x2 17) c2 x3 w h ok
  have R := fun w h => r13_cons B m x1 (Int.tmod x2 17) c2 x3 w h ok
  have okM := MemS.cons_ok ok x1 (Int.tmod x2 17) c2 x3
  have hn := MemS.cons_n m x1 (Int.tmod x2 17) c2 x3
  generalize consE m x1 (Int.tmod x2 17) c2 x3 = E at *
  generalize m.cons x1 (Int.tmod x2 17) c2 x3 = M at *
  go_enter Tryz.func10, Tryz.ntmps10
  go_upto_region 12 with (fail)
  generalize w.alloc (.cells #[.int .i64 c0, .int .i64 c1, .int .i64 c2, .int .i64 c3, .int .i64 c4, .int .i64 c5] 32 (0, 0)) = W at *
  have kT : ∀ y, Touch (B.two g m.n) W y → y.cell? ⟨w.heap.size, 0, none⟩ = some (.int .i64 c0) ∧ y.cell? ⟨w.heap.size, 1, none⟩ = some (.int .i64 c1) ∧ y.cell? ⟨w.heap.size, 2, none⟩ = some (.int .i64 c2) ∧ y.cell? ⟨w.heap.size, 3, none⟩ = some (.int .i64 c3) ∧ y.cell? ⟨w.heap.size, 4, none⟩ = some (.int .i64 c4) ∧ y.cell? ⟨w.heap.size, 5, none⟩ = some (.int .i64 c5) := fun y hT => by
    have q := hT.at hX nX
    have z0 := cell_of q 0; have z1 := cell_of q 1; have z2 := cell_of q 2; have z3 := cell_of q 3; have z4 := cell_of q 4; have z5 := cell_of q 5
    dsimp at z0 z1 z2 z3 z4 z5
    exact ⟨z0, z1, z2, z3, z4, z5⟩
  have b0 : Below W.heap.size W W.drew := (Below.refl _ W).drew
  have d0 : Touch (B.two g m.n) W W.drew := Touch.of_below b0
  have hD := h1.after b0
  go_region_held3 (fun y => y.cell? ⟨w.heap.size, 0, none⟩ = some (.int .i64 c0) ∧ y.cell? ⟨w.heap.size, 1, none⟩ = some (.int .i64 c1) ∧ y.cell? ⟨w.heap.size, 2, none⟩ = some (.int .i64 c2) ∧ y.cell? ⟨w.heap.size, 3, none⟩ = some (.int .i64 c3) ∧ y.cell? ⟨w.heap.size, 4, none⟩ = some (.int .i64 c4) ∧ y.cell? ⟨w.heap.size, 5, none⟩ = some (.int .i64 c5)) (first | (with_reducible exact kT _ d0) | (with_reducible refine kT _ ?_; with_reducible assumption))
    (first
      | (go_at_call 31; (with_reducible refine (P _ hD.p).mono ?_); rintro e w' ⟨rfl, hp, ht⟩; have hr := hD.rkeep ht; have t1 : Touch (B.two g m.n) W w' := d0.trans (ht.mono (fun _ _ hx => .inl hx)))
      | (go_at_call 39; (with_reducible refine (R _ hr).mono ?_); rintro e w' ⟨rfl, hr2, ht2⟩; have h2 := hD.both hp ht2 hr2 okM hn; have t2 : Touch (B.two g m.n) W w' := t1.trans (ht2.mono (fun _ _ hx => .inr hx))))
  all_goals
    go_wp2
    go_ret
    exact ⟨ret_bool (by simp), M, h2, hn, (Touch.of_below hw0).trans t2⟩
theorem act13 (k : Int) (k0 : 0 ≤ k) (k7 : k < 7) (h : Two w a g B m) : Calls Tryz.prog 10 #[.pointer (some ⟨a, 0, none⟩), .pointer (some ⟨B.v, 0, none⟩), .int .i64 k, .int .i64 x1, .int .i64 x2, .int .i64 x3, .agg #[.int .i64 c0, .int .i64 c1, .int .i64 c2, .int .i64 c3, .int .i64 c4, .int .i64 c5]] w fun e w' =>
    e = .returned (.bool true) ∧ ∃ m', Two w' a g B m' ∧ m'.n = m.n ∧ Touch (B.two g m.n) w w' := by
  rcases (by omega : k = 0 ∨ k = 1 ∨ k = 2 ∨ k = 3 ∨ k = 4 ∨ k = 5 ∨ k = 6) with rfl | rfl | rfl | rfl | rfl | rfl | rfl
  · exact act_make h
  · exact act_put1 h
  · exact act_put2 h
  · exact act_drop h
  · exact act_cons h
  · exact act_decons h
  · exact act_look h
end
end Go.Proofs.YtejdfdllgobnhaaGreat
