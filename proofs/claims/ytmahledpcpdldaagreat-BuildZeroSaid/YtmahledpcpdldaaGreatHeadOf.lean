/- A head out of words (head.of). -/
import Derived.Test.YtmahledpcpdldaaGreatWords2
set_option linter.unusedVariables false
set_option linter.unusedSimpArgs false
namespace Go.Proofs.YtmahledpcpdldaaGreat
open Go.RowKit

def HeadS.zero : HeadS := ⟨0, 0, false, 0⟩
def HeadS.ofW (x0 x1 : Int) : HeadS := ⟨x0 % 16, x0 / 16 % 2, x0 / 32 % 2 == 1, x1⟩
set_option maxHeartbeats 1000000 in
set_option maxRecDepth 100000 in
theorem of_no0 (b : Nat) (x0 : Int) (w : World) (h0 : 0 ≤ x0) (h1 : x0 < 18446744073709551616) (hb : b < w.heap.size) (q0 : w.cell? ⟨b, 0, none⟩ = some (.int .u64 x0)) (hx : 64 ≤ x0) :
    Calls Tryz.prog 238 #[.slice (some ⟨b, 0, none⟩) 36 36] w fun e w' => e = .returned (.tuple #[HeadS.zero.v, .bool false]) ∧ Below w.heap.size w w' := by
  have hw0 : Below w.heap.size w (w.alloc (.cells #[.int .i64 0, .int .i64 0, .bool false, .int .i64 0] 192 (0, 0))) := by (refine Touch.below0 ?_; (repeat' (first | (with_reducible exact Touch.refl _ _) | (with_reducible assumption) | (with_reducible refine Touch.drew ?_) | (with_reducible refine Touch.drewN ?_ _) | (with_reducible refine Touch.alloc ?_ _) | (with_reducible refine Touch.setCell ?_ _ _ _ ?_) | (with_reducible refine Touch.step (by assumption) ?_) | (with_reducible refine Touch.stepT (by assumption) ?_ ?_) | (intro _; first | rfl | trivial | omega | (simp; done) | (simp; omega)) | (intro _ _; first | omega | (simp; done) | (simp; omega)))))
  have hR : (w.alloc (.cells #[.int .i64 0, .int .i64 0, .bool false, .int .i64 0] 192 (0, 0))).heap[w.heap.size]? = some (.cells #[.int .i64 0, .int .i64 0, .bool false, .int .i64 0] 192 (0, 0)) := heap_new _ _
  have X0 : (w.alloc (.cells #[.int .i64 0, .int .i64 0, .bool false, .int .i64 0] 192 (0, 0))).cell? ⟨b, 0, none⟩ = some (.int .u64 x0) := (hw0.cell (p := ⟨b, 0, none⟩) hb).trans q0
  go_enter Tryz.func238, Tryz.ntmps238
  go_upto_region 1 with (fail)
  generalize hwa : w.alloc (.cells #[.int .i64 0, .int .i64 0, .bool false, .int .i64 0] 192 (0, 0)) = wa at *
  have hba : b < wa.heap.size := Nat.lt_of_lt_of_le hb hw0.size
  clear hwa
  go_cut [4, 5] (fun x y wr => x = .slice none 0 0 ∧ y = .int .i64 1 ∧ Below wa.heap.size wa wr)
  case first =>
    have kS : ∀ y, Below wa.heap.size wa y → y.cell? ⟨b, 0, none⟩ = some (.int .u64 x0) := fun y h => (h.cell (p := ⟨b, 0, none⟩) hba).trans X0
    have d0 : Below wa.heap.size wa wa.drew := (Below.refl _ wa).drew
    have d1 : ∀ o, Below wa.heap.size wa (wa.alloc o).drew := fun o => ((Below.refl _ wa).alloc (Nat.le_refl _) o).drew
    have n1 : (wa.alloc (.cells #[.int .i64 4, .int .i64 1, .int .i64 1] 3 (0, 0))).drew.heap[wa.heap.size]? = some (.cells #[.int .i64 4, .int .i64 1, .int .i64 1] 3 (0, 0)) := heap_new _ _
    go_region_held3 (fun y => y.cell? ⟨b, 0, none⟩ = some (.int .u64 x0)) (first | exact kS _ d0 | exact kS _ (d1 _) | (refine kS _ ?_; assumption))
      (first
        | (go_at_call 278; (with_reducible refine (head_widths _).mono ?_); rintro e w' ⟨rfl, rfl⟩)
        | (go_at_call 277; (with_reducible refine (head_unpack_no x0 _ _ h0 h1 hx n1).mono ?_); rintro e w' ⟨rfl, hx⟩; have hB := (d1 _).trans (hx.mono (d1 _).size)))
    all_goals
      go_wp2
      go_meet
    exact ⟨rfl, rfl, hB⟩
  case rest =>
    obtain ⟨rfl, rfl, hB⟩ := hcut
    have hR2 := (hB.block _ (lt_of_block hR)).trans hR
    have hw2 := hw0.trans (hB.mono hw0.size)
    have g0 := cell_of hR2 0; have g1 := cell_of hR2 1; have g2 := cell_of hR2 2; have g3 := cell_of hR2 3; have fr := frozen_of hR2; dsimp at g0 g1 g2 g3
    go_wp2
    have hF := heap_set (o := 3) (heap_set (o := 2) (heap_set (o := 1) (heap_set (o := 0) hR2 (.int .i64 0)) (.int .i64 0)) (.bool false)) (.int .i64 0)
    refine bodyPost_ret (v := .tuple #[HeadS.zero.v, .bool false]) ?_ rfl ⟨rfl, ?_⟩
    · have hc := cell_of hF
      simp [results, Tryz.f238, go_sem, hc, HeadS.zero, HeadS.v]
    · exact (((hw2.setCell (p := ⟨w.heap.size, 0, none⟩) (Nat.le_refl _) _).setCell (p := ⟨w.heap.size, 1, none⟩) (Nat.le_refl _) _).setCell (p := ⟨w.heap.size, 2, none⟩) (Nat.le_refl _) _).setCell (p := ⟨w.heap.size, 3, none⟩) (Nat.le_refl _) _
set_option maxHeartbeats 4000000 in
set_option maxRecDepth 100000 in
theorem of_yes0 (b : Nat) (x0 x1 x2 x3 : Int) (w : World) (h0 : 0 ≤ x0) (hx : x0 < 64) (p0 : 0 ≤ x1) (hb : b < w.heap.size) (q0 : w.cell? ⟨b, 0, none⟩ = some (.int .u64 x0)) (q1 : w.cell? ⟨b, 1, none⟩ = some (.int .u64 x1))
    (q2 : w.cell? ⟨b, 2, none⟩ = some (.int .u64 x2)) (q3 : w.cell? ⟨b, 3, none⟩ = some (.int .u64 x3)) :
    Calls Tryz.prog 238 #[.slice (some ⟨b, 0, none⟩) 36 36] w fun e w' => e = .returned (.tuple #[(if x1 ≤ 1073741824 ∧ x2 = 0 ∧ x3 = 0 then HeadS.ofW x0 x1 else HeadS.zero).v, .bool (if x1 ≤ 1073741824 ∧ x2 = 0 ∧ x3 = 0 then (HeadS.ofW x0 x1).right else false)]) ∧ Below w.heap.size w w' := by
  have hRt := head_right (HeadS.ofW x0 x1)
  obtain ⟨rt, HRT⟩ : ∃ rt, Hid ((HeadS.ofW x0 x1).right = rt) := ⟨_, Lib.hid rfl⟩
  rw [HRT.out] at hRt ⊢
  obtain ⟨C, hC⟩ : ∃ C, Hid (C = HeadS.ofW x0 x1) := ⟨_, Lib.hid rfl⟩
  by_cases hx1 : x1 ≤ 1073741824
  · by_cases hx2 : x2 = 0
    · by_cases hx3 : x3 = 0
      · simp only [hx1, hx2, hx3, and_self, if_true]
        subst hx2 hx3
        unfold HeadS.ofW HeadS.v at *
        dsimp only at *
        have hw0 : Below w.heap.size w (w.alloc (.cells #[.int .i64 0, .int .i64 0, .bool false, .int .i64 0] 192 (0, 0))) := by (refine Touch.below0 ?_; (repeat' (first | (with_reducible exact Touch.refl _ _) | (with_reducible assumption) | (with_reducible refine Touch.drew ?_) | (with_reducible refine Touch.drewN ?_ _) | (with_reducible refine Touch.alloc ?_ _) | (with_reducible refine Touch.setCell ?_ _ _ _ ?_) | (with_reducible refine Touch.step (by assumption) ?_) | (with_reducible refine Touch.stepT (by assumption) ?_ ?_) | (intro _; first | rfl | trivial | omega | (simp; done) | (simp; omega)) | (intro _ _; first | omega | (simp; done) | (simp; omega)))))
        have hR : (w.alloc (.cells #[.int .i64 0, .int .i64 0, .bool false, .int .i64 0] 192 (0, 0))).heap[w.heap.size]? = some (.cells #[.int .i64 0, .int .i64 0, .bool false, .int .i64 0] 192 (0, 0)) := heap_new _ _
        have X0 : (w.alloc (.cells #[.int .i64 0, .int .i64 0, .bool false, .int .i64 0] 192 (0, 0))).cell? ⟨b, 0, none⟩ = some (.int .u64 x0) := (hw0.cell (p := ⟨b, 0, none⟩) hb).trans q0
        go_enter Tryz.func238, Tryz.ntmps238
        go_upto_region 1 with (fail)
        generalize hwa : w.alloc (.cells #[.int .i64 0, .int .i64 0, .bool false, .int .i64 0] 192 (0, 0)) = wa at *
        have hba : b < wa.heap.size := Nat.lt_of_lt_of_le hb hw0.size
        clear hwa
        go_cut [4, 5] (fun x y wr => ∃ g cap, x = .slice (some ⟨g, 0, none⟩) 3 cap ∧ y = .int .i64 0 ∧ Below wa.heap.size wa wr ∧ wr.cell? ⟨g, 0, none⟩ = some (.int .u64 (x0 % 16)) ∧ wr.cell? ⟨g, 1, none⟩ = some (.int .u64 (x0 / 16 % 2)) ∧ wr.cell? ⟨g, 2, none⟩ = some (.int .u64 (x0 / 32 % 2)))
        case first =>
          have kS : ∀ y, Below wa.heap.size wa y → y.cell? ⟨b, 0, none⟩ = some (.int .u64 x0) := fun y h => (h.cell (p := ⟨b, 0, none⟩) hba).trans X0
          have d0 : Below wa.heap.size wa wa.drew := (Below.refl _ wa).drew
          have d1 : ∀ o, Below wa.heap.size wa (wa.alloc o).drew := fun o => ((Below.refl _ wa).alloc (Nat.le_refl _) o).drew
          have n1 : (wa.alloc (.cells #[.int .i64 4, .int .i64 1, .int .i64 1] 3 (0, 0))).drew.heap[wa.heap.size]? = some (.cells #[.int .i64 4, .int .i64 1, .int .i64 1] 3 (0, 0)) := heap_new _ _
          go_region_held3 (fun y => y.cell? ⟨b, 0, none⟩ = some (.int .u64 x0)) (first | exact kS _ d0 | exact kS _ (d1 _) | (refine kS _ ?_; assumption))
            (first
              | (go_at_call 278; (with_reducible refine (head_widths _).mono ?_); rintro e w' ⟨rfl, rfl⟩)
              | (go_at_call 277; (with_reducible refine (head_unpack_yes x0 _ _ h0 hx n1).mono ?_); rintro e w' ⟨gg, cap, rfl, hx5, u0, u1, u2⟩; have hB := (d1 _).trans (hx5.mono (d1 _).size)))
          all_goals
            go_wp2
            go_meet
          exact ⟨gg, cap, rfl, rfl, hB, u0, u1, u2⟩
        case rest =>
          obtain ⟨gg, cap, rfl, rfl, hB, u0, u1, u2⟩ := hcut
          have hR2 := (hB.block _ (lt_of_block hR)).trans hR
          have hw2 := hw0.trans (hB.mono hw0.size)
          have Y1 := (hw2.cell (p := ⟨b, 1, none⟩) hb).trans q1
          have Y2 := (hw2.cell (p := ⟨b, 2, none⟩) hb).trans q2
          have Y3 := (hw2.cell (p := ⟨b, 3, none⟩) hb).trans q3
          have hgg : gg < wc.heap.size := lt_of_cell (a := ⟨gg, 0, none⟩) u0
          have hbc : b < wc.heap.size := Nat.lt_of_lt_of_le hb hw2.size
          obtain ⟨w5, rfl⟩ : ∃ y : World, y = wc := ⟨_, rfl⟩
          clear hB X0 hba hR hw0 q0 q1 q2 q3
          go_upto_block 0 with (fail)
          go_cut [] (fun wr => wr = w5)
          case first =>
            go_wp2
            go_loopw [29] (fun i wr => ∃ k : Nat, k ≤ 2 ∧ i = .int .i64 k ∧ wr = w5) (fun i _ => 2 - (intOf i).toNat)
            case atStart => exact ⟨0, by omega, rfl, rfl⟩
            case round =>
              obtain ⟨k, hk, rfl, rfl⟩ := hrel
              match k, hk with
              | 0, _ =>
                go_wp2
                go_roundw
                case rel => exact ⟨1, by omega, rfl, trivial⟩
                case measure => decide
              | 1, _ =>
                go_wp2
                go_roundw
                case rel => exact ⟨2, by omega, rfl, trivial⟩
                case measure => decide
              | 2, _ =>
                go_wp2
                go_meet
                rfl
              | k + 3, hk => omega
          case rest =>
            subst hcut
            go_upto_region 10 with (fail)
            go_cut [8] (fun x wr => ∃ C, w.heap.size < C ∧ x = .pointer (some ⟨C, 0, none⟩) ∧ wr.heap[C]? = some (.cells #[.int .i64 (x0 % 16), .int .i64 (x0 / 16 % 2), .bool (x0 / 32 % 2 == 1), .int .i64 x1] 192 (0, 0)) ∧ wr.heap[w.heap.size]? = some (.cells #[.int .i64 0, .int .i64 0, .bool false, .int .i64 0] 192 (0, 0)) ∧ Below w.heap.size w wr)
            case first =>
              have v0 := wrap_i64_small (x := x0 % 16) (by omega) (by omega); have v1 := wrap_i64_small (x := x0 / 16 % 2) (by omega) (by omega); have v2 := wrap_i64_small (x := x1) (by omega) (by omega)
              have kS : ∀ y, Below wc.heap.size wc y → y.cell? ⟨gg, 0, none⟩ = some (.int .u64 (x0 % 16)) ∧ y.cell? ⟨gg, 1, none⟩ = some (.int .u64 (x0 / 16 % 2)) ∧ y.cell? ⟨gg, 2, none⟩ = some (.int .u64 (x0 / 32 % 2)) ∧ y.cell? ⟨b, 1, none⟩ = some (.int .u64 x1) :=
                fun y h => ⟨(h.cell (p := ⟨gg, 0, none⟩) hgg).trans u0, (h.cell (p := ⟨gg, 1, none⟩) hgg).trans u1, (h.cell (p := ⟨gg, 2, none⟩) hgg).trans u2, (h.cell (p := ⟨b, 1, none⟩) hbc).trans Y1⟩
              have d0 : Below wc.heap.size wc wc.drew := (Below.refl _ wc).drew
              have d1 : ∀ o, Below wc.heap.size wc (wc.alloc o).drew := fun o => ((Below.refl _ wc).alloc (Nat.le_refl _) o).drew
              go_region_held3 (fun y => y.cell? ⟨gg, 0, none⟩ = some (.int .u64 (x0 % 16)) ∧ y.cell? ⟨gg, 1, none⟩ = some (.int .u64 (x0 / 16 % 2)) ∧ y.cell? ⟨gg, 2, none⟩ = some (.int .u64 (x0 / 32 % 2)) ∧ y.cell? ⟨b, 1, none⟩ = some (.int .u64 x1)) (first | exact kS _ d0 | exact kS _ (d1 _)) (fail)
              all_goals
                go_wp2
                go_meet
                exact ⟨wc.heap.size, lt_of_block hR2, rfl, heap_new _ _, heap_alloc hR2 _, (hw2.alloc hw2.size _).drew⟩
            case rest =>
              obtain ⟨C, hCl, rfl, hC, hR6, hw6⟩ := hcut
              clear hR2 hw2 Y1 Y2 Y3 u0 u1 u2 hgg hbc
              obtain ⟨w7, rfl⟩ : ∃ y : World, y = wc := ⟨_, rfl⟩
              have hlC := lt_of_block hC
              have s0 := cell_of hC 0; have s1 := cell_of hC 1; have s2 := cell_of hC 2; have s3 := cell_of hC 3
              dsimp at s0 s1 s2 s3
              have kS : ∀ y, Below w7.heap.size w7 y → y.cell? ⟨C, 0, none⟩ = some (.int .i64 (x0 % 16)) ∧ y.cell? ⟨C, 1, none⟩ = some (.int .i64 (x0 / 16 % 2)) ∧ y.cell? ⟨C, 2, none⟩ = some (.bool (x0 / 32 % 2 == 1)) ∧ y.cell? ⟨C, 3, none⟩ = some (.int .i64 x1) :=
                fun y h => ⟨(h.cell (p := ⟨C, 0, none⟩) hlC).trans s0, (h.cell (p := ⟨C, 1, none⟩) hlC).trans s1, (h.cell (p := ⟨C, 2, none⟩) hlC).trans s2, (h.cell (p := ⟨C, 3, none⟩) hlC).trans s3⟩
              have d0 : Below w7.heap.size w7 w7.drew := (Below.refl _ w7).drew
              have hCR : C ≠ w.heap.size := by omega
              go_upto_region 11 with (fail)
              go_region_held3 (fun y => y.cell? ⟨C, 0, none⟩ = some (.int .i64 (x0 % 16)) ∧ y.cell? ⟨C, 1, none⟩ = some (.int .i64 (x0 / 16 % 2)) ∧ y.cell? ⟨C, 2, none⟩ = some (.bool (x0 / 32 % 2 == 1)) ∧ y.cell? ⟨C, 3, none⟩ = some (.int .i64 x1)) (first | exact kS _ d0 | (refine kS _ ?_; assumption) | (simp only [cell_drew', cell_other hCR]; refine kS _ ?_; assumption))
                (first
                  | (go_at_call 203; (with_reducible refine (hRt _).mono ?_); rintro e w' ⟨rfl, hx5⟩; have hB := d0.trans (hx5.mono d0.size); have hR8 := (hB.block _ (lt_of_block hR6)).trans hR6; have g0 := cell_of hR8 0; have g1 := cell_of hR8 1; have g2 := cell_of hR8 2; have g3 := cell_of hR8 3; have fr := frozen_of hR8; dsimp at g0 g1 g2 g3))
              all_goals
                go_wp2
                have hF := heap_set (o := 3) (heap_set (o := 2) (heap_set (o := 1) (heap_set (o := 0) hR8 (.int .i64 (x0 % 16))) (.int .i64 (x0 / 16 % 2))) (.bool (x0 / 32 % 2 == 1))) (.int .i64 x1)
                have hw8 := hw6.trans (hB.mono hw6.size)
                refine bodyPost_ret (v := .tuple #[.agg #[.int .i64 (x0 % 16), .int .i64 (x0 / 16 % 2), .bool (x0 / 32 % 2 == 1), .int .i64 x1], .bool rt]) ?_ rfl ⟨rfl, ?_⟩
                · have hc := cell_of hF
                  simp [results, Tryz.f238, go_sem, hc]
                · exact (((hw8.setCell (p := ⟨w.heap.size, 0, none⟩) (Nat.le_refl _) _).setCell (p := ⟨w.heap.size, 1, none⟩) (Nat.le_refl _) _).setCell (p := ⟨w.heap.size, 2, none⟩) (Nat.le_refl _) _).setCell (p := ⟨w.heap.size, 3, none⟩) (Nat.le_refl _) _
      · simp only [hx3, and_false, if_false]
        clear hRt
        subst hx2
        have hw0 : Below w.heap.size w (w.alloc (.cells #[.int .i64 0, .int .i64 0, .bool false, .int .i64 0] 192 (0, 0))) := by (refine Touch.below0 ?_; (repeat' (first | (with_reducible exact Touch.refl _ _) | (with_reducible assumption) | (with_reducible refine Touch.drew ?_) | (with_reducible refine Touch.drewN ?_ _) | (with_reducible refine Touch.alloc ?_ _) | (with_reducible refine Touch.setCell ?_ _ _ _ ?_) | (with_reducible refine Touch.step (by assumption) ?_) | (with_reducible refine Touch.stepT (by assumption) ?_ ?_) | (intro _; first | rfl | trivial | omega | (simp; done) | (simp; omega)) | (intro _ _; first | omega | (simp; done) | (simp; omega)))))
        have hR : (w.alloc (.cells #[.int .i64 0, .int .i64 0, .bool false, .int .i64 0] 192 (0, 0))).heap[w.heap.size]? = some (.cells #[.int .i64 0, .int .i64 0, .bool false, .int .i64 0] 192 (0, 0)) := heap_new _ _
        have X0 : (w.alloc (.cells #[.int .i64 0, .int .i64 0, .bool false, .int .i64 0] 192 (0, 0))).cell? ⟨b, 0, none⟩ = some (.int .u64 x0) := (hw0.cell (p := ⟨b, 0, none⟩) hb).trans q0
        go_enter Tryz.func238, Tryz.ntmps238
        go_upto_region 1 with (fail)
        generalize hwa : w.alloc (.cells #[.int .i64 0, .int .i64 0, .bool false, .int .i64 0] 192 (0, 0)) = wa at *
        have hba : b < wa.heap.size := Nat.lt_of_lt_of_le hb hw0.size
        clear hwa
        go_cut [4, 5] (fun x y wr => ∃ g cap, x = .slice (some ⟨g, 0, none⟩) 3 cap ∧ y = .int .i64 0 ∧ Below wa.heap.size wa wr ∧ wr.cell? ⟨g, 0, none⟩ = some (.int .u64 (x0 % 16)) ∧ wr.cell? ⟨g, 1, none⟩ = some (.int .u64 (x0 / 16 % 2)) ∧ wr.cell? ⟨g, 2, none⟩ = some (.int .u64 (x0 / 32 % 2)))
        case first =>
          have kS : ∀ y, Below wa.heap.size wa y → y.cell? ⟨b, 0, none⟩ = some (.int .u64 x0) := fun y h => (h.cell (p := ⟨b, 0, none⟩) hba).trans X0
          have d0 : Below wa.heap.size wa wa.drew := (Below.refl _ wa).drew
          have d1 : ∀ o, Below wa.heap.size wa (wa.alloc o).drew := fun o => ((Below.refl _ wa).alloc (Nat.le_refl _) o).drew
          have n1 : (wa.alloc (.cells #[.int .i64 4, .int .i64 1, .int .i64 1] 3 (0, 0))).drew.heap[wa.heap.size]? = some (.cells #[.int .i64 4, .int .i64 1, .int .i64 1] 3 (0, 0)) := heap_new _ _
          go_region_held3 (fun y => y.cell? ⟨b, 0, none⟩ = some (.int .u64 x0)) (first | exact kS _ d0 | exact kS _ (d1 _) | (refine kS _ ?_; assumption))
            (first
              | (go_at_call 278; (with_reducible refine (head_widths _).mono ?_); rintro e w' ⟨rfl, rfl⟩)
              | (go_at_call 277; (with_reducible refine (head_unpack_yes x0 _ _ h0 hx n1).mono ?_); rintro e w' ⟨gg, cap, rfl, hx5, u0, u1, u2⟩; have hB := (d1 _).trans (hx5.mono (d1 _).size)))
          all_goals
            go_wp2
            go_meet
          exact ⟨gg, cap, rfl, rfl, hB, u0, u1, u2⟩
        case rest =>
          obtain ⟨gg, cap, rfl, rfl, hB, u0, u1, u2⟩ := hcut
          have hR2 := (hB.block _ (lt_of_block hR)).trans hR
          have hw2 := hw0.trans (hB.mono hw0.size)
          have Y1 := (hw2.cell (p := ⟨b, 1, none⟩) hb).trans q1
          have Y2 := (hw2.cell (p := ⟨b, 2, none⟩) hb).trans q2
          have Y3 := (hw2.cell (p := ⟨b, 3, none⟩) hb).trans q3
          have g0 := cell_of hR2 0; have g1 := cell_of hR2 1; have g2 := cell_of hR2 2; have g3 := cell_of hR2 3; have fr := frozen_of hR2; dsimp at g0 g1 g2 g3
          go_wp2
          go_loopw [29] (fun i wr => ∃ k : Nat, k ≤ 1 ∧ i = .int .i64 k ∧ wr = wc) (fun i _ => 2 - (intOf i).toNat)
          case atStart => exact ⟨0, by omega, rfl, rfl⟩
          case round =>
            obtain ⟨k, hk, rfl, rfl⟩ := hrel
            match k, hk with
            | 0, _ =>
              go_wp2
              go_roundw
              case rel => exact ⟨1, by omega, rfl, trivial⟩
              case measure => decide
            | 1, _ =>
              go_wp2
              have hF := heap_set (o := 3) (heap_set (o := 2) (heap_set (o := 1) (heap_set (o := 0) hR2 (.int .i64 0)) (.int .i64 0)) (.bool false)) (.int .i64 0)
              refine bodyPost_ret (v := .tuple #[HeadS.zero.v, .bool false]) ?_ rfl ⟨rfl, ?_⟩
              · have hc := cell_of hF
                simp [results, Tryz.f238, go_sem, hc, HeadS.zero, HeadS.v]
              · exact (((hw2.setCell (p := ⟨w.heap.size, 0, none⟩) (Nat.le_refl _) _).setCell (p := ⟨w.heap.size, 1, none⟩) (Nat.le_refl _) _).setCell (p := ⟨w.heap.size, 2, none⟩) (Nat.le_refl _) _).setCell (p := ⟨w.heap.size, 3, none⟩) (Nat.le_refl _) _
            | k + 2, hk => omega
    · simp only [hx2, false_and, and_false, if_false]
      clear hRt
      have hw0 : Below w.heap.size w (w.alloc (.cells #[.int .i64 0, .int .i64 0, .bool false, .int .i64 0] 192 (0, 0))) := by (refine Touch.below0 ?_; (repeat' (first | (with_reducible exact Touch.refl _ _) | (with_reducible assumption) | (with_reducible refine Touch.drew ?_) | (with_reducible refine Touch.drewN ?_ _) | (with_reducible refine Touch.alloc ?_ _) | (with_reducible refine Touch.setCell ?_ _ _ _ ?_) | (with_reducible refine Touch.step (by assumption) ?_) | (with_reducible refine Touch.stepT (by assumption) ?_ ?_) | (intro _; first | rfl | trivial | omega | (simp; done) | (simp; omega)) | (intro _ _; first | omega | (simp; done) | (simp; omega)))))
      have hR : (w.alloc (.cells #[.int .i64 0, .int .i64 0, .bool false, .int .i64 0] 192 (0, 0))).heap[w.heap.size]? = some (.cells #[.int .i64 0, .int .i64 0, .bool false, .int .i64 0] 192 (0, 0)) := heap_new _ _
      have X0 : (w.alloc (.cells #[.int .i64 0, .int .i64 0, .bool false, .int .i64 0] 192 (0, 0))).cell? ⟨b, 0, none⟩ = some (.int .u64 x0) := (hw0.cell (p := ⟨b, 0, none⟩) hb).trans q0
      go_enter Tryz.func238, Tryz.ntmps238
      go_upto_region 1 with (fail)
      generalize hwa : w.alloc (.cells #[.int .i64 0, .int .i64 0, .bool false, .int .i64 0] 192 (0, 0)) = wa at *
      have hba : b < wa.heap.size := Nat.lt_of_lt_of_le hb hw0.size
      clear hwa
      go_cut [4, 5] (fun x y wr => ∃ g cap, x = .slice (some ⟨g, 0, none⟩) 3 cap ∧ y = .int .i64 0 ∧ Below wa.heap.size wa wr ∧ wr.cell? ⟨g, 0, none⟩ = some (.int .u64 (x0 % 16)) ∧ wr.cell? ⟨g, 1, none⟩ = some (.int .u64 (x0 / 16 % 2)) ∧ wr.cell? ⟨g, 2, none⟩ = some (.int .u64 (x0 / 32 % 2)))
      case first =>
        have kS : ∀ y, Below wa.heap.size wa y → y.cell? ⟨b, 0, none⟩ = some (.int .u64 x0) := fun y h => (h.cell (p := ⟨b, 0, none⟩) hba).trans X0
        have d0 : Below wa.heap.size wa wa.drew := (Below.refl _ wa).drew
        have d1 : ∀ o, Below wa.heap.size wa (wa.alloc o).drew := fun o => ((Below.refl _ wa).alloc (Nat.le_refl _) o).drew
        have n1 : (wa.alloc (.cells #[.int .i64 4, .int .i64 1, .int .i64 1] 3 (0, 0))).drew.heap[wa.heap.size]? = some (.cells #[.int .i64 4, .int .i64 1, .int .i64 1] 3 (0, 0)) := heap_new _ _
        go_region_held3 (fun y => y.cell? ⟨b, 0, none⟩ = some (.int .u64 x0)) (first | exact kS _ d0 | exact kS _ (d1 _) | (refine kS _ ?_; assumption))
          (first
            | (go_at_call 278; (with_reducible refine (head_widths _).mono ?_); rintro e w' ⟨rfl, rfl⟩)
            | (go_at_call 277; (with_reducible refine (head_unpack_yes x0 _ _ h0 hx n1).mono ?_); rintro e w' ⟨gg, cap, rfl, hx5, u0, u1, u2⟩; have hB := (d1 _).trans (hx5.mono (d1 _).size)))
        all_goals
          go_wp2
          go_meet
        exact ⟨gg, cap, rfl, rfl, hB, u0, u1, u2⟩
      case rest =>
        obtain ⟨gg, cap, rfl, rfl, hB, u0, u1, u2⟩ := hcut
        have hR2 := (hB.block _ (lt_of_block hR)).trans hR
        have hw2 := hw0.trans (hB.mono hw0.size)
        have Y1 := (hw2.cell (p := ⟨b, 1, none⟩) hb).trans q1
        have Y2 := (hw2.cell (p := ⟨b, 2, none⟩) hb).trans q2
        have Y3 := (hw2.cell (p := ⟨b, 3, none⟩) hb).trans q3
        have g0 := cell_of hR2 0; have g1 := cell_of hR2 1; have g2 := cell_of hR2 2; have g3 := cell_of hR2 3; have fr := frozen_of hR2; dsimp at g0 g1 g2 g3
        go_wp2
        go_loopw [29] (fun i wr => i = .int .i64 0 ∧ wr = wc) (fun _ _ => 0)
        case atStart => exact ⟨rfl, rfl⟩
        case round =>
          obtain ⟨rfl, rfl⟩ := hrel
          go_wp2
          have hF := heap_set (o := 3) (heap_set (o := 2) (heap_set (o := 1) (heap_set (o := 0) hR2 (.int .i64 0)) (.int .i64 0)) (.bool false)) (.int .i64 0)
          refine bodyPost_ret (v := .tuple #[HeadS.zero.v, .bool false]) ?_ rfl ⟨rfl, ?_⟩
          · have hc := cell_of hF
            simp [results, Tryz.f238, go_sem, hc, HeadS.zero, HeadS.v]
          · exact (((hw2.setCell (p := ⟨w.heap.size, 0, none⟩) (Nat.le_refl _) _).setCell (p := ⟨w.heap.size, 1, none⟩) (Nat.le_refl _) _).setCell (p := ⟨w.heap.size, 2, none⟩) (Nat.le_refl _) _).setCell (p := ⟨w.heap.size, 3, none⟩) (Nat.le_refl _) _
  · simp only [hx1, false_and, if_false, Bool.false_eq_true]
    clear hRt
    have HX : 1073741824 < x1 := by omega
    clear hx1
    have hw0 : Below w.heap.size w (w.alloc (.cells #[.int .i64 0, .int .i64 0, .bool false, .int .i64 0] 192 (0, 0))) := by (refine Touch.below0 ?_; (repeat' (first | (with_reducible exact Touch.refl _ _) | (with_reducible assumption) | (with_reducible refine Touch.drew ?_) | (with_reducible refine Touch.drewN ?_ _) | (with_reducible refine Touch.alloc ?_ _) | (with_reducible refine Touch.setCell ?_ _ _ _ ?_) | (with_reducible refine Touch.step (by assumption) ?_) | (with_reducible refine Touch.stepT (by assumption) ?_ ?_) | (intro _; first | rfl | trivial | omega | (simp; done) | (simp; omega)) | (intro _ _; first | omega | (simp; done) | (simp; omega)))))
    have hR : (w.alloc (.cells #[.int .i64 0, .int .i64 0, .bool false, .int .i64 0] 192 (0, 0))).heap[w.heap.size]? = some (.cells #[.int .i64 0, .int .i64 0, .bool false, .int .i64 0] 192 (0, 0)) := heap_new _ _
    have X0 : (w.alloc (.cells #[.int .i64 0, .int .i64 0, .bool false, .int .i64 0] 192 (0, 0))).cell? ⟨b, 0, none⟩ = some (.int .u64 x0) := (hw0.cell (p := ⟨b, 0, none⟩) hb).trans q0
    go_enter Tryz.func238, Tryz.ntmps238
    go_upto_region 1 with (fail)
    generalize hwa : w.alloc (.cells #[.int .i64 0, .int .i64 0, .bool false, .int .i64 0] 192 (0, 0)) = wa at *
    have hba : b < wa.heap.size := Nat.lt_of_lt_of_le hb hw0.size
    clear hwa
    go_cut [4, 5] (fun x y wr => ∃ g cap, x = .slice (some ⟨g, 0, none⟩) 3 cap ∧ y = .int .i64 0 ∧ Below wa.heap.size wa wr ∧ wr.cell? ⟨g, 0, none⟩ = some (.int .u64 (x0 % 16)) ∧ wr.cell? ⟨g, 1, none⟩ = some (.int .u64 (x0 / 16 % 2)) ∧ wr.cell? ⟨g, 2, none⟩ = some (.int .u64 (x0 / 32 % 2)))
    case first =>
      have kS : ∀ y, Below wa.heap.size wa y → y.cell? ⟨b, 0, none⟩ = some (.int .u64 x0) := fun y h => (h.cell (p := ⟨b, 0, none⟩) hba).trans X0
      have d0 : Below wa.heap.size wa wa.drew := (Below.refl _ wa).drew
      have d1 : ∀ o, Below wa.heap.size wa (wa.alloc o).drew := fun o => ((Below.refl _ wa).alloc (Nat.le_refl _) o).drew
      have n1 : (wa.alloc (.cells #[.int .i64 4, .int .i64 1, .int .i64 1] 3 (0, 0))).drew.heap[wa.heap.size]? = some (.cells #[.int .i64 4, .int .i64 1, .int .i64 1] 3 (0, 0)) := heap_new _ _
      go_region_held3 (fun y => y.cell? ⟨b, 0, none⟩ = some (.int .u64 x0)) (first | exact kS _ d0 | exact kS _ (d1 _) | (refine kS _ ?_; assumption))
        (first
          | (go_at_call 278; (with_reducible refine (head_widths _).mono ?_); rintro e w' ⟨rfl, rfl⟩)
          | (go_at_call 277; (with_reducible refine (head_unpack_yes x0 _ _ h0 hx n1).mono ?_); rintro e w' ⟨gg, cap, rfl, hx5, u0, u1, u2⟩; have hB := (d1 _).trans (hx5.mono (d1 _).size)))
      all_goals
        go_wp2
        go_meet
      exact ⟨gg, cap, rfl, rfl, hB, u0, u1, u2⟩
    case rest =>
      obtain ⟨gg, cap, rfl, rfl, hB, u0, u1, u2⟩ := hcut
      have hR2 := (hB.block _ (lt_of_block hR)).trans hR
      have hw2 := hw0.trans (hB.mono hw0.size)
      have Y1 := (hw2.cell (p := ⟨b, 1, none⟩) hb).trans q1
      have Y2 := (hw2.cell (p := ⟨b, 2, none⟩) hb).trans q2
      have Y3 := (hw2.cell (p := ⟨b, 3, none⟩) hb).trans q3
      have g0 := cell_of hR2 0; have g1 := cell_of hR2 1; have g2 := cell_of hR2 2; have g3 := cell_of hR2 3; have fr := frozen_of hR2; dsimp at g0 g1 g2 g3
      go_wp2
      have hF := heap_set (o := 3) (heap_set (o := 2) (heap_set (o := 1) (heap_set (o := 0) hR2 (.int .i64 0)) (.int .i64 0)) (.bool false)) (.int .i64 0)
      refine bodyPost_ret (v := .tuple #[HeadS.zero.v, .bool false]) ?_ rfl ⟨rfl, ?_⟩
      · have hc := cell_of hF
        simp [results, Tryz.f238, go_sem, hc, HeadS.zero, HeadS.v]
      · exact (((hw2.setCell (p := ⟨w.heap.size, 0, none⟩) (Nat.le_refl _) _).setCell (p := ⟨w.heap.size, 1, none⟩) (Nat.le_refl _) _).setCell (p := ⟨w.heap.size, 2, none⟩) (Nat.le_refl _) _).setCell (p := ⟨w.heap.size, 3, none⟩) (Nat.le_refl _) _
end Go.Proofs.YtmahledpcpdldaaGreat
