/- MachinePlays: the two machines are the same. -/
import Derived.Test.YtmahledpcpdldaaGreatGMX
import Derived.Test.YtmahledpcpdldaaGreatAlike25
import Derived.Test.YtmahledpcpdldaaGreatSmall25
set_option linter.unusedVariables false
set_option linter.unusedSimpArgs false
namespace Go.Proofs.YtmahledpcpdldaaGreat
open Go.RowKit
theorem r6_ofAll {w : World} {a g cap : Nat} {t : TypS} (f : Int) (h : RTypIs w a g cap t) : Calls Tryz.prog 95 #[.pointer (some ⟨a, 0, none⟩), .int .i64 f] w fun e w' => e = .returned (.agg #[.int .i64 (t.type f), .int .i64 (t.count f), .int .i64 (t.freed f), .int .i64 (t.was f)]) ∧ Below w.heap.size w w' := by
  refine (r6_of a g cap t f w h).mono fun e w' ⟨he, hb⟩ => ?_
  unfold TypS.freed TypS.was TypS.type TypS.count
  by_cases hc : t.can f = 0
  · rw [if_pos hc] at he ⊢; rw [if_pos hc, if_pos hc, if_pos hc]; exact ⟨he, hb⟩
  · rw [if_neg hc] at he ⊢; rw [if_neg hc, if_neg hc, if_neg hc]; exact ⟨he, hb⟩
section
variable {w : World} {B : MBl} {R : RB} {m : Mach} {room : Int} {x lo : Nat}
theorem Both.now (h : Both w B R m room x lo) : Calls Tryz.prog 86 #[.pointer (some ⟨B.b, 0, none⟩)] w fun e w' => e = .returned (.int .i64 m.clk.now) ∧ w = w' := by
  have := mach_now B m w h.p.mach
  rwa [show m.clk.nowOf = m.clk.now from if_neg (by have := h.ok.n1; omega)] at this
theorem Both.cores (h : Both w B R m room x lo) {C : Nat} (hC : m.clk.n.toNat = C) : Calls Tryz.prog 70 #[.pointer (some ⟨B.b, 0, none⟩)] w fun e w' => e = .returned (.int .i64 C) ∧ w = w' := by
  have := mach_cores B m w h.p.mach
  rwa [show max m.clk.n 0 = (C : Int) by omega] at this
theorem Both.alike (h : Both w B R m room x lo) : Calls Tryz.prog 90 #[.pointer (some ⟨B.mb, 0, none⟩), .pointer (some ⟨R.M.v, 0, none⟩)] w fun e w' => e = .returned (.bool true) ∧ Below w.heap.size w w' := alike25 B.mb B.mg R.M m.mem w ⟨h.p.mach.mem, h.r.mem, h.ok.mem⟩
theorem Both.liveC (h : Both w B R m room x lo) : Calls Tryz.prog 91 #[.pointer (some ⟨B.lb, 0, none⟩)] w fun e w' => e = .returned (.int .i64 0) ∧ Below w.heap.size w w' := live_count _ _ w h.p.live
theorem Both.rC (h : Both w B R m room x lo) : Calls Tryz.prog 92 #[.pointer (some ⟨R.lv, 0, none⟩)] w fun e w' => e = .returned (.int .i64 0) ∧ Below w.heap.size w w' := r7_count _ _ _ w h.r.lvb h.r.lvr
theorem wf64 {k : Nat} (h : k < 64) : (Lit.int .i64 (k : Int)).wf = true := by
  simp [Lit.wf, IntKind.min, IntKind.max, IntKind.bits, IntKind.signed]; omega
set_option maxHeartbeats 16000000 in
set_option maxRecDepth 100000 in
theorem same25 (h : Both w B R m room x lo) {bb : Nat} (hbb : B.b = bb) : Calls Tryz.prog 11 #[.pointer (some ⟨bb, 0, none⟩), .pointer (some ⟨R.b, 0, none⟩)] w fun e w' => e = .returned (.bool true) ∧ Below w.heap.size w w' := by
  subst hbb
  have ok := h.ok
  have n64 := ok.mem.n64
  obtain ⟨C, hC⟩ : ∃ C : Nat, m.clk.n.toNat = C := ⟨_, rfl⟩
  have hC4 : C ≤ 4 := by have := ok.clk.n4; omega
  have lb : R.b < w.heap.size := lt_of_block h.r.box
  have lcv : R.cv < w.heap.size := lt_of_block h.r.clk.box
  obtain ⟨g0, g1, g2, g3, g4, g5, g6, g7⟩ := ptr_cells h.r
  have gn : w.cell? ⟨R.cv, 0, none⟩ = some (.int .i64 m.clk.now) := by rw [cell_of h.r.clk.box]; rfl
  rw [hC] at g2 g3 g7
  go_enter Tryz.func11, Tryz.ntmps11
  go_upto_region 1 with (fail)
  (refine wp_region_calm (by kernel_rfl) (by kernel_rfl) ?_; (repeat (go_big_quiet_step (((first
      | (go_at_call 22; first | (with_reducible refine Calls.calm_of (mach_mem _ _ _ (h.after (After.h _)).p.mach)) | (with_reducible refine Calls.calm_of_same (mach_mem _ _ _ (h.after (After.h _)).p.mach)))
      | (go_at_call 90; first | (with_reducible refine Calls.calm_of ((h.after (After.h _)).alike)) | (with_reducible refine Calls.calm_of_same ((h.after (After.h _)).alike)))
      | (go_at_call 86; first | (with_reducible refine Calls.calm_of ((h.after (After.h _)).now)) | (with_reducible refine Calls.calm_of_same ((h.after (After.h _)).now)))
      | (go_at_call 70; first | (with_reducible refine Calls.calm_of ((h.after (After.h _)).cores hC)) | (with_reducible refine Calls.calm_of_same ((h.after (After.h _)).cores hC)))
      | (go_at_call 18; first | (with_reducible refine Calls.calm_of (mach_live _ _ _ (h.after (After.h _)).p.mach)) | (with_reducible refine Calls.calm_of_same (mach_live _ _ _ (h.after (After.h _)).p.mach)))
      | (go_at_call 91; first | (with_reducible refine Calls.calm_of ((h.after (After.h _)).liveC)) | (with_reducible refine Calls.calm_of_same ((h.after (After.h _)).liveC)))
      | (go_at_call 92; first | (with_reducible refine Calls.calm_of ((h.after (After.h _)).rC)) | (with_reducible refine Calls.calm_of_same ((h.after (After.h _)).rC)))))))); refine wpQuiet_nil ?_; intro _ hw'; obtain ⟨wq, hw''⟩ := hw'; subst hw''; obtain ⟨wq, hbq⟩ := wq; try dsimp only at *)
  have h1 := h.after hbq
  clear g0 g1 g2 g3 g4 g5 g6 g7 gn
  obtain ⟨g0, g1, g2, g3, g4, g5, g6, g7⟩ := ptr_cells h1.r
  go_upto_region 5 with (first
    | ((go_at_call 93; (with_reducible refine (mach_floors _ _ _ h1.p.mach ok).mono ?_); rintro e w' ⟨rfl, hb2⟩); have h2 := h1.after hb2; have hB2 := hbq.trans (hb2.mono hbq.size); obtain ⟨k0, k1, k2, k3, k4, k5, k6, k7⟩ := ptr_cells h2.r)
    | ((go_at_call 94; (with_reducible refine (r3_floor _ _ _ h2.r.clkAt ok.clk).mono ?_); rintro e w' ⟨rfl, hb3⟩); have h3 := h2.after hb3; have hB3 := hB2.trans (hb3.mono hB2.size)))
  clear g0 g1 g2 g3 g4 g5 g6 g7
  clear k0 k1 k2 k3 k4 k5 k6 k7
  clear h1 h2 h3 hbq hb2 hB2 hb3
  go_upto_block 0 with (fail)
  go_cut [] (fun wr => Below w.heap.size w wr)
  case first => as_aux_lemma =>
    go_wp2
    go_loopw [9] (fun i wr => ∃ (k : Nat), k ≤ m.mem.n ∧ i = .int .i64 k ∧ Below w.heap.size w wr) (fun i _ => m.mem.n - (intOf i).toNat)
    case atStart => exact ⟨0, by omega, rfl, hB3⟩
    case round =>
      obtain ⟨k, hk, rfl, hB⟩ := hrel
      have h1 := h.after hB
      obtain ⟨g0, g1, g2, g3, g4, g5, g6, g7⟩ := ptr_cells h1.r
      have gm := h1.r.mem.cell0
      by_cases hl : k < m.mem.n
      rotate_left
      · have hl' : ¬ (k : Int) < m.mem.n := by omega
        go_wp2
        go_meet
        exact hB
      have hl' : (k : Int) < m.mem.n := by omega
      have hwf := wf64 (Nat.lt_of_lt_of_le hl n64)
      obtain ⟨wo, hwo⟩ : ∃ y : World, y = wr := ⟨_, rfl⟩
      subst hwo
      go_upto_region 11 with ((go_at_call 95; (with_reducible refine (r6_ofAll _ h1.r.typ).mono ?_); rintro e w' ⟨rfl, hb1⟩))
      have hx := heap_new w' (.cells #[.int .i64 (m.typ.type k), .int .i64 (m.typ.count k), .int .i64 (m.typ.freed k), .int .i64 (m.typ.was k)] 158 (0, 0))
      have hB2 : Below w.heap.size w (w'.alloc (.cells #[.int .i64 (m.typ.type k), .int .i64 (m.typ.count k), .int .i64 (m.typ.freed k), .int .i64 (m.typ.was k)] 158 (0, 0))) := (hB.trans (hb1.mono hB.size)).alloc (hB.trans (hb1.mono hB.size)).size _
      have hlx := lt_of_block hx
      generalize w'.alloc (.cells #[.int .i64 (m.typ.type k), .int .i64 (m.typ.count k), .int .i64 (m.typ.freed k), .int .i64 (m.typ.was k)] 158 (0, 0)) = W at *
      generalize w'.heap.size = N at *
      clear hb1
      have h2 := h.after hB2
      clear g0 g1 g2 g3 g4 g5 g6 g7 gm h1
      obtain ⟨g0, g1, g2, g3, g4, g5, g6, g7⟩ := ptr_cells h2.r
      have x0 := cell_of hx 0; have x1 := cell_of hx 1; have x2 := cell_of hx 2; have x3 := cell_of hx 3
      dsimp at x0 x1 x2 x3
      have lb2 : R.b < W.heap.size := lt_of_block h2.r.box
      (refine wp_region_calm (by kernel_rfl) (by kernel_rfl) ?_; (repeat (go_big_quiet_step (((first
              | (go_at_call 84; first | (with_reducible refine Calls.calm_of (mach_typ _ _ _ (h2.after (After.h _)).p.mach)) | (with_reducible refine Calls.calm_of_same (mach_typ _ _ _ (h2.after (After.h _)).p.mach)))
              | (go_at_call 96; first | (with_reducible refine Calls.calm_of (typ_type _ _ _ _ _ _ (h2.after (After.h _)).p.mach.typ ok.typ)) | (with_reducible refine Calls.calm_of_same (typ_type _ _ _ _ _ _ (h2.after (After.h _)).p.mach.typ ok.typ)))
              | (go_at_call 97; first | (with_reducible refine Calls.calm_of (typ_count _ _ _ _ _ _ (h2.after (After.h _)).p.mach.typ ok.typ)) | (with_reducible refine Calls.calm_of_same (typ_count _ _ _ _ _ _ (h2.after (After.h _)).p.mach.typ ok.typ)))
              | (go_at_call 98; first | (with_reducible refine Calls.calm_of (typ_freed _ _ _ _ _ _ (h2.after (After.h _)).p.mach.typ ok.typ)) | (with_reducible refine Calls.calm_of_same (typ_freed _ _ _ _ _ _ (h2.after (After.h _)).p.mach.typ ok.typ)))
              | (go_at_call 99; first | (with_reducible refine Calls.calm_of (typ_was _ _ _ _ _ _ (h2.after (After.h _)).p.mach.typ ok.typ)) | (with_reducible refine Calls.calm_of_same (typ_was _ _ _ _ _ _ (h2.after (After.h _)).p.mach.typ ok.typ)))
              | (go_at_call 100; first | (with_reducible refine Calls.calm_of (mach_lines _ _ _ (h2.after (After.h _)).p.mach)) | (with_reducible refine Calls.calm_of_same (mach_lines _ _ _ (h2.after (After.h _)).p.mach)))
              | (go_at_call 101; first | (with_reducible refine Calls.calm_of (hw_has _ _ _ _ (h2.after (After.h _)).p.lnb (h2.after (After.h _)).p.lnm)) | (with_reducible refine Calls.calm_of_same (hw_has _ _ _ _ (h2.after (After.h _)).p.lnb (h2.after (After.h _)).p.lnm)))
              | (go_at_call 102; first | (with_reducible refine Calls.calm_of (r23_has _ _ _ _ _ hwf (h2.after (After.h _)).r.hvb (h2.after (After.h _)).r.hvr)) | (with_reducible refine Calls.calm_of_same (r23_has _ _ _ _ _ hwf (h2.after (After.h _)).r.hvb (h2.after (After.h _)).r.hvr)))))))); refine wpQuiet_nil ?_; intro _ hw'; obtain ⟨wq, hw''⟩ := hw'; subst hw''; obtain ⟨wq, hbq⟩ := wq; try dsimp only at *)
      go_wp2
      go_roundw
      case rel => first | exact ⟨k + 1, by omega, by go_num, hB2.trans (hbq.mono hB2.size)⟩ | ((repeat apply Exists.intro); exact ⟨⟨k + 1, by omega, by go_num, hB2.trans (hbq.mono hB2.size)⟩, rfl⟩)
      case measure => simp [intOf]; omega
  case rest =>
    go_upto_block 2 with (fail)
    go_cut [] (fun wr => Below w.heap.size w wr)
    case rest =>
      go_wp2
      go_ret
      exact ⟨rfl, hcut⟩
    case first => as_aux_lemma =>
      go_wp2
      go_loopw [11] (fun i wr => ∃ (k : Nat), k ≤ C ∧ i = .int .i64 k ∧ Below w.heap.size w wr) (fun i _ => C - (intOf i).toNat)
      case atStart => exact ⟨0, by omega, rfl, hcut⟩
      case round =>
        obtain ⟨k, hk, rfl, hB⟩ := hrel
        have h1 := h.after hB
        obtain ⟨g0, g1, g2, g3, g4, g5, g6, g7⟩ := ptr_cells h1.r
        rw [hC] at g2 g3 g7
        by_cases hl : k < C
        rotate_left
        · have hl' : ¬ (k : Int) < C := by omega
          go_wp2
          go_meet
          exact hB
        have hl' : (k : Int) < C := by omega
        have hkn : k < m.clk.n.toNat := by omega
        obtain ⟨wo, hwo⟩ : ∃ y : World, y = wr := ⟨_, rfl⟩
        subst hwo
        go_upto_block 3 with (fail)
        go_cut [] (fun wi => Below w.heap.size w wi)
        case rest =>
          go_wp2
          go_roundw
          case rel => first | exact ⟨k + 1, by omega, by go_num, hcut⟩ | ((repeat apply Exists.intro); exact ⟨⟨k + 1, by omega, by go_num, hcut⟩, rfl⟩)
          case measure => simp [intOf]; omega
        case first => as_aux_lemma =>
          go_upto_region 18 with (first
            | ((go_at_call 13; (with_reducible refine (mach_regs _ _ _ _ h1.p.mach ok hkn).mono ?_); rintro e w' ⟨rfl, rfl⟩))
            | ((go_at_call 103; (with_reducible refine (regs_all _ _ (h1.p.regs k hkn)).mono ?_); rintro e w' ⟨bq, rfl, hq1, hq2, hqc, hb2⟩); have h2 := h1.after hb2; have hB2 := hB.trans (hb2.mono hB.size))
            | ((go_at_call 12; (with_reducible refine (mach_tlb _ _ _ _ h2.p.mach ok hkn).mono ?_); rintro e w' ⟨rfl, rfl⟩))
            | ((go_at_call 104; (with_reducible refine (tlb_keys0 _ _ _ _ (h2.p.mach.tlb k hkn)).mono ?_); rintro e w' ⟨rfl, hb3⟩); have h3 := h2.after hb3; have hB3 := hB2.trans (hb3.mono hB2.size); have hqd : ∀ o, o < 8 → w'.cell? ⟨bq, o, none⟩ = some (.int .u64 0) := fun o ho => (hb3.cell (p := ⟨bq, o, none⟩) hq2).trans (hqc o ho); have hq3 := Nat.lt_of_lt_of_le hq2 hb3.size))
          obtain ⟨W, hW⟩ : ∃ y : World, y = w' := ⟨_, rfl⟩
          subst hW
          clear g0 g1 g2 g3 g4 g5 g6 g7 hqc hb2 hB2 hq2 h2 hb3
          obtain ⟨g0, g1, g2, g3, g4, g5, g6, g7⟩ := ptr_cells h3.r
          rw [hC] at g2 g3 g7
          have lb3 : R.b < W.heap.size := lt_of_block h3.r.box
          have c0 := h3.r.rC.at (ints_at (f := B.cur) hkn)
          have c1 := h3.r.rR.at (ptrs_at R.rb hkn)
          have c2 := h3.r.rT.at (ptrs_at R.tb hkn)
          have c3 := cell_of (h3.r.fl k hkn) 0
          have c4 := cell_of (h3.r.tl k hkn) 0
          dsimp at c3 c4
          have l0 := h3.r.rC.lt; have l1 := h3.r.rR.lt; have l2 := h3.r.rT.lt
          have l3 := lt_of_block (h3.r.fl k hkn); have l4 := lt_of_block (h3.r.tl k hkn)
          (refine wp_region_calm (by kernel_rfl) (by kernel_rfl) ?_; (repeat (go_big_quiet_step (((go_at_call 14; first | (with_reducible refine Calls.calm_of (mach_cur _ _ _ _ (h3.after (After.h _)).p.mach ok hkn)) | (with_reducible refine Calls.calm_of_same (mach_cur _ _ _ _ (h3.after (After.h _)).p.mach ok hkn))))))); refine wpQuiet_nil ?_; intro _ hw'; obtain ⟨wq, hw''⟩ := hw'; subst hw''; obtain ⟨wq, hbq⟩ := wq; try dsimp only at *)
          have h4 := h3.after hbq
          have hB4 := hB3.trans (hbq.mono hB3.size)
          have hqe : ∀ o, o < 8 → wq.cell? ⟨bq, o, none⟩ = some (.int .u64 0) := fun o ho => (hbq.cell (p := ⟨bq, o, none⟩) hq3).trans (hqd o ho)
          have hq4 := Nat.lt_of_lt_of_le hq3 hbq.size
          go_upto_block 4 with (fail)
          go_cut [] (fun wi => Below w.heap.size w wi)
          case first => as_aux_lemma =>
            go_wp2
            go_loopw [14] (fun i wi => ∃ (j : Nat), j ≤ 8 ∧ i = .int .i64 j ∧ Below wq.heap.size wq wi) (fun i _ => 8 - (intOf i).toNat)
            case atStart => exact ⟨0, by omega, rfl, Below.refl _ _⟩
            case round =>
              obtain ⟨j, hj, rfl, hBi⟩ := hrel
              have h5 := h4.after hBi
              clear g0 g1 g2 g3 g4 g5 g6 g7
              obtain ⟨g0, g1, g2, g3, g4, g5, g6, g7⟩ := ptr_cells h5.r
              rw [hC] at g2 g3 g7
              have c1 := h5.r.rR.at (ptrs_at R.rb hkn)
              have c3 := cell_of (h5.r.fl k hkn) 0
              dsimp at c3
              by_cases hj2 : j < 8
              rotate_left
              · have hj3 : ¬ (j : Int) < 8 := by omega
                go_wp2
                go_meet
                exact hB4.trans (hBi.mono hB4.size)
              have hj3 : (j : Int) < 8 := by omega
              have cq := (hBi.cell (p := ⟨bq, j, none⟩) hq4).trans (hqe j hj2)
              have cr := (h5.r.fr k hkn).at (reps1_at (a := .int .u64 0) hj2)
              have l1 := h5.r.rR.lt; have l3 := lt_of_block (h5.r.fl k hkn); have l5 := (h5.r.fr k hkn).lt
              have l6 := Nat.lt_of_lt_of_le hq4 hBi.size
              have lb5 : R.b < _ := lt_of_block h5.r.box
              go_upto_region 23 with (fail)
              (refine wp_region_calm (by kernel_rfl) (by kernel_rfl) ?_; (repeat (go_big_quiet_step ((fail)))); refine wpQuiet_nil ?_; intro _ hw'; obtain ⟨wq, hw''⟩ := hw'; subst hw''; obtain ⟨wq, hbq⟩ := wq; try dsimp only at *)
              go_wp2
              go_roundw
              case rel => first | exact ⟨j + 1, by omega, by go_num, hBi.trans (hbq.mono hBi.size)⟩ | ((repeat apply Exists.intro); exact ⟨⟨j + 1, by omega, by go_num, hBi.trans (hbq.mono hBi.size)⟩, rfl⟩)
              case measure => simp [intOf]; omega
          case rest => as_aux_lemma =>
            go_upto_block 6 with (fail)
            go_wp2
            go_loopw [15] (fun i wi => i = .int .i64 0 ∧ Below w.heap.size w wi) (fun i _ => 0)
            case atStart => exact ⟨rfl, hcut⟩
            case round =>
              obtain ⟨rfl, hBi⟩ := hrel
              go_wp2
              go_meet
              exact hBi
end
end Go.Proofs.YtmahledpcpdldaaGreat
