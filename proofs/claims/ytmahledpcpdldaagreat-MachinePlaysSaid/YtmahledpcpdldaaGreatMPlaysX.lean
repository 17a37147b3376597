/- MachinePlays: the walk of the law. -/
import Derived.Test.YtmahledpcpdldaaGreatGAct
import Derived.Test.YtmahledpcpdldaaGreatSame25
import Derived.Test.YtmahledpcpdldaaGreatGMX
import Derived.Test.YtmahledpcpdldaaGreatR25n
import Derived.Test.YtmahledpcpdldaaGreatGSeen
import Derived.Test.YtmahledpcpdldaaGreatCaps
import Derived.Test.YtmahledpcpdldaaGreatFour
set_option linter.unusedVariables false
set_option linter.unusedSimpArgs false
namespace Go.Proofs.YtmahledpcpdldaaGreat
open Go.RowKit Go.OpenShut
theorem cfg_split (f c p r : Int) : CfgOk f c p r ∨ ¬ CfgOk f c p r := Classical.em _
theorem r25_check' (f c p r : Int) (w : World) (ok : CfgOk f c p r) : Calls Tryz.prog 8 #[.agg #[.int .i64 f, .int .i64 c, .int .i64 p, .int .i64 r]] w fun e w' => e = .returned (.int .i64 0) ∧ Below w.heap.size w w' := mach_check f c p r w ok
set_option maxHeartbeats 8000000 in
set_option maxRecDepth 100000 in
theorem machinePlays_walk (f c p r : Int) (a1 : Option Addr) (len1 cap1 : Nat) (z1 : List Int) (a2 : Option Addr) (len2 cap2 : Nat) (z2 : List Int) (a3 : Option Addr) (len3 cap3 : Nat) (z3 : List Int)
    (a4 : Option Addr) (len4 cap4 : Nat) (z4 : Nat → CapS) (w : World) (wf : (Lit.int .i64 f).wf = true) (wc : (Lit.int .i64 c).wf = true) (wp : (Lit.int .i64 p).wf = true) (wr : (Lit.int .i64 r).wf = true) (w1 : IsRow .u8 w a1 len1 cap1 z1) (w2 : IsRow .i64 w a2 len2 cap2 z2) (w3 : IsRow .i64 w a3 len3 cap3 z3)
    (w4 : IsCaps w a4 len4 cap4 z4) :
    Calls Tryz.prog 3 #[.agg #[.int .i64 f, .int .i64 c, .int .i64 p, .int .i64 r], .slice a1 len1 cap1, .slice a2 len2 cap2, .slice a3 len3 cap3, .slice a4 len4 cap4] w
      fun e w' => e = .returned (.bool true) ∧ Below w.heap.size w w' := by
  have hA : ∀ o, Below w.heap.size w (w.alloc o) := fun o => by (refine Touch.below0 ?_; (repeat' (first | (with_reducible exact Touch.refl _ _) | (with_reducible assumption) | (with_reducible refine Touch.drew ?_) | (with_reducible refine Touch.drewN ?_ _) | (with_reducible refine Touch.alloc ?_ _) | (with_reducible refine Touch.setCell ?_ _ _ _ ?_) | (with_reducible refine Touch.step (by assumption) ?_) | (with_reducible refine Touch.stepT (by assumption) ?_ ?_) | (intro _; first | rfl | trivial | omega | (simp; done) | (simp; omega)) | (intro _ _; first | omega | (simp; done) | (simp; omega)))))
  have AW := awake25
  clear wf wc wp wr
  rcases cfg_split f c p r with ok | no
  rotate_left
  · have P := fun w => mach_new_no f c p r w no
    have Q := fun w => r25_new_no f c p r w no
    have K := fun w => mach_check_no f c p r w no
    clear no w1 w2 w3 w4
    have hlx : w.heap.size < (w.alloc (.cells #[.int .i64 f, .int .i64 c, .int .i64 p, .int .i64 r] 23 (0, 0))).heap.size := by simp
    have x0 := heap_new w (.cells #[.int .i64 f, .int .i64 c, .int .i64 p, .int .i64 r] 23 (0, 0))
    have hb0 := hA (.cells #[.int .i64 f, .int .i64 c, .int .i64 p, .int .i64 r] 23 (0, 0))
    go_enter Tryz.func3, Tryz.ntmps3
    go_upto_region 1 with (fail)
    generalize w.alloc (.cells #[.int .i64 f, .int .i64 c, .int .i64 p, .int .i64 r] 23 (0, 0)) = W at *
    have y0 := cell_of x0 0; have y1 := cell_of x0 1; have y2 := cell_of x0 2; have y3 := cell_of x0 3
    dsimp at y0 y1 y2 y3
    go_wp2_with (first
      | ((go_at_call 6; (with_reducible refine (P _).mono ?_); rintro e w' ⟨rfl, hb1⟩); have x1 := (hb1.block _ (lt_of_block x0)).trans x0; have hB1 := hb0.trans (hb1.mono hb0.size); have y0 := cell_of x1 0; have y1 := cell_of x1 1; have y2 := cell_of x1 2; have y3 := cell_of x1 3; dsimp at y0 y1 y2 y3)
      | ((go_at_call 7; (with_reducible refine (Q _).mono ?_); rintro e w' ⟨rfl, hb2⟩); have x2 := (hb2.block _ (lt_of_block x1)).trans x1; have hB2 := hB1.trans (hb2.mono hB1.size); have y0 := cell_of x2 0; have y1 := cell_of x2 1; have y2 := cell_of x2 2; have y3 := cell_of x2 3; dsimp at y0 y1 y2 y3)
      | ((go_at_call 8; (with_reducible refine (K _).mono ?_); rintro e w' ⟨rfl, hb3⟩); have hB3 := hB2.trans (hb3.mono hB2.size))
      | ((go_at_call 9; (with_reducible refine (AW _).mono ?_); rintro e w' ⟨rfl, hb4⟩); have hB4 := hB3.trans (hb4.mono hB3.size)))
    go_ret
    exact ⟨rfl, hB4⟩
  have hf1 := ok.f1; have hc1 := ok.c1; have hc4 := ok.c4
  obtain ⟨F, rfl⟩ : ∃ F : Nat, f = F := ⟨f.toNat, by omega⟩
  obtain ⟨C, rfl⟩ : ∃ C : Nat, c = C := ⟨c.toNat, by omega⟩
  have P := fun w => mach_newXX F C p r w ok
  have Q := fun w => r25_newS F C p r w ok
  have K := fun w => mach_check F C p r w ok
  have okM := Mach.new_ok ok
  have hCn : (Clk.new C).n.toNat = C := by simp [Clk.new]
  have hCi : (Clk.new C).n = C := rfl
  have m1 := w1.maxLen; have m2 := w2.maxLen; have m3 := w3.maxLen
  have o1 := w1.open; have o2 := w2.open; have o3 := w3.open
  obtain ⟨m4, o4⟩ := w4
  clear w1 w2 w3
  have x0 := heap_new w (.cells #[.int .i64 F, .int .i64 C, .int .i64 p, .int .i64 r] 23 (0, 0))
  have hb0 := hA (.cells #[.int .i64 F, .int .i64 C, .int .i64 p, .int .i64 r] 23 (0, 0))
  generalize hM0 : (⟨⟨F, fun _ _ => 0⟩, Clk.new C, TypS.new F⟩ : Mach) = M0 at *
  have hMc : M0.clk.n = C := by subst hM0; rfl
  go_enter Tryz.func3, Tryz.ntmps3
  go_upto_region 1 with (fail)
  generalize w.alloc (.cells #[.int .i64 F, .int .i64 C, .int .i64 p, .int .i64 r] 23 (0, 0)) = W at *
  have y0 := cell_of x0 0; have y1 := cell_of x0 1; have y2 := cell_of x0 2; have y3 := cell_of x0 3
  dsimp at y0 y1 y2 y3
  go_upto_block 0 with (first
    | ((go_at_call 6; (with_reducible refine (P _).mono ?_); rintro e w' ⟨B, rfl, hp, hown, hb1, hcur, hcore⟩); have x1 := (hb1.block _ (lt_of_block x0)).trans x0; have hB1 := hb0.trans (hb1.mono hb0.size); have y0 := cell_of x1 0; have y1 := cell_of x1 1; have y2 := cell_of x1 2; have y3 := cell_of x1 3; dsimp at y0 y1 y2 y3; have hlt := hp.lts)
    | ((go_at_call 7; (with_reducible refine (Q _).mono ?_); rintro e w' ⟨R, rfl, hr, hfr, hb2⟩); have x2 := (hb2.block _ (lt_of_block x1)).trans x1; have hB2 := hB1.trans (hb2.mono hB1.size); have y0 := cell_of x2 0; have y1 := cell_of x2 1; have y2 := cell_of x2 2; have y3 := cell_of x2 3; dsimp at y0 y1 y2 y3; have hp2 := hp.after hb2)
    | ((go_at_call 8; (with_reducible refine (K _).mono ?_); rintro e w' ⟨rfl, hb3⟩); have hB3 := hB2.trans (hb3.mono hB2.size); have hp3 := hp2.after hb3; have hr3 := hr.after hb3))
  have hcurE : B.cur = fun _ => -1 := funext hcur
  rw [← hcurE] at hr3
  obtain ⟨x, hxx⟩ : ∃ x, BLt B M0.clk.n.toNat x ∧ R.From x := ⟨_, hlt, hfr⟩
  have hbz := hb0.size
  have hbz1 := hB1.size
  have hT : Both w' B R M0 r x w.heap.size := ⟨hp3, hr3, okM, hxx.1, hxx.2, fun y hy => Nat.le_trans hbz (hown y hy), fun k hk => Nat.le_trans hbz (hcore k (by rw [hMc] at hk; simpa using hk)), Nat.le_trans hbz1 hfr.e⟩
  obtain ⟨bb, hbb⟩ : ∃ bb, B.b = bb := ⟨_, rfl⟩
  rw [hbb]
  clear hp hp2 hp3 hr hr3 hlt hfr hb1 hb2 hb3 hB1 hB2 x0 x1 x2 hown hcore hcur hcurE hxx P Q K hb0 hA ok okM
  go_cut [] (fun wr => Below w.heap.size w wr ∧ ∃ B m, Both wr B R m r x w.heap.size ∧ B.b = bb ∧ m.clk.n = C)
  case first =>
    go_wp2
    go_loopw [15] (fun i wr => ∃ (k : Nat) (B : MBl) (m : Mach), k ≤ 60 ∧ i = .int .i64 k ∧ Both wr B R m r x w.heap.size ∧ B.b = bb ∧ m.clk.n = C ∧ Below w.heap.size w wr) (fun i _ => 60 - (intOf i).toNat)
    case atStart => exact ⟨0, B, M0, by omega, rfl, hT, hbb, hMc, hB3⟩
    case round =>
      clear hT hbb hMc hM0
      obtain ⟨k, B, m, hk, rfl, hT, hbb, hMc, hB⟩ := hrel
      by_cases l1 : k < len1
      rotate_left
      · have l1' : ¬ (k : Int) < len1 := by omega
        go_wp2
        go_meet
        exact ⟨hB, B, m, hT, hbb, hMc⟩
      have l1' : (k : Int) < len1 := by omega
      by_cases l2 : k < len2
      rotate_left
      · have l2' : ¬ (k : Int) < len2 := by omega
        go_wp2
        go_meet
        exact ⟨hB, B, m, hT, hbb, hMc⟩
      have l2' : (k : Int) < len2 := by omega
      by_cases l3 : k < len3
      rotate_left
      · have l3' : ¬ (k : Int) < len3 := by omega
        go_wp2
        go_meet
        exact ⟨hB, B, m, hT, hbb, hMc⟩
      have l3' : (k : Int) < len3 := by omega
      by_cases l4 : k < len4
      rotate_left
      · have l4' : ¬ (k : Int) < len4 := by omega
        go_wp2
        go_meet
        exact ⟨hB, B, m, hT, hbb, hMc⟩
      have l4' : (k : Int) < len4 := by omega
      by_cases l6 : k < 60
      rotate_left
      · have l6' : ¬ (k : Int) < 60 := by omega
        go_wp2
        go_meet
        exact ⟨hB, B, m, hT, hbb, hMc⟩
      have l6' : (k : Int) < 60 := by omega
      rcases o1 with o1 | ⟨b1, p1, rfl, hb1, hc1, hw1⟩
      · omega
      rcases o2 with o2 | ⟨b2, p2, rfl, hb2, hc2, hw2⟩
      · omega
      rcases o3 with o3 | ⟨b3, p3, rfl, hb3, hc3, hw3⟩
      · omega
      rcases o4 with o4 | ⟨b4, p4, rfl, hb4, hc4⟩
      · omega
      obtain ⟨⟨x0, x1, x2, x3, x4, x5⟩, -⟩ := hc4 k l4
      have c1 := hc1 k l1; have c2 := hc2 k l2; have c3 := hc3 k l3
      have u8 := bounds_u8 (hw1 k l1)
      have wfa := hw2 k l2
      generalize z1.getD k 0 = K at *
      generalize z2.getD k 0 = X1 at *
      generalize z3.getD k 0 = X2 at *
      generalize z4 k = CC at *
      obtain ⟨C0, C1, C2, C3, C4, C5⟩ := CC
      dsimp only at x0 x1 x2 x3 x4 x5
      clear hc1 hc2 hc3 hc4 hw1 hw2 hw3
      have kT : ∀ y, Below w.heap.size w y → y.cell? ⟨b1, p1 + k, none⟩ = some (.int .u8 K) ∧ y.cell? ⟨b2, p2 + k, none⟩ = some (.int .i64 X1) ∧ y.cell? ⟨b3, p3 + k, none⟩ = some (.int .i64 X2) ∧
          y.cell? ⟨b4, p4 + k * 6, none⟩ = some (.int .i64 C0) ∧ y.cell? ⟨b4, p4 + k * 6 + 1, none⟩ = some (.int .i64 C1) ∧ y.cell? ⟨b4, p4 + k * 6 + 2, none⟩ = some (.int .i64 C2) ∧ y.cell? ⟨b4, p4 + k * 6 + 3, none⟩ = some (.int .i64 C3) ∧ y.cell? ⟨b4, p4 + k * 6 + 4, none⟩ = some (.int .i64 C4) ∧ y.cell? ⟨b4, p4 + k * 6 + 5, none⟩ = some (.int .i64 C5) :=
        fun y hb => ⟨(hb.cell (p := ⟨b1, _, none⟩) hb1).trans c1, (hb.cell (p := ⟨b2, _, none⟩) hb2).trans c2, (hb.cell (p := ⟨b3, _, none⟩) hb3).trans c3,
          (hb.cell (p := ⟨b4, _, none⟩) hb4).trans x0, (hb.cell (p := ⟨b4, _, none⟩) hb4).trans x1, (hb.cell (p := ⟨b4, _, none⟩) hb4).trans x2, (hb.cell (p := ⟨b4, _, none⟩) hb4).trans x3, (hb.cell (p := ⟨b4, _, none⟩) hb4).trans x4, (hb.cell (p := ⟨b4, _, none⟩) hb4).trans x5⟩
      have kw : IntKind.i64.wrap (K.tmod 9) = K % 9 := by
        rw [Int.tmod_eq_emod_of_nonneg u8.1]
        simp only [IntKind.wrap, IntKind.bits, IntKind.signed]
        simp
        omega
      have k0 : 0 ≤ IntKind.i64.wrap (K.tmod 9) := by rw [kw]; omega
      have k9 : IntKind.i64.wrap (K.tmod 9) < 9 := by rw [kw]; omega
      clear kw
      clear c1 c2 c3 x0 x1 x2 x3 x4 x5
      obtain ⟨wo, hwo⟩ : ∃ x : World, x = wr := ⟨_, rfl⟩
      subst hwo
      subst hbb
      go_upto_region 10 with (fail)
      have d0 : Below w.heap.size w wo.drew := hB.drew
      have hD := hT.after ((Below.refl _ wo).drew)
      go_region_held3 (fun y => y.cell? ⟨b1, p1 + k, none⟩ = some (.int .u8 K) ∧ y.cell? ⟨b2, p2 + k, none⟩ = some (.int .i64 X1) ∧ y.cell? ⟨b3, p3 + k, none⟩ = some (.int .i64 X2) ∧
          y.cell? ⟨b4, p4 + k * 6, none⟩ = some (.int .i64 C0) ∧ y.cell? ⟨b4, p4 + k * 6 + 1, none⟩ = some (.int .i64 C1) ∧ y.cell? ⟨b4, p4 + k * 6 + 2, none⟩ = some (.int .i64 C2) ∧ y.cell? ⟨b4, p4 + k * 6 + 3, none⟩ = some (.int .i64 C3) ∧ y.cell? ⟨b4, p4 + k * 6 + 4, none⟩ = some (.int .i64 C4) ∧ y.cell? ⟨b4, p4 + k * 6 + 5, none⟩ = some (.int .i64 C5))
        (first | (with_reducible exact kT _ d0) | (with_reducible refine kT _ ?_; with_reducible assumption))
        (first
          | (go_at_call 10; (with_reducible refine (act25 _ k0 k9 wfa hD).mono ?_); rintro e w' ⟨rfl, B', m', hT2, hbb2, hn2, ht⟩; have hB2 := below_touch d0 ht d0.size (fun i hi (e : w.heap.size ≤ i) => by omega))
          | (go_at_call 11; (with_reducible refine (same25 hT2 hbb2).mono ?_); rintro e w' ⟨rfl, hx⟩; have hB3 := hB2.trans (hx.mono hB2.size); have hT3 := hT2.after hx))
      go_wp2
      refine ⟨⟨k + 1, B', m', by omega, by push_cast; rfl, hT3, hbb2, hn2.trans hMc, hB3⟩, ?_⟩
      simp [intOf]
      omega
  case rest =>
    obtain ⟨hB, B, m, hT, hbb, hMc⟩ := hcut
    have i1 : m.isCore (-1) = false := by simp [Mach.isCore]
    have i9 : m.isCore 9 = false := by simp [Mach.isCore]; omega
    subst hbb
    go_wp2_with (first
      | ((go_at_call 12; (with_reducible refine (mach_tlb_no _ _ _ _ hT.p.mach hT.ok i1).mono ?_); rintro e w' ⟨rfl, rfl⟩))
      | ((go_at_call 13; (with_reducible refine (mach_regs_no _ _ _ _ hT.p.mach hT.ok i9).mono ?_); rintro e w' ⟨rfl, rfl⟩))
      | ((go_at_call 14; (with_reducible refine (mach_cur_no _ _ _ _ hT.p.mach hT.ok i9).mono ?_); rintro e w' ⟨rfl, rfl⟩))
      | ((go_at_call 9; (with_reducible refine (AW _).mono ?_); rintro e w' ⟨rfl, hx⟩)))
    go_ret
    exact ⟨rfl, hB.trans (hx.mono hB.size)⟩
end Go.Proofs.YtmahledpcpdldaaGreat
