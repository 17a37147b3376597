/- CaptblPlays: the walk of the law. -/
import Derived.Test.YtejdfdllgobnhaaGreatAct13b
import Derived.Test.YtejdfdllgobnhaaGreatLaid13
import Derived.Test.YtejdfdllgobnhaaGreatAw13
import Derived.Test.YtejdfdllgobnhaaGreatCaps
set_option linter.unusedVariables false
set_option linter.unusedSimpArgs false
namespace Go.Proofs.YtejdfdllgobnhaaGreat
open Go.RowKit Go.OpenShut
set_option maxHeartbeats 8000000 in
set_option maxRecDepth 100000 in
theorem captblPlays_walk (a0 : Option Addr) (len0 cap0 : Nat) (z0 : List Int) (a1 : Option Addr) (len1 cap1 : Nat) (z1 : List Int) (a2 : Option Addr) (len2 cap2 : Nat) (z2 : List Int) (a3 : Option Addr) (len3 cap3 : Nat) (z3 : List Int)
    (a4 : Option Addr) (len4 cap4 : Nat) (z4 : List Int) (a5 : Option Addr) (len5 cap5 : Nat) (z5 : Nat → CapS) (w : World) (w0 : IsRow .u64 w a0 len0 cap0 z0) (w1 : IsRow .u8 w a1 len1 cap1 z1) (w2 : IsRow .i64 w a2 len2 cap2 z2) (w3 : IsRow .i64 w a3 len3 cap3 z3)
    (w4 : IsRow .i64 w a4 len4 cap4 z4) (w5 : IsCaps w a5 len5 cap5 z5) :
    Calls Tryz.prog 3 #[.slice a0 len0 cap0, .slice a1 len1 cap1, .slice a2 len2 cap2, .slice a3 len3 cap3, .slice a4 len4 cap4, .slice a5 len5 cap5] w
      fun e w' => e = .returned (.bool true) ∧ Below w.heap.size w w' := by
  have LD := laid13 a0 len0 cap0 z0 w w0
  have AW := awake13
  have m1 := w1.maxLen; have m2 := w2.maxLen; have m3 := w3.maxLen; have m4 := w4.maxLen
  have o1 := w1.open; have o2 := w2.open; have o3 := w3.open; have o4 := w4.open
  obtain ⟨m5, o5⟩ := w5
  clear w0 w1 w2 w3 w4
  go_enter Tryz.func3, Tryz.ntmps3
  go_upto_block 0 with ((go_at_call 9; (with_reducible refine (LD).mono ?_); rintro e w' ⟨A, G, B, m, rfl, hT, hn, hGw, hF, hB⟩))
  have hOwn : ∀ x, x < w.heap.size → ¬ B.two G 4 x := fun x hx e => by
    rcases e with e | ⟨j, hj, e⟩
    · omega
    · have := hF.f j hj; omega
  go_cut [] (fun wr => Below w.heap.size w wr)
  case first =>
    go_wp2
    go_loopw [15] (fun i wr => ∃ (k : Nat) (m : MemS), k ≤ 40 ∧ i = .int .i64 k ∧ Two wr A G B m ∧ m.n = 4 ∧ Below w.heap.size w wr) (fun i _ => 40 - (intOf i).toNat)
    case atStart => exact ⟨0, m, by omega, rfl, hT, hn, hB⟩
    case round =>
      obtain ⟨k, m, hk, rfl, hT, hn, hB⟩ := hrel
      by_cases l1 : k < len1
      rotate_left
      · have l1' : ¬ (k : Int) < len1 := by omega
        go_wp2
        go_meet
        exact hB
      have l1' : (k : Int) < len1 := by omega
      by_cases l2 : k < len2
      rotate_left
      · have l2' : ¬ (k : Int) < len2 := by omega
        go_wp2
        go_meet
        exact hB
      have l2' : (k : Int) < len2 := by omega
      by_cases l3 : k < len3
      rotate_left
      · have l3' : ¬ (k : Int) < len3 := by omega
        go_wp2
        go_meet
        exact hB
      have l3' : (k : Int) < len3 := by omega
      by_cases l4 : k < len4
      rotate_left
      · have l4' : ¬ (k : Int) < len4 := by omega
        go_wp2
        go_meet
        exact hB
      have l4' : (k : Int) < len4 := by omega
      by_cases l5 : k < len5
      rotate_left
      · have l5' : ¬ (k : Int) < len5 := by omega
        go_wp2
        go_meet
        exact hB
      have l5' : (k : Int) < len5 := by omega
      by_cases l6 : k < 40
      rotate_left
      · have l6' : ¬ (k : Int) < 40 := by omega
        go_wp2
        go_meet
        exact hB
      have l6' : (k : Int) < 40 := by omega
      rcases o1 with o1 | ⟨b1, p1, rfl, hb1, hc1, hw1⟩
      · omega
      rcases o2 with o2 | ⟨b2, p2, rfl, hb2, hc2, hw2⟩
      · omega
      rcases o3 with o3 | ⟨b3, p3, rfl, hb3, hc3, hw3⟩
      · omega
      rcases o4 with o4 | ⟨b4, p4, rfl, hb4, hc4, hw4⟩
      · omega
      rcases o5 with o5 | ⟨b5, p5, rfl, hb5, hc5⟩
      · omega
      obtain ⟨⟨x0, x1, x2, x3, x4, x5⟩, -⟩ := hc5 k l5
      have c1 := hc1 k l1; have c2 := hc2 k l2; have c3 := hc3 k l3; have c4 := hc4 k l4
      have u8 := bounds_u8 (hw1 k l1)
      generalize z1.getD k 0 = K at *
      generalize z2.getD k 0 = X1 at *
      generalize z3.getD k 0 = X2 at *
      generalize z4.getD k 0 = X3 at *
      generalize z5 k = C at *
      obtain ⟨C0, C1, C2, C3, C4, C5⟩ := C
      dsimp only at x0 x1 x2 x3 x4 x5
      clear hc1 hc2 hc3 hc4 hc5 hw1 hw2 hw3 hw4
      have kT : ∀ y, Below w.heap.size w y → y.cell? ⟨b1, p1 + k, none⟩ = some (.int .u8 K) ∧ y.cell? ⟨b2, p2 + k, none⟩ = some (.int .i64 X1) ∧ y.cell? ⟨b3, p3 + k, none⟩ = some (.int .i64 X2) ∧ y.cell? ⟨b4, p4 + k, none⟩ = some (.int .i64 X3) ∧
          y.cell? ⟨b5, p5 + k * 6, none⟩ = some (.int .i64 C0) ∧ y.cell? ⟨b5, p5 + k * 6 + 1, none⟩ = some (.int .i64 C1) ∧ y.cell? ⟨b5, p5 + k * 6 + 2, none⟩ = some (.int .i64 C2) ∧ y.cell? ⟨b5, p5 + k * 6 + 3, none⟩ = some (.int .i64 C3) ∧ y.cell? ⟨b5, p5 + k * 6 + 4, none⟩ = some (.int .i64 C4) ∧ y.cell? ⟨b5, p5 + k * 6 + 5, none⟩ = some (.int .i64 C5) :=
        fun y hb => ⟨(hb.cell (p := ⟨b1, _, none⟩) hb1).trans c1, (hb.cell (p := ⟨b2, _, none⟩) hb2).trans c2, (hb.cell (p := ⟨b3, _, none⟩) hb3).trans c3, (hb.cell (p := ⟨b4, _, none⟩) hb4).trans c4,
          (hb.cell (p := ⟨b5, _, none⟩) hb5).trans x0, (hb.cell (p := ⟨b5, _, none⟩) hb5).trans x1, (hb.cell (p := ⟨b5, _, none⟩) hb5).trans x2, (hb.cell (p := ⟨b5, _, none⟩) hb5).trans x3, (hb.cell (p := ⟨b5, _, none⟩) hb5).trans x4, (hb.cell (p := ⟨b5, _, none⟩) hb5).trans x5⟩
      have kw : IntKind.i64.wrap (K.tmod 7) = K % 7 := by
        rw [Int.tmod_eq_emod_of_nonneg u8.1]
        simp only [IntKind.wrap, IntKind.bits, IntKind.signed]
        simp
        omega
      have k0 : 0 ≤ IntKind.i64.wrap (K.tmod 7) := by rw [kw]; omega
      have k7 : IntKind.i64.wrap (K.tmod 7) < 7 := by rw [kw]; omega
      clear kw
      clear c1 c2 c3 c4 x0 x1 x2 x3 x4 x5
      obtain ⟨wo, hwo⟩ : ∃ x : World, x = wr := ⟨_, rfl⟩
      subst hwo
      go_upto_region 7 with (fail)
      have d0 : Below w.heap.size w wo.drew := hB.drew
      have hD : Two wo.drew A G B m := hT.after ((Below.refl _ wo).drew)
      go_region_held3 (fun y => y.cell? ⟨b1, p1 + k, none⟩ = some (.int .u8 K) ∧ y.cell? ⟨b2, p2 + k, none⟩ = some (.int .i64 X1) ∧ y.cell? ⟨b3, p3 + k, none⟩ = some (.int .i64 X2) ∧ y.cell? ⟨b4, p4 + k, none⟩ = some (.int .i64 X3) ∧
          y.cell? ⟨b5, p5 + k * 6, none⟩ = some (.int .i64 C0) ∧ y.cell? ⟨b5, p5 + k * 6 + 1, none⟩ = some (.int .i64 C1) ∧ y.cell? ⟨b5, p5 + k * 6 + 2, none⟩ = some (.int .i64 C2) ∧ y.cell? ⟨b5, p5 + k * 6 + 3, none⟩ = some (.int .i64 C3) ∧ y.cell? ⟨b5, p5 + k * 6 + 4, none⟩ = some (.int .i64 C4) ∧ y.cell? ⟨b5, p5 + k * 6 + 5, none⟩ = some (.int .i64 C5))
        (first | (with_reducible exact kT _ d0) | (with_reducible refine kT _ ?_; with_reducible assumption))
        (first
          | (go_at_call 10; (with_reducible refine (act13 _ k0 k7 hD).mono ?_); rintro e w' ⟨rfl, m', hT2, hn2, ht⟩; have hB2 := below_touch d0 ht d0.size (fun i hi e => hOwn i hi (hn ▸ e)))
          | (go_at_call 11; (with_reducible refine (alike13 A G B _ _ hT2).mono ?_); rintro e w' ⟨rfl, hx⟩; have hB3 := hB2.trans (hx.mono hB2.size); have hT3 := hT2.after hx))
      go_wp2
      refine ⟨⟨k + 1, m', by omega, by push_cast; rfl, hT3, hn2.trans hn, hB3⟩, ?_⟩
      simp [intOf]
      omega
  case rest =>
    go_wp2_with ((go_at_call 12; (with_reducible refine (AW _).mono ?_); rintro e w' ⟨rfl, hx⟩))
    go_ret
    exact ⟨rfl, hcut.trans (hx.mono hcut.size)⟩
end Go.Proofs.YtejdfdllgobnhaaGreat
