/- Several texts in one: R09, R09b, R09c. -/
import Derived.Test.YtejdfdllgobnhaaGreatGRa
import Derived.Test.YtejdfdllgobnhaaGreatGCap
import Derived.Deep.RegionHeld3
/- R09 -/
set_option linter.unusedVariables false
set_option linter.unusedSimpArgs false
namespace Go.Proofs.YtejdfdllgobnhaaGreat
open Go.RowKit
theorem r9_in (n m : Int) (w : World) : Calls Tryz.prog 243 #[.int .i64 n, .int .i64 m] w fun e w' => e = .returned (.bool (inB n m)) ∧ w = w' := by
  by_cases h : 0 ≤ n
  · have e : inB n m = decide (n < m) := by simp [inB]; omega
    rw [e]; clear e
    go_enter Tryz.func243, Tryz.ntmps243
    go_wp2
    go_ret
    exact ⟨rfl, rfl⟩
  · have e : inB n m = false := by simp [inB]; omega
    rw [e]; clear e
    go_enter Tryz.func243, Tryz.ntmps243
    go_wp2
    go_ret
    exact ⟨rfl, rfl⟩
set_option maxHeartbeats 4000000 in
theorem r9_right (c : CapS) (w : World) : Calls Tryz.prog 212 #[c.v] w fun e w' => e = .returned (.bool c.right) ∧ Below w.heap.size w w' := by
  obtain ⟨k, r, t, l, ep, a⟩ := c
  show Calls _ _ #[.agg #[.int .i64 k, .int .i64 r, .int .i64 t, .int .i64 l, .int .i64 ep, .int .i64 a]] _ _
  unfold CapS.right
  generalize hS : CapS.sized ⟨k, r, t, l, ep, a⟩ = sz
  have hS2 := hS
  unfold CapS.sized at hS
  dsimp only at hS
  generalize h1 : inB k 12 = b1 at *
  generalize h2 : inB r 32 = b2 at *
  generalize h3 : inB t 64 = b3 at *
  generalize h4 : inB l 64 = b4 at *
  generalize h5 : inB ep 65536 = b5 at *
  generalize h6 : inB a 1073741825 = b6 at *
  have H1 := Lib.hid h1; have H2 := Lib.hid h2; have H3 := Lib.hid h3; have H4 := Lib.hid h4; have H5 := Lib.hid h5; have H6 := Lib.hid h6
  clear h1 h2 h3 h4 h5 h6
  rcases (by cases b1 <;> cases b2 <;> cases b3 <;> cases b4 <;> cases b5 <;> cases b6 <;> simp : b1 = false ∨ b1 = true ∧ b2 = false ∨ b1 = true ∧ b2 = true ∧ b3 = false ∨ b1 = true ∧ b2 = true ∧ b3 = true ∧ b4 = false ∨ b1 = true ∧ b2 = true ∧ b3 = true ∧ b4 = true ∧ b5 = false ∨ b1 = true ∧ b2 = true ∧ b3 = true ∧ b4 = true ∧ b5 = true ∧ b6 = false ∨ b1 = true ∧ b2 = true ∧ b3 = true ∧ b4 = true ∧ b5 = true ∧ b6 = true) with rfl | ⟨rfl, rfl⟩ | ⟨rfl, rfl, rfl⟩ | ⟨rfl, rfl, rfl, rfl⟩ | ⟨rfl, rfl, rfl, rfl, rfl⟩ | ⟨rfl, rfl, rfl, rfl, rfl, rfl⟩ | ⟨rfl, rfl, rfl, rfl, rfl, rfl⟩
  case inr.inr.inr.inr.inr.inr =>
    obtain rfl : sz = true := by rw [← hS]; rfl
    have hb := CapS.sized_b hS2
    dsimp only at hb
    obtain ⟨⟨k0, k12⟩, -, ⟨t0, t1⟩, -, -, ⟨a0, a1⟩⟩ := hb
    clear hS hS2
    have h0 := heap_new w (.cells #[.int .i64 k, .int .i64 r, .int .i64 t, .int .i64 l, .int .i64 ep, .int .i64 a] 32 (0, 0))
    have hw0 : Below w.heap.size w (w.alloc (.cells #[.int .i64 k, .int .i64 r, .int .i64 t, .int .i64 l, .int .i64 ep, .int .i64 a] 32 (0, 0))) := by (refine Touch.below0 ?_; (repeat' (first | (with_reducible exact Touch.refl _ _) | (with_reducible assumption) | (with_reducible refine Touch.drew ?_) | (with_reducible refine Touch.drewN ?_ _) | (with_reducible refine Touch.alloc ?_ _) | (with_reducible refine Touch.setCell ?_ _ _ _ ?_) | (with_reducible refine Touch.step (by assumption) ?_) | (with_reducible refine Touch.stepT (by assumption) ?_ ?_) | (intro _; first | rfl | trivial | omega | (simp; done) | (simp; omega)) | (intro _ _; first | omega | (simp; done) | (simp; omega)))))
    go_enter Tryz.func212, Tryz.ntmps212
    go_upto_region 3 with ((go_at_call 243; (with_reducible refine (r9_in _ _ _).mono ?_); rintro e w' ⟨rfl, rfl⟩); first | rw [H1.out] | rw [H2.out] | rw [H3.out] | rw [H4.out] | rw [H5.out] | rw [H6.out])
    generalize w.alloc (.cells #[.int .i64 k, .int .i64 r, .int .i64 t, .int .i64 l, .int .i64 ep, .int .i64 a] 32 (0, 0)) = W at *
    have g0 := cell_of h0 0; have g1 := cell_of h0 1; have g2 := cell_of h0 2; have g3 := cell_of h0 3; have g4 := cell_of h0 4; have g5 := cell_of h0 5
    dsimp at g0 g1 g2 g3 g4 g5
    by_cases k0 : k = 0
    · subst k0
      go_wp2
      all_goals
        go_ret
        exact ⟨ret_bool (by simp_all [CapS.kind]), hw0⟩
    by_cases k1 : k = 1
    · subst k1
      go_wp2
      all_goals
        go_ret
        exact ⟨ret_bool (by simp_all [CapS.kind]), hw0⟩
    by_cases k2 : k = 2
    · subst k2
      have hk : CapS.kind ⟨2, r, t, l, ep, a⟩ = (decide (l = 0) && decide (ep = 0) && decide (1 ≤ a) && decide (a ≤ 64) && decide (t + a ≤ 64)) := by
        simp only [CapS.kind, CapS.bare]; rw [Bool.eq_iff_iff]; simp; omega
      have HK := Lib.hid hk
      clear hk
      by_cases l0 : l = 0
      · by_cases e0 : ep = 0
        · by_cases h1 : 1 ≤ a
          · by_cases h2 : a ≤ 64
            · go_wp2
              go_ret
              exact ⟨ret_bool (by first | (rw [HK.out]; simp [l0, e0, h1, h2]; done) | (rw [HK.out, Bool.eq_iff_iff]; simp [l0, e0, h1, h2]; done) | (simp [CapS.kind, CapS.bare, l0, e0, h1, h2]; done) | (simp [CapS.kind, CapS.bare, l0, e0, h1, h2]; omega) | (rw [Bool.eq_iff_iff]; simp [CapS.kind, CapS.bare]; done) | (rw [Bool.eq_iff_iff]; simp [CapS.kind, CapS.bare]; omega)), hw0⟩
            · go_wp2
              go_ret
              exact ⟨ret_bool (by first | (rw [HK.out]; simp [h2]; done) | (rw [HK.out, Bool.eq_iff_iff]; simp [h2]; done) | (simp [CapS.kind, CapS.bare, h2]; done) | (simp [CapS.kind, CapS.bare, h2]; omega) | (rw [Bool.eq_iff_iff]; simp [CapS.kind, CapS.bare]; done) | (rw [Bool.eq_iff_iff]; simp [CapS.kind, CapS.bare]; omega)), hw0⟩
          · go_wp2
            go_ret
            exact ⟨ret_bool (by first | (rw [HK.out]; simp [h1]; done) | (rw [HK.out, Bool.eq_iff_iff]; simp [h1]; done) | (simp [CapS.kind, CapS.bare, h1]; done) | (simp [CapS.kind, CapS.bare, h1]; omega) | (rw [Bool.eq_iff_iff]; simp [CapS.kind, CapS.bare]; done) | (rw [Bool.eq_iff_iff]; simp [CapS.kind, CapS.bare]; omega)), hw0⟩
        · go_wp2
          go_ret
          exact ⟨ret_bool (by first | (rw [HK.out]; simp [e0]; done) | (rw [HK.out, Bool.eq_iff_iff]; simp [e0]; done) | (simp [CapS.kind, CapS.bare, e0]; done) | (simp [CapS.kind, CapS.bare, e0]; omega) | (rw [Bool.eq_iff_iff]; simp [CapS.kind, CapS.bare]; done) | (rw [Bool.eq_iff_iff]; simp [CapS.kind, CapS.bare]; omega)), hw0⟩
      · go_wp2
        go_ret
        exact ⟨ret_bool (by first | (rw [HK.out]; simp [l0]; done) | (rw [HK.out, Bool.eq_iff_iff]; simp [l0]; done) | (simp [CapS.kind, CapS.bare, l0]; done) | (simp [CapS.kind, CapS.bare, l0]; omega) | (rw [Bool.eq_iff_iff]; simp [CapS.kind, CapS.bare]; done) | (rw [Bool.eq_iff_iff]; simp [CapS.kind, CapS.bare]; omega)), hw0⟩
    by_cases k5 : k = 5
    · subst k5
      go_wp2
      go_ret
      exact ⟨ret_bool (by rw [Bool.eq_iff_iff]; simp [CapS.kind]), hw0⟩
    by_cases k7 : k = 7
    · subst k7
      go_wp2
      go_ret
      exact ⟨ret_bool (by simp [CapS.kind]), hw0⟩
    by_cases k11 : k = 11
    · subst k11
      have hk : CapS.kind ⟨11, r, t, l, ep, a⟩ = (decide (t = 0) && decide (l = 0) && decide (ep = 0) && decide (a = 0)) := by
        simp only [CapS.kind, CapS.bare]; rw [Bool.eq_iff_iff]; simp; omega
      have HK := Lib.hid hk
      clear hk
      by_cases t0 : t = 0
      · by_cases l0 : l = 0
        · by_cases e0 : ep = 0
          · go_wp2
            go_ret
            exact ⟨ret_bool (by first | (rw [HK.out]; simp [t0, l0, e0]; done) | (rw [HK.out, Bool.eq_iff_iff]; simp [t0, l0, e0]; done) | (simp [CapS.kind, CapS.bare, t0, l0, e0]; done) | (simp [CapS.kind, CapS.bare, t0, l0, e0]; omega) | (rw [Bool.eq_iff_iff]; simp [CapS.kind, CapS.bare]; done) | (rw [Bool.eq_iff_iff]; simp [CapS.kind, CapS.bare]; omega)), hw0⟩
          · go_wp2
            go_ret
            exact ⟨ret_bool (by first | (rw [HK.out]; simp [e0]; done) | (rw [HK.out, Bool.eq_iff_iff]; simp [e0]; done) | (simp [CapS.kind, CapS.bare, e0]; done) | (simp [CapS.kind, CapS.bare, e0]; omega) | (rw [Bool.eq_iff_iff]; simp [CapS.kind, CapS.bare]; done) | (rw [Bool.eq_iff_iff]; simp [CapS.kind, CapS.bare]; omega)), hw0⟩
        · go_wp2
          go_ret
          exact ⟨ret_bool (by first | (rw [HK.out]; simp [l0]; done) | (rw [HK.out, Bool.eq_iff_iff]; simp [l0]; done) | (simp [CapS.kind, CapS.bare, l0]; done) | (simp [CapS.kind, CapS.bare, l0]; omega) | (rw [Bool.eq_iff_iff]; simp [CapS.kind, CapS.bare]; done) | (rw [Bool.eq_iff_iff]; simp [CapS.kind, CapS.bare]; omega)), hw0⟩
      · go_wp2
        go_ret
        exact ⟨ret_bool (by first | (rw [HK.out]; simp [t0]; done) | (rw [HK.out, Bool.eq_iff_iff]; simp [t0]; done) | (simp [CapS.kind, CapS.bare, t0]; done) | (simp [CapS.kind, CapS.bare, t0]; omega) | (rw [Bool.eq_iff_iff]; simp [CapS.kind, CapS.bare]; done) | (rw [Bool.eq_iff_iff]; simp [CapS.kind, CapS.bare]; omega)), hw0⟩
    have hk : CapS.kind ⟨k, r, t, l, ep, a⟩ = (decide (l = 0) && decide (ep = 0) && decide (a = 0)) := by
      simp [CapS.kind, CapS.bare, k0, k1, k2, k5, k7, k11]
    have HK := Lib.hid hk
    clear hk
    by_cases l0 : l = 0
    · by_cases e0 : ep = 0
      · go_wp2
        go_ret
        exact ⟨ret_bool (by first | (rw [HK.out]; simp [l0, e0]; done) | (rw [HK.out, Bool.eq_iff_iff]; simp [l0, e0]; done) | (simp [CapS.kind, CapS.bare, l0, e0]; done) | (simp [CapS.kind, CapS.bare, l0, e0]; omega) | (rw [Bool.eq_iff_iff]; simp [CapS.kind, CapS.bare]; done) | (rw [Bool.eq_iff_iff]; simp [CapS.kind, CapS.bare]; omega)), hw0⟩
      · go_wp2
        go_ret
        exact ⟨ret_bool (by first | (rw [HK.out]; simp [e0]; done) | (rw [HK.out, Bool.eq_iff_iff]; simp [e0]; done) | (simp [CapS.kind, CapS.bare, e0]; done) | (simp [CapS.kind, CapS.bare, e0]; omega) | (rw [Bool.eq_iff_iff]; simp [CapS.kind, CapS.bare]; done) | (rw [Bool.eq_iff_iff]; simp [CapS.kind, CapS.bare]; omega)), hw0⟩
    · go_wp2
      go_ret
      exact ⟨ret_bool (by first | (rw [HK.out]; simp [l0]; done) | (rw [HK.out, Bool.eq_iff_iff]; simp [l0]; done) | (simp [CapS.kind, CapS.bare, l0]; done) | (simp [CapS.kind, CapS.bare, l0]; omega) | (rw [Bool.eq_iff_iff]; simp [CapS.kind, CapS.bare]; done) | (rw [Bool.eq_iff_iff]; simp [CapS.kind, CapS.bare]; omega)), hw0⟩
  all_goals
    obtain rfl : sz = false := by rw [← hS]; simp
    clear hS hS2
    go_enter Tryz.func212, Tryz.ntmps212
    go_wp2_with ((go_at_call 243; (with_reducible refine (r9_in _ _ _).mono ?_); rintro e w' ⟨rfl, rfl⟩); first | rw [H1.out] | rw [H2.out] | rw [H3.out] | rw [H4.out] | rw [H5.out] | rw [H6.out])
    go_ret
    exact ⟨by simp, by (refine Touch.below0 ?_; (repeat' (first | (with_reducible exact Touch.refl _ _) | (with_reducible assumption) | (with_reducible refine Touch.drew ?_) | (with_reducible refine Touch.drewN ?_ _) | (with_reducible refine Touch.alloc ?_ _) | (with_reducible refine Touch.setCell ?_ _ _ _ ?_) | (with_reducible refine Touch.step (by assumption) ?_) | (with_reducible refine Touch.stepT (by assumption) ?_ ?_) | (intro _; first | rfl | trivial | omega | (simp; done) | (simp; omega)) | (intro _ _; first | omega | (simp; done) | (simp; omega)))))⟩
end Go.Proofs.YtejdfdllgobnhaaGreat
/- R09b -/
set_option linter.unusedVariables false
set_option linter.unusedSimpArgs false
namespace Go.Proofs.YtejdfdllgobnhaaGreat
open Go.RowKit
theorem r9_check (c : CapS) (w : World) : Calls Tryz.prog 145 #[c.v] w fun e w' => e = .returned (.int .i64 (if c.right then 0 else 1)) ∧ Below w.heap.size w w' := by
  have hr := r9_right c
  generalize hb : c.right = b at *
  clear hb
  obtain ⟨k, r, t, l, ep, a⟩ := c
  unfold CapS.v at *
  dsimp only at *
  have hw0 : Below w.heap.size w (w.alloc (.cells #[.int .i64 k, .int .i64 r, .int .i64 t, .int .i64 l, .int .i64 ep, .int .i64 a] 32 (0, 0))) := by (refine Touch.below0 ?_; (repeat' (first | (with_reducible exact Touch.refl _ _) | (with_reducible assumption) | (with_reducible refine Touch.drew ?_) | (with_reducible refine Touch.drewN ?_ _) | (with_reducible refine Touch.alloc ?_ _) | (with_reducible refine Touch.setCell ?_ _ _ _ ?_) | (with_reducible refine Touch.step (by assumption) ?_) | (with_reducible refine Touch.stepT (by assumption) ?_ ?_) | (intro _; first | rfl | trivial | omega | (simp; done) | (simp; omega)) | (intro _ _; first | omega | (simp; done) | (simp; omega)))))
  cases b
  all_goals
    go_enter Tryz.func145, Tryz.ntmps145
    go_wp2_with ((go_at_call 212; (with_reducible refine (hr _).mono ?_); rintro e w' ⟨rfl, hx⟩))
    go_ret
    exact ⟨rfl, by (refine Touch.below0 ?_; (repeat' (first | (with_reducible exact Touch.refl _ _) | (with_reducible assumption) | (with_reducible refine Touch.drew ?_) | (with_reducible refine Touch.drewN ?_ _) | (with_reducible refine Touch.alloc ?_ _) | (with_reducible refine Touch.setCell ?_ _ _ _ ?_) | (with_reducible refine Touch.step (by assumption) ?_) | (with_reducible refine Touch.stepT (by assumption) ?_ ?_) | (intro _; first | rfl | trivial | omega | (simp; done) | (simp; omega)) | (intro _ _; first | omega | (simp; done) | (simp; omega)))))⟩
theorem r9_widths (w : World) : Calls Tryz.prog 242 #[] w fun e w' => e = .returned (.slice (some ⟨w.heap.size, 0, none⟩) 5 5) ∧ w' = w.alloc (.cells #[.int .i64 4, .int .i64 5, .int .i64 6, .int .i64 6, .int .i64 16] 3 (0, 0)) := by
  go_enter Tryz.func242, Tryz.ntmps242
  go_wp2
  go_ret
  exact ⟨rfl, rfl⟩
def capN (k : Nat) : Nat := [4, 5, 6, 6, 16].getD k 0
def capO (k : Nat) : Nat := [0, 4, 9, 15, 21, 37].getD k 0
theorem capWS : WS 5 capN capO := by
  refine ⟨rfl, fun k hk => ?_, fun k hk => ?_, fun k hk => ?_, by decide⟩
  · match k, hk with | 0, _ => rfl | 1, _ => rfl | 2, _ => rfl | 3, _ => rfl | 4, _ => rfl
  · match k, hk with | 0, _ => decide | 1, _ => decide | 2, _ => decide | 3, _ => decide | 4, _ => decide
  · match k, hk with | 0, _ => decide | 1, _ => decide | 2, _ => decide | 3, _ => decide | 4, _ => decide | 5, _ => decide
def accN (vs offs : Nat → Nat) : Nat → Nat
  | 0 => 0
  | k + 1 => accN vs offs k + vs k * 2 ^ offs k
def nth5 (a b c d e : Nat) (k : Nat) : Nat := match k with | 0 => a | 1 => b | 2 => c | 3 => d | _ => e
theorem cap_acc (K R T L E : Nat) : accN (nth5 K R T L E) capO 5 = K + R * 16 + T * 512 + L * 32768 + E * 2097152 := by
  simp only [accN, nth5]
  rw [show capO 0 = 0 from rfl, show capO 1 = 4 from rfl, show capO 2 = 9 from rfl, show capO 3 = 15 from rfl, show capO 4 = 21 from rfl]
  omega
theorem cap_fit {K R T L E : Nat} (hk : K < 16) (hr : R < 32) (ht : T < 64) (hl : L < 64) (he : E < 65536) : ∀ j, j < 5 → nth5 K R T L E j < 2 ^ capN j := by
  intro j hj
  match j, hj with
  | 0, _ => rw [show capN 0 = 4 from rfl]; exact hk
  | 1, _ => rw [show capN 1 = 5 from rfl]; exact hr
  | 2, _ => rw [show capN 2 = 6 from rfl]; exact ht
  | 3, _ => rw [show capN 3 = 6 from rfl]; exact hl
  | 4, _ => rw [show capN 4 = 16 from rfl]; exact he
theorem r9_pack (k r t l ep : Int) (bn bv : Nat) (w : World) (hk : 0 ≤ k ∧ k < 12) (hr : 0 ≤ r ∧ r < 32) (ht : 0 ≤ t ∧ t < 64) (hl : 0 ≤ l ∧ l < 64) (he : 0 ≤ ep ∧ ep < 65536)
    (hn : w.heap[bn]? = some (.cells #[.int .i64 4, .int .i64 5, .int .i64 6, .int .i64 6, .int .i64 16] 3 (0, 0)))
    (hv : w.heap[bv]? = some (.cells #[.int .u64 k, .int .u64 r, .int .u64 t, .int .u64 l, .int .u64 ep] 117 (0, 0))) :
    Calls Tryz.prog 224 #[.slice (some ⟨bn, 0, none⟩) 5 5, .slice (some ⟨bv, 0, none⟩) 5 5] w fun e w' => e = .returned (.tuple #[.int .u64 (k + r * 16 + t * 512 + l * 32768 + ep * 2097152), .int .i64 0]) ∧ Below w.heap.size w w' := by
  obtain ⟨K, rfl⟩ : ∃ K : Nat, k = K := ⟨k.toNat, by omega⟩
  obtain ⟨R, rfl⟩ : ∃ K : Nat, r = K := ⟨r.toNat, by omega⟩
  obtain ⟨T, rfl⟩ : ∃ K : Nat, t = K := ⟨t.toNat, by omega⟩
  obtain ⟨L, rfl⟩ : ∃ K : Nat, l = K := ⟨l.toNat, by omega⟩
  obtain ⟨E, rfl⟩ : ∃ K : Nat, ep = K := ⟨ep.toNat, by omega⟩
  have := r01_pack (L := 5) (ns := capN) (offs := capO) (vs := nth5 K R T L E) (acc := accN (nth5 K R T L E) capO) bn bv 5 5 w capWS rfl (fun j hj => rfl) (cap_fit (by omega) (by omega) (by omega) (by omega) (by omega))
    (fun j hj => by rw [cell_of hn]; match j, hj with | 0, _ => rfl | 1, _ => rfl | 2, _ => rfl | 3, _ => rfl | 4, _ => rfl)
    (fun j hj => by rw [cell_of hv]; match j, hj with | 0, _ => rfl | 1, _ => rfl | 2, _ => rfl | 3, _ => rfl | 4, _ => rfl) (lt_of_block hn) (lt_of_block hv)
  rw [cap_acc] at this
  have e : ((K + R * 16 + T * 512 + L * 32768 + E * 2097152 : Nat) : Int) = (K : Int) + R * 16 + T * 512 + L * 32768 + E * 2097152 := by omega
  rw [e] at this; exact this
set_option maxHeartbeats 4000000 in
set_option maxRecDepth 100000 in
theorem r9_put (c : CapS) (w : World) : Calls Tryz.prog 211 #[c.v] w fun e w' => e = .returned (.tuple #[.int .u64 (if c.right then c.w1 else 0), .int .u64 (if c.right then c.a else 0), .int .i64 (if c.right then 0 else 1)]) ∧ Below w.heap.size w w' := by
  have hr := r9_right c
  cases hb : c.right
  · rw [hb] at hr
    obtain ⟨k, r, t, l, ep, a⟩ := c
    unfold CapS.v at *
    dsimp only at *
    have hw0 : Below w.heap.size w (w.alloc (.cells #[.int .i64 k, .int .i64 r, .int .i64 t, .int .i64 l, .int .i64 ep, .int .i64 a] 32 (0, 0))) := by (refine Touch.below0 ?_; (repeat' (first | (with_reducible exact Touch.refl _ _) | (with_reducible assumption) | (with_reducible refine Touch.drew ?_) | (with_reducible refine Touch.drewN ?_ _) | (with_reducible refine Touch.alloc ?_ _) | (with_reducible refine Touch.setCell ?_ _ _ _ ?_) | (with_reducible refine Touch.step (by assumption) ?_) | (with_reducible refine Touch.stepT (by assumption) ?_ ?_) | (intro _; first | rfl | trivial | omega | (simp; done) | (simp; omega)) | (intro _ _; first | omega | (simp; done) | (simp; omega)))))
    go_enter Tryz.func211, Tryz.ntmps211
    go_wp2_with ((go_at_call 212; (with_reducible refine (hr _).mono ?_); rintro e w' ⟨rfl, hx⟩))
    go_ret3
    exact ⟨rfl, by (refine Touch.below0 ?_; (repeat' (first | (with_reducible exact Touch.refl _ _) | (with_reducible assumption) | (with_reducible refine Touch.drew ?_) | (with_reducible refine Touch.drewN ?_ _) | (with_reducible refine Touch.alloc ?_ _) | (with_reducible refine Touch.setCell ?_ _ _ _ ?_) | (with_reducible refine Touch.step (by assumption) ?_) | (with_reducible refine Touch.stepT (by assumption) ?_ ?_) | (intro _; first | rfl | trivial | omega | (simp; done) | (simp; omega)) | (intro _ _; first | omega | (simp; done) | (simp; omega)))))⟩
  have hsz := CapS.sized_b (CapS.right_sized hb)
  rw [hb] at hr
  have hw1 : c.w1 = c.k + c.r * 16 + c.t * 512 + c.l * 32768 + c.e * 2097152 := rfl
  rw [hw1]
  clear hw1 hb
  obtain ⟨k, r, t, l, ep, a⟩ := c
  unfold CapS.v at hr ⊢
  dsimp only at hr hsz ⊢
  obtain ⟨hk, hr2, ht, hl, he, ha⟩ := hsz
  have PK := fun bn bv w => r9_pack k r t l ep bn bv w hk hr2 ht hl he
  have HW := Lib.hid (rfl : k + r * 16 + t * 512 + l * 32768 + ep * 2097152 = k + r * 16 + t * 512 + l * 32768 + ep * 2097152)
  generalize k + r * 16 + t * 512 + l * 32768 + ep * 2097152 = W1 at *
  clear HW
  obtain ⟨k0, k1⟩ := hk; obtain ⟨r0, r1⟩ := hr2; obtain ⟨t0, t1⟩ := ht; obtain ⟨l0, l1⟩ := hl; obtain ⟨e0, e1⟩ := he; obtain ⟨a0, a1⟩ := ha
  have wk : IntKind.u64.wrap k = k := by rw [IntKind.wrap_u64]; omega
  have wr : IntKind.u64.wrap r = r := by rw [IntKind.wrap_u64]; omega
  have wt : IntKind.u64.wrap t = t := by rw [IntKind.wrap_u64]; omega
  have wl : IntKind.u64.wrap l = l := by rw [IntKind.wrap_u64]; omega
  have we : IntKind.u64.wrap ep = ep := by rw [IntKind.wrap_u64]; omega
  have wA : IntKind.u64.wrap a = a := by rw [IntKind.wrap_u64]; omega
  simp only [if_true]
  have hw0 : Below w.heap.size w (w.alloc (.cells #[.int .i64 k, .int .i64 r, .int .i64 t, .int .i64 l, .int .i64 ep, .int .i64 a] 32 (0, 0))) := by (refine Touch.below0 ?_; (repeat' (first | (with_reducible exact Touch.refl _ _) | (with_reducible assumption) | (with_reducible refine Touch.drew ?_) | (with_reducible refine Touch.drewN ?_ _) | (with_reducible refine Touch.alloc ?_ _) | (with_reducible refine Touch.setCell ?_ _ _ _ ?_) | (with_reducible refine Touch.step (by assumption) ?_) | (with_reducible refine Touch.stepT (by assumption) ?_ ?_) | (intro _; first | rfl | trivial | omega | (simp; done) | (simp; omega)) | (intro _ _; first | omega | (simp; done) | (simp; omega)))))
  have h0 := heap_new w (.cells #[.int .i64 k, .int .i64 r, .int .i64 t, .int .i64 l, .int .i64 ep, .int .i64 a] 32 (0, 0))
  go_enter Tryz.func211, Tryz.ntmps211
  go_upto_region 3 with ((go_at_call 212; (with_reducible refine (hr _).mono ?_); rintro e w' ⟨rfl, hx⟩))
  have hp := (hx.block _ (lt_of_block h0)).trans h0
  have hw := hw0.trans (hx.mono hw0.size)
  obtain ⟨wa, hwa⟩ : ∃ x : World, x = w' := ⟨_, rfl⟩
  subst hwa
  clear hr hx h0 hw0
  go_cut [5] (fun x wr => x = .int .u64 W1 ∧ Below wa.heap.size wa wr)
  case first =>
    have g0 := cell_of hp 0; have g1 := cell_of hp 1; have g2 := cell_of hp 2; have g3 := cell_of hp 3; have g4 := cell_of hp 4
    dsimp at g0 g1 g2 g3 g4
    have hlp := lt_of_block hp
    have kS : ∀ y, Below wa.heap.size wa y → y.cell? ⟨w.heap.size, 0, none⟩ = some (.int .i64 k) ∧ y.cell? ⟨w.heap.size, 1, none⟩ = some (.int .i64 r) ∧ y.cell? ⟨w.heap.size, 2, none⟩ = some (.int .i64 t) ∧ y.cell? ⟨w.heap.size, 3, none⟩ = some (.int .i64 l) ∧ y.cell? ⟨w.heap.size, 4, none⟩ = some (.int .i64 ep) :=
      fun y hb => ⟨(hb.cell (p := ⟨w.heap.size, 0, none⟩) hlp).trans g0, (hb.cell (p := ⟨w.heap.size, 1, none⟩) hlp).trans g1, (hb.cell (p := ⟨w.heap.size, 2, none⟩) hlp).trans g2, (hb.cell (p := ⟨w.heap.size, 3, none⟩) hlp).trans g3, (hb.cell (p := ⟨w.heap.size, 4, none⟩) hlp).trans g4⟩
    have d0 : Below wa.heap.size wa wa.drew := (Below.refl _ wa).drew
    have d1 : ∀ o, Below wa.heap.size wa (wa.alloc o).drew := fun o => ((Below.refl _ wa).alloc (Nat.le_refl _) o).drew
    have d2 : ∀ o o', Below wa.heap.size wa ((wa.alloc o).alloc o').drew := fun o o' => (((Below.refl _ wa).alloc (Nat.le_refl _) o).alloc (by simp) o').drew
    have n1 : ((wa.alloc (.cells #[.int .i64 4, .int .i64 5, .int .i64 6, .int .i64 6, .int .i64 16] 3 (0, 0))).alloc (.cells #[.int .u64 k, .int .u64 r, .int .u64 t, .int .u64 l, .int .u64 ep] 117 (0, 0))).drew.heap[wa.heap.size]? = some (.cells #[.int .i64 4, .int .i64 5, .int .i64 6, .int .i64 6, .int .i64 16] 3 (0, 0)) := heap_alloc (heap_new _ _) _
    have v1 : ((wa.alloc (.cells #[.int .i64 4, .int .i64 5, .int .i64 6, .int .i64 6, .int .i64 16] 3 (0, 0))).alloc (.cells #[.int .u64 k, .int .u64 r, .int .u64 t, .int .u64 l, .int .u64 ep] 117 (0, 0))).drew.heap[wa.heap.size + 1]? = some (.cells #[.int .u64 k, .int .u64 r, .int .u64 t, .int .u64 l, .int .u64 ep] 117 (0, 0)) := heap_new' (by simp) _
    have n2 : ((wa.alloc (.cells #[.int .u64 k, .int .u64 r, .int .u64 t, .int .u64 l, .int .u64 ep] 117 (0, 0))).alloc (.cells #[.int .i64 4, .int .i64 5, .int .i64 6, .int .i64 6, .int .i64 16] 3 (0, 0))).drew.heap[wa.heap.size + 1]? = some (.cells #[.int .i64 4, .int .i64 5, .int .i64 6, .int .i64 6, .int .i64 16] 3 (0, 0)) := heap_new' (by simp) _
    have v2 : ((wa.alloc (.cells #[.int .u64 k, .int .u64 r, .int .u64 t, .int .u64 l, .int .u64 ep] 117 (0, 0))).alloc (.cells #[.int .i64 4, .int .i64 5, .int .i64 6, .int .i64 6, .int .i64 16] 3 (0, 0))).drew.heap[wa.heap.size]? = some (.cells #[.int .u64 k, .int .u64 r, .int .u64 t, .int .u64 l, .int .u64 ep] 117 (0, 0)) := heap_alloc (heap_new _ _) _
    go_region_held3 (fun y => y.cell? ⟨w.heap.size, 0, none⟩ = some (.int .i64 k) ∧ y.cell? ⟨w.heap.size, 1, none⟩ = some (.int .i64 r) ∧ y.cell? ⟨w.heap.size, 2, none⟩ = some (.int .i64 t) ∧ y.cell? ⟨w.heap.size, 3, none⟩ = some (.int .i64 l) ∧ y.cell? ⟨w.heap.size, 4, none⟩ = some (.int .i64 ep)) (first | exact kS _ d0 | exact kS _ (d1 _) | exact kS _ (d2 _ _) | (refine kS _ ?_; assumption))
      (first
        | (go_at_call 242; (with_reducible refine (r9_widths _).mono ?_); rintro e w' ⟨rfl, rfl⟩)
        | (go_at_call 224; (with_reducible refine (PK _ _ _ n1 v1).mono ?_); rintro e w' ⟨rfl, hx⟩; have hB := (d2 _ _).trans (hx.mono (d2 _ _).size))
        | (go_at_call 224; (with_reducible refine (PK _ _ _ n2 v2).mono ?_); rintro e w' ⟨rfl, hx⟩; have hB := (d2 _ _).trans (hx.mono (d2 _ _).size)))
    all_goals
      go_wp2
      go_meet
      exact ⟨rfl, hB⟩
  case rest =>
    obtain ⟨rfl, hb⟩ := hcut
    have hp2 := (hb.block _ (lt_of_block hp)).trans hp
    have hw2 := hw.trans (hb.mono hw.size)
    have g5 := cell_of hp2 5
    have lp2 := lt_of_block hp2
    dsimp at g5
    go_upto_region 4 with (fail)
    (refine wp_region_calm (by kernel_rfl) (by kernel_rfl) ?_; (repeat (go_big_quiet_step ((fail)))); refine wpQuiet_nil ?_; intro _ hw'; obtain ⟨wq, hw''⟩ := hw'; subst hw''; obtain ⟨wq, hbq⟩ := wq; try dsimp only at *)
    go_wp2
    go_ret3
    exact ⟨rfl, hw2.trans (hbq.mono hw2.size)⟩
end Go.Proofs.YtejdfdllgobnhaaGreat
/- R09c -/
set_option linter.unusedVariables false
set_option linter.unusedSimpArgs false
namespace Go.Proofs.YtejdfdllgobnhaaGreat
open Go.RowKit
theorem r9_unpack_no (v : Int) (bn : Nat) (w : World) (h0 : 0 ≤ v) (h1 : v < 18446744073709551616) (hv : 137438953472 ≤ v) (hn : w.heap[bn]? = some (.cells #[.int .i64 4, .int .i64 5, .int .i64 6, .int .i64 6, .int .i64 16] 3 (0, 0))) :
    Calls Tryz.prog 219 #[.slice (some ⟨bn, 0, none⟩) 5 5, .int .u64 v] w fun e w' => e = .returned (.tuple #[.slice none 0 0, .int .i64 1]) ∧ Below w.heap.size w w' := by
  obtain ⟨x, rfl⟩ : ∃ x : Nat, v = x := ⟨v.toNat, by omega⟩
  exact r01_unpack_no (L := 5) x bn 5 w capWS (by decide) (by omega) (fun j hj => by rw [cell_of hn]; match j, hj with | 0, _ => rfl | 1, _ => rfl | 2, _ => rfl | 3, _ => rfl | 4, _ => rfl) (lt_of_block hn) (by rw [show capO 5 = 37 from rfl]; omega)
theorem r9_unpack_yes (v : Int) (bn : Nat) (w : World) (h0 : 0 ≤ v) (h1 : v < 18446744073709551616) (hv : v < 137438953472) (hn : w.heap[bn]? = some (.cells #[.int .i64 4, .int .i64 5, .int .i64 6, .int .i64 6, .int .i64 16] 3 (0, 0))) :
    Calls Tryz.prog 219 #[.slice (some ⟨bn, 0, none⟩) 5 5, .int .u64 v] w fun e w' => ∃ g cap, e = .returned (.tuple #[.slice (some ⟨g, 0, none⟩) 5 cap, .int .i64 0]) ∧ Below w.heap.size w w' ∧ w'.cell? ⟨g, 0, none⟩ = some (.int .u64 (v % 16)) ∧ w'.cell? ⟨g, 1, none⟩ = some (.int .u64 (v / 16 % 32)) ∧
        w'.cell? ⟨g, 2, none⟩ = some (.int .u64 (v / 512 % 64)) ∧ w'.cell? ⟨g, 3, none⟩ = some (.int .u64 (v / 32768 % 64)) ∧ w'.cell? ⟨g, 4, none⟩ = some (.int .u64 (v / 2097152 % 65536)) := by
  obtain ⟨x, rfl⟩ : ∃ x : Nat, v = x := ⟨v.toNat, by omega⟩
  refine (r01_unpack_yes (L := 5) x bn 5 w capWS (by decide) (by omega) (fun j hj => by rw [cell_of hn]; match j, hj with | 0, _ => rfl | 1, _ => rfl | 2, _ => rfl | 3, _ => rfl | 4, _ => rfl) (lt_of_block hn) (by rw [show capO 5 = 37 from rfl]; omega)).mono ?_
  rintro e w' ⟨g, cap, he, hr, _, hb⟩
  refine ⟨g, cap, he, hb, ?_, ?_, ?_, ?_, ?_⟩
  · rw [hr.at (prtL_at x capN capO (i := 0) (by decide)), show capO 0 = 0 from rfl, show capN 0 = 4 from rfl]; congr 2; omega
  · rw [hr.at (prtL_at x capN capO (i := 1) (by decide)), show capO 1 = 4 from rfl, show capN 1 = 5 from rfl]; congr 2
  · rw [hr.at (prtL_at x capN capO (i := 2) (by decide)), show capO 2 = 9 from rfl, show capN 2 = 6 from rfl]; congr 2
  · rw [hr.at (prtL_at x capN capO (i := 3) (by decide)), show capO 3 = 15 from rfl, show capN 3 = 6 from rfl]; congr 2
  · rw [hr.at (prtL_at x capN capO (i := 4) (by decide)), show capO 4 = 21 from rfl, show capN 4 = 16 from rfl]; congr 2
set_option maxHeartbeats 4000000 in
set_option maxRecDepth 100000 in
theorem r9_get (v b : Int) (w : World) (h0 : 0 ≤ v) (h1 : v < 18446744073709551616) (b0 : 0 ≤ b) (b1 : b < 18446744073709551616) : Calls Tryz.prog 210 #[.int .u64 v, .int .u64 b] w fun e w' => e = .returned (.tuple #[(getC v b).v, .int .i64 (getE v b)]) ∧ Below w.heap.size w w' := by
  by_cases hv : v < 137438953472
  · by_cases hb : b ≤ 1073741824
    · have hA : getC v b = (if (CapS.ofW v b).right then CapS.ofW v b else CapS.zero) ∧ getE v b = (if (CapS.ofW v b).right then 0 else 12) := by
        unfold getC getE okW; rw [decide_eq_true hv, decide_eq_true hb]; simp
      rw [hA.1, hA.2]
      clear hA
      have hr := r9_right (CapS.ofW v b)
      unfold CapS.ofW CapS.v at hr
      dsimp only at hr
      generalize hcr : (CapS.ofW v b).right = cr at *
      have hcr2 : CapS.right ⟨v % 16, v / 16 % 32, v / 512 % 64, v / 32768 % 64, v / 2097152 % 65536, b⟩ = cr := hcr
      rw [hcr2] at hr
      clear hcr hcr2
      have hw0 : Below w.heap.size w (w.alloc (.cells #[.int .i64 0, .int .i64 0, .int .i64 0, .int .i64 0, .int .i64 0, .int .i64 0] 32 (0, 0))) := by (refine Touch.below0 ?_; (repeat' (first | (with_reducible exact Touch.refl _ _) | (with_reducible assumption) | (with_reducible refine Touch.drew ?_) | (with_reducible refine Touch.drewN ?_ _) | (with_reducible refine Touch.alloc ?_ _) | (with_reducible refine Touch.setCell ?_ _ _ _ ?_) | (with_reducible refine Touch.step (by assumption) ?_) | (with_reducible refine Touch.stepT (by assumption) ?_ ?_) | (intro _; first | rfl | trivial | omega | (simp; done) | (simp; omega)) | (intro _ _; first | omega | (simp; done) | (simp; omega)))))
      have hR : (w.alloc (.cells #[.int .i64 0, .int .i64 0, .int .i64 0, .int .i64 0, .int .i64 0, .int .i64 0] 32 (0, 0))).heap[w.heap.size]? = some (.cells #[.int .i64 0, .int .i64 0, .int .i64 0, .int .i64 0, .int .i64 0, .int .i64 0] 32 (0, 0)) := heap_new _ _
      have hR2 : ((w.alloc (.cells #[.int .i64 0, .int .i64 0, .int .i64 0, .int .i64 0, .int .i64 0, .int .i64 0] 32 (0, 0))).alloc (.cells #[.int .i64 4, .int .i64 5, .int .i64 6, .int .i64 6, .int .i64 16] 3 (0, 0))).heap[w.heap.size]? = some (.cells #[.int .i64 0, .int .i64 0, .int .i64 0, .int .i64 0, .int .i64 0, .int .i64 0] 32 (0, 0)) := heap_alloc hR _
      have hN : ((w.alloc (.cells #[.int .i64 0, .int .i64 0, .int .i64 0, .int .i64 0, .int .i64 0, .int .i64 0] 32 (0, 0))).alloc (.cells #[.int .i64 4, .int .i64 5, .int .i64 6, .int .i64 6, .int .i64 16] 3 (0, 0))).heap[w.heap.size + 1]? = some (.cells #[.int .i64 4, .int .i64 5, .int .i64 6, .int .i64 6, .int .i64 16] 3 (0, 0)) := heap_new' (by simp) _
      have hw2 := hw0.alloc hw0.size (.cells #[.int .i64 4, .int .i64 5, .int .i64 6, .int .i64 6, .int .i64 16] 3 (0, 0))
      go_enter Tryz.func210, Tryz.ntmps210
      go_upto_region 4 with (first | (go_at_call 242; (with_reducible refine (r9_widths _).mono ?_); rintro e w' ⟨rfl, rfl⟩) | ((go_at_call 219; (with_reducible refine (r9_unpack_yes v _ _ h0 h1 hv hN).mono ?_); rintro e w' ⟨g, cap, rfl, hb3, q0, q1, q2, q3, q4⟩); have hR3 := (hb3.block _ (lt_of_block hR2)).trans hR2; have g0 := cell_of hR3 0; have g1 := cell_of hR3 1; have g2 := cell_of hR3 2; have g3 := cell_of hR3 3; have g4 := cell_of hR3 4; have g5 := cell_of hR3 5; have fr := frozen_of hR3; dsimp at g0 g1 g2 g3 g4 g5))
      obtain ⟨w3, rfl⟩ : ∃ y : World, y = w' := ⟨_, rfl⟩
      have hw3 := hw2.trans (hb3.mono hw2.size)
      have hg : g < w3.heap.size := lt_of_cell (a := ⟨g, 0, none⟩) q0
      have hgB : g ≠ w3.heap.size := by omega
      have P : ∀ obj o, (w3.alloc obj).cell? ⟨g, o, none⟩ = w3.cell? ⟨g, o, none⟩ := fun obj o => ((Below.refl w3.heap.size w3).alloc (Nat.le_refl _) obj).cell (p := ⟨g, o, none⟩) hg
      have v0 := wrap_i64_small (x := v % 16) (by omega) (by omega); have v1 := wrap_i64_small (x := v / 16 % 32) (by omega) (by omega); have v2 := wrap_i64_small (x := v / 512 % 64) (by omega) (by omega)
      have v3 := wrap_i64_small (x := v / 32768 % 64) (by omega) (by omega); have v4 := wrap_i64_small (x := v / 2097152 % 65536) (by omega) (by omega); have v5 := wrap_i64_small (x := b) (by omega) (by omega)
      have hwB : w.heap.size < w3.heap.size := lt_of_block hR3
      clear hR hR2 hw0 hw2 hN hb3
      go_cut [8] (fun x wr => ∃ C, x = .pointer (some ⟨C, 0, none⟩) ∧ wr.heap[C]? = some (.cells #[.int .i64 (v % 16), .int .i64 (v / 16 % 32), .int .i64 (v / 512 % 64), .int .i64 (v / 32768 % 64), .int .i64 (v / 2097152 % 65536), .int .i64 b] 32 (0, 0)) ∧ wr.heap[w.heap.size]? = some (.cells #[.int .i64 0, .int .i64 0, .int .i64 0, .int .i64 0, .int .i64 0, .int .i64 0] 32 (0, 0)) ∧ Below w.heap.size w wr)
      case first =>
        go_region_held3 (fun y => y.cell? ⟨g, 0, none⟩ = some (.int .u64 (v % 16)) ∧ y.cell? ⟨g, 1, none⟩ = some (.int .u64 (v / 16 % 32)) ∧ y.cell? ⟨g, 2, none⟩ = some (.int .u64 (v / 512 % 64)) ∧ y.cell? ⟨g, 3, none⟩ = some (.int .u64 (v / 32768 % 64)) ∧ y.cell? ⟨g, 4, none⟩ = some (.int .u64 (v / 2097152 % 65536))) ((simp only [cell_drew', cell_other hgB]; first | exact ⟨q0, q1, q2, q3, q4⟩ | exact ⟨(P _ _).trans q0, (P _ _).trans q1, (P _ _).trans q2, (P _ _).trans q3, (P _ _).trans q4⟩)) (fail)
        all_goals
          go_wp2
          go_meet
          exact ⟨w3.heap.size, rfl, heap_new _ _, heap_alloc hR3 _, (hw3.alloc hw3.size _).drew⟩
      case rest =>
        obtain ⟨C, rfl, hC, hR5, hw5⟩ := hcut
        have d0 := cell_of hC 0; have d1 := cell_of hC 1; have d2 := cell_of hC 2; have d3 := cell_of hC 3; have d4 := cell_of hC 4; have d5 := cell_of hC 5
        dsimp at d0 d1 d2 d3 d4 d5
        clear g0 g1 g2 g3 g4 g5 fr hR3
        cases cr
        · go_wp2_with ((go_at_call 212; (with_reducible refine (hr _).mono ?_); rintro e w' ⟨rfl, hb3⟩); have hR2 := hR5; have hR3 := (hb3.block _ (lt_of_block hR2)).trans hR2; have g0 := cell_of hR3 0; have g1 := cell_of hR3 1; have g2 := cell_of hR3 2; have g3 := cell_of hR3 3; have g4 := cell_of hR3 4; have g5 := cell_of hR3 5; have fr := frozen_of hR3; dsimp at g0 g1 g2 g3 g4 g5)
          have hw2 := hw5; have hR2 := hR5
          have hF := heap_set (o := 5) (heap_set (o := 4) (heap_set (o := 3) (heap_set (o := 2) (heap_set (o := 1) (heap_set (o := 0) hR3 (.int .i64 0)) (.int .i64 0)) (.int .i64 0)) (.int .i64 0)) (.int .i64 0)) (.int .i64 0)
          have hw3 := hw2.trans (hb3.mono hw2.size)
          refine bodyPost_ret (v := .tuple #[CapS.zero.v, .int .i64 12]) ?_ rfl ⟨rfl, ?_⟩
          · have hc := cell_of hF
            simp [results, Tryz.f210, go_sem, hc, CapS.zero, CapS.v]
          · exact (((((hw3.setCell (p := ⟨w.heap.size, 0, none⟩) (Nat.le_refl _) _).setCell (p := ⟨w.heap.size, 1, none⟩) (Nat.le_refl _) _).setCell (p := ⟨w.heap.size, 2, none⟩) (Nat.le_refl _) _).setCell (p := ⟨w.heap.size, 3, none⟩) (Nat.le_refl _) _).setCell (p := ⟨w.heap.size, 4, none⟩) (Nat.le_refl _) _).setCell (p := ⟨w.heap.size, 5, none⟩) (Nat.le_refl _) _
        · go_wp2_with ((go_at_call 212; (with_reducible refine (hr _).mono ?_); rintro e w' ⟨rfl, hb3⟩); have hR2 := hR5; have hR3 := (hb3.block _ (lt_of_block hR2)).trans hR2; have g0 := cell_of hR3 0; have g1 := cell_of hR3 1; have g2 := cell_of hR3 2; have g3 := cell_of hR3 3; have g4 := cell_of hR3 4; have g5 := cell_of hR3 5; have fr := frozen_of hR3; dsimp at g0 g1 g2 g3 g4 g5; have hC3 := (hb3.block _ (lt_of_block hC)).trans hC; have d0 := cell_of hC3 0; have d1 := cell_of hC3 1; have d2 := cell_of hC3 2; have d3 := cell_of hC3 3; have d4 := cell_of hC3 4; have d5 := cell_of hC3 5; dsimp at d0 d1 d2 d3 d4 d5)
          have hF := heap_set (o := 5) (heap_set (o := 4) (heap_set (o := 3) (heap_set (o := 2) (heap_set (o := 1) (heap_set (o := 0) hR3 (.int .i64 (v % 16))) (.int .i64 (v / 16 % 32))) (.int .i64 (v / 512 % 64))) (.int .i64 (v / 32768 % 64))) (.int .i64 (v / 2097152 % 65536))) (.int .i64 b)
          have hw3 := hw5.trans (hb3.mono hw5.size)
          refine bodyPost_ret (v := .tuple #[(CapS.ofW v b).v, .int .i64 0]) ?_ rfl ⟨rfl, ?_⟩
          · have hc := cell_of hF
            simp [results, Tryz.f210, go_sem, hc, CapS.ofW, CapS.v]
          · exact (((((hw3.setCell (p := ⟨w.heap.size, 0, none⟩) (Nat.le_refl _) _).setCell (p := ⟨w.heap.size, 1, none⟩) (Nat.le_refl _) _).setCell (p := ⟨w.heap.size, 2, none⟩) (Nat.le_refl _) _).setCell (p := ⟨w.heap.size, 3, none⟩) (Nat.le_refl _) _).setCell (p := ⟨w.heap.size, 4, none⟩) (Nat.le_refl _) _).setCell (p := ⟨w.heap.size, 5, none⟩) (Nat.le_refl _) _
    · have e : okW v b = false := by unfold okW; rw [decide_eq_false hb]; simp
      have ec : getC v b = CapS.zero := by unfold getC; rw [e]; rfl
      have ee : getE v b = 12 := by unfold getE; rw [e]; rfl
      rw [ec, ee]
      clear ec ee e
      have HB : 1073741824 < b := by omega
      clear hb
      have hw0 : Below w.heap.size w (w.alloc (.cells #[.int .i64 0, .int .i64 0, .int .i64 0, .int .i64 0, .int .i64 0, .int .i64 0] 32 (0, 0))) := by (refine Touch.below0 ?_; (repeat' (first | (with_reducible exact Touch.refl _ _) | (with_reducible assumption) | (with_reducible refine Touch.drew ?_) | (with_reducible refine Touch.drewN ?_ _) | (with_reducible refine Touch.alloc ?_ _) | (with_reducible refine Touch.setCell ?_ _ _ _ ?_) | (with_reducible refine Touch.step (by assumption) ?_) | (with_reducible refine Touch.stepT (by assumption) ?_ ?_) | (intro _; first | rfl | trivial | omega | (simp; done) | (simp; omega)) | (intro _ _; first | omega | (simp; done) | (simp; omega)))))
      have hR : (w.alloc (.cells #[.int .i64 0, .int .i64 0, .int .i64 0, .int .i64 0, .int .i64 0, .int .i64 0] 32 (0, 0))).heap[w.heap.size]? = some (.cells #[.int .i64 0, .int .i64 0, .int .i64 0, .int .i64 0, .int .i64 0, .int .i64 0] 32 (0, 0)) := heap_new _ _
      have hR2 : ((w.alloc (.cells #[.int .i64 0, .int .i64 0, .int .i64 0, .int .i64 0, .int .i64 0, .int .i64 0] 32 (0, 0))).alloc (.cells #[.int .i64 4, .int .i64 5, .int .i64 6, .int .i64 6, .int .i64 16] 3 (0, 0))).heap[w.heap.size]? = some (.cells #[.int .i64 0, .int .i64 0, .int .i64 0, .int .i64 0, .int .i64 0, .int .i64 0] 32 (0, 0)) := heap_alloc hR _
      have hN : ((w.alloc (.cells #[.int .i64 0, .int .i64 0, .int .i64 0, .int .i64 0, .int .i64 0, .int .i64 0] 32 (0, 0))).alloc (.cells #[.int .i64 4, .int .i64 5, .int .i64 6, .int .i64 6, .int .i64 16] 3 (0, 0))).heap[w.heap.size + 1]? = some (.cells #[.int .i64 4, .int .i64 5, .int .i64 6, .int .i64 6, .int .i64 16] 3 (0, 0)) := heap_new' (by simp) _
      have hw2 := hw0.alloc hw0.size (.cells #[.int .i64 4, .int .i64 5, .int .i64 6, .int .i64 6, .int .i64 16] 3 (0, 0))
      go_enter Tryz.func210, Tryz.ntmps210
      go_wp2_with (first | (go_at_call 242; (with_reducible refine (r9_widths _).mono ?_); rintro e w' ⟨rfl, rfl⟩) | ((go_at_call 219; (with_reducible refine (r9_unpack_yes v _ _ h0 h1 hv hN).mono ?_); rintro e w' ⟨g, cap, rfl, hb3, q0, q1, q2, q3, q4⟩); have hR3 := (hb3.block _ (lt_of_block hR2)).trans hR2; have g0 := cell_of hR3 0; have g1 := cell_of hR3 1; have g2 := cell_of hR3 2; have g3 := cell_of hR3 3; have g4 := cell_of hR3 4; have g5 := cell_of hR3 5; have fr := frozen_of hR3; dsimp at g0 g1 g2 g3 g4 g5))
      have hF := heap_set (o := 5) (heap_set (o := 4) (heap_set (o := 3) (heap_set (o := 2) (heap_set (o := 1) (heap_set (o := 0) hR3 (.int .i64 0)) (.int .i64 0)) (.int .i64 0)) (.int .i64 0)) (.int .i64 0)) (.int .i64 0)
      have hw3 := hw2.trans (hb3.mono hw2.size)
      refine bodyPost_ret (v := .tuple #[CapS.zero.v, .int .i64 12]) ?_ rfl ⟨rfl, ?_⟩
      · have hc := cell_of hF
        simp [results, Tryz.f210, go_sem, hc, CapS.zero, CapS.v]
      · exact (((((hw3.setCell (p := ⟨w.heap.size, 0, none⟩) (Nat.le_refl _) _).setCell (p := ⟨w.heap.size, 1, none⟩) (Nat.le_refl _) _).setCell (p := ⟨w.heap.size, 2, none⟩) (Nat.le_refl _) _).setCell (p := ⟨w.heap.size, 3, none⟩) (Nat.le_refl _) _).setCell (p := ⟨w.heap.size, 4, none⟩) (Nat.le_refl _) _).setCell (p := ⟨w.heap.size, 5, none⟩) (Nat.le_refl _) _
  · have e : okW v b = false := by unfold okW; rw [decide_eq_false hv]; simp
    have ec : getC v b = CapS.zero := by unfold getC; rw [e]; rfl
    have ee : getE v b = 12 := by unfold getE; rw [e]; rfl
    rw [ec, ee]
    clear ec ee e
    have HV : 137438953472 ≤ v := by omega
    clear hv
    have hw0 : Below w.heap.size w (w.alloc (.cells #[.int .i64 0, .int .i64 0, .int .i64 0, .int .i64 0, .int .i64 0, .int .i64 0] 32 (0, 0))) := by (refine Touch.below0 ?_; (repeat' (first | (with_reducible exact Touch.refl _ _) | (with_reducible assumption) | (with_reducible refine Touch.drew ?_) | (with_reducible refine Touch.drewN ?_ _) | (with_reducible refine Touch.alloc ?_ _) | (with_reducible refine Touch.setCell ?_ _ _ _ ?_) | (with_reducible refine Touch.step (by assumption) ?_) | (with_reducible refine Touch.stepT (by assumption) ?_ ?_) | (intro _; first | rfl | trivial | omega | (simp; done) | (simp; omega)) | (intro _ _; first | omega | (simp; done) | (simp; omega)))))
    have hR : (w.alloc (.cells #[.int .i64 0, .int .i64 0, .int .i64 0, .int .i64 0, .int .i64 0, .int .i64 0] 32 (0, 0))).heap[w.heap.size]? = some (.cells #[.int .i64 0, .int .i64 0, .int .i64 0, .int .i64 0, .int .i64 0, .int .i64 0] 32 (0, 0)) := heap_new _ _
    have hR2 : ((w.alloc (.cells #[.int .i64 0, .int .i64 0, .int .i64 0, .int .i64 0, .int .i64 0, .int .i64 0] 32 (0, 0))).alloc (.cells #[.int .i64 4, .int .i64 5, .int .i64 6, .int .i64 6, .int .i64 16] 3 (0, 0))).heap[w.heap.size]? = some (.cells #[.int .i64 0, .int .i64 0, .int .i64 0, .int .i64 0, .int .i64 0, .int .i64 0] 32 (0, 0)) := heap_alloc hR _
    have hN : ((w.alloc (.cells #[.int .i64 0, .int .i64 0, .int .i64 0, .int .i64 0, .int .i64 0, .int .i64 0] 32 (0, 0))).alloc (.cells #[.int .i64 4, .int .i64 5, .int .i64 6, .int .i64 6, .int .i64 16] 3 (0, 0))).heap[w.heap.size + 1]? = some (.cells #[.int .i64 4, .int .i64 5, .int .i64 6, .int .i64 6, .int .i64 16] 3 (0, 0)) := heap_new' (by simp) _
    have hw2 := hw0.alloc hw0.size (.cells #[.int .i64 4, .int .i64 5, .int .i64 6, .int .i64 6, .int .i64 16] 3 (0, 0))
    go_enter Tryz.func210, Tryz.ntmps210
    go_wp2_with (first | (go_at_call 242; (with_reducible refine (r9_widths _).mono ?_); rintro e w' ⟨rfl, rfl⟩) | ((go_at_call 219; (with_reducible refine (r9_unpack_no v _ _ h0 h1 HV hN).mono ?_); rintro e w' ⟨rfl, hb3⟩); have hR3 := (hb3.block _ (lt_of_block hR2)).trans hR2; have g0 := cell_of hR3 0; have g1 := cell_of hR3 1; have g2 := cell_of hR3 2; have g3 := cell_of hR3 3; have g4 := cell_of hR3 4; have g5 := cell_of hR3 5; have fr := frozen_of hR3; dsimp at g0 g1 g2 g3 g4 g5))
    have hF := heap_set (o := 5) (heap_set (o := 4) (heap_set (o := 3) (heap_set (o := 2) (heap_set (o := 1) (heap_set (o := 0) hR3 (.int .i64 0)) (.int .i64 0)) (.int .i64 0)) (.int .i64 0)) (.int .i64 0)) (.int .i64 0)
    have hw3 := hw2.trans (hb3.mono hw2.size)
    refine bodyPost_ret (v := .tuple #[CapS.zero.v, .int .i64 12]) ?_ rfl ⟨rfl, ?_⟩
    · have hc := cell_of hF
      simp [results, Tryz.f210, go_sem, hc, CapS.zero, CapS.v]
    · exact (((((hw3.setCell (p := ⟨w.heap.size, 0, none⟩) (Nat.le_refl _) _).setCell (p := ⟨w.heap.size, 1, none⟩) (Nat.le_refl _) _).setCell (p := ⟨w.heap.size, 2, none⟩) (Nat.le_refl _) _).setCell (p := ⟨w.heap.size, 3, none⟩) (Nat.le_refl _) _).setCell (p := ⟨w.heap.size, 4, none⟩) (Nat.le_refl _) _).setCell (p := ⟨w.heap.size, 5, none⟩) (Nat.le_refl _) _
end Go.Proofs.YtejdfdllgobnhaaGreat
