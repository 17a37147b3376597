/- Capabilities as words: Put, Get. -/
import Derived.Test.YtejdfdllgobnhaaWords
import Derived.Deep.RegionHeld3
set_option linter.unusedVariables false
set_option linter.unusedSimpArgs false
namespace Go.Proofs.Ytejdfdllgobnhaa
open Go.RowKit

theorem cell_other {b b' : Nat} (h : b ≠ b') (w : World) (o o' : Nat) (v : Value) : (w.setCell ⟨b', o', none⟩ v).cell? ⟨b, o, none⟩ = w.cell? ⟨b, o, none⟩ := World.cell?_of_block (a := ⟨b, o, none⟩) (heap_set_ne rfl v h)
theorem cell_drew' (w : World) (a : Addr) : w.drew.cell? a = w.cell? a := rfl
theorem wrap_u64_small {x : Int} (h0 : 0 ≤ x) (h1 : x < 18446744073709551616) : IntKind.u64.wrap x = x := by rw [IntKind.wrap_u64]; omega
theorem cap_widths (w : World) : Calls Try.prog 111 #[] w fun e w' => e = .returned (.agg #[.int .i64 4, .int .i64 5, .int .i64 6, .int .i64 6, .int .i64 16]) ∧ Below w.heap.size w w' := by
  go_enter Try.func111, Try.ntmps111
  go_wp2
  (try simp only [Exit.inBlock, Exit.then])
  refine bodyPost_ret (results_cell_row rfl _ _ w.heap.size 171 #[.int .i64 4, .int .i64 5, .int .i64 6, .int .i64 6, .int .i64 16] (0, 0) _ rfl ?_ Try.underlying171 rfl (by kernel_rfl)) rfl ?_
  · exact heap_new _ _
  exact ⟨rfl, by (refine Touch.below0 ?_; (repeat' (first | (with_reducible exact Touch.refl _ _) | (with_reducible assumption) | (with_reducible refine Touch.drew ?_) | (with_reducible refine Touch.drewN ?_ _) | (with_reducible refine Touch.alloc ?_ _) | (with_reducible refine Touch.setCell ?_ _ _ _ ?_) | (with_reducible refine Touch.step (by assumption) ?_) | (with_reducible refine Touch.stepT (by assumption) ?_ ?_) | (intro _; first | rfl | trivial | omega | (simp; done) | (simp; omega)) | (intro _ _; first | omega | (simp; done) | (simp; omega)))))⟩
theorem cap_pack (c : CapS) (bn bv : Nat) (w : World) (hs : c.sized = true) (hn : w.heap[bn]? = some (.cells #[.int .i64 4, .int .i64 5, .int .i64 6, .int .i64 6, .int .i64 16] 171 (0, 0)))
    (hv : w.heap[bv]? = some (.cells #[.int .u64 c.k, .int .u64 c.r, .int .u64 c.t, .int .u64 c.l, .int .u64 c.e] 170 (0, 0))) :
    Calls Try.prog 112 #[.slice (some ⟨bn, 0, none⟩) 5 5, .slice (some ⟨bv, 0, none⟩) 5 5] w fun e w' => e = .returned (.tuple #[.int .u64 c.w1, .int .i64 0]) ∧ Below w.heap.size w w' := by
  obtain ⟨h1, h2, h3, h4, h5, h6⟩ := CapS.sized_b hs
  have hlo : ∀ j : Nat, 0 ≤ c.vs[j]?.getD 0 ∧ c.vs[j]?.getD 0 < 18446744073709551616 := fun j => by
    match j with
    | 0 => exact ⟨by show 0 ≤ c.k; omega, by show c.k < _; omega⟩
    | 1 => exact ⟨by show 0 ≤ c.r; omega, by show c.r < _; omega⟩
    | 2 => exact ⟨by show 0 ≤ c.t; omega, by show c.t < _; omega⟩
    | 3 => exact ⟨by show 0 ≤ c.l; omega, by show c.l < _; omega⟩
    | 4 => exact ⟨by show 0 ≤ c.e; omega, by show c.e < _; omega⟩
    | j + 5 => exact ⟨Int.le_refl _, by show (0 : Int) < _; omega⟩
  have hN : IntsAt w bn 0 .i64 capNs := ⟨lt_of_block hn, fun j hj => by
    rw [cell_of hn]
    match j, hj with | 0, _ => rfl | 1, _ => rfl | 2, _ => rfl | 3, _ => rfl | 4, _ => rfl⟩
  have hV : IntsAt w bv 0 .u64 c.vs := ⟨lt_of_block hv, fun j hj => by
    rw [cell_of hv]
    match j, hj with | 0, _ => rfl | 1, _ => rfl | 2, _ => rfl | 3, _ => rfl | 4, _ => rfl⟩
  have := f_pack0 capNs c.vs bn 0 5 bv 0 5 w cap_wok (by decide) rfl hN hV (fun j => (hlo j).1) (fun j => (hlo j).2)
  rw [if_pos (cap_fits hs), if_pos (cap_fits hs), cap_packL hs] at this
  exact this
theorem cap_unpack (v : Int) (bn : Nat) (w : World) (h0 : 0 ≤ v) (h1 : v < 18446744073709551616) (hn : w.heap[bn]? = some (.cells #[.int .i64 4, .int .i64 5, .int .i64 6, .int .i64 6, .int .i64 16] 171 (0, 0))) :
    Calls Try.prog 116 #[.slice (some ⟨bn, 0, none⟩) 5 5, .int .u64 v] w fun e w' => Below w.heap.size w w' ∧
      ((v < 137438953472 ∧ ∃ g cap, e = .returned (.tuple #[.slice (some ⟨g, 0, none⟩) 5 cap, .int .i64 0]) ∧ w.heap.size ≤ g ∧ w'.cell? ⟨g, 0, none⟩ = some (.int .u64 (v % 16)) ∧ w'.cell? ⟨g, 1, none⟩ = some (.int .u64 (v / 16 % 32)) ∧
        w'.cell? ⟨g, 2, none⟩ = some (.int .u64 (v / 512 % 64)) ∧ w'.cell? ⟨g, 3, none⟩ = some (.int .u64 (v / 32768 % 64)) ∧ w'.cell? ⟨g, 4, none⟩ = some (.int .u64 (v / 2097152 % 65536))) ∨
       (¬ v < 137438953472 ∧ e = .returned (.tuple #[.slice none 0 0, .int .i64 1]))) := by
  have hN : IntsAt w bn 0 .i64 capNs := ⟨lt_of_block hn, fun j hj => by
    rw [cell_of hn]
    match j, hj with | 0, _ => rfl | 1, _ => rfl | 2, _ => rfl | 3, _ => rfl | 4, _ => rfl⟩
  refine (f_unpack0 capNs bn 0 5 v w cap_wok (by decide) hN h0 h1 (by decide) (by decide)).mono ?_
  rintro e w' ⟨hb, h⟩
  refine ⟨hb, ?_⟩
  rw [cap_parts h0 h1] at h
  rcases h with ⟨hf, g, cap, he, hg, hc⟩ | ⟨hf, he⟩
  · refine .inl ⟨?_, g, cap, he, hg, hc 0 (by decide), hc 1 (by decide), hc 2 (by decide), hc 3 (by decide), hc 4 (by decide)⟩
    have := of_decide_eq_true hf
    exact this
  · refine .inr ⟨?_, he⟩
    have := of_decide_eq_false hf
    exact this
set_option maxHeartbeats 4000000 in
set_option maxRecDepth 100000 in
theorem cap_put (c : CapS) (w : World) : Calls Try.prog 99 #[c.v] w fun e w' => e = .returned (.tuple #[.int .u64 (if c.right then c.w1 else 0), .int .u64 (if c.right then c.a else 0), .int .i64 (if c.right then 0 else 1)]) ∧ Below w.heap.size w w' := by
  have hr := cap_right c
  have hpk := cap_pack c
  cases hb : c.right
  · rw [hb] at hr
    clear hpk hb
    obtain ⟨k, r, t, l, ep, a⟩ := c
    unfold CapS.v at *
    dsimp only at *
    have hw0 : Below w.heap.size w (w.alloc (.cells #[.int .i64 k, .int .i64 r, .int .i64 t, .int .i64 l, .int .i64 ep, .int .i64 a] 57 (0, 0))) := by (refine Touch.below0 ?_; (repeat' (first | (with_reducible exact Touch.refl _ _) | (with_reducible assumption) | (with_reducible refine Touch.drew ?_) | (with_reducible refine Touch.drewN ?_ _) | (with_reducible refine Touch.alloc ?_ _) | (with_reducible refine Touch.setCell ?_ _ _ _ ?_) | (with_reducible refine Touch.step (by assumption) ?_) | (with_reducible refine Touch.stepT (by assumption) ?_ ?_) | (intro _; first | rfl | trivial | omega | (simp; done) | (simp; omega)) | (intro _ _; first | omega | (simp; done) | (simp; omega)))))
    go_enter Try.func99, Try.ntmps99
    go_wp2_with ((go_at_call 101; (with_reducible refine (hr _).mono ?_); rintro e w' ⟨rfl, hx⟩))
    go_ret3
    exact ⟨rfl, hw0.trans (hx.mono hw0.size)⟩
  · rw [hb] at hr
    have hsz : c.sized = true := by unfold CapS.right at hb; simp only [Bool.and_eq_true] at hb; exact hb.1
    have hpk := fun bn bv w => hpk bn bv w hsz
    have hbd := Lib.hid (CapS.sized_b hsz)
    clear hb hsz
    obtain ⟨W1, HW⟩ : ∃ x, Hid (c.w1 = x) := ⟨_, Lib.hid rfl⟩
    rw [HW.out] at hpk
    rw [HW.out]
    clear HW
    obtain ⟨k, r, t, l, ep, a⟩ := c
    unfold CapS.v at *
    dsimp only at *
    obtain ⟨⟨k0, k1⟩, ⟨r0, r1⟩, ⟨t0, t1⟩, ⟨l0, l1⟩, ⟨e0, e1⟩, ⟨a0, a1⟩⟩ := hbd.out
    have hw0 : Below w.heap.size w (w.alloc (.cells #[.int .i64 k, .int .i64 r, .int .i64 t, .int .i64 l, .int .i64 ep, .int .i64 a] 57 (0, 0))) := by (refine Touch.below0 ?_; (repeat' (first | (with_reducible exact Touch.refl _ _) | (with_reducible assumption) | (with_reducible refine Touch.drew ?_) | (with_reducible refine Touch.drewN ?_ _) | (with_reducible refine Touch.alloc ?_ _) | (with_reducible refine Touch.setCell ?_ _ _ _ ?_) | (with_reducible refine Touch.step (by assumption) ?_) | (with_reducible refine Touch.stepT (by assumption) ?_ ?_) | (intro _; first | rfl | trivial | omega | (simp; done) | (simp; omega)) | (intro _ _; first | omega | (simp; done) | (simp; omega)))))
    have h0 : (w.alloc (.cells #[.int .i64 k, .int .i64 r, .int .i64 t, .int .i64 l, .int .i64 ep, .int .i64 a] 57 (0, 0))).heap[w.heap.size]? = some (.cells #[.int .i64 k, .int .i64 r, .int .i64 t, .int .i64 l, .int .i64 ep, .int .i64 a] 57 (0, 0)) := heap_new w _
    go_enter Try.func99, Try.ntmps99
    go_upto_region 4 with ((go_at_call 101; (with_reducible refine (hr _).mono ?_); rintro e w' ⟨rfl, hx⟩); have hp := (hx.block _ (lt_of_block h0)).trans h0; have hwx := hw0.trans (hx.mono hw0.size))
    obtain ⟨A, hA⟩ : ∃ A, A = w'.heap.size := ⟨_, rfl⟩
    obtain ⟨wa, hwa⟩ : ∃ y : World, y = w'.alloc (.cells #[.int .u64 0, .int .u64 0, .int .u64 0, .int .u64 0, .int .u64 0] 170 (0, 0)) := ⟨_, rfl⟩
    rw [← hwa, ← hA]
    have hp2 : wa.heap[w.heap.size]? = some (.cells #[.int .i64 k, .int .i64 r, .int .i64 t, .int .i64 l, .int .i64 ep, .int .i64 a] 57 (0, 0)) := by rw [hwa]; exact heap_alloc hp _
    have hq2 : wa.heap[A]? = some (.cells #[.int .u64 0, .int .u64 0, .int .u64 0, .int .u64 0, .int .u64 0] 170 (0, 0)) := by rw [hwa]; exact heap_new' hA _
    have hwa2 : Below w.heap.size w wa := by rw [hwa]; exact hwx.alloc hwx.size _
    have hBA : w.heap.size < A := by rw [hA]; exact lt_of_block hp
    have hne : w.heap.size ≠ A := by omega
    clear hwa hA hx hp hwx h0 hw0 hr
    go_cut [] (fun wr => wr.heap[w.heap.size]? = some (.cells #[.int .i64 k, .int .i64 r, .int .i64 t, .int .i64 l, .int .i64 ep, .int .i64 a] 57 (0, 0)) ∧ wr.heap[A]? = some (.cells #[.int .u64 k, .int .u64 r, .int .u64 t, .int .u64 0, .int .u64 0] 170 (0, 0)) ∧ Below w.heap.size w wr)
    case first =>
      have wk := wrap_u64_small (x := k) (by omega) (by omega); have wr := wrap_u64_small (x := r) (by omega) (by omega); have wt := wrap_u64_small (x := t) (by omega) (by omega)
      have g0 := cell_of hp2 0; have g1 := cell_of hp2 1; have g2 := cell_of hp2 2
      have q0 := cell_of hq2 0; have q1 := cell_of hq2 1; have q2 := cell_of hq2 2
      have fq := frozen_of hq2
      dsimp at g0 g1 g2 q0 q1 q2
      go_region_held3 (fun y => y.cell? ⟨w.heap.size, 0, none⟩ = some (.int .i64 k) ∧ y.cell? ⟨w.heap.size, 1, none⟩ = some (.int .i64 r) ∧ y.cell? ⟨w.heap.size, 2, none⟩ = some (.int .i64 t)) ((simp only [cell_drew', cell_other hne]; exact ⟨g0, g1, g2⟩)) (fail)
      all_goals
        go_wp2
        go_meet
        exact ⟨heap_set_ne (heap_set_ne (heap_set_ne hp2 _ hne) _ hne) _ hne, heap_set (heap_set (heap_set hq2 _) _) _,
          (((hwa2.setCell (p := ⟨A, 0, none⟩) (Nat.le_of_lt hBA) _).setCell (p := ⟨A, 1, none⟩) (Nat.le_of_lt hBA) _).setCell (p := ⟨A, 2, none⟩) (Nat.le_of_lt hBA) _).drew⟩
    case rest =>
      obtain ⟨hp3, hq3, hwa3⟩ := hcut
      clear hp2 hq2 hwa2
      obtain ⟨wb, rfl⟩ : ∃ y : World, y = wc := ⟨_, rfl⟩
      go_upto_region 5 with (fail)
      go_cut [] (fun wr => wr.heap[w.heap.size]? = some (.cells #[.int .i64 k, .int .i64 r, .int .i64 t, .int .i64 l, .int .i64 ep, .int .i64 a] 57 (0, 0)) ∧ wr.heap[A]? = some (.cells #[.int .u64 k, .int .u64 r, .int .u64 t, .int .u64 l, .int .u64 ep] 170 (0, 0)) ∧ Below w.heap.size w wr)
      case first =>
        have wl := wrap_u64_small (x := l) (by omega) (by omega); have we := wrap_u64_small (x := ep) (by omega) (by omega)
        have g3 := cell_of hp3 3; have g4 := cell_of hp3 4
        have q3 := cell_of hq3 3; have q4 := cell_of hq3 4
        have fq := frozen_of hq3
        dsimp at g3 g4 q3 q4
        go_region_held3 (fun y => y.cell? ⟨w.heap.size, 3, none⟩ = some (.int .i64 l) ∧ y.cell? ⟨w.heap.size, 4, none⟩ = some (.int .i64 ep)) ((simp only [cell_drew', cell_other hne]; exact ⟨g3, g4⟩)) (fail)
        all_goals
          go_wp2
          go_meet
          exact ⟨heap_set_ne (heap_set_ne hp3 _ hne) _ hne, heap_set (heap_set hq3 _) _, ((hwa3.setCell (p := ⟨A, 3, none⟩) (Nat.le_of_lt hBA) _).setCell (p := ⟨A, 4, none⟩) (Nat.le_of_lt hBA) _).drew⟩
      case rest =>
        obtain ⟨hp4, hq4, hwa4⟩ := hcut
        clear hp3 hq3 hwa3
        obtain ⟨wd, rfl⟩ : ∃ y : World, y = wc := ⟨_, rfl⟩
        go_upto_region 7 with ((go_at_call 111; (with_reducible refine (cap_widths _).mono ?_); rintro e w' ⟨rfl, hx⟩))
        have hp5 : (w'.alloc (.cells #[.int .i64 4, .int .i64 5, .int .i64 6, .int .i64 6, .int .i64 16] 171 (0, 0))).heap[w.heap.size]? = some (.cells #[.int .i64 k, .int .i64 r, .int .i64 t, .int .i64 l, .int .i64 ep, .int .i64 a] 57 (0, 0)) := heap_alloc ((hx.block _ (lt_of_block hp4)).trans hp4) _
        have hq5 : (w'.alloc (.cells #[.int .i64 4, .int .i64 5, .int .i64 6, .int .i64 6, .int .i64 16] 171 (0, 0))).heap[A]? = some (.cells #[.int .u64 k, .int .u64 r, .int .u64 t, .int .u64 l, .int .u64 ep] 170 (0, 0)) := heap_alloc ((hx.block _ (lt_of_block hq4)).trans hq4) _
        have hn5 : (w'.alloc (.cells #[.int .i64 4, .int .i64 5, .int .i64 6, .int .i64 6, .int .i64 16] 171 (0, 0))).heap[w'.heap.size]? = some (.cells #[.int .i64 4, .int .i64 5, .int .i64 6, .int .i64 6, .int .i64 16] 171 (0, 0)) := heap_new _ _
        have hw4 := hwa4.trans (hx.mono hwa4.size)
        have hw5 := hw4.alloc hw4.size (.cells #[.int .i64 4, .int .i64 5, .int .i64 6, .int .i64 6, .int .i64 16] 171 (0, 0))
        generalize w'.alloc (.cells #[.int .i64 4, .int .i64 5, .int .i64 6, .int .i64 6, .int .i64 16] 171 (0, 0)) = w5 at *
        generalize w'.heap.size = N at *
        (refine wp_region_calm (by kernel_rfl) (by kernel_rfl) ?_; (repeat (go_big_quiet_step (((go_at_call 112; first | (with_reducible refine Calls.calm_of (hpk N A _ ((After.at _ hn5)) (After.at _ hq5))) | (with_reducible refine Calls.calm_of_same (hpk N A _ ((After.at _ hn5)) (After.at _ hq5)))))))); refine wpQuiet_nil ?_; intro _ hw'; obtain ⟨wq, hw''⟩ := hw'; subst hw''; obtain ⟨wq, hbq⟩ := wq; try dsimp only at *)
        have hp6 := (hbq.block _ (lt_of_block hp5)).trans hp5
        have hw6 := hw5.trans (hbq.mono hw5.size)
        obtain ⟨we, rfl⟩ : ∃ y : World, y = wq := ⟨_, rfl⟩
        have g5 := cell_of hp6 5
        have hl6 := lt_of_block hp6
        dsimp at g5
        have wa' := wrap_u64_small (x := a) (by omega) (by omega)
        go_upto_region 8 with (fail)
        (refine wp_region_calm (by kernel_rfl) (by kernel_rfl) ?_; (repeat (go_big_quiet_step ((fail)))); refine wpQuiet_nil ?_; intro _ hw'; obtain ⟨wq, hw''⟩ := hw'; subst hw''; obtain ⟨wq, hbq⟩ := wq; try dsimp only at *)
        go_wp2
        go_ret3
        exact ⟨rfl, hw6.trans (hbq.mono hw6.size)⟩
end Go.Proofs.Ytejdfdllgobnhaa
