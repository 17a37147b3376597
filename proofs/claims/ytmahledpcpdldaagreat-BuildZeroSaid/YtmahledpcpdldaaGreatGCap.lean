/- Several texts in one: Words, Cap2, Cap3. -/
import Derived.Test.YtmahledpcpdldaaGreatCap
import Derived.Deep.RegionHeld3
/- Words -/
set_option linter.unusedVariables false
set_option linter.unusedSimpArgs false
namespace Go.Proofs.YtmahledpcpdldaaGreat
open Go.RowKit

def capNs : List Int := [4, 5, 6, 6, 16]
def headNs : List Int := [4, 1, 1]
theorem cap_wok : WOk capNs := by intro k hk; match k, hk with | 0, _ => rfl | 1, _ => rfl | 2, _ => rfl | 3, _ => rfl | 4, _ => rfl
theorem head_wok : WOk headNs := by intro k hk; match k, hk with | 0, _ => rfl | 1, _ => rfl | 2, _ => rfl
theorem or_add {acc y : Int} {o : Nat} (h0 : 0 ≤ acc) (h1 : acc < 2 ^ o) (y0 : 0 ≤ y) (y1 : y * 2 ^ o < 18446744073709551616) (ho : o ≤ 63) : bits .or .u64 acc (IntKind.u64.wrap (y * 2 ^ o)) = acc + y * 2 ^ o := by
  obtain ⟨a, rfl⟩ : ∃ a : Nat, acc = a := ⟨acc.toNat, by omega⟩
  obtain ⟨b, rfl⟩ : ∃ b : Nat, y = b := ⟨y.toNat, by omega⟩
  have e : ((b : Int) * 2 ^ o) = ((b * 2 ^ o : Nat) : Int) := by push_cast; rfl
  have e2 : ((2 : Int) ^ o) = ((2 ^ o : Nat) : Int) := by push_cast; rfl
  rw [e] at y1 ⊢
  rw [e2] at h1
  have h64 := pow_le64 (k := o) (by omega)
  rw [IntKind.wrap_u64, Int.emod_eq_of_lt (by omega) y1, u64_or_nat _ _ (by omega) (by omega), Nat.or_comm, nat_join o _ _ (by simp) (by omega)]
  omega
theorem and_mask {v : Int} {n : Nat} (h0 : 0 ≤ v) (h1 : v < 18446744073709551616) (hn : n ≤ 64) : bits .and .u64 v ((2 ^ n - 1 : Nat) : Int) = v % 2 ^ n := by
  obtain ⟨a, rfl⟩ : ∃ a : Nat, v = a := ⟨v.toNat, by omega⟩
  have h64 := pow_le64 hn
  have hp := pow_pos2 n
  rw [u64_and_nat _ _ (by omega) (by omega), Nat.and_two_pow_sub_one_eq_mod]
  push_cast; rfl

def CapS.w1 (c : CapS) : Int := c.k + c.r * 16 + c.t * 512 + c.l * 32768 + c.e * 2097152
def CapS.vs (c : CapS) : List Int := [c.k, c.r, c.t, c.l, c.e]
theorem CapS.sized_b {c : CapS} (h : c.sized = true) : (0 ≤ c.k ∧ c.k < 12) ∧ (0 ≤ c.r ∧ c.r < 32) ∧ (0 ≤ c.t ∧ c.t < 64) ∧ (0 ≤ c.l ∧ c.l < 64) ∧ (0 ≤ c.e ∧ c.e < 65536) ∧ (0 ≤ c.a ∧ c.a < 1073741825) := by
  simp [CapS.sized, inB] at h; omega
theorem cap_fits {c : CapS} (h : c.sized = true) : ∀ x, fitAt capNs c.vs x = true := by
  obtain ⟨h1, h2, h3, h4, h5, h6⟩ := CapS.sized_b h
  intro x
  match x with
  | ⟨0, _⟩ => simp [fitAt, fitsB, capNs, CapS.vs]; omega
  | ⟨1, _⟩ => simp [fitAt, fitsB, capNs, CapS.vs]; omega
  | ⟨2, _⟩ => simp [fitAt, fitsB, capNs, CapS.vs]; omega
  | ⟨3, _⟩ => simp [fitAt, fitsB, capNs, CapS.vs]; omega
  | ⟨4, _⟩ => simp [fitAt, fitsB, capNs, CapS.vs]; omega
theorem cap_packL {c : CapS} (h : c.sized = true) : packL capNs c.vs (List.finRange capNs.length) = c.w1 := by
  obtain ⟨h1, h2, h3, h4, h5, h6⟩ := CapS.sized_b h
  show bits .or .u64 (bits .or .u64 (bits .or .u64 (bits .or .u64 (bits .or .u64 0 (IntKind.u64.wrap (c.k * 2 ^ 0))) (IntKind.u64.wrap (c.r * 2 ^ 4))) (IntKind.u64.wrap (c.t * 2 ^ 9))) (IntKind.u64.wrap (c.l * 2 ^ 15))) (IntKind.u64.wrap (c.e * 2 ^ 21)) = _
  rw [or_add (acc := 0) (by omega) (by omega) (by omega) (by omega) (by omega), or_add (o := 4) (by omega) (by omega) (by omega) (by omega) (by omega), or_add (o := 9) (by omega) (by omega) (by omega) (by omega) (by omega),
    or_add (o := 15) (by omega) (by omega) (by omega) (by omega) (by omega), or_add (o := 21) (by omega) (by omega) (by omega) (by omega) (by omega)]
  unfold CapS.w1; omega
theorem cap_parts {v : Int} (h0 : 0 ≤ v) (h1 : v < 18446744073709551616) : partsI capNs v = [v % 16, v / 16 % 32, v / 512 % 64, v / 32768 % 64, v / 2097152 % 65536] := by
  show [bits .and .u64 (v / 2 ^ 0) ((2 ^ 4 - 1 : Nat) : Int), bits .and .u64 (v / 2 ^ 4) ((2 ^ 5 - 1 : Nat) : Int), bits .and .u64 (v / 2 ^ 9) ((2 ^ 6 - 1 : Nat) : Int), bits .and .u64 (v / 2 ^ 15) ((2 ^ 6 - 1 : Nat) : Int), bits .and .u64 (v / 2 ^ 21) ((2 ^ 16 - 1 : Nat) : Int)] = _
  rw [and_mask (by omega) (by omega) (by omega), and_mask (by omega) (by omega) (by omega), and_mask (by omega) (by omega) (by omega), and_mask (by omega) (by omega) (by omega), and_mask (by omega) (by omega) (by omega)]
  simp
end Go.Proofs.YtmahledpcpdldaaGreat
/- Cap2 -/
set_option linter.unusedVariables false
set_option linter.unusedSimpArgs false
namespace Go.Proofs.YtmahledpcpdldaaGreat
open Go.RowKit

theorem cell_other {b b' : Nat} (h : b ≠ b') (w : World) (o o' : Nat) (v : Value) : (w.setCell ⟨b', o', none⟩ v).cell? ⟨b, o, none⟩ = w.cell? ⟨b, o, none⟩ := World.cell?_of_block (a := ⟨b, o, none⟩) (heap_set_ne rfl v h)
theorem cell_drew' (w : World) (a : Addr) : w.drew.cell? a = w.cell? a := rfl
theorem wrap_u64_small {x : Int} (h0 : 0 ≤ x) (h1 : x < 18446744073709551616) : IntKind.u64.wrap x = x := by rw [IntKind.wrap_u64]; omega
theorem cap_widths (w : World) : Calls Tryz.prog 256 #[] w fun e w' => e = .returned (.agg #[.int .i64 4, .int .i64 5, .int .i64 6, .int .i64 6, .int .i64 16]) ∧ Below w.heap.size w w' := by
  go_enter Tryz.func256, Tryz.ntmps256
  go_wp2
  (try simp only [Exit.inBlock, Exit.then])
  refine bodyPost_ret (results_cell_row rfl _ _ w.heap.size 315 #[.int .i64 4, .int .i64 5, .int .i64 6, .int .i64 6, .int .i64 16] (0, 0) _ rfl ?_ Tryz.underlying315 rfl (by kernel_rfl)) rfl ?_
  · exact heap_new _ _
  exact ⟨rfl, by (refine Touch.below0 ?_; (repeat' (first | (with_reducible exact Touch.refl _ _) | (with_reducible assumption) | (with_reducible refine Touch.drew ?_) | (with_reducible refine Touch.drewN ?_ _) | (with_reducible refine Touch.alloc ?_ _) | (with_reducible refine Touch.setCell ?_ _ _ _ ?_) | (with_reducible refine Touch.step (by assumption) ?_) | (with_reducible refine Touch.stepT (by assumption) ?_ ?_) | (intro _; first | rfl | trivial | omega | (simp; done) | (simp; omega)) | (intro _ _; first | omega | (simp; done) | (simp; omega)))))⟩
theorem cap_pack (c : CapS) (bn bv : Nat) (w : World) (hs : c.sized = true) (hn : w.heap[bn]? = some (.cells #[.int .i64 4, .int .i64 5, .int .i64 6, .int .i64 6, .int .i64 16] 315 (0, 0)))
    (hv : w.heap[bv]? = some (.cells #[.int .u64 c.k, .int .u64 c.r, .int .u64 c.t, .int .u64 c.l, .int .u64 c.e] 338 (0, 0))) :
    Calls Tryz.prog 257 #[.slice (some ⟨bn, 0, none⟩) 5 5, .slice (some ⟨bv, 0, none⟩) 5 5] w fun e w' => e = .returned (.tuple #[.int .u64 c.w1, .int .i64 0]) ∧ Below w.heap.size w w' := by
  obtain ⟨h1, h2, h3, h4, h5, h6⟩ := CapS.sized_b hs
  have hlo : ∀ j : Nat, 0 ≤ c.vs[j]?.getD 0 ∧ c.vs[j]?.getD 0 < 18446744073709551616 := fun j => by
    match j with
    | 0 => exact ⟨by show 0 ≤ c.k; omega, by show c.k < _; omega⟩
    | 1 => exact ⟨by show 0 ≤ c.r; omega, by show c.r < _; omega⟩
    | 2 => exact ⟨by show 0 ≤ c.t; omega, by show c.t < _; omega⟩
    | 3 => exact ⟨by show 0 ≤ c.l; omega, by show c.l < _; omega⟩
    | 4 => exact ⟨by show 0 ≤ c.e; omega, by show c.e < _; omega⟩
    | j + 5 => exact ⟨Int.le_refl _, by show (0 : Int) < _; omega⟩
  have hN : IntsAt w bn 0 .i64 capNs := ⟨lt_of_block hn, fun j hj => by
    rw [cell_of hn]
    match j, hj with | 0, _ => rfl | 1, _ => rfl | 2, _ => rfl | 3, _ => rfl | 4, _ => rfl⟩
  have hV : IntsAt w bv 0 .u64 c.vs := ⟨lt_of_block hv, fun j hj => by
    rw [cell_of hv]
    match j, hj with | 0, _ => rfl | 1, _ => rfl | 2, _ => rfl | 3, _ => rfl | 4, _ => rfl⟩
  have := f_pack0 capNs c.vs bn 0 5 bv 0 5 w cap_wok (by decide) rfl hN hV (fun j => (hlo j).1) (fun j => (hlo j).2)
  rw [if_pos (cap_fits hs), if_pos (cap_fits hs), cap_packL hs] at this
  exact this
theorem cap_unpack (v : Int) (bn : Nat) (w : World) (h0 : 0 ≤ v) (h1 : v < 18446744073709551616) (hn : w.heap[bn]? = some (.cells #[.int .i64 4, .int .i64 5, .int .i64 6, .int .i64 6, .int .i64 16] 315 (0, 0))) :
    Calls Tryz.prog 277 #[.slice (some ⟨bn, 0, none⟩) 5 5, .int .u64 v] w fun e w' => Below w.heap.size w w' ∧
      ((v < 137438953472 ∧ ∃ g cap, e = .returned (.tuple #[.slice (some ⟨g, 0, none⟩) 5 cap, .int .i64 0]) ∧ w.heap.size ≤ g ∧ w'.cell? ⟨g, 0, none⟩ = some (.int .u64 (v % 16)) ∧ w'.cell? ⟨g, 1, none⟩ = some (.int .u64 (v / 16 % 32)) ∧
        w'.cell? ⟨g, 2, none⟩ = some (.int .u64 (v / 512 % 64)) ∧ w'.cell? ⟨g, 3, none⟩ = some (.int .u64 (v / 32768 % 64)) ∧ w'.cell? ⟨g, 4, none⟩ = some (.int .u64 (v / 2097152 % 65536))) ∨
       (¬ v < 137438953472 ∧ e = .returned (.tuple #[.slice none 0 0, .int .i64 1]))) := by
  have hN : IntsAt w bn 0 .i64 capNs := ⟨lt_of_block hn, fun j hj => by
    rw [cell_of hn]
    match j, hj with | 0, _ => rfl | 1, _ => rfl | 2, _ => rfl | 3, _ => rfl | 4, _ => rfl⟩
  refine (f_unpack0 capNs bn 0 5 v w cap_wok (by decide) hN h0 h1 (by decide) (by decide)).mono ?_
  rintro e w' ⟨hb, h⟩
  refine ⟨hb, ?_⟩
  rw [cap_parts h0 h1] at h
  rcases h with ⟨hf, g, cap, he, hg, hc⟩ | ⟨hf, he⟩
  · refine .inl ⟨?_, g, cap, he, hg, hc 0 (by decide), hc 1 (by decide), hc 2 (by decide), hc 3 (by decide), hc 4 (by decide)⟩
    have := of_decide_eq_true hf
    exact this
  · refine .inr ⟨?_, he⟩
    have := of_decide_eq_false hf
    exact this
set_option maxHeartbeats 4000000 in
set_option maxRecDepth 100000 in
theorem cap_put (c : CapS) (w : World) : Calls Tryz.prog 207 #[c.v] w fun e w' => e = .returned (.tuple #[.int .u64 (if c.right then c.w1 else 0), .int .u64 (if c.right then c.a else 0), .int .i64 (if c.right then 0 else 1)]) ∧ Below w.heap.size w w' := by
  have hr := cap_right c
  have hpk := cap_pack c
  cases hb : c.right
  · rw [hb] at hr
    clear hpk hb
    obtain ⟨k, r, t, l, ep, a⟩ := c
    unfold CapS.v at *
    dsimp only at *
    have hw0 : Below w.heap.size w (w.alloc (.cells #[.int .i64 k, .int .i64 r, .int .i64 t, .int .i64 l, .int .i64 ep, .int .i64 a] 38 (0, 0))) := by (refine Touch.below0 ?_; (repeat' (first | (with_reducible exact Touch.refl _ _) | (with_reducible assumption) | (with_reducible refine Touch.drew ?_) | (with_reducible refine Touch.drewN ?_ _) | (with_reducible refine Touch.alloc ?_ _) | (with_reducible refine Touch.setCell ?_ _ _ _ ?_) | (with_reducible refine Touch.step (by assumption) ?_) | (with_reducible refine Touch.stepT (by assumption) ?_ ?_) | (intro _; first | rfl | trivial | omega | (simp; done) | (simp; omega)) | (intro _ _; first | omega | (simp; done) | (simp; omega)))))
    go_enter Tryz.func207, Tryz.ntmps207
    go_wp2_with ((go_at_call 214; (with_reducible refine (hr _).mono ?_); rintro e w' ⟨rfl, hx⟩))
    go_ret3
    exact ⟨rfl, hw0.trans (hx.mono hw0.size)⟩
  · rw [hb] at hr
    have hsz : c.sized = true := by unfold CapS.right at hb; simp only [Bool.and_eq_true] at hb; exact hb.1
    have hpk := fun bn bv w => hpk bn bv w hsz
    have hbd := Lib.hid (CapS.sized_b hsz)
    clear hb hsz
    obtain ⟨W1, HW⟩ : ∃ x, Hid (c.w1 = x) := ⟨_, Lib.hid rfl⟩
    rw [HW.out] at hpk
    rw [HW.out]
    clear HW
    obtain ⟨k, r, t, l, ep, a⟩ := c
    unfold CapS.v at *
    dsimp only at *
    obtain ⟨⟨k0, k1⟩, ⟨r0, r1⟩, ⟨t0, t1⟩, ⟨l0, l1⟩, ⟨e0, e1⟩, ⟨a0, a1⟩⟩ := hbd.out
    have hw0 : Below w.heap.size w (w.alloc (.cells #[.int .i64 k, .int .i64 r, .int .i64 t, .int .i64 l, .int .i64 ep, .int .i64 a] 38 (0, 0))) := by (refine Touch.below0 ?_; (repeat' (first | (with_reducible exact Touch.refl _ _) | (with_reducible assumption) | (with_reducible refine Touch.drew ?_) | (with_reducible refine Touch.drewN ?_ _) | (with_reducible refine Touch.alloc ?_ _) | (with_reducible refine Touch.setCell ?_ _ _ _ ?_) | (with_reducible refine Touch.step (by assumption) ?_) | (with_reducible refine Touch.stepT (by assumption) ?_ ?_) | (intro _; first | rfl | trivial | omega | (simp; done) | (simp; omega)) | (intro _ _; first | omega | (simp; done) | (simp; omega)))))
    have h0 : (w.alloc (.cells #[.int .i64 k, .int .i64 r, .int .i64 t, .int .i64 l, .int .i64 ep, .int .i64 a] 38 (0, 0))).heap[w.heap.size]? = some (.cells #[.int .i64 k, .int .i64 r, .int .i64 t, .int .i64 l, .int .i64 ep, .int .i64 a] 38 (0, 0)) := heap_new w _
    go_enter Tryz.func207, Tryz.ntmps207
    go_upto_region 4 with ((go_at_call 214; (with_reducible refine (hr _).mono ?_); rintro e w' ⟨rfl, hx⟩); have hp := (hx.block _ (lt_of_block h0)).trans h0; have hwx := hw0.trans (hx.mono hw0.size))
    obtain ⟨A, hA⟩ : ∃ A, A = w'.heap.size := ⟨_, rfl⟩
    obtain ⟨wa, hwa⟩ : ∃ y : World, y = w'.alloc (.cells #[.int .u64 0, .int .u64 0, .int .u64 0, .int .u64 0, .int .u64 0] 338 (0, 0)) := ⟨_, rfl⟩
    rw [← hwa, ← hA]
    have hp2 : wa.heap[w.heap.size]? = some (.cells #[.int .i64 k, .int .i64 r, .int .i64 t, .int .i64 l, .int .i64 ep, .int .i64 a] 38 (0, 0)) := by rw [hwa]; exact heap_alloc hp _
    have hq2 : wa.heap[A]? = some (.cells #[.int .u64 0, .int .u64 0, .int .u64 0, .int .u64 0, .int .u64 0] 338 (0, 0)) := by rw [hwa]; exact heap_new' hA _
    have hwa2 : Below w.heap.size w wa := by rw [hwa]; exact hwx.alloc hwx.size _
    have hBA : w.heap.size < A := by rw [hA]; exact lt_of_block hp
    have hne : w.heap.size ≠ A := by omega
    clear hwa hA hx hp hwx h0 hw0 hr
    go_cut [] (fun wr => wr.heap[w.heap.size]? = some (.cells #[.int .i64 k, .int .i64 r, .int .i64 t, .int .i64 l, .int .i64 ep, .int .i64 a] 38 (0, 0)) ∧ wr.heap[A]? = some (.cells #[.int .u64 k, .int .u64 r, .int .u64 t, .int .u64 0, .int .u64 0] 338 (0, 0)) ∧ Below w.heap.size w wr)
    case first =>
      have wk := wrap_u64_small (x := k) (by omega) (by omega); have wr := wrap_u64_small (x := r) (by omega) (by omega); have wt := wrap_u64_small (x := t) (by omega) (by omega)
      have g0 := cell_of hp2 0; have g1 := cell_of hp2 1; have g2 := cell_of hp2 2
      have q0 := cell_of hq2 0; have q1 := cell_of hq2 1; have q2 := cell_of hq2 2
      have fq := frozen_of hq2
      dsimp at g0 g1 g2 q0 q1 q2
      go_region_held3 (fun y => y.cell? ⟨w.heap.size, 0, none⟩ = some (.int .i64 k) ∧ y.cell? ⟨w.heap.size, 1, none⟩ = some (.int .i64 r) ∧ y.cell? ⟨w.heap.size, 2, none⟩ = some (.int .i64 t)) ((simp only [cell_drew', cell_other hne]; exact ⟨g0, g1, g2⟩)) (fail)
      all_goals
        go_wp2
        go_meet
        exact ⟨heap_set_ne (heap_set_ne (heap_set_ne hp2 _ hne) _ hne) _ hne, heap_set (heap_set (heap_set hq2 _) _) _,
          (((hwa2.setCell (p := ⟨A, 0, none⟩) (Nat.le_of_lt hBA) _).setCell (p := ⟨A, 1, none⟩) (Nat.le_of_lt hBA) _).setCell (p := ⟨A, 2, none⟩) (Nat.le_of_lt hBA) _).drew⟩
    case rest =>
      obtain ⟨hp3, hq3, hwa3⟩ := hcut
      clear hp2 hq2 hwa2
      obtain ⟨wb, rfl⟩ : ∃ y : World, y = wc := ⟨_, rfl⟩
      go_upto_region 5 with (fail)
      go_cut [] (fun wr => wr.heap[w.heap.size]? = some (.cells #[.int .i64 k, .int .i64 r, .int .i64 t, .int .i64 l, .int .i64 ep, .int .i64 a] 38 (0, 0)) ∧ wr.heap[A]? = some (.cells #[.int .u64 k, .int .u64 r, .int .u64 t, .int .u64 l, .int .u64 ep] 338 (0, 0)) ∧ Below w.heap.size w wr)
      case first =>
        have wl := wrap_u64_small (x := l) (by omega) (by omega); have we := wrap_u64_small (x := ep) (by omega) (by omega)
        have g3 := cell_of hp3 3; have g4 := cell_of hp3 4
        have q3 := cell_of hq3 3; have q4 := cell_of hq3 4
        have fq := frozen_of hq3
        dsimp at g3 g4 q3 q4
        go_region_held3 (fun y => y.cell? ⟨w.heap.size, 3, none⟩ = some (.int .i64 l) ∧ y.cell? ⟨w.heap.size, 4, none⟩ = some (.int .i64 ep)) ((simp only [cell_drew', cell_other hne]; exact ⟨g3, g4⟩)) (fail)
        all_goals
          go_wp2
          go_meet
          exact ⟨heap_set_ne (heap_set_ne hp3 _ hne) _ hne, heap_set (heap_set hq3 _) _, ((hwa3.setCell (p := ⟨A, 3, none⟩) (Nat.le_of_lt hBA) _).setCell (p := ⟨A, 4, none⟩) (Nat.le_of_lt hBA) _).drew⟩
      case rest =>
        obtain ⟨hp4, hq4, hwa4⟩ := hcut
        clear hp3 hq3 hwa3
        obtain ⟨wd, rfl⟩ : ∃ y : World, y = wc := ⟨_, rfl⟩
        go_upto_region 7 with ((go_at_call 256; (with_reducible refine (cap_widths _).mono ?_); rintro e w' ⟨rfl, hx⟩))
        have hp5 : (w'.alloc (.cells #[.int .i64 4, .int .i64 5, .int .i64 6, .int .i64 6, .int .i64 16] 315 (0, 0))).heap[w.heap.size]? = some (.cells #[.int .i64 k, .int .i64 r, .int .i64 t, .int .i64 l, .int .i64 ep, .int .i64 a] 38 (0, 0)) := heap_alloc ((hx.block _ (lt_of_block hp4)).trans hp4) _
        have hq5 : (w'.alloc (.cells #[.int .i64 4, .int .i64 5, .int .i64 6, .int .i64 6, .int .i64 16] 315 (0, 0))).heap[A]? = some (.cells #[.int .u64 k, .int .u64 r, .int .u64 t, .int .u64 l, .int .u64 ep] 338 (0, 0)) := heap_alloc ((hx.block _ (lt_of_block hq4)).trans hq4) _
        have hn5 : (w'.alloc (.cells #[.int .i64 4, .int .i64 5, .int .i64 6, .int .i64 6, .int .i64 16] 315 (0, 0))).heap[w'.heap.size]? = some (.cells #[.int .i64 4, .int .i64 5, .int .i64 6, .int .i64 6, .int .i64 16] 315 (0, 0)) := heap_new _ _
        have hw4 := hwa4.trans (hx.mono hwa4.size)
        have hw5 := hw4.alloc hw4.size (.cells #[.int .i64 4, .int .i64 5, .int .i64 6, .int .i64 6, .int .i64 16] 315 (0, 0))
        generalize w'.alloc (.cells #[.int .i64 4, .int .i64 5, .int .i64 6, .int .i64 6, .int .i64 16] 315 (0, 0)) = w5 at *
        generalize w'.heap.size = N at *
        (refine wp_region_calm (by kernel_rfl) (by kernel_rfl) ?_; (repeat (go_big_quiet_step (((go_at_call 257; first | (with_reducible refine Calls.calm_of (hpk N A _ ((After.at _ hn5)) (After.at _ hq5))) | (with_reducible refine Calls.calm_of_same (hpk N A _ ((After.at _ hn5)) (After.at _ hq5)))))))); refine wpQuiet_nil ?_; intro _ hw'; obtain ⟨wq, hw''⟩ := hw'; subst hw''; obtain ⟨wq, hbq⟩ := wq; try dsimp only at *)
        have hp6 := (hbq.block _ (lt_of_block hp5)).trans hp5
        have hw6 := hw5.trans (hbq.mono hw5.size)
        obtain ⟨we, rfl⟩ : ∃ y : World, y = wq := ⟨_, rfl⟩
        have g5 := cell_of hp6 5
        have hl6 := lt_of_block hp6
        dsimp at g5
        have wa' := wrap_u64_small (x := a) (by omega) (by omega)
        go_upto_region 8 with (fail)
        (refine wp_region_calm (by kernel_rfl) (by kernel_rfl) ?_; (repeat (go_big_quiet_step ((fail)))); refine wpQuiet_nil ?_; intro _ hw'; obtain ⟨wq, hw''⟩ := hw'; subst hw''; obtain ⟨wq, hbq⟩ := wq; try dsimp only at *)
        go_wp2
        go_ret3
        exact ⟨rfl, hw6.trans (hbq.mono hw6.size)⟩
end Go.Proofs.YtmahledpcpdldaaGreat
/- Cap3 -/
set_option linter.unusedVariables false
set_option linter.unusedSimpArgs false
namespace Go.Proofs.YtmahledpcpdldaaGreat
open Go.RowKit

theorem wrap_i64_small {x : Int} (h0 : 0 ≤ x) (h1 : x < 9223372036854775808) : IntKind.i64.wrap x = x := by simp [IntKind.wrap, IntKind.bits, IntKind.signed]; omega
def CapS.zero : CapS := ⟨0, 0, 0, 0, 0, 0⟩
def CapS.ofW (v b : Int) : CapS := ⟨v % 16, v / 16 % 32, v / 512 % 64, v / 32768 % 64, v / 2097152 % 65536, b⟩
def okW (v b : Int) : Bool := decide (v < 137438953472) && decide (b ≤ 1073741824) && (CapS.ofW v b).right
def getC (v b : Int) : CapS := if okW v b then CapS.ofW v b else CapS.zero
def getE (v b : Int) : Int := if okW v b then 0 else 12
theorem CapS.w1_lt {c : CapS} (h : c.sized = true) : 0 ≤ c.w1 ∧ c.w1 < 137438953472 := by
  obtain ⟨h1, h2, h3, h4, h5, h6⟩ := CapS.sized_b h
  unfold CapS.w1; omega
theorem CapS.ofW_w1 {c : CapS} (h : c.sized = true) : CapS.ofW c.w1 c.a = c := by
  obtain ⟨h1, h2, h3, h4, h5, h6⟩ := CapS.sized_b h
  obtain ⟨k, r, t, l, e, a⟩ := c
  simp only [CapS.ofW, CapS.w1, CapS.mk.injEq]
  dsimp only at *
  refine ⟨?_, ?_, ?_, ?_, ?_, trivial⟩ <;> omega
theorem CapS.right_sized {c : CapS} (h : c.right = true) : c.sized = true := by unfold CapS.right at h; simp only [Bool.and_eq_true] at h; exact h.1
theorem getC_put {c : CapS} (h : c.right = true) : getC c.w1 c.a = c ∧ getE c.w1 c.a = 0 := by
  have hs := CapS.right_sized h
  obtain ⟨h1, h2, h3, h4, h5, h6⟩ := CapS.sized_b hs
  have e : okW c.w1 c.a = true := by
    unfold okW; rw [CapS.ofW_w1 hs, h, decide_eq_true (CapS.w1_lt hs).2, decide_eq_true (show c.a ≤ 1073741824 by omega)]; rfl
  unfold getC getE
  rw [e]
  exact ⟨CapS.ofW_w1 hs, rfl⟩

theorem cap_unpack_no (v : Int) (bn : Nat) (w : World) (h0 : 0 ≤ v) (h1 : v < 18446744073709551616) (hv : 137438953472 ≤ v) (hn : w.heap[bn]? = some (.cells #[.int .i64 4, .int .i64 5, .int .i64 6, .int .i64 6, .int .i64 16] 315 (0, 0))) :
    Calls Tryz.prog 277 #[.slice (some ⟨bn, 0, none⟩) 5 5, .int .u64 v] w fun e w' => e = .returned (.tuple #[.slice none 0 0, .int .i64 1]) ∧ Below w.heap.size w w' := by
  refine (cap_unpack v bn w h0 h1 hn).mono ?_
  rintro e w' ⟨hb, ⟨h, _⟩ | ⟨_, rfl⟩⟩
  · exact absurd h (by omega)
  · exact ⟨rfl, hb⟩
theorem cap_unpack_yes (v : Int) (bn : Nat) (w : World) (h0 : 0 ≤ v) (h1 : v < 18446744073709551616) (hv : v < 137438953472) (hn : w.heap[bn]? = some (.cells #[.int .i64 4, .int .i64 5, .int .i64 6, .int .i64 6, .int .i64 16] 315 (0, 0))) :
    Calls Tryz.prog 277 #[.slice (some ⟨bn, 0, none⟩) 5 5, .int .u64 v] w fun e w' => ∃ g cap, e = .returned (.tuple #[.slice (some ⟨g, 0, none⟩) 5 cap, .int .i64 0]) ∧ Below w.heap.size w w' ∧ w'.cell? ⟨g, 0, none⟩ = some (.int .u64 (v % 16)) ∧ w'.cell? ⟨g, 1, none⟩ = some (.int .u64 (v / 16 % 32)) ∧
        w'.cell? ⟨g, 2, none⟩ = some (.int .u64 (v / 512 % 64)) ∧ w'.cell? ⟨g, 3, none⟩ = some (.int .u64 (v / 32768 % 64)) ∧ w'.cell? ⟨g, 4, none⟩ = some (.int .u64 (v / 2097152 % 65536)) := by
  refine (cap_unpack v bn w h0 h1 hn).mono ?_
  rintro e w' ⟨hb, ⟨_, g, cap, he, _, hc⟩ | ⟨h, _⟩⟩
  · exact ⟨g, cap, he, hb, hc⟩
  · exact absurd hv h
set_option maxHeartbeats 4000000 in
set_option maxRecDepth 100000 in
theorem cap_get (v b : Int) (w : World) (h0 : 0 ≤ v) (h1 : v < 18446744073709551616) (b0 : 0 ≤ b) (b1 : b < 18446744073709551616) : Calls Tryz.prog 255 #[.int .u64 v, .int .u64 b] w fun e w' => e = .returned (.tuple #[(getC v b).v, .int .i64 (getE v b)]) ∧ Below w.heap.size w w' := by
  by_cases hv : v < 137438953472
  · by_cases hb : b ≤ 1073741824
    · have hA : getC v b = (if (CapS.ofW v b).right then CapS.ofW v b else CapS.zero) ∧ getE v b = (if (CapS.ofW v b).right then 0 else 12) := by
        unfold getC getE okW; rw [decide_eq_true hv, decide_eq_true hb]; simp
      rw [hA.1, hA.2]
      clear hA
      have hr := cap_right (CapS.ofW v b)
      unfold CapS.ofW CapS.v at hr
      dsimp only at hr
      generalize hcr : (CapS.ofW v b).right = cr at *
      have hcr2 : CapS.right ⟨v % 16, v / 16 % 32, v / 512 % 64, v / 32768 % 64, v / 2097152 % 65536, b⟩ = cr := hcr
      rw [hcr2] at hr
      clear hcr hcr2
      have hw0 : Below w.heap.size w (w.alloc (.cells #[.int .i64 0, .int .i64 0, .int .i64 0, .int .i64 0, .int .i64 0, .int .i64 0] 38 (0, 0))) := by (refine Touch.below0 ?_; (repeat' (first | (with_reducible exact Touch.refl _ _) | (with_reducible assumption) | (with_reducible refine Touch.drew ?_) | (with_reducible refine Touch.drewN ?_ _) | (with_reducible refine Touch.alloc ?_ _) | (with_reducible refine Touch.setCell ?_ _ _ _ ?_) | (with_reducible refine Touch.step (by assumption) ?_) | (with_reducible refine Touch.stepT (by assumption) ?_ ?_) | (intro _; first | rfl | trivial | omega | (simp; done) | (simp; omega)) | (intro _ _; first | omega | (simp; done) | (simp; omega)))))
      have hR : (w.alloc (.cells #[.int .i64 0, .int .i64 0, .int .i64 0, .int .i64 0, .int .i64 0, .int .i64 0] 38 (0, 0))).heap[w.heap.size]? = some (.cells #[.int .i64 0, .int .i64 0, .int .i64 0, .int .i64 0, .int .i64 0, .int .i64 0] 38 (0, 0)) := heap_new _ _
      go_enter Tryz.func255, Tryz.ntmps255
      go_upto_region 2 with ((go_at_call 256; (with_reducible refine (cap_widths _).mono ?_); rintro e w' ⟨rfl, hx⟩))
      have hR2 : (w'.alloc (.cells #[.int .i64 4, .int .i64 5, .int .i64 6, .int .i64 6, .int .i64 16] 315 (0, 0))).heap[w.heap.size]? = _ := heap_alloc ((hx.block _ (lt_of_block hR)).trans hR) _
      have hN : (w'.alloc (.cells #[.int .i64 4, .int .i64 5, .int .i64 6, .int .i64 6, .int .i64 16] 315 (0, 0))).heap[w'.heap.size]? = some (.cells #[.int .i64 4, .int .i64 5, .int .i64 6, .int .i64 6, .int .i64 16] 315 (0, 0)) := heap_new _ _
      have hw1 := hw0.trans (hx.mono hw0.size)
      have hw2 := hw1.alloc hw1.size (.cells #[.int .i64 4, .int .i64 5, .int .i64 6, .int .i64 6, .int .i64 16] 315 (0, 0))
      generalize w'.alloc (.cells #[.int .i64 4, .int .i64 5, .int .i64 6, .int .i64 6, .int .i64 16] 315 (0, 0)) = w2 at *
      generalize w'.heap.size = N at *
      go_upto_region 5 with ((go_at_call 277; (with_reducible refine (cap_unpack_yes v N _ h0 h1 hv hN).mono ?_); rintro e w' ⟨g, cap, rfl, hb3, q0, q1, q2, q3, q4⟩); have hR3 := (hb3.block _ (lt_of_block hR2)).trans hR2; have g0 := cell_of hR3 0; have g1 := cell_of hR3 1; have g2 := cell_of hR3 2; have g3 := cell_of hR3 3; have g4 := cell_of hR3 4; have g5 := cell_of hR3 5; have fr := frozen_of hR3; dsimp at g0 g1 g2 g3 g4 g5)
      obtain ⟨w3, rfl⟩ : ∃ y : World, y = w' := ⟨_, rfl⟩
      have hw3 := hw2.trans (hb3.mono hw2.size)
      have hg : g < w3.heap.size := lt_of_cell (a := ⟨g, 0, none⟩) q0
      have hgB : g ≠ w3.heap.size := by omega
      have P : ∀ obj o, (w3.alloc obj).cell? ⟨g, o, none⟩ = w3.cell? ⟨g, o, none⟩ := fun obj o => ((Below.refl w3.heap.size w3).alloc (Nat.le_refl _) obj).cell (p := ⟨g, o, none⟩) hg
      have v0 := wrap_i64_small (x := v % 16) (by omega) (by omega); have v1 := wrap_i64_small (x := v / 16 % 32) (by omega) (by omega); have v2 := wrap_i64_small (x := v / 512 % 64) (by omega) (by omega)
      have v3 := wrap_i64_small (x := v / 32768 % 64) (by omega) (by omega); have v4 := wrap_i64_small (x := v / 2097152 % 65536) (by omega) (by omega); have v5 := wrap_i64_small (x := b) (by omega) (by omega)
      have hwB : w.heap.size < w3.heap.size := lt_of_block hR3
      clear hR hR2 hw0 hw1 hw2 hx hN hb3
      go_cut [9] (fun x wr => ∃ C, x = .pointer (some ⟨C, 0, none⟩) ∧ wr.heap[C]? = some (.cells #[.int .i64 (v % 16), .int .i64 (v / 16 % 32), .int .i64 (v / 512 % 64), .int .i64 (v / 32768 % 64), .int .i64 (v / 2097152 % 65536), .int .i64 b] 38 (0, 0)) ∧ wr.heap[w.heap.size]? = some (.cells #[.int .i64 0, .int .i64 0, .int .i64 0, .int .i64 0, .int .i64 0, .int .i64 0] 38 (0, 0)) ∧ Below w.heap.size w wr)
      case first =>
        go_region_held3 (fun y => y.cell? ⟨g, 0, none⟩ = some (.int .u64 (v % 16)) ∧ y.cell? ⟨g, 1, none⟩ = some (.int .u64 (v / 16 % 32)) ∧ y.cell? ⟨g, 2, none⟩ = some (.int .u64 (v / 512 % 64)) ∧ y.cell? ⟨g, 3, none⟩ = some (.int .u64 (v / 32768 % 64)) ∧ y.cell? ⟨g, 4, none⟩ = some (.int .u64 (v / 2097152 % 65536))) ((simp only [cell_drew', cell_other hgB]; first | exact ⟨q0, q1, q2, q3, q4⟩ | exact ⟨(P _ _).trans q0, (P _ _).trans q1, (P _ _).trans q2, (P _ _).trans q3, (P _ _).trans q4⟩)) (fail)
        all_goals
          go_wp2
          go_meet
          exact ⟨w3.heap.size, rfl, heap_new _ _, heap_alloc hR3 _, (hw3.alloc hw3.size _).drew⟩
      case rest =>
        obtain ⟨C, rfl, hC, hR5, hw5⟩ := hcut
        have d0 := cell_of hC 0; have d1 := cell_of hC 1; have d2 := cell_of hC 2; have d3 := cell_of hC 3; have d4 := cell_of hC 4; have d5 := cell_of hC 5
        dsimp at d0 d1 d2 d3 d4 d5
        clear g0 g1 g2 g3 g4 g5 fr hR3
        cases cr
        · go_wp2_with ((go_at_call 214; (with_reducible refine (hr _).mono ?_); rintro e w' ⟨rfl, hb3⟩); have hR2 := hR5; have hR3 := (hb3.block _ (lt_of_block hR2)).trans hR2; have g0 := cell_of hR3 0; have g1 := cell_of hR3 1; have g2 := cell_of hR3 2; have g3 := cell_of hR3 3; have g4 := cell_of hR3 4; have g5 := cell_of hR3 5; have fr := frozen_of hR3; dsimp at g0 g1 g2 g3 g4 g5)
          have hw2 := hw5; have hR2 := hR5
          have hF := heap_set (o := 5) (heap_set (o := 4) (heap_set (o := 3) (heap_set (o := 2) (heap_set (o := 1) (heap_set (o := 0) hR3 (.int .i64 0)) (.int .i64 0)) (.int .i64 0)) (.int .i64 0)) (.int .i64 0)) (.int .i64 0)
          have hw3 := hw2.trans (hb3.mono hw2.size)
          refine bodyPost_ret (v := .tuple #[CapS.zero.v, .int .i64 12]) ?_ rfl ⟨rfl, ?_⟩
          · have hc := cell_of hF
            simp [results, Tryz.f255, go_sem, hc, CapS.zero, CapS.v]
          · exact (((((hw3.setCell (p := ⟨w.heap.size, 0, none⟩) (Nat.le_refl _) _).setCell (p := ⟨w.heap.size, 1, none⟩) (Nat.le_refl _) _).setCell (p := ⟨w.heap.size, 2, none⟩) (Nat.le_refl _) _).setCell (p := ⟨w.heap.size, 3, none⟩) (Nat.le_refl _) _).setCell (p := ⟨w.heap.size, 4, none⟩) (Nat.le_refl _) _).setCell (p := ⟨w.heap.size, 5, none⟩) (Nat.le_refl _) _
        · go_wp2_with ((go_at_call 214; (with_reducible refine (hr _).mono ?_); rintro e w' ⟨rfl, hb3⟩); have hR2 := hR5; have hR3 := (hb3.block _ (lt_of_block hR2)).trans hR2; have g0 := cell_of hR3 0; have g1 := cell_of hR3 1; have g2 := cell_of hR3 2; have g3 := cell_of hR3 3; have g4 := cell_of hR3 4; have g5 := cell_of hR3 5; have fr := frozen_of hR3; dsimp at g0 g1 g2 g3 g4 g5; have hC3 := (hb3.block _ (lt_of_block hC)).trans hC; have d0 := cell_of hC3 0; have d1 := cell_of hC3 1; have d2 := cell_of hC3 2; have d3 := cell_of hC3 3; have d4 := cell_of hC3 4; have d5 := cell_of hC3 5; dsimp at d0 d1 d2 d3 d4 d5)
          have hF := heap_set (o := 5) (heap_set (o := 4) (heap_set (o := 3) (heap_set (o := 2) (heap_set (o := 1) (heap_set (o := 0) hR3 (.int .i64 (v % 16))) (.int .i64 (v / 16 % 32))) (.int .i64 (v / 512 % 64))) (.int .i64 (v / 32768 % 64))) (.int .i64 (v / 2097152 % 65536))) (.int .i64 b)
          have hw3 := hw5.trans (hb3.mono hw5.size)
          refine bodyPost_ret (v := .tuple #[(CapS.ofW v b).v, .int .i64 0]) ?_ rfl ⟨rfl, ?_⟩
          · have hc := cell_of hF
            simp [results, Tryz.f255, go_sem, hc, CapS.ofW, CapS.v]
          · exact (((((hw3.setCell (p := ⟨w.heap.size, 0, none⟩) (Nat.le_refl _) _).setCell (p := ⟨w.heap.size, 1, none⟩) (Nat.le_refl _) _).setCell (p := ⟨w.heap.size, 2, none⟩) (Nat.le_refl _) _).setCell (p := ⟨w.heap.size, 3, none⟩) (Nat.le_refl _) _).setCell (p := ⟨w.heap.size, 4, none⟩) (Nat.le_refl _) _).setCell (p := ⟨w.heap.size, 5, none⟩) (Nat.le_refl _) _
    · have e : okW v b = false := by unfold okW; rw [decide_eq_false hb]; simp
      have ec : getC v b = CapS.zero := by unfold getC; rw [e]; rfl
      have ee : getE v b = 12 := by unfold getE; rw [e]; rfl
      rw [ec, ee]
      clear ec ee e
      have HB : 1073741824 < b := by omega
      clear hb
      have hw0 : Below w.heap.size w (w.alloc (.cells #[.int .i64 0, .int .i64 0, .int .i64 0, .int .i64 0, .int .i64 0, .int .i64 0] 38 (0, 0))) := by (refine Touch.below0 ?_; (repeat' (first | (with_reducible exact Touch.refl _ _) | (with_reducible assumption) | (with_reducible refine Touch.drew ?_) | (with_reducible refine Touch.drewN ?_ _) | (with_reducible refine Touch.alloc ?_ _) | (with_reducible refine Touch.setCell ?_ _ _ _ ?_) | (with_reducible refine Touch.step (by assumption) ?_) | (with_reducible refine Touch.stepT (by assumption) ?_ ?_) | (intro _; first | rfl | trivial | omega | (simp; done) | (simp; omega)) | (intro _ _; first | omega | (simp; done) | (simp; omega)))))
      have hR : (w.alloc (.cells #[.int .i64 0, .int .i64 0, .int .i64 0, .int .i64 0, .int .i64 0, .int .i64 0] 38 (0, 0))).heap[w.heap.size]? = some (.cells #[.int .i64 0, .int .i64 0, .int .i64 0, .int .i64 0, .int .i64 0, .int .i64 0] 38 (0, 0)) := heap_new _ _
      go_enter Tryz.func255, Tryz.ntmps255
      go_upto_region 2 with ((go_at_call 256; (with_reducible refine (cap_widths _).mono ?_); rintro e w' ⟨rfl, hx⟩))
      have hR2 : (w'.alloc (.cells #[.int .i64 4, .int .i64 5, .int .i64 6, .int .i64 6, .int .i64 16] 315 (0, 0))).heap[w.heap.size]? = _ := heap_alloc ((hx.block _ (lt_of_block hR)).trans hR) _
      have hN : (w'.alloc (.cells #[.int .i64 4, .int .i64 5, .int .i64 6, .int .i64 6, .int .i64 16] 315 (0, 0))).heap[w'.heap.size]? = some (.cells #[.int .i64 4, .int .i64 5, .int .i64 6, .int .i64 6, .int .i64 16] 315 (0, 0)) := heap_new _ _
      have hw1 := hw0.trans (hx.mono hw0.size)
      have hw2 := hw1.alloc hw1.size (.cells #[.int .i64 4, .int .i64 5, .int .i64 6, .int .i64 6, .int .i64 16] 315 (0, 0))
      generalize w'.alloc (.cells #[.int .i64 4, .int .i64 5, .int .i64 6, .int .i64 6, .int .i64 16] 315 (0, 0)) = w2 at *
      generalize w'.heap.size = N at *
      go_wp2_with ((go_at_call 277; (with_reducible refine (cap_unpack_yes v N _ h0 h1 hv hN).mono ?_); rintro e w' ⟨g, cap, rfl, hb3, q0, q1, q2, q3, q4⟩); have hR3 := (hb3.block _ (lt_of_block hR2)).trans hR2; have g0 := cell_of hR3 0; have g1 := cell_of hR3 1; have g2 := cell_of hR3 2; have g3 := cell_of hR3 3; have g4 := cell_of hR3 4; have g5 := cell_of hR3 5; have fr := frozen_of hR3; dsimp at g0 g1 g2 g3 g4 g5)
      have hF := heap_set (o := 5) (heap_set (o := 4) (heap_set (o := 3) (heap_set (o := 2) (heap_set (o := 1) (heap_set (o := 0) hR3 (.int .i64 0)) (.int .i64 0)) (.int .i64 0)) (.int .i64 0)) (.int .i64 0)) (.int .i64 0)
      have hw3 := hw2.trans (hb3.mono hw2.size)
      refine bodyPost_ret (v := .tuple #[CapS.zero.v, .int .i64 12]) ?_ rfl ⟨rfl, ?_⟩
      · have hc := cell_of hF
        simp [results, Tryz.f255, go_sem, hc, CapS.zero, CapS.v]
      · exact (((((hw3.setCell (p := ⟨w.heap.size, 0, none⟩) (Nat.le_refl _) _).setCell (p := ⟨w.heap.size, 1, none⟩) (Nat.le_refl _) _).setCell (p := ⟨w.heap.size, 2, none⟩) (Nat.le_refl _) _).setCell (p := ⟨w.heap.size, 3, none⟩) (Nat.le_refl _) _).setCell (p := ⟨w.heap.size, 4, none⟩) (Nat.le_refl _) _).setCell (p := ⟨w.heap.size, 5, none⟩) (Nat.le_refl _) _
  · have e : okW v b = false := by unfold okW; rw [decide_eq_false hv]; simp
    have ec : getC v b = CapS.zero := by unfold getC; rw [e]; rfl
    have ee : getE v b = 12 := by unfold getE; rw [e]; rfl
    rw [ec, ee]
    clear ec ee e
    have HV : 137438953472 ≤ v := by omega
    clear hv
    have hw0 : Below w.heap.size w (w.alloc (.cells #[.int .i64 0, .int .i64 0, .int .i64 0, .int .i64 0, .int .i64 0, .int .i64 0] 38 (0, 0))) := by (refine Touch.below0 ?_; (repeat' (first | (with_reducible exact Touch.refl _ _) | (with_reducible assumption) | (with_reducible refine Touch.drew ?_) | (with_reducible refine Touch.drewN ?_ _) | (with_reducible refine Touch.alloc ?_ _) | (with_reducible refine Touch.setCell ?_ _ _ _ ?_) | (with_reducible refine Touch.step (by assumption) ?_) | (with_reducible refine Touch.stepT (by assumption) ?_ ?_) | (intro _; first | rfl | trivial | omega | (simp; done) | (simp; omega)) | (intro _ _; first | omega | (simp; done) | (simp; omega)))))
    have hR : (w.alloc (.cells #[.int .i64 0, .int .i64 0, .int .i64 0, .int .i64 0, .int .i64 0, .int .i64 0] 38 (0, 0))).heap[w.heap.size]? = some (.cells #[.int .i64 0, .int .i64 0, .int .i64 0, .int .i64 0, .int .i64 0, .int .i64 0] 38 (0, 0)) := heap_new _ _
    go_enter Tryz.func255, Tryz.ntmps255
    go_upto_region 2 with ((go_at_call 256; (with_reducible refine (cap_widths _).mono ?_); rintro e w' ⟨rfl, hx⟩))
    have hR2 : (w'.alloc (.cells #[.int .i64 4, .int .i64 5, .int .i64 6, .int .i64 6, .int .i64 16] 315 (0, 0))).heap[w.heap.size]? = _ := heap_alloc ((hx.block _ (lt_of_block hR)).trans hR) _
    have hN : (w'.alloc (.cells #[.int .i64 4, .int .i64 5, .int .i64 6, .int .i64 6, .int .i64 16] 315 (0, 0))).heap[w'.heap.size]? = some (.cells #[.int .i64 4, .int .i64 5, .int .i64 6, .int .i64 6, .int .i64 16] 315 (0, 0)) := heap_new _ _
    have hw1 := hw0.trans (hx.mono hw0.size)
    have hw2 := hw1.alloc hw1.size (.cells #[.int .i64 4, .int .i64 5, .int .i64 6, .int .i64 6, .int .i64 16] 315 (0, 0))
    generalize w'.alloc (.cells #[.int .i64 4, .int .i64 5, .int .i64 6, .int .i64 6, .int .i64 16] 315 (0, 0)) = w2 at *
    generalize w'.heap.size = N at *
    go_wp2_with ((go_at_call 277; (with_reducible refine (cap_unpack_no v N _ h0 h1 HV hN).mono ?_); rintro e w' ⟨rfl, hb3⟩); have hR3 := (hb3.block _ (lt_of_block hR2)).trans hR2; have g0 := cell_of hR3 0; have g1 := cell_of hR3 1; have g2 := cell_of hR3 2; have g3 := cell_of hR3 3; have g4 := cell_of hR3 4; have g5 := cell_of hR3 5; have fr := frozen_of hR3; dsimp at g0 g1 g2 g3 g4 g5)
    have hF := heap_set (o := 5) (heap_set (o := 4) (heap_set (o := 3) (heap_set (o := 2) (heap_set (o := 1) (heap_set (o := 0) hR3 (.int .i64 0)) (.int .i64 0)) (.int .i64 0)) (.int .i64 0)) (.int .i64 0)) (.int .i64 0)
    have hw3 := hw2.trans (hb3.mono hw2.size)
    refine bodyPost_ret (v := .tuple #[CapS.zero.v, .int .i64 12]) ?_ rfl ⟨rfl, ?_⟩
    · have hc := cell_of hF
      simp [results, Tryz.f255, go_sem, hc, CapS.zero, CapS.v]
    · exact (((((hw3.setCell (p := ⟨w.heap.size, 0, none⟩) (Nat.le_refl _) _).setCell (p := ⟨w.heap.size, 1, none⟩) (Nat.le_refl _) _).setCell (p := ⟨w.heap.size, 2, none⟩) (Nat.le_refl _) _).setCell (p := ⟨w.heap.size, 3, none⟩) (Nat.le_refl _) _).setCell (p := ⟨w.heap.size, 4, none⟩) (Nat.le_refl _) _).setCell (p := ⟨w.heap.size, 5, none⟩) (Nat.le_refl _) _
end Go.Proofs.YtmahledpcpdldaaGreat
