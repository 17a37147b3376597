/- Several texts in one: Head, Head2, Head3, Head4. -/
import Derived.Test.YtmahledpcpdldaaGreatGSlot
/- Head -/
set_option linter.unusedVariables false
set_option linter.unusedSimpArgs false
namespace Go.Proofs.YtmahledpcpdldaaGreat
open Go.RowKit

structure HeadS where
  k : Int
  lv : Int
  fz : Bool
  tm : Int
def HeadS.v (h : HeadS) : Value := .agg #[.int .i64 h.k, .int .i64 h.lv, .bool h.fz, .int .i64 h.tm]
def HeadS.right (h : HeadS) : Bool := decide (0 ≤ h.k) && decide (h.k ≤ 6) && decide (0 ≤ h.lv) && decide (h.lv ≤ 1) && decide (0 ≤ h.tm) && decide (h.tm ≤ 1073741824) &&
  !(decide (h.lv = 1) && !(decide (h.k = 1) || decide (h.k = 2))) && (if h.fz then decide (h.k = 1) else decide (h.tm = 0))
def HeadS.w0 (h : HeadS) : Int := h.k + h.lv * 16 + (if h.fz then 32 else 0)
theorem HeadS.bounds {h : HeadS} (hr : h.right = true) : (0 ≤ h.k ∧ h.k ≤ 6) ∧ (0 ≤ h.lv ∧ h.lv ≤ 1) ∧ (0 ≤ h.tm ∧ h.tm ≤ 1073741824) := by
  simp [HeadS.right] at hr; omega
theorem head_widths (w : World) : Calls Tryz.prog 278 #[] w fun e w' => e = .returned (.slice (some ⟨w.heap.size, 0, none⟩) 3 3) ∧ w' = w.alloc (.cells #[.int .i64 4, .int .i64 1, .int .i64 1] 3 (0, 0)) := by
  go_enter Tryz.func278, Tryz.ntmps278
  go_wp2
  go_ret
  exact ⟨rfl, rfl⟩
theorem head_tabled (k : Int) (w : World) : Calls Tryz.prog 254 #[.int .i64 k] w fun e w' => e = .returned (.bool (decide (k = 1) || decide (k = 2))) ∧ w = w' := by
  by_cases h : k = 1
  · subst h
    go_enter Tryz.func254, Tryz.ntmps254
    go_wp2
    go_ret
    exact ⟨rfl, rfl⟩
  · go_enter Tryz.func254, Tryz.ntmps254
    go_wp2
    go_ret
    exact ⟨ret_bool (by rw [Bool.eq_iff_iff]; simp [h]), rfl⟩
set_option maxHeartbeats 4000000 in
theorem head_right (h : HeadS) (w : World) : Calls Tryz.prog 203 #[h.v] w fun e w' => e = .returned (.bool h.right) ∧ Below w.heap.size w w' := by
  obtain ⟨k, lv, fz, tm⟩ := h
  unfold HeadS.v HeadS.right
  dsimp only
  by_cases b : k < 0 ∨ 6 < k ∨ lv < 0 ∨ 1 < lv ∨ tm < 0 ∨ 1073741824 < tm
  · have e : (decide (0 ≤ k) && decide (k ≤ 6) && decide (0 ≤ lv) && decide (lv ≤ 1) && decide (0 ≤ tm) && decide (tm ≤ 1073741824) && !(decide (lv = 1) && !(decide (k = 1) || decide (k = 2))) && (if fz then decide (k = 1) else decide (tm = 0))) = false := by
      rw [Bool.eq_false_iff]; intro h; simp at h; omega
    rw [e]
    clear e
    rcases b with b | b | b | b | b | b
    all_goals
      go_enter Tryz.func203, Tryz.ntmps203
      go_wp2
      all_goals
        go_ret
        exact ⟨rfl, by (refine Touch.below0 ?_; (repeat' (first | (with_reducible exact Touch.refl _ _) | (with_reducible assumption) | (with_reducible refine Touch.drew ?_) | (with_reducible refine Touch.drewN ?_ _) | (with_reducible refine Touch.alloc ?_ _) | (with_reducible refine Touch.setCell ?_ _ _ _ ?_) | (with_reducible refine Touch.step (by assumption) ?_) | (with_reducible refine Touch.stepT (by assumption) ?_ ?_) | (intro _; first | rfl | trivial | omega | (simp; done) | (simp; omega)) | (intro _ _; first | omega | (simp; done) | (simp; omega)))))⟩
  · have c1 : 0 ≤ k := by omega
    have c2 : k ≤ 6 := by omega
    have c3 : 0 ≤ lv := by omega
    have c4 : lv ≤ 1 := by omega
    have c5 : 0 ≤ tm := by omega
    have c6 : tm ≤ 1073741824 := by omega
    have e : (decide (0 ≤ k) && decide (k ≤ 6) && decide (0 ≤ lv) && decide (lv ≤ 1) && decide (0 ≤ tm) && decide (tm ≤ 1073741824) && !(decide (lv = 1) && !(decide (k = 1) || decide (k = 2))) && (if fz then decide (k = 1) else decide (tm = 0))) = (!(decide (lv = 1) && !(decide (k = 1) || decide (k = 2))) && (if fz then decide (k = 1) else decide (tm = 0))) := by
      simp [c1, c2, c3, c4, c5, c6]
    rw [e]
    clear e b
    by_cases h1 : lv = 1
    · subst h1
      by_cases h2 : (decide (k = 1) || decide (k = 2)) = true
      · have H2 := Lib.hid h2
        have e : (!(decide ((1 : Int) = 1) && !(decide (k = 1) || decide (k = 2))) && (if fz then decide (k = 1) else decide (tm = 0))) = (if fz then decide (k = 1) else decide (tm = 0)) := by rw [h2]; simp
        rw [e]
        clear h2 e
        cases fz
        all_goals
          go_enter Tryz.func203, Tryz.ntmps203
          go_wp2_with ((go_at_call 254; (with_reducible refine (head_tabled _ _).mono ?_); rintro e w' ⟨rfl, rfl⟩); rw [H2.out])
          go_ret
          exact ⟨ret_bool (by rw [Bool.eq_iff_iff]; simp), by (refine Touch.below0 ?_; (repeat' (first | (with_reducible exact Touch.refl _ _) | (with_reducible assumption) | (with_reducible refine Touch.drew ?_) | (with_reducible refine Touch.drewN ?_ _) | (with_reducible refine Touch.alloc ?_ _) | (with_reducible refine Touch.setCell ?_ _ _ _ ?_) | (with_reducible refine Touch.step (by assumption) ?_) | (with_reducible refine Touch.stepT (by assumption) ?_ ?_) | (intro _; first | rfl | trivial | omega | (simp; done) | (simp; omega)) | (intro _ _; first | omega | (simp; done) | (simp; omega)))))⟩
      · have h2' : (decide (k = 1) || decide (k = 2)) = false := by simpa using h2
        have H2 := Lib.hid h2'
        have e : (!(decide ((1 : Int) = 1) && !(decide (k = 1) || decide (k = 2))) && (if fz then decide (k = 1) else decide (tm = 0))) = false := by rw [h2']; simp
        rw [e]
        clear h2 h2' e
        go_enter Tryz.func203, Tryz.ntmps203
        go_wp2_with ((go_at_call 254; (with_reducible refine (head_tabled _ _).mono ?_); rintro e w' ⟨rfl, rfl⟩); rw [H2.out])
        go_ret
        exact ⟨rfl, by (refine Touch.below0 ?_; (repeat' (first | (with_reducible exact Touch.refl _ _) | (with_reducible assumption) | (with_reducible refine Touch.drew ?_) | (with_reducible refine Touch.drewN ?_ _) | (with_reducible refine Touch.alloc ?_ _) | (with_reducible refine Touch.setCell ?_ _ _ _ ?_) | (with_reducible refine Touch.step (by assumption) ?_) | (with_reducible refine Touch.stepT (by assumption) ?_ ?_) | (intro _; first | rfl | trivial | omega | (simp; done) | (simp; omega)) | (intro _ _; first | omega | (simp; done) | (simp; omega)))))⟩
    · have e : (!(decide (lv = 1) && !(decide (k = 1) || decide (k = 2))) && (if fz then decide (k = 1) else decide (tm = 0))) = (if fz then decide (k = 1) else decide (tm = 0)) := by simp [h1]
      rw [e]
      clear e
      cases fz
      all_goals
        go_enter Tryz.func203, Tryz.ntmps203
        go_wp2
        go_ret
        exact ⟨ret_bool (by rw [Bool.eq_iff_iff]; simp), by (refine Touch.below0 ?_; (repeat' (first | (with_reducible exact Touch.refl _ _) | (with_reducible assumption) | (with_reducible refine Touch.drew ?_) | (with_reducible refine Touch.drewN ?_ _) | (with_reducible refine Touch.alloc ?_ _) | (with_reducible refine Touch.setCell ?_ _ _ _ ?_) | (with_reducible refine Touch.step (by assumption) ?_) | (with_reducible refine Touch.stepT (by assumption) ?_ ?_) | (intro _; first | rfl | trivial | omega | (simp; done) | (simp; omega)) | (intro _ _; first | omega | (simp; done) | (simp; omega)))))⟩
end Go.Proofs.YtmahledpcpdldaaGreat
/- Head2 -/
set_option linter.unusedVariables false
set_option linter.unusedSimpArgs false
namespace Go.Proofs.YtmahledpcpdldaaGreat
open Go.RowKit

def frz (b : Bool) : Int := if b then 1 else 0
def HeadS.vs (h : HeadS) : List Int := [h.k, h.lv, frz h.fz]
theorem frz_b (b : Bool) : 0 ≤ frz b ∧ frz b < 2 := by cases b <;> simp [frz]
theorem head_fits {h : HeadS} (hr : h.right = true) : ∀ x, fitAt headNs h.vs x = true := by
  obtain ⟨h1, h2, h3⟩ := HeadS.bounds hr
  have h4 := frz_b h.fz
  intro x
  match x with
  | ⟨0, _⟩ => simp [fitAt, fitsB, headNs, HeadS.vs]; omega
  | ⟨1, _⟩ => simp [fitAt, fitsB, headNs, HeadS.vs]; omega
  | ⟨2, _⟩ => simp [fitAt, fitsB, headNs, HeadS.vs]; omega
theorem head_packL {h : HeadS} (hr : h.right = true) : packL headNs h.vs (List.finRange headNs.length) = h.w0 := by
  obtain ⟨h1, h2, h3⟩ := HeadS.bounds hr
  have h4 := frz_b h.fz
  show bits .or .u64 (bits .or .u64 (bits .or .u64 0 (IntKind.u64.wrap (h.k * 2 ^ 0))) (IntKind.u64.wrap (h.lv * 2 ^ 4))) (IntKind.u64.wrap (frz h.fz * 2 ^ 5)) = _
  rw [or_add (acc := 0) (by omega) (by omega) (by omega) (by omega) (by omega), or_add (o := 4) (by omega) (by omega) (by omega) (by omega) (by omega), or_add (o := 5) (by omega) (by omega) (by omega) (by omega) (by omega)]
  unfold HeadS.w0
  cases h.fz <;> simp [frz]
theorem head_parts {v : Int} (h0 : 0 ≤ v) (h1 : v < 18446744073709551616) : partsI headNs v = [v % 16, v / 16 % 2, v / 32 % 2] := by
  show [bits .and .u64 (v / 2 ^ 0) ((2 ^ 4 - 1 : Nat) : Int), bits .and .u64 (v / 2 ^ 4) ((2 ^ 1 - 1 : Nat) : Int), bits .and .u64 (v / 2 ^ 5) ((2 ^ 1 - 1 : Nat) : Int)] = _
  rw [and_mask (by omega) (by omega) (by omega), and_mask (by omega) (by omega) (by omega), and_mask (by omega) (by omega) (by omega)]
  simp
theorem head_pack (h : HeadS) (bn bv : Nat) (w : World) (hr : h.right = true) (hn : w.heap[bn]? = some (.cells #[.int .i64 4, .int .i64 1, .int .i64 1] 3 (0, 0)))
    (hv : w.heap[bv]? = some (.cells #[.int .u64 h.k, .int .u64 h.lv, .int .u64 (frz h.fz)] 150 (0, 0))) :
    Calls Tryz.prog 257 #[.slice (some ⟨bn, 0, none⟩) 3 3, .slice (some ⟨bv, 0, none⟩) 3 3] w fun e w' => e = .returned (.tuple #[.int .u64 h.w0, .int .i64 0]) ∧ Below w.heap.size w w' := by
  obtain ⟨h1, h2, h3⟩ := HeadS.bounds hr
  have h4 := frz_b h.fz
  have hlo : ∀ j : Nat, 0 ≤ h.vs[j]?.getD 0 ∧ h.vs[j]?.getD 0 < 18446744073709551616 := fun j => by
    match j with
    | 0 => exact ⟨by show 0 ≤ h.k; omega, by show h.k < _; omega⟩
    | 1 => exact ⟨by show 0 ≤ h.lv; omega, by show h.lv < _; omega⟩
    | 2 => exact ⟨by show 0 ≤ frz h.fz; omega, by show frz h.fz < _; omega⟩
    | j + 3 => exact ⟨Int.le_refl _, by show (0 : Int) < _; omega⟩
  have hN : IntsAt w bn 0 .i64 headNs := ⟨lt_of_block hn, fun j hj => by
    rw [cell_of hn]
    match j, hj with | 0, _ => rfl | 1, _ => rfl | 2, _ => rfl⟩
  have hV : IntsAt w bv 0 .u64 h.vs := ⟨lt_of_block hv, fun j hj => by
    rw [cell_of hv]
    match j, hj with | 0, _ => rfl | 1, _ => rfl | 2, _ => rfl⟩
  have := f_pack0 headNs h.vs bn 0 3 bv 0 3 w head_wok (by decide) rfl hN hV (fun j => (hlo j).1) (fun j => (hlo j).2)
  rw [if_pos (head_fits hr), if_pos (head_fits hr), head_packL hr] at this
  exact this
theorem head_unpack_no (v : Int) (bn : Nat) (w : World) (h0 : 0 ≤ v) (h1 : v < 18446744073709551616) (hv : 64 ≤ v) (hn : w.heap[bn]? = some (.cells #[.int .i64 4, .int .i64 1, .int .i64 1] 3 (0, 0))) :
    Calls Tryz.prog 277 #[.slice (some ⟨bn, 0, none⟩) 3 3, .int .u64 v] w fun e w' => e = .returned (.tuple #[.slice none 0 0, .int .i64 1]) ∧ Below w.heap.size w w' := by
  have hN : IntsAt w bn 0 .i64 headNs := ⟨lt_of_block hn, fun j hj => by
    rw [cell_of hn]
    match j, hj with | 0, _ => rfl | 1, _ => rfl | 2, _ => rfl⟩
  refine (f_unpack0 headNs bn 0 3 v w head_wok (by decide) hN h0 h1 (by decide) (by decide)).mono ?_
  rintro e w' ⟨hb, h | ⟨_, he⟩⟩
  · have : v < 64 := of_decide_eq_true h.1
    omega
  · exact ⟨he, hb⟩
theorem head_unpack_yes (v : Int) (bn : Nat) (w : World) (h0 : 0 ≤ v) (hv : v < 64) (hn : w.heap[bn]? = some (.cells #[.int .i64 4, .int .i64 1, .int .i64 1] 3 (0, 0))) :
    Calls Tryz.prog 277 #[.slice (some ⟨bn, 0, none⟩) 3 3, .int .u64 v] w fun e w' => ∃ g cap, e = .returned (.tuple #[.slice (some ⟨g, 0, none⟩) 3 cap, .int .i64 0]) ∧ Below w.heap.size w w' ∧
      w'.cell? ⟨g, 0, none⟩ = some (.int .u64 (v % 16)) ∧ w'.cell? ⟨g, 1, none⟩ = some (.int .u64 (v / 16 % 2)) ∧ w'.cell? ⟨g, 2, none⟩ = some (.int .u64 (v / 32 % 2)) := by
  have hN : IntsAt w bn 0 .i64 headNs := ⟨lt_of_block hn, fun j hj => by
    rw [cell_of hn]
    match j, hj with | 0, _ => rfl | 1, _ => rfl | 2, _ => rfl⟩
  refine (f_unpack0 headNs bn 0 3 v w head_wok (by decide) hN h0 (by omega) (by decide) (by decide)).mono ?_
  rintro e w' ⟨hb, ⟨_, g, cap, he, hg, hc⟩ | ⟨h, _⟩⟩
  · rw [head_parts h0 (by omega)] at hc
    exact ⟨g, cap, he, hb, hc 0 (by decide), hc 1 (by decide), hc 2 (by decide)⟩
  · have : ¬ v < 64 := of_decide_eq_false h
    omega
set_option maxHeartbeats 4000000 in
set_option maxRecDepth 100000 in
theorem head_words (h : HeadS) (w : World) (hr : h.right = true) : Calls Tryz.prog 253 #[h.v] w fun e w' => e = .returned (.agg #[.int .u64 h.w0, .int .u64 h.tm, .int .u64 0, .int .u64 0]) ∧ Below w.heap.size w w' := by
  have hpk := fun bn bv w => head_pack h bn bv w hr
  obtain ⟨⟨k0, k1⟩, ⟨l0, l1⟩, ⟨t0, t1⟩⟩ := HeadS.bounds hr
  have hf := frz_b h.fz
  have HF : Hid (h.fz = true → frz h.fz = 1) := Lib.hid (fun e => by rw [e]; rfl)
  have HG : Hid (h.fz = false → frz h.fz = 0) := Lib.hid (fun e => by rw [e]; rfl)
  clear hr
  generalize h.w0 = W0 at *
  obtain ⟨k, lv, fz, tm⟩ := h
  unfold HeadS.v
  dsimp only at *
  have wk := wrap_u64_small k0 (by omega); have wl := wrap_u64_small l0 (by omega); have wt := wrap_u64_small t0 (by omega)
  have hw0 : ∀ b : Bool, Below w.heap.size w ((w.alloc (.cells #[.int .i64 k, .int .i64 lv, .bool b, .int .i64 tm] 192 (0, 0))).alloc (.cells #[.int .u64 0, .int .u64 0, .int .u64 0, .int .u64 0] 335 (0, 0))) := fun b => by (refine Touch.below0 ?_; (repeat' (first | (with_reducible exact Touch.refl _ _) | (with_reducible assumption) | (with_reducible refine Touch.drew ?_) | (with_reducible refine Touch.drewN ?_ _) | (with_reducible refine Touch.alloc ?_ _) | (with_reducible refine Touch.setCell ?_ _ _ _ ?_) | (with_reducible refine Touch.step (by assumption) ?_) | (with_reducible refine Touch.stepT (by assumption) ?_ ?_) | (intro _; first | rfl | trivial | omega | (simp; done) | (simp; omega)) | (intro _ _; first | omega | (simp; done) | (simp; omega)))))
  cases fz
  · have HPK := fun bn bv w hn hv => hpk bn bv w hn (by rw [HG.out rfl]; exact hv)
    go_enter Tryz.func253, Tryz.ntmps253
    go_upto_region 4 with (fail)
    have hw := hw0 false
    have hp : ((w.alloc (.cells #[.int .i64 k, .int .i64 lv, .bool false, .int .i64 tm] 192 (0, 0))).alloc (.cells #[.int .u64 0, .int .u64 0, .int .u64 0, .int .u64 0] 335 (0, 0))).heap[w.heap.size]? = some (.cells #[.int .i64 k, .int .i64 lv, .bool false, .int .i64 tm] 192 (0, 0)) := heap_alloc (heap_new _ _) _
    have hq : ((w.alloc (.cells #[.int .i64 k, .int .i64 lv, .bool false, .int .i64 tm] 192 (0, 0))).alloc (.cells #[.int .u64 0, .int .u64 0, .int .u64 0, .int .u64 0] 335 (0, 0))).heap[w.heap.size + 1]? = some (.cells #[.int .u64 0, .int .u64 0, .int .u64 0, .int .u64 0] 335 (0, 0)) := heap_new' (by simp) _
    generalize (w.alloc (.cells #[.int .i64 k, .int .i64 lv, .bool false, .int .i64 tm] 192 (0, 0))).alloc (.cells #[.int .u64 0, .int .u64 0, .int .u64 0, .int .u64 0] 335 (0, 0)) = wa at *
    clear hw0 HF HG hf hpk
    go_cut [4] (fun x wr => x = .int .u64 W0 ∧ Below wa.heap.size wa wr)
    case first =>
      have g0 := cell_of hp 0; have g1 := cell_of hp 1
      dsimp at g0 g1
      have hlp := lt_of_block hp
      have kS : ∀ y, Below wa.heap.size wa y → y.cell? ⟨w.heap.size, 0, none⟩ = some (.int .i64 k) ∧ y.cell? ⟨w.heap.size, 1, none⟩ = some (.int .i64 lv) := fun y hb => ⟨(hb.cell (p := ⟨w.heap.size, 0, none⟩) hlp).trans g0, (hb.cell (p := ⟨w.heap.size, 1, none⟩) hlp).trans g1⟩
      have d0 : Below wa.heap.size wa wa.drew := (Below.refl _ wa).drew
      have d1 : ∀ o, Below wa.heap.size wa (wa.alloc o).drew := fun o => ((Below.refl _ wa).alloc (Nat.le_refl _) o).drew
      have d2 : ∀ o o', Below wa.heap.size wa ((wa.alloc o).alloc o').drew := fun o o' => (((Below.refl _ wa).alloc (Nat.le_refl _) o).alloc (by simp) o').drew
      have n1 : ((wa.alloc (.cells #[.int .i64 4, .int .i64 1, .int .i64 1] 3 (0, 0))).alloc (.cells #[.int .u64 k, .int .u64 lv, .int .u64 0] 150 (0, 0))).drew.heap[wa.heap.size]? = some (.cells #[.int .i64 4, .int .i64 1, .int .i64 1] 3 (0, 0)) := heap_alloc (heap_new _ _) _
      have v1 : ((wa.alloc (.cells #[.int .i64 4, .int .i64 1, .int .i64 1] 3 (0, 0))).alloc (.cells #[.int .u64 k, .int .u64 lv, .int .u64 0] 150 (0, 0))).drew.heap[wa.heap.size + 1]? = some (.cells #[.int .u64 k, .int .u64 lv, .int .u64 0] 150 (0, 0)) := heap_new' (by simp) _
      have n2 : ((wa.alloc (.cells #[.int .u64 k, .int .u64 lv, .int .u64 0] 150 (0, 0))).alloc (.cells #[.int .i64 4, .int .i64 1, .int .i64 1] 3 (0, 0))).drew.heap[wa.heap.size + 1]? = some (.cells #[.int .i64 4, .int .i64 1, .int .i64 1] 3 (0, 0)) := heap_new' (by simp) _
      have v2 : ((wa.alloc (.cells #[.int .u64 k, .int .u64 lv, .int .u64 0] 150 (0, 0))).alloc (.cells #[.int .i64 4, .int .i64 1, .int .i64 1] 3 (0, 0))).drew.heap[wa.heap.size]? = some (.cells #[.int .u64 k, .int .u64 lv, .int .u64 0] 150 (0, 0)) := heap_alloc (heap_new _ _) _
      go_region_held3 (fun y => y.cell? ⟨w.heap.size, 0, none⟩ = some (.int .i64 k) ∧ y.cell? ⟨w.heap.size, 1, none⟩ = some (.int .i64 lv)) (first | exact kS _ d0 | exact kS _ (d1 _) | exact kS _ (d2 _ _) | (refine kS _ ?_; assumption))
        (first
          | (go_at_call 278; (with_reducible refine (head_widths _).mono ?_); rintro e w' ⟨rfl, rfl⟩)
          | (go_at_call 257; (with_reducible refine (HPK _ _ _ n1 v1).mono ?_); rintro e w' ⟨rfl, hx⟩; have hB := (d2 _ _).trans (hx.mono (d2 _ _).size))
          | (go_at_call 257; (with_reducible refine (HPK _ _ _ n2 v2).mono ?_); rintro e w' ⟨rfl, hx⟩; have hB := (d2 _ _).trans (hx.mono (d2 _ _).size)))
      all_goals
        go_wp2
        go_meet
        exact ⟨rfl, hB⟩
    case rest =>
      obtain ⟨rfl, hb⟩ := hcut
      have hp2 := (hb.block _ (lt_of_block hp)).trans hp
      have hq2 := (hb.block _ (lt_of_block hq)).trans hq
      have hw2 := hw.trans (hb.mono hw.size)
      have g3 := cell_of hp2 3
      have q0 := cell_of hq2 0; have q1 := cell_of hq2 1; have q2 := cell_of hq2 2; have q3 := cell_of hq2 3
      have fq := frozen_of hq2
      dsimp at g3 q0 q1 q2 q3
      go_wp2
      ((try simp only [Exit.inBlock, Exit.then]); refine bodyPost_ret (results_cell_row rfl _ _ (w.heap.size + 1) 335 #[.int .u64 W0, .int .u64 tm, .int .u64 0, .int .u64 0] (0, 0) _ rfl ?_ Tryz.underlying335 rfl (by kernel_rfl)) rfl ?_)
      · exact heap_set (heap_set (heap_set (heap_set hq2 _) _) _) _
      exact ⟨rfl, (((hw2.setCell (p := ⟨w.heap.size + 1, 0, none⟩) (Nat.le_succ _) _).setCell (p := ⟨w.heap.size + 1, 1, none⟩) (Nat.le_succ _) _).setCell (p := ⟨w.heap.size + 1, 2, none⟩) (Nat.le_succ _) _).setCell (p := ⟨w.heap.size + 1, 3, none⟩) (Nat.le_succ _) _⟩
  · have HPK := fun bn bv w hn hv => hpk bn bv w hn (by rw [HF.out rfl]; exact hv)
    go_enter Tryz.func253, Tryz.ntmps253
    go_upto_region 4 with (fail)
    have hw := hw0 true
    have hp : ((w.alloc (.cells #[.int .i64 k, .int .i64 lv, .bool true, .int .i64 tm] 192 (0, 0))).alloc (.cells #[.int .u64 0, .int .u64 0, .int .u64 0, .int .u64 0] 335 (0, 0))).heap[w.heap.size]? = some (.cells #[.int .i64 k, .int .i64 lv, .bool true, .int .i64 tm] 192 (0, 0)) := heap_alloc (heap_new _ _) _
    have hq : ((w.alloc (.cells #[.int .i64 k, .int .i64 lv, .bool true, .int .i64 tm] 192 (0, 0))).alloc (.cells #[.int .u64 0, .int .u64 0, .int .u64 0, .int .u64 0] 335 (0, 0))).heap[w.heap.size + 1]? = some (.cells #[.int .u64 0, .int .u64 0, .int .u64 0, .int .u64 0] 335 (0, 0)) := heap_new' (by simp) _
    generalize (w.alloc (.cells #[.int .i64 k, .int .i64 lv, .bool true, .int .i64 tm] 192 (0, 0))).alloc (.cells #[.int .u64 0, .int .u64 0, .int .u64 0, .int .u64 0] 335 (0, 0)) = wa at *
    clear hw0 HF HG hf hpk
    go_cut [4] (fun x wr => x = .int .u64 W0 ∧ Below wa.heap.size wa wr)
    case first =>
      have g0 := cell_of hp 0; have g1 := cell_of hp 1
      dsimp at g0 g1
      have hlp := lt_of_block hp
      have kS : ∀ y, Below wa.heap.size wa y → y.cell? ⟨w.heap.size, 0, none⟩ = some (.int .i64 k) ∧ y.cell? ⟨w.heap.size, 1, none⟩ = some (.int .i64 lv) := fun y hb => ⟨(hb.cell (p := ⟨w.heap.size, 0, none⟩) hlp).trans g0, (hb.cell (p := ⟨w.heap.size, 1, none⟩) hlp).trans g1⟩
      have d0 : Below wa.heap.size wa wa.drew := (Below.refl _ wa).drew
      have d1 : ∀ o, Below wa.heap.size wa (wa.alloc o).drew := fun o => ((Below.refl _ wa).alloc (Nat.le_refl _) o).drew
      have d2 : ∀ o o', Below wa.heap.size wa ((wa.alloc o).alloc o').drew := fun o o' => (((Below.refl _ wa).alloc (Nat.le_refl _) o).alloc (by simp) o').drew
      have n1 : ((wa.alloc (.cells #[.int .i64 4, .int .i64 1, .int .i64 1] 3 (0, 0))).alloc (.cells #[.int .u64 k, .int .u64 lv, .int .u64 1] 150 (0, 0))).drew.heap[wa.heap.size]? = some (.cells #[.int .i64 4, .int .i64 1, .int .i64 1] 3 (0, 0)) := heap_alloc (heap_new _ _) _
      have v1 : ((wa.alloc (.cells #[.int .i64 4, .int .i64 1, .int .i64 1] 3 (0, 0))).alloc (.cells #[.int .u64 k, .int .u64 lv, .int .u64 1] 150 (0, 0))).drew.heap[wa.heap.size + 1]? = some (.cells #[.int .u64 k, .int .u64 lv, .int .u64 1] 150 (0, 0)) := heap_new' (by simp) _
      have n2 : ((wa.alloc (.cells #[.int .u64 k, .int .u64 lv, .int .u64 1] 150 (0, 0))).alloc (.cells #[.int .i64 4, .int .i64 1, .int .i64 1] 3 (0, 0))).drew.heap[wa.heap.size + 1]? = some (.cells #[.int .i64 4, .int .i64 1, .int .i64 1] 3 (0, 0)) := heap_new' (by simp) _
      have v2 : ((wa.alloc (.cells #[.int .u64 k, .int .u64 lv, .int .u64 1] 150 (0, 0))).alloc (.cells #[.int .i64 4, .int .i64 1, .int .i64 1] 3 (0, 0))).drew.heap[wa.heap.size]? = some (.cells #[.int .u64 k, .int .u64 lv, .int .u64 1] 150 (0, 0)) := heap_alloc (heap_new _ _) _
      go_region_held3 (fun y => y.cell? ⟨w.heap.size, 0, none⟩ = some (.int .i64 k) ∧ y.cell? ⟨w.heap.size, 1, none⟩ = some (.int .i64 lv)) (first | exact kS _ d0 | exact kS _ (d1 _) | exact kS _ (d2 _ _) | (refine kS _ ?_; assumption))
        (first
          | (go_at_call 278; (with_reducible refine (head_widths _).mono ?_); rintro e w' ⟨rfl, rfl⟩)
          | (go_at_call 257; (with_reducible refine (HPK _ _ _ n1 v1).mono ?_); rintro e w' ⟨rfl, hx⟩; have hB := (d2 _ _).trans (hx.mono (d2 _ _).size))
          | (go_at_call 257; (with_reducible refine (HPK _ _ _ n2 v2).mono ?_); rintro e w' ⟨rfl, hx⟩; have hB := (d2 _ _).trans (hx.mono (d2 _ _).size)))
      all_goals
        go_wp2
        go_meet
        exact ⟨rfl, hB⟩
    case rest =>
      obtain ⟨rfl, hb⟩ := hcut
      have hp2 := (hb.block _ (lt_of_block hp)).trans hp
      have hq2 := (hb.block _ (lt_of_block hq)).trans hq
      have hw2 := hw.trans (hb.mono hw.size)
      have g3 := cell_of hp2 3
      have q0 := cell_of hq2 0; have q1 := cell_of hq2 1; have q2 := cell_of hq2 2; have q3 := cell_of hq2 3
      have fq := frozen_of hq2
      dsimp at g3 q0 q1 q2 q3
      go_wp2
      ((try simp only [Exit.inBlock, Exit.then]); refine bodyPost_ret (results_cell_row rfl _ _ (w.heap.size + 1) 335 #[.int .u64 W0, .int .u64 tm, .int .u64 0, .int .u64 0] (0, 0) _ rfl ?_ Tryz.underlying335 rfl (by kernel_rfl)) rfl ?_)
      · exact heap_set (heap_set (heap_set (heap_set hq2 _) _) _) _
      exact ⟨rfl, (((hw2.setCell (p := ⟨w.heap.size + 1, 0, none⟩) (Nat.le_succ _) _).setCell (p := ⟨w.heap.size + 1, 1, none⟩) (Nat.le_succ _) _).setCell (p := ⟨w.heap.size + 1, 2, none⟩) (Nat.le_succ _) _).setCell (p := ⟨w.heap.size + 1, 3, none⟩) (Nat.le_succ _) _⟩
end Go.Proofs.YtmahledpcpdldaaGreat
/- Head3 -/
set_option linter.unusedVariables false
set_option linter.unusedSimpArgs false
namespace Go.Proofs.YtmahledpcpdldaaGreat
open Go.RowKit

def HeadS.wk (h : HeadS) : Nat → Int
  | 0 => h.w0
  | 1 => h.tm
  | _ => 0
def MemS.hk (m : MemS) (f : Int) (h : HeadS) : Nat → MemS
  | 0 => m
  | k + 1 => (m.hk f h k).store f k (h.wk k)
theorem MemS.hk_n (m : MemS) (f : Int) (h : HeadS) : ∀ k, (m.hk f h k).n = m.n
  | 0 => rfl
  | k + 1 => by unfold MemS.hk; rw [MemS.store_n, MemS.hk_n]
theorem HeadS.w0_b {h : HeadS} (hr : h.right = true) : 0 ≤ h.w0 ∧ h.w0 < 64 := by
  obtain ⟨h1, h2, h3⟩ := HeadS.bounds hr
  unfold HeadS.w0; split <;> omega
theorem HeadS.wk_b {h : HeadS} (hr : h.right = true) : ∀ k, 0 ≤ h.wk k ∧ h.wk k < 18446744073709551616 := by
  obtain ⟨h1, h2, h3⟩ := HeadS.bounds hr
  have := HeadS.w0_b hr
  intro k
  match k with
  | 0 => exact ⟨by show 0 ≤ h.w0; omega, by show h.w0 < _; omega⟩
  | 1 => exact ⟨by show 0 ≤ h.tm; omega, by show h.tm < _; omega⟩
  | k + 2 => exact ⟨Int.le_refl _, by show (0 : Int) < _; omega⟩
theorem MemS.hk_ok {m : MemS} (ok : m.Ok) (f : Int) {h : HeadS} (hr : h.right = true) : ∀ k, (m.hk f h k).Ok
  | 0 => ok
  | k + 1 => MemS.store_ok (MemS.hk_ok ok f hr k) _ _ (HeadS.wk_b hr k).1 (HeadS.wk_b hr k).2
def headOk (m : MemS) (f : Int) (h : HeadS) : Bool := h.right && m.has f
def MemS.head (m : MemS) (f : Int) (h : HeadS) : MemS := if headOk m f h then m.hk f h 4 else m

theorem Tryz.idx0 (a b c d : Int) (w : World) : (Instr.index 335 (.agg #[.int .u64 a, .int .u64 b, .int .u64 c, .int .u64 d]) (.int .i64 0)).run Tryz.prog w = .ok (.int .u64 a) w := by kernel_rfl
theorem Tryz.idx1 (a b c d : Int) (w : World) : (Instr.index 335 (.agg #[.int .u64 a, .int .u64 b, .int .u64 c, .int .u64 d]) (.int .i64 1)).run Tryz.prog w = .ok (.int .u64 b) w := by kernel_rfl
theorem Tryz.idx2 (a b c d : Int) (w : World) : (Instr.index 335 (.agg #[.int .u64 a, .int .u64 b, .int .u64 c, .int .u64 d]) (.int .i64 2)).run Tryz.prog w = .ok (.int .u64 c) w := by kernel_rfl
theorem Tryz.idx3 (a b c d : Int) (w : World) : (Instr.index 335 (.agg #[.int .u64 a, .int .u64 b, .int .u64 c, .int .u64 d]) (.int .i64 3)).run Tryz.prog w = .ok (.int .u64 d) w := by kernel_rfl
attribute [local go_sem] Tryz.idx0 Tryz.idx1 Tryz.idx2 Tryz.idx3
set_option maxHeartbeats 1000000 in
set_option maxRecDepth 100000 in
theorem head_put (a g : Nat) (m : MemS) (f : Int) (hd : HeadS) (w : World) (h : MemIs w a g m) (ok : m.Ok) : Calls Tryz.prog 202 #[.pointer (some ⟨a, 0, none⟩), .int .i64 f, hd.v] w fun e w' =>
    e = .returned (.int .i64 (if headOk m f hd then 0 else 1)) ∧ MemIs w' a g (m.head f hd) ∧ Touch (· = g) w w' := by
  have hR := head_right hd
  unfold MemS.head
  cases hr : hd.right
  · have e1 : headOk m f hd = false := by unfold headOk; rw [hr]; rfl
    simp only [e1, Bool.false_eq_true, if_false]
    rw [hr] at hR
    clear e1 hr
    obtain ⟨k, lv, fz, tm⟩ := hd
    unfold HeadS.v at *
    dsimp only at *
    have hw0 : Below w.heap.size w (w.alloc (.cells #[.int .i64 k, .int .i64 lv, .bool fz, .int .i64 tm] 192 (0, 0))) := by (refine Touch.below0 ?_; (repeat' (first | (with_reducible exact Touch.refl _ _) | (with_reducible assumption) | (with_reducible refine Touch.drew ?_) | (with_reducible refine Touch.drewN ?_ _) | (with_reducible refine Touch.alloc ?_ _) | (with_reducible refine Touch.setCell ?_ _ _ _ ?_) | (with_reducible refine Touch.step (by assumption) ?_) | (with_reducible refine Touch.stepT (by assumption) ?_ ?_) | (intro _; first | rfl | trivial | omega | (simp; done) | (simp; omega)) | (intro _ _; first | omega | (simp; done) | (simp; omega)))))
    go_enter Tryz.func202, Tryz.ntmps202
    go_wp2_with ((go_at_call 203; (with_reducible refine (hR _).mono ?_); rintro e w' ⟨rfl, hx⟩))
    go_ret
    have hb := hw0.trans (hx.mono hw0.size)
    exact ⟨rfl, h.after hb, Touch.of_below hb⟩
  rw [hr] at hR
  have hW := fun w => head_words hd w hr
  have hok := MemS.hk_ok ok f hr
  cases hf : m.has f
  · have e1 : headOk m f hd = false := by unfold headOk; rw [hr, hf]; rfl
    simp only [e1, Bool.false_eq_true, if_false]
    have L := fun x i w h => store_of a g m f i x 1 w h ok (MemS.can_out hf)
    have hst : ∀ i x, m.store f i x = m := fun i x => by rw [MemS.store, MemS.can_out hf, if_neg (by decide)]
    have HS := Lib.hid hst
    clear e1 hr hf hst hok
    generalize hd.w0 = W0 at *
    obtain ⟨k, lv, fz, tm⟩ := hd
    unfold HeadS.v at *
    dsimp only at *
    have hw0 : Below w.heap.size w (w.alloc (.cells #[.int .i64 k, .int .i64 lv, .bool fz, .int .i64 tm] 192 (0, 0))) := by (refine Touch.below0 ?_; (repeat' (first | (with_reducible exact Touch.refl _ _) | (with_reducible assumption) | (with_reducible refine Touch.drew ?_) | (with_reducible refine Touch.drewN ?_ _) | (with_reducible refine Touch.alloc ?_ _) | (with_reducible refine Touch.setCell ?_ _ _ _ ?_) | (with_reducible refine Touch.step (by assumption) ?_) | (with_reducible refine Touch.stepT (by assumption) ?_ ?_) | (intro _; first | rfl | trivial | omega | (simp; done) | (simp; omega)) | (intro _ _; first | omega | (simp; done) | (simp; omega)))))
    have hp0 : (w.alloc (.cells #[.int .i64 k, .int .i64 lv, .bool fz, .int .i64 tm] 192 (0, 0))).heap[w.heap.size]? = some (.cells #[.int .i64 k, .int .i64 lv, .bool fz, .int .i64 tm] 192 (0, 0)) := heap_new _ _
    go_enter Tryz.func202, Tryz.ntmps202
    go_upto_block 0 with (first
      | ((go_at_call 203; (with_reducible refine (hR _).mono ?_); rintro e w' ⟨rfl, hx⟩); have hw1 := hw0.trans (hx.mono hw0.size); have hp1 := (hx.block _ (lt_of_block hp0)).trans hp0; have g0 := cell_of hp1 0; have g1 := cell_of hp1 1; have g2 := cell_of hp1 2; have g3 := cell_of hp1 3; dsimp at g0 g1 g2 g3)
      | ((go_at_call 253; (with_reducible refine (hW _).mono ?_); rintro e w' ⟨rfl, hx⟩); have hw2 := hw1.trans (hx.mono hw1.size)))
    obtain ⟨w2, rfl⟩ : ∃ y : World, y = w' := ⟨_, rfl⟩
    have h2 := h.after hw2
    clear g0 g1 g2 g3 hp1 hp0 hx
    go_wp2
    go_loopw [18] (fun i wr => i = .int .i64 0 ∧ wr = w2) (fun _ _ => 0)
    case atStart => exact ⟨rfl, rfl⟩
    case round =>
      obtain ⟨rfl, rfl⟩ := hrel
      go_wp2_with ((go_at_call 88; (with_reducible refine (L _ _ _ h2).mono ?_); rintro e w' ⟨rfl, hm, ht⟩); rw [HS.out] at hm)
      go_ret
      exact ⟨rfl, hm, (Touch.of_below hw2).trans ht⟩
  · have e1 : headOk m f hd = true := by unfold headOk; rw [hr, hf]; rfl
    simp only [e1, if_true]
    have hcan : ∀ (k : Nat) (i : Int), 0 ≤ i → i < 36 → (m.hk f hd k).can f i = 0 := fun k i h0 h1 => MemS.can_in (by unfold MemS.has; rw [MemS.hk_n]; exact hf) h0 h1
    have L0 := fun w h => store_of a g (m.hk f hd 0) f 0 hd.w0 0 w h (hok 0) (hcan 0 0 (by decide) (by decide))
    have L1 := fun w h => store_of a g (m.hk f hd 1) f 1 hd.tm 0 w h (hok 1) (hcan 1 1 (by decide) (by decide))
    have L2 := fun w h => store_of a g (m.hk f hd 2) f 2 0 0 w h (hok 2) (hcan 2 2 (by decide) (by decide))
    have L3 := fun w h => store_of a g (m.hk f hd 3) f 3 0 0 w h (hok 3) (hcan 3 3 (by decide) (by decide))
    obtain ⟨M, hM⟩ : ∃ M : Nat → MemS, M = m.hk f hd := ⟨_, rfl⟩
    have N0 : ∀ {w}, MemIs w a g ((M 0).store f 0 hd.w0) → MemIs w a g (M 1) := fun h => by rw [hM] at h ⊢; exact h
    have N1 : ∀ {w}, MemIs w a g ((M 1).store f 1 hd.tm) → MemIs w a g (M 2) := fun h => by rw [hM] at h ⊢; exact h
    have N2 : ∀ {w}, MemIs w a g ((M 2).store f 2 0) → MemIs w a g (M 3) := fun h => by rw [hM] at h ⊢; exact h
    have N3 : ∀ {w}, MemIs w a g ((M 3).store f 3 0) → MemIs w a g (M 4) := fun h => by rw [hM] at h ⊢; exact h
    have hM0 : MemIs w a g (M 0) := by rw [hM]; exact h
    rw [← hM] at L0 L1 L2 L3 ⊢
    clear e1 hr hf hok hcan hM h
    generalize hd.w0 = W0 at *
    obtain ⟨k, lv, fz, tm⟩ := hd
    unfold HeadS.v at *
    dsimp only at *
    have hw0 : Below w.heap.size w (w.alloc (.cells #[.int .i64 k, .int .i64 lv, .bool fz, .int .i64 tm] 192 (0, 0))) := by (refine Touch.below0 ?_; (repeat' (first | (with_reducible exact Touch.refl _ _) | (with_reducible assumption) | (with_reducible refine Touch.drew ?_) | (with_reducible refine Touch.drewN ?_ _) | (with_reducible refine Touch.alloc ?_ _) | (with_reducible refine Touch.setCell ?_ _ _ _ ?_) | (with_reducible refine Touch.step (by assumption) ?_) | (with_reducible refine Touch.stepT (by assumption) ?_ ?_) | (intro _; first | rfl | trivial | omega | (simp; done) | (simp; omega)) | (intro _ _; first | omega | (simp; done) | (simp; omega)))))
    have hp0 : (w.alloc (.cells #[.int .i64 k, .int .i64 lv, .bool fz, .int .i64 tm] 192 (0, 0))).heap[w.heap.size]? = some (.cells #[.int .i64 k, .int .i64 lv, .bool fz, .int .i64 tm] 192 (0, 0)) := heap_new _ _
    go_enter Tryz.func202, Tryz.ntmps202
    go_upto_block 0 with (first
      | ((go_at_call 203; (with_reducible refine (hR _).mono ?_); rintro e w' ⟨rfl, hx⟩); have hw1 := hw0.trans (hx.mono hw0.size); have hp1 := (hx.block _ (lt_of_block hp0)).trans hp0; have g0 := cell_of hp1 0; have g1 := cell_of hp1 1; have g2 := cell_of hp1 2; have g3 := cell_of hp1 3; dsimp at g0 g1 g2 g3)
      | ((go_at_call 253; (with_reducible refine (hW _).mono ?_); rintro e w' ⟨rfl, hx⟩); have hw2 := hw1.trans (hx.mono hw1.size)))
    obtain ⟨w2, rfl⟩ : ∃ y : World, y = w' := ⟨_, rfl⟩
    have h2 := hM0.after hw2
    have ht2 : Touch (· = g) w w2 := Touch.of_below hw2
    clear g0 g1 g2 g3 hp1 hp0 hx hM0 hw0 hw1 hw2
    go_wp2
    go_loopw [18] (fun i wr => ∃ k : Nat, k ≤ 4 ∧ i = .int .i64 k ∧ MemIs wr a g (M k) ∧ Touch (· = g) w wr) (fun i _ => 4 - (intOf i).toNat)
    case atStart => exact ⟨0, by omega, rfl, h2, ht2⟩
    case round =>
      obtain ⟨k, hk, rfl, hm, ht⟩ := hrel
      clear h2 ht2
      match k, hk with
      | 0, _ =>
        go_wp2_with ((go_at_call 88; (with_reducible refine (L0 _ hm).mono ?_); rintro e w' ⟨rfl, hm2, ht2⟩))
        go_roundw
        case rel => exact ⟨1, by omega, rfl, N0 hm2, ht.trans ht2⟩
        case measure => decide
      | 1, _ =>
        go_wp2_with ((go_at_call 88; (with_reducible refine (L1 _ hm).mono ?_); rintro e w' ⟨rfl, hm2, ht2⟩))
        go_roundw
        case rel => exact ⟨2, by omega, rfl, N1 hm2, ht.trans ht2⟩
        case measure => decide
      | 2, _ =>
        go_wp2_with ((go_at_call 88; (with_reducible refine (L2 _ hm).mono ?_); rintro e w' ⟨rfl, hm2, ht2⟩))
        go_roundw
        case rel => exact ⟨3, by omega, rfl, N2 hm2, ht.trans ht2⟩
        case measure => decide
      | 3, _ =>
        go_wp2_with ((go_at_call 88; (with_reducible refine (L3 _ hm).mono ?_); rintro e w' ⟨rfl, hm2, ht2⟩))
        go_roundw
        case rel => exact ⟨4, by omega, rfl, N3 hm2, ht.trans ht2⟩
        case measure => decide
      | 4, _ =>
        go_wp2
        go_ret
        exact ⟨rfl, hm, ht⟩
      | k + 5, hk => omega
end Go.Proofs.YtmahledpcpdldaaGreat
/- Head4 -/
set_option linter.unusedVariables false
set_option linter.unusedSimpArgs false
namespace Go.Proofs.YtmahledpcpdldaaGreat
open Go.RowKit

theorem MemS.clear_n (m : MemS) (f : Int) : (m.clear f).n = m.n := by unfold MemS.clear; split <;> rfl
theorem MemS.clear_ok' {m : MemS} (ok : m.Ok) (f : Int) : (m.clear f).Ok := by
  unfold MemS.clear
  split
  · refine ⟨ok.n1, ok.n64, fun g o => ?_, fun g o => ?_⟩
    · show 0 ≤ upd m.w f.toNat (fun _ => 0) g o
      have := ok.lo g o; unfold upd; split <;> (try dsimp only) <;> omega
    · show upd m.w f.toNat (fun _ => 0) g o < _
      have := ok.hi g o; unfold upd; split <;> (try dsimp only) <;> omega
  · exact ok
theorem headOk_clear (m : MemS) (f : Int) (h : HeadS) : headOk (m.clear f) f h = headOk m f h := by unfold headOk MemS.has; rw [MemS.clear_n]
def MemS.make (m : MemS) (f : Int) (h : HeadS) : MemS := if headOk m f h then (m.clear f).head f h else m
theorem clear_of (a g : Nat) (m : MemS) (f e : Int) (w : World) (h : MemIs w a g m) (ok : m.Ok) (he : m.can f 0 = e) : Calls Tryz.prog 109 #[.pointer (some ⟨a, 0, none⟩), .int .i64 f] w fun e' w' =>
    e' = .returned (.int .i64 e) ∧ MemIs w' a g (m.clear f) ∧ Touch (· = g) w w' := by subst he; exact mem_clear a g m f w h ok
set_option maxHeartbeats 1000000 in
theorem head_put1 (a g : Nat) (m : MemS) (f : Int) (hd : HeadS) (w : World) (h : MemIs w a g m) (ok : m.Ok) (p0 p1 p2 : Nat) (h0 : w.heap[p0]? = some (.cells #[.pointer (some ⟨a, 0, none⟩)] 67 (0, 0))) (h1 : w.heap[p1]? = some (.cells #[.int .i64 f] 3 (0, 0)))
    (h2 : w.heap[p2]? = some (.cells #[.int .i64 hd.k, .int .i64 hd.lv, .bool hd.fz, .int .i64 hd.tm] 192 (0, 0))) : Calls Tryz.prog 201 #[.pointer (some ⟨p0, 0, none⟩), .pointer (some ⟨p1, 0, none⟩), .pointer (some ⟨p2, 0, none⟩)] w fun e w' =>
    e = .returned (.int .i64 (if headOk m f hd then 0 else 1)) ∧ MemIs w' a g (m.head f hd) ∧ Touch (· = g) w w' := by
  have hP := fun w h => head_put a g m f hd w h ok
  generalize (if headOk m f hd then (0 : Int) else 1) = E at *
  generalize m.head f hd = M at *
  obtain ⟨k, lv, fz, tm⟩ := hd
  unfold HeadS.v at *
  dsimp only at *
  have c0 := cell_of h0 0; have c1 := cell_of h1 0
  have g0 := cell_of h2 0; have g1 := cell_of h2 1; have g2 := cell_of h2 2; have g3 := cell_of h2 3
  dsimp at c0 c1 g0 g1 g2 g3
  go_enter Tryz.func201, Tryz.ntmps201
  go_wp2_with ((go_at_call 202; (with_reducible refine (hP _ h).mono ?_); rintro e w' ⟨rfl, hm, ht⟩))
  go_ret
  exact ⟨rfl, hm, ht⟩
set_option maxHeartbeats 1000000 in
theorem head_make (a g : Nat) (m : MemS) (f : Int) (hd : HeadS) (w : World) (h : MemIs w a g m) (ok : m.Ok) : Calls Tryz.prog 116 #[.pointer (some ⟨a, 0, none⟩), .int .i64 f, hd.v] w fun e w' =>
    e = .returned (.int .i64 (if headOk m f hd then 0 else 1)) ∧ MemIs w' a g (m.make f hd) ∧ Touch (· = g) w w' := by
  have hR := head_right hd
  have hltg := h.ltg
  unfold MemS.make
  cases hr : hd.right
  · have e1 : headOk m f hd = false := by unfold headOk; rw [hr]; rfl
    simp only [e1, Bool.false_eq_true, if_false]
    rw [hr] at hR
    clear e1 hr
    obtain ⟨k, lv, fz, tm⟩ := hd
    unfold HeadS.v at *
    dsimp only at *
    have hw0 : Below w.heap.size w (((w.alloc (.cells #[.pointer (some ⟨a, 0, none⟩)] 67 (0, 0))).alloc (.cells #[.int .i64 f] 3 (0, 0))).alloc (.cells #[.int .i64 k, .int .i64 lv, .bool fz, .int .i64 tm] 192 (0, 0))) := by (refine Touch.below0 ?_; (repeat' (first | (with_reducible exact Touch.refl _ _) | (with_reducible assumption) | (with_reducible refine Touch.drew ?_) | (with_reducible refine Touch.drewN ?_ _) | (with_reducible refine Touch.alloc ?_ _) | (with_reducible refine Touch.setCell ?_ _ _ _ ?_) | (with_reducible refine Touch.step (by assumption) ?_) | (with_reducible refine Touch.stepT (by assumption) ?_ ?_) | (intro _; first | rfl | trivial | omega | (simp; done) | (simp; omega)) | (intro _ _; first | omega | (simp; done) | (simp; omega)))))
    go_enter Tryz.func116, Tryz.ntmps116
    go_wp2_with ((go_at_call 203; (with_reducible refine (hR _).mono ?_); rintro e w' ⟨rfl, hx⟩))
    go_ret
    have hb := hw0.trans (hx.mono hw0.size)
    exact ⟨rfl, h.after hb, Touch.of_below hb⟩
  rw [hr] at hR
  cases hf : m.has f
  · have e1 : headOk m f hd = false := by unfold headOk; rw [hr, hf]; rfl
    simp only [e1, Bool.false_eq_true, if_false]
    have L := fun w h => clear_of a g m f 1 w h ok (MemS.can_out hf)
    have hst : m.clear f = m := by rw [MemS.clear, MemS.can_out hf, if_neg (by decide)]
    rw [hst] at L
    clear e1 hr hf hst
    obtain ⟨k, lv, fz, tm⟩ := hd
    unfold HeadS.v at *
    dsimp only at *
    have hw0 : Below w.heap.size w (((w.alloc (.cells #[.pointer (some ⟨a, 0, none⟩)] 67 (0, 0))).alloc (.cells #[.int .i64 f] 3 (0, 0))).alloc (.cells #[.int .i64 k, .int .i64 lv, .bool fz, .int .i64 tm] 192 (0, 0))) := by (refine Touch.below0 ?_; (repeat' (first | (with_reducible exact Touch.refl _ _) | (with_reducible assumption) | (with_reducible refine Touch.drew ?_) | (with_reducible refine Touch.drewN ?_ _) | (with_reducible refine Touch.alloc ?_ _) | (with_reducible refine Touch.setCell ?_ _ _ _ ?_) | (with_reducible refine Touch.step (by assumption) ?_) | (with_reducible refine Touch.stepT (by assumption) ?_ ?_) | (intro _; first | rfl | trivial | omega | (simp; done) | (simp; omega)) | (intro _ _; first | omega | (simp; done) | (simp; omega)))))
    have a0 : (((w.alloc (.cells #[.pointer (some ⟨a, 0, none⟩)] 67 (0, 0))).alloc (.cells #[.int .i64 f] 3 (0, 0))).alloc (.cells #[.int .i64 k, .int .i64 lv, .bool fz, .int .i64 tm] 192 (0, 0))).heap[w.heap.size]? = some (.cells #[.pointer (some ⟨a, 0, none⟩)] 67 (0, 0)) := heap_alloc (heap_alloc (heap_new _ _) _) _
    have a1 : (((w.alloc (.cells #[.pointer (some ⟨a, 0, none⟩)] 67 (0, 0))).alloc (.cells #[.int .i64 f] 3 (0, 0))).alloc (.cells #[.int .i64 k, .int .i64 lv, .bool fz, .int .i64 tm] 192 (0, 0))).heap[w.heap.size + 1]? = some (.cells #[.int .i64 f] 3 (0, 0)) := heap_alloc (heap_new' (by simp) _) _
    go_enter Tryz.func116, Tryz.ntmps116
    go_wp2_with (first
      | ((go_at_call 203; (with_reducible refine (hR _).mono ?_); rintro e w' ⟨rfl, hx⟩); have hb := hw0.trans (hx.mono hw0.size); have h2 := h.after hb; have c0 := cell_of ((hx.block _ (lt_of_block a0)).trans a0) 0; have c1 := cell_of ((hx.block _ (lt_of_block a1)).trans a1) 0; dsimp at c0 c1)
      | ((go_at_call 109; (with_reducible refine (L _ h2).mono ?_); rintro e w' ⟨rfl, hm, ht⟩)))
    go_ret
    exact ⟨rfl, hm, (Touch.of_below hb).trans ht⟩
  · have e1 : headOk m f hd = true := by unfold headOk; rw [hr, hf]; rfl
    have L := fun w h => clear_of a g m f 0 w h ok (MemS.can_in hf (by decide) (by decide))
    have P := fun w h => head_put1 a g (m.clear f) f hd w h (MemS.clear_ok' ok f)
    rw [headOk_clear, e1] at P
    simp only [e1, if_true] at P ⊢
    generalize (m.clear f).head f hd = M2 at *
    generalize m.clear f = M1 at *
    clear e1 hr hf
    obtain ⟨k, lv, fz, tm⟩ := hd
    unfold HeadS.v at *
    dsimp only at *
    have hw0 : Below w.heap.size w (((w.alloc (.cells #[.pointer (some ⟨a, 0, none⟩)] 67 (0, 0))).alloc (.cells #[.int .i64 f] 3 (0, 0))).alloc (.cells #[.int .i64 k, .int .i64 lv, .bool fz, .int .i64 tm] 192 (0, 0))) := by (refine Touch.below0 ?_; (repeat' (first | (with_reducible exact Touch.refl _ _) | (with_reducible assumption) | (with_reducible refine Touch.drew ?_) | (with_reducible refine Touch.drewN ?_ _) | (with_reducible refine Touch.alloc ?_ _) | (with_reducible refine Touch.setCell ?_ _ _ _ ?_) | (with_reducible refine Touch.step (by assumption) ?_) | (with_reducible refine Touch.stepT (by assumption) ?_ ?_) | (intro _; first | rfl | trivial | omega | (simp; done) | (simp; omega)) | (intro _ _; first | omega | (simp; done) | (simp; omega)))))
    have a0 : (((w.alloc (.cells #[.pointer (some ⟨a, 0, none⟩)] 67 (0, 0))).alloc (.cells #[.int .i64 f] 3 (0, 0))).alloc (.cells #[.int .i64 k, .int .i64 lv, .bool fz, .int .i64 tm] 192 (0, 0))).heap[w.heap.size]? = some (.cells #[.pointer (some ⟨a, 0, none⟩)] 67 (0, 0)) := heap_alloc (heap_alloc (heap_new _ _) _) _
    have a1 : (((w.alloc (.cells #[.pointer (some ⟨a, 0, none⟩)] 67 (0, 0))).alloc (.cells #[.int .i64 f] 3 (0, 0))).alloc (.cells #[.int .i64 k, .int .i64 lv, .bool fz, .int .i64 tm] 192 (0, 0))).heap[w.heap.size + 1]? = some (.cells #[.int .i64 f] 3 (0, 0)) := heap_alloc (heap_new' (by simp) _) _
    have a2 : (((w.alloc (.cells #[.pointer (some ⟨a, 0, none⟩)] 67 (0, 0))).alloc (.cells #[.int .i64 f] 3 (0, 0))).alloc (.cells #[.int .i64 k, .int .i64 lv, .bool fz, .int .i64 tm] 192 (0, 0))).heap[w.heap.size + 1 + 1]? = some (.cells #[.int .i64 k, .int .i64 lv, .bool fz, .int .i64 tm] 192 (0, 0)) := heap_new' (by simp) _
    go_enter Tryz.func116, Tryz.ntmps116
    go_wp2_with (first
      | ((go_at_call 203; (with_reducible refine (hR _).mono ?_); rintro e w' ⟨rfl, hx⟩); have hb := hw0.trans (hx.mono hw0.size); have h2 := h.after hb; have b0 := (hx.block _ (lt_of_block a0)).trans a0; have b1 := (hx.block _ (lt_of_block a1)).trans a1; have b2 := (hx.block _ (lt_of_block a2)).trans a2; have c0 := cell_of b0 0; have c1 := cell_of b1 0; dsimp at c0 c1)
      | ((go_at_call 109; (with_reducible refine (L _ h2).mono ?_); rintro e w' ⟨rfl, h3, ht⟩); have d0 := ht.at b0 (by show ¬ w.heap.size = g; omega); have d1 := ht.at b1 (by show ¬ w.heap.size + 1 = g; omega); have d2 := ht.at b2 (by show ¬ w.heap.size + 1 + 1 = g; omega))
      | ((go_at_call 201; (with_reducible refine (P _ h3 _ _ _ d0 d1 d2).mono ?_); rintro e w' ⟨rfl, h4, ht2⟩)))
    go_ret
    exact ⟨rfl, h4, ((Touch.of_below hb).trans ht).trans ht2⟩
end Go.Proofs.YtmahledpcpdldaaGreat
