/- The words of a head: Pack and Unpack at its widths; words. -/
import Derived.Test.YtejdfdllgobnhaaHead
set_option linter.unusedVariables false
set_option linter.unusedSimpArgs false
namespace Go.Proofs.Ytejdfdllgobnhaa
open Go.RowKit

def frz (b : Bool) : Int := if b then 1 else 0
def HeadS.vs (h : HeadS) : List Int := [h.k, h.lv, frz h.fz]
theorem frz_b (b : Bool) : 0 ≤ frz b ∧ frz b < 2 := by cases b <;> simp [frz]
theorem head_fits {h : HeadS} (hr : h.right = true) : ∀ x, fitAt headNs h.vs x = true := by
  obtain ⟨h1, h2, h3⟩ := HeadS.bounds hr
  have h4 := frz_b h.fz
  intro x
  match x with
  | ⟨0, _⟩ => simp [fitAt, fitsB, headNs, HeadS.vs]; omega
  | ⟨1, _⟩ => simp [fitAt, fitsB, headNs, HeadS.vs]; omega
  | ⟨2, _⟩ => simp [fitAt, fitsB, headNs, HeadS.vs]; omega
theorem head_packL {h : HeadS} (hr : h.right = true) : packL headNs h.vs (List.finRange headNs.length) = h.w0 := by
  obtain ⟨h1, h2, h3⟩ := HeadS.bounds hr
  have h4 := frz_b h.fz
  show bits .or .u64 (bits .or .u64 (bits .or .u64 0 (IntKind.u64.wrap (h.k * 2 ^ 0))) (IntKind.u64.wrap (h.lv * 2 ^ 4))) (IntKind.u64.wrap (frz h.fz * 2 ^ 5)) = _
  rw [or_add (acc := 0) (by omega) (by omega) (by omega) (by omega) (by omega), or_add (o := 4) (by omega) (by omega) (by omega) (by omega) (by omega), or_add (o := 5) (by omega) (by omega) (by omega) (by omega) (by omega)]
  unfold HeadS.w0
  cases h.fz <;> simp [frz]
theorem head_parts {v : Int} (h0 : 0 ≤ v) (h1 : v < 18446744073709551616) : partsI headNs v = [v % 16, v / 16 % 2, v / 32 % 2] := by
  show [bits .and .u64 (v / 2 ^ 0) ((2 ^ 4 - 1 : Nat) : Int), bits .and .u64 (v / 2 ^ 4) ((2 ^ 1 - 1 : Nat) : Int), bits .and .u64 (v / 2 ^ 5) ((2 ^ 1 - 1 : Nat) : Int)] = _
  rw [and_mask (by omega) (by omega) (by omega), and_mask (by omega) (by omega) (by omega), and_mask (by omega) (by omega) (by omega)]
  simp
theorem head_pack (h : HeadS) (bn bv : Nat) (w : World) (hr : h.right = true) (hn : w.heap[bn]? = some (.cells #[.int .i64 4, .int .i64 1, .int .i64 1] 3 (0, 0)))
    (hv : w.heap[bv]? = some (.cells #[.int .u64 h.k, .int .u64 h.lv, .int .u64 (frz h.fz)] 22 (0, 0))) :
    Calls Try.prog 112 #[.slice (some ⟨bn, 0, none⟩) 3 3, .slice (some ⟨bv, 0, none⟩) 3 3] w fun e w' => e = .returned (.tuple #[.int .u64 h.w0, .int .i64 0]) ∧ Below w.heap.size w w' := by
  obtain ⟨h1, h2, h3⟩ := HeadS.bounds hr
  have h4 := frz_b h.fz
  have hlo : ∀ j : Nat, 0 ≤ h.vs[j]?.getD 0 ∧ h.vs[j]?.getD 0 < 18446744073709551616 := fun j => by
    match j with
    | 0 => exact ⟨by show 0 ≤ h.k; omega, by show h.k < _; omega⟩
    | 1 => exact ⟨by show 0 ≤ h.lv; omega, by show h.lv < _; omega⟩
    | 2 => exact ⟨by show 0 ≤ frz h.fz; omega, by show frz h.fz < _; omega⟩
    | j + 3 => exact ⟨Int.le_refl _, by show (0 : Int) < _; omega⟩
  have hN : IntsAt w bn 0 .i64 headNs := ⟨lt_of_block hn, fun j hj => by
    rw [cell_of hn]
    match j, hj with | 0, _ => rfl | 1, _ => rfl | 2, _ => rfl⟩
  have hV : IntsAt w bv 0 .u64 h.vs := ⟨lt_of_block hv, fun j hj => by
    rw [cell_of hv]
    match j, hj with | 0, _ => rfl | 1, _ => rfl | 2, _ => rfl⟩
  have := f_pack0 headNs h.vs bn 0 3 bv 0 3 w head_wok (by decide) rfl hN hV (fun j => (hlo j).1) (fun j => (hlo j).2)
  rw [if_pos (head_fits hr), if_pos (head_fits hr), head_packL hr] at this
  exact this
theorem head_unpack_no (v : Int) (bn : Nat) (w : World) (h0 : 0 ≤ v) (h1 : v < 18446744073709551616) (hv : 64 ≤ v) (hn : w.heap[bn]? = some (.cells #[.int .i64 4, .int .i64 1, .int .i64 1] 3 (0, 0))) :
    Calls Try.prog 116 #[.slice (some ⟨bn, 0, none⟩) 3 3, .int .u64 v] w fun e w' => e = .returned (.tuple #[.slice none 0 0, .int .i64 1]) ∧ Below w.heap.size w w' := by
  have hN : IntsAt w bn 0 .i64 headNs := ⟨lt_of_block hn, fun j hj => by
    rw [cell_of hn]
    match j, hj with | 0, _ => rfl | 1, _ => rfl | 2, _ => rfl⟩
  refine (f_unpack0 headNs bn 0 3 v w head_wok (by decide) hN h0 h1 (by decide) (by decide)).mono ?_
  rintro e w' ⟨hb, h | ⟨_, he⟩⟩
  · have : v < 64 := of_decide_eq_true h.1
    omega
  · exact ⟨he, hb⟩
theorem head_unpack_yes (v : Int) (bn : Nat) (w : World) (h0 : 0 ≤ v) (hv : v < 64) (hn : w.heap[bn]? = some (.cells #[.int .i64 4, .int .i64 1, .int .i64 1] 3 (0, 0))) :
    Calls Try.prog 116 #[.slice (some ⟨bn, 0, none⟩) 3 3, .int .u64 v] w fun e w' => ∃ g cap, e = .returned (.tuple #[.slice (some ⟨g, 0, none⟩) 3 cap, .int .i64 0]) ∧ Below w.heap.size w w' ∧
      w'.cell? ⟨g, 0, none⟩ = some (.int .u64 (v % 16)) ∧ w'.cell? ⟨g, 1, none⟩ = some (.int .u64 (v / 16 % 2)) ∧ w'.cell? ⟨g, 2, none⟩ = some (.int .u64 (v / 32 % 2)) := by
  have hN : IntsAt w bn 0 .i64 headNs := ⟨lt_of_block hn, fun j hj => by
    rw [cell_of hn]
    match j, hj with | 0, _ => rfl | 1, _ => rfl | 2, _ => rfl⟩
  refine (f_unpack0 headNs bn 0 3 v w head_wok (by decide) hN h0 (by omega) (by decide) (by decide)).mono ?_
  rintro e w' ⟨hb, ⟨_, g, cap, he, hg, hc⟩ | ⟨h, _⟩⟩
  · rw [head_parts h0 (by omega)] at hc
    exact ⟨g, cap, he, hb, hc 0 (by decide), hc 1 (by decide), hc 2 (by decide)⟩
  · have : ¬ v < 64 := of_decide_eq_false h
    omega
set_option maxHeartbeats 4000000 in
set_option maxRecDepth 100000 in
theorem head_words (h : HeadS) (w : World) (hr : h.right = true) : Calls Try.prog 105 #[h.v] w fun e w' => e = .returned (.agg #[.int .u64 h.w0, .int .u64 h.tm, .int .u64 0, .int .u64 0]) ∧ Below w.heap.size w w' := by
  have hpk := fun bn bv w => head_pack h bn bv w hr
  obtain ⟨⟨k0, k1⟩, ⟨l0, l1⟩, ⟨t0, t1⟩⟩ := HeadS.bounds hr
  have hf := frz_b h.fz
  have HF : Hid (h.fz = true → frz h.fz = 1) := Lib.hid (fun e => by rw [e]; rfl)
  have HG : Hid (h.fz = false → frz h.fz = 0) := Lib.hid (fun e => by rw [e]; rfl)
  clear hr
  generalize h.w0 = W0 at *
  obtain ⟨k, lv, fz, tm⟩ := h
  unfold HeadS.v
  dsimp only at *
  have wk := wrap_u64_small k0 (by omega); have wl := wrap_u64_small l0 (by omega); have wt := wrap_u64_small t0 (by omega)
  have hw0 : ∀ b : Bool, Below w.heap.size w ((w.alloc (.cells #[.int .i64 k, .int .i64 lv, .bool b, .int .i64 tm] 113 (0, 0))).alloc (.cells #[.int .u64 0, .int .u64 0, .int .u64 0, .int .u64 0] 166 (0, 0))) := fun b => by (refine Touch.below0 ?_; (repeat' (first | (with_reducible exact Touch.refl _ _) | (with_reducible assumption) | (with_reducible refine Touch.drew ?_) | (with_reducible refine Touch.drewN ?_ _) | (with_reducible refine Touch.alloc ?_ _) | (with_reducible refine Touch.setCell ?_ _ _ _ ?_) | (with_reducible refine Touch.step (by assumption) ?_) | (with_reducible refine Touch.stepT (by assumption) ?_ ?_) | (intro _; first | rfl | trivial | omega | (simp; done) | (simp; omega)) | (intro _ _; first | omega | (simp; done) | (simp; omega)))))
  cases fz
  · have HPK := fun bn bv w hn hv => hpk bn bv w hn (by rw [HG.out rfl]; exact hv)
    go_enter Try.func105, Try.ntmps105
    go_upto_region 4 with (fail)
    have hw := hw0 false
    have hp : ((w.alloc (.cells #[.int .i64 k, .int .i64 lv, .bool false, .int .i64 tm] 113 (0, 0))).alloc (.cells #[.int .u64 0, .int .u64 0, .int .u64 0, .int .u64 0] 166 (0, 0))).heap[w.heap.size]? = some (.cells #[.int .i64 k, .int .i64 lv, .bool false, .int .i64 tm] 113 (0, 0)) := heap_alloc (heap_new _ _) _
    have hq : ((w.alloc (.cells #[.int .i64 k, .int .i64 lv, .bool false, .int .i64 tm] 113 (0, 0))).alloc (.cells #[.int .u64 0, .int .u64 0, .int .u64 0, .int .u64 0] 166 (0, 0))).heap[w.heap.size + 1]? = some (.cells #[.int .u64 0, .int .u64 0, .int .u64 0, .int .u64 0] 166 (0, 0)) := heap_new' (by simp) _
    generalize (w.alloc (.cells #[.int .i64 k, .int .i64 lv, .bool false, .int .i64 tm] 113 (0, 0))).alloc (.cells #[.int .u64 0, .int .u64 0, .int .u64 0, .int .u64 0] 166 (0, 0)) = wa at *
    clear hw0 HF HG hf hpk
    go_cut [4] (fun x wr => x = .int .u64 W0 ∧ Below wa.heap.size wa wr)
    case first =>
      have g0 := cell_of hp 0; have g1 := cell_of hp 1
      dsimp at g0 g1
      have hlp := lt_of_block hp
      have kS : ∀ y, Below wa.heap.size wa y → y.cell? ⟨w.heap.size, 0, none⟩ = some (.int .i64 k) ∧ y.cell? ⟨w.heap.size, 1, none⟩ = some (.int .i64 lv) := fun y hb => ⟨(hb.cell (p := ⟨w.heap.size, 0, none⟩) hlp).trans g0, (hb.cell (p := ⟨w.heap.size, 1, none⟩) hlp).trans g1⟩
      have d0 : Below wa.heap.size wa wa.drew := (Below.refl _ wa).drew
      have d1 : ∀ o, Below wa.heap.size wa (wa.alloc o).drew := fun o => ((Below.refl _ wa).alloc (Nat.le_refl _) o).drew
      have d2 : ∀ o o', Below wa.heap.size wa ((wa.alloc o).alloc o').drew := fun o o' => (((Below.refl _ wa).alloc (Nat.le_refl _) o).alloc (by simp) o').drew
      have n1 : ((wa.alloc (.cells #[.int .i64 4, .int .i64 1, .int .i64 1] 3 (0, 0))).alloc (.cells #[.int .u64 k, .int .u64 lv, .int .u64 0] 22 (0, 0))).drew.heap[wa.heap.size]? = some (.cells #[.int .i64 4, .int .i64 1, .int .i64 1] 3 (0, 0)) := heap_alloc (heap_new _ _) _
      have v1 : ((wa.alloc (.cells #[.int .i64 4, .int .i64 1, .int .i64 1] 3 (0, 0))).alloc (.cells #[.int .u64 k, .int .u64 lv, .int .u64 0] 22 (0, 0))).drew.heap[wa.heap.size + 1]? = some (.cells #[.int .u64 k, .int .u64 lv, .int .u64 0] 22 (0, 0)) := heap_new' (by simp) _
      have n2 : ((wa.alloc (.cells #[.int .u64 k, .int .u64 lv, .int .u64 0] 22 (0, 0))).alloc (.cells #[.int .i64 4, .int .i64 1, .int .i64 1] 3 (0, 0))).drew.heap[wa.heap.size + 1]? = some (.cells #[.int .i64 4, .int .i64 1, .int .i64 1] 3 (0, 0)) := heap_new' (by simp) _
      have v2 : ((wa.alloc (.cells #[.int .u64 k, .int .u64 lv, .int .u64 0] 22 (0, 0))).alloc (.cells #[.int .i64 4, .int .i64 1, .int .i64 1] 3 (0, 0))).drew.heap[wa.heap.size]? = some (.cells #[.int .u64 k, .int .u64 lv, .int .u64 0] 22 (0, 0)) := heap_alloc (heap_new _ _) _
      go_region_held3 (fun y => y.cell? ⟨w.heap.size, 0, none⟩ = some (.int .i64 k) ∧ y.cell? ⟨w.heap.size, 1, none⟩ = some (.int .i64 lv)) (first | exact kS _ d0 | exact kS _ (d1 _) | exact kS _ (d2 _ _) | (refine kS _ ?_; assumption))
        (first
          | (go_at_call 117; (with_reducible refine (head_widths _).mono ?_); rintro e w' ⟨rfl, rfl⟩)
          | (go_at_call 112; (with_reducible refine (HPK _ _ _ n1 v1).mono ?_); rintro e w' ⟨rfl, hx⟩; have hB := (d2 _ _).trans (hx.mono (d2 _ _).size))
          | (go_at_call 112; (with_reducible refine (HPK _ _ _ n2 v2).mono ?_); rintro e w' ⟨rfl, hx⟩; have hB := (d2 _ _).trans (hx.mono (d2 _ _).size)))
      all_goals
        go_wp2
        go_meet
        exact ⟨rfl, hB⟩
    case rest =>
      obtain ⟨rfl, hb⟩ := hcut
      have hp2 := (hb.block _ (lt_of_block hp)).trans hp
      have hq2 := (hb.block _ (lt_of_block hq)).trans hq
      have hw2 := hw.trans (hb.mono hw.size)
      have g3 := cell_of hp2 3
      have q0 := cell_of hq2 0; have q1 := cell_of hq2 1; have q2 := cell_of hq2 2; have q3 := cell_of hq2 3
      have fq := frozen_of hq2
      dsimp at g3 q0 q1 q2 q3
      go_wp2
      ((try simp only [Exit.inBlock, Exit.then]); refine bodyPost_ret (results_cell_row rfl _ _ (w.heap.size + 1) 166 #[.int .u64 W0, .int .u64 tm, .int .u64 0, .int .u64 0] (0, 0) _ rfl ?_ Try.underlying166 rfl (by kernel_rfl)) rfl ?_)
      · exact heap_set (heap_set (heap_set (heap_set hq2 _) _) _) _
      exact ⟨rfl, (((hw2.setCell (p := ⟨w.heap.size + 1, 0, none⟩) (Nat.le_succ _) _).setCell (p := ⟨w.heap.size + 1, 1, none⟩) (Nat.le_succ _) _).setCell (p := ⟨w.heap.size + 1, 2, none⟩) (Nat.le_succ _) _).setCell (p := ⟨w.heap.size + 1, 3, none⟩) (Nat.le_succ _) _⟩
  · have HPK := fun bn bv w hn hv => hpk bn bv w hn (by rw [HF.out rfl]; exact hv)
    go_enter Try.func105, Try.ntmps105
    go_upto_region 4 with (fail)
    have hw := hw0 true
    have hp : ((w.alloc (.cells #[.int .i64 k, .int .i64 lv, .bool true, .int .i64 tm] 113 (0, 0))).alloc (.cells #[.int .u64 0, .int .u64 0, .int .u64 0, .int .u64 0] 166 (0, 0))).heap[w.heap.size]? = some (.cells #[.int .i64 k, .int .i64 lv, .bool true, .int .i64 tm] 113 (0, 0)) := heap_alloc (heap_new _ _) _
    have hq : ((w.alloc (.cells #[.int .i64 k, .int .i64 lv, .bool true, .int .i64 tm] 113 (0, 0))).alloc (.cells #[.int .u64 0, .int .u64 0, .int .u64 0, .int .u64 0] 166 (0, 0))).heap[w.heap.size + 1]? = some (.cells #[.int .u64 0, .int .u64 0, .int .u64 0, .int .u64 0] 166 (0, 0)) := heap_new' (by simp) _
    generalize (w.alloc (.cells #[.int .i64 k, .int .i64 lv, .bool true, .int .i64 tm] 113 (0, 0))).alloc (.cells #[.int .u64 0, .int .u64 0, .int .u64 0, .int .u64 0] 166 (0, 0)) = wa at *
    clear hw0 HF HG hf hpk
    go_cut [4] (fun x wr => x = .int .u64 W0 ∧ Below wa.heap.size wa wr)
    case first =>
      have g0 := cell_of hp 0; have g1 := cell_of hp 1
      dsimp at g0 g1
      have hlp := lt_of_block hp
      have kS : ∀ y, Below wa.heap.size wa y → y.cell? ⟨w.heap.size, 0, none⟩ = some (.int .i64 k) ∧ y.cell? ⟨w.heap.size, 1, none⟩ = some (.int .i64 lv) := fun y hb => ⟨(hb.cell (p := ⟨w.heap.size, 0, none⟩) hlp).trans g0, (hb.cell (p := ⟨w.heap.size, 1, none⟩) hlp).trans g1⟩
      have d0 : Below wa.heap.size wa wa.drew := (Below.refl _ wa).drew
      have d1 : ∀ o, Below wa.heap.size wa (wa.alloc o).drew := fun o => ((Below.refl _ wa).alloc (Nat.le_refl _) o).drew
      have d2 : ∀ o o', Below wa.heap.size wa ((wa.alloc o).alloc o').drew := fun o o' => (((Below.refl _ wa).alloc (Nat.le_refl _) o).alloc (by simp) o').drew
      have n1 : ((wa.alloc (.cells #[.int .i64 4, .int .i64 1, .int .i64 1] 3 (0, 0))).alloc (.cells #[.int .u64 k, .int .u64 lv, .int .u64 1] 22 (0, 0))).drew.heap[wa.heap.size]? = some (.cells #[.int .i64 4, .int .i64 1, .int .i64 1] 3 (0, 0)) := heap_alloc (heap_new _ _) _
      have v1 : ((wa.alloc (.cells #[.int .i64 4, .int .i64 1, .int .i64 1] 3 (0, 0))).alloc (.cells #[.int .u64 k, .int .u64 lv, .int .u64 1] 22 (0, 0))).drew.heap[wa.heap.size + 1]? = some (.cells #[.int .u64 k, .int .u64 lv, .int .u64 1] 22 (0, 0)) := heap_new' (by simp) _
      have n2 : ((wa.alloc (.cells #[.int .u64 k, .int .u64 lv, .int .u64 1] 22 (0, 0))).alloc (.cells #[.int .i64 4, .int .i64 1, .int .i64 1] 3 (0, 0))).drew.heap[wa.heap.size + 1]? = some (.cells #[.int .i64 4, .int .i64 1, .int .i64 1] 3 (0, 0)) := heap_new' (by simp) _
      have v2 : ((wa.alloc (.cells #[.int .u64 k, .int .u64 lv, .int .u64 1] 22 (0, 0))).alloc (.cells #[.int .i64 4, .int .i64 1, .int .i64 1] 3 (0, 0))).drew.heap[wa.heap.size]? = some (.cells #[.int .u64 k, .int .u64 lv, .int .u64 1] 22 (0, 0)) := heap_alloc (heap_new _ _) _
      go_region_held3 (fun y => y.cell? ⟨w.heap.size, 0, none⟩ = some (.int .i64 k) ∧ y.cell? ⟨w.heap.size, 1, none⟩ = some (.int .i64 lv)) (first | exact kS _ d0 | exact kS _ (d1 _) | exact kS _ (d2 _ _) | (refine kS _ ?_; assumption))
        (first
          | (go_at_call 117; (with_reducible refine (head_widths _).mono ?_); rintro e w' ⟨rfl, rfl⟩)
          | (go_at_call 112; (with_reducible refine (HPK _ _ _ n1 v1).mono ?_); rintro e w' ⟨rfl, hx⟩; have hB := (d2 _ _).trans (hx.mono (d2 _ _).size))
          | (go_at_call 112; (with_reducible refine (HPK _ _ _ n2 v2).mono ?_); rintro e w' ⟨rfl, hx⟩; have hB := (d2 _ _).trans (hx.mono (d2 _ _).size)))
      all_goals
        go_wp2
        go_meet
        exact ⟨rfl, hB⟩
    case rest =>
      obtain ⟨rfl, hb⟩ := hcut
      have hp2 := (hb.block _ (lt_of_block hp)).trans hp
      have hq2 := (hb.block _ (lt_of_block hq)).trans hq
      have hw2 := hw.trans (hb.mono hw.size)
      have g3 := cell_of hp2 3
      have q0 := cell_of hq2 0; have q1 := cell_of hq2 1; have q2 := cell_of hq2 2; have q3 := cell_of hq2 3
      have fq := frozen_of hq2
      dsimp at g3 q0 q1 q2 q3
      go_wp2
      ((try simp only [Exit.inBlock, Exit.then]); refine bodyPost_ret (results_cell_row rfl _ _ (w.heap.size + 1) 166 #[.int .u64 W0, .int .u64 tm, .int .u64 0, .int .u64 0] (0, 0) _ rfl ?_ Try.underlying166 rfl (by kernel_rfl)) rfl ?_)
      · exact heap_set (heap_set (heap_set (heap_set hq2 _) _) _) _
      exact ⟨rfl, (((hw2.setCell (p := ⟨w.heap.size + 1, 0, none⟩) (Nat.le_succ _) _).setCell (p := ⟨w.heap.size + 1, 1, none⟩) (Nat.le_succ _) _).setCell (p := ⟨w.heap.size + 1, 2, none⟩) (Nat.le_succ _) _).setCell (p := ⟨w.heap.size + 1, 3, none⟩) (Nat.le_succ _) _⟩
end Go.Proofs.Ytejdfdllgobnhaa
