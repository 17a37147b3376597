/- The reference's clock (palanquinref03), told by the same words as the program's. -/
import Derived.Test.YtmahledpcpdldaaGreatGClk
import Derived.Test.YtmahledpcpdldaaGreatRows2
import Derived.Deep.DeepCutAuto
import Derived.Deep.Cut
import Derived.Deep.CutBlock
set_option linter.unusedVariables false
set_option linter.unusedSimpArgs false
namespace Go.Proofs.YtmahledpcpdldaaGreat
open Go.RowKit

/-- The numbers f 0 .. f (n - 1). -/
def ints (f : Nat → Int) (n : Nat) : List Value := (List.range n).map fun j => Value.int .i64 (f j)
theorem ints_length (f : Nat → Int) (n : Nat) : (ints f n).length = n := by simp [ints]
theorem ints_at {f : Nat → Int} {n j : Nat} (h : j < n) : (ints f n)[j]? = some (.int .i64 (f j)) := by simp [ints, h]
theorem ints_succ (f : Nat → Int) (n : Nat) : ints f (n + 1) = ints f n ++ [.int .i64 (f n)] := by simp [ints, List.range_succ]
theorem ints_set (f : Nat → Int) (n j : Nat) (x : Int) : (ints f n).set j (.int .i64 x) = ints (upd f j x) n := by
  apply List.ext_getElem?
  intro k
  rw [List.getElem?_set]
  by_cases hk : k < n
  · simp only [ints_length]
    by_cases hj : j = k
    · subst hj; simp [ints_at hk, upd, hk]
    · rw [if_neg hj, ints_at hk, ints_at hk, upd_ne _ _ _ _ (Ne.symm hj)]
  · have h1 : (ints f n)[k]? = none := by rw [List.getElem?_eq_none_iff, ints_length]; omega
    have h2 : (ints (upd f j x) n)[k]? = none := by rw [List.getElem?_eq_none_iff, ints_length]; omega
    rw [h2, h1]; simp only [ints_length]
    split
    · rename_i h; subst h; rw [if_neg (by omega)]
    · rfl
theorem ints_congr {f g : Nat → Int} {n : Nat} (h : ∀ j, j < n → f j = g j) : ints f n = ints g n := by
  unfold ints; apply List.map_congr_left; intro j hj; rw [h j (by simpa using hj)]

/-- The reference's clock at block v; all its blocks lie from v on. -/
structure RClk (w : World) (v : Nat) (c : Clk) (b1 b2 b3 c1 c2 c3 : Nat) : Prop where
  box : w.heap[v]? = some (.cells #[.int .i64 c.now, .slice (some ⟨b1, 0, none⟩) c.n.toNat c1, .slice (some ⟨b2, 0, none⟩) c.n.toNat c2, .slice (some ⟨b3, 0, none⟩) c.n.toNat c3] 148 (0, 0))
  r1 : Row w b1 3 (ints c.cy c.n.toNat)
  r2 : Row w b2 3 (ints c.en c.n.toNat)
  r3 : Row w b3 3 (ints c.fl c.n.toNat)
  v1 : v < b1
  v2 : v < b2
  v3 : v < b3
  d12 : b1 ≠ b2
  d13 : b1 ≠ b3
  d23 : b2 ≠ b3
  n1 : 1 ≤ c.n

def RClkAt (w : World) (v : Nat) (c : Clk) : Prop := ∃ b1 b2 b3 c1 c2 c3, RClk w v c b1 b2 b3 c1 c2 c3

theorem RClkAt.touch {w w' : World} {v : Nat} {c : Clk} {S : Nat → Prop} (h : RClkAt w v c) (ht : Touch S w w') (hs : ∀ k, v ≤ k → k < w.heap.size → ¬ S k) : RClkAt w' v c := by
  obtain ⟨b1, b2, b3, c1, c2, c3, h⟩ := h
  have h0 := lt_of_block h.box
  exact ⟨b1, b2, b3, c1, c2, c3, ⟨ht.at h.box (hs _ (Nat.le_refl _) h0), h.r1.touch ht (hs _ (Nat.le_of_lt h.v1) h.r1.lt), h.r2.touch ht (hs _ (Nat.le_of_lt h.v2) h.r2.lt), h.r3.touch ht (hs _ (Nat.le_of_lt h.v3) h.r3.lt),
    h.v1, h.v2, h.v3, h.d12, h.d13, h.d23, h.n1⟩⟩
theorem RClkAt.after {w w' : World} {v : Nat} {c : Clk} (h : RClkAt w v c) (hb : Below w.heap.size w w') : RClkAt w' v c :=
  h.touch (Touch.of_below (S := fun _ => False) hb) (fun _ _ _ hf => hf)
theorem RClkAt.lt {w : World} {v : Nat} {c : Clk} (h : RClkAt w v c) : v < w.heap.size := by
  obtain ⟨b1, b2, b3, c1, c2, c3, h⟩ := h; exact lt_of_block h.box

theorem RClk.cells {w : World} {v : Nat} {c : Clk} {b1 b2 b3 c1 c2 c3 : Nat} (h : RClk w v c b1 b2 b3 c1 c2 c3) :
    w.cell? ⟨v, 0, none⟩ = some (.int .i64 c.now) ∧ w.cell? ⟨v, 1, none⟩ = some (.slice (some ⟨b1, 0, none⟩) c.n.toNat c1) ∧
    w.cell? ⟨v, 2, none⟩ = some (.slice (some ⟨b2, 0, none⟩) c.n.toNat c2) ∧ w.cell? ⟨v, 3, none⟩ = some (.slice (some ⟨b3, 0, none⟩) c.n.toNat c3) := by
  simp only [cell_of h.box]; exact ⟨rfl, rfl, rfl, rfl⟩

/-! New -/
theorem r3_new_no (n : Int) (w : World) (hn : n < 1 ∨ 4 < n) : Calls Tryz.prog 65 #[.int .i64 n] w fun e w' =>
    e = .returned (.tuple #[.pointer none, .int .i64 1]) ∧ w = w' := by
  rcases hn with hn | hn
  · go_enter Tryz.func65, Tryz.ntmps65
    go_wp2
    go_ret2
    exact ⟨rfl, rfl⟩
  · have hn' : ¬ n < 1 := by omega
    go_enter Tryz.func65, Tryz.ntmps65
    go_wp2
    go_ret2
    exact ⟨rfl, rfl⟩

theorem Tryz.infoInt : (Tryz.prog.info? 3).map (fun i => (i.zero, i.size, i.bytes)) = some (some (.int .i64 0), 1, 8) := by kernel_rfl

set_option maxHeartbeats 4000000 in
set_option maxRecDepth 100000 in
theorem r3_new (n : Int) (w : World) (h1 : 1 ≤ n) (h4 : n ≤ 4) : Calls Tryz.prog 65 #[.int .i64 n] w fun e w' =>
    e = .returned (.tuple #[.pointer (some ⟨w.heap.size, 0, none⟩), .int .i64 0]) ∧ RClkAt w' w.heap.size (Clk.new n) ∧ Below w.heap.size w w' := by
  obtain ⟨i0, hi, hz0, hz1, hz2⟩ := info_parts Tryz.infoInt
  go_enter Tryz.func65, Tryz.ntmps65
  go_upto_block 0 with (fail)
  go_cut [] (fun wr => RClkAt wr w.heap.size (Clk.new n) ∧ Below w.heap.size w wr)
  case first =>
    go_wp2
    go_loopw [5] (fun i wr => ∃ (k : Nat) (s1 s2 s3 : Value), k ≤ n.toNat ∧ i = .int .i64 k ∧ wr.heap[w.heap.size]? = some (.cells #[.int .i64 0, s1, s2, s3] 148 (0, 0)) ∧
      wr.ownsRow (w.heap.size + 1) 3 1 s1 k (ints (fun _ => 0) k) ∧ wr.ownsRow (w.heap.size + 1) 3 1 s2 k (ints (fun _ => -1) k) ∧ wr.ownsRow (w.heap.size + 1) 3 1 s3 k (ints (fun _ => -1) k) ∧
      Apart s1 s2 ∧ Apart s1 s3 ∧ Apart s2 s3 ∧ Below w.heap.size w wr) (fun i _ => n.toNat - (intOf i).toNat)
    case atStart => exact ⟨0, .slice none 0 0, .slice none 0 0, .slice none 0 0, by omega, rfl, heap_new _ _, World.ownsRow_nil _ _ _ _, World.ownsRow_nil _ _ _ _, World.ownsRow_nil _ _ _ _, Apart.nil _, Apart.nil _, Apart.nil _, by (refine Touch.below0 ?_; (repeat' (first | (with_reducible exact Touch.refl _ _) | (with_reducible assumption) | (with_reducible refine Touch.drew ?_) | (with_reducible refine Touch.drewN ?_ _) | (with_reducible refine Touch.alloc ?_ _) | (with_reducible refine Touch.setCell ?_ _ _ _ ?_) | (with_reducible refine Touch.step (by assumption) ?_) | (with_reducible refine Touch.stepT (by assumption) ?_ ?_) | (intro _; first | rfl | trivial | omega | (simp; done) | (simp; omega)) | (intro _ _; first | omega | (simp; done) | (simp; omega)))))⟩
    case round =>
      obtain ⟨k, s1, s2, s3, hk, rfl, hbox, o1, o2, o3, d12, d13, d23, hbr⟩ := hrel
      by_cases hlt : k < n.toNat
      · have hlt' : (k : Int) < n := by omega
        have hB := hbr.size
        have hB1 : w.heap.size + 1 ≤ wr.heap.size := lt_of_block hbox
        have hkn : k < 1000000 := by omega
        have g1 : wr.cell? ⟨w.heap.size, 1, none⟩ = some s1 := by rw [cell_of hbox]; rfl
        go_wp2_with (first
          | (at_builtin; refine wpList_append_one wr rfl _ _ 25 rfl 3 i0 (.int .i64 0) (.int .i64 0) 8 Tryz.underlying25 hi hz0 hz1 hz2 rfl (by decide) (w.heap.size + 1) s1 k _ rfl o1 _ rfl rfl rfl hkn hB1 ?_; intro g1 cp1 w1 n1 ht1 hl1
             have hb1 := field_box hbox o1 ht1
             have u1 : w1.cell? ⟨w.heap.size, 1, none⟩ = some s1 := by rw [cell_of hb1]; rfl
             have u2 : w1.cell? ⟨w.heap.size, 2, none⟩ = some s2 := by rw [cell_of hb1]; rfl
             have f1 := frozen_of hb1
             have p1 := field_own n1 1 (.slice (some ⟨g1, 0, none⟩) (k + 1) cp1); have p2 := field_other o2 d12 ht1 1 (.slice (some ⟨g1, 0, none⟩) (k + 1) cp1); have p3 := field_other o3 d13 ht1 1 (.slice (some ⟨g1, 0, none⟩) (k + 1) cp1)
             have e12 := field_apart o2 d12 hl1; have e13 := field_apart o3 d13 hl1
             have t1 := field_touch o1 ht1 1 (.slice (some ⟨g1, 0, none⟩) (k + 1) cp1)
             have hbx1 : (w1.setCell ⟨w.heap.size, 1, none⟩ (.slice (some ⟨g1, 0, none⟩) (k + 1) cp1)).heap[w.heap.size]? = some (.cells #[.int .i64 0, (.slice (some ⟨g1, 0, none⟩) (k + 1) cp1), s2, s3] 148 (0, 0)) := heap_set hb1 (.slice (some ⟨g1, 0, none⟩) (k + 1) cp1)
             have hs1 := lt_of_block hbx1)
          | (at_builtin; refine wpList_append_one (w1.setCell ⟨w.heap.size, 1, none⟩ (.slice (some ⟨g1, 0, none⟩) (k + 1) cp1)) rfl _ _ 25 rfl 3 i0 (.int .i64 0) (.int .i64 (-1)) 8 Tryz.underlying25 hi hz0 hz1 hz2 rfl (by decide) (w.heap.size + 1) s2 k _ rfl p2 _ (World.size_setCell _ _ _).symm rfl rfl hkn hs1 ?_; intro g2 cp2 w2 n2 ht2 hl2
             have hb2 := field_box hbx1 p2 ht2
             have v2 : w2.cell? ⟨w.heap.size, 2, none⟩ = some s2 := by rw [cell_of hb2]; rfl
             have v3 : w2.cell? ⟨w.heap.size, 3, none⟩ = some s3 := by rw [cell_of hb2]; rfl
             have f2 := frozen_of hb2
             have q2 := field_own n2 2 (.slice (some ⟨g2, 0, none⟩) (k + 1) cp2); have q1 := field_other p1 e12.symm ht2 2 (.slice (some ⟨g2, 0, none⟩) (k + 1) cp2); have q3 := field_other p3 d23 ht2 2 (.slice (some ⟨g2, 0, none⟩) (k + 1) cp2)
             have k12 := (field_apart p1 e12.symm hl2).symm; have k23 := field_apart p3 d23 hl2
             have t2 := field_touch p2 ht2 2 (.slice (some ⟨g2, 0, none⟩) (k + 1) cp2)
             have hbx2 : (w2.setCell ⟨w.heap.size, 2, none⟩ (.slice (some ⟨g2, 0, none⟩) (k + 1) cp2)).heap[w.heap.size]? = some (.cells #[.int .i64 0, (.slice (some ⟨g1, 0, none⟩) (k + 1) cp1), (.slice (some ⟨g2, 0, none⟩) (k + 1) cp2), s3] 148 (0, 0)) := heap_set hb2 (.slice (some ⟨g2, 0, none⟩) (k + 1) cp2)
             have hs2 := lt_of_block hbx2)
          | (at_builtin; refine wpList_append_one (w2.setCell ⟨w.heap.size, 2, none⟩ (.slice (some ⟨g2, 0, none⟩) (k + 1) cp2)) rfl _ _ 25 rfl 3 i0 (.int .i64 0) (.int .i64 (-1)) 8 Tryz.underlying25 hi hz0 hz1 hz2 rfl (by decide) (w.heap.size + 1) s3 k _ rfl q3 _ (World.size_setCell _ _ _).symm rfl rfl hkn hs2 ?_; intro g3 cp3 w3 n3 ht3 hl3
             have hb3 := field_box hbx2 q3 ht3
             have y3 : w3.cell? ⟨w.heap.size, 3, none⟩ = some s3 := by rw [cell_of hb3]; rfl
             have f3 := frozen_of hb3
             have r3 := field_own n3 3 (.slice (some ⟨g3, 0, none⟩) (k + 1) cp3); have r1 := field_other q1 e13.symm ht3 3 (.slice (some ⟨g3, 0, none⟩) (k + 1) cp3); have r2 := field_other q2 k23.symm ht3 3 (.slice (some ⟨g3, 0, none⟩) (k + 1) cp3)
             have j13 := (field_apart q1 e13.symm hl3).symm; have j23 := (field_apart q2 k23.symm hl3).symm
             have t3 := field_touch q3 ht3 3 (.slice (some ⟨g3, 0, none⟩) (k + 1) cp3)
             have hbx3 : (w3.setCell ⟨w.heap.size, 3, none⟩ (.slice (some ⟨g3, 0, none⟩) (k + 1) cp3)).heap[w.heap.size]? = some (.cells #[.int .i64 0, (.slice (some ⟨g1, 0, none⟩) (k + 1) cp1), (.slice (some ⟨g2, 0, none⟩) (k + 1) cp2), (.slice (some ⟨g3, 0, none⟩) (k + 1) cp3)] 148 (0, 0)) := heap_set hb3 (.slice (some ⟨g3, 0, none⟩) (k + 1) cp3)))
        go_roundw
        case rel => exact ⟨k + 1, _, _, _, by omega, by go_num, hbx3, by rw [ints_succ]; exact r1, by rw [ints_succ]; exact r2, by rw [ints_succ]; exact r3, k12, j13, j23, below_touchB (below_touchB (below_touchB hbr t1 hB) t2 (Nat.le_of_lt hs1)) t3 (Nat.le_of_lt hs2)⟩
        case measure => simp [intOf]; omega
      · obtain rfl : k = n.toNat := by omega
        have hge : ¬ ((n.toNat : Int) < n) := by omega
        have hfin : RClkAt wr w.heap.size (Clk.new n) := by
          rcases ownsRow_row o1 with ⟨_, h, _⟩ | ⟨g1, c1, rfl, l1, _, _, _, R1⟩; · omega
          rcases ownsRow_row o2 with ⟨_, h, _⟩ | ⟨g2, c2, rfl, l2, _, _, _, R2⟩; · omega
          rcases ownsRow_row o3 with ⟨_, h, _⟩ | ⟨g3, c3, rfl, l3, _, _, _, R3⟩; · omega
          exact ⟨g1, g2, g3, c1, c2, c3, ⟨hbox, R1, R2, R3, l1, l2, l3, fun e => d12 g1 rfl (by rw [e]; rfl), fun e => d13 g1 rfl (by rw [e]; rfl), fun e => d23 g2 rfl (by rw [e]; rfl), h1⟩⟩
        clear o1 o2 o3 d12 d13 d23 hbox
        go_wp2
        go_meet
        exact ⟨hfin, hbr⟩
  case rest =>
    obtain ⟨hr, hbr⟩ := hcut
    go_wp2
    go_ret2
    exact ⟨rfl, hr, hbr⟩

/-! Is, Step, Enter, Flush -/
def Clk.isB (c : Clk) (i : Int) : Bool := decide (0 ≤ i) && decide (i < c.n)

theorem r3_is (v : Nat) (c : Clk) (i : Int) (w : World) (h : RClkAt w v c) :
    Calls Tryz.prog 181 #[.pointer (some ⟨v, 0, none⟩), .int .i64 i] w fun e w' => e = .returned (.bool (c.isB i)) ∧ w = w' := by
  obtain ⟨b1, b2, b3, c1, c2, c3, h⟩ := h
  obtain ⟨g0, g1, g2, g3⟩ := h.cells
  have n1 := h.n1
  unfold Clk.isB
  by_cases hi : 0 ≤ i
  · by_cases h2 : i < c.n
    · have h3 : i < ((c.n.toNat : Nat) : Int) := by omega
      go_enter Tryz.func181, Tryz.ntmps181
      go_wp2
      go_ret
      exact ⟨ret_bool (by rw [Bool.eq_iff_iff]; simp; omega), rfl⟩
    · have h3 : ¬ i < ((c.n.toNat : Nat) : Int) := by omega
      go_enter Tryz.func181, Tryz.ntmps181
      go_wp2
      go_ret
      exact ⟨ret_bool (by rw [Bool.eq_iff_iff]; simp; omega), rfl⟩
  · go_enter Tryz.func181, Tryz.ntmps181
    go_wp2
    go_ret
    exact ⟨ret_bool (by rw [Bool.eq_iff_iff]; simp; omega), rfl⟩

theorem Clk.isB_can {c : Clk} (n1 : 1 ≤ c.n) (i : Int) : (c.isB i = true ∧ c.can i = 0) ∨ (c.isB i = false ∧ c.can i = 1) := by
  unfold Clk.isB Clk.can
  by_cases h0 : 0 ≤ i
  · by_cases h1 : i < c.n
    · left; simp [h0, h1]; omega
    · right; simp [h0, h1]; omega
  · right; simp [h0]; omega

theorem RClk.set {w w' : World} {v : Nat} {c c' : Clk} {b1 b2 b3 c1 c2 c3 : Nat} (h : RClk w v c b1 b2 b3 c1 c2 c3) (hn : c'.n = c.n)
    (hb : w'.heap[v]? = some (.cells #[.int .i64 c'.now, .slice (some ⟨b1, 0, none⟩) c.n.toNat c1, .slice (some ⟨b2, 0, none⟩) c.n.toNat c2, .slice (some ⟨b3, 0, none⟩) c.n.toNat c3] 148 (0, 0)))
    (r1 : Row w' b1 3 (ints c'.cy c.n.toNat)) (r2 : Row w' b2 3 (ints c'.en c.n.toNat)) (r3 : Row w' b3 3 (ints c'.fl c.n.toNat)) : RClkAt w' v c' :=
  ⟨b1, b2, b3, c1, c2, c3, ⟨by rw [hn]; exact hb, by rw [hn]; exact r1, by rw [hn]; exact r2, by rw [hn]; exact r3, h.v1, h.v2, h.v3, h.d12, h.d13, h.d23, by rw [hn]; exact h.n1⟩⟩


set_option maxHeartbeats 1000000 in
theorem r3_step (v : Nat) (c : Clk) (i : Int) (w : World) (H : RClkAt w v c) (ok : c.Ok) :
    Calls Tryz.prog 81 #[.pointer (some ⟨v, 0, none⟩), .int .i64 i] w fun e w' =>
      e = .returned (.int .i64 (c.stepE i)) ∧ RClkAt w' v (c.step i) ∧ Touch (fun k => v ≤ k) w w' := by
  have n1 : 1 ≤ c.n := by obtain ⟨_, _, _, _, _, _, h⟩ := H; exact h.n1
  rcases Clk.isB_can n1 i with ⟨hI, hc⟩ | ⟨hI, hc⟩
  · obtain ⟨_, hlt0, hltn⟩ := Clk.can_zero hc
    obtain ⟨b1, b2, b3, c1, c2, c3, h⟩ := id H
    obtain ⟨g0, g1, g2, g3⟩ := h.cells
    have t0 := ok.t0; have t1 := ok.t1; have y0 := ok.cy0 i.toNat; have y1 := ok.cy1 i.toNat; have n4 := ok.n4
    have hr := h.r1.at (ints_at (f := c.cy) (n := c.n.toNat) (j := i.toNat) (by omega))
    have fr := h.r1.free
    have fv := frozen_of h.box
    have hlt2 : i < ((c.n.toNat : Nat) : Int) := by omega
    have hv1 := h.v1
    have ne1 : b1 ≠ v := by omega
    have HI := Lib.hid hI; clear hI
    by_cases ht : 1073741824 ≤ c.now
    · obtain ⟨e1, e2⟩ := Clk.late hc ht
      rw [e1, e2]; clear e1 e2 hc
      go_enter Tryz.func81, Tryz.ntmps81
      go_wp2_with ((go_at_call 181; (with_reducible refine (r3_is _ c i _ H).mono ?_); rintro e w' ⟨rfl, rfl⟩); rw [HI.out])
      go_ret
      exact ⟨rfl, H, Touch.refl _ _⟩
    · obtain ⟨e1, e2⟩ := Clk.goes hc ht
      rw [e1, e2]; clear e1 e2 hc
      go_enter Tryz.func81, Tryz.ntmps81
      go_wp2_with ((go_at_call 181; (with_reducible refine (r3_is _ c i _ H).mono ?_); rintro e w' ⟨rfl, rfl⟩); rw [HI.out])
      go_ret
      refine ⟨rfl, h.set (c' := { c with now := c.now + 1, cy := upd c.cy i.toNat (c.cy i.toNat + 1) }) rfl (heap_set_ne (heap_set h.box _) _ (by omega)) ?_ ((h.r2.keep _ (by have := h.v2; omega)).keep _ (Ne.symm h.d12)) ((h.r3.keep _ (by have := h.v3; omega)).keep _ (Ne.symm h.d13)), by (repeat' (first | (with_reducible exact Touch.refl _ _) | (with_reducible assumption) | (with_reducible refine Touch.drew ?_) | (with_reducible refine Touch.drewN ?_ _) | (with_reducible refine Touch.alloc ?_ _) | (with_reducible refine Touch.setCell ?_ _ _ _ ?_) | (with_reducible refine Touch.step (by assumption) ?_) | (with_reducible refine Touch.stepT (by assumption) ?_ ?_) | (intro _; first | rfl | trivial | omega | (simp; done) | (simp; omega)) | (intro _ _; first | omega | (simp; done) | (simp; omega))))⟩
      rw [← ints_set]
      exact (h.r1.keep _ (by omega)).set (by rw [ints_length]; omega) _
  · obtain ⟨m1, m2, m3, m4, m5, m6, m7⟩ := Clk.no hc (by omega)
    rw [m1, m2]
    clear m1 m2 m3 m4 m5 m6 m7
    have HI := Lib.hid hI
    clear hc hI
    go_enter Tryz.func81, Tryz.ntmps81
    go_wp2_with ((go_at_call 181; (with_reducible refine (r3_is _ c i _ H).mono ?_); rintro e w' ⟨rfl, rfl⟩); rw [HI.out])
    go_ret
    exact ⟨rfl, H, Touch.refl _ _⟩

set_option maxHeartbeats 1000000 in
theorem r3_enter (v : Nat) (c : Clk) (i : Int) (w : World) (H : RClkAt w v c) (ok : c.Ok) :
    Calls Tryz.prog 83 #[.pointer (some ⟨v, 0, none⟩), .int .i64 i] w fun e w' =>
      e = .returned (.int .i64 (c.can i)) ∧ RClkAt w' v (c.enter i) ∧ Touch (fun k => v ≤ k) w w' := by
  have n1 : 1 ≤ c.n := by obtain ⟨_, _, _, _, _, _, h⟩ := H; exact h.n1
  rcases Clk.isB_can n1 i with ⟨hI, hc⟩ | ⟨hI, hc⟩
  · obtain ⟨_, hlt0, hltn⟩ := Clk.can_zero hc
    obtain ⟨b1, b2, b3, c1, c2, c3, h⟩ := id H
    obtain ⟨g0, g1, g2, g3⟩ := h.cells
    have hr := (h.r2).at (ints_at (n := c.n.toNat) (j := i.toNat) (by omega))
    have fr := (h.r2).free
    have hlt2 : i < ((c.n.toNat : Nat) : Int) := by omega
    have hv1 := h.v1; have hv2 := h.v2; have hv3 := h.v3
    have HI := Lib.hid hI; clear hI
    obtain ⟨e1, e2, _⟩ := Clk.yes hc
    rw [e1, hc]; clear e1 e2 hc
    go_enter Tryz.func83, Tryz.ntmps83
    go_wp2_with ((go_at_call 181; (with_reducible refine (r3_is _ c i _ H).mono ?_); rintro e w' ⟨rfl, rfl⟩); rw [HI.out])
    go_region
    go_wp2
    go_ret
    refine ⟨rfl, h.set (c' := { c with en := upd c.en i.toNat c.now }) rfl (heap_set_ne h.box _ (by omega)) ?_ ?_ ?_, by (repeat' (first | (with_reducible exact Touch.refl _ _) | (with_reducible assumption) | (with_reducible refine Touch.drew ?_) | (with_reducible refine Touch.drewN ?_ _) | (with_reducible refine Touch.alloc ?_ _) | (with_reducible refine Touch.setCell ?_ _ _ _ ?_) | (with_reducible refine Touch.step (by assumption) ?_) | (with_reducible refine Touch.stepT (by assumption) ?_ ?_) | (intro _; first | rfl | trivial | omega | (simp; done) | (simp; omega)) | (intro _ _; first | omega | (simp; done) | (simp; omega))))⟩
    · first | exact h.r1.keep _ (by first | exact h.d12 | exact h.d13)
    · first | exact h.r2.keep _ (by first | exact h.d23) | (rw [← ints_set]; exact h.r2.set (by rw [ints_length]; omega) _)
    · first | exact h.r3.keep _ (by first | exact Ne.symm h.d23) | (rw [← ints_set]; exact h.r3.set (by rw [ints_length]; omega) _)
  · obtain ⟨m1, m2, m3, m4, m5, m6, m7⟩ := Clk.no hc (by omega)
    rw [m3, hc]
    clear m1 m2 m3 m4 m5 m6 m7
    have HI := Lib.hid hI
    clear hc hI
    go_enter Tryz.func83, Tryz.ntmps83
    go_wp2_with ((go_at_call 181; (with_reducible refine (r3_is _ c i _ H).mono ?_); rintro e w' ⟨rfl, rfl⟩); rw [HI.out])
    go_ret
    exact ⟨rfl, H, Touch.refl _ _⟩
set_option maxHeartbeats 1000000 in
theorem r3_flush (v : Nat) (c : Clk) (i : Int) (w : World) (H : RClkAt w v c) (ok : c.Ok) :
    Calls Tryz.prog 177 #[.pointer (some ⟨v, 0, none⟩), .int .i64 i] w fun e w' =>
      e = .returned (.int .i64 (c.can i)) ∧ RClkAt w' v (c.flush i) ∧ Touch (fun k => v ≤ k) w w' := by
  have n1 : 1 ≤ c.n := by obtain ⟨_, _, _, _, _, _, h⟩ := H; exact h.n1
  rcases Clk.isB_can n1 i with ⟨hI, hc⟩ | ⟨hI, hc⟩
  · obtain ⟨_, hlt0, hltn⟩ := Clk.can_zero hc
    obtain ⟨b1, b2, b3, c1, c2, c3, h⟩ := id H
    obtain ⟨g0, g1, g2, g3⟩ := h.cells
    have hr := (h.r3).at (ints_at (n := c.n.toNat) (j := i.toNat) (by omega))
    have fr := (h.r3).free
    have hlt2 : i < ((c.n.toNat : Nat) : Int) := by omega
    have hv1 := h.v1; have hv2 := h.v2; have hv3 := h.v3
    have HI := Lib.hid hI; clear hI
    obtain ⟨e1, e2, _⟩ := Clk.yes hc
    rw [e2, hc]; clear e1 e2 hc
    go_enter Tryz.func177, Tryz.ntmps177
    go_wp2_with ((go_at_call 181; (with_reducible refine (r3_is _ c i _ H).mono ?_); rintro e w' ⟨rfl, rfl⟩); rw [HI.out])
    go_region
    go_wp2
    go_ret
    refine ⟨rfl, h.set (c' := { c with fl := upd c.fl i.toNat c.now }) rfl (heap_set_ne h.box _ (by omega)) ?_ ?_ ?_, by (repeat' (first | (with_reducible exact Touch.refl _ _) | (with_reducible assumption) | (with_reducible refine Touch.drew ?_) | (with_reducible refine Touch.drewN ?_ _) | (with_reducible refine Touch.alloc ?_ _) | (with_reducible refine Touch.setCell ?_ _ _ _ ?_) | (with_reducible refine Touch.step (by assumption) ?_) | (with_reducible refine Touch.stepT (by assumption) ?_ ?_) | (intro _; first | rfl | trivial | omega | (simp; done) | (simp; omega)) | (intro _ _; first | omega | (simp; done) | (simp; omega))))⟩
    · first | exact h.r1.keep _ (by first | exact h.d12 | exact h.d13)
    · first | exact h.r2.keep _ (by first | exact h.d23) | (rw [← ints_set]; exact h.r2.set (by rw [ints_length]; omega) _)
    · first | exact h.r3.keep _ (by first | exact Ne.symm h.d23) | (rw [← ints_set]; exact h.r3.set (by rw [ints_length]; omega) _)
  · obtain ⟨m1, m2, m3, m4, m5, m6, m7⟩ := Clk.no hc (by omega)
    rw [m4, hc]
    clear m1 m2 m3 m4 m5 m6 m7
    have HI := Lib.hid hI
    clear hc hI
    go_enter Tryz.func177, Tryz.ntmps177
    go_wp2_with ((go_at_call 181; (with_reducible refine (r3_is _ c i _ H).mono ?_); rintro e w' ⟨rfl, rfl⟩); rw [HI.out])
    go_ret
    exact ⟨rfl, H, Touch.refl _ _⟩

/-! least, Floor -/
set_option maxHeartbeats 1000000 in
theorem r3_least (b cap : Nat) (f : Nat → Int) (n : Nat) (w : World) (h : Row w b 3 (ints f n)) (h1 : 1 ≤ n) (h4 : n ≤ 4) :
    Calls Tryz.prog 191 #[.slice (some ⟨b, 0, none⟩) n cap] w fun e w' => e = .returned (.int .i64 (leastN f (n - 1))) ∧ w = w' := by
  have g0 := h.at (ints_at (f := f) (n := n) (j := 0) (by omega))
  have hn0 : (0 : Int) < (n : Int) := by omega
  go_enter Tryz.func191, Tryz.ntmps191
  go_wp2
  go_loop [3, 4] (fun m i => ∃ k : Nat, k ≤ n ∧ i = .int .i64 k ∧ m = .int .i64 (leastN f (k - 1))) (fun _ i => n - (intOf i).toNat)
  case atStart => exact ⟨0, by omega, rfl, rfl⟩
  case round =>
    obtain ⟨k, hk, rfl, rfl⟩ := hrel
    by_cases hlt : k < n
    · have hlt' : (k : Int) < (n : Int) := by omega
      have gk := h.at (ints_at (f := f) (n := n) (j := k) hlt)
      go_wp2
      all_goals
        go_round
        case rel =>
          refine ⟨k + 1, by omega, by go_num, ?_⟩
          cases k with
          | zero => simp [leastN] at *
          | succ k => simp only [leastN, Nat.add_sub_cancel] at *; congr 1; omega
        case measure => simp [intOf]; omega
    · obtain rfl : k = n := by omega
      go_wp2
      go_ret
      exact ⟨rfl, rfl⟩

set_option maxHeartbeats 1000000 in
theorem r3_floor (v : Nat) (c : Clk) (w : World) (H : RClkAt w v c) (ok : c.Ok) :
    Calls Tryz.prog 94 #[.pointer (some ⟨v, 0, none⟩)] w fun e w' =>
      e = .returned (.tuple #[.int .i64 c.floorE, .int .i64 c.floorF]) ∧ Below w.heap.size w w' := by
  obtain ⟨b1, b2, b3, c1, c2, c3, h⟩ := H
  obtain ⟨g0, g1, g2, g3⟩ := h.cells
  have n1 := h.n1; have n4 := ok.n4
  have hn : c.n ≠ 0 := by omega
  have hlv := lt_of_block h.box
  rw [Clk.floorE, Clk.floorF, if_neg hn, if_neg hn]
  have e : (c.n - 1).toNat = c.n.toNat - 1 := by omega
  rw [e]; clear e hn
  have hN1 : 1 ≤ c.n.toNat := by omega
  have hN4 : c.n.toNat ≤ 4 := by omega
  go_enter Tryz.func94, Tryz.ntmps94
  go_wp2
  (refine wp_region_calm (by kernel_rfl) (by kernel_rfl) ?_; (repeat (go_big_quiet_step ((first | (go_at_call 191; first | (with_reducible refine Calls.calm_of (r3_least b2 _ c.en _ _ (h.r2.after (After.h _)) hN1 hN4)) | (with_reducible refine Calls.calm_of_same (r3_least b2 _ c.en _ _ (h.r2.after (After.h _)) hN1 hN4))) | (go_at_call 191; first | (with_reducible refine Calls.calm_of (r3_least b3 _ c.fl _ _ (h.r3.after (After.h _)) hN1 hN4)) | (with_reducible refine Calls.calm_of_same (r3_least b3 _ c.fl _ _ (h.r3.after (After.h _)) hN1 hN4))))))); refine wpQuiet_nil ?_; intro _ hw'; obtain ⟨wq, hw''⟩ := hw'; subst hw''; obtain ⟨wq, hbq⟩ := wq; try dsimp only at *)
  go_wp2
  go_ret2
  exact ⟨rfl, by (refine Touch.below0 ?_; (repeat' (first | (with_reducible exact Touch.refl _ _) | (with_reducible assumption) | (with_reducible refine Touch.drew ?_) | (with_reducible refine Touch.drewN ?_ _) | (with_reducible refine Touch.alloc ?_ _) | (with_reducible refine Touch.setCell ?_ _ _ _ ?_) | (with_reducible refine Touch.step (by assumption) ?_) | (with_reducible refine Touch.stepT (by assumption) ?_ ?_) | (intro _; first | rfl | trivial | omega | (simp; done) | (simp; omega)) | (intro _ _; first | omega | (simp; done) | (simp; omega)))))⟩
end Go.Proofs.YtmahledpcpdldaaGreat
