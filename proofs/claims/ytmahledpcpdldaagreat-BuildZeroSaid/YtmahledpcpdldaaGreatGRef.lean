/- Several texts in one: RNew, RMem. -/
import Derived.Test.YtmahledpcpdldaaGreatProg
import Derived.Test.YtmahledpcpdldaaGreatRows3
import Derived.Deep.DeepCutAuto
import Derived.Deep.Cut
import Derived.Deep.CutBlock
import Derived.Test.YtmahledpcpdldaaGreatMem2
/- RNew -/
set_option linter.unusedVariables false
set_option linter.unusedSimpArgs false
namespace Go.Proofs.YtmahledpcpdldaaGreat
open Go.RowKit

/-- The cells us, k times. -/
def reps (us : Array Value) : Nat → List Value
  | 0 => []
  | k + 1 => reps us k ++ us.toList
theorem reps_len (us : Array Value) : ∀ n, (reps us n).length = n * us.size
  | 0 => by simp [reps]
  | n + 1 => by simp [reps, reps_len us n, Nat.add_mul]
theorem reps_at (us : Array Value) : ∀ {n f o : Nat}, f < n → o < us.size → (reps us n)[f * us.size + o]? = us[o]?
  | 0, f, o, h, _ => by omega
  | n + 1, f, o, h, ho => by
    unfold reps
    rcases Nat.lt_or_ge f n with h1 | h1
    · have : f * us.size + o < n * us.size := by
        have : (f + 1) * us.size ≤ n * us.size := Nat.mul_le_mul_right _ (by omega)
        rw [Nat.add_mul] at this; omega
      rw [List.getElem?_append_left (by rw [reps_len]; exact this)]; exact reps_at us h1 ho
    · obtain rfl : f = n := by omega
      rw [List.getElem?_append_right (by rw [reps_len]; omega), reps_len, show f * us.size + o - f * us.size = o by omega]; simp

theorem Tryz.infor5_new : (Tryz.prog.info? 150).map (fun i => (i.zero, i.size, i.bytes)) = some (some (.int .u64 0), 1, 8) := by kernel_rfl
set_option maxHeartbeats 4000000 in
set_option maxRecDepth 100000 in
theorem r5_new (w : World) : Calls Tryz.prog 68 #[] w fun e w' =>
    ∃ g cap, e = .returned (.pointer (some ⟨w.heap.size, 0, none⟩)) ∧ w'.heap[w.heap.size]? = some (.cells #[.slice (some ⟨g, 0, none⟩) 8 cap] 165 (0, 0)) ∧ Row w' g 150 (reps #[.int .u64 0] 8) ∧ w.heap.size < g ∧ Below w.heap.size w w' := by
  obtain ⟨i0, hi, hz0, hz1, hz2⟩ := info_parts Tryz.infor5_new
  go_enter Tryz.func68, Tryz.ntmps68
  go_upto_block 0 with (fail)
  go_cut [] (fun wr => ∃ g cap, wr.heap[w.heap.size]? = some (.cells #[.slice (some ⟨g, 0, none⟩) 8 cap] 165 (0, 0)) ∧ Row wr g 150 (reps #[.int .u64 0] 8) ∧ w.heap.size < g ∧ Below w.heap.size w wr)
  case first =>
    go_wp2
    go_loopw [2] (fun i wr => ∃ (k : Nat) (s : Value), k ≤ 8 ∧ i = .int .i64 k ∧ wr.heap[w.heap.size]? = some (.cells #[s] 165 (0, 0)) ∧
      wr.ownsRow (w.heap.size + 1) 150 1 s k (reps #[.int .u64 0] k) ∧ Below w.heap.size w wr) (fun i _ => 8 - (intOf i).toNat)
    case atStart => exact ⟨0, .slice none 0 0, by omega, rfl, heap_new _ _, World.ownsRow_nil _ _ _ _, by (refine Touch.below0 ?_; (repeat' (first | (with_reducible exact Touch.refl _ _) | (with_reducible assumption) | (with_reducible refine Touch.drew ?_) | (with_reducible refine Touch.drewN ?_ _) | (with_reducible refine Touch.alloc ?_ _) | (with_reducible refine Touch.setCell ?_ _ _ _ ?_) | (with_reducible refine Touch.step (by assumption) ?_) | (with_reducible refine Touch.stepT (by assumption) ?_ ?_) | (intro _; first | rfl | trivial | omega | (simp; done) | (simp; omega)) | (intro _ _; first | omega | (simp; done) | (simp; omega)))))⟩
    case round =>
      obtain ⟨k, s, hk, rfl, hbox, o1, hbr⟩ := hrel
      by_cases hlt : k < 8
      · have hlt' : (k : Int) < 8 := by omega
        have hB1 : w.heap.size + 1 ≤ wr.heap.size := lt_of_block hbox
        have hkn : k < 1000000 := by omega
        have g1 : wr.cell? ⟨w.heap.size, 0, none⟩ = some s := by rw [cell_of hbox]; rfl
        go_wp2_with (at_builtin; refine wpList_append_agg wr rfl _ _ 160 rfl 150 i0 (.int .u64 0) #[.int .u64 0] 1 8 Tryz.underlying160 hi hz0 hz1 hz2 rfl rfl (by decide) (by decide) (w.heap.size + 1) s k _ rfl o1 _ rfl rfl (by kernel_rfl) hkn hB1 ?_; intro g2 cp2 w2 n2 ht2 hl2
                     have hb3 := field_box hbox o1 ht2
                     have g3 : w2.cell? ⟨w.heap.size, 0, none⟩ = some s := by rw [cell_of hb3]; rfl
                     have f3 := frozen_of hb3
                     have p1 := field_own n2 0 (.slice (some ⟨g2, 0, none⟩) (k + 1) cp2)
                     have t1 := field_touch o1 ht2 0 (.slice (some ⟨g2, 0, none⟩) (k + 1) cp2)
                     have hbx : (w2.setCell ⟨w.heap.size, 0, none⟩ (.slice (some ⟨g2, 0, none⟩) (k + 1) cp2)).heap[w.heap.size]? = some (.cells #[(.slice (some ⟨g2, 0, none⟩) (k + 1) cp2)] 165 (0, 0)) := heap_set hb3 (.slice (some ⟨g2, 0, none⟩) (k + 1) cp2))
        go_roundw
        case rel => exact ⟨k + 1, _, by omega, by go_num, hbx, p1, below_touchB hbr t1 (Nat.le_of_lt hB1)⟩
        case measure => simp [intOf]; omega
      · obtain rfl : 8 = k := by omega
        have hfin : ∃ g cap, wr.heap[w.heap.size]? = some (.cells #[.slice (some ⟨g, 0, none⟩) 8 cap] 165 (0, 0)) ∧ Row wr g 150 (reps #[.int .u64 0] 8) ∧ w.heap.size < g := by
          rcases ownsRow_row o1 with ⟨_, h, _⟩ | ⟨g1, c1, rfl, l1, _, _, _, R1⟩
          · omega
          · exact ⟨g1, c1, hbox, R1, by omega⟩
        obtain ⟨g, cap, hf, hr, hg⟩ := hfin
        clear o1 hbox
        go_wp2
        go_meet
        exact ⟨g, cap, hf, hr, hg, hbr⟩
  case rest =>
    obtain ⟨g, cap, ht, hr, hg, hbr⟩ := hcut
    go_wp2
    go_ret
    exact ⟨g, cap, rfl, ht, hr, hg, hbr⟩
theorem Tryz.infor23_new : (Tryz.prog.info? 3).map (fun i => (i.zero, i.size, i.bytes)) = some (some (.int .i64 0), 1, 8) := by kernel_rfl
set_option maxHeartbeats 4000000 in
set_option maxRecDepth 100000 in
theorem r23_new (w : World) : Calls Tryz.prog 63 #[] w fun e w' =>
    ∃ g cap, e = .returned (.pointer (some ⟨w.heap.size, 0, none⟩)) ∧ w'.heap[w.heap.size]? = some (.cells #[.slice (some ⟨g, 0, none⟩) 8 cap] 269 (0, 0)) ∧ Row w' g 3 (reps #[.int .i64 0] 8) ∧ w.heap.size < g ∧ Below w.heap.size w w' := by
  obtain ⟨i0, hi, hz0, hz1, hz2⟩ := info_parts Tryz.infor23_new
  go_enter Tryz.func63, Tryz.ntmps63
  go_upto_block 0 with (fail)
  go_cut [] (fun wr => ∃ g cap, wr.heap[w.heap.size]? = some (.cells #[.slice (some ⟨g, 0, none⟩) 8 cap] 269 (0, 0)) ∧ Row wr g 3 (reps #[.int .i64 0] 8) ∧ w.heap.size < g ∧ Below w.heap.size w wr)
  case first =>
    go_wp2
    go_loopw [2] (fun i wr => ∃ (k : Nat) (s : Value), k ≤ 8 ∧ i = .int .i64 k ∧ wr.heap[w.heap.size]? = some (.cells #[s] 269 (0, 0)) ∧
      wr.ownsRow (w.heap.size + 1) 3 1 s k (reps #[.int .i64 0] k) ∧ Below w.heap.size w wr) (fun i _ => 8 - (intOf i).toNat)
    case atStart => exact ⟨0, .slice none 0 0, by omega, rfl, heap_new _ _, World.ownsRow_nil _ _ _ _, by (refine Touch.below0 ?_; (repeat' (first | (with_reducible exact Touch.refl _ _) | (with_reducible assumption) | (with_reducible refine Touch.drew ?_) | (with_reducible refine Touch.drewN ?_ _) | (with_reducible refine Touch.alloc ?_ _) | (with_reducible refine Touch.setCell ?_ _ _ _ ?_) | (with_reducible refine Touch.step (by assumption) ?_) | (with_reducible refine Touch.stepT (by assumption) ?_ ?_) | (intro _; first | rfl | trivial | omega | (simp; done) | (simp; omega)) | (intro _ _; first | omega | (simp; done) | (simp; omega)))))⟩
    case round =>
      obtain ⟨k, s, hk, rfl, hbox, o1, hbr⟩ := hrel
      by_cases hlt : k < 8
      · have hlt' : (k : Int) < 8 := by omega
        have hB1 : w.heap.size + 1 ≤ wr.heap.size := lt_of_block hbox
        have hkn : k < 1000000 := by omega
        have g1 : wr.cell? ⟨w.heap.size, 0, none⟩ = some s := by rw [cell_of hbox]; rfl
        go_wp2_with (at_builtin; refine wpList_append_agg wr rfl _ _ 25 rfl 3 i0 (.int .i64 0) #[.int .i64 0] 1 8 Tryz.underlying25 hi hz0 hz1 hz2 rfl rfl (by decide) (by decide) (w.heap.size + 1) s k _ rfl o1 _ rfl rfl (by kernel_rfl) hkn hB1 ?_; intro g2 cp2 w2 n2 ht2 hl2
                     have hb3 := field_box hbox o1 ht2
                     have g3 : w2.cell? ⟨w.heap.size, 0, none⟩ = some s := by rw [cell_of hb3]; rfl
                     have f3 := frozen_of hb3
                     have p1 := field_own n2 0 (.slice (some ⟨g2, 0, none⟩) (k + 1) cp2)
                     have t1 := field_touch o1 ht2 0 (.slice (some ⟨g2, 0, none⟩) (k + 1) cp2)
                     have hbx : (w2.setCell ⟨w.heap.size, 0, none⟩ (.slice (some ⟨g2, 0, none⟩) (k + 1) cp2)).heap[w.heap.size]? = some (.cells #[(.slice (some ⟨g2, 0, none⟩) (k + 1) cp2)] 269 (0, 0)) := heap_set hb3 (.slice (some ⟨g2, 0, none⟩) (k + 1) cp2))
        go_roundw
        case rel => exact ⟨k + 1, _, by omega, by go_num, hbx, p1, below_touchB hbr t1 (Nat.le_of_lt hB1)⟩
        case measure => simp [intOf]; omega
      · obtain rfl : 8 = k := by omega
        have hfin : ∃ g cap, wr.heap[w.heap.size]? = some (.cells #[.slice (some ⟨g, 0, none⟩) 8 cap] 269 (0, 0)) ∧ Row wr g 3 (reps #[.int .i64 0] 8) ∧ w.heap.size < g := by
          rcases ownsRow_row o1 with ⟨_, h, _⟩ | ⟨g1, c1, rfl, l1, _, _, _, R1⟩
          · omega
          · exact ⟨g1, c1, hbox, R1, by omega⟩
        obtain ⟨g, cap, hf, hr, hg⟩ := hfin
        clear o1 hbox
        go_wp2
        go_meet
        exact ⟨g, cap, hf, hr, hg, hbr⟩
  case rest =>
    obtain ⟨g, cap, ht, hr, hg, hbr⟩ := hcut
    go_wp2
    go_ret
    exact ⟨g, cap, rfl, ht, hr, hg, hbr⟩
theorem Tryz.infor7_new : (Tryz.prog.info? 189).map (fun i => (i.zero, i.size, i.bytes)) = some (some (.agg #[.bool false, .int .i64 0, .bool false, .int .i64 0]), 4, 32) := by kernel_rfl
set_option maxHeartbeats 4000000 in
set_option maxRecDepth 100000 in
theorem r7_new (w : World) : Calls Tryz.prog 62 #[] w fun e w' =>
    ∃ g cap, e = .returned (.pointer (some ⟨w.heap.size, 0, none⟩)) ∧ w'.heap[w.heap.size]? = some (.cells #[.slice (some ⟨g, 0, none⟩) 64 cap] 187 (0, 0)) ∧ Row w' g 189 (reps #[.bool false, .int .i64 0, .bool false, .int .i64 0] 64) ∧ w.heap.size < g ∧ Below w.heap.size w w' := by
  obtain ⟨i0, hi, hz0, hz1, hz2⟩ := info_parts Tryz.infor7_new
  go_enter Tryz.func62, Tryz.ntmps62
  go_upto_block 0 with (fail)
  go_cut [] (fun wr => ∃ g cap, wr.heap[w.heap.size]? = some (.cells #[.slice (some ⟨g, 0, none⟩) 64 cap] 187 (0, 0)) ∧ Row wr g 189 (reps #[.bool false, .int .i64 0, .bool false, .int .i64 0] 64) ∧ w.heap.size < g ∧ Below w.heap.size w wr)
  case first =>
    go_wp2
    go_loopw [2] (fun i wr => ∃ (k : Nat) (s : Value), k ≤ 64 ∧ i = .int .i64 k ∧ wr.heap[w.heap.size]? = some (.cells #[s] 187 (0, 0)) ∧
      wr.ownsRow (w.heap.size + 1) 189 4 s k (reps #[.bool false, .int .i64 0, .bool false, .int .i64 0] k) ∧ Below w.heap.size w wr) (fun i _ => 64 - (intOf i).toNat)
    case atStart => exact ⟨0, .slice none 0 0, by omega, rfl, heap_new _ _, World.ownsRow_nil _ _ _ _, by (refine Touch.below0 ?_; (repeat' (first | (with_reducible exact Touch.refl _ _) | (with_reducible assumption) | (with_reducible refine Touch.drew ?_) | (with_reducible refine Touch.drewN ?_ _) | (with_reducible refine Touch.alloc ?_ _) | (with_reducible refine Touch.setCell ?_ _ _ _ ?_) | (with_reducible refine Touch.step (by assumption) ?_) | (with_reducible refine Touch.stepT (by assumption) ?_ ?_) | (intro _; first | rfl | trivial | omega | (simp; done) | (simp; omega)) | (intro _ _; first | omega | (simp; done) | (simp; omega)))))⟩
    case round =>
      obtain ⟨k, s, hk, rfl, hbox, o1, hbr⟩ := hrel
      by_cases hlt : k < 64
      · have hlt' : (k : Int) < 64 := by omega
        have hB1 : w.heap.size + 1 ≤ wr.heap.size := lt_of_block hbox
        have hkn : k < 1000000 := by omega
        have g1 : wr.cell? ⟨w.heap.size, 0, none⟩ = some s := by rw [cell_of hbox]; rfl
        go_wp2_with (at_builtin; refine wpList_append_agg wr rfl _ _ 185 rfl 189 i0 (.agg #[.bool false, .int .i64 0, .bool false, .int .i64 0]) #[.bool false, .int .i64 0, .bool false, .int .i64 0] 4 32 Tryz.underlying185 hi hz0 hz1 hz2 rfl rfl (by decide) (by decide) (w.heap.size + 1) s k _ rfl o1 _ rfl rfl (by kernel_rfl) hkn hB1 ?_; intro g2 cp2 w2 n2 ht2 hl2
                     have hb3 := field_box hbox o1 ht2
                     have g3 : w2.cell? ⟨w.heap.size, 0, none⟩ = some s := by rw [cell_of hb3]; rfl
                     have f3 := frozen_of hb3
                     have p1 := field_own n2 0 (.slice (some ⟨g2, 0, none⟩) (k + 1) cp2)
                     have t1 := field_touch o1 ht2 0 (.slice (some ⟨g2, 0, none⟩) (k + 1) cp2)
                     have hbx : (w2.setCell ⟨w.heap.size, 0, none⟩ (.slice (some ⟨g2, 0, none⟩) (k + 1) cp2)).heap[w.heap.size]? = some (.cells #[(.slice (some ⟨g2, 0, none⟩) (k + 1) cp2)] 187 (0, 0)) := heap_set hb3 (.slice (some ⟨g2, 0, none⟩) (k + 1) cp2))
        go_roundw
        case rel => exact ⟨k + 1, _, by omega, by go_num, hbx, p1, below_touchB hbr t1 (Nat.le_of_lt hB1)⟩
        case measure => simp [intOf]; omega
      · obtain rfl : 64 = k := by omega
        have hfin : ∃ g cap, wr.heap[w.heap.size]? = some (.cells #[.slice (some ⟨g, 0, none⟩) 64 cap] 187 (0, 0)) ∧ Row wr g 189 (reps #[.bool false, .int .i64 0, .bool false, .int .i64 0] 64) ∧ w.heap.size < g := by
          rcases ownsRow_row o1 with ⟨_, h, _⟩ | ⟨g1, c1, rfl, l1, _, _, _, R1⟩
          · omega
          · exact ⟨g1, c1, hbox, R1, by omega⟩
        obtain ⟨g, cap, hf, hr, hg⟩ := hfin
        clear o1 hbox
        go_wp2
        go_meet
        exact ⟨g, cap, hf, hr, hg, hbr⟩
  case rest =>
    obtain ⟨g, cap, ht, hr, hg, hbr⟩ := hcut
    go_wp2
    go_ret
    exact ⟨g, cap, rfl, ht, hr, hg, hbr⟩
theorem Tryz.infor6_new : (Tryz.prog.info? 158).map (fun i => (i.zero, i.size, i.bytes)) = some (some (.agg #[.int .i64 0, .int .i64 0, .int .i64 0, .int .i64 0]), 4, 32) := by kernel_rfl
set_option maxHeartbeats 4000000 in
set_option maxRecDepth 100000 in
theorem r6_new (n : Nat) (w : World) (h1 : 1 ≤ n) (h64 : n ≤ 64) : Calls Tryz.prog 66 #[.int .i64 n] w fun e w' =>
    ∃ g cap, e = .returned (.tuple #[.pointer (some ⟨w.heap.size, 0, none⟩), .int .i64 0]) ∧ w'.heap[w.heap.size]? = some (.cells #[.slice (some ⟨g, 0, none⟩) n cap] 272 (0, 0)) ∧ Row w' g 158 (reps #[.int .i64 0, .int .i64 0, .int .i64 (-1), .int .i64 0] n) ∧ w.heap.size < g ∧ Below w.heap.size w w' := by
  obtain ⟨i0, hi, hz0, hz1, hz2⟩ := info_parts Tryz.infor6_new
  go_enter Tryz.func66, Tryz.ntmps66
  go_upto_block 0 with (fail)
  go_cut [] (fun wr => ∃ g cap, wr.heap[w.heap.size]? = some (.cells #[.slice (some ⟨g, 0, none⟩) n cap] 272 (0, 0)) ∧ Row wr g 158 (reps #[.int .i64 0, .int .i64 0, .int .i64 (-1), .int .i64 0] n) ∧ w.heap.size < g ∧ Below w.heap.size w wr)
  case first =>
    go_wp2
    go_loopw [5] (fun i wr => ∃ (k : Nat) (s : Value), k ≤ n ∧ i = .int .i64 k ∧ wr.heap[w.heap.size]? = some (.cells #[s] 272 (0, 0)) ∧
      wr.ownsRow (w.heap.size + 1) 158 4 s k (reps #[.int .i64 0, .int .i64 0, .int .i64 (-1), .int .i64 0] k) ∧ Below w.heap.size w wr) (fun i _ => n - (intOf i).toNat)
    case atStart => exact ⟨0, .slice none 0 0, by omega, rfl, heap_new _ _, World.ownsRow_nil _ _ _ _, by (refine Touch.below0 ?_; (repeat' (first | (with_reducible exact Touch.refl _ _) | (with_reducible assumption) | (with_reducible refine Touch.drew ?_) | (with_reducible refine Touch.drewN ?_ _) | (with_reducible refine Touch.alloc ?_ _) | (with_reducible refine Touch.setCell ?_ _ _ _ ?_) | (with_reducible refine Touch.step (by assumption) ?_) | (with_reducible refine Touch.stepT (by assumption) ?_ ?_) | (intro _; first | rfl | trivial | omega | (simp; done) | (simp; omega)) | (intro _ _; first | omega | (simp; done) | (simp; omega)))))⟩
    case round =>
      obtain ⟨k, s, hk, rfl, hbox, o1, hbr⟩ := hrel
      by_cases hlt : k < n
      · have hlt' : (k : Int) < n := by omega
        have hB1 : w.heap.size + 1 ≤ wr.heap.size := lt_of_block hbox
        have hkn : k < 1000000 := by omega
        have g1 : wr.cell? ⟨w.heap.size, 0, none⟩ = some s := by rw [cell_of hbox]; rfl
        go_wp2_with (at_builtin; refine wpList_append_agg wr rfl _ _ 270 rfl 158 i0 (.agg #[.int .i64 0, .int .i64 0, .int .i64 0, .int .i64 0]) #[.int .i64 0, .int .i64 0, .int .i64 (-1), .int .i64 0] 4 32 Tryz.underlying270 hi hz0 hz1 hz2 rfl rfl (by decide) (by decide) (w.heap.size + 1) s k _ rfl o1 _ rfl rfl (by kernel_rfl) hkn hB1 ?_; intro g2 cp2 w2 n2 ht2 hl2
                     have hb3 := field_box hbox o1 ht2
                     have g3 : w2.cell? ⟨w.heap.size, 0, none⟩ = some s := by rw [cell_of hb3]; rfl
                     have f3 := frozen_of hb3
                     have p1 := field_own n2 0 (.slice (some ⟨g2, 0, none⟩) (k + 1) cp2)
                     have t1 := field_touch o1 ht2 0 (.slice (some ⟨g2, 0, none⟩) (k + 1) cp2)
                     have hbx : (w2.setCell ⟨w.heap.size, 0, none⟩ (.slice (some ⟨g2, 0, none⟩) (k + 1) cp2)).heap[w.heap.size]? = some (.cells #[(.slice (some ⟨g2, 0, none⟩) (k + 1) cp2)] 272 (0, 0)) := heap_set hb3 (.slice (some ⟨g2, 0, none⟩) (k + 1) cp2))
        go_roundw
        case rel => exact ⟨k + 1, _, by omega, by go_num, hbx, p1, below_touchB hbr t1 (Nat.le_of_lt hB1)⟩
        case measure => simp [intOf]; omega
      · obtain rfl : n = k := by omega
        have hfin : ∃ g cap, wr.heap[w.heap.size]? = some (.cells #[.slice (some ⟨g, 0, none⟩) n cap] 272 (0, 0)) ∧ Row wr g 158 (reps #[.int .i64 0, .int .i64 0, .int .i64 (-1), .int .i64 0] n) ∧ w.heap.size < g := by
          rcases ownsRow_row o1 with ⟨_, h, _⟩ | ⟨g1, c1, rfl, l1, _, _, _, R1⟩
          · omega
          · exact ⟨g1, c1, hbox, R1, by omega⟩
        obtain ⟨g, cap, hf, hr, hg⟩ := hfin
        clear o1 hbox
        go_wp2
        go_meet
        exact ⟨g, cap, hf, hr, hg, hbr⟩
  case rest =>
    obtain ⟨g, cap, ht, hr, hg, hbr⟩ := hcut
    go_wp2
    go_ret2
    exact ⟨g, cap, rfl, ht, hr, hg, hbr⟩
theorem r4_new (n : Int) (w : World) (h0 : 0 ≤ n) (h8 : n ≤ 8) : Calls Tryz.prog 67 #[.int .i64 n] w fun e w' => e = .returned (.tuple #[.pointer (some ⟨w.heap.size, 0, none⟩), .int .i64 0]) ∧
    w' = w.alloc (.cells #[.slice none 0 0, .int .i64 n] 168 (0, 0)) := by
  go_enter Tryz.func67, Tryz.ntmps67
  go_wp2
  go_ret2
  exact ⟨rfl, rfl⟩
end Go.Proofs.YtmahledpcpdldaaGreat
/- RMem -/
set_option linter.unusedVariables false
set_option linter.unusedSimpArgs false
namespace Go.Proofs.YtmahledpcpdldaaGreat
open Go.RowKit

/-- Where they lie. -/
structure RMB where
  v : Nat
  b : Nat
  c : Nat
  fb : Nat → Nat
  cp : Nat → Nat
def headL (fb cp : Nat → Nat) (n : Nat) : List Value := (List.range n).map fun j => .slice (some ⟨fb j, 0, none⟩) 36 (cp j)
def u64s (f : Nat → Int) : List Value := (List.range 36).map fun o => .int .u64 (f o)
theorem headL_len (fb cp : Nat → Nat) (n : Nat) : (headL fb cp n).length = n := by simp [headL]
theorem headL_at (fb cp : Nat → Nat) {n j : Nat} (h : j < n) : (headL fb cp n)[j]? = some (.slice (some ⟨fb j, 0, none⟩) 36 (cp j)) := by simp [headL, h]
theorem headL_succ (fb cp : Nat → Nat) (k g c : Nat) : headL fb cp k ++ [.slice (some ⟨g, 0, none⟩) 36 c] = headL (upd fb k g) (upd cp k c) (k + 1) := by
  unfold headL
  rw [List.range_succ, List.map_append]
  congr 1
  · refine List.map_congr_left (fun j hj => ?_)
    have := List.mem_range.1 hj
    rw [upd_ne _ _ _ _ (by omega), upd_ne _ _ _ _ (by omega)]
  · simp [upd]
theorem u64s_len (f : Nat → Int) : (u64s f).length = 36 := by simp [u64s]
theorem u64s_at (f : Nat → Int) {o : Nat} (h : o < 36) : (u64s f)[o]? = some (.int .u64 (f o)) := by simp [u64s, h]
theorem u64s_zero : reps #[.int .u64 0] 36 = u64s (fun _ => 0) := by rfl
theorem u64s_set (f : Nat → Int) {o : Nat} (x : Int) (h : o < 36) : (u64s f).set o (.int .u64 x) = u64s (upd f o x) := by
  apply List.ext_getElem?
  intro k
  rw [List.getElem?_set]
  by_cases hk : k < 36
  · by_cases e : o = k
    · subst e; rw [if_pos rfl, u64s_len, if_pos hk, u64s_at _ hk, upd_same]
    · rw [if_neg e, u64s_at _ hk, u64s_at _ hk, upd_ne _ _ _ _ (Ne.symm e)]
  · have h1 : (u64s f)[k]? = none := by rw [List.getElem?_eq_none_iff, u64s_len]; omega
    have h2 : (u64s (upd f o x))[k]? = none := by rw [List.getElem?_eq_none_iff, u64s_len]; omega
    rw [h2, h1, if_neg (by omega)]

structure RMemIs (w : World) (B : RMB) (m : MemS) : Prop where
  box : w.heap[B.v]? = some (.cells #[.slice (some ⟨B.b, 0, none⟩) m.n B.c] 156 (0, 0))
  heads : Row w B.b 160 (headL B.fb B.cp m.n)
  rows : ∀ j, j < m.n → Row w (B.fb j) 150 (u64s (m.w j))
  vb : B.v ≠ B.b
  vf : ∀ j, j < m.n → B.fb j ≠ B.v ∧ B.fb j ≠ B.b
  inj : ∀ i j, i < m.n → j < m.n → B.fb i = B.fb j → i = j
/-- The blocks of the frames. -/
def RMB.own (B : RMB) (n : Nat) (k : Nat) : Prop := ∃ j, j < n ∧ k = B.fb j
/-- All blocks lie from x on. -/
structure RMB.From (B : RMB) (n x : Nat) : Prop where
  v : x ≤ B.v
  b : x ≤ B.b
  f : ∀ j, j < n → x ≤ B.fb j

theorem Tryz.infoRow : (Tryz.prog.info? 160).map (fun i => (i.zero, i.size, i.bytes)) = some (some (.slice none 0 0), 1, 24) := by kernel_rfl
theorem Tryz.infoU64 : (Tryz.prog.info? 150).map (fun i => (i.zero, i.size, i.bytes)) = some (some (.int .u64 0), 1, 8) := by kernel_rfl
set_option maxHeartbeats 4000000 in
set_option maxRecDepth 100000 in
theorem r2_new (n : Nat) (w : World) (h1 : 1 ≤ n) (h64 : n ≤ 64) : Calls Tryz.prog 64 #[.int .i64 n] w fun e w' => ∃ B : RMB,
    e = .returned (.tuple #[.pointer (some ⟨B.v, 0, none⟩), .int .i64 0]) ∧ RMemIs w' B ⟨n, fun _ _ => 0⟩ ∧ B.From n w.heap.size ∧ Below w.heap.size w w' := by
  obtain ⟨i0, hi, hz0, hz1, hz2⟩ := info_parts Tryz.infoRow
  obtain ⟨j0, gi, gz0, gz1, gz2⟩ := info_parts Tryz.infoU64
  go_enter Tryz.func64, Tryz.ntmps64
  go_upto_block 0 with (fail)
  go_cut [] (fun wr => ∃ B : RMB, B.v = w.heap.size ∧ RMemIs wr B ⟨n, fun _ _ => 0⟩ ∧ B.From n w.heap.size ∧ Below w.heap.size w wr)
  case first =>
    go_wp2
    go_loopw [5] (fun i wr => ∃ (k : Nat) (s : Value) (fb cp : Nat → Nat), k ≤ n ∧ i = .int .i64 k ∧ wr.heap[w.heap.size]? = some (.cells #[s] 156 (0, 0)) ∧
      wr.ownsRow (w.heap.size + 1) 160 1 s k (headL fb cp k) ∧ (∀ j, j < k → Row wr (fb j) 150 (u64s (fun _ => 0)) ∧ w.heap.size < fb j ∧ s.ownBlock ≠ some (fb j)) ∧
      (∀ i j, i < k → j < k → fb i = fb j → i = j) ∧ Below w.heap.size w wr) (fun i _ => n - (intOf i).toNat)
    case atStart => exact ⟨0, .slice none 0 0, fun _ => 0, fun _ => 0, by omega, rfl, heap_new _ _, World.ownsRow_nil _ _ _ _, fun j hj => by omega, fun i j hi => by omega, by (refine Touch.below0 ?_; (repeat' (first | (with_reducible exact Touch.refl _ _) | (with_reducible assumption) | (with_reducible refine Touch.drew ?_) | (with_reducible refine Touch.drewN ?_ _) | (with_reducible refine Touch.alloc ?_ _) | (with_reducible refine Touch.setCell ?_ _ _ _ ?_) | (with_reducible refine Touch.step (by assumption) ?_) | (with_reducible refine Touch.stepT (by assumption) ?_ ?_) | (intro _; first | rfl | trivial | omega | (simp; done) | (simp; omega)) | (intro _ _; first | omega | (simp; done) | (simp; omega)))))⟩
    case round =>
      obtain ⟨k, s, fb, cp, hk, rfl, hbox, o1, hrows, hinj, hbr⟩ := hrel
      by_cases hlt : k < n
      · have hlt' : (k : Int) < n := by omega
        have hB1 : w.heap.size + 1 ≤ wr.heap.size := lt_of_block hbox
        have hkn : k < 1000000 := by omega
        obtain ⟨wo, hwo⟩ : ∃ x : World, x = wr := ⟨_, rfl⟩
        subst hwo
        go_upto_block 2 with (fail)
        go_cut [6] (fun f wi => ∃ g cap, f = .slice (some ⟨g, 0, none⟩) 36 cap ∧ Row wi g 150 (u64s (fun _ => 0)) ∧ wo.heap.size ≤ g ∧ Below wo.heap.size wo wi)
        case first =>
          go_wp2
          go_loopw [6, 7] (fun f j wi => ∃ (l : Nat), l ≤ 36 ∧ j = .int .i64 l ∧ wi.ownsRow wo.heap.size 150 1 f l (reps #[.int .u64 0] l) ∧ Below wo.heap.size wo wi) (fun _ j _ => 36 - (intOf j).toNat)
          case atStart => exact ⟨0, by omega, rfl, World.ownsRow_nil _ _ _ _, Below.refl _ _⟩
          case round =>
            obtain ⟨l, hl, rfl, o2, hbi⟩ := hrel
            by_cases hl2 : l < 36
            · have hl2' : (l : Int) < 36 := by omega
              have hln : l < 1000000 := by omega
              go_wp2_with (at_builtin; refine wpList_append_agg wr rfl _ _ 160 rfl 150 j0 (.int .u64 0) #[.int .u64 0] 1 8 Tryz.underlying160 gi gz0 gz1 gz2 rfl rfl (by decide) (by decide) wo.heap.size u6 l _ rfl o2 _ rfl rfl (by kernel_rfl) hln hbi.size ?_; intro g2 cp2 w2 n2 ht2 hl3)
              go_roundw
              case rel => exact ⟨l + 1, by omega, by go_num, n2, hbi.trans ((ht2.mono (S' := fun k => wo.heap.size ≤ k) (fun i _ hi => (o2.lt i hi.symm).1)).below (B := wo.heap.size) (by have := hbi.size; simp; omega) (fun i hi hh => by omega) |> fun h => (show Below wo.heap.size _ _ from (by have h0 : Below wo.heap.size wr (wr.alloc (.cells #[.int .u64 0] 150 (0, 0))) := (show Below wr.heap.size wr _ by (refine Touch.below0 ?_; (repeat' (first | (with_reducible exact Touch.refl _ _) | (with_reducible assumption) | (with_reducible refine Touch.drew ?_) | (with_reducible refine Touch.drewN ?_ _) | (with_reducible refine Touch.alloc ?_ _) | (with_reducible refine Touch.setCell ?_ _ _ _ ?_) | (with_reducible refine Touch.step (by assumption) ?_) | (with_reducible refine Touch.stepT (by assumption) ?_ ?_) | (intro _; first | rfl | trivial | omega | (simp; done) | (simp; omega)) | (intro _ _; first | omega | (simp; done) | (simp; omega)))))).mono hbi.size; exact h0.trans h)))⟩
              case measure => simp [intOf]; omega
            · obtain rfl : 36 = l := by omega
              have hfin : ∃ g cap, u6 = .slice (some ⟨g, 0, none⟩) 36 cap ∧ Row wr g 150 (u64s (fun _ => 0)) ∧ wo.heap.size ≤ g := by
                rcases ownsRow_row o2 with ⟨_, h, _⟩ | ⟨g1, c1, hf, l1, _, _, _, R1⟩
                · omega
                · exact ⟨g1, c1, hf, R1, l1⟩
              obtain ⟨g, cap, hf, hr, hg⟩ := hfin
              subst hf
              clear o2
              go_wp2
              go_meet
              exact ⟨g, cap, rfl, hr, hg, hbi⟩
        case rest =>
          obtain ⟨g, cap, rfl, hr, hg, hbi⟩ := hcut
          have hbox := (hbi.block _ (lt_of_block hbox)).trans hbox
          have hso : ∀ x, s.ownBlock = some x → x < wo.heap.size := fun x hx => (o1.lt x hx).2
          have o1 := ownsRow_keep o1 (Touch.of_below (S := fun _ => False) hbi) (fun _ _ h => h)
          have hrows : ∀ j, j < k → Row wc (fb j) 150 (u64s (fun _ => 0)) ∧ w.heap.size < fb j ∧ s.ownBlock ≠ some (fb j) ∧ fb j < wo.heap.size := fun j hj => ⟨(hrows j hj).1.after hbi, (hrows j hj).2.1, (hrows j hj).2.2, (hrows j hj).1.lt⟩
          have hbr := hbr.trans (hbi.mono hbr.size)
          have hB1 : w.heap.size + 1 ≤ wc.heap.size := lt_of_block hbox
          have g1 : wc.cell? ⟨w.heap.size, 0, none⟩ = some s := by rw [cell_of hbox]; rfl
          go_wp2_with (at_builtin; refine wpList_append_agg wc rfl _ _ 154 rfl 160 i0 (.slice none 0 0) #[.slice (some ⟨g, 0, none⟩) 36 cap] 1 24 Tryz.underlying154 hi hz0 hz1 hz2 rfl rfl (by decide) (by decide) (w.heap.size + 1) s k _ rfl o1 _ rfl rfl (by simp [Value.oneCell']) hkn hB1 ?_; intro g2 cp2 w2 n2 ht2 hl2
                       have hb3 := field_box hbox o1 ht2
                       have g3 : w2.cell? ⟨w.heap.size, 0, none⟩ = some s := by rw [cell_of hb3]; rfl
                       have f3 := frozen_of hb3
                       have p1 := field_own n2 0 (.slice (some ⟨g2, 0, none⟩) (k + 1) cp2)
                       have t1 := field_touch o1 ht2 0 (.slice (some ⟨g2, 0, none⟩) (k + 1) cp2)
                       have hbx : (w2.setCell ⟨w.heap.size, 0, none⟩ (.slice (some ⟨g2, 0, none⟩) (k + 1) cp2)).heap[w.heap.size]? = some (.cells #[(.slice (some ⟨g2, 0, none⟩) (k + 1) cp2)] 156 (0, 0)) := heap_set hb3 (.slice (some ⟨g2, 0, none⟩) (k + 1) cp2))
          have hrow2 : ∀ x, x ≠ w.heap.size → s.ownBlock ≠ some x → ∀ l, Row wc x 150 l → Row (w2.setCell ⟨w.heap.size, 0, none⟩ (.slice (some ⟨g2, 0, none⟩) (k + 1) cp2)) x 150 l :=
            fun x hx hs l hr => ((hr.alloc _).touch ht2 (fun e => hs e.symm)).keep _ hx
          have hgw := hr.lt
          have hwo := hbi.size
          go_roundw
          case rel =>
            have hfinal : ∃ (k' : Nat) (s' : Value) (fb' cp' : Nat → Nat), k' ≤ n ∧ (Value.int .i64 ((k : Int) + 1)) = .int .i64 k' ∧ (w2.setCell ⟨w.heap.size, 0, none⟩ (.slice (some ⟨g2, 0, none⟩) (k + 1) cp2)).heap[w.heap.size]? = some (.cells #[s'] 156 (0, 0)) ∧
                (w2.setCell ⟨w.heap.size, 0, none⟩ (.slice (some ⟨g2, 0, none⟩) (k + 1) cp2)).ownsRow (w.heap.size + 1) 160 1 s' k' (headL fb' cp' k') ∧ (∀ j, j < k' → Row (w2.setCell ⟨w.heap.size, 0, none⟩ (.slice (some ⟨g2, 0, none⟩) (k + 1) cp2)) (fb' j) 150 (u64s (fun _ => 0)) ∧ w.heap.size < fb' j ∧ s'.ownBlock ≠ some (fb' j)) ∧
                (∀ i j, i < k' → j < k' → fb' i = fb' j → i = j) ∧ Below w.heap.size w (w2.setCell ⟨w.heap.size, 0, none⟩ (.slice (some ⟨g2, 0, none⟩) (k + 1) cp2)) := by
              refine ⟨k + 1, _, upd fb k g, upd cp k cap, by omega, by congr 1, hbx, by rw [← headL_succ]; exact p1, fun j hj => ?_, fun i j hi hj he => ?_, below_touchB hbr t1 (Nat.le_of_lt hB1)⟩
              · by_cases e : j = k
                · subst e; rw [upd_same]
                  refine ⟨hrow2 g (by omega) (fun e => by have := hso g e; omega) _ hr, by omega, ?_⟩
                  intro e
                  rcases hl2 with hl2 | hl2
                  · rw [hl2] at e; have := hso g e; omega
                  · rw [hl2] at e; injection e with e; simp at e; omega
                · rw [upd_ne _ _ _ _ e]
                  obtain ⟨r1, r2, r3, r4⟩ := hrows j (by omega)
                  refine ⟨hrow2 _ (by omega) r3 _ r1, r2, ?_⟩
                  intro e
                  rcases hl2 with hl2 | hl2
                  · rw [hl2] at e; exact r3 e
                  · rw [hl2] at e; injection e with e; simp at e; omega
              · by_cases e1 : i = k
                · subst e1
                  by_cases e2 : j = i
                  · exact e2.symm
                  · rw [upd_same, upd_ne _ _ _ _ e2] at he
                    have := (hrows j (by omega)).2.2.2; omega
                · by_cases e2 : j = k
                  · subst e2
                    rw [upd_same, upd_ne _ _ _ _ e1] at he
                    have := (hrows i (by omega)).2.2.2; omega
                  · rw [upd_ne _ _ _ _ e1, upd_ne _ _ _ _ e2] at he
                    exact hinj i j (by omega) (by omega) he
            first | exact hfinal | ((repeat apply Exists.intro); exact ⟨hfinal, rfl⟩)
          case measure => simp [intOf]; omega
      · obtain rfl : n = k := by omega
        have hfin : ∃ B : RMB, B.v = w.heap.size ∧ RMemIs wr B ⟨n, fun _ _ => 0⟩ ∧ B.From n w.heap.size := by
          rcases ownsRow_row o1 with ⟨_, h, _⟩ | ⟨g1, c1, rfl, l1, _, _, _, R1⟩
          · omega
          · exact ⟨⟨w.heap.size, g1, c1, fb, cp⟩, rfl, ⟨hbox, R1, fun j hj => (hrows j hj).1, by show w.heap.size ≠ g1; omega, fun j hj => ⟨by have := (hrows j hj).2.1; show fb j ≠ w.heap.size; omega, fun e => (hrows j hj).2.2 (congrArg some e.symm)⟩, hinj⟩,
              ⟨Nat.le_refl _, by show _ ≤ g1; omega, fun j hj => Nat.le_of_lt (hrows j hj).2.1⟩⟩
        obtain ⟨B, hv, hf, hg⟩ := hfin
        clear o1 hbox hrows hinj
        go_wp2
        go_meet
        exact ⟨B, hv, hf, hg, hbr⟩
  case rest =>
    obtain ⟨B, hv, hf, hg, hbr⟩ := hcut
    go_wp2
    go_ret2
    exact ⟨B, by rw [hv]; rfl, hf, hg, hbr⟩
end Go.Proofs.YtmahledpcpdldaaGreat
