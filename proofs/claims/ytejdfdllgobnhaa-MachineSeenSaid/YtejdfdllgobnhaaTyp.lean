/- What frames are (package typ). -/
import Derived.Test.YtejdfdllgobnhaaProg
import Derived.Test.YtejdfdllgobnhaaRows3
import Derived.Deep.DeepCutAuto
import Derived.Deep.Cut
import Derived.Deep.CutBlock
import Derived.Deep.RegionLaw
set_option linter.unusedVariables false
set_option linter.unusedSimpArgs false
namespace Go.Proofs.Ytejdfdllgobnhaa
open Go.RowKit

structure TypS where
  n : Nat
  k : Nat → Int
  c : Nat → Int
  fr : Nat → Int
  wa : Nat → Int

def tcell (t : TypS) (f : Nat) : Nat → Value
  | 0 => .int .i64 (t.k f)
  | 1 => .int .i64 (t.c f)
  | 2 => .int .i64 (t.fr f)
  | _ => .int .i64 (t.wa f)

structure TypIs (w : World) (a g cap : Nat) (t : TypS) : Prop where
  box : w.heap[a]? = some (.cells #[.slice (some ⟨g, 0, none⟩) t.n cap] 105 (0, 0))
  row : ∃ arr : Array Value, w.heap[g]? = some (.cells arr 102 (0, 0)) ∧ ∀ f o, f < t.n → o < 4 → arr[f * 4 + o]? = some (tcell t f o)
  ne : a ≠ g

def TypS.new (n : Nat) : TypS := ⟨n, fun _ => 0, fun _ => 0, fun _ => -1, fun _ => 0⟩
def tfresh : Nat → List Value
  | 0 => []
  | k + 1 => tfresh k ++ [.int .i64 0, .int .i64 0, .int .i64 (-1), .int .i64 0]
theorem tfresh_len : ∀ n, (tfresh n).length = n * 4
  | 0 => rfl
  | n + 1 => by simp [tfresh, tfresh_len n]; omega
theorem tfresh_at (t : TypS) : ∀ (n f o : Nat), f < n → o < 4 → (tfresh n)[f * 4 + o]? = some (tcell (TypS.new t.n) f o)
  | 0, f, o, h, _ => by omega
  | n + 1, f, o, h, ho => by
    unfold tfresh
    rcases Nat.lt_or_ge f n with h1 | h1
    · rw [List.getElem?_append_left (by rw [tfresh_len]; omega)]; exact tfresh_at t n f o h1 ho
    · obtain rfl : f = n := by omega
      rw [List.getElem?_append_right (by rw [tfresh_len]; omega), tfresh_len]
      have : f * 4 + o - f * 4 = o := by omega
      rw [this]
      match o, ho with
      | 0, _ => rfl
      | 1, _ => rfl
      | 2, _ => rfl
      | 3, _ => rfl

theorem typ_fresh (w : World) : Calls Try.prog 81 #[] w fun e w' => e = .returned (.agg #[.int .i64 0, .int .i64 0, .int .i64 (-1), .int .i64 0]) ∧ Below w.heap.size w w' := by
  go_enter Try.func81, Try.ntmps81
  go_wp2
  (try simp only [Exit.inBlock, Exit.then])
  refine bodyPost_ret (results_cell_row rfl _ _ w.heap.size 102 #[.int .i64 0, .int .i64 0, .int .i64 (-1), .int .i64 0] (0, 0) _ rfl ?_ Try.underlying102 rfl (by kernel_rfl)) rfl ?_
  · exact heap_new _ _
  exact ⟨rfl, by (refine Touch.below0 ?_; (repeat' (first | (with_reducible exact Touch.refl _ _) | (with_reducible assumption) | (with_reducible refine Touch.drew ?_) | (with_reducible refine Touch.drewN ?_ _) | (with_reducible refine Touch.alloc ?_ _) | (with_reducible refine Touch.setCell ?_ _ _ _ ?_) | (with_reducible refine Touch.step (by assumption) ?_) | (with_reducible refine Touch.stepT (by assumption) ?_ ?_) | (intro _; first | rfl | trivial | omega | (simp; done) | (simp; omega)) | (intro _ _; first | omega | (simp; done) | (simp; omega)))))⟩

theorem Try.infoTyp : (Try.prog.info? 102).map (fun i => (i.zero, i.size, i.bytes)) = some (some (.agg #[.int .i64 0, .int .i64 0, .int .i64 0, .int .i64 0]), 4, 32) := by kernel_rfl

set_option maxHeartbeats 4000000 in
set_option maxRecDepth 100000 in
theorem typ_new (n : Nat) (w : World) (h1 : 1 ≤ n) (h64 : n ≤ 64) : Calls Try.prog 44 #[.int .i64 n] w fun e w' =>
    ∃ g cap, e = .returned (.tuple #[.pointer (some ⟨w.heap.size, 0, none⟩), .int .i64 0]) ∧ TypIs w' w.heap.size g cap (TypS.new n) ∧ w.heap.size < g ∧ Below w.heap.size w w' := by
  obtain ⟨i0, hi, hz0, hz1, hz2⟩ := info_parts Try.infoTyp
  go_enter Try.func44, Try.ntmps44
  go_upto_block 0 with (fail)
  go_cut [] (fun wr => ∃ g cap, TypIs wr w.heap.size g cap (TypS.new n) ∧ w.heap.size < g ∧ Below w.heap.size w wr)
  case first =>
    go_wp2
    go_loopw [14] (fun i wr => ∃ (k : Nat) (s1 : Value), k ≤ n ∧ i = .int .i64 k ∧ wr.heap[w.heap.size]? = some (.cells #[s1] 105 (0, 0)) ∧
      wr.ownsRow (w.heap.size + 1) 102 4 s1 k (tfresh k) ∧ Below w.heap.size w wr) (fun i _ => n - (intOf i).toNat)
    case atStart => exact ⟨0, .slice none 0 0, by omega, rfl, heap_new _ _, World.ownsRow_nil _ _ _ _, by (refine Touch.below0 ?_; (repeat' (first | (with_reducible exact Touch.refl _ _) | (with_reducible assumption) | (with_reducible refine Touch.drew ?_) | (with_reducible refine Touch.drewN ?_ _) | (with_reducible refine Touch.alloc ?_ _) | (with_reducible refine Touch.setCell ?_ _ _ _ ?_) | (with_reducible refine Touch.step (by assumption) ?_) | (with_reducible refine Touch.stepT (by assumption) ?_ ?_) | (intro _; first | rfl | trivial | omega | (simp; done) | (simp; omega)) | (intro _ _; first | omega | (simp; done) | (simp; omega)))))⟩
    case round =>
      obtain ⟨k, s1, hk, rfl, hbox, o1, hbr⟩ := hrel
      by_cases hlt : k < n
      · have hlt' : (k : Int) < n := by omega
        have hB := hbr.size
        have hB1 : w.heap.size + 1 ≤ wr.heap.size := lt_of_block hbox
        have hkn : k < 1000000 := by omega
        have g1 : wr.cell? ⟨w.heap.size, 0, none⟩ = some s1 := by rw [cell_of hbox]; rfl
        go_upto_region 6 with (fail)
        go_region_law (first
          | (refine step_append_agg _ (by rfl) _ _ 103 (by rfl) 102 i0 (.agg #[.int .i64 0, .int .i64 0, .int .i64 0, .int .i64 0]) #[.int .i64 0, .int .i64 0, .int .i64 (-1), .int .i64 0] 4 32 Try.underlying103 hi hz0 hz1 hz2 rfl rfl (by decide) (by decide) (w.heap.size + 1) s1 k _ (by rfl) o1' _ rfl (by rfl) (by kernel_rfl) hkn hsz1 ?_; intro g2 cp2 w2 n2 ht2 hl2
             have hb3 := field_box hbox' o1' ht2
             have g3 : w2.cell? ⟨w.heap.size, 0, none⟩ = some s1 := by rw [cell_of hb3]; rfl
             have f3 := frozen_of hb3
             have p1 := field_own n2 0 (.slice (some ⟨g2, 0, none⟩) (k + 1) cp2)
             have t1 := field_touch o1' ht2 0 (.slice (some ⟨g2, 0, none⟩) (k + 1) cp2)
             have hbx : (w2.setCell ⟨w.heap.size, 0, none⟩ (.slice (some ⟨g2, 0, none⟩) (k + 1) cp2)).heap[w.heap.size]? = some (.cells #[(.slice (some ⟨g2, 0, none⟩) (k + 1) cp2)] 105 (0, 0)) := heap_set hb3 (.slice (some ⟨g2, 0, none⟩) (k + 1) cp2))
          | (go_simp; (go_at_call 81; (with_reducible refine (typ_fresh _).mono ?_); rintro e w' ⟨rfl, hb1⟩); have hb2 : Below wr.heap.size wr w' := below_undrew hb1; have hbox' := (hb2.block _ (lt_of_block hbox)).trans hbox; have g1' : w'.cell? ⟨w.heap.size, 0, none⟩ = some s1 := (by rw [cell_of hbox']; rfl); have g1a : ∀ o, (w'.alloc o).cell? ⟨w.heap.size, 0, none⟩ = some s1 := (fun o => by rw [cell_of (heap_alloc hbox' o)]; rfl); have hbrr := hbr.trans (hb2.mono hbr.size); have o1' := ownsRow_keep o1 (Touch.of_below (S := fun _ => False) hb2) (fun _ _ h => h); have hsz1 : w.heap.size + 1 ≤ w'.heap.size := Nat.le_trans hB1 hb2.size))
        all_goals (go_wp2; refine ⟨⟨k + 1, _, by omega, by go_num, hbx, p1, below_touchB hbrr t1 (Nat.le_trans (Nat.le_succ _) hsz1)⟩, ?_⟩; simp [intOf]; omega)
      · obtain rfl : k = n := by omega
        have hfin : ∃ g cap, TypIs wr w.heap.size g cap (TypS.new k) ∧ w.heap.size < g := by
          rcases ownsRow_row o1 with ⟨_, h, _⟩ | ⟨g1, c1, rfl, l1, _, _, _, arr, R1⟩
          · omega
          · refine ⟨g1, c1, ⟨hbox, ⟨_, R1, ?_⟩, by omega⟩, by omega⟩
            intro f o hf ho
            have := tfresh_at (TypS.new k) k f o hf ho
            have hl : f * 4 + o < (tfresh k).length := by rw [tfresh_len]; simp only [TypS.new] at hf; omega
            rw [List.getElem?_toArray, List.getElem?_append_left hl]; exact this
        obtain ⟨g, cap, hf, hg⟩ := hfin
        clear o1 hbox
        go_wp2
        go_meet
        exact ⟨g, cap, hf, hg, hbr⟩
  case rest =>
    obtain ⟨g, cap, ht, hg, hbr⟩ := hcut
    go_wp2
    go_ret2
    exact ⟨g, cap, rfl, ht, hg, hbr⟩
end Go.Proofs.Ytejdfdllgobnhaa
