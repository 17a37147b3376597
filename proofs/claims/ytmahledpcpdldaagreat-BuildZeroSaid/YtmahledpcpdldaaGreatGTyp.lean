/- Several texts in one: Typ, Typ2, Typ3, TypC. -/
import Derived.Test.YtmahledpcpdldaaGreatProg
import Derived.Test.YtmahledpcpdldaaGreatRows3
import Derived.Deep.DeepCutAuto
import Derived.Deep.Cut
import Derived.Deep.CutBlock
import Derived.Deep.RegionLaw
/- Typ -/
set_option linter.unusedVariables false
set_option linter.unusedSimpArgs false
namespace Go.Proofs.YtmahledpcpdldaaGreat
open Go.RowKit

structure TypS where
  n : Nat
  k : Nat → Int
  c : Nat → Int
  fr : Nat → Int
  wa : Nat → Int

def tcell (t : TypS) (f : Nat) : Nat → Value
  | 0 => .int .i64 (t.k f)
  | 1 => .int .i64 (t.c f)
  | 2 => .int .i64 (t.fr f)
  | _ => .int .i64 (t.wa f)

structure TypIs (w : World) (a g cap : Nat) (t : TypS) : Prop where
  box : w.heap[a]? = some (.cells #[.slice (some ⟨g, 0, none⟩) t.n cap] 257 (0, 0))
  row : ∃ arr : Array Value, w.heap[g]? = some (.cells arr 259 (0, 0)) ∧ ∀ f o, f < t.n → o < 4 → arr[f * 4 + o]? = some (tcell t f o)
  ne : a ≠ g

def TypS.new (n : Nat) : TypS := ⟨n, fun _ => 0, fun _ => 0, fun _ => -1, fun _ => 0⟩
def tfresh : Nat → List Value
  | 0 => []
  | k + 1 => tfresh k ++ [.int .i64 0, .int .i64 0, .int .i64 (-1), .int .i64 0]
theorem tfresh_len : ∀ n, (tfresh n).length = n * 4
  | 0 => rfl
  | n + 1 => by simp [tfresh, tfresh_len n]; omega
theorem tfresh_at (t : TypS) : ∀ (n f o : Nat), f < n → o < 4 → (tfresh n)[f * 4 + o]? = some (tcell (TypS.new t.n) f o)
  | 0, f, o, h, _ => by omega
  | n + 1, f, o, h, ho => by
    unfold tfresh
    rcases Nat.lt_or_ge f n with h1 | h1
    · rw [List.getElem?_append_left (by rw [tfresh_len]; omega)]; exact tfresh_at t n f o h1 ho
    · obtain rfl : f = n := by omega
      rw [List.getElem?_append_right (by rw [tfresh_len]; omega), tfresh_len]
      have : f * 4 + o - f * 4 = o := by omega
      rw [this]
      match o, ho with
      | 0, _ => rfl
      | 1, _ => rfl
      | 2, _ => rfl
      | 3, _ => rfl

theorem typ_fresh (w : World) : Calls Tryz.prog 169 #[] w fun e w' => e = .returned (.agg #[.int .i64 0, .int .i64 0, .int .i64 (-1), .int .i64 0]) ∧ Below w.heap.size w w' := by
  go_enter Tryz.func169, Tryz.ntmps169
  go_wp2
  (try simp only [Exit.inBlock, Exit.then])
  refine bodyPost_ret (results_cell_row rfl _ _ w.heap.size 259 #[.int .i64 0, .int .i64 0, .int .i64 (-1), .int .i64 0] (0, 0) _ rfl ?_ Tryz.underlying259 rfl (by kernel_rfl)) rfl ?_
  · exact heap_new _ _
  exact ⟨rfl, by (refine Touch.below0 ?_; (repeat' (first | (with_reducible exact Touch.refl _ _) | (with_reducible assumption) | (with_reducible refine Touch.drew ?_) | (with_reducible refine Touch.drewN ?_ _) | (with_reducible refine Touch.alloc ?_ _) | (with_reducible refine Touch.setCell ?_ _ _ _ ?_) | (with_reducible refine Touch.step (by assumption) ?_) | (with_reducible refine Touch.stepT (by assumption) ?_ ?_) | (intro _; first | rfl | trivial | omega | (simp; done) | (simp; omega)) | (intro _ _; first | omega | (simp; done) | (simp; omega)))))⟩

theorem Tryz.infoTyp : (Tryz.prog.info? 259).map (fun i => (i.zero, i.size, i.bytes)) = some (some (.agg #[.int .i64 0, .int .i64 0, .int .i64 0, .int .i64 0]), 4, 32) := by kernel_rfl

set_option maxHeartbeats 4000000 in
set_option maxRecDepth 100000 in
theorem typ_new (n : Nat) (w : World) (h1 : 1 ≤ n) (h64 : n ≤ 64) : Calls Tryz.prog 57 #[.int .i64 n] w fun e w' =>
    ∃ g cap, e = .returned (.tuple #[.pointer (some ⟨w.heap.size, 0, none⟩), .int .i64 0]) ∧ TypIs w' w.heap.size g cap (TypS.new n) ∧ w.heap.size < g ∧ Below w.heap.size w w' := by
  obtain ⟨i0, hi, hz0, hz1, hz2⟩ := info_parts Tryz.infoTyp
  go_enter Tryz.func57, Tryz.ntmps57
  go_upto_block 0 with (fail)
  go_cut [] (fun wr => ∃ g cap, TypIs wr w.heap.size g cap (TypS.new n) ∧ w.heap.size < g ∧ Below w.heap.size w wr)
  case first =>
    go_wp2
    go_loopw [14] (fun i wr => ∃ (k : Nat) (s1 : Value), k ≤ n ∧ i = .int .i64 k ∧ wr.heap[w.heap.size]? = some (.cells #[s1] 257 (0, 0)) ∧
      wr.ownsRow (w.heap.size + 1) 259 4 s1 k (tfresh k) ∧ Below w.heap.size w wr) (fun i _ => n - (intOf i).toNat)
    case atStart => exact ⟨0, .slice none 0 0, by omega, rfl, heap_new _ _, World.ownsRow_nil _ _ _ _, by (refine Touch.below0 ?_; (repeat' (first | (with_reducible exact Touch.refl _ _) | (with_reducible assumption) | (with_reducible refine Touch.drew ?_) | (with_reducible refine Touch.drewN ?_ _) | (with_reducible refine Touch.alloc ?_ _) | (with_reducible refine Touch.setCell ?_ _ _ _ ?_) | (with_reducible refine Touch.step (by assumption) ?_) | (with_reducible refine Touch.stepT (by assumption) ?_ ?_) | (intro _; first | rfl | trivial | omega | (simp; done) | (simp; omega)) | (intro _ _; first | omega | (simp; done) | (simp; omega)))))⟩
    case round =>
      obtain ⟨k, s1, hk, rfl, hbox, o1, hbr⟩ := hrel
      by_cases hlt : k < n
      · have hlt' : (k : Int) < n := by omega
        have hB := hbr.size
        have hB1 : w.heap.size + 1 ≤ wr.heap.size := lt_of_block hbox
        have hkn : k < 1000000 := by omega
        have g1 : wr.cell? ⟨w.heap.size, 0, none⟩ = some s1 := by rw [cell_of hbox]; rfl
        go_upto_region 6 with (fail)
        go_region_law (first
          | (refine step_append_agg _ (by rfl) _ _ 255 (by rfl) 259 i0 (.agg #[.int .i64 0, .int .i64 0, .int .i64 0, .int .i64 0]) #[.int .i64 0, .int .i64 0, .int .i64 (-1), .int .i64 0] 4 32 Tryz.underlying255 hi hz0 hz1 hz2 rfl rfl (by decide) (by decide) (w.heap.size + 1) s1 k _ (by rfl) o1' _ rfl (by rfl) (by kernel_rfl) hkn hsz1 ?_; intro g2 cp2 w2 n2 ht2 hl2
             have hb3 := field_box hbox' o1' ht2
             have g3 : w2.cell? ⟨w.heap.size, 0, none⟩ = some s1 := by rw [cell_of hb3]; rfl
             have f3 := frozen_of hb3
             have p1 := field_own n2 0 (.slice (some ⟨g2, 0, none⟩) (k + 1) cp2)
             have t1 := field_touch o1' ht2 0 (.slice (some ⟨g2, 0, none⟩) (k + 1) cp2)
             have hbx : (w2.setCell ⟨w.heap.size, 0, none⟩ (.slice (some ⟨g2, 0, none⟩) (k + 1) cp2)).heap[w.heap.size]? = some (.cells #[(.slice (some ⟨g2, 0, none⟩) (k + 1) cp2)] 257 (0, 0)) := heap_set hb3 (.slice (some ⟨g2, 0, none⟩) (k + 1) cp2))
          | (go_simp; (go_at_call 169; (with_reducible refine (typ_fresh _).mono ?_); rintro e w' ⟨rfl, hb1⟩); have hb2 : Below wr.heap.size wr w' := below_undrew hb1; have hbox' := (hb2.block _ (lt_of_block hbox)).trans hbox; have g1' : w'.cell? ⟨w.heap.size, 0, none⟩ = some s1 := (by rw [cell_of hbox']; rfl); have g1a : ∀ o, (w'.alloc o).cell? ⟨w.heap.size, 0, none⟩ = some s1 := (fun o => by rw [cell_of (heap_alloc hbox' o)]; rfl); have hbrr := hbr.trans (hb2.mono hbr.size); have o1' := ownsRow_keep o1 (Touch.of_below (S := fun _ => False) hb2) (fun _ _ h => h); have hsz1 : w.heap.size + 1 ≤ w'.heap.size := Nat.le_trans hB1 hb2.size))
        all_goals (go_wp2; refine ⟨⟨k + 1, _, by omega, by go_num, hbx, p1, below_touchB hbrr t1 (Nat.le_trans (Nat.le_succ _) hsz1)⟩, ?_⟩; simp [intOf]; omega)
      · obtain rfl : k = n := by omega
        have hfin : ∃ g cap, TypIs wr w.heap.size g cap (TypS.new k) ∧ w.heap.size < g := by
          rcases ownsRow_row o1 with ⟨_, h, _⟩ | ⟨g1, c1, rfl, l1, _, _, _, arr, R1⟩
          · omega
          · refine ⟨g1, c1, ⟨hbox, ⟨_, R1, ?_⟩, by omega⟩, by omega⟩
            intro f o hf ho
            have := tfresh_at (TypS.new k) k f o hf ho
            have hl : f * 4 + o < (tfresh k).length := by rw [tfresh_len]; simp only [TypS.new] at hf; omega
            rw [List.getElem?_toArray, List.getElem?_append_left hl]; exact this
        obtain ⟨g, cap, hf, hg⟩ := hfin
        clear o1 hbox
        go_wp2
        go_meet
        exact ⟨g, cap, hf, hg, hbr⟩
  case rest =>
    obtain ⟨g, cap, ht, hg, hbr⟩ := hcut
    go_wp2
    go_ret2
    exact ⟨g, cap, rfl, ht, hg, hbr⟩
end Go.Proofs.YtmahledpcpdldaaGreat
/- Typ2 -/
set_option linter.unusedVariables false
set_option linter.unusedSimpArgs false
namespace Go.Proofs.YtmahledpcpdldaaGreat
open Go.RowKit

structure TypS.Ok (t : TypS) : Prop where
  n1 : 1 ≤ t.n
  n64 : t.n ≤ 64
  k0 : ∀ f, 0 ≤ t.k f
  k2 : ∀ f, t.k f ≤ 2
  c0 : ∀ f, 0 ≤ t.c f
  c1 : ∀ f, t.c f ≤ 1000
  f0 : ∀ f, -1 ≤ t.fr f
  f1 : ∀ f, t.fr f ≤ 1073741824
  w0 : ∀ f, 0 ≤ t.wa f
  w3 : ∀ f, t.wa f ≤ 3
def TypS.can (t : TypS) (f : Int) : Int := if f < 0 then 1 else if (t.n : Int) ≤ f then 1 else 0
theorem TypS.can_cases (t : TypS) (f : Int) : (t.can f = 0 ∧ 0 ≤ f ∧ f < t.n) ∨ t.can f = 1 := by
  unfold TypS.can
  by_cases h0 : f < 0
  · right; rw [if_pos h0]
  rw [if_neg h0]
  by_cases h1 : (t.n : Int) ≤ f
  · right; rw [if_pos h1]
  left; rw [if_neg h1]; omega

theorem TypIs.touch {w w' : World} {a g cap : Nat} {t : TypS} {S : Nat → Prop} (h : TypIs w a g cap t) (ht : Touch S w w') (ha : ¬ S a) (hg : ¬ S g) : TypIs w' a g cap t := by
  obtain ⟨arr, hr, hc⟩ := h.row
  exact ⟨ht.at h.box ha, ⟨arr, ht.at hr hg, hc⟩, h.ne⟩
theorem TypIs.after {w w' : World} {a g cap : Nat} {t : TypS} (h : TypIs w a g cap t) (hb : Below w.heap.size w w') : TypIs w' a g cap t :=
  h.touch (Touch.of_below (S := fun _ => False) hb) (fun h => h) (fun h => h)
theorem TypIs.lta {w : World} {a g cap : Nat} {t : TypS} (h : TypIs w a g cap t) : a < w.heap.size := lt_of_block h.box
theorem TypIs.ltg {w : World} {a g cap : Nat} {t : TypS} (h : TypIs w a g cap t) : g < w.heap.size := by obtain ⟨_, hr, _⟩ := h.row; exact lt_of_block hr
theorem TypIs.cell0 {w : World} {a g cap : Nat} {t : TypS} (h : TypIs w a g cap t) : w.cell? ⟨a, 0, none⟩ = some (.slice (some ⟨g, 0, none⟩) t.n cap) := by rw [cell_of h.box]; rfl
theorem TypIs.at {w : World} {a g cap : Nat} {t : TypS} (h : TypIs w a g cap t) {f : Nat} (hf : f < t.n) :
    w.cell? ⟨g, f * 4, none⟩ = some (.int .i64 (t.k f)) ∧ w.cell? ⟨g, f * 4 + 1, none⟩ = some (.int .i64 (t.c f)) ∧ w.cell? ⟨g, f * 4 + 2, none⟩ = some (.int .i64 (t.fr f)) ∧ w.cell? ⟨g, f * 4 + 3, none⟩ = some (.int .i64 (t.wa f)) := by
  obtain ⟨arr, hr, hc⟩ := h.row
  simp only [cell_of hr]
  exact ⟨hc f 0 hf (by decide), hc f 1 hf (by decide), hc f 2 hf (by decide), hc f 3 hf (by decide)⟩
theorem TypIs.free {w : World} {a g cap : Nat} {t : TypS} (h : TypIs w a g cap t) (o : Nat) : w.frozen? ⟨g, o, none⟩ = false := by
  obtain ⟨arr, hr, hc⟩ := h.row; exact frozen_of hr o
/-- One cell turned. -/
theorem TypIs.set {w : World} {a g cap : Nat} {t t' : TypS} (h : TypIs w a g cap t) (f o : Nat) (hf : f < t.n) (ho : o < 4) (v : Value) (hn : t'.n = t.n) (hv : tcell t' f o = v)
    (hs : ∀ f' o', (f' ≠ f ∨ o' ≠ o) → o' < 4 → tcell t' f' o' = tcell t f' o') : TypIs (w.setCell ⟨g, f * 4 + o, none⟩ v) a g cap t' := by
  obtain ⟨arr, hr, hc⟩ := h.row
  refine ⟨by rw [hn]; exact heap_set_ne h.box _ h.ne, ⟨_, heap_set hr _, ?_⟩, h.ne⟩
  intro f' o' hf' ho'
  rw [hn] at hf'
  have hlt : f' * 4 + o' < arr.size := by
    have := hc f' o' hf' ho'
    rcases Nat.lt_or_ge (f' * 4 + o') arr.size with h | h
    · exact h
    · rw [Array.getElem?_eq_none h] at this; cases this
  rw [Array.getElem?_setIfInBounds]
  by_cases e : f * 4 + o = f' * 4 + o'
  · have e1 : f' = f := by omega
    have e2 : o' = o := by omega
    subst e1; subst e2
    rw [if_pos rfl, if_pos hlt, hv]
  · rw [if_neg e, hc f' o' hf' ho', hs f' o' (by omega) ho']

theorem typ_none (a g cap : Nat) (t : TypS) (w : World) (h : TypIs w a g cap t) (ok : t.Ok) : Calls Tryz.prog 244 #[.pointer (some ⟨a, 0, none⟩)] w fun e w' => e = .returned (.bool false) ∧ w = w' := by
  have g0 := h.cell0
  have n1 := ok.n1
  have hz : ((t.n : Int) == 0) = false := by simp; omega
  go_enter Tryz.func244, Tryz.ntmps244
  go_wp2
  go_ret
  exact ⟨rfl, rfl⟩
theorem typ_can (a g cap : Nat) (t : TypS) (f : Int) (w : World) (h : TypIs w a g cap t) (ok : t.Ok) : Calls Tryz.prog 182 #[.pointer (some ⟨a, 0, none⟩), .int .i64 f] w fun e w' =>
    e = .returned (.int .i64 (t.can f)) ∧ w = w' := by
  have g0 := h.cell0
  unfold TypS.can
  by_cases h0 : f < 0
  · rw [if_pos h0]
    go_enter Tryz.func182, Tryz.ntmps182
    go_wp2_with ((go_at_call 244; (with_reducible refine (typ_none _ _ _ _ w h ok).mono ?_); rintro e w' ⟨rfl, rfl⟩))
    go_ret
    exact ⟨rfl, rfl⟩
  by_cases h1 : (t.n : Int) ≤ f
  · rw [if_neg h0, if_pos h1]
    go_enter Tryz.func182, Tryz.ntmps182
    go_wp2_with ((go_at_call 244; (with_reducible refine (typ_none _ _ _ _ w h ok).mono ?_); rintro e w' ⟨rfl, rfl⟩))
    go_ret
    exact ⟨rfl, rfl⟩
  rw [if_neg h0, if_neg h1]
  go_enter Tryz.func182, Tryz.ntmps182
  go_wp2_with ((go_at_call 244; (with_reducible refine (typ_none _ _ _ _ w h ok).mono ?_); rintro e w' ⟨rfl, rfl⟩))
  go_ret
  exact ⟨rfl, rfl⟩

/-- free: the later time. -/
theorem typ_free (g o : Nat) (x now : Int) (w : World) (hc : w.cell? ⟨g, o + 2, none⟩ = some (.int .i64 x)) (hf : w.frozen? ⟨g, o + 2, none⟩ = false) :
    Calls Tryz.prog 183 #[.pointer (some ⟨g, o, none⟩), .int .i64 now] w fun e w' => e = .returned (.tuple #[]) ∧ w' = w.setCell ⟨g, o + 2, none⟩ (.int .i64 (max x now)) := by
  have hf' := hf
  by_cases hx : x < now
  · rw [show max x now = now by omega]
    go_enter Tryz.func183, Tryz.ntmps183
    go_wp2
    go_end0
    exact ⟨rfl, rfl⟩
  · rw [show max x now = x by omega]
    go_enter Tryz.func183, Tryz.ntmps183
    go_wp2
    go_end0
    exact ⟨rfl, rfl⟩
theorem typ_of (a g cap : Nat) (t : TypS) (f : Int) (w : World) (h : TypIs w a g cap t) (ok : t.Ok) : Calls Tryz.prog 192 #[.pointer (some ⟨a, 0, none⟩), .int .i64 f] w fun e w' =>
    e = .returned (.agg (if t.can f = 0 then #[.int .i64 (t.k f.toNat), .int .i64 (t.c f.toNat), .int .i64 (t.fr f.toNat), .int .i64 (t.wa f.toNat)] else #[.int .i64 0, .int .i64 0, .int .i64 (-1), .int .i64 0])) ∧ Below w.heap.size w w' := by
  have hA : ∀ o, TypIs (w.alloc o) a g cap t := fun o => h.after (by (refine Touch.below0 ?_; (repeat' (first | (with_reducible exact Touch.refl _ _) | (with_reducible assumption) | (with_reducible refine Touch.drew ?_) | (with_reducible refine Touch.drewN ?_ _) | (with_reducible refine Touch.alloc ?_ _) | (with_reducible refine Touch.setCell ?_ _ _ _ ?_) | (with_reducible refine Touch.step (by assumption) ?_) | (with_reducible refine Touch.stepT (by assumption) ?_ ?_) | (intro _; first | rfl | trivial | omega | (simp; done) | (simp; omega)) | (intro _ _; first | omega | (simp; done) | (simp; omega))))))
  have hl := h.ltg
  have hl0 := h.lta
  rcases t.can_cases f with ⟨hc, f0, fn⟩ | hc
  · rw [if_pos hc]
    have HC := Lib.hid hc; clear hc
    have g0 := h.cell0
    obtain ⟨c0, c1, c2, c3⟩ := h.at (f := f.toNat) (by omega)
    go_enter Tryz.func192, Tryz.ntmps192
    go_wp2_with ((go_at_call 182; (with_reducible refine (typ_can _ _ _ _ _ _ (hA _) ok).mono ?_); rintro e w' ⟨rfl, rfl⟩); rw [HC.out])
    ((try simp only [Exit.inBlock, Exit.then]); refine bodyPost_ret (results_cell_row rfl _ _ w.heap.size 259 #[.int .i64 (t.k f.toNat), .int .i64 (t.c f.toNat), .int .i64 (t.fr f.toNat), .int .i64 (t.wa f.toNat)] (0, 0) _ rfl ?_ Tryz.underlying259 rfl (by kernel_rfl)) rfl ?_)
    · exact heap_new _ _
    exact ⟨rfl, by (refine Touch.below0 ?_; (repeat' (first | (with_reducible exact Touch.refl _ _) | (with_reducible assumption) | (with_reducible refine Touch.drew ?_) | (with_reducible refine Touch.drewN ?_ _) | (with_reducible refine Touch.alloc ?_ _) | (with_reducible refine Touch.setCell ?_ _ _ _ ?_) | (with_reducible refine Touch.step (by assumption) ?_) | (with_reducible refine Touch.stepT (by assumption) ?_ ?_) | (intro _; first | rfl | trivial | omega | (simp; done) | (simp; omega)) | (intro _ _; first | omega | (simp; done) | (simp; omega)))))⟩
  · rw [if_neg (by omega)]
    have HC := Lib.hid hc; clear hc
    go_enter Tryz.func192, Tryz.ntmps192
    go_wp2_with (first
      | ((go_at_call 182; (with_reducible refine (typ_can _ _ _ _ _ _ (hA _) ok).mono ?_); rintro e w' ⟨rfl, rfl⟩); rw [HC.out])
      | ((go_at_call 169; (with_reducible refine (typ_fresh _).mono ?_); rintro e w' ⟨rfl, hb1⟩)
         have hbx : w'.heap[w.heap.size]? = _ := (hb1.block _ (by simp)).trans (heap_new w _)
         have x0 := cell_of hbx 0
         have x1 := cell_of hbx 1
         have x2 := cell_of hbx 2
         have x3 := cell_of hbx 3
         have fz := frozen_of hbx
         have hbw : Below w.heap.size w w' := Below.trans (b := w.alloc _) (by (refine Touch.below0 ?_; (repeat' (first | (with_reducible exact Touch.refl _ _) | (with_reducible assumption) | (with_reducible refine Touch.drew ?_) | (with_reducible refine Touch.drewN ?_ _) | (with_reducible refine Touch.alloc ?_ _) | (with_reducible refine Touch.setCell ?_ _ _ _ ?_) | (with_reducible refine Touch.step (by assumption) ?_) | (with_reducible refine Touch.stepT (by assumption) ?_ ?_) | (intro _; first | rfl | trivial | omega | (simp; done) | (simp; omega)) | (intro _ _; first | omega | (simp; done) | (simp; omega)))))) (hb1.mono (by simp))
         dsimp at x0 x1 x2 x3))
    ((try simp only [Exit.inBlock, Exit.then]); refine bodyPost_ret (results_cell_row rfl _ _ w.heap.size 259 #[.int .i64 0, .int .i64 0, .int .i64 (-1), .int .i64 0] (0, 0) _ rfl ?_ Tryz.underlying259 rfl (by kernel_rfl)) rfl ?_)
    · exact heap_set (heap_set (heap_set (heap_set hbx _) _) _) _
    exact ⟨rfl, by (refine Touch.below0 ?_; (repeat' (first | (with_reducible exact Touch.refl _ _) | (with_reducible assumption) | (with_reducible refine Touch.drew ?_) | (with_reducible refine Touch.drewN ?_ _) | (with_reducible refine Touch.alloc ?_ _) | (with_reducible refine Touch.setCell ?_ _ _ _ ?_) | (with_reducible refine Touch.step (by assumption) ?_) | (with_reducible refine Touch.stepT (by assumption) ?_ ?_) | (intro _; first | rfl | trivial | omega | (simp; done) | (simp; omega)) | (intro _ _; first | omega | (simp; done) | (simp; omega)))))⟩
end Go.Proofs.YtmahledpcpdldaaGreat
/- Typ3 -/
set_option linter.unusedVariables false
set_option linter.unusedSimpArgs false
namespace Go.Proofs.YtmahledpcpdldaaGreat
open Go.RowKit

def TypS.freed (t : TypS) (f : Int) : Int := if t.can f = 0 then t.fr f.toNat else -1
def TypS.was (t : TypS) (f : Int) : Int := if t.can f = 0 then t.wa f.toNat else 0
def TypS.retypeE (t : TypS) (f kd : Int) (q : Bool) : Int :=
  if t.can f ≠ 0 then 1 else if kd ≠ 1 ∧ kd ≠ 2 then 1 else if t.k f.toNat ≠ 0 then 4 else if q = true then 0 else 6
def TypS.retype (t : TypS) (f kd : Int) (q : Bool) : TypS := if t.retypeE f kd q = 0 then { t with k := upd t.k f.toNat kd } else t
def TypS.untypeE (t : TypS) (f : Int) : Int := if t.can f ≠ 0 then 1 else if t.k f.toNat = 0 then 4 else if t.c f.toNat ≠ 0 then 10 else 0
def TypS.untype (t : TypS) (f now : Int) (pages : Bool) : TypS :=
  if t.untypeE f = 0 then { t with k := upd t.k f.toNat 0, wa := upd t.wa f.toNat (if pages = true ∧ t.k f.toNat = 2 then 3 else t.k f.toNat), fr := upd t.fr f.toNat (max (t.fr f.toNat) now) } else t

theorem typ_freed (a g cap : Nat) (t : TypS) (f : Int) (w : World) (h : TypIs w a g cap t) (ok : t.Ok) : Calls Tryz.prog 98 #[.pointer (some ⟨a, 0, none⟩), .int .i64 f] w fun e w' =>
    e = .returned (.int .i64 (t.freed f)) ∧ Below w.heap.size w w' := by
  unfold TypS.freed
  rcases t.can_cases f with ⟨hc, f0, fn⟩ | hc
  · have hof := typ_of a g cap t f w h ok
    rw [if_pos hc] at hof ⊢
    go_enter Tryz.func98, Tryz.ntmps98
    go_wp2_with ((go_at_call 192; (with_reducible refine (hof).mono ?_); rintro e w' ⟨rfl, hb1⟩))
    go_ret
    exact ⟨rfl, hb1⟩
  · have hof := typ_of a g cap t f w h ok
    rw [if_neg (by omega)] at hof ⊢
    go_enter Tryz.func98, Tryz.ntmps98
    go_wp2_with ((go_at_call 192; (with_reducible refine (hof).mono ?_); rintro e w' ⟨rfl, hb1⟩))
    go_ret
    exact ⟨rfl, hb1⟩
theorem typ_was (a g cap : Nat) (t : TypS) (f : Int) (w : World) (h : TypIs w a g cap t) (ok : t.Ok) : Calls Tryz.prog 99 #[.pointer (some ⟨a, 0, none⟩), .int .i64 f] w fun e w' =>
    e = .returned (.int .i64 (t.was f)) ∧ Below w.heap.size w w' := by
  unfold TypS.was
  rcases t.can_cases f with ⟨hc, f0, fn⟩ | hc
  · have hof := typ_of a g cap t f w h ok
    rw [if_pos hc] at hof ⊢
    go_enter Tryz.func99, Tryz.ntmps99
    go_wp2_with ((go_at_call 192; (with_reducible refine (hof).mono ?_); rintro e w' ⟨rfl, hb1⟩))
    go_ret
    exact ⟨rfl, hb1⟩
  · have hof := typ_of a g cap t f w h ok
    rw [if_neg (by omega)] at hof ⊢
    go_enter Tryz.func99, Tryz.ntmps99
    go_wp2_with ((go_at_call 192; (with_reducible refine (hof).mono ?_); rintro e w' ⟨rfl, hb1⟩))
    go_ret
    exact ⟨rfl, hb1⟩

set_option maxHeartbeats 4000000 in
theorem typ_retype (a g cap : Nat) (t : TypS) (f kd : Int) (q : Bool) (w : World) (h : TypIs w a g cap t) (ok : t.Ok) : Calls Tryz.prog 108 #[.pointer (some ⟨a, 0, none⟩), .int .i64 f, .int .i64 kd, .bool q] w fun e w' =>
    e = .returned (.int .i64 (t.retypeE f kd q)) ∧ TypIs w' a g cap (t.retype f kd q) ∧ Touch (· = g) w w' := by
  rcases t.can_cases f with ⟨hc, f0, fn⟩ | hc
  · have g0 := h.cell0
    obtain ⟨c0, c1, c2, c3⟩ := h.at (f := f.toNat) (by omega)
    have gf := h.free
    by_cases ht : kd ≠ 1 ∧ kd ≠ 2
    · have hE : t.retypeE f kd q = 1 := by simp [TypS.retypeE, hc, ht]
      rw [TypS.retype, hE, if_neg (by decide)]
      have HC := Lib.hid hc; clear hc
      obtain ⟨ht1, ht2⟩ := ht
      go_enter Tryz.func108, Tryz.ntmps108
      go_wp2_with ((go_at_call 182; (with_reducible refine (typ_can _ _ _ _ _ _ h ok).mono ?_); rintro e w' ⟨rfl, rfl⟩); rw [HC.out])
      go_ret
      exact ⟨rfl, h, Touch.refl _ _⟩
    · by_cases hk : t.k f.toNat = 0
      · cases q
        · have hE : t.retypeE f kd false = 6 := by simp [TypS.retypeE, hc, hk]; omega
          rw [TypS.retype, hE, if_neg (by decide)]
          have HC := Lib.hid hc; clear hc
          obtain rfl | rfl : kd = 1 ∨ kd = 2 := by omega
          all_goals
            go_enter Tryz.func108, Tryz.ntmps108
            go_wp2_with ((go_at_call 182; (with_reducible refine (typ_can _ _ _ _ _ _ h ok).mono ?_); rintro e w' ⟨rfl, rfl⟩); rw [HC.out])
            go_ret
            exact ⟨rfl, h, Touch.refl _ _⟩
        · have hE : t.retypeE f kd true = 0 := by simp [TypS.retypeE, hc, hk]; omega
          rw [TypS.retype, hE, if_pos rfl]
          have HC := Lib.hid hc; clear hc
          have hset : TypIs (w.setCell ⟨g, f.toNat * 4 + 0, none⟩ (.int .i64 kd)) a g cap { t with k := upd t.k f.toNat kd } :=
            h.set f.toNat 0 (by omega) (by decide) _ rfl (by simp [tcell, upd]) (fun f' o' hn ho => by
              match o', ho with
              | 0, _ => simp only [tcell]; rw [upd_ne _ _ _ _ (by omega)]
              | 1, _ => rfl
              | 2, _ => rfl
              | 3, _ => rfl)
          obtain rfl | rfl : kd = 1 ∨ kd = 2 := by omega
          all_goals
            go_enter Tryz.func108, Tryz.ntmps108
            go_wp2_with ((go_at_call 182; (with_reducible refine (typ_can _ _ _ _ _ _ h ok).mono ?_); rintro e w' ⟨rfl, rfl⟩); rw [HC.out])
            go_ret
            exact ⟨rfl, hset, by (repeat' (first | (with_reducible exact Touch.refl _ _) | (with_reducible assumption) | (with_reducible refine Touch.drew ?_) | (with_reducible refine Touch.drewN ?_ _) | (with_reducible refine Touch.alloc ?_ _) | (with_reducible refine Touch.setCell ?_ _ _ _ ?_) | (with_reducible refine Touch.step (by assumption) ?_) | (with_reducible refine Touch.stepT (by assumption) ?_ ?_) | (intro _; first | rfl | trivial | omega | (simp; done) | (simp; omega)) | (intro _ _; first | omega | (simp; done) | (simp; omega))))⟩
      · have hE : t.retypeE f kd q = 4 := by simp [TypS.retypeE, hc, hk]; omega
        rw [TypS.retype, hE, if_neg (by decide)]
        have HC := Lib.hid hc; clear hc
        obtain rfl | rfl : kd = 1 ∨ kd = 2 := by omega
        all_goals
          go_enter Tryz.func108, Tryz.ntmps108
          go_wp2_with ((go_at_call 182; (with_reducible refine (typ_can _ _ _ _ _ _ h ok).mono ?_); rintro e w' ⟨rfl, rfl⟩); rw [HC.out])
          go_ret
          exact ⟨rfl, h, Touch.refl _ _⟩
  · have hE : t.retypeE f kd q = 1 := by simp [TypS.retypeE, hc]
    rw [TypS.retype, hE, if_neg (by decide)]
    have HC := Lib.hid hc; clear hc
    go_enter Tryz.func108, Tryz.ntmps108
    go_wp2_with ((go_at_call 182; (with_reducible refine (typ_can _ _ _ _ _ _ h ok).mono ?_); rintro e w' ⟨rfl, rfl⟩); rw [HC.out])
    go_ret
    exact ⟨rfl, h, Touch.refl _ _⟩

theorem TypIs.setk {w : World} {a g cap : Nat} {t : TypS} (h : TypIs w a g cap t) (f : Nat) (hf : f < t.n) (x : Int) : TypIs (w.setCell ⟨g, f * 4, none⟩ (.int .i64 x)) a g cap { t with k := upd t.k f x } :=
  h.set f 0 hf (by decide) _ rfl (by simp [tcell, upd]) (fun f' o' hn ho => by
    match o', ho with
    | 0, _ => simp only [tcell]; rw [upd_ne _ _ _ _ (by omega)]
    | 1, _ => rfl
    | 2, _ => rfl
    | 3, _ => rfl)
theorem TypIs.setfr {w : World} {a g cap : Nat} {t : TypS} (h : TypIs w a g cap t) (f : Nat) (hf : f < t.n) (x : Int) : TypIs (w.setCell ⟨g, f * 4 + 2, none⟩ (.int .i64 x)) a g cap { t with fr := upd t.fr f x } :=
  h.set f 2 hf (by decide) _ rfl (by simp [tcell, upd]) (fun f' o' hn ho => by
    match o', ho with
    | 0, _ => rfl
    | 1, _ => rfl
    | 2, _ => simp only [tcell]; rw [upd_ne _ _ _ _ (by omega)]
    | 3, _ => rfl)
theorem TypIs.setwa {w : World} {a g cap : Nat} {t : TypS} (h : TypIs w a g cap t) (f : Nat) (hf : f < t.n) (x : Int) : TypIs (w.setCell ⟨g, f * 4 + 3, none⟩ (.int .i64 x)) a g cap { t with wa := upd t.wa f x } :=
  h.set f 3 hf (by decide) _ rfl (by simp [tcell, upd]) (fun f' o' hn ho => by
    match o', ho with
    | 0, _ => rfl
    | 1, _ => rfl
    | 2, _ => rfl
    | 3, _ => simp only [tcell]; rw [upd_ne _ _ _ _ (by omega)])
theorem TypIs.setc {w : World} {a g cap : Nat} {t : TypS} (h : TypIs w a g cap t) (f : Nat) (hf : f < t.n) (x : Int) : TypIs (w.setCell ⟨g, f * 4 + 1, none⟩ (.int .i64 x)) a g cap { t with c := upd t.c f x } :=
  h.set f 1 hf (by decide) _ rfl (by simp [tcell, upd]) (fun f' o' hn ho => by
    match o', ho with
    | 0, _ => rfl
    | 1, _ => simp only [tcell]; rw [upd_ne _ _ _ _ (by omega)]
    | 2, _ => rfl
    | 3, _ => rfl)
theorem upd_upd {α : Type} (f : Nat → α) (i : Nat) (x y : α) : upd (upd f i x) i y = upd f i y := by funext j; unfold upd; split <;> rfl

set_option maxHeartbeats 4000000 in
theorem typ_untype (a g cap : Nat) (t : TypS) (f now : Int) (pages : Bool) (w : World) (h : TypIs w a g cap t) (ok : t.Ok) : Calls Tryz.prog 85 #[.pointer (some ⟨a, 0, none⟩), .int .i64 f, .int .i64 now, .bool pages] w fun e w' =>
    e = .returned (.int .i64 (t.untypeE f)) ∧ TypIs w' a g cap (t.untype f now pages) ∧ Touch (· = g) w w' := by
  rcases t.can_cases f with ⟨hc, f0, fn⟩ | hc
  · have g0 := h.cell0
    have hf : f.toNat < t.n := by omega
    obtain ⟨c0, c1, c2, c3⟩ := h.at hf
    have gf := h.free
    by_cases hk : t.k f.toNat = 0
    · have hE : t.untypeE f = 4 := by simp [TypS.untypeE, hc, hk]
      rw [TypS.untype, hE, if_neg (by decide)]
      have HC := Lib.hid hc; clear hc
      go_enter Tryz.func85, Tryz.ntmps85
      go_wp2_with ((go_at_call 182; (with_reducible refine (typ_can _ _ _ _ _ _ h ok).mono ?_); rintro e w' ⟨rfl, rfl⟩); rw [HC.out])
      go_ret
      exact ⟨rfl, h, Touch.refl _ _⟩
    by_cases hcc : t.c f.toNat = 0
    · have hE : t.untypeE f = 0 := by simp [TypS.untypeE, hc, hk, hcc]
      rw [TypS.untype, hE, if_pos rfl]
      have HC := Lib.hid hc; clear hc
      by_cases hp : pages = true ∧ t.k f.toNat = 2
      · rw [if_pos hp]
        obtain ⟨rfl, hk2⟩ := hp
        have h1 := ((h.setwa f.toNat hf 2).setwa f.toNat hf 3).setk f.toNat hf 0
        have h2 := h1.setfr f.toNat hf (max (t.fr f.toNat) now)
        simp only [upd_upd] at h2
        obtain ⟨d0, d1, d2, d3⟩ := h1.at hf
        have df := h1.free
        go_enter Tryz.func85, Tryz.ntmps85
        go_wp2_with (first
          | ((go_at_call 182; (with_reducible refine (typ_can _ _ _ _ _ _ h ok).mono ?_); rintro e w' ⟨rfl, rfl⟩); rw [HC.out])
          | (go_at_call 183; (with_reducible refine (typ_free _ _ _ _ _ d2 (df _)).mono ?_); rintro e w' ⟨rfl, rfl⟩))
        go_ret
        exact ⟨rfl, h2, by (repeat' (first | (with_reducible exact Touch.refl _ _) | (with_reducible assumption) | (with_reducible refine Touch.drew ?_) | (with_reducible refine Touch.drewN ?_ _) | (with_reducible refine Touch.alloc ?_ _) | (with_reducible refine Touch.setCell ?_ _ _ _ ?_) | (with_reducible refine Touch.step (by assumption) ?_) | (with_reducible refine Touch.stepT (by assumption) ?_ ?_) | (intro _; first | rfl | trivial | omega | (simp; done) | (simp; omega)) | (intro _ _; first | omega | (simp; done) | (simp; omega))))⟩
      · rw [if_neg hp]
        have h1 := (h.setwa f.toNat hf (t.k f.toNat)).setk f.toNat hf 0
        have h2 := h1.setfr f.toNat hf (max (t.fr f.toNat) now)
        obtain ⟨d0, d1, d2, d3⟩ := h1.at hf
        have df := h1.free
        cases pages
        · go_enter Tryz.func85, Tryz.ntmps85
          go_wp2_with (first
            | ((go_at_call 182; (with_reducible refine (typ_can _ _ _ _ _ _ h ok).mono ?_); rintro e w' ⟨rfl, rfl⟩); rw [HC.out])
            | (go_at_call 183; (with_reducible refine (typ_free _ _ _ _ _ d2 (df _)).mono ?_); rintro e w' ⟨rfl, rfl⟩))
          go_ret
          exact ⟨rfl, h2, by (repeat' (first | (with_reducible exact Touch.refl _ _) | (with_reducible assumption) | (with_reducible refine Touch.drew ?_) | (with_reducible refine Touch.drewN ?_ _) | (with_reducible refine Touch.alloc ?_ _) | (with_reducible refine Touch.setCell ?_ _ _ _ ?_) | (with_reducible refine Touch.step (by assumption) ?_) | (with_reducible refine Touch.stepT (by assumption) ?_ ?_) | (intro _; first | rfl | trivial | omega | (simp; done) | (simp; omega)) | (intro _ _; first | omega | (simp; done) | (simp; omega))))⟩
        · have hk2 : t.k f.toNat ≠ 2 := fun e => hp ⟨rfl, e⟩
          go_enter Tryz.func85, Tryz.ntmps85
          go_wp2_with (first
            | ((go_at_call 182; (with_reducible refine (typ_can _ _ _ _ _ _ h ok).mono ?_); rintro e w' ⟨rfl, rfl⟩); rw [HC.out])
            | (go_at_call 183; (with_reducible refine (typ_free _ _ _ _ _ d2 (df _)).mono ?_); rintro e w' ⟨rfl, rfl⟩))
          go_ret
          exact ⟨rfl, h2, by (repeat' (first | (with_reducible exact Touch.refl _ _) | (with_reducible assumption) | (with_reducible refine Touch.drew ?_) | (with_reducible refine Touch.drewN ?_ _) | (with_reducible refine Touch.alloc ?_ _) | (with_reducible refine Touch.setCell ?_ _ _ _ ?_) | (with_reducible refine Touch.step (by assumption) ?_) | (with_reducible refine Touch.stepT (by assumption) ?_ ?_) | (intro _; first | rfl | trivial | omega | (simp; done) | (simp; omega)) | (intro _ _; first | omega | (simp; done) | (simp; omega))))⟩
    · have hE : t.untypeE f = 10 := by simp [TypS.untypeE, hc, hk, hcc]
      rw [TypS.untype, hE, if_neg (by decide)]
      have HC := Lib.hid hc; clear hc
      go_enter Tryz.func85, Tryz.ntmps85
      go_wp2_with ((go_at_call 182; (with_reducible refine (typ_can _ _ _ _ _ _ h ok).mono ?_); rintro e w' ⟨rfl, rfl⟩); rw [HC.out])
      go_ret
      exact ⟨rfl, h, Touch.refl _ _⟩
  · have hE : t.untypeE f = 1 := by simp [TypS.untypeE, hc]
    rw [TypS.untype, hE, if_neg (by decide)]
    have HC := Lib.hid hc; clear hc
    go_enter Tryz.func85, Tryz.ntmps85
    go_wp2_with ((go_at_call 182; (with_reducible refine (typ_can _ _ _ _ _ _ h ok).mono ?_); rintro e w' ⟨rfl, rfl⟩); rw [HC.out])
    go_ret
    exact ⟨rfl, h, Touch.refl _ _⟩
end Go.Proofs.YtmahledpcpdldaaGreat
/- TypC -/
set_option linter.unusedVariables false
set_option linter.unusedSimpArgs false
namespace Go.Proofs.YtmahledpcpdldaaGreat
open Go.RowKit
def TypS.type (t : TypS) (f : Int) : Int := if t.can f = 0 then t.k f.toNat else 0
def TypS.count (t : TypS) (f : Int) : Int := if t.can f = 0 then t.c f.toNat else 0
theorem typ_type (a g cap : Nat) (t : TypS) (f : Int) (w : World) (h : TypIs w a g cap t) (ok : t.Ok) : Calls Tryz.prog 96 #[.pointer (some ⟨a, 0, none⟩), .int .i64 f] w fun e w' =>
    e = .returned (.int .i64 (t.type f)) ∧ Below w.heap.size w w' := by
  unfold TypS.type
  rcases t.can_cases f with ⟨hc, f0, fn⟩ | hc
  · have hof := typ_of a g cap t f w h ok
    rw [if_pos hc] at hof ⊢
    go_enter Tryz.func96, Tryz.ntmps96
    go_wp2_with ((go_at_call 192; (with_reducible refine (hof).mono ?_); rintro e w' ⟨rfl, hb1⟩))
    go_ret
    exact ⟨rfl, hb1⟩
  · have hof := typ_of a g cap t f w h ok
    rw [if_neg (by omega)] at hof ⊢
    go_enter Tryz.func96, Tryz.ntmps96
    go_wp2_with ((go_at_call 192; (with_reducible refine (hof).mono ?_); rintro e w' ⟨rfl, hb1⟩))
    go_ret
    exact ⟨rfl, hb1⟩
theorem typ_count (a g cap : Nat) (t : TypS) (f : Int) (w : World) (h : TypIs w a g cap t) (ok : t.Ok) : Calls Tryz.prog 97 #[.pointer (some ⟨a, 0, none⟩), .int .i64 f] w fun e w' =>
    e = .returned (.int .i64 (t.count f)) ∧ Below w.heap.size w w' := by
  unfold TypS.count
  rcases t.can_cases f with ⟨hc, f0, fn⟩ | hc
  · have hof := typ_of a g cap t f w h ok
    rw [if_pos hc] at hof ⊢
    go_enter Tryz.func97, Tryz.ntmps97
    go_wp2_with ((go_at_call 192; (with_reducible refine (hof).mono ?_); rintro e w' ⟨rfl, hb1⟩))
    go_ret
    exact ⟨rfl, hb1⟩
  · have hof := typ_of a g cap t f w h ok
    rw [if_neg (by omega)] at hof ⊢
    go_enter Tryz.func97, Tryz.ntmps97
    go_wp2_with ((go_at_call 192; (with_reducible refine (hof).mono ?_); rintro e w' ⟨rfl, hb1⟩))
    go_ret
    exact ⟨rfl, hb1⟩
end Go.Proofs.YtmahledpcpdldaaGreat
