/- quiet.Left: which cores are missing. -/
import Derived.Test.YtalcifmojngddaaQuiet
import Derived.Test.YtalcifmojngddaaRef03
import Derived.Deep.Light
set_option linter.unusedVariables false
set_option linter.unusedSimpArgs false
namespace Go.Proofs.Ytalcifmojngddaa
open Go.RowKit

/-- What must be seen, by what a frame was: the kernel, the pages; is there such a thing. -/
def mustK (was : Int) : Bool := decide (was = 2) || decide (was = 3)
def mustP (was : Int) : Bool := decide (was = 1) || decide (was = 3)
def mustI (was : Int) : Bool := decide (0 ≤ was) && decide (was ≤ 3)
def Clk.miss (c : Clk) (was t : Int) (i : Int) : Bool := !mustI was || mustK was && decide (c.entered i ≤ t) || mustP was && decide (c.flushed i ≤ t)
/-- The missing ones among the first n cores. -/
def Clk.left (c : Clk) (was t : Int) (n : Nat) : List Int := ((List.range n).filter fun j => c.miss was t (j : Nat)).map fun j => ((j : Nat) : Int)
def ivals (l : List Int) : List Value := l.map fun x => Value.int .i64 x

theorem Clk.left_succ (c : Clk) (was t : Int) (n : Nat) : c.left was t (n + 1) = c.left was t n ++ (if c.miss was t (n : Nat) then [(n : Int)] else []) := by
  unfold Clk.left
  rw [List.range_succ, List.filter_append, List.map_append]
  congr 1
  by_cases h : c.miss was t (n : Nat) = true <;> simp [h]
theorem Clk.left_le (c : Clk) (was t : Int) (n : Nat) : (c.left was t n).length ≤ n := by
  unfold Clk.left
  rw [List.length_map]
  exact Nat.le_trans (List.length_filter_le _ _) (by simp)

theorem q_must (was : Int) (w : World) : Calls Try.prog 44 #[.int .i64 was] w fun e w' =>
    e = .returned (.tuple #[.bool (mustK was), .bool (mustP was), .bool (mustI was)]) ∧ w = w' := by
  by_cases h0 : was = 0
  · subst h0
    go_enter Try.func44, Try.ntmps44
    go_wp2
    go_ret3
    exact ⟨rfl, rfl⟩
  by_cases h1 : was = 1
  · subst h1
    go_enter Try.func44, Try.ntmps44
    go_wp2
    go_ret3
    exact ⟨rfl, rfl⟩
  by_cases h2 : was = 2
  · subst h2
    go_enter Try.func44, Try.ntmps44
    go_wp2
    go_ret3
    exact ⟨rfl, rfl⟩
  by_cases h3 : was = 3
  · subst h3
    go_enter Try.func44, Try.ntmps44
    go_wp2
    go_ret3
    exact ⟨rfl, rfl⟩
  have e0 : (was == 0) = false := by simp [h0]
  have e1 : (was == 1) = false := by simp [h1]
  have e2 : (was == 2) = false := by simp [h2]
  have e3 : (was == 3) = false := by simp [h3]
  have m1 : mustK was = false := by simp [mustK, h2, h3]
  have m2 : mustP was = false := by simp [mustP, h1, h3]
  have m3 : mustI was = false := by simp [mustI]; omega
  rw [m1, m2, m3]
  clear h0 h1 h2 h3 m1 m2 m3
  go_enter Try.func44, Try.ntmps44
  go_wp2
  go_ret3
  exact ⟨rfl, rfl⟩

set_option maxHeartbeats 8000000 in
theorem q_left1 (b x1 x2 x3 x4 x5 : Nat) (c : Clk) (i t : Int) (is k p : Bool) (w : World) (h : ClkAt w b c) (ok : c.Ok)
    (g1 : w.cell? ⟨x1, 0, none⟩ = some (.bool is)) (g2 : w.cell? ⟨x2, 0, none⟩ = some (.bool k)) (g3 : w.cell? ⟨x3, 0, none⟩ = some (.pointer (some ⟨b, 0, none⟩)))
    (g4 : w.cell? ⟨x4, 0, none⟩ = some (.int .i64 t)) (g5 : w.cell? ⟨x5, 0, none⟩ = some (.bool p)) :
    Calls Try.prog 45 #[.int .i64 i, .pointer (some ⟨x1, 0, none⟩), .pointer (some ⟨x2, 0, none⟩), .pointer (some ⟨x3, 0, none⟩), .pointer (some ⟨x4, 0, none⟩), .pointer (some ⟨x5, 0, none⟩)] w fun e w' =>
      e = .returned (.bool (!is || k && decide (c.entered i ≤ t) || p && decide (c.flushed i ≤ t))) ∧ Below w.heap.size w w' := by
  have hl := lt_of_block h
  have l1 : x1 < w.heap.size := lt_of_cell g1
  have l2 : x2 < w.heap.size := lt_of_cell g2
  have l3 : x3 < w.heap.size := lt_of_cell g3
  have l4 : x4 < w.heap.size := lt_of_cell g4
  have l5 : x5 < w.heap.size := lt_of_cell g5
  cases is <;> cases k <;> cases p <;> (by_cases d1 : c.entered i ≤ t) <;> (by_cases d2 : c.flushed i ≤ t) <;>
    (try have d1' : decide (c.entered i ≤ t) = false := by simpa using d1) <;> (try have d2' : decide (c.flushed i ≤ t) = false := by simpa using d2) <;>
    simp only [d1, d2, decide_true, decide_false, Bool.not_true, Bool.not_false, Bool.true_and, Bool.false_and, Bool.or_false, Bool.false_or, Bool.true_or, Bool.or_true, Bool.and_false, Bool.and_true]
  all_goals
    go_enter Try.func45, Try.ntmps45
    go_wp2
    (refine wp_region_calm (by kernel_rfl) (by kernel_rfl) ?_; (repeat (go_big_quiet_step ((first | (go_at_call 15; first | (with_reducible refine Calls.calm_of (clk_entered _ _ _ _ (h.afterB (After.h _)) ok)) | (with_reducible refine Calls.calm_of_same (clk_entered _ _ _ _ (h.afterB (After.h _)) ok))) | (go_at_call 16; first | (with_reducible refine Calls.calm_of (clk_flushed _ _ _ _ (h.afterB (After.h _)) ok)) | (with_reducible refine Calls.calm_of_same (clk_flushed _ _ _ _ (h.afterB (After.h _)) ok))))))); refine wpQuiet_nil ?_; intro _ hw'; obtain ⟨wq, hw''⟩ := hw'; subst hw''; obtain ⟨wq, hbq⟩ := wq; try dsimp only at *)
    go_wp2
    go_ret
    exact ⟨rfl, by (refine Touch.below0 ?_; (repeat' (first | (with_reducible exact Touch.refl _ _) | (with_reducible assumption) | (with_reducible refine Touch.drew ?_) | (with_reducible refine Touch.drewN ?_ _) | (with_reducible refine Touch.alloc ?_ _) | (with_reducible refine Touch.setCell ?_ _ _ _ ?_) | (with_reducible refine Touch.step (by assumption) ?_) | (with_reducible refine Touch.stepT (by assumption) ?_ ?_) | (intro _; first | rfl | trivial | omega | (simp; done) | (simp; omega)) | (intro _ _; first | omega | (simp; done) | (simp; omega)))))⟩

theorem Clk.miss_eq (c : Clk) (was t i : Int) : c.miss was t i = (!mustI was || mustK was && decide (c.entered i ≤ t) || mustP was && decide (c.flushed i ≤ t)) := rfl

theorem ownsRow_base {w : World} {B B' : Nat} {e : TypeId} {size : Nat} {v : Value} {n : Nat} {xs : List Value} (h : w.ownsRow B e size v n xs) (hb : B' ≤ B) : w.ownsRow B' e size v n xs := by
  refine ⟨h.1, ?_⟩
  rcases h.2 with hn | ⟨g, cap, cur, rfl, hg, rest⟩
  · exact .inl hn
  · exact .inr ⟨g, cap, cur, rfl, Nat.le_trans hb hg, rest⟩

/-- The boxes that the closure captured, from block x on. -/
structure Caps (w : World) (x b : Nat) (t : Int) (is k p : Bool) : Prop where
  c0 : w.heap[x]? = some (.cells #[.pointer (some ⟨b, 0, none⟩)] 23 (0, 0))
  c1 : w.heap[x + 1]? = some (.cells #[.int .i64 t] 3 (0, 0))
  c2 : w.heap[x + 1 + 1]? = some (.cells #[.bool k] 4 (0, 0))
  c3 : w.heap[x + 1 + 1 + 1]? = some (.cells #[.bool p] 4 (0, 0))
  c4 : w.heap[x + 1 + 1 + 1 + 1]? = some (.cells #[.bool is] 4 (0, 0))
theorem Caps.touch {w w' : World} {x b : Nat} {t : Int} {is k p : Bool} {S : Nat → Prop} (h : Caps w x b t is k p) (ht : Touch S w w') (hs : ∀ j, j ≤ x + 4 → ¬ S j) : Caps w' x b t is k p :=
  ⟨ht.at h.c0 (hs _ (by omega)), ht.at h.c1 (hs _ (by omega)), ht.at h.c2 (hs _ (by omega)), ht.at h.c3 (hs _ (by omega)), ht.at h.c4 (hs _ (by omega))⟩
theorem Caps.after {w w' : World} {x b : Nat} {t : Int} {is k p : Bool} (h : Caps w x b t is k p) (hb : Below w.heap.size w w') : Caps w' x b t is k p :=
  h.touch (Touch.of_below (S := fun _ => False) hb) (fun _ _ hf => hf)

/-- The world behind the five boxes. -/
abbrev capsW (w : World) (b : Nat) (t : Int) (k p is : Bool) : World :=
  ((((w.alloc (.cells #[.pointer (some ⟨b, 0, none⟩)] 23 (0, 0))).alloc (.cells #[.int .i64 t] 3 (0, 0))).alloc (.cells #[.bool k] 4 (0, 0))).alloc (.cells #[.bool p] 4 (0, 0))).alloc (.cells #[.bool is] 4 (0, 0))
theorem capsW_caps (w : World) (b : Nat) (t : Int) (k p is : Bool) : Caps (capsW w b t k p is) w.heap.size b t is k p :=
  ⟨heap_alloc (heap_alloc (heap_alloc (heap_alloc (heap_new _ _) _) _) _) _, heap_alloc (heap_alloc (heap_alloc (heap_new' (by simp) _) _) _) _, heap_alloc (heap_alloc (heap_new' (by simp) _) _) _, heap_alloc (heap_new' (by simp) _) _, heap_new' (by simp) _⟩

set_option maxHeartbeats 4000000 in
theorem q_left (b : Nat) (c : Clk) (was t : Int) (w : World) (h : ClkAt w b c) (ok : c.Ok) :
    Calls Try.prog 31 #[.pointer (some ⟨b, 0, none⟩), .int .i64 was, .int .i64 t] w fun e w' => ∃ v,
      e = .returned v ∧ w'.ownsRow w.heap.size 3 1 v (c.left was t c.n.toNat).length (ivals (c.left was t c.n.toNat)) ∧ Below w.heap.size w w' := by
  obtain ⟨i0, hi, hz0, hz1, hz2⟩ := info_parts Try.infoInt
  have hb := lt_of_block h
  have n4 := ok.n4; have n0 := ok.n0
  have hW : ClkAt (capsW w b t (mustK was) (mustP was) (mustI was)) b c := heap_alloc (heap_alloc (heap_alloc (heap_alloc (heap_alloc h _) _) _) _) _
  have hC := capsW_caps w b t (mustK was) (mustP was) (mustI was)
  have hB : Below w.heap.size w (capsW w b t (mustK was) (mustP was) (mustI was)) := by (refine Touch.below0 ?_; (repeat' (first | (with_reducible exact Touch.refl _ _) | (with_reducible assumption) | (with_reducible refine Touch.drew ?_) | (with_reducible refine Touch.drewN ?_ _) | (with_reducible refine Touch.alloc ?_ _) | (with_reducible refine Touch.setCell ?_ _ _ _ ?_) | (with_reducible refine Touch.step (by assumption) ?_) | (with_reducible refine Touch.stepT (by assumption) ?_ ?_) | (intro _; first | rfl | trivial | omega | (simp; done) | (simp; omega)) | (intro _ _; first | omega | (simp; done) | (simp; omega)))))
  have hS : w.heap.size + 5 ≤ (capsW w b t (mustK was) (mustP was) (mustI was)).heap.size := by simp
  go_enter Try.func31, Try.ntmps31
  go_upto_block 0 with (first | (go_at_call 44; (with_reducible refine (q_must _ _).mono ?_); rintro e w' ⟨rfl, rfl⟩) | (go_at_call 20; (with_reducible refine (clk_cores _ c _ hW).mono ?_); rintro e w' ⟨rfl, rfl⟩))
  go_cut [11] (fun o wr => wr.ownsRow w.heap.size 3 1 o (c.left was t c.n.toNat).length (ivals (c.left was t c.n.toNat)) ∧ Below w.heap.size w wr)
  case first =>
    go_wp2
    go_loopw [11, 22] (fun o i wr => ∃ k : Nat, k ≤ c.n.toNat ∧ i = .int .i64 k ∧ wr.ownsRow (w.heap.size + 5) 3 1 o (c.left was t k).length (ivals (c.left was t k)) ∧
      ClkAt wr b c ∧ Caps wr w.heap.size b t (mustI was) (mustK was) (mustP was) ∧ Below w.heap.size w wr ∧ w.heap.size + 5 ≤ wr.heap.size) (fun _ i _ => c.n.toNat - (intOf i).toNat)
    case atStart => exact ⟨0, by omega, rfl, World.ownsRow_nil _ _ _ _, hW, hC, hB, hS⟩
    case round =>
      clear hW hC hB hS
      obtain ⟨k, hk, rfl, ho, hc, hcap, hbr, hsz⟩ := hrel
      by_cases hlt : k < c.n.toNat
      · have hlt' : (k : Int) < c.n := by omega
        have hle := Clk.left_le c was t k
        have hln : (c.left was t k).length < 1000000 := by omega
        have p0 := cell_of hcap.c0 0; have p1 := cell_of hcap.c1 0; have p2 := cell_of hcap.c2 0; have p3 := cell_of hcap.c3 0; have p4 := cell_of hcap.c4 0
        have hbase : w.heap.size + 5 ≤ wr.heap.size := hsz
        by_cases hm : c.miss was t k = true
        · have hm' := Lib.hid ((c.miss_eq was t k).symm.trans hm)
          have hsu := Lib.hid (c.left_succ was t k)
          have HM := Lib.hid hm; clear hm
          go_wp2_with (first
            | ((go_at_call 45; (with_reducible refine (q_left1 b _ _ _ _ _ c k t (mustI was) (mustK was) (mustP was) _ hc ok p4 p2 p0 p1 p3).mono ?_); rintro e w' ⟨rfl, hx⟩)
               rw [hm'.out]
               have ho2 := ownsRow_keep ho (Touch.of_below (S := fun _ => False) hx) (fun _ _ hf => hf)
               have hc2 := hc.afterB hx
               have hcap2 := hcap.after hx
               have hb2 := hbr.trans (hx.mono hbr.size)
               have hs2 := Nat.le_trans hsz hx.size)
            | (at_builtin; refine wpList_append_one w' rfl _ _ 42 rfl 3 i0 (.int .i64 0) (.int .i64 k) 8 Try.underlying42 hi hz0 hz1 hz2 rfl (by decide) (w.heap.size + 5) _ _ _ rfl ho2 _ rfl rfl rfl hln hs2 ?_; intro g cp w1 hn ht hl))
          have htt : Touch (fun j => w.heap.size + 5 ≤ j) w' w1 := Touch.stepT ht ((Touch.refl _ _).alloc _) (fun i _ hi => (ho2.lt i hi.symm).1)
          have hc3 := hc2.touch htt (by omega)
          have hcap3 := hcap2.touch htt (fun j hj h5 => by omega)
          have hb3 := below_touch hb2 htt hb2.size (fun i hi h5 => by omega)
          have hs3 := Nat.le_trans hs2 htt.size
          go_roundw
          case rel =>
            refine ⟨k + 1, by omega, by go_num, ?_, hc3, hcap3, hb3, hs3⟩
            rw [hsu.out, if_pos HM.out]
            simpa [ivals] using hn
          case measure => simp [intOf]; omega
        · have hm2 : c.miss was t k = false := by simpa using hm
          have hm' := Lib.hid ((c.miss_eq was t k).symm.trans hm2)
          have hsu := Lib.hid (c.left_succ was t k)
          have HM := Lib.hid hm2; clear hm hm2
          go_wp2_with (
            ((go_at_call 45; (with_reducible refine (q_left1 b _ _ _ _ _ c k t (mustI was) (mustK was) (mustP was) _ hc ok p4 p2 p0 p1 p3).mono ?_); rintro e w' ⟨rfl, hx⟩)
             rw [hm'.out]
             have ho2 := ownsRow_keep ho (Touch.of_below (S := fun _ => False) hx) (fun _ _ hf => hf)
             have hc2 := hc.afterB hx
             have hcap2 := hcap.after hx
             have hb2 := hbr.trans (hx.mono hbr.size)
             have hs2 := Nat.le_trans hsz hx.size))
          go_roundw
          case rel =>
            refine ⟨k + 1, by omega, by go_num, ?_, hc2, hcap2, hb2, hs2⟩
            rw [hsu.out, HM.out]
            simpa using ho2
          case measure => simp [intOf]; omega
      · have hge : ¬ (k : Int) < c.n := by omega
        obtain rfl : k = c.n.toNat := by omega
        go_wp2
        go_meet
        exact ⟨ownsRow_base ho (by omega), hbr⟩
  case rest =>
    obtain ⟨ho, hbr⟩ := hcut
    go_wp2
    go_ret
    exact ⟨_, rfl, ho, hbr⟩
end Go.Proofs.Ytalcifmojngddaa
