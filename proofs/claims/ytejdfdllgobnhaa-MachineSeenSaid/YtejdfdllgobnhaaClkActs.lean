/- The clock: any acts; plain lemmas. -/
import Derived.Test.YtejdfdllgobnhaaClkLaw
set_option linter.unusedVariables false
set_option linter.unusedSimpArgs false
namespace Go.Proofs.Ytejdfdllgobnhaa
open Go.RowKit
namespace Acts

def act (c : Clk) (k i : Int) : Clk := if k = 0 then c.step i else if k = 1 then c.enter i else c.flush i
theorem act_ok {c : Clk} (ok : c.Ok) (k i : Int) : (act c k i).Ok := by
  unfold act; split
  · exact Clk.step_ok ok i
  · split
    · exact Clk.enter_ok ok i
    · exact Clk.flush_ok ok i
theorem act_n (c : Clk) (k i : Int) : (act c k i).n = c.n := by
  unfold act; split
  · exact Clk.step_n c i
  · split
    · exact Clk.enter_n c i
    · exact Clk.flush_n c i
theorem act_now (c : Clk) (k i : Int) {m : Int} (h : c.now ≤ m) : (act c k i).now ≤ m + 1 := by
  unfold act; split
  · unfold Clk.step; split <;> first | omega | (dsimp only; omega)
  · split
    · unfold Clk.enter; split <;> first | omega | (dsimp only; omega)
    · unfold Clk.flush; split <;> first | omega | (dsimp only; omega)
theorem can_in {c : Clk} {i : Int} (hn : c.n ≠ 0) (h0 : 0 ≤ i) (hi : i < c.n) : c.can i = 0 := by
  unfold Clk.can; rw [if_neg hn, if_neg (by omega), if_neg (by omega)]

theorem leastN_mono {f g : Nat → Int} (n : Nat) (h : ∀ j, j ≤ n → f j ≤ g j) : leastN f n ≤ leastN g n := by
  induction n with
  | zero => exact h 0 (Nat.le_refl _)
  | succ n ih =>
    have h1 := ih (fun j hj => h j (by omega))
    have h2 := h (n + 1) (Nat.le_refl _)
    simp only [leastN]; omega
theorem leastN_le (f : Nat → Int) {n j : Nat} (h : j ≤ n) : leastN f n ≤ f j := by
  induction n with
  | zero => obtain rfl : j = 0 := by omega
            exact Int.le_refl _
  | succ n ih =>
    simp only [leastN]
    by_cases hj : j ≤ n
    · have := ih hj; omega
    · obtain rfl : j = n + 1 := by omega
      omega
theorem leastN_gt (f : Nat → Int) (n : Nat) (t : Int) : t < leastN f n ↔ ∀ j, j ≤ n → t < f j := by
  induction n with
  | zero => exact ⟨fun h j hj => by obtain rfl : j = 0 := by omega
                                    exact h, fun h => h 0 (Nat.le_refl _)⟩
  | succ n ih =>
    simp only [leastN]
    constructor
    · intro h j hj
      by_cases hjn : j ≤ n
      · exact (ih.1 (by omega)) j hjn
      · obtain rfl : j = n + 1 := by omega
        omega
    · intro h
      have h1 := ih.2 (fun j hj => h j (by omega))
      have h2 := h (n + 1) (Nat.le_refl _)
      omega

theorem act_en {c : Clk} (ok : c.Ok) (k i : Int) (j : Nat) : c.en j ≤ (act c k i).en j := by
  unfold act; split
  · unfold Clk.step; split <;> exact Int.le_refl _
  · split
    · unfold Clk.enter; split
      · unfold upd; dsimp only; split
        · exact ok.en1 _
        · exact Int.le_refl _
      · exact Int.le_refl _
    · unfold Clk.flush; split <;> exact Int.le_refl _
theorem act_fl {c : Clk} (ok : c.Ok) (k i : Int) (j : Nat) : c.fl j ≤ (act c k i).fl j := by
  unfold act; split
  · unfold Clk.step; split <;> exact Int.le_refl _
  · split
    · unfold Clk.enter; split <;> exact Int.le_refl _
    · unfold Clk.flush; split
      · unfold upd; dsimp only; split
        · exact ok.fl1 _
        · exact Int.le_refl _
      · exact Int.le_refl _
theorem floorE_mono {c : Clk} (ok : c.Ok) (k i : Int) : c.floorE ≤ (act c k i).floorE := by
  unfold Clk.floorE; rw [act_n]; split
  · exact Int.le_refl _
  · exact leastN_mono _ (fun j _ => act_en ok k i j)
theorem floorF_mono {c : Clk} (ok : c.Ok) (k i : Int) : c.floorF ≤ (act c k i).floorF := by
  unfold Clk.floorF; rw [act_n]; split
  · exact Int.le_refl _
  · exact leastN_mono _ (fun j _ => act_fl ok k i j)
theorem floorE_le {c : Clk} (hn : c.n ≠ 0) {i : Int} (h0 : 0 ≤ i) (hi : i < c.n) : c.floorE ≤ c.entered i := by
  unfold Clk.floorE Clk.entered; rw [if_neg hn, if_pos (can_in hn h0 hi)]; exact leastN_le _ (by omega)
theorem floorF_le {c : Clk} (hn : c.n ≠ 0) {i : Int} (h0 : 0 ≤ i) (hi : i < c.n) : c.floorF ≤ c.flushed i := by
  unfold Clk.floorF Clk.flushed; rw [if_neg hn, if_pos (can_in hn h0 hi)]; exact leastN_le _ (by omega)
theorem entered_le {c : Clk} (ok : c.Ok) (i : Int) : c.entered i ≤ c.now := by
  unfold Clk.entered; split
  · exact ok.en1 _
  · have := ok.t0; omega
theorem flushed_le {c : Clk} (ok : c.Ok) (i : Int) : c.flushed i ≤ c.now := by
  unfold Clk.flushed; split
  · exact ok.fl1 _
  · have := ok.t0; omega
theorem nowOf {c : Clk} (hn : c.n ≠ 0) : c.nowOf = c.now := by simp [Clk.nowOf, hn]
end Acts

theorem ClkAt.touch {w w' : World} {b : Nat} {c : Clk} {S : Nat → Prop} (h : ClkAt w b c) (ht : Touch S w w') (hs : ¬ S b) : ClkAt w' b c := ht.at h hs
theorem ClkAt.afterB {w w' : World} {b : Nat} {c : Clk} (h : ClkAt w b c) (hb : Below w.heap.size w w') : ClkAt w' b c := (hb.block b (lt_of_block h)).trans h
end Go.Proofs.Ytejdfdllgobnhaa
