/- Frames of words (package mem). -/
import Derived.Test.YtmahledpcpdldaaGreatProg
import Derived.Test.YtmahledpcpdldaaGreatBase
set_option linter.unusedVariables false
set_option linter.unusedSimpArgs false
namespace Go.Proofs.YtmahledpcpdldaaGreat
open Go.RowKit

/-- n frames of 36 words. -/
structure MemS where
  n : Nat
  w : Nat → Nat → Int

def MemS.can (m : MemS) (f a : Int) : Int := if f < 0 then 1 else if (m.n : Int) ≤ f then 1 else if a < 0 then 1 else if 36 ≤ a then 1 else 0
def MemS.load (m : MemS) (f a : Int) : Int := if m.can f a = 0 then m.w f.toNat a.toNat else 0
def MemS.put (m : MemS) (f o : Nat) (x : Int) : MemS := { m with w := upd m.w f (upd (m.w f) o x) }
def MemS.store (m : MemS) (f a x : Int) : MemS := if m.can f a = 0 then m.put f.toNat a.toNat x else m
def MemS.clear (m : MemS) (f : Int) : MemS := if m.can f 0 = 0 then { m with w := upd m.w f.toNat (fun _ => 0) } else m

structure MemS.Ok (m : MemS) : Prop where
  n1 : 1 ≤ m.n
  n64 : m.n ≤ 64
  lo : ∀ f o, 0 ≤ m.w f o
  hi : ∀ f o, m.w f o < 18446744073709551616

/-- The memory at block a; its words lie in block g. -/
structure MemIs (w : World) (a g : Nat) (m : MemS) : Prop where
  box : w.heap[a]? = some (.cells #[.slice (some ⟨g, 0, none⟩) m.n m.n] 249 (0, 0))
  row : ∃ arr : Array Value, w.heap[g]? = some (.cells arr 279 (0, 0)) ∧ ∀ f o, f < m.n → o < 36 → arr[f * 36 + o]? = some (.int .u64 (m.w f o))
  ne : a ≠ g

theorem MemIs.touch {w w' : World} {a g : Nat} {m : MemS} {S : Nat → Prop} (h : MemIs w a g m) (ht : Touch S w w') (ha : ¬ S a) (hg : ¬ S g) : MemIs w' a g m := by
  obtain ⟨arr, hr, hc⟩ := h.row
  exact ⟨ht.at h.box ha, ⟨arr, ht.at hr hg, hc⟩, h.ne⟩
theorem MemIs.after {w w' : World} {a g : Nat} {m : MemS} (h : MemIs w a g m) (hb : Below w.heap.size w w') : MemIs w' a g m :=
  h.touch (Touch.of_below (S := fun _ => False) hb) (fun h => h) (fun h => h)
theorem MemIs.lta {w : World} {a g : Nat} {m : MemS} (h : MemIs w a g m) : a < w.heap.size := lt_of_block h.box
theorem MemIs.ltg {w : World} {a g : Nat} {m : MemS} (h : MemIs w a g m) : g < w.heap.size := by obtain ⟨_, hr, _⟩ := h.row; exact lt_of_block hr
theorem MemIs.cell0 {w : World} {a g : Nat} {m : MemS} (h : MemIs w a g m) : w.cell? ⟨a, 0, none⟩ = some (.slice (some ⟨g, 0, none⟩) m.n m.n) := by rw [cell_of h.box]; rfl
theorem MemIs.at {w : World} {a g : Nat} {m : MemS} (h : MemIs w a g m) {f o : Nat} (hf : f < m.n) (ho : o < 36) : w.cell? ⟨g, f * 36 + o, none⟩ = some (.int .u64 (m.w f o)) := by
  obtain ⟨arr, hr, hc⟩ := h.row
  rw [cell_of hr]; exact hc f o hf ho
theorem MemIs.free {w : World} {a g : Nat} {m : MemS} (h : MemIs w a g m) (o : Nat) : w.frozen? ⟨g, o, none⟩ = false := by
  obtain ⟨arr, hr, hc⟩ := h.row; exact frozen_of hr o
theorem MemIs.set {w : World} {a g : Nat} {m : MemS} (h : MemIs w a g m) {f o : Nat} (hf : f < m.n) (ho : o < 36) (x : Int) :
    MemIs (w.setCell ⟨g, f * 36 + o, none⟩ (.int .u64 x)) a g (m.put f o x) := by
  obtain ⟨arr, hr, hc⟩ := h.row
  refine ⟨heap_set_ne h.box _ h.ne, ⟨_, heap_set hr _, ?_⟩, h.ne⟩
  intro f' o' hf' ho'
  have hlt : f' * 36 + o' < arr.size := by
    have := hc f' o' hf' ho'
    rcases Nat.lt_or_ge (f' * 36 + o') arr.size with h | h
    · exact h
    · rw [Array.getElem?_eq_none h] at this; cases this
  rw [Array.getElem?_setIfInBounds]
  by_cases e : f * 36 + o = f' * 36 + o'
  · have e1 : f' = f := by omega
    have e2 : o' = o := by omega
    subst e1; subst e2
    rw [if_pos rfl, if_pos hlt]; simp [MemS.put, upd]
  · rw [if_neg e, hc f' o' hf' ho']
    congr 2
    simp only [MemS.put]
    by_cases e1 : f' = f
    · subst e1
      have e2 : o' ≠ o := by omega
      rw [upd_same, upd_ne _ _ _ _ e2]
    · rw [upd_ne _ _ _ _ e1]

theorem mem_none_nil (w : World) : Calls Tryz.prog 245 #[.pointer none] w fun e w' => e = .returned (.bool true) ∧ w = w' := by
  go_enter Tryz.func245, Tryz.ntmps245
  go_wp2
  go_ret
  exact ⟨rfl, rfl⟩
theorem mem_none (a g : Nat) (m : MemS) (w : World) (h : MemIs w a g m) (ok : m.Ok) : Calls Tryz.prog 245 #[.pointer (some ⟨a, 0, none⟩)] w fun e w' => e = .returned (.bool false) ∧ w = w' := by
  have g0 := h.cell0
  have n1 := ok.n1
  have hz : ((m.n : Int) == 0) = false := by simp; omega
  go_enter Tryz.func245, Tryz.ntmps245
  go_wp2
  go_ret
  exact ⟨rfl, rfl⟩
theorem mem_is (a g : Nat) (m : MemS) (f : Int) (w : World) (h : MemIs w a g m) : Calls Tryz.prog 246 #[.pointer (some ⟨a, 0, none⟩), .int .i64 f] w fun e w' =>
    e = .returned (.bool (decide (0 ≤ f) && decide (f < m.n))) ∧ w = w' := by
  have g0 := h.cell0
  by_cases h0 : 0 ≤ f
  · go_enter Tryz.func246, Tryz.ntmps246
    go_wp2
    go_ret
    exact ⟨ret_bool (by simp [h0]), rfl⟩
  · have h1 : decide (0 ≤ f) = false := by simpa using h0
    go_enter Tryz.func246, Tryz.ntmps246
    go_wp2
    go_ret
    exact ⟨ret_bool (by simp [h1]), rfl⟩
theorem mem_can_nil (f a : Int) (w : World) : Calls Tryz.prog 186 #[.pointer none, .int .i64 f, .int .i64 a] w fun e w' => e = .returned (.int .i64 13) ∧ w = w' := by
  go_enter Tryz.func186, Tryz.ntmps186
  go_wp2_with (go_at_call 245; (with_reducible refine (mem_none_nil _).mono ?_); rintro e w' ⟨rfl, rfl⟩)
  go_ret
  exact ⟨rfl, rfl⟩
theorem mem_can (a g : Nat) (m : MemS) (f i : Int) (w : World) (h : MemIs w a g m) (ok : m.Ok) : Calls Tryz.prog 186 #[.pointer (some ⟨a, 0, none⟩), .int .i64 f, .int .i64 i] w fun e w' =>
    e = .returned (.int .i64 (m.can f i)) ∧ w = w' := by
  unfold MemS.can
  generalize hI : (decide (0 ≤ f) && decide (f < m.n)) = t
  have HI := Lib.hid hI
  by_cases h0 : f < 0
  · rw [if_pos h0]
    obtain rfl : t = false := by rw [← hI]; simp; omega
    clear hI
    go_enter Tryz.func186, Tryz.ntmps186
    go_wp2_with (first | (go_at_call 245; (with_reducible refine (mem_none _ _ _ _ h ok).mono ?_); rintro e w' ⟨rfl, rfl⟩) | ((go_at_call 246; (with_reducible refine (mem_is _ _ _ _ _ h).mono ?_); rintro e w' ⟨rfl, rfl⟩); rw [HI.out]))
    go_ret
    exact ⟨rfl, rfl⟩
  rw [if_neg h0]
  by_cases h1 : (m.n : Int) ≤ f
  · rw [if_pos h1]
    obtain rfl : t = false := by rw [← hI]; simp; omega
    clear hI
    go_enter Tryz.func186, Tryz.ntmps186
    go_wp2_with (first | (go_at_call 245; (with_reducible refine (mem_none _ _ _ _ h ok).mono ?_); rintro e w' ⟨rfl, rfl⟩) | ((go_at_call 246; (with_reducible refine (mem_is _ _ _ _ _ h).mono ?_); rintro e w' ⟨rfl, rfl⟩); rw [HI.out]))
    go_ret
    exact ⟨rfl, rfl⟩
  rw [if_neg h1]
  obtain rfl : t = true := by rw [← hI]; simp; omega
  clear hI
  by_cases h2 : i < 0
  · rw [if_pos h2]
    go_enter Tryz.func186, Tryz.ntmps186
    go_wp2_with (first | (go_at_call 245; (with_reducible refine (mem_none _ _ _ _ h ok).mono ?_); rintro e w' ⟨rfl, rfl⟩) | ((go_at_call 246; (with_reducible refine (mem_is _ _ _ _ _ h).mono ?_); rintro e w' ⟨rfl, rfl⟩); rw [HI.out]))
    go_ret
    exact ⟨rfl, rfl⟩
  rw [if_neg h2]
  by_cases h3 : 36 ≤ i
  · rw [if_pos h3]
    go_enter Tryz.func186, Tryz.ntmps186
    go_wp2_with (first | (go_at_call 245; (with_reducible refine (mem_none _ _ _ _ h ok).mono ?_); rintro e w' ⟨rfl, rfl⟩) | ((go_at_call 246; (with_reducible refine (mem_is _ _ _ _ _ h).mono ?_); rintro e w' ⟨rfl, rfl⟩); rw [HI.out]))
    go_ret
    exact ⟨rfl, rfl⟩
  rw [if_neg h3]
  go_enter Tryz.func186, Tryz.ntmps186
  go_wp2_with (first | (go_at_call 245; (with_reducible refine (mem_none _ _ _ _ h ok).mono ?_); rintro e w' ⟨rfl, rfl⟩) | ((go_at_call 246; (with_reducible refine (mem_is _ _ _ _ _ h).mono ?_); rintro e w' ⟨rfl, rfl⟩); rw [HI.out]))
  go_ret
  exact ⟨rfl, rfl⟩
end Go.Proofs.YtmahledpcpdldaaGreat
