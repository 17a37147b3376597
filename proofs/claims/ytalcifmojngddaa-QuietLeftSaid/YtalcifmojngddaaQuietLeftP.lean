/- QuietLeft: the plain law. -/
import Derived.Test.YtalcifmojngddaaRef08
set_option linter.unusedVariables false
set_option linter.unusedSimpArgs false
namespace Go.Proofs.Ytalcifmojngddaa
open Go.RowKit
namespace QL

theorem ent {c : Clk} (hn : c.n ≠ 0) {j : Nat} (hj : j < c.n.toNat) : c.entered j = c.en j := by
  rw [Clk.entered, if_pos (Acts.can_in hn (by omega) (by omega))]; rfl
theorem flu {c : Clk} (hn : c.n ≠ 0) {j : Nat} (hj : j < c.n.toNat) : c.flushed j = c.fl j := by
  rw [Clk.flushed, if_pos (Acts.can_in hn (by omega) (by omega))]; rfl
theorem mem_left {c : Clk} {was t x : Int} {n : Nat} : x ∈ c.left was t n ↔ ∃ j : Nat, j < n ∧ x = j ∧ c.miss was t (j : Nat) = true := by
  unfold Clk.left
  simp only [List.mem_map, List.mem_filter, List.mem_range]
  constructor
  · rintro ⟨j, ⟨h1, h2⟩, rfl⟩; exact ⟨j, h1, rfl, h2⟩
  · rintro ⟨j, h1, rfl, h2⟩; exact ⟨j, ⟨h1, h2⟩, rfl⟩
theorem left_nil {c : Clk} {was t : Int} {n : Nat} : (c.left was t n).length = 0 ↔ ∀ j : Nat, j < n → c.miss was t (j : Nat) = false := by
  rw [List.length_eq_zero_iff, List.eq_nil_iff_forall_not_mem]
  constructor
  · intro h j hj
    by_cases hm : c.miss was t (j : Nat) = true
    · exact absurd (mem_left.2 ⟨j, hj, rfl, hm⟩) (h _)
    · simpa using hm
  · intro h x hx
    obtain ⟨j, hj, _, hm⟩ := mem_left.1 hx
    rw [h j hj] at hm; cases hm

theorem kern_iff {c : Clk} (hn : 0 < c.n) (t : Int) : c.kern t = true ↔ ∀ j : Nat, j < c.n.toNat → t < c.en j := by
  constructor
  · intro h j hj
    by_cases hh : c.en j ≤ t
    · rw [Clk.kern_false hj hh] at h; cases h
    · omega
  · exact Clk.kern_true hn
theorem user_iff {c : Clk} (hn : 0 < c.n) (t : Int) : c.user t = true ↔ ∀ j : Nat, j < c.n.toNat → t < c.fl j := by
  constructor
  · intro h j hj
    by_cases hh : c.fl j ≤ t
    · rw [Clk.user_false hj hh] at h; cases h
    · omega
  · exact Clk.user_true hn

theorem quiet_iff {c : Clk} (hn : 0 < c.n) {was : Int} (w0 : 0 ≤ was) (w3 : was ≤ 3) (t : Int) : c.quiet was t = true ↔ ∀ j : Nat, j < c.n.toNat → c.miss was t (j : Nat) = false := by
  have e : ∀ j : Nat, j < c.n.toNat → c.miss was t (j : Nat) = (!mustI was || mustK was && decide (c.en j ≤ t) || mustP was && decide (c.fl j ≤ t)) := fun j hj => by
    rw [Clk.miss_eq, ent (by omega) hj, flu (by omega) hj]
  have hw : was = 0 ∨ was = 1 ∨ was = 2 ∨ was = 3 := by omega
  rcases hw with rfl | rfl | rfl | rfl
  · constructor
    · intro _ j hj; rw [e j hj]; simp [mustI, mustK, mustP]
    · intro _; simp [Clk.quiet]
  · have : c.quiet 1 t = c.user t := by simp [Clk.quiet]
    rw [this, user_iff hn]
    constructor
    · intro h j hj; rw [e j hj]; have := h j hj; simp [mustI, mustK, mustP]; omega
    · intro h j hj; have := h j hj; rw [e j hj] at this; simp [mustI, mustK, mustP] at this; omega
  · have : c.quiet 2 t = c.kern t := by simp [Clk.quiet]
    rw [this, kern_iff hn]
    constructor
    · intro h j hj; rw [e j hj]; have := h j hj; simp [mustI, mustK, mustP]; omega
    · intro h j hj; have := h j hj; rw [e j hj] at this; simp [mustI, mustK, mustP] at this; omega
  · have : c.quiet 3 t = (c.user t && c.kern t) := by simp [Clk.quiet]
    rw [this, Bool.and_eq_true, kern_iff hn, user_iff hn]
    constructor
    · rintro ⟨h1, h2⟩ j hj; rw [e j hj]; have := h1 j hj; have := h2 j hj; simp [mustI, mustK, mustP]; omega
    · intro h; constructor <;> (intro j hj; have := h j hj; rw [e j hj] at this; simp [mustI, mustK, mustP] at this; omega)

theorem quiet_left {c : Clk} (hn : 0 < c.n) {was : Int} (w0 : 0 ≤ was) (w3 : was ≤ 3) (t : Int) : c.quiet was t = decide ((c.left was t c.n.toNat).length = 0) := by
  rw [Bool.eq_iff_iff, quiet_iff hn w0 w3, decide_eq_true_iff, left_nil]

/-- c2 has seen no less than c, and the first k of l are behind t. -/
structure Seen (c c2 : Clk) (t : Int) (l : List Int) (k : Nat) : Prop where
  n : c2.n = c.n
  now : t < c2.now
  en : ∀ j : Nat, c.en j ≤ c2.en j
  fl : ∀ j : Nat, c.fl j ≤ c2.fl j
  new : ∀ i, i < k → i < l.length → t < c2.en (l.getD i 0).toNat ∧ t < c2.fl (l.getD i 0).toNat

theorem Seen.zero {c : Clk} (h : c.stepE 0 = 0) {t : Int} (ht : t ≤ c.now) (l : List Int) : Seen c (c.step 0) t l 0 := by
  rw [Clk.step, if_pos h]
  exact ⟨rfl, by show t < c.now + 1; omega, fun _ => Int.le_refl _, fun _ => Int.le_refl _, fun i hi => by omega⟩

theorem Seen.next {c c2 : Clk} {t : Int} {l : List Int} {k : Nat} (h : Seen c c2 t l k) (ok : c2.Ok) (hk : k < l.length) (h0 : 0 ≤ l.getD k 0) (hl : l.getD k 0 < c2.n) :
    Seen c ((c2.enter (l.getD k 0)).flush (l.getD k 0)) t l (k + 1) := by
  generalize hx : l.getD k 0 = x at *
  have hc : c2.can x = 0 := Acts.can_in (by omega) h0 hl
  have e1 : c2.enter x = { c2 with en := upd c2.en x.toNat c2.now } := by rw [Clk.enter, if_pos hc]
  have hc2 : ({ c2 with en := upd c2.en x.toNat c2.now } : Clk).can x = 0 := hc
  rw [e1, Clk.flush, if_pos hc2]
  refine ⟨h.n, h.now, ?_, ?_, ?_⟩
  · intro j; show c.en j ≤ upd c2.en x.toNat c2.now j
    unfold upd; split
    · exact Int.le_trans (h.en j) (ok.en1 j)
    · exact h.en j
  · intro j; show c.fl j ≤ upd c2.fl x.toNat c2.now j
    unfold upd; split
    · exact Int.le_trans (h.fl j) (ok.fl1 j)
    · exact h.fl j
  · intro i hi hil
    show t < upd c2.en x.toNat c2.now _ ∧ t < upd c2.fl x.toNat c2.now _
    have hnow := h.now
    by_cases e : (l.getD i 0).toNat = x.toNat
    · rw [e, upd_same, upd_same]; exact ⟨hnow, hnow⟩
    · rw [upd_ne _ _ _ _ e, upd_ne _ _ _ _ e]
      by_cases hik : i = k
      · subst hik; rw [hx] at e; exact absurd rfl e
      · exact h.new i (by omega) hil

theorem Seen.done {c c2 : Clk} {was t : Int} (hn : 0 < c.n) (w0 : 0 ≤ was) (w3 : was ≤ 3) (h : Seen c c2 t (c.left was t c.n.toNat) (c.left was t c.n.toNat).length) :
    ∀ j : Nat, j < c2.n.toNat → c2.miss was t (j : Nat) = false := by
  intro j hj
  have hj1 : j < c.n.toNat := by rw [← h.n]; exact hj
  have n2 : c2.n ≠ 0 := by rw [h.n]; omega
  have e2 : c2.miss was t (j : Nat) = (!mustI was || mustK was && decide (c2.en j ≤ t) || mustP was && decide (c2.fl j ≤ t)) := by
    rw [Clk.miss_eq, ent n2 hj, flu n2 hj]
  have e1 : c.miss was t (j : Nat) = (!mustI was || mustK was && decide (c.en j ≤ t) || mustP was && decide (c.fl j ≤ t)) := by
    rw [Clk.miss_eq, ent (by omega) hj1, flu (by omega) hj1]
  have hi : mustI was = true := by simp [mustI]; omega
  have m1 := h.en j
  have m2 := h.fl j
  by_cases hm : c.miss was t (j : Nat) = true
  · obtain ⟨i, hi1, hi2⟩ := List.mem_iff_getElem.1 (mem_left.2 ⟨j, hj1, rfl, hm⟩)
    have hg : (c.left was t c.n.toNat).getD i 0 = (j : Int) := by rw [List.getD_eq_getElem?_getD, List.getElem?_eq_getElem hi1]; simpa using hi2
    have := h.new i hi1 hi1
    rw [hg] at this
    simp only [Int.toNat_natCast] at this
    rw [e2, hi]; simp; omega
  · have hm' : c.miss was t (j : Nat) = false := by simpa using hm
    rw [e1, hi] at hm'
    rw [e2, hi]
    simp at hm' ⊢
    constructor
    · intro hk; have := hm'.1 hk; omega
    · intro hk; have := hm'.2 hk; omega
theorem getD_range {c : Clk} {was t : Int} {n k : Nat} (hk : k < (c.left was t n).length) : 0 ≤ (c.left was t n).getD k 0 ∧ (c.left was t n).getD k 0 < n := by
  have hmem : (c.left was t n).getD k 0 ∈ c.left was t n := by
    rw [List.getD_eq_getElem?_getD, List.getElem?_eq_getElem hk]; simp
  obtain ⟨j, hj, he, _⟩ := mem_left.1 hmem
  rw [he]; omega
end QL
end Go.Proofs.Ytalcifmojngddaa
