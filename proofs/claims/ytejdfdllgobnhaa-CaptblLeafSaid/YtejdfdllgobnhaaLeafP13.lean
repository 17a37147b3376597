/- CaptblLeaf: the plain law. -/
import Derived.Test.YtejdfdllgobnhaaBesideX
set_option linter.unusedVariables false
set_option linter.unusedSimpArgs false
namespace Go.Proofs.Ytejdfdllgobnhaa
open Go.RowKit
theorem leaf13_law (x : CapS) {hi lo now fl : Int} {m3 m4 m5 m6 m7 : MemS} (d3 : m3 = (M2 3).cons 0 hi 1 0) (d4 : m4 = m3.tput 0 (16 * hi + lo) x 0) (d5 : m5 = m4.decons 0 hi now fl) (d6 : m6 = m5.freeze 1 now) (d7 : m7 = m6.decons 0 hi now fl)
    (i0 : 0 ≤ hi) (i1 : hi < 16) (j0 : 0 ≤ lo) (j1 : lo < 16) (t0 : 1 ≤ now) (t1 : now ≤ 1073741824)
    (hx : tputE m3 0 (16 * hi + lo) x 0 = 0) : deconsE m4 0 hi now fl = 6 ∧ deconsR m4 0 hi now fl = 0 ∧ freezeE m5 1 now = 0 ∧
      ((now < fl ∧ deconsE m6 0 hi now fl = 0 ∧ deconsR m6 0 hi now fl = 1 ∧ lookE m7 0 (16 * hi + lo) = 3) ∨
       (fl ≤ now ∧ deconsE m6 0 hi now fl = 6 ∧ deconsR m6 0 hi now fl = 0 ∧ lookE m7 0 (16 * hi + lo) = 0)) := by
  have ht : timeB now = true := by unfold timeB; simp; omega
  have T3 := (M2_tab (n := 3) (by omega) (by omega)).cons (hi := hi) i0 i1 rfl 0
  rw [← d3] at T3
  have T3 := T3.2
  have a0 : 0 ≤ 16 * hi + lo := by omega
  have a1 : 16 * hi + lo < 256 := by omega
  have ah : (16 * hi + lo) / 16 = hi := by omega
  have al : (16 * hi + lo) % 16 = lo := by omega
  have ra : updI zeroR hi (consC 1) ((16 * hi + lo) / 16) = consC 1 := by rw [ah, updI_eq]
  obtain ⟨xr, xk, T4⟩ := (T3.put a0 a1 ra x 0).2.1 hx
  rw [← d4, al] at T4
  have nx : ¬ x.k ≤ 1 := by omega
  obtain ⟨p0, p1, _, p3⟩ := T4.decons i0 i1 (updI_eq _ _ _) ht fl
  rw [if_neg (by simp)] at p0 p1
  have e5 := p3 (by simp)
  rw [← d5] at e5
  subst e5
  obtain ⟨f0, T6⟩ := T4.freeze ht
  rw [← d6] at T6
  refine ⟨p0, p1, f0, ?_⟩
  obtain ⟨q0, q1, q2, q3⟩ := T6.decons i0 i1 (updI_eq _ _ _) ht fl
  rw [← d7] at q2 q3
  by_cases hf : now < fl
  · have c : true = true ∧ now < fl := ⟨rfl, hf⟩
    rw [if_pos c] at q0 q1
    have T7 := q2 c
    exact .inl ⟨hf, q0, q1, T7.look3 a0 a1 (by rw [ah, updI_eq]; show (1 : Int) ≠ 3; decide)⟩
  · have c : ¬ (true = true ∧ now < fl) := fun h => hf h.2
    rw [if_neg c] at q0 q1
    have e7 := q3 c
    subst e7
    have L7 := T6.look a0 a1 ra
    rw [al, updI_eq, if_neg nx] at L7
    exact .inr ⟨by omega, q0, q1, L7.1⟩
end Go.Proofs.Ytejdfdllgobnhaa
