/- CaptblQuiet: the plain law. -/
import Derived.Test.YtejdfdllgobnhaaBesideX
set_option linter.unusedVariables false
set_option linter.unusedSimpArgs false
namespace Go.Proofs.Ytejdfdllgobnhaa
open Go.RowKit
theorem quiet13_law (x y : CapS) {a now fl : Int} {m3 m4 m5 m6 m7 m8 : MemS} (d3 : m3 = (M2 3).cons 0 0 1 0) (d4 : m4 = m3.tput 0 a x 0) (d5 : m5 = m4.drop 0 a now) (d6 : m6 = m5.tput 0 a x fl) (d7 : m7 = m6.freeze 1 now) (d8 : m8 = m7.drop 0 a now)
    (hx : tputE m3 0 a x 0 = 0) : (0 ≤ a ∧ a < 16) ∧ lookE m4 0 a = 0 ∧ lookC m4 0 a = x ∧ tputE m4 0 a y 99 ≠ 0 ∧ m4.tput 0 a y 99 = m4 ∧
      ((dropE m4 0 a now ≠ 0 ∧ (now < 1 ∨ 1073741824 < now)) ∨
       (dropE m4 0 a now = 0 ∧ dropC m4 0 a now = x ∧ lookE m5 0 a = 3 ∧ ((tputE m5 0 a x fl = 0 ∧ now < fl) ∨ (tputE m5 0 a x fl = 6 ∧ ¬ now < fl)) ∧ freezeE m6 1 now = 0 ∧ dropE m7 0 a now ≠ 0 ∧ tputE m8 0 ((a + 1) % 16) x 1073741824 = 6)) := by
  have T3 := (M2_tab (n := 3) (by omega) (by omega)).cons (hi := 0) (by omega) (by omega) rfl 0
  rw [← d3] at T3
  have T3 := T3.2
  obtain ⟨⟨a0, a1⟩, hk⟩ := T3.put_in hx
  have ha : a / 16 = 0 := by
    rcases Decidable.em (a / 16 = 0) with h | h
    · exact h
    · rw [updI_ne _ _ h] at hk; cases hk
  have a2 : a < 16 := by omega
  have am : a % 16 = a := by omega
  have ra : updI zeroR 0 (consC 1) (a / 16) = consC 1 := by rw [ha]; rfl
  obtain ⟨xr, xk, T4⟩ := (T3.put a0 a1 ra x 0).2.1 hx
  rw [← d4, am] at T4
  have nx : ¬ x.k ≤ 1 := by omega
  have L4 := T4.look a0 a1 ra
  rw [am, updI_eq, if_neg nx] at L4
  obtain ⟨y0, y1, y2⟩ := T4.put a0 a1 ra y 99
  rw [am, updI_eq, if_pos xk] at y0
  have yn : tputE m4 0 a y 99 ≠ 0 := by
    rw [y0]
    split
    · simp
    · simp
  refine ⟨⟨a0, a2⟩, L4.1, (L4.2 nx).1, yn, y2 yn, ?_⟩
  obtain ⟨q0, q1, q2⟩ := T4.drop a0 a1 ra now
  rw [am, updI_eq] at q0 q1
  rw [if_neg nx] at q0
  rw [← d5] at q1 q2
  cases ht : timeB now
  · left
    rw [ht] at q0
    refine ⟨by rw [q0]; decide, ?_⟩
    unfold timeB at ht
    simp at ht
    omega
  · right
    rw [ht] at q0
    have hd : dropE m4 0 a now = 0 := by rw [q0]; rfl
    obtain ⟨dc, T5⟩ := q1 hd
    have L5 := T5.look a0 a1 ra
    rw [am, updI_eq, if_pos (show (goneC now).k ≤ 1 from Int.le_refl 1)] at L5
    refine ⟨hd, dc, L5.1, ?_⟩
    obtain ⟨p0, p1, p2⟩ := T5.put a0 a1 ra x fl
    rw [am, updI_eq, if_pos ⟨xr, xk⟩] at p0
    rw [← d6] at p1 p2
    have hq : quietC (goneC now) fl = decide (now < fl) := by unfold quietC goneC; simp
    rw [hq, if_neg (by decide), if_neg (show ¬ 1 < (goneC now).k from Int.lt_irrefl 1)] at p0
    have key : ∀ {L : Int → CapS}, Tab m6 false 0 (updI zeroR 0 (consC 1)) L → freezeE m6 1 now = 0 ∧ dropE m7 0 a now ≠ 0 ∧ tputE m8 0 ((a + 1) % 16) x 1073741824 = 6 := by
      intro L T6
      obtain ⟨f0, T7⟩ := T6.freeze ht
      rw [← d7] at T7
      obtain ⟨r0, r1, r2⟩ := T7.drop a0 a1 ra now
      have rn : dropE m7 0 a now ≠ 0 := by
        rw [r0, ht]
        split
        · split <;> decide
        · decide
      have e8 := r2 rn
      rw [← d8] at e8
      refine ⟨f0, rn, ?_⟩
      rw [e8]
      have rb : updI zeroR 0 (consC 1) ((a + 1) % 16 / 16) = consC 1 := by rw [show (a + 1) % 16 / 16 = 0 by omega]; rfl
      have := (T7.put (a := (a + 1) % 16) (by omega) (by omega) rb x 1073741824).1
      rw [this, if_pos ⟨xr, xk⟩]; rfl
    by_cases hf : now < fl
    · rw [if_pos (decide_eq_true hf)] at p0
      exact ⟨.inl ⟨p0, hf⟩, key (p1 p0).2.2⟩
    · rw [if_neg (by simp; omega)] at p0
      have e6 := p2 (by rw [p0]; decide)
      exact ⟨.inr ⟨p0, hf⟩, key (by rw [e6]; exact T5)⟩
end Go.Proofs.Ytejdfdllgobnhaa
