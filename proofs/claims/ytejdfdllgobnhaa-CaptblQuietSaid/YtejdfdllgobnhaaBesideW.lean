/- CaptblBeside: the walk of the law. -/
import Derived.Test.YtejdfdllgobnhaaSix
set_option linter.unusedVariables false
set_option linter.unusedSimpArgs false
namespace Go.Proofs.Ytejdfdllgobnhaa
open Go.RowKit
theorem new_ex {n : Nat} (h1 : 1 ≤ n) (h64 : n ≤ 64) (w : World) : Calls Try.prog 31 #[.int .i64 n] w fun e w' => ∃ a g, e = .returned (.tuple #[.pointer (some ⟨a, 0, none⟩), .int .i64 0]) ∧ MemIs w' a g ⟨n, fun _ _ => 0⟩ ∧ Below w.heap.size w w' ∧ w.heap.size ≤ g := by
  refine (mem_new n w h1 h64).mono ?_
  rintro e w' ⟨rfl, h, hb⟩
  exact ⟨_, _, rfl, h, hb, Nat.le_refl _⟩
theorem beside_law (x y : CapS) {i k : Int} (now : Int) (hi : 48 ≤ i ∧ i < 64) (hk : 48 ≤ k ∧ k < 64) (hne : i ≠ k) {m3 m4 m5 m6 : MemS} (d3 : m3 = (M2 2).cons 0 3 1 0) (d4 : m4 = m3.tput 0 i x 0) (d5 : m5 = m4.tput 0 k y 0) (d6 : m6 = m5.drop 0 k now)
    (hx : tputE m3 0 i x 0 = 0) : (lookE m5 0 i = 0 ∧ lookC m5 0 i = x ∧ lookE m6 0 i = 0 ∧ lookC m6 0 i = x) ∧ ((tputE m4 0 k y 0 ≠ 0 ∧ dropE m5 0 k now ≠ 0) ∨ (tputE m4 0 k y 0 = 0 ∧ (dropE m5 0 k now ≠ 0 ∨ (dropE m5 0 k now = 0 ∧ dropC m5 0 k now = y)))) := by
  have T3 := (M2_tab (n := 2) (by omega) (by omega)).cons (hi := 3) (by omega) (by omega) rfl 0
  rw [← d3] at T3
  have T3 := T3.2
  have ri : updI zeroR 3 (consC 1) (i / 16) = consC 1 := by rw [show i / 16 = 3 by omega]; rfl
  have rk : updI zeroR 3 (consC 1) (k / 16) = consC 1 := by rw [show k / 16 = 3 by omega]; rfl
  have hn : i % 16 ≠ k % 16 := by omega
  obtain ⟨xr, xk, T4⟩ := (T3.put (by omega) (by omega) ri x 0).2.1 hx
  rw [← d4] at T4
  obtain ⟨-, p1, p2⟩ := T4.put (by omega) (by omega) rk y 0
  rw [← d5] at p1 p2
  have nx : ¬ x.k ≤ 1 := by omega
  by_cases he : tputE m4 0 k y 0 = 0
  · obtain ⟨yr, yk, T5⟩ := p1 he
    have ny : ¬ y.k ≤ 1 := by omega
    have vi : updI (updI zeroR (i % 16) x) (k % 16) y (i % 16) = x := by rw [updI_ne _ _ hn, updI_eq]
    have L5 := T5.look (by omega) (by omega) ri
    rw [vi, if_neg nx] at L5
    obtain ⟨q0, q1, q2⟩ := T5.drop (by omega) (by omega) rk now
    rw [← d6] at q1 q2
    by_cases hg : dropE m5 0 k now = 0
    · obtain ⟨dc, T6⟩ := q1 hg
      rw [updI_eq] at dc
      have L6 := T6.look (by omega) (by omega) ri
      rw [updI_ne _ _ hn, vi, if_neg nx] at L6
      exact ⟨⟨L5.1, (L5.2 nx).1, L6.1, (L6.2 nx).1⟩, .inr ⟨he, .inr ⟨hg, dc⟩⟩⟩
    · have e := q2 hg
      refine ⟨⟨L5.1, (L5.2 nx).1, ?_, ?_⟩, .inr ⟨he, .inl hg⟩⟩
      · rw [e]; exact L5.1
      · rw [e]; exact (L5.2 nx).1
  · have e5 := p2 he
    have L4 := T4.look (by omega) (by omega) ri
    rw [updI_eq, if_neg nx] at L4
    obtain ⟨q0, q1, q2⟩ := T4.drop (by omega) (by omega) rk now
    rw [e5] at d6 ⊢
    rw [← d6] at q1 q2
    have hg : dropE m4 0 k now ≠ 0 := by
      rw [q0, updI_ne _ _ (fun h => hn h.symm)]
      unfold zeroR
      cases timeB now
      · decide
      · decide
    have e := q2 hg
    refine ⟨⟨L4.1, (L4.2 nx).1, ?_, ?_⟩, .inl ⟨he, hg⟩⟩
    · rw [e]; exact L4.1
    · rw [e]; exact (L4.2 nx).1
end Go.Proofs.Ytejdfdllgobnhaa
