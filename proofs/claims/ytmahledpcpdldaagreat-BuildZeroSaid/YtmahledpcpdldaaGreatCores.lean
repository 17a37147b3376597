/- The cores that a new machine gets, one by one. -/
import Derived.Test.YtmahledpcpdldaaGreatMach3
set_option linter.unusedVariables false
set_option linter.unusedSimpArgs false
namespace Go.Proofs.YtmahledpcpdldaaGreat
open Go.RowKit

structure CoresOk (w : World) (B0 : Nat) (core regs tlb : Nat → Nat) (k : Nat) (own : Option Nat) (r : Int) : Prop where
  c : ∀ j, j < k → w.heap[core j]? = some (.cells #[.pointer (some ⟨regs j, 0, none⟩), .pointer (some ⟨tlb j, 0, none⟩), .int .i64 (-1)] 119 (0, 0))
  t : ∀ j, j < k → w.heap[tlb j]? = some (.cells #[.map (some (tlb j - 1)), .slice none 0 0, .int .i64 r] 263 (0, 0))
  lo : ∀ j, j < k → B0 ≤ core j ∧ B0 ≤ tlb j
  no : ∀ j, j < k → own ≠ some (core j) ∧ own ≠ some (tlb j)
  f : ∀ j, j < k → w.heap[regs j]? = some (.cells regs0 267 (0, 0)) ∧ B0 ≤ regs j ∧ own ≠ some (regs j)
  inj : ∀ i j, i < k → j < k → core i = core j → i = j

def ptrs (core : Nat → Nat) (k : Nat) : List Value := (List.range k).map (fun j => .pointer (some ⟨core j, 0, none⟩))
theorem ptrs_succ (core : Nat → Nat) (k c : Nat) : ptrs core k ++ [.pointer (some ⟨c, 0, none⟩)] = ptrs (upd core k c) (k + 1) := by
  unfold ptrs
  rw [List.range_succ, List.map_append]
  congr 1
  · refine List.map_congr_left (fun j hj => ?_)
    have := List.mem_range.1 hj
    rw [upd_ne _ _ _ _ (by omega)]
  · simp [upd]
theorem ptrs_at (core : Nat → Nat) {k j : Nat} (h : j < k) : (ptrs core k)[j]? = some (.pointer (some ⟨core j, 0, none⟩)) := by
  simp [ptrs, h]
theorem ptrs_len (core : Nat → Nat) (k : Nat) : (ptrs core k).length = k := by simp [ptrs]

theorem CoresOk.step {w w' : World} {B0 b : Nat} {core regs tlb : Nat → Nat} {k : Nat} {own : Option Nat} {r : Int} (h : CoresOk w B0 core regs tlb k own r) (hb : b < B0) (hB : B0 ≤ w.heap.size)
    {t c g rg : Nat} (hg : own = some g ∨ w.heap.size ≤ g) (hc : w.heap.size ≤ c) (ht : w.heap.size < t) (h1 : g ≠ c) (h2 : g ≠ t)
    (hcc : w'.heap[c]? = some (.cells #[.pointer (some ⟨rg, 0, none⟩), .pointer (some ⟨t, 0, none⟩), .int .i64 (-1)] 119 (0, 0)))
    (htt : w'.heap[t]? = some (.cells #[.map (some (t - 1)), .slice none 0 0, .int .i64 r] 263 (0, 0)))
    (hrr : w.heap.size ≤ rg ∧ g ≠ rg ∧ w'.heap[rg]? = some (.cells regs0 267 (0, 0)))
    (hx : Touch (fun j => j = b ∨ some j = own) w w') : CoresOk w' B0 (upd core k c) (upd regs k rg) (upd tlb k t) (k + 1) (some g) r := by
  refine ⟨fun j hj => ?_, fun j hj => ?_, fun j hj => ?_, fun j hj => ?_, fun j hj => ?_, fun i j hi hj he => ?_⟩
  rotate_right
  · by_cases e1 : i = k
    · subst e1
      by_cases e2 : j = i
      · exact e2.symm
      · rw [upd_same, upd_ne _ _ _ _ e2] at he
        have := lt_of_block (h.c j (by omega)); omega
    · by_cases e2 : j = k
      · subst e2
        rw [upd_same, upd_ne _ _ _ _ e1] at he
        have := lt_of_block (h.c i (by omega)); omega
      · rw [upd_ne _ _ _ _ e1, upd_ne _ _ _ _ e2] at he
        exact h.inj i j (by omega) (by omega) he
  all_goals
    by_cases e : j = k
    · subst e; simp only [upd_same]; first | exact hcc | exact htt | exact ⟨hrr.2.2, by omega, fun e => by injection e with e; exact hrr.2.1 e⟩ | (constructor <;> omega) | (constructor <;> (intro e; injection e with e; omega))
    · have hj' : j < k := by omega
      simp only [upd_ne _ _ _ _ e]
      have l := h.lo j hj'
      have n := h.no j hj'
      have l1 := lt_of_block (h.c j hj')
      have l2 := lt_of_block (h.t j hj')
      have f := h.f j hj'
      have l3 := lt_of_block f.1
      first
        | exact ⟨hx.at f.1 (fun hh => by rcases hh with hh | hh; · omega
                                         · exact f.2.2 hh.symm), f.2.1, by rcases hg with hg | hg; · rw [← hg]; exact f.2.2
                                                                           · intro e; injection e with e; omega⟩
        | exact hx.at (h.c j hj') (fun hh => by rcases hh with hh | hh; · omega
                                                · exact n.1 hh.symm)
        | exact hx.at (h.t j hj') (fun hh => by rcases hh with hh | hh; · omega
                                                · exact n.2 hh.symm)
        | exact l
        | (rcases hg with hg | hg
           · rw [← hg]; exact n
           · constructor <;> (intro e; injection e with e; omega))
end Go.Proofs.YtmahledpcpdldaaGreat
