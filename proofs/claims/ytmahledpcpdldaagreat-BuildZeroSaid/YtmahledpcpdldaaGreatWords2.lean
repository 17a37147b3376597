/- All words of a frame (package mem). -/
import Derived.Test.YtmahledpcpdldaaGreatGHead
import Derived.Laws.CopyOwn
set_option linter.unusedVariables false
set_option linter.unusedSimpArgs false
namespace Go.Proofs.YtmahledpcpdldaaGreat
open Go.RowKit

def frow (m : MemS) (f : Nat) : List Value := (List.range 36).map fun o => .int .u64 (m.w f o)
theorem can_of (a g : Nat) (m : MemS) (f i e : Int) (w : World) (h : MemIs w a g m) (ok : m.Ok) (he : m.can f i = e) : Calls Tryz.prog 186 #[.pointer (some ⟨a, 0, none⟩), .int .i64 f, .int .i64 i] w fun e' w' => e' = .returned (.int .i64 e) ∧ w = w' := by subst he; exact mem_can a g m f i w h ok
theorem words_no (a g : Nat) (m : MemS) (f : Int) (w : World) (h : MemIs w a g m) (ok : m.Ok) (hf : m.has f = false) : Calls Tryz.prog 188 #[.pointer (some ⟨a, 0, none⟩), .int .i64 f] w fun e w' =>
    e = .returned (.tuple #[.slice none 0 0, .int .i64 1]) ∧ Below w.heap.size w w' := by
  have C := fun w h => can_of a g m f 0 1 w h ok (MemS.can_out hf)
  clear hf
  go_enter Tryz.func188, Tryz.ntmps188
  go_wp2_with ((go_at_call 186; (with_reducible refine (C _ h).mono ?_); rintro e w' ⟨rfl, rfl⟩))
  go_ret2
  exact ⟨rfl, Below.refl _ _⟩
set_option maxHeartbeats 1000000 in
set_option maxRecDepth 100000 in
theorem words_yes (a g : Nat) (m : MemS) (f : Nat) (w : World) (h : MemIs w a g m) (ok : m.Ok) (hf : f < m.n) : Calls Tryz.prog 188 #[.pointer (some ⟨a, 0, none⟩), .int .i64 f] w fun e w' =>
    ∃ b, e = .returned (.tuple #[.slice (some ⟨b, 0, none⟩) 36 36, .int .i64 0]) ∧ w.heap.size ≤ b ∧ b < w'.heap.size ∧ (∀ o : Nat, o < 36 → w'.cell? ⟨b, o, none⟩ = some (.int .u64 (m.w f o))) ∧ Below w.heap.size w w' := by
  have C := fun w h => can_of a g m f 0 0 w h ok (MemS.can_in (m := m) (f := f) (by rw [MemS.has]; exact inB_iff.2 ⟨by omega, by omega⟩) (by decide) (by decide))
  obtain ⟨i0, hi, hz0, hz1, hz2⟩ := info_parts Tryz.infoU64
  have hm := ok.n64
  have c0 := h.cell0
  have ha := h.lta
  have hg := h.ltg
  have hsrc : ∀ (W : World), Below w.heap.size w W → ∀ j v, (frow m f)[j]? = some v → W.cell? ((⟨g, f * 36, none⟩ : Addr).add j) = some v := by
    intro W hb j v hv
    have hj : j < 36 := by
      rcases Nat.lt_or_ge j 36 with h' | h'
      · exact h'
      · rw [List.getElem?_eq_none (by simp [frow]; exact h')] at hv; cases hv
    have e : v = .int .u64 (m.w f j) := by simp [frow, hj] at hv; exact hv.symm
    rw [e]
    rw [Addr.add_lit]
    exact (hb.cell (p := ⟨g, f * 36 + j, none⟩) hg).trans (h.at hf hj)
  have hmade : ∀ o, (w.alloc o).cell? ⟨a, 0, none⟩ = w.cell? ⟨a, 0, none⟩ := fun o => ((Below.refl w.heap.size w).alloc (Nat.le_refl _) o).cell (p := ⟨a, 0, none⟩) ha
  have c1 := (hmade (.cells (madeCells (Value.int .u64 0).cells (36 * 1)) 150 (0, 0))).trans c0
  go_enter Tryz.func188, Tryz.ntmps188
  go_wp2_with (first
    | ((go_at_call 186; (with_reducible refine (C _ h).mono ?_); rintro e w' ⟨rfl, rfl⟩))
    | (refine wpList_make rfl 160 150 _ _ rfl i0 (.int .u64 0) Tryz.underlying160 hi hz0 1 hz1 36 rfl rfl (by rw [hz2]; decide) (by decide) ?_)
    | (refine wpList_copy_own rfl _ _ 160 160 rfl 150 Tryz.underlying160 (by kernel_rfl) w.heap.size 0 36 36 ⟨g, f * 36, none⟩ 36 36 rfl rfl (madeCells (Value.int .u64 0).cells (36 * 1)) 150 (heap_new _ _) (frow m f) (by simp [frow]) (hsrc _ ((Below.refl _ w).alloc (Nat.le_refl _) _)) (by simp [frow, madeCells]) (by intro v hv; simp [frow] at hv; obtain ⟨o, _, rfl⟩ := hv; rfl) ?_))
  have hrow := setRow_heap (w.alloc (.cells (madeCells #[Value.int .u64 0] 36) 150 (0, 0))) w.heap.size _ (frow m f ++ List.drop (frow m f).length (madeCells #[Value.int .u64 0] 36).toList).toArray 150 _ (heap_new _ _)
  have hbl : Below w.heap.size w ((w.alloc (.cells (madeCells #[Value.int .u64 0] 36) 150 (0, 0))).setRow w.heap.size (frow m f ++ List.drop (frow m f).length (madeCells #[Value.int .u64 0] 36).toList).toArray) := below_setRow ((Below.refl _ w).alloc (Nat.le_refl _) _) (Nat.le_refl _) _
  go_ret2
  refine ⟨w.heap.size, rfl, Nat.le_refl _, lt_of_block hrow, fun o ho => ?_, hbl⟩
  rw [cell_of hrow]
  have : (frow m f).length = 36 := by simp [frow]
  simp only [List.getElem?_toArray]
  rw [List.getElem?_append_left (by omega)]
  simp [frow, ho]
end Go.Proofs.YtmahledpcpdldaaGreat
