/- The end of the closure that adds a core. -/
import Derived.Test.YtmahledpcpdldaaGreatGMach
set_option linter.unusedVariables false
set_option linter.unusedSimpArgs false
namespace Go.Proofs.YtmahledpcpdldaaGreat
open Go.RowKit

theorem add_fin (b k base g2 cp2 : Nat) (c0 c1 c2 c3 c4 s : Value) (room : Int) (xs : List Value) (w w1 w2 : World) (O3 : Obj)
    (o1 : w.ownsRow base 116 1 s k xs) (hbase : b < base) (hbw : base ≤ w.heap.size)
    (hbox : w.heap[b]? = some (.cells #[c0, c1, c2, c3, c4, s] 102 (0, 0)))
    (hb1 : Below w.heap.size w w1)
    (hT : w1.heap[w.heap.size + 1]? = some (.cells #[.map (some w.heap.size), .slice none 0 0, .int .i64 room] 263 (0, 0)))
    (n2 : w2.ownsRow base 116 1 (.slice (some ⟨g2, 0, none⟩) (k + 1) cp2) (k + 1) (xs ++ [.pointer (some ⟨w1.heap.size + 1, 0, none⟩)]))
    (ht2 : Touch (fun j => some j = s.ownBlock) (((w1.drew.alloc (.cells regs0 267 (0, 0))).alloc (.cells #[.pointer (some ⟨w1.heap.size, 0, none⟩), .pointer (some ⟨w.heap.size + 1, 0, none⟩), .int .i64 (-1)] 119 (0, 0))).alloc O3) w2)
    (hl2 : (Value.slice (some ⟨g2, 0, none⟩) (k + 1) cp2).ownBlock = s.ownBlock ∨ (Value.slice (some ⟨g2, 0, none⟩) (k + 1) cp2).ownBlock = some (((w1.drew.alloc (.cells regs0 267 (0, 0))).alloc (.cells #[.pointer (some ⟨w1.heap.size, 0, none⟩), .pointer (some ⟨w.heap.size + 1, 0, none⟩), .int .i64 (-1)] 119 (0, 0))).alloc O3).heap.size) :
    ∃ t c g cap,
      Ending.returned (.tuple #[]) = .returned (.tuple #[]) ∧ (w2.setCell ⟨b, 5, none⟩ (.slice (some ⟨g2, 0, none⟩) (k + 1) cp2)).heap[b]? = some (.cells #[c0, c1, c2, c3, c4, .slice (some ⟨g, 0, none⟩) (k + 1) cap] 102 (0, 0)) ∧
      (w2.setCell ⟨b, 5, none⟩ (.slice (some ⟨g2, 0, none⟩) (k + 1) cp2)).ownsRow base 116 1 (.slice (some ⟨g, 0, none⟩) (k + 1) cap) (k + 1) (xs ++ [.pointer (some ⟨c, 0, none⟩)]) ∧
      (s.ownBlock = some g ∨ w.heap.size ≤ g) ∧ w.heap.size ≤ c ∧ w.heap.size < t ∧ g ≠ c ∧ g ≠ t ∧
      (∃ r, (w2.setCell ⟨b, 5, none⟩ (.slice (some ⟨g2, 0, none⟩) (k + 1) cp2)).heap[c]? = some (.cells #[.pointer (some ⟨r, 0, none⟩), .pointer (some ⟨t, 0, none⟩), .int .i64 (-1)] 119 (0, 0)) ∧ w.heap.size ≤ r ∧ g ≠ r ∧ (w2.setCell ⟨b, 5, none⟩ (.slice (some ⟨g2, 0, none⟩) (k + 1) cp2)).heap[r]? = some (.cells regs0 267 (0, 0))) ∧
      (w2.setCell ⟨b, 5, none⟩ (.slice (some ⟨g2, 0, none⟩) (k + 1) cp2)).heap[t]? = some (.cells #[.map (some (t - 1)), .slice none 0 0, .int .i64 room] 263 (0, 0)) ∧
      Touch (fun j => j = b ∨ some j = s.ownBlock) w (w2.setCell ⟨b, 5, none⟩ (.slice (some ⟨g2, 0, none⟩) (k + 1) cp2)) := by
  have hs1 := hb1.size
  have hlt : ∀ g, s.ownBlock = some g → base ≤ g ∧ g < w.heap.size := fun g hg => o1.lt g hg
  have hbb := (hb1.block _ (lt_of_block hbox)).trans hbox
  have hbd : w1.drew.heap[b]? = _ := hbb
  have hTd : w1.drew.heap[w.heap.size + 1]? = _ := hT
  have hszd : w1.drew.heap.size = w1.heap.size := rfl
  have hb4 := ht2.at (heap_alloc (heap_alloc (heap_alloc hbd _) _) _) (fun e => by have := hlt b e.symm; omega)
  have hT4 := ht2.at (heap_alloc (heap_alloc (heap_alloc hTd _) _) _) (fun e => by have := hlt _ e.symm; omega)
  have hC : ((w1.drew.alloc (.cells regs0 267 (0, 0))).alloc (.cells #[.pointer (some ⟨w1.heap.size, 0, none⟩), .pointer (some ⟨w.heap.size + 1, 0, none⟩), .int .i64 (-1)] 119 (0, 0))).heap[w1.heap.size + 1]? = _ := heap_new' (by simp) _
  have hC4 := ht2.at (heap_alloc hC _) (fun e => by have := hlt _ e.symm; omega)
  have hR : (w1.drew.alloc (.cells regs0 267 (0, 0))).heap[w1.heap.size]? = _ := heap_new' rfl _
  have hR4 := ht2.at (heap_alloc (heap_alloc hR _) _) (fun e => by have := hlt _ e.symm; omega)
  have hlT := lt_of_block hT
  have hgg : (s.ownBlock = some g2 ∧ g2 < w.heap.size) ∨ g2 = w1.heap.size + 3 := by
    rcases hl2 with h | h
    · exact .inl ⟨h.symm, (hlt g2 h.symm).2⟩
    · right
      have : g2 = (((w1.drew.alloc (.cells regs0 267 (0, 0))).alloc (.cells #[.pointer (some ⟨w1.heap.size, 0, none⟩), .pointer (some ⟨w.heap.size + 1, 0, none⟩), .int .i64 (-1)] 119 (0, 0))).alloc O3).heap.size := by simpa [Value.ownBlock] using h
      simpa using this
  refine ⟨w.heap.size + 1, w1.heap.size + 1, g2, cp2, rfl, heap_set hb4 _, ?_, ?_, by omega, by omega, by omega, by omega, ⟨w1.heap.size, heap_set_ne hC4 _ (by omega), by omega, by omega, heap_set_ne hR4 _ (by omega)⟩, heap_set_ne hT4 _ (by omega), ?_⟩
  · exact ownsRow_keep n2 (Touch.setCell (S := fun j => j = b) (Touch.refl _ _) b 5 _ (fun _ => rfl)) (fun g hg hb => by have := n2.lt g hg; omega)
  · rcases hgg with ⟨h, _⟩ | h
    · exact .inl h
    · right; omega
  · have t0 : Touch (fun j => j = b ∨ some j = s.ownBlock) w w1 := Touch.of_below hb1
    have t1 : Touch (fun j => j = b ∨ some j = s.ownBlock) w w1.drew := t0.drew
    exact ((((t1.alloc _).alloc _).alloc O3).trans2 ht2 (fun i _ hi => .inr hi)).setCell b 5 _ (fun _ => .inl rfl)
end Go.Proofs.YtmahledpcpdldaaGreat
