/- A new machine: one more core (the closure). -/
import Derived.Test.YtmahledpcpdldaaGreatAddFin
import Derived.Deep.RegionLaw
set_option linter.unusedVariables false
set_option linter.unusedSimpArgs false
namespace Go.Proofs.YtmahledpcpdldaaGreat
open Go.RowKit

theorem Tryz.infoCore : (Tryz.prog.info? 116).map (fun i => (i.zero, i.size, i.bytes)) = some (some (.pointer none), 1, 8) := by kernel_rfl

set_option maxHeartbeats 20000000 in
set_option maxRecDepth 100000 in
theorem mach_add (pb vb b k base : Nat) (f0 f1 f2 R c0 c1 c2 c3 c4 s : Value) (room : Int) (xs : List Value) (w : World)
    (hp : w.heap[pb]? = some (.cells #[f0, f1, f2, .int .i64 room] 23 (0, 0))) (hr0 : 0 ≤ room) (hr8 : room ≤ 8)
    (hv : w.heap[vb]? = some (.cells #[.pointer (some ⟨b, 0, none⟩)] 27 (0, 0)))
    (hbox : w.heap[b]? = some (.cells #[c0, c1, c2, c3, c4, s] 102 (0, 0)))
    (o1 : w.ownsRow base 116 1 s k xs) (hbase : b < base) (hvb : vb < base) (hbw : base ≤ w.heap.size) (hk : k < 1000000) :
    Calls Tryz.prog 58 #[.pointer (some ⟨pb, 0, none⟩), .pointer (some ⟨vb, 0, none⟩)] w fun e w' => ∃ t c g cap,
      e = .returned (.tuple #[]) ∧ w'.heap[b]? = some (.cells #[c0, c1, c2, c3, c4, .slice (some ⟨g, 0, none⟩) (k + 1) cap] 102 (0, 0)) ∧
      w'.ownsRow base 116 1 (.slice (some ⟨g, 0, none⟩) (k + 1) cap) (k + 1) (xs ++ [.pointer (some ⟨c, 0, none⟩)]) ∧
      (s.ownBlock = some g ∨ w.heap.size ≤ g) ∧ w.heap.size ≤ c ∧ w.heap.size < t ∧ g ≠ c ∧ g ≠ t ∧
      (∃ r, w'.heap[c]? = some (.cells #[.pointer (some ⟨r, 0, none⟩), .pointer (some ⟨t, 0, none⟩), .int .i64 (-1)] 119 (0, 0)) ∧ w.heap.size ≤ r ∧ g ≠ r ∧ w'.heap[r]? = some (.cells regs0 267 (0, 0))) ∧
      w'.heap[t]? = some (.cells #[.map (some (t - 1)), .slice none 0 0, .int .i64 room] 263 (0, 0)) ∧
      Touch (fun j => j = b ∨ some j = s.ownBlock) w w' := by
  obtain ⟨i0, hi, hz0, hz1, hz2⟩ := info_parts Tryz.infoCore
  have p3 : w.cell? ⟨pb, 3, none⟩ = some (.int .i64 room) := by rw [cell_of hp]; rfl
  go_enter Tryz.func58, Tryz.ntmps58
  go_upto_region 1 with ((go_at_call 59; (with_reducible refine (tlb_new _ _ hr0 hr8).mono ?_); rintro e w' ⟨rfl, hb1, hT⟩))
  have hbox1 := (hb1.block _ (lt_of_block hbox)).trans hbox
  have hv1 := (hb1.block _ (lt_of_block hv)).trans hv
  have o2 := ownsRow_keep o1 (Touch.of_below (S := fun _ => False) hb1) (fun _ _ h => h)
  have hs1 := hb1.size
  have o3 : w'.drew.ownsRow base 116 1 s k xs := o2
  have hb3 : w'.drew.heap[b]? = _ := hbox1
  have hv3 : w'.drew.heap[vb]? = _ := hv1
  have gb : w'.cell? ⟨b, 5, none⟩ = some s := by rw [cell_of hbox1]; rfl
  have gv : w'.cell? ⟨vb, 0, none⟩ = some (.pointer (some ⟨b, 0, none⟩)) := by rw [cell_of hv1]; rfl
  have gb1 : ∀ o, (w'.drew.alloc o).cell? ⟨b, 5, none⟩ = some s := fun o => by rw [cell_of (heap_alloc hb3 o)]; rfl
  have gv1 : ∀ o, (w'.drew.alloc o).cell? ⟨vb, 0, none⟩ = some (.pointer (some ⟨b, 0, none⟩)) := fun o => by rw [cell_of (heap_alloc hv3 o)]; rfl
  have gb2 : ∀ o p, ((w'.drew.alloc o).alloc p).cell? ⟨b, 5, none⟩ = some s := fun o p => by rw [cell_of (heap_alloc (heap_alloc hb3 o) p)]; rfl
  have gv2 : ∀ o p, ((w'.drew.alloc o).alloc p).cell? ⟨vb, 0, none⟩ = some (.pointer (some ⟨b, 0, none⟩)) := fun o p => by rw [cell_of (heap_alloc (heap_alloc hv3 o) p)]; rfl
  have gb4 : ∀ o p q, (((w'.drew.alloc o).alloc p).alloc q).cell? ⟨b, 5, none⟩ = some s := fun o p q => by rw [cell_of (heap_alloc (heap_alloc (heap_alloc hb3 o) p) q)]; rfl
  have gv4 : ∀ o p q, (((w'.drew.alloc o).alloc p).alloc q).cell? ⟨vb, 0, none⟩ = some (.pointer (some ⟨b, 0, none⟩)) := fun o p q => by rw [cell_of (heap_alloc (heap_alloc (heap_alloc hv3 o) p) q)]; rfl
  have gb5 : ∀ o, (w'.alloc o).cell? ⟨b, 5, none⟩ = some s := gb1
  have gv5 : ∀ o, (w'.alloc o).cell? ⟨vb, 0, none⟩ = some (.pointer (some ⟨b, 0, none⟩)) := gv1
  have gb6 : ∀ o p, ((w'.alloc o).alloc p).cell? ⟨b, 5, none⟩ = some s := gb2
  have gv6 : ∀ o p, ((w'.alloc o).alloc p).cell? ⟨vb, 0, none⟩ = some (.pointer (some ⟨b, 0, none⟩)) := gv2
  have gb7 : ∀ o p q, (((w'.alloc o).alloc p).alloc q).cell? ⟨b, 5, none⟩ = some s := gb4
  have gv7 : ∀ o p q, (((w'.alloc o).alloc p).alloc q).cell? ⟨vb, 0, none⟩ = some (.pointer (some ⟨b, 0, none⟩)) := gv4
  have hlb := lt_of_block hbox1
  have hlv := lt_of_block hv1
  go_region_law (first
    | (refine step_append_agg _ (by rfl) _ _ 100 (by rfl) 116 i0 (.pointer none) #[.pointer (some ⟨w'.heap.size + 1, 0, none⟩)] 1 8 Tryz.underlying100 hi hz0 hz1 hz2 rfl rfl (by decide) (by decide) base s k _ (by rfl) ((o3.alloc _).alloc _) (w'.heap.size + 1 + 1) (by simp) (by rfl) (by kernel_rfl) hk (by simp; omega) ?_; intro g2 cp2 w2 n2 ht2 hl2
       have hb4 := ht2.at (heap_alloc (heap_alloc (heap_alloc hb3 _) _) _) (fun e => by have := o1.lt b e.symm; omega)
       have g3 : w2.cell? ⟨b, 5, none⟩ = some s := by rw [cell_of hb4]; rfl
       have hv4 := ht2.at (heap_alloc (heap_alloc (heap_alloc hv3 _) _) _) (fun e => by have := o1.lt vb e.symm; omega)
       have gv8 : w2.cell? ⟨vb, 0, none⟩ = some (.pointer (some ⟨b, 0, none⟩)) := by rw [cell_of hv4]; rfl
       have f3 := frozen_of hb4)
    | (go_simp; (go_at_call 60; (with_reducible refine (regs_new _).mono ?_); rintro e w' ⟨rfl, rfl⟩)))
  all_goals first
    | (refine bodyPost_end (results_none rfl _ _ _) rfl ?_; exact add_fin b k base g2 cp2 c0 c1 c2 c3 c4 s room xs w w' w2 _ o1 hbase hbw hbox hb1 hT n2 ht2 hl2)
    | (go_wp2; go_end0; exact add_fin b k base g2 cp2 c0 c1 c2 c3 c4 s room xs w w' w2 _ o1 hbase hbw hbox hb1 hT n2 ht2 hl2)
end Go.Proofs.YtmahledpcpdldaaGreat
