/- Frames of words (package mem): Load, Store, Len. -/
import Derived.Test.YtmahledpcpdldaaGreatMem
import Derived.Test.YtmahledpcpdldaaGreatCells
set_option linter.unusedVariables false
set_option linter.unusedSimpArgs false
namespace Go.Proofs.YtmahledpcpdldaaGreat
open Go.RowKit

theorem MemS.can_cases (m : MemS) (f a : Int) : (m.can f a = 0 ∧ 0 ≤ f ∧ f < m.n ∧ 0 ≤ a ∧ a < 36) ∨ m.can f a = 1 := by
  unfold MemS.can
  by_cases h0 : f < 0
  · right; rw [if_pos h0]
  rw [if_neg h0]
  by_cases h1 : (m.n : Int) ≤ f
  · right; rw [if_pos h1]
  rw [if_neg h1]
  by_cases h2 : a < 0
  · right; rw [if_pos h2]
  rw [if_neg h2]
  by_cases h3 : 36 ≤ a
  · right; rw [if_pos h3]
  left; rw [if_neg h3]; omega


theorem mem_load (a g : Nat) (m : MemS) (f i : Int) (w : World) (h : MemIs w a g m) (ok : m.Ok) : Calls Tryz.prog 222 #[.pointer (some ⟨a, 0, none⟩), .int .i64 f, .int .i64 i] w fun e w' =>
    e = .returned (.tuple #[.int .u64 (m.load f i), .int .i64 (m.can f i)]) ∧ Below w.heap.size w w' := by
  rcases m.can_cases f i with ⟨hc, f0, fn, i0, i36⟩ | hc
  · rw [MemS.load, if_pos hc, hc]
    have HC := Lib.hid hc; clear hc
    have g0 := h.cell0
    have gw := h.at (f := f.toNat) (o := i.toNat) (by omega) (by omega)
    go_enter Tryz.func222, Tryz.ntmps222
    go_wp2_with ((go_at_call 186; (with_reducible refine (mem_can _ _ _ _ _ _ h ok).mono ?_); rintro e w' ⟨rfl, rfl⟩); rw [HC.out])
    go_ret2
    exact ⟨rfl, Below.refl _ _⟩
  · rw [MemS.load, if_neg (by omega), hc]
    have HC := Lib.hid hc; clear hc
    go_enter Tryz.func222, Tryz.ntmps222
    go_wp2_with ((go_at_call 186; (with_reducible refine (mem_can _ _ _ _ _ _ h ok).mono ?_); rintro e w' ⟨rfl, rfl⟩); rw [HC.out])
    go_ret2
    exact ⟨rfl, Below.refl _ _⟩
theorem mem_store (a g : Nat) (m : MemS) (f i x : Int) (w : World) (h : MemIs w a g m) (ok : m.Ok) : Calls Tryz.prog 88 #[.pointer (some ⟨a, 0, none⟩), .int .i64 f, .int .i64 i, .int .u64 x] w fun e w' =>
    e = .returned (.int .i64 (m.can f i)) ∧ MemIs w' a g (m.store f i x) ∧ Touch (· = g) w w' := by
  rcases m.can_cases f i with ⟨hc, f0, fn, i0, i36⟩ | hc
  · rw [MemS.store, if_pos hc, hc]
    have HC := Lib.hid hc; clear hc
    have g0 := h.cell0
    have gw := h.at (f := f.toNat) (o := i.toNat) (by omega) (by omega)
    have gf := h.free
    go_enter Tryz.func88, Tryz.ntmps88
    go_wp2_with ((go_at_call 186; (with_reducible refine (mem_can _ _ _ _ _ _ h ok).mono ?_); rintro e w' ⟨rfl, rfl⟩); rw [HC.out])
    go_ret
    exact ⟨rfl, h.set (by omega) (by omega) _, by (repeat' (first | (with_reducible exact Touch.refl _ _) | (with_reducible assumption) | (with_reducible refine Touch.drew ?_) | (with_reducible refine Touch.drewN ?_ _) | (with_reducible refine Touch.alloc ?_ _) | (with_reducible refine Touch.setCell ?_ _ _ _ ?_) | (with_reducible refine Touch.step (by assumption) ?_) | (with_reducible refine Touch.stepT (by assumption) ?_ ?_) | (intro _; first | rfl | trivial | omega | (simp; done) | (simp; omega)) | (intro _ _; first | omega | (simp; done) | (simp; omega))))⟩
  · rw [MemS.store, if_neg (by omega), hc]
    have HC := Lib.hid hc; clear hc
    go_enter Tryz.func88, Tryz.ntmps88
    go_wp2_with ((go_at_call 186; (with_reducible refine (mem_can _ _ _ _ _ _ h ok).mono ?_); rintro e w' ⟨rfl, rfl⟩); rw [HC.out])
    go_ret
    exact ⟨rfl, h, Touch.refl _ _⟩

def zero36 : Array Value := #[.int .u64 0, .int .u64 0, .int .u64 0, .int .u64 0, .int .u64 0, .int .u64 0, .int .u64 0, .int .u64 0, .int .u64 0, .int .u64 0, .int .u64 0, .int .u64 0, .int .u64 0, .int .u64 0, .int .u64 0, .int .u64 0, .int .u64 0, .int .u64 0, .int .u64 0, .int .u64 0, .int .u64 0, .int .u64 0, .int .u64 0, .int .u64 0, .int .u64 0, .int .u64 0, .int .u64 0, .int .u64 0, .int .u64 0, .int .u64 0, .int .u64 0, .int .u64 0, .int .u64 0, .int .u64 0, .int .u64 0, .int .u64 0]

theorem zero36_eq : zero36.toList = List.replicate 36 (.int .u64 0) := rfl
theorem zero36_len : zero36.toList.length = 36 := rfl

theorem mem_clear (a g : Nat) (m : MemS) (f : Int) (w : World) (h : MemIs w a g m) (ok : m.Ok) : Calls Tryz.prog 109 #[.pointer (some ⟨a, 0, none⟩), .int .i64 f] w fun e w' =>
    e = .returned (.int .i64 (m.can f 0)) ∧ MemIs w' a g (m.clear f) ∧ Touch (· = g) w w' := by
  rcases m.can_cases f 0 with ⟨hc, f0, fn, i0, i36⟩ | hc
  · rw [MemS.clear, if_pos hc, hc]
    have HC := Lib.hid hc; clear hc
    have g0 := h.cell0
    have hth : w.there g (f.toNat * 36) zero36.size := fun j hj => ⟨by rw [h.at (by omega) hj]; rfl, h.free _⟩
    go_enter Tryz.func109, Tryz.ntmps109
    go_wp2_with (first
      | ((go_at_call 186; (with_reducible refine (mem_can _ _ _ _ _ _ h ok).mono ?_); rintro e w' ⟨rfl, rfl⟩); rw [HC.out])
      | refine wpList_store_mid rfl 279 _ _ rfl g (f.toNat * 36) zero36 rfl rfl hth (by kernel_rfl) (by kernel_rfl) ?_)
    go_ret
    refine ⟨rfl, ?_, Touch.setCells (S := (· = g)) g (fun _ => rfl) _ _ _ (Touch.refl _ _)⟩
    obtain ⟨arr, hr, hcl⟩ := h.row
    obtain ⟨arr', hr'⟩ := heap_setCells zero36.toList (f.toNat * 36) w arr hr
    refine ⟨setCells_block h.ne _ _ _ h.box, ⟨arr', hr', ?_⟩, h.ne⟩
    intro f' o' hf' ho'
    rw [← cell_of hr']
    dsimp only
    by_cases e1 : f' = f.toNat
    · subst e1
      rw [World.cell?_setCells_in g zero36.toList (f.toNat * 36) w (fun j hj => (hth j (by simpa using hj)).1) o' (by rw [zero36_len]; exact ho')]
      simp only [zero36_eq, List.getElem_replicate, upd_same]
    · rw [World.cell?_setCells_out g zero36.toList (f.toNat * 36) w _ (fun _ _ => by rw [zero36_len]; show f' * 36 + o' < _ ∨ _ ≤ f' * 36 + o'; omega), upd_ne _ _ _ _ e1]
      rw [cell_of hr]; exact hcl f' o' hf' ho'
  · rw [MemS.clear, if_neg (by omega), hc]
    have HC := Lib.hid hc; clear hc
    go_enter Tryz.func109, Tryz.ntmps109
    go_wp2_with ((go_at_call 186; (with_reducible refine (mem_can _ _ _ _ _ _ h ok).mono ?_); rintro e w' ⟨rfl, rfl⟩); rw [HC.out])
    go_ret
    exact ⟨rfl, h, Touch.refl _ _⟩
theorem Tryz.infoFrame : (Tryz.prog.info? 279).map (fun i => (i.zero, i.size, i.bytes)) = some (some (.agg zero36), 36, 288) := by kernel_rfl
theorem zero36_rep : zero36 = Array.replicate 36 (.int .u64 0) := rfl
theorem zero36_at (j : Nat) (hj : j < 36) : zero36[j]! = .int .u64 0 := by
  rw [zero36_rep]; simp [hj]
theorem mem_new_bad (n : Int) (w : World) (h : n < 1 ∨ 64 < n) : Calls Tryz.prog 55 #[.int .i64 n] w fun e w' =>
    e = .returned (.tuple #[.pointer none, .int .i64 1]) ∧ w = w' := by
  rcases h with h | h
  · go_enter Tryz.func55, Tryz.ntmps55
    go_wp2
    go_ret2
    exact ⟨rfl, rfl⟩
  · go_enter Tryz.func55, Tryz.ntmps55
    go_wp2
    go_ret2
    exact ⟨rfl, rfl⟩
set_option maxRecDepth 100000 in
theorem mem_new (n : Nat) (w : World) (h1 : 1 ≤ n) (h64 : n ≤ 64) : Calls Tryz.prog 55 #[.int .i64 n] w fun e w' =>
    e = .returned (.tuple #[.pointer (some ⟨w.heap.size + 1, 0, none⟩), .int .i64 0]) ∧ MemIs w' (w.heap.size + 1) w.heap.size ⟨n, fun _ _ => 0⟩ ∧ Below w.heap.size w w' := by
  obtain ⟨i0, hi, hz0, hz1, hz2⟩ := info_parts Tryz.infoFrame
  go_enter Tryz.func55, Tryz.ntmps55
  go_wp2_with (refine wpList_make rfl 247 279 _ _ rfl i0 (.agg zero36) Tryz.underlying247 hi hz0 36 hz1 n rfl rfl (by rw [hz2]; omega) (by omega) ?_)
  go_ret2
  refine ⟨rfl, ⟨?_, ⟨_, heap_alloc (heap_new _ _) _, ?_⟩, by simp⟩, by (refine Touch.below0 ?_; (repeat' (first | (with_reducible exact Touch.refl _ _) | (with_reducible assumption) | (with_reducible refine Touch.drew ?_) | (with_reducible refine Touch.drewN ?_ _) | (with_reducible refine Touch.alloc ?_ _) | (with_reducible refine Touch.setCell ?_ _ _ _ ?_) | (with_reducible refine Touch.step (by assumption) ?_) | (with_reducible refine Touch.stepT (by assumption) ?_ ?_) | (intro _; first | rfl | trivial | omega | (simp; done) | (simp; omega)) | (intro _ _; first | omega | (simp; done) | (simp; omega)))))⟩
  · exact heap_new' (by simp) _
  · intro f o hf ho
    have hl : f * 36 + o < n * 36 := by dsimp only at hf; omega
    rw [madeCells_at _ _ _ hl]
    have : (f * 36 + o) % (36 : Nat) = o := by omega
    show some (zero36[(f * 36 + o) % 36]!) = _
    rw [this, zero36_at o ho]
end Go.Proofs.YtmahledpcpdldaaGreat
