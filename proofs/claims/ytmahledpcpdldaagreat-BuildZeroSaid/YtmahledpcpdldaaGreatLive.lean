/- Who lives (package live); a machine with those who live. -/
import Derived.Test.YtmahledpcpdldaaGreatMach5
import Derived.Test.YtmahledpcpdldaaGreatGTyp
set_option linter.unusedVariables false
set_option linter.unusedSimpArgs false
namespace Go.Proofs.YtmahledpcpdldaaGreat
open Go.RowKit

structure LiveS where
  on : Nat → Bool
  ep : Nat → Int
  ki : Nat → Bool
  ti : Nat → Int
def LiveS.zero : LiveS := ⟨fun _ => false, fun _ => 0, fun _ => false, fun _ => 0⟩
def lcell (l : LiveS) (i : Nat) : Nat → Value
  | 0 => .bool (l.on i)
  | 1 => .int .i64 (l.ep i)
  | 2 => .bool (l.ki i)
  | _ => .int .i64 (l.ti i)
structure LiveIs (w : World) (a g : Nat) (l : LiveS) : Prop where
  box : w.heap[a]? = some (.cells #[.slice (some ⟨g, 0, none⟩) 64 64] 184 (0, 0))
  row : ∃ arr : Array Value, w.heap[g]? = some (.cells arr 179 (0, 0)) ∧ ∀ i o, i < 64 → o < 4 → arr[i * 4 + o]? = some (lcell l i o)
  ne : a ≠ g
theorem LiveIs.touch {w w' : World} {a g : Nat} {l : LiveS} {S : Nat → Prop} (h : LiveIs w a g l) (ht : Touch S w w') (ha : ¬ S a) (hg : ¬ S g) : LiveIs w' a g l := by
  obtain ⟨arr, hr, hc⟩ := h.row
  exact ⟨ht.at h.box ha, ⟨arr, ht.at hr hg, hc⟩, h.ne⟩
theorem LiveIs.after {w w' : World} {a g : Nat} {l : LiveS} (h : LiveIs w a g l) (hb : Below w.heap.size w w') : LiveIs w' a g l :=
  h.touch (Touch.of_below (S := fun _ => False) hb) (fun h => h) (fun h => h)
theorem LiveIs.lta {w : World} {a g : Nat} {l : LiveS} (h : LiveIs w a g l) : a < w.heap.size := lt_of_block h.box
theorem LiveIs.ltg {w : World} {a g : Nat} {l : LiveS} (h : LiveIs w a g l) : g < w.heap.size := by obtain ⟨_, hr, _⟩ := h.row; exact lt_of_block hr
theorem LiveIs.cell0 {w : World} {a g : Nat} {l : LiveS} (h : LiveIs w a g l) : w.cell? ⟨a, 0, none⟩ = some (.slice (some ⟨g, 0, none⟩) 64 64) := by rw [cell_of h.box]; rfl
theorem LiveIs.at {w : World} {a g : Nat} {l : LiveS} (h : LiveIs w a g l) {i : Nat} (hi : i < 64) :
    w.cell? ⟨g, i * 4, none⟩ = some (.bool (l.on i)) ∧ w.cell? ⟨g, i * 4 + 1, none⟩ = some (.int .i64 (l.ep i)) ∧ w.cell? ⟨g, i * 4 + 2, none⟩ = some (.bool (l.ki i)) ∧ w.cell? ⟨g, i * 4 + 3, none⟩ = some (.int .i64 (l.ti i)) := by
  obtain ⟨arr, hr, hc⟩ := h.row
  simp only [cell_of hr]
  exact ⟨hc i 0 hi (by decide), hc i 1 hi (by decide), hc i 2 hi (by decide), hc i 3 hi (by decide)⟩
theorem LiveIs.new {w : World} {a g : Nat} (h1 : w.heap[a]? = some (.cells #[.slice (some ⟨g, 0, none⟩) 64 64] 184 (0, 0))) (h2 : w.heap[g]? = some (.cells (madeCells #[.bool false, .int .i64 0, .bool false, .int .i64 0] 256) 179 (0, 0))) (hn : a ≠ g) : LiveIs w a g LiveS.zero := by
  refine ⟨h1, ⟨_, h2, fun i o hi ho => ?_⟩, hn⟩
  have hl : i * 4 + o < 256 := by omega
  rw [madeCells_at _ _ _ hl]
  have e : (i * 4 + o) % (4 : Nat) = o := by omega
  show some ((#[.bool false, .int .i64 0, .bool false, .int .i64 0] : Array Value)[(i * 4 + o) % 4]!) = _
  rw [e]
  match o, ho with
  | 0, _ => rfl
  | 1, _ => rfl
  | 2, _ => rfl
  | 3, _ => rfl
def LiveS.valid (l : LiveS) (i e : Int) : Bool := decide (0 ≤ i) && decide (i < 64) && l.on i.toNat && decide (l.ep i.toNat = e)
theorem live_none (a g : Nat) (l : LiveS) (w : World) (h : LiveIs w a g l) : Calls Tryz.prog 113 #[.pointer (some ⟨a, 0, none⟩)] w fun e w' => e = .returned (.bool false) ∧ w = w' := by
  have g0 := h.cell0
  go_enter Tryz.func113, Tryz.ntmps113
  go_wp2
  go_ret
  exact ⟨rfl, rfl⟩
theorem live_valid (a g : Nat) (l : LiveS) (i ep : Int) (w : World) (h : LiveIs w a g l) : Calls Tryz.prog 135 #[.pointer (some ⟨a, 0, none⟩), .int .i64 i, .int .i64 ep] w fun e w' =>
    e = .returned (.bool (l.valid i ep)) ∧ w = w' := by
  have g0 := h.cell0
  unfold LiveS.valid
  by_cases h0 : i < 0
  · go_enter Tryz.func135, Tryz.ntmps135
    go_wp2_with ((go_at_call 113; (with_reducible refine (live_none _ _ _ w h).mono ?_); rintro e w' ⟨rfl, rfl⟩))
    go_ret
    exact ⟨ret_bool (by simp; omega), rfl⟩
  by_cases h1 : 64 ≤ i
  · go_enter Tryz.func135, Tryz.ntmps135
    go_wp2_with ((go_at_call 113; (with_reducible refine (live_none _ _ _ w h).mono ?_); rintro e w' ⟨rfl, rfl⟩))
    go_ret
    exact ⟨ret_bool (by simp; omega), rfl⟩
  obtain ⟨c0, c1, -, -⟩ := h.at (i := i.toNat) (by omega)
  generalize l.on i.toNat = O at *
  generalize l.ep i.toNat = P at *
  have d0 : decide (0 ≤ i) = true := by simp; omega
  have d1 : decide (i < 64) = true := by simp; omega
  rw [d0, d1]
  cases O
  · go_enter Tryz.func135, Tryz.ntmps135
    go_wp2_with ((go_at_call 113; (with_reducible refine (live_none _ _ _ w h).mono ?_); rintro e w' ⟨rfl, rfl⟩))
    go_ret
    exact ⟨ret_bool (by simp), rfl⟩
  · go_enter Tryz.func135, Tryz.ntmps135
    go_wp2_with ((go_at_call 113; (with_reducible refine (live_none _ _ _ w h).mono ?_); rintro e w' ⟨rfl, rfl⟩))
    go_ret
    exact ⟨ret_bool (by simp; rfl), rfl⟩
/-- A machine, with those who live. -/
structure MachL (w : World) (B : MBl) (m : Mach) (l : LiveS) : Prop where
  mach : MachIs w B m
  live : LiveIs w B.lb (B.lb - 1) l
  o1 : ¬ B.own B.lb
  o2 : ¬ B.own (B.lb - 1)
theorem MachL.after {w w' : World} {B : MBl} {m : Mach} {l : LiveS} (h : MachL w B m l) (hb : Below w.heap.size w w') : MachL w' B m l := ⟨h.mach.after hb, h.live.after hb, h.o1, h.o2⟩
theorem MachL.own {w w' : World} {B : MBl} {m m' : Mach} {l : LiveS} (h : MachL w B m l) (hm : MachIs w' B m') (ht : Touch (fun x => B.own x) w w') : MachL w' B m' l := ⟨hm, h.live.touch ht h.o1 h.o2, h.o1, h.o2⟩
theorem MachL.setmem {w w' : World} {B : MBl} {m : Mach} {l : LiveS} {t : MemS} (h : MachL w B m l) (hc : MemIs w' B.mb B.mg t) (ht : Touch (· = B.mg) w w') : MachL w' B { m with mem := t } l :=
  h.own (h.mach.setmem ht hc) (ht.mono (fun _ _ hx => .inl hx))
theorem mach_live (B : MBl) (m : Mach) (w : World) (h : MachIs w B m) : Calls Tryz.prog 18 #[.pointer (some ⟨B.b, 0, none⟩)] w fun e w' => e = .returned (.pointer (some ⟨B.lb, 0, none⟩)) ∧ w = w' := by
  have c3 : w.cell? ⟨B.b, 3, none⟩ = some (.pointer (some ⟨B.lb, 0, none⟩)) := by rw [cell_of h.box]; rfl
  go_enter Tryz.func18, Tryz.ntmps18
  go_wp2_with ((go_at_call 106; (with_reducible refine (mach_none _ _ _ h).mono ?_); rintro e w' ⟨rfl, rfl⟩))
  go_ret
  exact ⟨rfl, rfl⟩
end Go.Proofs.YtmahledpcpdldaaGreat
