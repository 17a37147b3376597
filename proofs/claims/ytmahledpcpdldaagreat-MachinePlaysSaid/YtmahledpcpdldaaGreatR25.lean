/- The reference's machine with all its parts named. -/
import Derived.Test.YtmahledpcpdldaaGreatRNew25
import Derived.Test.YtmahledpcpdldaaGreatRef03b
import Derived.Test.YtmahledpcpdldaaGreatG06
import Derived.Test.YtmahledpcpdldaaGreatCores
import Derived.Test.YtmahledpcpdldaaGreatGRb
set_option linter.unusedVariables false
set_option linter.unusedSimpArgs false
namespace Go.Proofs.YtmahledpcpdldaaGreat
open Go.RowKit

/-- Where it lies. -/
structure RB where
  b : Nat
  e0 : Nat
  e1 : Nat
  e2 : Nat
  e3 : Nat
  M : RMB
  cv : Nat
  b1 : Nat
  b2 : Nat
  b3 : Nat
  c1 : Nat
  c2 : Nat
  c3 : Nat
  ta : Nat
  tg : Nat
  tcap : Nat
  lv : Nat
  lg : Nat
  lc : Nat
  hv : Nat
  hg : Nat
  hc : Nat
  st : Nat
  ct : Nat
  sr : Nat
  cr : Nat
  sc : Nat
  cc : Nat
  tb : Nat → Nat
  rb : Nat → Nat
  rg : Nat → Nat
  rc : Nat → Nat

structure RMachIs (w : World) (R : RB) (m : Mach) (room : Int) (cur : Nat → Int) : Prop where
  box : w.heap[R.b]? = some (.cells #[.pointer (some ⟨R.M.v, 0, none⟩), .pointer (some ⟨R.cv, 0, none⟩), .slice (some ⟨R.st, 0, none⟩) m.clk.n.toNat R.ct, .slice (some ⟨R.sr, 0, none⟩) m.clk.n.toNat R.cr, .pointer (some ⟨R.ta, 0, none⟩), .pointer (some ⟨R.lv, 0, none⟩), .pointer (some ⟨R.hv, 0, none⟩), .slice (some ⟨R.sc, 0, none⟩) m.clk.n.toNat R.cc] 64 (0, 0))
  mem : RMemIs w R.M m.mem
  clk : RClk w R.cv m.clk R.b1 R.b2 R.b3 R.c1 R.c2 R.c3
  typ : RTypIs w R.ta R.tg R.tcap m.typ
  lvb : w.heap[R.lv]? = some (.cells #[.slice (some ⟨R.lg, 0, none⟩) 64 R.lc] 187 (0, 0))
  lvr : Row w R.lg 189 (reps #[.bool false, .int .i64 0, .bool false, .int .i64 0] 64)
  hvb : w.heap[R.hv]? = some (.cells #[.slice (some ⟨R.hg, 0, none⟩) 8 R.hc] 269 (0, 0))
  hvr : Row w R.hg 3 (reps #[.int .i64 0] 8)
  rT : Row w R.st 129 (ptrs R.tb m.clk.n.toNat)
  rR : Row w R.sr 132 (ptrs R.rb m.clk.n.toNat)
  rC : Row w R.sc 3 (ints cur m.clk.n.toNat)
  tl : ∀ j, j < m.clk.n.toNat → w.heap[R.tb j]? = some (.cells #[.slice none 0 0, .int .i64 room] 168 (0, 0))
  fl : ∀ j, j < m.clk.n.toNat → w.heap[R.rb j]? = some (.cells #[.slice (some ⟨R.rg j, 0, none⟩) 8 (R.rc j)] 165 (0, 0))
  fr : ∀ j, j < m.clk.n.toNat → Row w (R.rg j) 150 (reps #[.int .u64 0] 8)
  q0 : R.lv < R.e0 ∧ R.lg < R.e0 ∧ R.hv < R.e0 ∧ R.hg < R.e0 ∧ R.b < R.e0
  q1 : R.e0 ≤ R.M.v ∧ R.M.v < R.e1 ∧ R.e0 ≤ R.M.b ∧ R.M.b < R.e1 ∧ ∀ j, j < m.mem.n → R.e0 ≤ R.M.fb j ∧ R.M.fb j < R.e1
  q2 : R.e1 ≤ R.cv ∧ R.cv < R.e2 ∧ R.b1 < R.e2 ∧ R.b2 < R.e2 ∧ R.b3 < R.e2
  q3 : R.e2 ≤ R.ta ∧ R.ta < R.e3 ∧ R.e2 ≤ R.tg ∧ R.tg < R.e3
  q4 : R.e3 ≤ R.st ∧ R.e3 ≤ R.sr ∧ R.e3 ≤ R.sc ∧ ∀ j, j < m.clk.n.toNat → R.e3 ≤ R.tb j ∧ R.e3 ≤ R.rb j ∧ R.e3 ≤ R.rg j
  e01 : R.e0 ≤ R.e1
  e12 : R.e1 ≤ R.e2
  e23 : R.e2 ≤ R.e3
/-- All blocks lie from x on. -/
structure RB.From (R : RB) (x : Nat) : Prop where
  b : x ≤ R.b
  l : x ≤ R.lv ∧ x ≤ R.lg ∧ x ≤ R.hv ∧ x ≤ R.hg
  e : x ≤ R.e0

theorem type_ne {w : World} {a b : Nat} {x y : Array Value} {T U : TypeId} (h : w.heap[a]? = some (.cells x T (0, 0))) (k : w.heap[b]? = some (.cells y U (0, 0))) (hn : T ≠ U) : a ≠ b := fun e => by
  subst e; rw [h] at k; injection k with k; injection k with _ k; exact hn k
theorem own_ne {w : World} {base x : Nat} {e U : TypeId} {size n : Nat} {v : Value} {xs : List Value} {arr : Array Value} (h : w.ownsRow base e size v n xs) (hx : w.heap[x]? = some (.cells arr U (0, 0))) (hn : U ≠ e) : some x ≠ v.ownBlock := fun hh => by
  rcases ownsRow_row h with ⟨hv, _⟩ | ⟨g, c, hv, _, _, _, _, R⟩
  · subst hv; cases hh
  · subst hv
    obtain ⟨sp, R⟩ := R
    have : x = g := by injection hh
    exact type_ne hx R hn this

section
variable {w w2 : World} {lo b : Nat} {tb rb rg rc : Nat → Nat} {room : Int} {kT kF : Nat} {S : Nat → Prop}
structure TriX (w : World) (lo : Nat) (tb rb rg rc : Nat → Nat) (room : Int) (kT kF : Nat) : Prop where
  tl : ∀ j, j < kT → w.heap[tb j]? = some (.cells #[.slice none 0 0, .int .i64 room] 168 (0, 0))
  fl : ∀ j, j < kF → w.heap[rb j]? = some (.cells #[.slice (some ⟨rg j, 0, none⟩) 8 (rc j)] 165 (0, 0))
  fr : ∀ j, j < kF → Row w (rg j) 150 (reps #[.int .u64 0] 8)
  lT : ∀ j, j < kT → lo ≤ tb j
  lF : ∀ j, j < kF → lo ≤ rb j ∧ lo ≤ rg j
theorem TriX.touch (h : TriX w lo tb rb rg rc room kT kF) (ht : Touch S w w2) (hS : ∀ x arr U, w.heap[x]? = some (.cells arr U (0, 0)) → U = 168 ∨ U = 165 ∨ U = 150 → ¬ S x) : TriX w2 lo tb rb rg rc room kT kF := by
  refine ⟨fun j hj => ht.at (h.tl j hj) (hS _ _ _ (h.tl j hj) (.inl rfl)), fun j hj => ht.at (h.fl j hj) (hS _ _ _ (h.fl j hj) (.inr (.inl rfl))), fun j hj => ?_, h.lT, h.lF⟩
  obtain ⟨sp, hr⟩ := id (h.fr j hj)
  exact (h.fr j hj).touch ht (hS _ _ _ hr (.inr (.inr rfl)))
theorem TriX.after (h : TriX w lo tb rb rg rc room kT kF) (hb : Below w.heap.size w w2) : TriX w2 lo tb rb rg rc room kT kF := h.touch (Touch.of_below (S := fun _ => False) hb) (fun _ _ _ _ _ h => h)
theorem TriX.addT (h : TriX w lo tb rb rg rc room kT kF) {v : Nat} (hv : w.heap[v]? = some (.cells #[.slice none 0 0, .int .i64 room] 168 (0, 0))) (hl : lo ≤ v) : TriX w lo (upd tb kT v) rb rg rc room (kT + 1) kF := by
  refine ⟨fun j hj => ?_, h.fl, h.fr, fun j hj => ?_, h.lF⟩
  all_goals
    by_cases e : j = kT
    · subst e; rw [upd_same]; first | exact hv | exact hl
    · rw [upd_ne _ _ _ _ e]; first | exact h.tl j (by omega) | exact h.lT j (by omega)
theorem TriX.addF (h : TriX w lo tb rb rg rc room kT kF) {v g c : Nat} (hv : w.heap[v]? = some (.cells #[.slice (some ⟨g, 0, none⟩) 8 c] 165 (0, 0))) (hr : Row w g 150 (reps #[.int .u64 0] 8)) (hl : lo ≤ v) (hg : lo ≤ g) : TriX w lo tb (upd rb kF v) (upd rg kF g) (upd rc kF c) room kT (kF + 1) := by
  refine ⟨h.tl, fun j hj => ?_, fun j hj => ?_, h.lT, fun j hj => ?_⟩
  all_goals
    by_cases e : j = kF
    · subst e; simp only [upd_same]; first | exact hv | exact hr | exact ⟨hl, hg⟩
    · simp only [upd_ne _ _ _ _ e]; first | exact h.fl j (by omega) | exact h.fr j (by omega) | exact h.lF j (by omega)
/-- One more element in the row of a field of b. -/
theorem TriX.field {e : TypeId} {base size n : Nat} {s : Value} {xs : List Value} {O : Obj} {W2 : World} {arr : Array Value} (h : TriX w lo tb rb rg rc room kT kF) (ho : w.ownsRow base e size s n xs) (hbx : w.heap[b]? = some (.cells arr 64 (0, 0)))
    (hne : 168 ≠ e ∧ 165 ≠ e ∧ 150 ≠ e) (ht : Touch (fun j => some j = s.ownBlock) (w.alloc O) W2) (o : Nat) (v : Value) :
    TriX (W2.setCell ⟨b, o, none⟩ v) lo tb rb rg rc room kT kF := by
  have t : Touch (fun j => j = b ∨ some j = s.ownBlock) w (W2.setCell ⟨b, o, none⟩ v) := (((Touch.refl _ w).alloc O).trans2 ht (fun i hi h => .inr h)).setCell b o v (fun _ => .inl rfl)
  refine h.touch t (fun x ar U hx hU hS => ?_)
  rcases hS with hS | hS
  · rcases hU with rfl | rfl | rfl <;> exact type_ne hx hbx (by decide) hS
  · rcases hU with rfl | rfl | rfl
    · exact own_ne ho hx hne.1 hS
    · exact own_ne ho hx hne.2.1 hS
    · exact own_ne ho hx hne.2.2 hS
end
/-- The touched blocks of one more element: the box, and what is new. -/
theorem box_touch {W w W2 : World} {b : Nat} {s v : Value} {O : Obj} (h : Touch (· = b) W w) (ht : Touch (fun j => some j = s.ownBlock) (w.alloc O) W2) (hl : ∀ g, s.ownBlock = some g → W.heap.size ≤ g) (o : Nat) : Touch (· = b) W (W2.setCell ⟨b, o, none⟩ v) :=
  ((h.alloc O).trans2 ht (fun i hi e => by have := hl i e.symm; omega)).setCell b o v (fun _ => rfl)
theorem lo_step {W w : World} {s s' : Value} {O : Obj} (hl : ∀ g, s.ownBlock = some g → W.heap.size ≤ g) (hs : W.heap.size ≤ w.heap.size) (h : s'.ownBlock = s.ownBlock ∨ s'.ownBlock = some (w.alloc O).heap.size) : ∀ g, s'.ownBlock = some g → W.heap.size ≤ g := fun g hg => by
  rcases h with h | h
  · exact hl g (h ▸ hg)
  · rw [h] at hg; injection hg with hg; simp at hg; omega
end Go.Proofs.YtmahledpcpdldaaGreat
