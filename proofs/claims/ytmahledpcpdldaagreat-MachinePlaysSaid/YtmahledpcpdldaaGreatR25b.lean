/- The reference's machine: Is, SetCur, held, Link, Unlink, Flush. -/
import Derived.Test.YtmahledpcpdldaaGreatR25
import Derived.Test.YtmahledpcpdldaaGreatRef08a
set_option linter.unusedVariables false
set_option linter.unusedSimpArgs false
namespace Go.Proofs.YtmahledpcpdldaaGreat
open Go.RowKit
section
variable {w w' : World} {R : RB} {m m' : Mach} {room : Int} {cur : Nat → Int} {S : Nat → Prop}
theorem RMachIs.keep (h : RMachIs w R m room cur) (ht : Touch S w w') (hS : ∀ x, S x → R.e0 ≤ x ∧ x < R.e3) (hm : RMemIs w' R.M m'.mem) (hc : RClk w' R.cv m'.clk R.b1 R.b2 R.b3 R.c1 R.c2 R.c3) (hty : RTypIs w' R.ta R.tg R.tcap m'.typ)
    (hn : m'.mem.n = m.mem.n) (hcn : m'.clk.n = m.clk.n) : RMachIs w' R m' room cur := by
  have q0 := h.q0
  obtain ⟨q4a, q4b, q4c, q4⟩ := h.q4
  have no0 : ∀ x, x < R.e0 → ¬ S x := fun x hx hs => by have := hS x hs; omega
  have no3 : ∀ x, R.e3 ≤ x → ¬ S x := fun x hx hs => by have := hS x hs; omega
  refine ⟨?_, hm, hc, hty, ht.at h.lvb (no0 _ q0.1), h.lvr.touch ht (no0 _ q0.2.1), ht.at h.hvb (no0 _ q0.2.2.1), h.hvr.touch ht (no0 _ q0.2.2.2.1), ?_, ?_, ?_, ?_, ?_, ?_, q0, ?_, h.q2, h.q3, ?_, h.e01, h.e12, h.e23⟩
  · rw [hcn]; exact ht.at h.box (no0 _ q0.2.2.2.2)
  · rw [hcn]; exact h.rT.touch ht (no3 _ q4a)
  · rw [hcn]; exact h.rR.touch ht (no3 _ q4b)
  · rw [hcn]; exact h.rC.touch ht (no3 _ q4c)
  · rw [hcn]; exact fun j hj => ht.at (h.tl j hj) (no3 _ (q4 j hj).1)
  · rw [hcn]; exact fun j hj => ht.at (h.fl j hj) (no3 _ (q4 j hj).2.1)
  · rw [hcn]; exact fun j hj => (h.fr j hj).touch ht (no3 _ (q4 j hj).2.2)
  · rw [hn]; exact h.q1
  · rw [hcn]; exact h.q4
theorem RMachIs.after (h : RMachIs w R m room cur) (hb : Below w.heap.size w w') : RMachIs w' R m room cur :=
  h.keep (Touch.of_below (S := fun _ => False) hb) (fun _ h => h.elim) (h.mem.after hb) (h.clk.touch (Touch.of_below (S := fun _ => False) hb) (fun h => h) (fun h => h) (fun h => h) (fun h => h)) (h.typ.after hb) rfl rfl
theorem RMachIs.setmem {t : MemS} (h : RMachIs w R m room cur) (ht : Touch (R.M.own m.mem.n) w w') (hm : RMemIs w' R.M t) (hn : t.n = m.mem.n) : RMachIs w' R { m with mem := t } room cur := by
  obtain ⟨_, _, _, _, q1⟩ := h.q1
  have q2 := h.q2; have q3 := h.q3; have e12 := h.e12; have e23 := h.e23; have v1 := h.clk.v1; have v2 := h.clk.v2; have v3 := h.clk.v3
  have no : ∀ x, R.e1 ≤ x → ¬ R.M.own m.mem.n x := fun x hx ⟨j, hj, e⟩ => by have := q1 j hj; omega
  exact h.keep (m' := { m with mem := t }) ht (fun x ⟨j, hj, e⟩ => by have := q1 j hj; omega) hm (h.clk.touch ht (no _ (by omega)) (no _ (by omega)) (no _ (by omega)) (no _ (by omega))) (h.typ.touch ht (no _ (by omega)) (no _ (by omega))) hn rfl
theorem RMachIs.setclk {t : Clk} (h : RMachIs w R m room cur) (ht : Touch (fun k => k = R.cv ∨ k = R.b1 ∨ k = R.b2 ∨ k = R.b3) w w') (hm : RClk w' R.cv t R.b1 R.b2 R.b3 R.c1 R.c2 R.c3) (hn : t.n = m.clk.n) : RMachIs w' R { m with clk := t } room cur := by
  obtain ⟨_, _, _, _, q1⟩ := h.q1
  have q2 := h.q2; have q3 := h.q3; have e01 := h.e01; have e12 := h.e12; have e23 := h.e23; have v1 := h.clk.v1; have v2 := h.clk.v2; have v3 := h.clk.v3
  exact h.keep (m' := { m with clk := t }) ht (fun x hx => by omega) (h.mem.touch ht (by omega) (by omega) (fun j hj => by have := q1 j hj; omega)) hm (h.typ.touch ht (by omega) (by omega)) rfl hn
theorem RMachIs.settyp {t : TypS} (h : RMachIs w R m room cur) (ht : Touch (· = R.tg) w w') (hm : RTypIs w' R.ta R.tg R.tcap t) : RMachIs w' R { m with typ := t } room cur := by
  obtain ⟨_, _, _, _, q1⟩ := h.q1
  have q2 := h.q2; have q3 := h.q3; have e01 := h.e01; have e12 := h.e12; have e23 := h.e23; have v1 := h.clk.v1; have v2 := h.clk.v2; have v3 := h.clk.v3
  exact h.keep (m' := { m with typ := t }) ht (fun x hx => by omega) (h.mem.touch ht (by omega) (by omega) (fun j hj => by have := q1 j hj; omega)) (h.clk.touch ht (by omega) (by omega) (by omega) (by omega)) hm rfl rfl
theorem ptr_cells (h : RMachIs w R m room cur) : w.cell? ⟨R.b, 0, none⟩ = some (.pointer (some ⟨R.M.v, 0, none⟩)) ∧ w.cell? ⟨R.b, 1, none⟩ = some (.pointer (some ⟨R.cv, 0, none⟩)) ∧ w.cell? ⟨R.b, 2, none⟩ = some (.slice (some ⟨R.st, 0, none⟩) m.clk.n.toNat R.ct) ∧ w.cell? ⟨R.b, 3, none⟩ = some (.slice (some ⟨R.sr, 0, none⟩) m.clk.n.toNat R.cr) ∧
    w.cell? ⟨R.b, 4, none⟩ = some (.pointer (some ⟨R.ta, 0, none⟩)) ∧ w.cell? ⟨R.b, 5, none⟩ = some (.pointer (some ⟨R.lv, 0, none⟩)) ∧ w.cell? ⟨R.b, 6, none⟩ = some (.pointer (some ⟨R.hv, 0, none⟩)) ∧ w.cell? ⟨R.b, 7, none⟩ = some (.slice (some ⟨R.sc, 0, none⟩) m.clk.n.toNat R.cc) := by
  simp only [cell_of h.box]; exact ⟨rfl, rfl, rfl, rfl, rfl, rfl, rfl, rfl⟩
theorem RMachIs.clkAt (h : RMachIs w R m room cur) : RClkAt w R.cv m.clk := ⟨_, _, _, _, _, _, h.clk⟩
theorem RMachIs.e0lt (h : RMachIs w R m room cur) : R.tg < R.e3 ∧ R.e0 ≤ R.tg ∧ R.e0 ≤ R.cv ∧ R.e0 ≤ R.b1 ∧ R.e0 ≤ R.b2 ∧ R.e0 ≤ R.b3 ∧ R.e0 ≤ R.sc := by
  have q2 := h.q2; have q3 := h.q3; have e01 := h.e01; have e12 := h.e12; have e23 := h.e23; have v1 := h.clk.v1; have v2 := h.clk.v2; have v3 := h.clk.v3; have q4 := h.q4.2.2.1
  omega
end

/-- Is there such a core? -/
def Mach.isCore (m : Mach) (i : Int) : Bool := decide (0 ≤ i) && decide (i < m.clk.n)
theorem r25_is (R : RB) (m : Mach) (room : Int) (cur : Nat → Int) (i : Int) (w : World) (h : RMachIs w R m room cur) : Calls Tryz.prog 179 #[.pointer (some ⟨R.b, 0, none⟩), .int .i64 i] w fun e w' => e = .returned (.bool (m.isCore i)) ∧ w = w' := by
  obtain ⟨g0, g1, g2, g3, g4, g5, g6, g7⟩ := ptr_cells h
  unfold Mach.isCore
  by_cases hi : 0 ≤ i
  · by_cases h2 : i < m.clk.n
    · have h3 : i < ((m.clk.n.toNat : Nat) : Int) := by omega
      go_enter Tryz.func179, Tryz.ntmps179
      go_wp2
      go_ret
      exact ⟨ret_bool (by rw [Bool.eq_iff_iff]; simp; omega), rfl⟩
    · have h3 : ¬ i < ((m.clk.n.toNat : Nat) : Int) := by omega
      go_enter Tryz.func179, Tryz.ntmps179
      go_wp2
      go_ret
      exact ⟨ret_bool (by rw [Bool.eq_iff_iff]; simp; omega), rfl⟩
  · go_enter Tryz.func179, Tryz.ntmps179
    go_wp2
    go_ret
    exact ⟨ret_bool (by rw [Bool.eq_iff_iff]; simp; omega), rfl⟩
def Mach.setCurE (m : Mach) (i f : Int) : Int := if m.isCore i = true ∧ -1 ≤ f ∧ f < 64 then 0 else 1
def curSet (m : Mach) (cur : Nat → Int) (i f : Int) : Nat → Int := if m.setCurE i f = 0 then upd cur i.toNat f else cur
theorem RMachIs.setcur {w : World} {R : RB} {m : Mach} {room : Int} {cur : Nat → Int} (h : RMachIs w R m room cur) {k : Nat} (hk : k < m.clk.n.toNat) (f : Int) : RMachIs (w.setCell ⟨R.sc, k, none⟩ (.int .i64 f)) R m room (upd cur k f) := by
  have ht : Touch (· = R.sc) w (w.setCell ⟨R.sc, k, none⟩ (.int .i64 f)) := by (repeat' (first | (with_reducible exact Touch.refl _ _) | (with_reducible assumption) | (with_reducible refine Touch.drew ?_) | (with_reducible refine Touch.drewN ?_ _) | (with_reducible refine Touch.alloc ?_ _) | (with_reducible refine Touch.setCell ?_ _ _ _ ?_) | (with_reducible refine Touch.step (by assumption) ?_) | (with_reducible refine Touch.stepT (by assumption) ?_ ?_) | (intro _; first | rfl | trivial | omega | (simp; done) | (simp; omega)) | (intro _ _; first | omega | (simp; done) | (simp; omega))))
  have q0 := h.q0; have q2 := h.q2; have q3 := h.q3; have e01 := h.e01; have e12 := h.e12; have e23 := h.e23; have v1 := h.clk.v1; have v2 := h.clk.v2; have v3 := h.clk.v3
  obtain ⟨a1, a2, a3, a4, q1⟩ := h.q1
  obtain ⟨q4a, q4b, q4c, q4⟩ := h.q4
  obtain ⟨s1, n1⟩ := h.rT; obtain ⟨s2, n2⟩ := h.rR; obtain ⟨s3, n3⟩ := id h.rC
  have d1 := type_ne n1 n3 (by decide)
  have d2 := type_ne n2 n3 (by decide)
  refine ⟨ht.at h.box (by omega), h.mem.touch ht (by omega) (by omega) (fun j hj => by have := q1 j hj; omega), h.clk.touch ht (by omega) (by omega) (by omega) (by omega), h.typ.touch ht (by omega) (by omega), ht.at h.lvb (by omega), h.lvr.touch ht (by omega), ht.at h.hvb (by omega), h.hvr.touch ht (by omega),
    h.rT.touch ht d1, h.rR.touch ht d2, ?_, fun j hj => ht.at (h.tl j hj) (type_ne (h.tl j hj) n3 (by decide)), fun j hj => ht.at (h.fl j hj) (type_ne (h.fl j hj) n3 (by decide)), fun j hj => ?_, q0, h.q1, h.q2, h.q3, h.q4, e01, e12, e23⟩
  · rw [← ints_set]; exact h.rC.set (by rw [ints_length]; exact hk) _
  · obtain ⟨s5, n5⟩ := id (h.fr j hj)
    exact (h.fr j hj).touch ht (type_ne n5 n3 (by decide))
set_option maxHeartbeats 2000000 in
theorem r25_setcur (R : RB) (m : Mach) (room : Int) (cur : Nat → Int) (i f : Int) (w : World) (h : RMachIs w R m room cur) (ok : m.Ok) : Calls Tryz.prog 78 #[.pointer (some ⟨R.b, 0, none⟩), .int .i64 i, .int .i64 f] w fun e w' =>
    e = .returned (.int .i64 (m.setCurE i f)) ∧ RMachIs w' R m room (curSet m cur i f) ∧ Touch (fun x => R.e0 ≤ x) w w' := by
  obtain ⟨g0, g1, g2, g3, g4, g5, g6, g7⟩ := ptr_cells h
  have e0 := h.e0lt
  have n4 := ok.clk.n4
  unfold curSet
  generalize hq : m.isCore i = q
  cases q
  · have hE : m.setCurE i f = 1 := by simp [Mach.setCurE, hq]
    rw [hE, if_neg (by decide)]
    have HQ := Lib.hid hq; clear hq hE
    go_enter Tryz.func78, Tryz.ntmps78
    go_wp2_with ((go_at_call 179; (with_reducible refine (r25_is _ _ _ _ _ _ h).mono ?_); rintro e w' ⟨rfl, rfl⟩); rw [HQ.out])
    go_ret
    exact ⟨rfl, h, Touch.refl _ _⟩
  have hi : 0 ≤ i ∧ i < m.clk.n := by simpa [Mach.isCore] using hq
  have HQ := Lib.hid hq
  by_cases h1 : f < -1
  · have hE : m.setCurE i f = 1 := by simp [Mach.setCurE]; omega
    rw [hE, if_neg (by decide)]
    clear hE hq
    go_enter Tryz.func78, Tryz.ntmps78
    go_wp2_with ((go_at_call 179; (with_reducible refine (r25_is _ _ _ _ _ _ h).mono ?_); rintro e w' ⟨rfl, rfl⟩); rw [HQ.out])
    go_ret
    exact ⟨rfl, h, Touch.refl _ _⟩
  by_cases h2 : 64 ≤ f
  · have hE : m.setCurE i f = 1 := by simp [Mach.setCurE]; omega
    rw [hE, if_neg (by decide)]
    clear hE hq
    go_enter Tryz.func78, Tryz.ntmps78
    go_wp2_with ((go_at_call 179; (with_reducible refine (r25_is _ _ _ _ _ _ h).mono ?_); rintro e w' ⟨rfl, rfl⟩); rw [HQ.out])
    go_ret
    exact ⟨rfl, h, Touch.refl _ _⟩
  · have hE : m.setCurE i f = 0 := by simp [Mach.setCurE, hq]; omega
    rw [hE, if_pos rfl]
    clear hE hq
    have hk : i.toNat < m.clk.n.toNat := by omega
    have h9 : i < ((m.clk.n.toNat : Nat) : Int) := by omega
    have c0 := h.rC.at (ints_at (f := cur) hk)
    have f0 := h.rC.free
    go_enter Tryz.func78, Tryz.ntmps78
    go_wp2_with ((go_at_call 179; (with_reducible refine (r25_is _ _ _ _ _ _ h).mono ?_); rintro e w' ⟨rfl, rfl⟩); rw [HQ.out])
    go_ret
    exact ⟨rfl, h.setcur hk f, by (repeat' (first | (with_reducible exact Touch.refl _ _) | (with_reducible assumption) | (with_reducible refine Touch.drew ?_) | (with_reducible refine Touch.drewN ?_ _) | (with_reducible refine Touch.alloc ?_ _) | (with_reducible refine Touch.setCell ?_ _ _ _ ?_) | (with_reducible refine Touch.step (by assumption) ?_) | (with_reducible refine Touch.stepT (by assumption) ?_ ?_) | (intro _; first | rfl | trivial | omega | (simp; done) | (simp; omega)) | (intro _ _; first | omega | (simp; done) | (simp; omega))))⟩
theorem r4_flush (b : Nat) (room : Int) (w : World) (h : w.heap[b]? = some (.cells #[.slice none 0 0, .int .i64 room] 168 (0, 0))) : Calls Tryz.prog 178 #[.pointer (some ⟨b, 0, none⟩)] w fun e w' => e = .returned (.int .i64 0) ∧ Below w.heap.size w w' := by
  have c0 : w.cell? ⟨b, 0, none⟩ = some (.slice none 0 0) := by rw [cell_of h]; rfl
  have fz := frozen_of h
  go_enter Tryz.func178, Tryz.ntmps178
  go_wp2
  go_ret
  have hsame : (w.setCell ⟨b, 0, none⟩ (.slice none 0 0)).heap[b]? = w.heap[b]? := by rw [h]; exact heap_set h _
  refine ⟨rfl, rfl, rfl, rfl, by simp, fun k hk => ?_⟩
  by_cases e : k = b
  · subst e; exact hsame
  · exact heap_set_ne rfl _ e
set_option maxHeartbeats 2000000 in
theorem r25_flush (R : RB) (m : Mach) (room : Int) (cur : Nat → Int) (i : Int) (w : World) (h : RMachIs w R m room cur) (ok : m.Ok) : Calls Tryz.prog 76 #[.pointer (some ⟨R.b, 0, none⟩), .int .i64 i] w fun e w' =>
    e = .returned (.tuple #[.int .i64 0, .int .i64 (m.clk.can i)]) ∧ RMachIs w' R { m with clk := m.clk.flush i } room cur ∧ Touch (fun x => R.e0 ≤ x) w w' := by
  obtain ⟨g0, g1, g2, g3, g4, g5, g6, g7⟩ := ptr_cells h
  have e0 := h.e0lt
  have n4 := ok.clk.n4
  have hfn : ∀ w', RClk w' R.cv (m.clk.flush i) R.b1 R.b2 R.b3 R.c1 R.c2 R.c3 → (m.clk.flush i).n = m.clk.n := fun _ _ => by unfold Clk.flush; split <;> rfl
  rcases Clk.isB_can ok.n1 i with ⟨hI, hc⟩ | ⟨hI, hc⟩
  · obtain ⟨_, hi0, hin⟩ := Clk.can_zero hc
    have hk : i.toNat < m.clk.n.toNat := by omega
    have h9 : i < ((m.clk.n.toNat : Nat) : Int) := by omega
    rw [hc]
    have HC := Lib.hid hc; clear hc hI
    go_enter Tryz.func76, Tryz.ntmps76
    go_wp2_with (first
      | ((go_at_call 177; (with_reducible refine (r3_flushB _ _ _ _ _ _ _ _ i _ h.clk ok.clk).mono ?_); rintro e w' ⟨rfl, hc2, ht⟩); rw [HC.out]
         have h2 := h.setclk ht hc2 (hfn _ hc2)
         obtain ⟨k0, k1, k2, k3, k4, k5, k6, k7⟩ := ptr_cells h2
         have kt := h2.rT.at (ptrs_at (core := R.tb) (k := _) (by show i.toNat < _; rw [show (({ m with clk := m.clk.flush i } : Mach).clk.n) = m.clk.n from hfn _ hc2]; exact hk))
         have hn2 : (m.clk.flush i).n = m.clk.n := hfn _ hc2
         dsimp only at k2
         rw [hn2] at k2)
      | ((go_at_call 178; (with_reducible refine (r4_flush _ room _ (h2.tl i.toNat (by show _ < (m.clk.flush i).n.toNat; rw [hn2]; exact hk))).mono ?_); rintro e w' ⟨rfl, hb⟩)))
    go_ret2
    exact ⟨rfl, h2.after hb, (ht.mono (S' := fun x => R.e0 ≤ x) (fun k _ hk => by omega)).trans (Touch.of_below hb)⟩
  · rw [hc]
    have HC := Lib.hid hc; clear hc hI
    go_enter Tryz.func76, Tryz.ntmps76
    go_wp2_with ((go_at_call 177; (with_reducible refine (r3_flushB _ _ _ _ _ _ _ _ i _ h.clk ok.clk).mono ?_); rintro e w' ⟨rfl, hc2, ht⟩); rw [HC.out]; have h2 := h.setclk ht hc2 (hfn _ hc2))
    go_ret2
    exact ⟨rfl, h2, ht.mono (fun k _ hk => by omega)⟩
end Go.Proofs.YtmahledpcpdldaaGreat
