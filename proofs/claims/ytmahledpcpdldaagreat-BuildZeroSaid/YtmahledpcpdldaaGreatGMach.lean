/- Several texts in one: Mach, Mach2. -/
import Derived.Test.YtmahledpcpdldaaGreatMem2
import Derived.Test.YtmahledpcpdldaaGreatGTyp
import Derived.Test.YtmahledpcpdldaaGreatParts
import Derived.Test.YtmahledpcpdldaaGreatQuiet
/- Mach -/
set_option linter.unusedVariables false
set_option linter.unusedSimpArgs false
namespace Go.Proofs.YtmahledpcpdldaaGreat
open Go.RowKit

structure Mach where
  mem : MemS
  clk : Clk
  typ : TypS

/-- Where it lies. -/
structure MBl where
  b : Nat
  mb : Nat
  mg : Nat
  cb : Nat
  ta : Nat
  tg : Nat
  tcap : Nat
  lb : Nat
  hb : Nat
  gc : Nat
  ccap : Nat
  core : Nat → Nat
  regs : Nat → Nat
  tlb : Nat → Nat
  map : Nat → Nat
  room : Nat → Int
  cur : Nat → Int

def MBl.own (B : MBl) (x : Nat) : Prop := x = B.mg ∨ x = B.cb ∨ x = B.tg

structure MachIs (w : World) (B : MBl) (m : Mach) : Prop where
  box : w.heap[B.b]? = some (.cells #[.pointer (some ⟨B.mb, 0, none⟩), .pointer (some ⟨B.cb, 0, none⟩), .pointer (some ⟨B.ta, 0, none⟩), .pointer (some ⟨B.lb, 0, none⟩), .pointer (some ⟨B.hb, 0, none⟩), .slice (some ⟨B.gc, 0, none⟩) m.clk.n.toNat B.ccap] 102 (0, 0))
  mem : MemIs w B.mb B.mg m.mem
  clk : ClkAt w B.cb m.clk
  typ : TypIs w B.ta B.tg B.tcap m.typ
  row : ∃ arr, w.heap[B.gc]? = some (.cells arr 116 (0, 0)) ∧ ∀ k, k < m.clk.n.toNat → arr[k]? = some (.pointer (some ⟨B.core k, 0, none⟩))
  core : ∀ k, k < m.clk.n.toNat → w.heap[B.core k]? = some (.cells #[.pointer (some ⟨B.regs k, 0, none⟩), .pointer (some ⟨B.tlb k, 0, none⟩), .int .i64 (B.cur k)] 119 (0, 0))
  tlb : ∀ k, k < m.clk.n.toNat → w.heap[B.tlb k]? = some (.cells #[.map (some (B.map k)), .slice none 0 0, .int .i64 (B.room k)] 263 (0, 0))
  sb : ¬ B.own B.b
  sm : ¬ B.own B.mb
  st : ¬ B.own B.ta
  sg : ¬ B.own B.gc
  sc : ∀ k, k < m.clk.n.toNat → ¬ B.own (B.core k) ∧ ¬ B.own (B.tlb k)
  d1 : B.mg ≠ B.cb
  d2 : B.mg ≠ B.tg
  d3 : B.cb ≠ B.tg

structure Mach.Ok (m : Mach) : Prop where
  mem : m.mem.Ok
  clk : m.clk.Ok
  typ : m.typ.Ok
  n1 : 1 ≤ m.clk.n

theorem MachIs.keep {w w' : World} {B : MBl} {m m' : Mach} {S : Nat → Prop} (h : MachIs w B m) (ht : Touch S w w') (hS : ∀ x, S x → B.own x)
    (hn : m'.clk.n = m.clk.n) (hm : MemIs w' B.mb B.mg m'.mem) (hc : ClkAt w' B.cb m'.clk) (hty : TypIs w' B.ta B.tg B.tcap m'.typ) : MachIs w' B m' := by
  obtain ⟨arr, hr, hcl⟩ := h.row
  refine ⟨?_, hm, hc, hty, ⟨arr, ht.at hr (fun hs => h.sg (hS _ hs)), ?_⟩, ?_, ?_, h.sb, h.sm, h.st, h.sg, ?_, h.d1, h.d2, h.d3⟩ <;> rw [hn]
  · exact ht.at h.box (fun hs => h.sb (hS _ hs))
  · exact hcl
  · exact fun k hk => ht.at (h.core k hk) (fun hs => (h.sc k hk).1 (hS _ hs))
  · exact fun k hk => ht.at (h.tlb k hk) (fun hs => (h.sc k hk).2 (hS _ hs))
  · exact h.sc
theorem MachIs.after {w w' : World} {B : MBl} {m : Mach} (h : MachIs w B m) (hb : Below w.heap.size w w') : MachIs w' B m :=
  h.keep (Touch.of_below (S := fun _ => False) hb) (fun _ hf => hf.elim) rfl (h.mem.after hb) (h.clk.afterB hb) (h.typ.after hb)
theorem MachIs.setclk {w w' : World} {B : MBl} {m : Mach} {c : Clk} (h : MachIs w B m) (ht : Touch (· = B.cb) w w') (hc : ClkAt w' B.cb c) (hn : c.n = m.clk.n) : MachIs w' B { m with clk := c } :=
  h.keep ht (fun _ hx => .inr (.inl hx)) hn (h.mem.touch ht (fun e => h.sm (.inr (.inl e))) h.d1) hc (h.typ.touch ht (fun e => h.st (.inr (.inl e))) (fun e => h.d3 e.symm))
theorem MachIs.settyp {w w' : World} {B : MBl} {m : Mach} {t : TypS} (h : MachIs w B m) (ht : Touch (· = B.tg) w w') (hc : TypIs w' B.ta B.tg B.tcap t) : MachIs w' B { m with typ := t } :=
  h.keep ht (fun _ hx => .inr (.inr hx)) rfl (h.mem.touch ht (fun e => h.sm (.inr (.inr e))) h.d2) (h.clk.touch ht h.d3) hc
theorem MachIs.setmem {w w' : World} {B : MBl} {m : Mach} {t : MemS} (h : MachIs w B m) (ht : Touch (· = B.mg) w w') (hc : MemIs w' B.mb B.mg t) : MachIs w' B { m with mem := t } :=
  h.keep ht (fun _ hx => .inl hx) rfl hc (h.clk.touch ht (fun e => h.d1 e.symm)) (h.typ.touch ht (fun e => h.st (.inl e)) (fun e => h.d2 e.symm))

theorem MachIs.cells {w : World} {B : MBl} {m : Mach} (h : MachIs w B m) : w.cell? ⟨B.b, 0, none⟩ = some (.pointer (some ⟨B.mb, 0, none⟩)) ∧ w.cell? ⟨B.b, 1, none⟩ = some (.pointer (some ⟨B.cb, 0, none⟩)) ∧ w.cell? ⟨B.b, 2, none⟩ = some (.pointer (some ⟨B.ta, 0, none⟩)) ∧
    w.cell? ⟨B.b, 5, none⟩ = some (.slice (some ⟨B.gc, 0, none⟩) m.clk.n.toNat B.ccap) := by
  simp only [cell_of h.box]; exact ⟨rfl, rfl, rfl, rfl⟩

theorem mach_none (B : MBl) (m : Mach) (w : World) (h : MachIs w B m) : Calls Tryz.prog 106 #[.pointer (some ⟨B.b, 0, none⟩)] w fun e w' => e = .returned (.bool false) ∧ w = w' := by
  obtain ⟨c0, c1, c2, c5⟩ := h.cells
  go_enter Tryz.func106, Tryz.ntmps106
  go_wp2
  go_ret
  exact ⟨rfl, rfl⟩
theorem mach_mem (B : MBl) (m : Mach) (w : World) (h : MachIs w B m) : Calls Tryz.prog 22 #[.pointer (some ⟨B.b, 0, none⟩)] w fun e w' => e = .returned (.pointer (some ⟨B.mb, 0, none⟩)) ∧ w = w' := by
  obtain ⟨c0, c1, c2, c5⟩ := h.cells
  go_enter Tryz.func22, Tryz.ntmps22
  go_wp2_with ((go_at_call 106; (with_reducible refine (mach_none _ _ _ h).mono ?_); rintro e w' ⟨rfl, rfl⟩))
  go_ret
  exact ⟨rfl, rfl⟩
theorem mach_clock (B : MBl) (m : Mach) (w : World) (h : MachIs w B m) : Calls Tryz.prog 79 #[.pointer (some ⟨B.b, 0, none⟩)] w fun e w' => e = .returned (.pointer (some ⟨B.cb, 0, none⟩)) ∧ w = w' := by
  obtain ⟨c0, c1, c2, c5⟩ := h.cells
  go_enter Tryz.func79, Tryz.ntmps79
  go_wp2_with ((go_at_call 106; (with_reducible refine (mach_none _ _ _ h).mono ?_); rintro e w' ⟨rfl, rfl⟩))
  go_ret
  exact ⟨rfl, rfl⟩
theorem mach_typ (B : MBl) (m : Mach) (w : World) (h : MachIs w B m) : Calls Tryz.prog 84 #[.pointer (some ⟨B.b, 0, none⟩)] w fun e w' => e = .returned (.pointer (some ⟨B.ta, 0, none⟩)) ∧ w = w' := by
  obtain ⟨c0, c1, c2, c5⟩ := h.cells
  go_enter Tryz.func84, Tryz.ntmps84
  go_wp2_with ((go_at_call 106; (with_reducible refine (mach_none _ _ _ h).mono ?_); rintro e w' ⟨rfl, rfl⟩))
  go_ret
  exact ⟨rfl, rfl⟩
theorem mach_cores (B : MBl) (m : Mach) (w : World) (h : MachIs w B m) : Calls Tryz.prog 70 #[.pointer (some ⟨B.b, 0, none⟩)] w fun e w' => e = .returned (.int .i64 (max m.clk.n 0)) ∧ w = w' := by
  obtain ⟨c0, c1, c2, c5⟩ := h.cells
  go_enter Tryz.func70, Tryz.ntmps70
  go_wp2_with ((go_at_call 106; (with_reducible refine (mach_none _ _ _ h).mono ?_); rintro e w' ⟨rfl, rfl⟩))
  go_ret
  exact ⟨rfl, rfl⟩
theorem mach_now (B : MBl) (m : Mach) (w : World) (h : MachIs w B m) : Calls Tryz.prog 86 #[.pointer (some ⟨B.b, 0, none⟩)] w fun e w' => e = .returned (.int .i64 m.clk.nowOf) ∧ w = w' := by
  go_enter Tryz.func86, Tryz.ntmps86
  go_wp2_with (first
    | (go_at_call 79; (with_reducible refine (mach_clock _ _ _ h).mono ?_); rintro e w' ⟨rfl, rfl⟩)
    | (go_at_call 184; (with_reducible refine (clk_now _ _ _ h.clk).mono ?_); rintro e w' ⟨rfl, rfl⟩))
  go_ret
  exact ⟨rfl, rfl⟩
theorem mach_core (B : MBl) (m : Mach) (k : Nat) (w : World) (h : MachIs w B m) (ok : m.Ok) (hk : k < m.clk.n.toNat) : Calls Tryz.prog 105 #[.pointer (some ⟨B.b, 0, none⟩), .int .i64 k] w fun e w' => e = .returned (.pointer (some ⟨B.core k, 0, none⟩)) ∧ w = w' := by
  obtain ⟨c0, c1, c2, c5⟩ := h.cells
  obtain ⟨arr, hr, hcl⟩ := h.row
  have gk : w.cell? ⟨B.gc, k, none⟩ = some (.pointer (some ⟨B.core k, 0, none⟩)) := by rw [cell_of hr]; exact hcl k hk
  have hk2 : (k : Int) < m.clk.n := by omega
  have hk3 : ¬ (m.clk.n ≤ (k : Int)) := by omega
  have hn0 : 0 ≤ m.clk.n := ok.clk.n0
  have hn4 := ok.clk.n4
  go_enter Tryz.func105, Tryz.ntmps105
  go_wp2_with ((go_at_call 106; (with_reducible refine (mach_none _ _ _ h).mono ?_); rintro e w' ⟨rfl, rfl⟩))
  go_ret
  exact ⟨rfl, rfl⟩
theorem mach_tlb (B : MBl) (m : Mach) (k : Nat) (w : World) (h : MachIs w B m) (ok : m.Ok) (hk : k < m.clk.n.toNat) : Calls Tryz.prog 12 #[.pointer (some ⟨B.b, 0, none⟩), .int .i64 k] w fun e w' => e = .returned (.pointer (some ⟨B.tlb k, 0, none⟩)) ∧ w = w' := by
  have c1 : w.cell? ⟨B.core k, 1, none⟩ = some (.pointer (some ⟨B.tlb k, 0, none⟩)) := by rw [cell_of (h.core k hk)]; rfl
  go_enter Tryz.func12, Tryz.ntmps12
  go_wp2_with ((go_at_call 105; (with_reducible refine (mach_core _ _ _ _ h ok hk).mono ?_); rintro e w' ⟨rfl, rfl⟩))
  go_ret
  exact ⟨rfl, rfl⟩
theorem Clk.can_k {c : Clk} (h1 : 1 ≤ c.n) (k : Nat) (hk : k < c.n.toNat) : c.can k = 0 := by
  unfold Clk.can; rw [if_neg (by omega), if_neg (by omega), if_neg (by omega)]
theorem mach_flush (B : MBl) (m : Mach) (k : Nat) (w : World) (h : MachIs w B m) (ok : m.Ok) (hk : k < m.clk.n.toNat) : Calls Tryz.prog 75 #[.pointer (some ⟨B.b, 0, none⟩), .int .i64 k] w fun e w' =>
    e = .returned (.tuple #[.int .i64 0, .int .i64 0]) ∧ MachIs w' B { m with clk := m.clk.flush k } ∧ Touch (fun x => B.own x) w w' := by
  obtain ⟨c0, c1, c2, c5⟩ := h.cells
  have hcan := Clk.can_k ok.n1 k hk
  have HC := Lib.hid hcan
  clear hcan
  have okf : ({ m with clk := m.clk.flush k } : Mach).Ok := ⟨ok.mem, Clk.flush_ok ok.clk k, ok.typ, by show 1 ≤ (m.clk.flush k).n; rw [Clk.flush_n]; exact ok.n1⟩
  have hkf : k < (m.clk.flush k).n.toNat := by rw [Clk.flush_n]; exact hk
  go_enter Tryz.func75, Tryz.ntmps75
  go_wp2_with (first
    | (go_at_call 106; (with_reducible refine (mach_none _ _ _ h).mono ?_); rintro e w' ⟨rfl, rfl⟩)
    | ((go_at_call 175; (with_reducible refine (clk_flush _ _ _ _ h.clk ok.clk).mono ?_); rintro e w' ⟨rfl, hc2, ht2⟩); rw [HC.out]; have h2 := h.setclk ht2 hc2 (Clk.flush_n _ _))
    | (go_at_call 12; (with_reducible refine (mach_tlb _ _ _ _ h2 okf hkf).mono ?_); rintro e w' ⟨rfl, rfl⟩)
    | ((go_at_call 176; (with_reducible refine (tlb_flush0 _ _ _ _ (h2.tlb k hkf)).mono ?_); rintro e w' ⟨rfl, hb3⟩); have h3 := h2.after hb3))
  go_ret2
  exact ⟨rfl, h3, (ht2.mono (fun x _ hx => .inr (.inl hx))).trans (Touch.of_below hb3)⟩
end Go.Proofs.YtmahledpcpdldaaGreat
/- Mach2 -/
set_option linter.unusedVariables false
set_option linter.unusedSimpArgs false
namespace Go.Proofs.YtmahledpcpdldaaGreat
open Go.RowKit

def Mach.seen (m : Mach) (f : Int) : Bool := m.clk.quiet (m.typ.was f) (m.typ.freed f)
def Mach.retypeE (m : Mach) (f kd : Int) : Int := if m.typ.retypeE f kd (m.seen f) = 0 then m.mem.can f 0 else m.typ.retypeE f kd (m.seen f)
def Mach.retype (m : Mach) (f kd : Int) : Mach :=
  if m.typ.retypeE f kd (m.seen f) = 0 then { m with typ := m.typ.retype f kd (m.seen f), mem := m.mem.clear f } else m

set_option maxHeartbeats 1000000 in
theorem mach_retype (B : MBl) (m : Mach) (f kd : Int) (w : World) (h : MachIs w B m) (ok : m.Ok) (hf : (Lit.int .i64 f).wf = true) : Calls Tryz.prog 16 #[.pointer (some ⟨B.b, 0, none⟩), .int .i64 f, .int .i64 kd] w fun e w' =>
    e = .returned (.int .i64 (m.retypeE f kd)) ∧ MachIs w' B (m.retype f kd) ∧ Touch (fun x => B.own x) w w' := by
  obtain ⟨c0, c1, c2, c5⟩ := h.cells
  have hlb : B.b < w.heap.size := lt_of_block h.box
  unfold Mach.retypeE Mach.retype
  by_cases he : m.typ.retypeE f kd (m.seen f) = 0
  · rw [if_pos he, if_pos he]
    have HE := Lib.hid he; clear he
    go_enter Tryz.func16, Tryz.ntmps16
    go_upto_region 3 with ((go_at_call 106; (with_reducible refine (mach_none _ _ _ h).mono ?_); rintro e w' ⟨rfl, rfl⟩))
    (refine wp_region_calm (by kernel_rfl) (by kernel_rfl) ?_; (repeat (go_big_quiet_step ((first
          | (go_at_call 99; first | (with_reducible refine Calls.calm_of (typ_was _ _ _ _ _ _ (h.typ.after (After.h _)) ok.typ)) | (with_reducible refine Calls.calm_of_same (typ_was _ _ _ _ _ _ (h.typ.after (After.h _)) ok.typ)))
          | (go_at_call 98; first | (with_reducible refine Calls.calm_of (typ_freed _ _ _ _ _ _ (h.typ.after (After.h _)) ok.typ)) | (with_reducible refine Calls.calm_of_same (typ_freed _ _ _ _ _ _ (h.typ.after (After.h _)) ok.typ)))
          | (go_at_call 107; first | (with_reducible refine Calls.calm_of (q_for _ _ _ _ _ (h.clk.afterB (After.h _)) ok.clk)) | (with_reducible refine Calls.calm_of_same (q_for _ _ _ _ _ (h.clk.afterB (After.h _)) ok.clk))))))); refine wpQuiet_nil ?_; intro _ hw'; obtain ⟨wq, hw''⟩ := hw'; subst hw''; obtain ⟨wq, hbq⟩ := wq; try dsimp only at *)
    have h3 := h.after hbq
    obtain ⟨c0, c1, c2, c5⟩ := h3.cells
    go_wp2_with (first
      | ((go_at_call 108; (with_reducible refine (typ_retype _ _ _ _ _ _ _ _ h3.typ ok.typ).mono ?_); rintro e w' ⟨rfl, ht4, hx4⟩); rw [show m.clk.quiet (m.typ.was f) (m.typ.freed f) = m.seen f from rfl] at ht4; rw [show m.clk.quiet (m.typ.was f) (m.typ.freed f) = m.seen f from rfl, HE.out]; have h4 := h3.settyp hx4 ht4; obtain ⟨c0, c1, c2, c5⟩ := h4.cells)
      | ((go_at_call 109; (with_reducible refine (mem_clear _ _ _ _ _ h4.mem ok.mem).mono ?_); rintro e w' ⟨rfl, hm5, hx5⟩); have h5 := h4.setmem hx5 hm5))
    go_ret
    refine ⟨rfl, h5, ?_⟩
    have t1 : Touch (fun x => B.own x) w _ := Touch.of_below hbq
    have t2 := t1.trans (hx4.mono (fun x _ hx => .inr (.inr hx)))
    exact t2.trans (hx5.mono (fun x _ hx => .inl hx))
  · rw [if_neg he, if_neg he]
    have HE := Lib.hid he
    go_enter Tryz.func16, Tryz.ntmps16
    go_upto_region 3 with ((go_at_call 106; (with_reducible refine (mach_none _ _ _ h).mono ?_); rintro e w' ⟨rfl, rfl⟩))
    (refine wp_region_calm (by kernel_rfl) (by kernel_rfl) ?_; (repeat (go_big_quiet_step ((first
          | (go_at_call 99; first | (with_reducible refine Calls.calm_of (typ_was _ _ _ _ _ _ (h.typ.after (After.h _)) ok.typ)) | (with_reducible refine Calls.calm_of_same (typ_was _ _ _ _ _ _ (h.typ.after (After.h _)) ok.typ)))
          | (go_at_call 98; first | (with_reducible refine Calls.calm_of (typ_freed _ _ _ _ _ _ (h.typ.after (After.h _)) ok.typ)) | (with_reducible refine Calls.calm_of_same (typ_freed _ _ _ _ _ _ (h.typ.after (After.h _)) ok.typ)))
          | (go_at_call 107; first | (with_reducible refine Calls.calm_of (q_for _ _ _ _ _ (h.clk.afterB (After.h _)) ok.clk)) | (with_reducible refine Calls.calm_of_same (q_for _ _ _ _ _ (h.clk.afterB (After.h _)) ok.clk))))))); refine wpQuiet_nil ?_; intro _ hw'; obtain ⟨wq, hw''⟩ := hw'; subst hw''; obtain ⟨wq, hbq⟩ := wq; try dsimp only at *)
    have h3 := h.after hbq
    obtain ⟨c0, c1, c2, c5⟩ := h3.cells
    go_wp2_with (first
      | ((go_at_call 108; (with_reducible refine (typ_retype _ _ _ _ _ _ _ _ h3.typ ok.typ).mono ?_); rintro e w' ⟨rfl, ht4, hx4⟩); rw [show m.clk.quiet (m.typ.was f) (m.typ.freed f) = m.seen f from rfl] at ht4; rw [show m.clk.quiet (m.typ.was f) (m.typ.freed f) = m.seen f from rfl]; rw [TypS.retype, if_neg HE.out] at ht4; have h4 := h3.settyp hx4 ht4))
    go_ret
    refine ⟨rfl, h4, ?_⟩
    have t1 : Touch (fun x => B.own x) w _ := Touch.of_below hbq
    exact t1.trans (hx4.mono (fun x _ hx => .inr (.inr hx)))
end Go.Proofs.YtmahledpcpdldaaGreat
