/- Several texts in one: MachX, Both, Check. -/
import Derived.Test.YtmahledpcpdldaaGreatR25
import Derived.Test.YtmahledpcpdldaaGreatGNeed
import Derived.Test.YtmahledpcpdldaaGreatR25b
import Derived.Test.YtmahledpcpdldaaGreatLive
import Derived.Test.YtmahledpcpdldaaGreatGSeen
import Derived.Test.YtmahledpcpdldaaGreatR25c
/- MachX -/
set_option linter.unusedVariables false
set_option linter.unusedSimpArgs false
namespace Go.Proofs.YtmahledpcpdldaaGreat
open Go.RowKit
structure MachX (w : World) (B : MBl) (m : Mach) : Prop where
  mach : MachIs w B m
  live : LiveIs w B.lb (B.lb - 1) LiveS.zero
  lnb : w.heap[B.hb]? = some (.cells #[.map (some (B.hb - 1))] 246 (0, 0))
  lnm : w.heap[B.hb - 1]? = some (.map #[] 0)
  regs : ∀ k, k < m.clk.n.toNat → w.heap[B.regs k]? = some (.cells regs0 267 (0, 0))
  inj : ∀ i j, i < m.clk.n.toNat → j < m.clk.n.toNat → B.core i = B.core j → i = j
/-- All its blocks lie below x. -/
structure BLt (B : MBl) (n x : Nat) : Prop where
  b : B.b < x
  mb : B.mb < x
  mg : B.mg < x
  cb : B.cb < x
  ta : B.ta < x
  tg : B.tg < x
  lb : B.lb < x
  hb : B.hb < x
  gc : B.gc < x
  core : ∀ k, k < n → B.core k < x ∧ B.regs k < x ∧ B.tlb k < x
section
variable {w w' : World} {B : MBl} {m m' : Mach} {S : Nat → Prop}
theorem MachIs.own_obj (h : MachIs w B m) {x : Nat} (hx : B.own x) : ∃ arr T, w.heap[x]? = some (.cells arr T (0, 0)) ∧ (T = 279 ∨ T = 254 ∨ T = 259) := by
  rcases hx with rfl | rfl | rfl
  · obtain ⟨arr, hr, _⟩ := h.mem.row; exact ⟨_, _, hr, .inl rfl⟩
  · exact ⟨_, _, h.clk, .inr (.inl rfl)⟩
  · obtain ⟨arr, hr, _⟩ := h.typ.row; exact ⟨_, _, hr, .inr (.inr rfl)⟩
theorem MachIs.notown (h : MachIs w B m) {x : Nat} {arr : Array Value} {T : TypeId} (hx : w.heap[x]? = some (.cells arr T (0, 0))) (hn : T ≠ 279 ∧ T ≠ 254 ∧ T ≠ 259) : ¬ B.own x := fun ho => by
  obtain ⟨ar, U, hy, hU⟩ := h.own_obj ho
  rw [hx] at hy; injection hy with hy; injection hy with _ hy
  subst hy
  rcases hU with hU | hU | hU
  · exact hn.1 hU
  · exact hn.2.1 hU
  · exact hn.2.2 hU
theorem MachX.own (h : MachX w B m) (hm : MachIs w' B m') (ht : Touch (fun x => B.own x) w w') (hn : m'.clk.n = m.clk.n) : MachX w' B m' := by
  obtain ⟨ar, hr, _⟩ := id h.live.row
  refine ⟨hm, h.live.touch ht (h.mach.notown h.live.box (by decide)) (h.mach.notown hr (by decide)), ht.at h.lnb (h.mach.notown h.lnb (by decide)), ht.at h.lnm (fun ho => ?_), ?_, ?_⟩
  · obtain ⟨ar, U, hy, hU⟩ := h.mach.own_obj ho
    rw [h.lnm] at hy; cases hy
  · rw [hn]; exact fun k hk => ht.at (h.regs k hk) (h.mach.notown (h.regs k hk) (by decide))
  · rw [hn]; exact h.inj
theorem MachX.after (h : MachX w B m) (hb : Below w.heap.size w w') : MachX w' B m := h.own (h.mach.after hb) (Touch.of_below hb) rfl
theorem MachX.lts (h : MachX w B m) : BLt B m.clk.n.toNat w.heap.size := by
  obtain ⟨ar, hr, _⟩ := id h.mach.row
  exact ⟨lt_of_block h.mach.box, h.mach.mem.lta, h.mach.mem.ltg, lt_of_block h.mach.clk, h.mach.typ.lta, h.mach.typ.ltg, h.live.lta, lt_of_block h.lnb, lt_of_block hr, fun k hk => ⟨lt_of_block (h.mach.core k hk), lt_of_block (h.regs k hk), lt_of_block (h.mach.tlb k hk)⟩⟩
theorem MachX.touchR (h : MachX w B m) {e : Nat} (hl : BLt B m.clk.n.toNat e) (ht : Touch (fun x => e ≤ x) w w') : MachX w' B m := by
  have no : ∀ x, x < e → ¬ e ≤ x := fun x hx => by omega
  obtain ⟨ar, hr, hc⟩ := h.mach.row
  have hlb := hl.lb; have hhb := hl.hb
  exact ⟨⟨ht.at h.mach.box (no _ hl.b), h.mach.mem.touch ht (no _ hl.mb) (no _ hl.mg), h.mach.clk.touch ht (no _ hl.cb), h.mach.typ.touch ht (no _ hl.ta) (no _ hl.tg), ⟨ar, ht.at hr (no _ hl.gc), hc⟩,
    fun k hk => ht.at (h.mach.core k hk) (no _ (hl.core k hk).1), fun k hk => ht.at (h.mach.tlb k hk) (no _ (hl.core k hk).2.2), h.mach.sb, h.mach.sm, h.mach.st, h.mach.sg, h.mach.sc, h.mach.d1, h.mach.d2, h.mach.d3⟩,
    h.live.touch ht (no _ hl.lb) (no _ (by omega)), ht.at h.lnb (no _ hl.hb), ht.at h.lnm (no _ (by omega)), fun k hk => ht.at (h.regs k hk) (no _ (hl.core k hk).2.1), h.inj⟩
theorem MachX.setcur (h : MachX w B m) {k : Nat} (hk : k < m.clk.n.toNat) (f : Int) : MachX (w.setCell ⟨B.core k, 2, none⟩ (.int .i64 f)) { B with cur := upd B.cur k f } m := by
  have ht : Touch (· = B.core k) w (w.setCell ⟨B.core k, 2, none⟩ (.int .i64 f)) := by (repeat' (first | (with_reducible exact Touch.refl _ _) | (with_reducible assumption) | (with_reducible refine Touch.drew ?_) | (with_reducible refine Touch.drewN ?_ _) | (with_reducible refine Touch.alloc ?_ _) | (with_reducible refine Touch.setCell ?_ _ _ _ ?_) | (with_reducible refine Touch.step (by assumption) ?_) | (with_reducible refine Touch.stepT (by assumption) ?_ ?_) | (intro _; first | rfl | trivial | omega | (simp; done) | (simp; omega)) | (intro _ _; first | omega | (simp; done) | (simp; omega))))
  have hc := h.mach.core k hk
  have ne : ∀ {x : Nat} {arr : Array Value} {T : TypeId}, w.heap[x]? = some (.cells arr T (0, 0)) → T ≠ 119 → ¬ x = B.core k := fun hx hn => type_ne hx hc hn
  obtain ⟨ar, hr, hcl⟩ := h.mach.row
  obtain ⟨a1, r1, _⟩ := id h.mach.mem.row
  obtain ⟨a2, r2, _⟩ := id h.mach.typ.row
  obtain ⟨a3, r3, _⟩ := id h.live.row
  refine ⟨⟨ht.at h.mach.box (ne h.mach.box (by decide)), h.mach.mem.touch ht (ne h.mach.mem.box (by decide)) (ne r1 (by decide)), h.mach.clk.touch ht (ne h.mach.clk (by decide)), h.mach.typ.touch ht (ne h.mach.typ.box (by decide)) (ne r2 (by decide)), ⟨ar, ht.at hr (ne hr (by decide)), hcl⟩,
    fun j hj => ?_, fun j hj => ht.at (h.mach.tlb j hj) (ne (h.mach.tlb j hj) (by decide)), h.mach.sb, h.mach.sm, h.mach.st, h.mach.sg, h.mach.sc, h.mach.d1, h.mach.d2, h.mach.d3⟩,
    h.live.touch ht (ne h.live.box (by decide)) (ne r3 (by decide)), ht.at h.lnb (ne h.lnb (by decide)), ht.at h.lnm (show B.hb - 1 ≠ B.core k from fun e => by have h1 := h.lnm; rw [e, hc] at h1; cases h1), fun j hj => ht.at (h.regs j hj) (ne (h.regs j hj) (by decide)), h.inj⟩
  show _ = some (Obj.cells #[_, _, .int .i64 (upd B.cur k f j)] _ _)
  by_cases e : j = k
  · subst e; rw [upd_same]; exact heap_set hc _
  · rw [upd_ne _ _ _ _ e]; exact ht.at (h.mach.core j hj) (fun e2 => e (h.inj _ _ hj hk e2))
end

theorem mach_newXX (F C : Nat) (p r : Int) (w : World) (ok : CfgOk F C p r) : Calls Tryz.prog 6 #[.agg #[.int .i64 F, .int .i64 C, .int .i64 p, .int .i64 r]] w fun e w' => ∃ B : MBl,
    e = .returned (.tuple #[.pointer (some ⟨B.b, 0, none⟩), .int .i64 0]) ∧ MachX w' B ⟨⟨F, fun _ _ => 0⟩, Clk.new C, TypS.new F⟩ ∧ (∀ x, B.own x → w.heap.size ≤ x) ∧ Below w.heap.size w w' ∧ (∀ k, B.cur k = -1) ∧ (∀ k, k < C → w.heap.size ≤ B.core k) := by
  refine (mach_newX F C p r w ok).mono fun e w' ⟨B, h1, h2, h3, h4, h5, ⟨l1, l2, l3, _, _⟩, ⟨n1, n2⟩, hr, hi, hco⟩ => ?_
  have hCn : (Clk.new C).n.toNat = C := by simp [Clk.new]
  exact ⟨B, h1, ⟨h2, LiveIs.new l1 l2 (by omega), n1, n2, by rw [hCn]; exact hr, by rw [hCn]; exact hi⟩, h3, h4, h5, hco⟩
def curB (m : Mach) (B : MBl) (i f : Int) : MBl := { B with cur := curSet m B.cur i f }
theorem curB_no {m : Mach} {B : MBl} {i f : Int} (h : m.setCurE i f ≠ 0) : curB m B i f = B := by unfold curB curSet; rw [if_neg h]
theorem curB_yes {m : Mach} {B : MBl} {i f : Int} (h : m.setCurE i f = 0) : curB m B i f = { B with cur := upd B.cur i.toNat f } := by unfold curB curSet; rw [if_pos h]
theorem mach_core_no (B : MBl) (m : Mach) (i : Int) (w : World) (h : MachIs w B m) (ok : m.Ok) (hi : m.isCore i = false) : Calls Tryz.prog 105 #[.pointer (some ⟨B.b, 0, none⟩), .int .i64 i] w fun e w' => e = .returned (.pointer none) ∧ w = w' := by
  obtain ⟨c0, c1, c2, c5⟩ := h.cells
  have hn0 : 0 ≤ m.clk.n := ok.clk.n0
  by_cases h0 : i < 0
  · clear hi
    go_enter Tryz.func105, Tryz.ntmps105
    go_wp2_with ((go_at_call 106; (with_reducible refine (mach_none _ _ _ h).mono ?_); rintro e w' ⟨rfl, rfl⟩))
    go_ret
    exact ⟨rfl, rfl⟩
  · have h1 : m.clk.n ≤ i := by simp [Mach.isCore] at hi; omega
    clear hi
    go_enter Tryz.func105, Tryz.ntmps105
    go_wp2_with ((go_at_call 106; (with_reducible refine (mach_none _ _ _ h).mono ?_); rintro e w' ⟨rfl, rfl⟩))
    go_ret
    exact ⟨rfl, rfl⟩
theorem mach_tlb_no (B : MBl) (m : Mach) (i : Int) (w : World) (h : MachIs w B m) (ok : m.Ok) (hi : m.isCore i = false) : Calls Tryz.prog 12 #[.pointer (some ⟨B.b, 0, none⟩), .int .i64 i] w fun e w' => e = .returned (.pointer none) ∧ w = w' := by
  go_enter Tryz.func12, Tryz.ntmps12
  go_wp2_with ((go_at_call 105; (with_reducible refine (mach_core_no _ _ _ _ h ok hi).mono ?_); rintro e w' ⟨rfl, rfl⟩))
  go_ret
  exact ⟨rfl, rfl⟩
theorem mach_regs_no (B : MBl) (m : Mach) (i : Int) (w : World) (h : MachIs w B m) (ok : m.Ok) (hi : m.isCore i = false) : Calls Tryz.prog 13 #[.pointer (some ⟨B.b, 0, none⟩), .int .i64 i] w fun e w' => e = .returned (.pointer none) ∧ w = w' := by
  go_enter Tryz.func13, Tryz.ntmps13
  go_wp2_with ((go_at_call 105; (with_reducible refine (mach_core_no _ _ _ _ h ok hi).mono ?_); rintro e w' ⟨rfl, rfl⟩))
  go_ret
  exact ⟨rfl, rfl⟩
theorem mach_cur_no (B : MBl) (m : Mach) (i : Int) (w : World) (h : MachIs w B m) (ok : m.Ok) (hi : m.isCore i = false) : Calls Tryz.prog 14 #[.pointer (some ⟨B.b, 0, none⟩), .int .i64 i] w fun e w' => e = .returned (.int .i64 (-1)) ∧ w = w' := by
  go_enter Tryz.func14, Tryz.ntmps14
  go_wp2_with ((go_at_call 105; (with_reducible refine (mach_core_no _ _ _ _ h ok hi).mono ?_); rintro e w' ⟨rfl, rfl⟩))
  go_ret
  exact ⟨rfl, rfl⟩
theorem mach_regs (B : MBl) (m : Mach) (k : Nat) (w : World) (h : MachIs w B m) (ok : m.Ok) (hk : k < m.clk.n.toNat) : Calls Tryz.prog 13 #[.pointer (some ⟨B.b, 0, none⟩), .int .i64 k] w fun e w' => e = .returned (.pointer (some ⟨B.regs k, 0, none⟩)) ∧ w = w' := by
  have c1 : w.cell? ⟨B.core k, 0, none⟩ = some (.pointer (some ⟨B.regs k, 0, none⟩)) := by rw [cell_of (h.core k hk)]; rfl
  go_enter Tryz.func13, Tryz.ntmps13
  go_wp2_with ((go_at_call 105; (with_reducible refine (mach_core _ _ _ _ h ok hk).mono ?_); rintro e w' ⟨rfl, rfl⟩))
  go_ret
  exact ⟨rfl, rfl⟩
theorem mach_lines (B : MBl) (m : Mach) (w : World) (h : MachIs w B m) : Calls Tryz.prog 100 #[.pointer (some ⟨B.b, 0, none⟩)] w fun e w' => e = .returned (.pointer (some ⟨B.hb, 0, none⟩)) ∧ w = w' := by
  have c4 : w.cell? ⟨B.b, 4, none⟩ = some (.pointer (some ⟨B.hb, 0, none⟩)) := by rw [cell_of h.box]; rfl
  go_enter Tryz.func100, Tryz.ntmps100
  go_wp2_with ((go_at_call 106; (with_reducible refine (mach_none _ _ _ h).mono ?_); rintro e w' ⟨rfl, rfl⟩))
  go_ret
  exact ⟨rfl, rfl⟩
theorem mach_floors (B : MBl) (m : Mach) (w : World) (h : MachIs w B m) (ok : m.Ok) : Calls Tryz.prog 93 #[.pointer (some ⟨B.b, 0, none⟩)] w fun e w' => e = .returned (.tuple #[.int .i64 m.clk.floorE, .int .i64 m.clk.floorF]) ∧ Below w.heap.size w w' := by
  obtain ⟨c0, c1, c2, c5⟩ := h.cells
  go_enter Tryz.func93, Tryz.ntmps93
  go_wp2_with (first
    | ((go_at_call 106; (with_reducible refine (mach_none _ _ _ h).mono ?_); rintro e w' ⟨rfl, rfl⟩))
    | ((go_at_call 190; (with_reducible refine (clk_floor _ _ _ h.clk ok.clk).mono ?_); rintro e w' ⟨rfl, hb⟩)))
  go_ret2
  first | exact ⟨rfl, hb⟩ | exact ⟨rfl, Below.refl _ _⟩
set_option maxHeartbeats 2000000 in
theorem mach_setcur (B : MBl) (m : Mach) (i f : Int) (w : World) (h : MachX w B m) (ok : m.Ok) : Calls Tryz.prog 77 #[.pointer (some ⟨B.b, 0, none⟩), .int .i64 i, .int .i64 f] w fun e w' =>
    e = .returned (.int .i64 (m.setCurE i f)) ∧ MachX w' (curB m B i f) m ∧ Touch (fun x => ∃ k, k < m.clk.n.toNat ∧ x = B.core k) w w' := by
  generalize hq : m.isCore i = q
  cases q
  · have hE : m.setCurE i f = 1 := by simp [Mach.setCurE, hq]
    rw [curB_no (by omega), hE]
    clear hE
    go_enter Tryz.func77, Tryz.ntmps77
    go_wp2_with (first
      | ((go_at_call 105; (with_reducible refine (mach_core_no _ _ _ _ h.mach ok hq).mono ?_); rintro e w' ⟨rfl, rfl⟩))
      | ((go_at_call 106; (with_reducible refine (mach_none _ _ _ h.mach).mono ?_); rintro e w' ⟨rfl, rfl⟩)))
    go_ret
    exact ⟨rfl, h, Touch.refl _ _⟩
  have hi : 0 ≤ i ∧ i < m.clk.n := by simpa [Mach.isCore] using hq
  have hk : i.toNat < m.clk.n.toNat := by omega
  obtain ⟨k, rfl⟩ : ∃ k : Nat, i = k := ⟨i.toNat, by omega⟩
  have hk : k < m.clk.n.toNat := by omega
  by_cases hf : -1 ≤ f ∧ f < 64
  · have hE : m.setCurE k f = 0 := by simp [Mach.setCurE, hq]; omega
    rw [curB_yes hE, hE]
    have e1 : (decide (-1 ≤ f) && decide (f ≤ 63)) = true := by simp; omega
    have E1 := Lib.hid e1
    clear hE e1 hq
    have hcc := h.mach.core k hk
    have cc := cell_of hcc 2
    have cf := frozen_of hcc
    dsimp at cc
    have hset := h.setcur hk f
    rw [show ((k : Int)).toNat = k from rfl]
    go_enter Tryz.func77, Tryz.ntmps77
    go_wp2_with (first
      | ((go_at_call 105; (with_reducible refine (mach_core _ _ _ _ h.mach ok hk).mono ?_); rintro e w' ⟨rfl, rfl⟩))
      | ((go_at_call 106; (with_reducible refine (mach_none _ _ _ h.mach).mono ?_); rintro e w' ⟨rfl, rfl⟩))
      | ((go_at_call 69; (with_reducible refine (mach_in f _ _ _).mono ?_); rintro e w' ⟨rfl, rfl⟩); rw [E1.out]))
    go_ret
    exact ⟨rfl, hset, Touch.setCell (Touch.refl _ _) _ _ _ (fun _ => ⟨k, hk, rfl⟩)⟩
  · have hE : m.setCurE k f = 1 := by simp [Mach.setCurE, hq]; omega
    rw [curB_no (by omega), hE]
    have e1 : (decide (-1 ≤ f) && decide (f ≤ 63)) = false := by simp; omega
    have E1 := Lib.hid e1
    clear hE e1 hq hf
    go_enter Tryz.func77, Tryz.ntmps77
    go_wp2_with (first
      | ((go_at_call 105; (with_reducible refine (mach_core _ _ _ _ h.mach ok hk).mono ?_); rintro e w' ⟨rfl, rfl⟩))
      | ((go_at_call 106; (with_reducible refine (mach_none _ _ _ h.mach).mono ?_); rintro e w' ⟨rfl, rfl⟩))
      | ((go_at_call 69; (with_reducible refine (mach_in f _ _ _).mono ?_); rintro e w' ⟨rfl, rfl⟩); rw [E1.out]))
    go_ret
    exact ⟨rfl, h, Touch.refl _ _⟩
theorem mach_flushX (B : MBl) (m : Mach) (i : Int) (w : World) (h : MachIs w B m) (ok : m.Ok) : Calls Tryz.prog 75 #[.pointer (some ⟨B.b, 0, none⟩), .int .i64 i] w fun e w' =>
    e = .returned (.tuple #[.int .i64 0, .int .i64 (m.clk.can i)]) ∧ MachIs w' B { m with clk := m.clk.flush i } ∧ Touch (fun x => B.own x) w w' := by
  rcases Clk.isB_can ok.n1 i with ⟨hI, hc⟩ | ⟨hI, hc⟩
  · obtain ⟨_, hi0, hin⟩ := Clk.can_zero hc
    obtain ⟨k, rfl⟩ : ∃ k : Nat, i = k := ⟨i.toNat, by omega⟩
    rw [hc]
    exact mach_flush B m k w h ok (by omega)
  · obtain ⟨c0, c1, c2, c5⟩ := h.cells
    rw [hc]
    have HC := Lib.hid hc
    clear hc hI
    go_enter Tryz.func75, Tryz.ntmps75
    go_wp2_with (first
      | (go_at_call 106; (with_reducible refine (mach_none _ _ _ h).mono ?_); rintro e w' ⟨rfl, rfl⟩)
      | ((go_at_call 175; (with_reducible refine (clk_flush _ _ _ _ h.clk ok.clk).mono ?_); rintro e w' ⟨rfl, hc2, ht2⟩); rw [HC.out]; have h2 := h.setclk ht2 hc2 (Clk.flush_n _ _)))
    go_ret2
    exact ⟨rfl, h2, ht2.mono (fun x _ hx => .inr (.inl hx))⟩
end Go.Proofs.YtmahledpcpdldaaGreat
/- Both -/
set_option linter.unusedVariables false
set_option linter.unusedSimpArgs false
namespace Go.Proofs.YtmahledpcpdldaaGreat
open Go.RowKit
section
variable {w w1 w' : World} {B B' : MBl} {R : RB} {m m' : Mach} {room : Int} {cur : Nat → Int} {S : Nat → Prop} {x lo : Nat}
/-- What happens below all of its blocks changes nothing of the reference. -/
theorem RMachIs.low (h : RMachIs w R m room cur) (hf : R.From x) (ht : Touch S w w') (hS : ∀ y, S y → y < x) : RMachIs w' R m room cur := by
  have no : ∀ y, x ≤ y → ¬ S y := fun y hy hs => by have := hS y hs; omega
  have q0 := h.q0; have q2 := h.q2; have q3 := h.q3; have e01 := h.e01; have e12 := h.e12; have e23 := h.e23; have v1 := h.clk.v1; have v2 := h.clk.v2; have v3 := h.clk.v3
  obtain ⟨a1, a2, a3, a4, q1⟩ := h.q1
  obtain ⟨q4a, q4b, q4c, q4⟩ := h.q4
  have fe := hf.e
  obtain ⟨l1, l2, l3, l4⟩ := hf.l
  exact ⟨ht.at h.box (no _ hf.b), h.mem.touch ht (no _ (by omega)) (no _ (by omega)) (fun j hj => no _ (by have := q1 j hj; omega)), h.clk.touch ht (no _ (by omega)) (no _ (by omega)) (no _ (by omega)) (no _ (by omega)),
    h.typ.touch ht (no _ (by omega)) (no _ (by omega)), ht.at h.lvb (no _ l1), h.lvr.touch ht (no _ l2), ht.at h.hvb (no _ l3), h.hvr.touch ht (no _ l4), h.rT.touch ht (no _ (by omega)), h.rR.touch ht (no _ (by omega)), h.rC.touch ht (no _ (by omega)),
    fun j hj => ht.at (h.tl j hj) (no _ (by have := q4 j hj; omega)), fun j hj => ht.at (h.fl j hj) (no _ (by have := q4 j hj; omega)), fun j hj => (h.fr j hj).touch ht (no _ (by have := q4 j hj; omega)), h.q0, h.q1, h.q2, h.q3, h.q4, e01, e12, e23⟩
theorem BLt.mono {n y : Nat} (h : BLt B n x) (hxy : x ≤ y) : BLt B n y :=
  ⟨Nat.lt_of_lt_of_le h.b hxy, Nat.lt_of_lt_of_le h.mb hxy, Nat.lt_of_lt_of_le h.mg hxy, Nat.lt_of_lt_of_le h.cb hxy, Nat.lt_of_lt_of_le h.ta hxy, Nat.lt_of_lt_of_le h.tg hxy, Nat.lt_of_lt_of_le h.lb hxy, Nat.lt_of_lt_of_le h.hb hxy, Nat.lt_of_lt_of_le h.gc hxy,
    fun k hk => ⟨Nat.lt_of_lt_of_le (h.core k hk).1 hxy, Nat.lt_of_lt_of_le (h.core k hk).2.1 hxy, Nat.lt_of_lt_of_le (h.core k hk).2.2 hxy⟩⟩
/-- Both hold the same; the program's blocks lie below x, the reference's from x on; what is written lies from lo on. -/
structure Both (w : World) (B : MBl) (R : RB) (m : Mach) (room : Int) (x lo : Nat) : Prop where
  p : MachX w B m
  r : RMachIs w R m room B.cur
  ok : m.Ok
  lt : BLt B m.clk.n.toNat x
  fr : R.From x
  lo1 : ∀ y, B.own y → lo ≤ y
  lo2 : ∀ k, k < m.clk.n.toNat → lo ≤ B.core k
  lo3 : lo ≤ R.e0
/-- What the program's acts write. -/
def MBl.wr (B : MBl) (n : Nat) (y : Nat) : Prop := B.own y ∨ ∃ k, k < n ∧ y = B.core k
theorem Both.after (h : Both w B R m room x lo) (hb : Below w.heap.size w w') : Both w' B R m room x lo :=
  ⟨h.p.after hb, h.r.after hb, h.ok, h.lt, h.fr, h.lo1, h.lo2, h.lo3⟩
theorem Both.wlt (h : Both w B R m room x lo) : ∀ y, B.wr m.clk.n.toNat y → y < x := by
  rintro y ((rfl | rfl | rfl) | ⟨k, hk, rfl⟩)
  · exact h.lt.mg
  · exact h.lt.cb
  · exact h.lt.tg
  · exact (h.lt.core k hk).1
theorem Both.wlo (h : Both w B R m room x lo) : ∀ y, B.wr m.clk.n.toNat y → lo ≤ y := by
  rintro y (hy | ⟨k, hk, rfl⟩)
  · exact h.lo1 y hy
  · exact h.lo2 k hk
/-- Behind an act of the program the reference stands as before. -/
theorem Both.rkeep (h : Both w B R m room x lo) (ht : Touch (B.wr m.clk.n.toNat) w w1) : RMachIs w1 R m room B.cur := h.r.low h.fr ht h.wlt
theorem Both.tlo (h : Both w B R m room x lo) (ht : Touch (B.wr m.clk.n.toNat) w w1) : Touch (fun y => lo ≤ y) w w1 := ht.mono (fun y _ hy => h.wlo y hy)
theorem Both.rlo (h : Both w B R m room x lo) (ht : Touch (fun y => R.e0 ≤ y) w1 w') : Touch (fun y => lo ≤ y) w1 w' := ht.mono (fun y _ hy => Nat.le_trans h.lo3 hy)
theorem Both.own (ht : Touch (fun y => B.own y) w w1) : Touch (B.wr m.clk.n.toNat) w w1 := ht.mono (fun y _ hy => .inl hy)
/-- Behind an act of both. -/
theorem Both.both (h : Both w B R m room x lo) (hp : MachX w1 B m') (ht : Touch (fun y => R.e0 ≤ y) w1 w') (hr : RMachIs w' R m' room B.cur) (ok : m'.Ok) (hn : m'.clk.n = m.clk.n) : Both w' B R m' room x lo :=
  ⟨hp.touchR (by rw [hn]; exact h.lt.mono h.fr.e) ht, hr, ok, by rw [hn]; exact h.lt, h.fr, h.lo1, by rw [hn]; exact h.lo2, h.lo3⟩
theorem Both.bothC {i f : Int} (h : Both w B R m room x lo) (hp : MachX w1 (curB m B i f) m) (ht : Touch (fun y => R.e0 ≤ y) w1 w') (hr : RMachIs w' R m room (curSet m B.cur i f)) : Both w' (curB m B i f) R m room x lo :=
  ⟨hp.touchR (e := R.e0) (by have := h.lt.mono h.fr.e; exact ⟨this.b, this.mb, this.mg, this.cb, this.ta, this.tg, this.lb, this.hb, this.gc, this.core⟩) ht, hr, h.ok, ⟨h.lt.b, h.lt.mb, h.lt.mg, h.lt.cb, h.lt.ta, h.lt.tg, h.lt.lb, h.lt.hb, h.lt.gc, h.lt.core⟩, h.fr, h.lo1, h.lo2, h.lo3⟩
end
end Go.Proofs.YtmahledpcpdldaaGreat
/- Check -/
set_option linter.unusedVariables false
set_option linter.unusedSimpArgs false
namespace Go.Proofs.YtmahledpcpdldaaGreat
open Go.RowKit
theorem CfgOk.of {f c p r : Int} (h1 : 1 ≤ f ∧ f ≤ 64) (h2 : 1 ≤ c ∧ c ≤ 4) (h3 : 0 ≤ p ∧ p ≤ c) (h4 : 0 ≤ r ∧ r ≤ 8) : CfgOk f c p r := ⟨h1.1, h1.2, h2.1, h2.2, h3.1, h3.2, h4.1, h4.2⟩
theorem mach_check_no (f c p r : Int) (w : World) (ok : ¬ CfgOk f c p r) : Calls Tryz.prog 8 #[.agg #[.int .i64 f, .int .i64 c, .int .i64 p, .int .i64 r]] w fun e w' => e = .returned (.int .i64 1) ∧ Below w.heap.size w w' := by
  by_cases h1 : 1 ≤ f ∧ f ≤ 64
  rotate_left
  · have E1 := Lib.hid (show (decide (1 ≤ f) && decide (f ≤ 64)) = false by simp; omega)
    clear h1 ok
    go_enter Tryz.func8, Tryz.ntmps8
    go_wp2_with ((go_at_call 69; (with_reducible refine (mach_in f _ _ _).mono ?_); rintro e w' ⟨rfl, rfl⟩); rw [E1.out])
    go_ret
    exact ⟨rfl, by (refine Touch.below0 ?_; (repeat' (first | (with_reducible exact Touch.refl _ _) | (with_reducible assumption) | (with_reducible refine Touch.drew ?_) | (with_reducible refine Touch.drewN ?_ _) | (with_reducible refine Touch.alloc ?_ _) | (with_reducible refine Touch.setCell ?_ _ _ _ ?_) | (with_reducible refine Touch.step (by assumption) ?_) | (with_reducible refine Touch.stepT (by assumption) ?_ ?_) | (intro _; first | rfl | trivial | omega | (simp; done) | (simp; omega)) | (intro _ _; first | omega | (simp; done) | (simp; omega)))))⟩
  have E1 := Lib.hid (show (decide (1 ≤ f) && decide (f ≤ 64)) = true by simp [h1])
  by_cases h2 : 1 ≤ c ∧ c ≤ 4
  rotate_left
  · have E2 := Lib.hid (show (decide (1 ≤ c) && decide (c ≤ 4)) = false by simp; omega)
    clear h1 h2 ok
    go_enter Tryz.func8, Tryz.ntmps8
    go_wp2_with (first | ((go_at_call 69; (with_reducible refine (mach_in f _ _ _).mono ?_); rintro e w' ⟨rfl, rfl⟩); rw [E1.out]) | ((go_at_call 69; (with_reducible refine (mach_in c _ _ _).mono ?_); rintro e w' ⟨rfl, rfl⟩); rw [E2.out]))
    go_ret
    exact ⟨rfl, by (refine Touch.below0 ?_; (repeat' (first | (with_reducible exact Touch.refl _ _) | (with_reducible assumption) | (with_reducible refine Touch.drew ?_) | (with_reducible refine Touch.drewN ?_ _) | (with_reducible refine Touch.alloc ?_ _) | (with_reducible refine Touch.setCell ?_ _ _ _ ?_) | (with_reducible refine Touch.step (by assumption) ?_) | (with_reducible refine Touch.stepT (by assumption) ?_ ?_) | (intro _; first | rfl | trivial | omega | (simp; done) | (simp; omega)) | (intro _ _; first | omega | (simp; done) | (simp; omega)))))⟩
  have E2 := Lib.hid (show (decide (1 ≤ c) && decide (c ≤ 4)) = true by simp [h2])
  by_cases h3 : 0 ≤ p ∧ p ≤ c
  rotate_left
  · have E3 := Lib.hid (show (decide (0 ≤ p) && decide (p ≤ c)) = false by simp; omega)
    clear h1 h2 h3 ok
    go_enter Tryz.func8, Tryz.ntmps8
    go_wp2_with (first | ((go_at_call 69; (with_reducible refine (mach_in f _ _ _).mono ?_); rintro e w' ⟨rfl, rfl⟩); rw [E1.out]) | ((go_at_call 69; (with_reducible refine (mach_in c _ _ _).mono ?_); rintro e w' ⟨rfl, rfl⟩); rw [E2.out]) | ((go_at_call 69; (with_reducible refine (mach_in p _ _ _).mono ?_); rintro e w' ⟨rfl, rfl⟩); rw [E3.out]))
    go_ret
    exact ⟨rfl, by (refine Touch.below0 ?_; (repeat' (first | (with_reducible exact Touch.refl _ _) | (with_reducible assumption) | (with_reducible refine Touch.drew ?_) | (with_reducible refine Touch.drewN ?_ _) | (with_reducible refine Touch.alloc ?_ _) | (with_reducible refine Touch.setCell ?_ _ _ _ ?_) | (with_reducible refine Touch.step (by assumption) ?_) | (with_reducible refine Touch.stepT (by assumption) ?_ ?_) | (intro _; first | rfl | trivial | omega | (simp; done) | (simp; omega)) | (intro _ _; first | omega | (simp; done) | (simp; omega)))))⟩
  have E3 := Lib.hid (show (decide (0 ≤ p) && decide (p ≤ c)) = true by simp [h3])
  have h4 : ¬ (0 ≤ r ∧ r ≤ 8) := fun h4 => ok (CfgOk.of h1 h2 h3 h4)
  have E4 := Lib.hid (show (decide (0 ≤ r) && decide (r ≤ 8)) = false by simp; omega)
  clear h1 h2 h3 h4 ok
  go_enter Tryz.func8, Tryz.ntmps8
  go_wp2_with (first | ((go_at_call 69; (with_reducible refine (mach_in f _ _ _).mono ?_); rintro e w' ⟨rfl, rfl⟩); rw [E1.out]) | ((go_at_call 69; (with_reducible refine (mach_in c _ _ _).mono ?_); rintro e w' ⟨rfl, rfl⟩); rw [E2.out]) | ((go_at_call 69; (with_reducible refine (mach_in p _ _ _).mono ?_); rintro e w' ⟨rfl, rfl⟩); rw [E3.out]) | ((go_at_call 69; (with_reducible refine (mach_in r _ _ _).mono ?_); rintro e w' ⟨rfl, rfl⟩); rw [E4.out]))
  go_ret
  exact ⟨rfl, by (refine Touch.below0 ?_; (repeat' (first | (with_reducible exact Touch.refl _ _) | (with_reducible assumption) | (with_reducible refine Touch.drew ?_) | (with_reducible refine Touch.drewN ?_ _) | (with_reducible refine Touch.alloc ?_ _) | (with_reducible refine Touch.setCell ?_ _ _ _ ?_) | (with_reducible refine Touch.step (by assumption) ?_) | (with_reducible refine Touch.stepT (by assumption) ?_ ?_) | (intro _; first | rfl | trivial | omega | (simp; done) | (simp; omega)) | (intro _ _; first | omega | (simp; done) | (simp; omega)))))⟩
theorem r25_check_no (f c p r : Int) (w : World) (ok : ¬ CfgOk f c p r) : Calls Tryz.prog 61 #[.agg #[.int .i64 f, .int .i64 c, .int .i64 p, .int .i64 r]] w fun e w' => e = .returned (.int .i64 1) ∧ Below w.heap.size w w' := by
  by_cases h1 : f < 1
  · go_enter Tryz.func61, Tryz.ntmps61
    go_wp2
    go_ret
    exact ⟨rfl, by (refine Touch.below0 ?_; (repeat' (first | (with_reducible exact Touch.refl _ _) | (with_reducible assumption) | (with_reducible refine Touch.drew ?_) | (with_reducible refine Touch.drewN ?_ _) | (with_reducible refine Touch.alloc ?_ _) | (with_reducible refine Touch.setCell ?_ _ _ _ ?_) | (with_reducible refine Touch.step (by assumption) ?_) | (with_reducible refine Touch.stepT (by assumption) ?_ ?_) | (intro _; first | rfl | trivial | omega | (simp; done) | (simp; omega)) | (intro _ _; first | omega | (simp; done) | (simp; omega)))))⟩
  by_cases h2 : 64 < f
  · go_enter Tryz.func61, Tryz.ntmps61
    go_wp2
    go_ret
    exact ⟨rfl, by (refine Touch.below0 ?_; (repeat' (first | (with_reducible exact Touch.refl _ _) | (with_reducible assumption) | (with_reducible refine Touch.drew ?_) | (with_reducible refine Touch.drewN ?_ _) | (with_reducible refine Touch.alloc ?_ _) | (with_reducible refine Touch.setCell ?_ _ _ _ ?_) | (with_reducible refine Touch.step (by assumption) ?_) | (with_reducible refine Touch.stepT (by assumption) ?_ ?_) | (intro _; first | rfl | trivial | omega | (simp; done) | (simp; omega)) | (intro _ _; first | omega | (simp; done) | (simp; omega)))))⟩
  by_cases h3 : c < 1
  · go_enter Tryz.func61, Tryz.ntmps61
    go_wp2
    go_ret
    exact ⟨rfl, by (refine Touch.below0 ?_; (repeat' (first | (with_reducible exact Touch.refl _ _) | (with_reducible assumption) | (with_reducible refine Touch.drew ?_) | (with_reducible refine Touch.drewN ?_ _) | (with_reducible refine Touch.alloc ?_ _) | (with_reducible refine Touch.setCell ?_ _ _ _ ?_) | (with_reducible refine Touch.step (by assumption) ?_) | (with_reducible refine Touch.stepT (by assumption) ?_ ?_) | (intro _; first | rfl | trivial | omega | (simp; done) | (simp; omega)) | (intro _ _; first | omega | (simp; done) | (simp; omega)))))⟩
  by_cases h4 : 4 < c
  · go_enter Tryz.func61, Tryz.ntmps61
    go_wp2
    go_ret
    exact ⟨rfl, by (refine Touch.below0 ?_; (repeat' (first | (with_reducible exact Touch.refl _ _) | (with_reducible assumption) | (with_reducible refine Touch.drew ?_) | (with_reducible refine Touch.drewN ?_ _) | (with_reducible refine Touch.alloc ?_ _) | (with_reducible refine Touch.setCell ?_ _ _ _ ?_) | (with_reducible refine Touch.step (by assumption) ?_) | (with_reducible refine Touch.stepT (by assumption) ?_ ?_) | (intro _; first | rfl | trivial | omega | (simp; done) | (simp; omega)) | (intro _ _; first | omega | (simp; done) | (simp; omega)))))⟩
  by_cases h5 : p < 0
  · go_enter Tryz.func61, Tryz.ntmps61
    go_wp2
    go_ret
    exact ⟨rfl, by (refine Touch.below0 ?_; (repeat' (first | (with_reducible exact Touch.refl _ _) | (with_reducible assumption) | (with_reducible refine Touch.drew ?_) | (with_reducible refine Touch.drewN ?_ _) | (with_reducible refine Touch.alloc ?_ _) | (with_reducible refine Touch.setCell ?_ _ _ _ ?_) | (with_reducible refine Touch.step (by assumption) ?_) | (with_reducible refine Touch.stepT (by assumption) ?_ ?_) | (intro _; first | rfl | trivial | omega | (simp; done) | (simp; omega)) | (intro _ _; first | omega | (simp; done) | (simp; omega)))))⟩
  by_cases h6 : c < p
  · go_enter Tryz.func61, Tryz.ntmps61
    go_wp2
    go_ret
    exact ⟨rfl, by (refine Touch.below0 ?_; (repeat' (first | (with_reducible exact Touch.refl _ _) | (with_reducible assumption) | (with_reducible refine Touch.drew ?_) | (with_reducible refine Touch.drewN ?_ _) | (with_reducible refine Touch.alloc ?_ _) | (with_reducible refine Touch.setCell ?_ _ _ _ ?_) | (with_reducible refine Touch.step (by assumption) ?_) | (with_reducible refine Touch.stepT (by assumption) ?_ ?_) | (intro _; first | rfl | trivial | omega | (simp; done) | (simp; omega)) | (intro _ _; first | omega | (simp; done) | (simp; omega)))))⟩
  by_cases h7 : r < 0
  · go_enter Tryz.func61, Tryz.ntmps61
    go_wp2
    go_ret
    exact ⟨rfl, by (refine Touch.below0 ?_; (repeat' (first | (with_reducible exact Touch.refl _ _) | (with_reducible assumption) | (with_reducible refine Touch.drew ?_) | (with_reducible refine Touch.drewN ?_ _) | (with_reducible refine Touch.alloc ?_ _) | (with_reducible refine Touch.setCell ?_ _ _ _ ?_) | (with_reducible refine Touch.step (by assumption) ?_) | (with_reducible refine Touch.stepT (by assumption) ?_ ?_) | (intro _; first | rfl | trivial | omega | (simp; done) | (simp; omega)) | (intro _ _; first | omega | (simp; done) | (simp; omega)))))⟩
  have h8 : 8 < r := by
    by_cases h8 : 8 < r
    · exact h8
    · exact (ok (CfgOk.of (by omega) (by omega) (by omega) (by omega))).elim
  go_enter Tryz.func61, Tryz.ntmps61
  go_wp2
  go_ret
  exact ⟨rfl, by (refine Touch.below0 ?_; (repeat' (first | (with_reducible exact Touch.refl _ _) | (with_reducible assumption) | (with_reducible refine Touch.drew ?_) | (with_reducible refine Touch.drewN ?_ _) | (with_reducible refine Touch.alloc ?_ _) | (with_reducible refine Touch.setCell ?_ _ _ _ ?_) | (with_reducible refine Touch.step (by assumption) ?_) | (with_reducible refine Touch.stepT (by assumption) ?_ ?_) | (intro _; first | rfl | trivial | omega | (simp; done) | (simp; omega)) | (intro _ _; first | omega | (simp; done) | (simp; omega)))))⟩
theorem mach_new_no (f c p r : Int) (w : World) (ok : ¬ CfgOk f c p r) : Calls Tryz.prog 6 #[.agg #[.int .i64 f, .int .i64 c, .int .i64 p, .int .i64 r]] w fun e w' => e = .returned (.tuple #[.pointer none, .int .i64 1]) ∧ Below w.heap.size w w' := by
  have hA : ∀ o, Below w.heap.size w (w.alloc o) := fun o => by (refine Touch.below0 ?_; (repeat' (first | (with_reducible exact Touch.refl _ _) | (with_reducible assumption) | (with_reducible refine Touch.drew ?_) | (with_reducible refine Touch.drewN ?_ _) | (with_reducible refine Touch.alloc ?_ _) | (with_reducible refine Touch.setCell ?_ _ _ _ ?_) | (with_reducible refine Touch.step (by assumption) ?_) | (with_reducible refine Touch.stepT (by assumption) ?_ ?_) | (intro _; first | rfl | trivial | omega | (simp; done) | (simp; omega)) | (intro _ _; first | omega | (simp; done) | (simp; omega)))))
  have CN := fun w => mach_check_no f c p r w ok
  clear ok
  go_enter Tryz.func6, Tryz.ntmps6
  go_wp2_with ((go_at_call 8; (with_reducible refine (CN _).mono ?_); rintro e w' ⟨rfl, hb⟩); have hbw := (hA _).trans (hb.mono (hA _).size))
  go_ret2
  exact ⟨rfl, hbw⟩
theorem r25_new_no (f c p r : Int) (w : World) (ok : ¬ CfgOk f c p r) : Calls Tryz.prog 7 #[.agg #[.int .i64 f, .int .i64 c, .int .i64 p, .int .i64 r]] w fun e w' => e = .returned (.tuple #[.pointer none, .int .i64 1]) ∧ Below w.heap.size w w' := by
  have hA : ∀ o, Below w.heap.size w (w.alloc o) := fun o => by (refine Touch.below0 ?_; (repeat' (first | (with_reducible exact Touch.refl _ _) | (with_reducible assumption) | (with_reducible refine Touch.drew ?_) | (with_reducible refine Touch.drewN ?_ _) | (with_reducible refine Touch.alloc ?_ _) | (with_reducible refine Touch.setCell ?_ _ _ _ ?_) | (with_reducible refine Touch.step (by assumption) ?_) | (with_reducible refine Touch.stepT (by assumption) ?_ ?_) | (intro _; first | rfl | trivial | omega | (simp; done) | (simp; omega)) | (intro _ _; first | omega | (simp; done) | (simp; omega)))))
  have CN := fun w => r25_check_no f c p r w ok
  clear ok
  go_enter Tryz.func7, Tryz.ntmps7
  go_wp2_with ((go_at_call 61; (with_reducible refine (CN _).mono ?_); rintro e w' ⟨rfl, hb⟩); have hbw := (hA _).trans (hb.mono (hA _).size))
  go_ret2
  exact ⟨rfl, hbw⟩
end Go.Proofs.YtmahledpcpdldaaGreat
