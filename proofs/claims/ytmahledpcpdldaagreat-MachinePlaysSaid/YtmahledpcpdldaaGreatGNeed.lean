/- Several texts in one: Need, Link. -/
import Derived.Test.YtmahledpcpdldaaGreatTypD
import Derived.Test.YtmahledpcpdldaaGreatGMach
import Derived.Test.YtmahledpcpdldaaGreatGClk
import Derived.Deep.RegionHeld3
import Derived.Deep.RegionLaw
/- Need -/
set_option linter.unusedVariables false
set_option linter.unusedSimpArgs false
namespace Go.Proofs.YtmahledpcpdldaaGreat
open Go.RowKit
def hB (k : Int) : Bool := decide (3 ≤ k) && decide (k ≤ 10)
def hF (k t : Int) : Int := if hB k = true then t else 0
def Mach.needE (m : Mach) (k t : Int) : Int := if hB k = true ∧ m.typ.type t ≠ 2 then 4 else 0
def Mach.needB (m : Mach) (k t : Int) : Bool := hB k && decide (m.typ.type t = 2)
def Mach.needF (m : Mach) (k t : Int) : Int := if m.needB k t = true then t else 0
def Mach.linkE (m : Mach) (k t : Int) : Int := if m.needB k t = true then m.typ.refE t else m.needE k t
def Mach.link (m : Mach) (k t : Int) : Mach := if m.needB k t = true then { m with typ := m.typ.ref t } else m
def Mach.unlinkE (m : Mach) (k t : Int) : Int := if m.needB k t = true then m.typ.unrefE t else m.needE k t
def Mach.unlink (m : Mach) (k t : Int) : Mach := if m.needB k t = true then { m with typ := m.typ.unref t m.clk.now } else m
theorem Mach.need_no {m : Mach} {k t : Int} (h : hB k = false) : m.needE k t = 0 ∧ m.needB k t = false ∧ m.needF k t = 0 ∧ hF k t = 0 := by simp [Mach.needE, Mach.needB, Mach.needF, hF, h]
theorem Mach.need_bad {m : Mach} {k t : Int} (h : hB k = true) (h2 : m.typ.type t ≠ 2) : m.needE k t = 4 ∧ m.needB k t = false ∧ m.needF k t = 0 ∧ hF k t = t := by simp [Mach.needE, Mach.needB, Mach.needF, hF, h, h2]
theorem Mach.need_yes {m : Mach} {k t : Int} (h : hB k = true) (h2 : m.typ.type t = 2) : m.needE k t = 0 ∧ m.needB k t = true ∧ m.needF k t = t ∧ hF k t = t := by simp [Mach.needE, Mach.needB, Mach.needF, hF, h, h2]
theorem Mach.need_E {m : Mach} {k t : Int} : m.needE k t = 0 ∨ m.needE k t = 4 := by unfold Mach.needE; split <;> simp
theorem Mach.need_EB {m : Mach} {k t : Int} (h : m.needB k t = true) : m.needE k t = 0 ∧ m.needF k t = t := by
  unfold Mach.needB at h; unfold Mach.needE Mach.needF Mach.needB
  simp only [Bool.and_eq_true, decide_eq_true_eq] at h
  simp [h.1, h.2]
theorem cap_holds (k r t l e a : Int) (w : World) : Calls Tryz.prog 241 #[.agg #[.int .i64 k, .int .i64 r, .int .i64 t, .int .i64 l, .int .i64 e, .int .i64 a]] w fun e w' => e = .returned (.tuple #[.int .i64 (hF k t), .bool (hB k)]) ∧ Below w.heap.size w w' := by
  unfold hF hB
  by_cases h1 : k < 3
  · have e1 : (decide (3 ≤ k) && decide (k ≤ 10)) = false := by simp; omega
    rw [e1]; clear e1
    go_enter Tryz.func241, Tryz.ntmps241
    go_wp2
    go_ret2
    exact ⟨rfl, by (refine Touch.below0 ?_; (repeat' (first | (with_reducible exact Touch.refl _ _) | (with_reducible assumption) | (with_reducible refine Touch.drew ?_) | (with_reducible refine Touch.drewN ?_ _) | (with_reducible refine Touch.alloc ?_ _) | (with_reducible refine Touch.setCell ?_ _ _ _ ?_) | (with_reducible refine Touch.step (by assumption) ?_) | (with_reducible refine Touch.stepT (by assumption) ?_ ?_) | (intro _; first | rfl | trivial | omega | (simp; done) | (simp; omega)) | (intro _ _; first | omega | (simp; done) | (simp; omega)))))⟩
  by_cases h2 : 10 < k
  · have e1 : (decide (3 ≤ k) && decide (k ≤ 10)) = false := by simp; omega
    rw [e1]; clear e1
    go_enter Tryz.func241, Tryz.ntmps241
    go_wp2
    go_ret2
    exact ⟨rfl, by (refine Touch.below0 ?_; (repeat' (first | (with_reducible exact Touch.refl _ _) | (with_reducible assumption) | (with_reducible refine Touch.drew ?_) | (with_reducible refine Touch.drewN ?_ _) | (with_reducible refine Touch.alloc ?_ _) | (with_reducible refine Touch.setCell ?_ _ _ _ ?_) | (with_reducible refine Touch.step (by assumption) ?_) | (with_reducible refine Touch.stepT (by assumption) ?_ ?_) | (intro _; first | rfl | trivial | omega | (simp; done) | (simp; omega)) | (intro _ _; first | omega | (simp; done) | (simp; omega)))))⟩
  · have e1 : (decide (3 ≤ k) && decide (k ≤ 10)) = true := by simp; omega
    rw [e1]; clear e1
    go_enter Tryz.func241, Tryz.ntmps241
    go_wp2
    go_ret2
    exact ⟨rfl, by (refine Touch.below0 ?_; (repeat' (first | (with_reducible exact Touch.refl _ _) | (with_reducible assumption) | (with_reducible refine Touch.drew ?_) | (with_reducible refine Touch.drewN ?_ _) | (with_reducible refine Touch.alloc ?_ _) | (with_reducible refine Touch.setCell ?_ _ _ _ ?_) | (with_reducible refine Touch.step (by assumption) ?_) | (with_reducible refine Touch.stepT (by assumption) ?_ ?_) | (intro _; first | rfl | trivial | omega | (simp; done) | (simp; omega)) | (intro _ _; first | omega | (simp; done) | (simp; omega)))))⟩
theorem r9_holds (k r t l e a : Int) (w : World) : Calls Tryz.prog 242 #[.agg #[.int .i64 k, .int .i64 r, .int .i64 t, .int .i64 l, .int .i64 e, .int .i64 a]] w fun e w' => e = .returned (.tuple #[.int .i64 (hF k t), .bool (hB k)]) ∧ Below w.heap.size w w' := by
  unfold hF hB
  by_cases h1 : k < 3
  · have e1 : (decide (3 ≤ k) && decide (k ≤ 10)) = false := by simp; omega
    rw [e1]; clear e1
    go_enter Tryz.func242, Tryz.ntmps242
    go_wp2
    go_ret2
    exact ⟨rfl, by (refine Touch.below0 ?_; (repeat' (first | (with_reducible exact Touch.refl _ _) | (with_reducible assumption) | (with_reducible refine Touch.drew ?_) | (with_reducible refine Touch.drewN ?_ _) | (with_reducible refine Touch.alloc ?_ _) | (with_reducible refine Touch.setCell ?_ _ _ _ ?_) | (with_reducible refine Touch.step (by assumption) ?_) | (with_reducible refine Touch.stepT (by assumption) ?_ ?_) | (intro _; first | rfl | trivial | omega | (simp; done) | (simp; omega)) | (intro _ _; first | omega | (simp; done) | (simp; omega)))))⟩
  by_cases h2 : 10 < k
  · have e1 : (decide (3 ≤ k) && decide (k ≤ 10)) = false := by simp; omega
    rw [e1]; clear e1
    go_enter Tryz.func242, Tryz.ntmps242
    go_wp2
    go_ret2
    exact ⟨rfl, by (refine Touch.below0 ?_; (repeat' (first | (with_reducible exact Touch.refl _ _) | (with_reducible assumption) | (with_reducible refine Touch.drew ?_) | (with_reducible refine Touch.drewN ?_ _) | (with_reducible refine Touch.alloc ?_ _) | (with_reducible refine Touch.setCell ?_ _ _ _ ?_) | (with_reducible refine Touch.step (by assumption) ?_) | (with_reducible refine Touch.stepT (by assumption) ?_ ?_) | (intro _; first | rfl | trivial | omega | (simp; done) | (simp; omega)) | (intro _ _; first | omega | (simp; done) | (simp; omega)))))⟩
  · have e1 : (decide (3 ≤ k) && decide (k ≤ 10)) = true := by simp; omega
    rw [e1]; clear e1
    go_enter Tryz.func242, Tryz.ntmps242
    go_wp2
    go_ret2
    exact ⟨rfl, by (refine Touch.below0 ?_; (repeat' (first | (with_reducible exact Touch.refl _ _) | (with_reducible assumption) | (with_reducible refine Touch.drew ?_) | (with_reducible refine Touch.drewN ?_ _) | (with_reducible refine Touch.alloc ?_ _) | (with_reducible refine Touch.setCell ?_ _ _ _ ?_) | (with_reducible refine Touch.step (by assumption) ?_) | (with_reducible refine Touch.stepT (by assumption) ?_ ?_) | (intro _; first | rfl | trivial | omega | (simp; done) | (simp; omega)) | (intro _ _; first | omega | (simp; done) | (simp; omega)))))⟩

set_option maxHeartbeats 2000000 in
theorem mach_needed (B : MBl) (m : Mach) (k r t l e a : Int) (w : World) (h : MachIs w B m) (ok : m.Ok) : Calls Tryz.prog 170 #[.pointer (some ⟨B.b, 0, none⟩), .agg #[.int .i64 k, .int .i64 r, .int .i64 t, .int .i64 l, .int .i64 e, .int .i64 a]] w fun e w' =>
    e = .returned (.tuple #[.int .i64 (m.needF k t), .bool (m.needB k t), .int .i64 (m.needE k t)]) ∧ Below w.heap.size w w' := by
  have hbA : ∀ o, Below w.heap.size w (w.alloc o) := fun o => by (refine Touch.below0 ?_; (repeat' (first | (with_reducible exact Touch.refl _ _) | (with_reducible assumption) | (with_reducible refine Touch.drew ?_) | (with_reducible refine Touch.drewN ?_ _) | (with_reducible refine Touch.alloc ?_ _) | (with_reducible refine Touch.setCell ?_ _ _ _ ?_) | (with_reducible refine Touch.step (by assumption) ?_) | (with_reducible refine Touch.stepT (by assumption) ?_ ?_) | (intro _; first | rfl | trivial | omega | (simp; done) | (simp; omega)) | (intro _ _; first | omega | (simp; done) | (simp; omega)))))
  generalize hk : hB k = q
  cases q
  · obtain ⟨e1, e2, e3, e4⟩ := Mach.need_no (m := m) (t := t) hk
    rw [e1, e2, e3]
    have HF := Lib.hid e4; have HB := Lib.hid hk
    have HT := Lib.hid (rfl : m.typ.type t = m.typ.type t)
    clear e1 e2 e3 e4 hk
    go_enter Tryz.func170, Tryz.ntmps170
    go_wp2_with (first | ((go_at_call 241; (with_reducible refine (cap_holds _ _ _ _ _ _ _).mono ?_); rintro e w' ⟨rfl, hb1⟩); rw [HF.out, HB.out]; have hbw := (hbA _).trans (hb1.mono (hbA _).size); have hm := h.after hbw; obtain ⟨c0, c1, c2, c5⟩ := hm.cells) | (go_at_call 106; (with_reducible refine (mach_none _ _ _ hm).mono ?_); rintro e w' ⟨rfl, rfl⟩) | ((go_at_call 96; (with_reducible refine (typ_type _ _ _ _ _ _ hm.typ ok.typ).mono ?_); rintro e w' ⟨rfl, hb2⟩); rw [HT.out]))
    go_ret3
    exact ⟨rfl, hbw⟩
  by_cases ht : m.typ.type t = 2
  · obtain ⟨e1, e2, e3, e4⟩ := Mach.need_yes hk ht
    rw [e1, e2, e3]
    have HF := Lib.hid e4; have HB := Lib.hid hk; have HT := Lib.hid ht
    clear e1 e2 e3 e4 hk ht
    go_enter Tryz.func170, Tryz.ntmps170
    go_wp2_with (first | ((go_at_call 241; (with_reducible refine (cap_holds _ _ _ _ _ _ _).mono ?_); rintro e w' ⟨rfl, hb1⟩); rw [HF.out, HB.out]; have hbw := (hbA _).trans (hb1.mono (hbA _).size); have hm := h.after hbw; obtain ⟨c0, c1, c2, c5⟩ := hm.cells) | (go_at_call 106; (with_reducible refine (mach_none _ _ _ hm).mono ?_); rintro e w' ⟨rfl, rfl⟩) | ((go_at_call 96; (with_reducible refine (typ_type _ _ _ _ _ _ hm.typ ok.typ).mono ?_); rintro e w' ⟨rfl, hb2⟩); rw [HT.out]))
    go_ret3
    exact ⟨rfl, hbw.trans (hb2.mono hbw.size)⟩
  · obtain ⟨e1, e2, e3, e4⟩ := Mach.need_bad hk ht
    rw [e1, e2, e3]
    have HF := Lib.hid e4; have HB := Lib.hid hk
    obtain ⟨y, hy⟩ : ∃ y, m.typ.type t = y := ⟨_, rfl⟩
    rw [hy] at ht
    have HT := Lib.hid hy
    clear e1 e2 e3 e4 hk hy
    go_enter Tryz.func170, Tryz.ntmps170
    go_wp2_with (first | ((go_at_call 241; (with_reducible refine (cap_holds _ _ _ _ _ _ _).mono ?_); rintro e w' ⟨rfl, hb1⟩); rw [HF.out, HB.out]; have hbw := (hbA _).trans (hb1.mono (hbA _).size); have hm := h.after hbw; obtain ⟨c0, c1, c2, c5⟩ := hm.cells) | (go_at_call 106; (with_reducible refine (mach_none _ _ _ hm).mono ?_); rintro e w' ⟨rfl, rfl⟩) | ((go_at_call 96; (with_reducible refine (typ_type _ _ _ _ _ _ hm.typ ok.typ).mono ?_); rintro e w' ⟨rfl, hb2⟩); rw [HT.out]))
    go_ret3
    exact ⟨rfl, hbw.trans (hb2.mono hbw.size)⟩
end Go.Proofs.YtmahledpcpdldaaGreat
/- Link -/
set_option linter.unusedVariables false
set_option linter.unusedSimpArgs false
namespace Go.Proofs.YtmahledpcpdldaaGreat
open Go.RowKit
theorem below_cell {w w' : World} (hb : Below w.heap.size w w') {b o : Nat} {v : Value} (h : w.cell? ⟨b, o, none⟩ = some v) : w'.cell? ⟨b, o, none⟩ = some v := (hb.cell (p := ⟨b, o, none⟩) (lt_of_cell h)).trans h
set_option maxHeartbeats 2000000 in
theorem mach_link (B : MBl) (m : Mach) (k r t l e a : Int) (w : World) (h : MachIs w B m) (ok : m.Ok) : Calls Tryz.prog 71 #[.pointer (some ⟨B.b, 0, none⟩), .agg #[.int .i64 k, .int .i64 r, .int .i64 t, .int .i64 l, .int .i64 e, .int .i64 a]] w fun e w' =>
    e = .returned (.int .i64 (m.linkE k t)) ∧ MachIs w' B (m.link k t) ∧ Touch (fun x => B.own x) w w' := by
  have hbA : ∀ o, Below w.heap.size w (w.alloc o) := fun o => by (refine Touch.below0 ?_; (repeat' (first | (with_reducible exact Touch.refl _ _) | (with_reducible assumption) | (with_reducible refine Touch.drew ?_) | (with_reducible refine Touch.drewN ?_ _) | (with_reducible refine Touch.alloc ?_ _) | (with_reducible refine Touch.setCell ?_ _ _ _ ?_) | (with_reducible refine Touch.step (by assumption) ?_) | (with_reducible refine Touch.stepT (by assumption) ?_ ?_) | (intro _; first | rfl | trivial | omega | (simp; done) | (simp; omega)) | (intro _ _; first | omega | (simp; done) | (simp; omega)))))
  unfold Mach.linkE Mach.link
  generalize hq : m.needB k t = q
  cases q
  · rw [if_neg (by decide), if_neg (by decide)]
    obtain ⟨f, hf⟩ : ∃ f, m.needF k t = f := ⟨_, rfl⟩
    have HF := Lib.hid hf; have HB := Lib.hid hq
    rcases Mach.need_E (m := m) (k := k) (t := t) with he | he
    · rw [he]; have HE := Lib.hid he; clear he hq hf
      go_enter Tryz.func71, Tryz.ntmps71
      go_wp2_with ((go_at_call 170; (with_reducible refine (mach_needed B m k r t l e a _ (h.after (hbA _)) ok).mono ?_); rintro e w' ⟨rfl, hb1⟩); rw [HF.out, HB.out, HE.out]; have hbw := (hbA _).trans (hb1.mono (hbA _).size); have hm := h.after hbw; obtain ⟨c0, c1, c2, c5⟩ := hm.cells)
      go_ret
      exact ⟨rfl, hm, Touch.of_below hbw⟩
    · rw [he]; have HE := Lib.hid he; clear he hq hf
      go_enter Tryz.func71, Tryz.ntmps71
      go_wp2_with ((go_at_call 170; (with_reducible refine (mach_needed B m k r t l e a _ (h.after (hbA _)) ok).mono ?_); rintro e w' ⟨rfl, hb1⟩); rw [HF.out, HB.out, HE.out]; have hbw := (hbA _).trans (hb1.mono (hbA _).size); have hm := h.after hbw; obtain ⟨c0, c1, c2, c5⟩ := hm.cells)
      go_ret
      exact ⟨rfl, hm, Touch.of_below hbw⟩
  · rw [if_pos rfl, if_pos rfl]
    obtain ⟨he, hf⟩ := Mach.need_EB hq
    have HF := Lib.hid hf; have HB := Lib.hid hq; have HE := Lib.hid he; clear hq hf he
    go_enter Tryz.func71, Tryz.ntmps71
    go_wp2_with (first
      | ((go_at_call 170; (with_reducible refine (mach_needed B m k r t l e a _ (h.after (hbA _)) ok).mono ?_); rintro e w' ⟨rfl, hb1⟩); rw [HF.out, HB.out, HE.out]; have hbw := (hbA _).trans (hb1.mono (hbA _).size); have hm := h.after hbw; obtain ⟨c0, c1, c2, c5⟩ := hm.cells)
      | (go_at_call 171; (with_reducible refine (typ_ref _ _ _ _ _ _ hm.typ ok.typ).mono ?_); rintro e w' ⟨rfl, ht2, hx2⟩))
    go_ret
    exact ⟨rfl, hm.settyp hx2 ht2, (Touch.of_below hbw).trans2 hx2 (fun i _ hi => .inr (.inr hi))⟩
set_option maxHeartbeats 2000000 in
theorem mach_unlink (B : MBl) (m : Mach) (k r t l e a : Int) (w : World) (h : MachIs w B m) (ok : m.Ok) : Calls Tryz.prog 73 #[.pointer (some ⟨B.b, 0, none⟩), .agg #[.int .i64 k, .int .i64 r, .int .i64 t, .int .i64 l, .int .i64 e, .int .i64 a]] w fun e w' =>
    e = .returned (.int .i64 (m.unlinkE k t)) ∧ MachIs w' B (m.unlink k t) ∧ Touch (fun x => B.own x) w w' := by
  have hbA : ∀ o, Below w.heap.size w (w.alloc o) := fun o => by (refine Touch.below0 ?_; (repeat' (first | (with_reducible exact Touch.refl _ _) | (with_reducible assumption) | (with_reducible refine Touch.drew ?_) | (with_reducible refine Touch.drewN ?_ _) | (with_reducible refine Touch.alloc ?_ _) | (with_reducible refine Touch.setCell ?_ _ _ _ ?_) | (with_reducible refine Touch.step (by assumption) ?_) | (with_reducible refine Touch.stepT (by assumption) ?_ ?_) | (intro _; first | rfl | trivial | omega | (simp; done) | (simp; omega)) | (intro _ _; first | omega | (simp; done) | (simp; omega)))))
  unfold Mach.unlinkE Mach.unlink
  generalize hq : m.needB k t = q
  cases q
  · rw [if_neg (by decide), if_neg (by decide)]
    obtain ⟨f, hf⟩ : ∃ f, m.needF k t = f := ⟨_, rfl⟩
    have HF := Lib.hid hf; have HB := Lib.hid hq
    rcases Mach.need_E (m := m) (k := k) (t := t) with he | he
    · rw [he]; have HE := Lib.hid he; clear he hq hf
      go_enter Tryz.func73, Tryz.ntmps73
      go_wp2_with ((go_at_call 170; (with_reducible refine (mach_needed B m k r t l e a _ (h.after (hbA _)) ok).mono ?_); rintro e w' ⟨rfl, hb1⟩); rw [HF.out, HB.out, HE.out]; have hbw := (hbA _).trans (hb1.mono (hbA _).size); have hm := h.after hbw; obtain ⟨c0, c1, c2, c5⟩ := hm.cells)
      go_ret
      exact ⟨rfl, hm, Touch.of_below hbw⟩
    · rw [he]; have HE := Lib.hid he; clear he hq hf
      go_enter Tryz.func73, Tryz.ntmps73
      go_wp2_with ((go_at_call 170; (with_reducible refine (mach_needed B m k r t l e a _ (h.after (hbA _)) ok).mono ?_); rintro e w' ⟨rfl, hb1⟩); rw [HF.out, HB.out, HE.out]; have hbw := (hbA _).trans (hb1.mono (hbA _).size); have hm := h.after hbw; obtain ⟨c0, c1, c2, c5⟩ := hm.cells)
      go_ret
      exact ⟨rfl, hm, Touch.of_below hbw⟩
  · rw [if_pos rfl, if_pos rfl]
    obtain ⟨he, hf⟩ := Mach.need_EB hq
    have HF := Lib.hid hf; have HB := Lib.hid hq; have HE := Lib.hid he; clear hq hf he
    have hnow : m.clk.nowOf = m.clk.now := by have := ok.n1; unfold Clk.nowOf; rw [if_neg (by omega)]
    have HN := Lib.hid hnow; clear hnow
    go_enter Tryz.func73, Tryz.ntmps73
    go_upto_region 4 with (((go_at_call 170; (with_reducible refine (mach_needed B m k r t l e a _ (h.after (hbA _)) ok).mono ?_); rintro e w' ⟨rfl, hb1⟩); rw [HF.out, HB.out, HE.out]; have hbw := (hbA _).trans (hb1.mono (hbA _).size); have hm := h.after hbw; obtain ⟨c0, c1, c2, c5⟩ := hm.cells))
    obtain ⟨wo, hwo⟩ : ∃ x : World, x = w' := ⟨_, rfl⟩
    subst hwo
    have hD : MachIs wo.drew B m := hm.after ((Below.refl _ wo).drew)
    have kT : ∀ y, Touch (· = B.tg) wo y → y.cell? ⟨B.b, 2, none⟩ = some (.pointer (some ⟨B.ta, 0, none⟩)) := fun y hy => by
      rw [cell_of (hy.at hm.box (fun e => hm.sb (.inr (.inr e))))]; rfl
    have d0 : Touch (· = B.tg) wo wo.drew := (Touch.refl _ wo).drew
    go_region_held3 (fun y => y.cell? ⟨B.b, 2, none⟩ = some (.pointer (some ⟨B.ta, 0, none⟩)))
      (first | (with_reducible exact kT _ d0) | (with_reducible refine kT _ ?_; with_reducible assumption))
      (first
        | (go_at_call 86; (with_reducible refine (mach_now _ _ _ hD).mono ?_); rintro e w' ⟨rfl, rfl⟩; rw [HN.out])
        | (go_at_call 167; (with_reducible refine (typ_unref _ _ _ _ _ _ _ hD.typ ok.typ).mono ?_); rintro e w' ⟨rfl, ht2, hx2⟩; have hx3 := d0.trans hx2))
    go_wp2
    go_ret
    exact ⟨rfl, hm.settyp hx3 ht2, (Touch.of_below hbw).trans2 hx3 (fun i _ hi => .inr (.inr hi))⟩
end Go.Proofs.YtmahledpcpdldaaGreat
