/- Retype. -/
import Derived.Test.YtejdfdllgobnhaaMach
set_option linter.unusedVariables false
set_option linter.unusedSimpArgs false
namespace Go.Proofs.Ytejdfdllgobnhaa
open Go.RowKit

def Mach.seen (m : Mach) (f : Int) : Bool := m.clk.quiet (m.typ.was f) (m.typ.freed f)
def Mach.retypeE (m : Mach) (f kd : Int) : Int := if m.typ.retypeE f kd (m.seen f) = 0 then m.mem.can f 0 else m.typ.retypeE f kd (m.seen f)
def Mach.retype (m : Mach) (f kd : Int) : Mach :=
  if m.typ.retypeE f kd (m.seen f) = 0 then { m with typ := m.typ.retype f kd (m.seen f), mem := m.mem.clear f } else m

set_option maxHeartbeats 1000000 in
theorem mach_retype (B : MBl) (m : Mach) (f kd : Int) (w : World) (h : MachIs w B m) (ok : m.Ok) (hf : (Lit.int .i64 f).wf = true) : Calls Try.prog 11 #[.pointer (some ⟨B.b, 0, none⟩), .int .i64 f, .int .i64 kd] w fun e w' =>
    e = .returned (.int .i64 (m.retypeE f kd)) ∧ MachIs w' B (m.retype f kd) ∧ Touch (fun x => B.own x) w w' := by
  obtain ⟨c0, c1, c2, c5⟩ := h.cells
  have hlb : B.b < w.heap.size := lt_of_block h.box
  unfold Mach.retypeE Mach.retype
  by_cases he : m.typ.retypeE f kd (m.seen f) = 0
  · rw [if_pos he, if_pos he]
    have HE := Lib.hid he; clear he
    go_enter Try.func11, Try.ntmps11
    go_upto_region 3 with ((go_at_call 48; (with_reducible refine (mach_none _ _ _ h).mono ?_); rintro e w' ⟨rfl, rfl⟩))
    (refine wp_region_calm (by kernel_rfl) (by kernel_rfl) ?_; (repeat (go_big_quiet_step ((first
          | (go_at_call 51; first | (with_reducible refine Calls.calm_of (typ_was _ _ _ _ _ _ (h.typ.after (After.h _)) ok.typ)) | (with_reducible refine Calls.calm_of_same (typ_was _ _ _ _ _ _ (h.typ.after (After.h _)) ok.typ)))
          | (go_at_call 52; first | (with_reducible refine Calls.calm_of (typ_freed _ _ _ _ _ _ (h.typ.after (After.h _)) ok.typ)) | (with_reducible refine Calls.calm_of_same (typ_freed _ _ _ _ _ _ (h.typ.after (After.h _)) ok.typ)))
          | (go_at_call 50; first | (with_reducible refine Calls.calm_of (q_for _ _ _ _ _ (h.clk.afterB (After.h _)) ok.clk)) | (with_reducible refine Calls.calm_of_same (q_for _ _ _ _ _ (h.clk.afterB (After.h _)) ok.clk))))))); refine wpQuiet_nil ?_; intro _ hw'; obtain ⟨wq, hw''⟩ := hw'; subst hw''; obtain ⟨wq, hbq⟩ := wq; try dsimp only at *)
    have h3 := h.after hbq
    obtain ⟨c0, c1, c2, c5⟩ := h3.cells
    go_wp2_with (first
      | ((go_at_call 53; (with_reducible refine (typ_retype _ _ _ _ _ _ _ _ h3.typ ok.typ).mono ?_); rintro e w' ⟨rfl, ht4, hx4⟩); rw [show m.clk.quiet (m.typ.was f) (m.typ.freed f) = m.seen f from rfl] at ht4; rw [show m.clk.quiet (m.typ.was f) (m.typ.freed f) = m.seen f from rfl, HE.out]; have h4 := h3.settyp hx4 ht4; obtain ⟨c0, c1, c2, c5⟩ := h4.cells)
      | ((go_at_call 54; (with_reducible refine (mem_clear _ _ _ _ _ h4.mem ok.mem).mono ?_); rintro e w' ⟨rfl, hm5, hx5⟩); have h5 := h4.setmem hx5 hm5))
    go_ret
    refine ⟨rfl, h5, ?_⟩
    have t1 : Touch (fun x => B.own x) w _ := Touch.of_below hbq
    have t2 := t1.trans (hx4.mono (fun x _ hx => .inr (.inr hx)))
    exact t2.trans (hx5.mono (fun x _ hx => .inl hx))
  · rw [if_neg he, if_neg he]
    have HE := Lib.hid he
    go_enter Try.func11, Try.ntmps11
    go_upto_region 3 with ((go_at_call 48; (with_reducible refine (mach_none _ _ _ h).mono ?_); rintro e w' ⟨rfl, rfl⟩))
    (refine wp_region_calm (by kernel_rfl) (by kernel_rfl) ?_; (repeat (go_big_quiet_step ((first
          | (go_at_call 51; first | (with_reducible refine Calls.calm_of (typ_was _ _ _ _ _ _ (h.typ.after (After.h _)) ok.typ)) | (with_reducible refine Calls.calm_of_same (typ_was _ _ _ _ _ _ (h.typ.after (After.h _)) ok.typ)))
          | (go_at_call 52; first | (with_reducible refine Calls.calm_of (typ_freed _ _ _ _ _ _ (h.typ.after (After.h _)) ok.typ)) | (with_reducible refine Calls.calm_of_same (typ_freed _ _ _ _ _ _ (h.typ.after (After.h _)) ok.typ)))
          | (go_at_call 50; first | (with_reducible refine Calls.calm_of (q_for _ _ _ _ _ (h.clk.afterB (After.h _)) ok.clk)) | (with_reducible refine Calls.calm_of_same (q_for _ _ _ _ _ (h.clk.afterB (After.h _)) ok.clk))))))); refine wpQuiet_nil ?_; intro _ hw'; obtain ⟨wq, hw''⟩ := hw'; subst hw''; obtain ⟨wq, hbq⟩ := wq; try dsimp only at *)
    have h3 := h.after hbq
    obtain ⟨c0, c1, c2, c5⟩ := h3.cells
    go_wp2_with (first
      | ((go_at_call 53; (with_reducible refine (typ_retype _ _ _ _ _ _ _ _ h3.typ ok.typ).mono ?_); rintro e w' ⟨rfl, ht4, hx4⟩); rw [show m.clk.quiet (m.typ.was f) (m.typ.freed f) = m.seen f from rfl] at ht4; rw [show m.clk.quiet (m.typ.was f) (m.typ.freed f) = m.seen f from rfl]; rw [TypS.retype, if_neg HE.out] at ht4; have h4 := h3.settyp hx4 ht4))
    go_ret
    refine ⟨rfl, h4, ?_⟩
    have t1 : Touch (fun x => B.own x) w _ := Touch.of_below hbq
    exact t1.trans (hx4.mono (fun x _ hx => .inr (.inr hx)))
end Go.Proofs.Ytejdfdllgobnhaa
