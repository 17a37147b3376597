/- The program's memory and the reference's, with the same words. -/
import Derived.Test.YtejdfdllgobnhaaGreatGRe
import Derived.Test.YtejdfdllgobnhaaGreatGTab
import Derived.Test.YtejdfdllgobnhaaGreatMem3
set_option linter.unusedVariables false
set_option linter.unusedSimpArgs false
namespace Go.Proofs.YtejdfdllgobnhaaGreat
open Go.RowKit
structure Two (w : World) (a g : Nat) (B : RMB) (m : MemS) : Prop where
  p : MemIs w a g m
  r : RMemIs w B m
  ok : m.Ok
  gv : g ≠ B.v
  gb : g ≠ B.b
  gf : ¬ B.own m.n g
  af : ¬ B.own m.n a
/-- What an act on both may change. -/
def RMB.two (B : RMB) (g n : Nat) (x : Nat) : Prop := x = g ∨ B.own n x
theorem Two.after {w w' : World} {a g : Nat} {B : RMB} {m : MemS} (h : Two w a g B m) (hb : Below w.heap.size w w') : Two w' a g B m := ⟨h.p.after hb, h.r.after hb, h.ok, h.gv, h.gb, h.gf, h.af⟩
theorem Two.rkeep {w w' : World} {a g : Nat} {B : RMB} {m : MemS} (h : Two w a g B m) (ht : Touch (· = g) w w') : RMemIs w' B m :=
  h.r.touch ht (fun e => h.gv e.symm) (fun e => h.gb e.symm) (fun j hj e => h.gf ⟨j, hj, e.symm⟩)
theorem Two.both {w w1 w' : World} {a g : Nat} {B : RMB} {m m' : MemS} (h : Two w a g B m) (hp : MemIs w1 a g m') (h2 : Touch (B.own m.n) w1 w') (hr : RMemIs w' B m') (ok : m'.Ok) (hn : m'.n = m.n) : Two w' a g B m' :=
  ⟨hp.touch h2 h.af h.gf, hr, ok, h.gv, h.gb, by rw [hn]; exact h.gf, by rw [hn]; exact h.af⟩
theorem touch_two {w w1 w' : World} {g n : Nat} {B : RMB} (h1 : Touch (· = g) w w1) (h2 : Touch (B.own n) w1 w') : Touch (B.two g n) w w' :=
  (h1.mono (fun _ _ hx => .inl hx)).trans (h2.mono (fun _ _ hx => .inr hx))
theorem tbl_Room (a g : Nat) (m : MemS) (root n fl : Int) (w : World) (h : MemIs w a g m) (ok : m.Ok) : Calls Tryz.prog 55 #[.pointer (some ⟨a, 0, none⟩), .int .i64 root, .int .i64 n, .int .i64 fl] w fun e w' =>
    e = .returned (.int .i64 (roomE m root n fl)) ∧ Below w.heap.size w w' := by
  have RM := fun w h => tbl_room a g m root n fl w h ok
  generalize roomE m root n fl = E at *
  generalize roomP m root n = P at *
  obtain ⟨pf, pi, pz⟩ := P
  unfold PlaceS.v at RM
  dsimp only at RM
  go_enter Tryz.func55, Tryz.ntmps55
  go_wp2_with ((go_at_call 130; (with_reducible refine (RM _ h).mono ?_); rintro e w' ⟨rfl, hx⟩); have hB := hx.alloc hx.size (.cells #[.int .i64 pf, .int .i64 pi, .bool pz] 202 (0, 0)))
  go_ret
  exact ⟨rfl, hB⟩
theorem MemS.clear_has (m : MemS) (f : Int) : (m.clear f).n = m.n := MemS.clear_n m f
theorem MemS.tput_n (m : MemS) (r n : Int) (c : CapS) (fl : Int) : (m.tput r n c fl).n = m.n := by unfold MemS.tput; split <;> first | rfl | exact slot_n _ _ _ _
theorem MemS.drop_n (m : MemS) (r n now : Int) : (m.drop r n now).n = m.n := by unfold MemS.drop; split <;> first | rfl | exact slot_n _ _ _ _
theorem MemS.cons_n (m : MemS) (r h l fl : Int) : (m.cons r h l fl).n = m.n := by unfold MemS.cons; split <;> first | rfl | exact slot_n _ _ _ _
theorem MemS.decons_n (m : MemS) (r n now fl : Int) : (m.decons r n now fl).n = m.n := by unfold MemS.decons; split <;> first | rfl | exact slot_n _ _ _ _
theorem MemS.freeze_n (m : MemS) (f now : Int) : (m.freeze f now).n = m.n := by unfold MemS.freeze; split <;> first | rfl | exact head_n _ _ _
end Go.Proofs.YtejdfdllgobnhaaGreat
