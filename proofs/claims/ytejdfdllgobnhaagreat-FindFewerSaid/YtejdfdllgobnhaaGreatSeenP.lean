/- MachineSeen: the plain law. -/
import Derived.Test.YtejdfdllgobnhaaGreatSeenA
set_option linter.unusedVariables false
set_option linter.unusedSimpArgs false
namespace Go.Proofs.YtejdfdllgobnhaaGreat
open Go.RowKit
set_option linter.unusedSectionVars false

def SM0 (C : Nat) : Mach := ⟨⟨1, fun _ _ => 0⟩, Clk.new C, TypS.new 1⟩
def SM1 (C : Nat) : Mach := { SM0 C with clk := (Clk.new C).step 0 }
def SM2 (C : Nat) (kd : Int) : Mach := (SM1 C).retype 0 kd
def SM3 (C : Nat) (kd x : Int) : Mach := { SM2 C kd with mem := (SM2 C kd).mem.store 0 7 x }
def SM4 (C : Nat) (kd x : Int) (pg : Bool) : Mach := { SM3 C kd x with typ := (SM3 C kd x).typ.untype 0 1 pg }
def SM5 (C : Nat) (kd x : Int) (pg : Bool) : Mach := { SM4 C kd x pg with clk := (SM4 C kd x pg).clk.step 0 }
def SMc (C : Nat) (kd x : Int) (pg : Bool) (c : Clk) : Mach := { SM5 C kd x pg with clk := c }

section
variable {C : Nat} {kd x : Int} {pg : Bool} (h1 : 1 ≤ C) (h4 : C ≤ 4) (hk : kd = 1 ∨ kd = 2)
include h1

theorem can0 : (Clk.new (C : Int)).can 0 = 0 := by unfold Clk.can Clk.new; dsimp only; rw [if_neg (by omega), if_neg (by omega), if_neg (by omega)]
theorem step0 : (Clk.new (C : Int)).step 0 = { Clk.new (C : Int) with now := 1, cy := upd (fun _ => 0) 0 1 } := by
  have := Clk.goes (can0 h1) (by simp [Clk.new])
  rw [this.2]; simp [Clk.new]
theorem sm1_seen : (SM1 C).seen 0 = true := by
  simp [Mach.seen, SM1, SM0, TypS.was, TypS.can, TypS.new, Clk.quiet]
include hk
theorem sm1_tE : (SM1 C).typ.retypeE 0 kd true = 0 := by
  rcases hk with rfl | rfl <;> simp [SM1, SM0, TypS.retypeE, TypS.can, TypS.new]
theorem sm1_E : (SM1 C).retypeE 0 kd = 0 := by
  rw [Mach.retypeE, sm1_seen h1, if_pos (sm1_tE h1 hk)]; simp [SM1, SM0, MemS.can]
theorem sm2_eq : SM2 C kd = ⟨⟨1, upd (fun _ _ => 0) 0 (fun _ => 0)⟩, (Clk.new (C : Int)).step 0, { TypS.new 1 with k := upd (fun _ => 0) 0 kd }⟩ := by
  rw [SM2, Mach.retype, sm1_seen h1, if_pos (sm1_tE h1 hk)]
  have e : (SM1 C).typ.retype 0 kd true = { TypS.new 1 with k := upd (fun _ => 0) 0 kd } := by
    rw [TypS.retype, if_pos (sm1_tE h1 hk)]; simp [SM1, SM0, TypS.new]
  rw [e]
  simp [SM1, SM0, MemS.clear, MemS.can]
end
end Go.Proofs.YtejdfdllgobnhaaGreat
