/- MachineSeen: awake. -/
import Derived.Test.YtejdfdllgobnhaaGreatMach5
set_option linter.unusedVariables false
set_option linter.unusedSimpArgs false
namespace Go.Proofs.YtejdfdllgobnhaaGreat
open Go.RowKit

theorem mach_cur (B : MBl) (m : Mach) (k : Nat) (w : World) (h : MachIs w B m) (ok : m.Ok) (hk : k < m.clk.n.toNat) : Calls Tryz.prog 21 #[.pointer (some ⟨B.b, 0, none⟩), .int .i64 k] w fun e w' => e = .returned (.int .i64 (B.cur k)) ∧ w = w' := by
  have c1 : w.cell? ⟨B.core k, 2, none⟩ = some (.int .i64 (B.cur k)) := by rw [cell_of (h.core k hk)]; rfl
  go_enter Tryz.func21, Tryz.ntmps21
  go_wp2_with ((go_at_call 116; (with_reducible refine (mach_core _ _ _ _ h ok hk).mono ?_); rintro e w' ⟨rfl, rfl⟩))
  go_ret
  exact ⟨rfl, rfl⟩
theorem mach_cur0 (B : MBl) (m : Mach) (w : World) (h : MachIs w B m) (ok : m.Ok) (hk : 0 < m.clk.n.toNat) : Calls Tryz.prog 21 #[.pointer (some ⟨B.b, 0, none⟩), .int .i64 0] w fun e w' => e = .returned (.int .i64 (B.cur 0)) ∧ w = w' := mach_cur B m 0 w h ok hk
theorem MemS.zero_ok {n : Nat} (h1 : 1 ≤ n) (h64 : n ≤ 64) : (⟨n, fun _ _ => 0⟩ : MemS).Ok := ⟨h1, h64, fun _ _ => Int.le_refl _, fun _ _ => by show (0 : Int) < _; omega⟩
theorem TypS.new_ok {n : Nat} (h1 : 1 ≤ n) (h64 : n ≤ 64) : (TypS.new n).Ok := by
  constructor <;> first | exact h1 | exact h64 | (intro f; simp [TypS.new])
theorem Mach.new_ok {F C : Nat} {p r : Int} (ok : CfgOk F C p r) : (⟨⟨F, fun _ _ => 0⟩, Clk.new C, TypS.new F⟩ : Mach).Ok :=
  ⟨MemS.zero_ok (by have := ok.f1; omega) (by have := ok.f64; omega), Clk.new_ok (by omega) (by have := ok.c4; omega), TypS.new_ok (by have := ok.f1; omega) (by have := ok.f64; omega), ok.c1⟩
theorem cfg11 : CfgOk (1 : Nat) (1 : Nat) 0 0 := by constructor <;> decide
theorem awake25 (w : World) : Calls Tryz.prog 16 #[] w fun e w' => e = .returned (.bool true) ∧ Below w.heap.size w w' := by
  have hn : Calls Tryz.prog 13 #[.agg #[.int .i64 1, .int .i64 1, .int .i64 0, .int .i64 0]] w fun e w' => ∃ B : MBl,
    e = .returned (.tuple #[.pointer (some ⟨B.b, 0, none⟩), .int .i64 0]) ∧ MachIs w' B ⟨⟨1, fun _ _ => 0⟩, Clk.new 1, TypS.new 1⟩ ∧ (∀ x, B.own x → w.heap.size ≤ x) ∧ Below w.heap.size w w' ∧ (∀ k, B.cur k = -1) := mach_new 1 1 0 0 w cfg11
  have okm : (⟨⟨1, fun _ _ => 0⟩, Clk.new 1, TypS.new 1⟩ : Mach).Ok := Mach.new_ok cfg11
  go_enter Tryz.func16, Tryz.ntmps16
  go_wp2_with (first
    | ((go_at_call 13; (with_reducible refine (hn).mono ?_); rintro e w' ⟨B, rfl, hM, hown, hbw, hcur⟩))
    | ((go_at_call 83; (with_reducible refine (mach_cores _ _ _ hM).mono ?_); rintro e w' ⟨rfl, rfl⟩))
    | ((go_at_call 21; (with_reducible refine (mach_cur0 _ _ _ hM okm (by decide)).mono ?_); rintro e w' ⟨rfl, rfl⟩); rw [hcur 0]))
  go_ret
  exact ⟨rfl, hbw⟩
end Go.Proofs.YtejdfdllgobnhaaGreat
