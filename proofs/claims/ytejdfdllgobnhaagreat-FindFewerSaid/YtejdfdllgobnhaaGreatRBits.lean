/- Rights: 'r &^ c == 0' is 'c & r == r'. -/
import Derived.WalkKit
import Derived.Laws.BitsLemmas
import Derived.Test.YtejdfdllgobnhaaGreatProg
set_option linter.unusedVariables false
set_option linter.unusedSimpArgs false
namespace Go.Proofs.YtejdfdllgobnhaaGreat
open Go.RowKit
theorem i64_toInt (x : BitVec 64) : IntKind.i64.wrap (x.toNat : Nat) = x.toInt := by
  rw [IntKind.wrap_i64, BitVec.toInt_eq_toNat_bmod, Int.bmod_def]
  have := x.isLt
  simp
  split <;> omega
theorem i64_ofInt {r : Int} (h0 : -9223372036854775808 ≤ r) (h1 : r < 9223372036854775808) : (BitVec.ofInt 64 r).toInt = r := by
  rw [BitVec.toInt_ofInt, Int.bmod_def]
  simp
  split <;> omega
theorem not_iff (x y : BitVec 64) : x &&& ~~~y = 0 ↔ y &&& x = x := by
  constructor
  · intro h
    apply BitVec.eq_of_getLsbD_eq
    intro i hi
    have := congrArg (·.getLsbD i) h
    simp [hi] at this ⊢
    intro hx; exact this hx
  · intro h
    apply BitVec.eq_of_getLsbD_eq
    intro i hi
    have := congrArg (·.getLsbD i) h
    simp [hi] at this ⊢
    intro hx; exact this hx
theorem andNot_eq (r c : Int) : bits .andNot .i64 r c = (BitVec.ofInt 64 r &&& ~~~(BitVec.ofInt 64 c)).toInt := i64_toInt _
theorem and_eq (r c : Int) : bits .and .i64 r c = (BitVec.ofInt 64 r &&& BitVec.ofInt 64 c).toInt := i64_toInt _
theorem andNot_zero {r c : Int} (h0 : -9223372036854775808 ≤ r) (h1 : r < 9223372036854775808) : bits .andNot .i64 r c = 0 ↔ bits .and .i64 c r = r := by
  rw [andNot_eq, and_eq]
  constructor
  · intro h
    have : (BitVec.ofInt 64 r &&& ~~~(BitVec.ofInt 64 c)) = 0 := BitVec.eq_of_toInt_eq (by rw [h]; rfl)
    rw [(not_iff _ _).1 this, i64_ofInt h0 h1]
  · intro h
    have : (BitVec.ofInt 64 c &&& BitVec.ofInt 64 r) = BitVec.ofInt 64 r := BitVec.eq_of_toInt_eq (by rw [h, i64_ofInt h0 h1])
    rw [(not_iff _ _).2 this]; rfl
theorem and_range (r s : Int) : -9223372036854775808 ≤ bits .and .i64 r s ∧ bits .and .i64 r s < 9223372036854775808 := by
  rw [and_eq]
  have a := BitVec.le_toInt (BitVec.ofInt 64 r &&& BitVec.ofInt 64 s)
  have b := BitVec.toInt_lt (x := BitVec.ofInt 64 r &&& BitVec.ofInt 64 s)
  exact ⟨by simpa using a, by simpa using b⟩
/-- With fewer rights, too. -/
theorem andNot_fewer {r s c : Int} (h : bits .andNot .i64 r c = 0) : bits .andNot .i64 (bits .and .i64 r s) c = 0 := by
  rw [andNot_eq] at h ⊢
  have h' : (BitVec.ofInt 64 r &&& ~~~(BitVec.ofInt 64 c)) = 0 := BitVec.eq_of_toInt_eq (by rw [h]; rfl)
  rw [and_eq]
  have e : BitVec.ofInt 64 (BitVec.ofInt 64 r &&& BitVec.ofInt 64 s).toInt = BitVec.ofInt 64 r &&& BitVec.ofInt 64 s := BitVec.ofInt_toInt
  rw [e]
  have : BitVec.ofInt 64 r &&& BitVec.ofInt 64 s &&& ~~~BitVec.ofInt 64 c = 0 := by
    apply BitVec.eq_of_getLsbD_eq
    intro i hi
    have := congrArg (·.getLsbD i) h'
    simp [hi] at this ⊢
    intro hx _; exact this hx
  rw [this]; rfl
end Go.Proofs.YtejdfdllgobnhaaGreat
