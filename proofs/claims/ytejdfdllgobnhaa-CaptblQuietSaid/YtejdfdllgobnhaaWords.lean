/- The words of capabilities and heads: plain arithmetic. -/
import Derived.Test.YtejdfdllgobnhaaCap
set_option linter.unusedVariables false
set_option linter.unusedSimpArgs false
namespace Go.Proofs.Ytejdfdllgobnhaa
open Go.RowKit

def capNs : List Int := [4, 5, 6, 6, 16]
def headNs : List Int := [4, 1, 1]
theorem cap_wok : WOk capNs := by intro k hk; match k, hk with | 0, _ => rfl | 1, _ => rfl | 2, _ => rfl | 3, _ => rfl | 4, _ => rfl
theorem head_wok : WOk headNs := by intro k hk; match k, hk with | 0, _ => rfl | 1, _ => rfl | 2, _ => rfl
theorem or_add {acc y : Int} {o : Nat} (h0 : 0 ≤ acc) (h1 : acc < 2 ^ o) (y0 : 0 ≤ y) (y1 : y * 2 ^ o < 18446744073709551616) (ho : o ≤ 63) : bits .or .u64 acc (IntKind.u64.wrap (y * 2 ^ o)) = acc + y * 2 ^ o := by
  obtain ⟨a, rfl⟩ : ∃ a : Nat, acc = a := ⟨acc.toNat, by omega⟩
  obtain ⟨b, rfl⟩ : ∃ b : Nat, y = b := ⟨y.toNat, by omega⟩
  have e : ((b : Int) * 2 ^ o) = ((b * 2 ^ o : Nat) : Int) := by push_cast; rfl
  have e2 : ((2 : Int) ^ o) = ((2 ^ o : Nat) : Int) := by push_cast; rfl
  rw [e] at y1 ⊢
  rw [e2] at h1
  have h64 := pow_le64 (k := o) (by omega)
  rw [IntKind.wrap_u64, Int.emod_eq_of_lt (by omega) y1, u64_or_nat _ _ (by omega) (by omega), Nat.or_comm, nat_join o _ _ (by simp) (by omega)]
  omega
theorem and_mask {v : Int} {n : Nat} (h0 : 0 ≤ v) (h1 : v < 18446744073709551616) (hn : n ≤ 64) : bits .and .u64 v ((2 ^ n - 1 : Nat) : Int) = v % 2 ^ n := by
  obtain ⟨a, rfl⟩ : ∃ a : Nat, v = a := ⟨v.toNat, by omega⟩
  have h64 := pow_le64 hn
  have hp := pow_pos2 n
  rw [u64_and_nat _ _ (by omega) (by omega), Nat.and_two_pow_sub_one_eq_mod]
  push_cast; rfl

def CapS.w1 (c : CapS) : Int := c.k + c.r * 16 + c.t * 512 + c.l * 32768 + c.e * 2097152
def CapS.vs (c : CapS) : List Int := [c.k, c.r, c.t, c.l, c.e]
theorem CapS.sized_b {c : CapS} (h : c.sized = true) : (0 ≤ c.k ∧ c.k < 12) ∧ (0 ≤ c.r ∧ c.r < 32) ∧ (0 ≤ c.t ∧ c.t < 64) ∧ (0 ≤ c.l ∧ c.l < 64) ∧ (0 ≤ c.e ∧ c.e < 65536) ∧ (0 ≤ c.a ∧ c.a < 1073741825) := by
  simp [CapS.sized, inB] at h; omega
theorem cap_fits {c : CapS} (h : c.sized = true) : ∀ x, fitAt capNs c.vs x = true := by
  obtain ⟨h1, h2, h3, h4, h5, h6⟩ := CapS.sized_b h
  intro x
  match x with
  | ⟨0, _⟩ => simp [fitAt, fitsB, capNs, CapS.vs]; omega
  | ⟨1, _⟩ => simp [fitAt, fitsB, capNs, CapS.vs]; omega
  | ⟨2, _⟩ => simp [fitAt, fitsB, capNs, CapS.vs]; omega
  | ⟨3, _⟩ => simp [fitAt, fitsB, capNs, CapS.vs]; omega
  | ⟨4, _⟩ => simp [fitAt, fitsB, capNs, CapS.vs]; omega
theorem cap_packL {c : CapS} (h : c.sized = true) : packL capNs c.vs (List.finRange capNs.length) = c.w1 := by
  obtain ⟨h1, h2, h3, h4, h5, h6⟩ := CapS.sized_b h
  show bits .or .u64 (bits .or .u64 (bits .or .u64 (bits .or .u64 (bits .or .u64 0 (IntKind.u64.wrap (c.k * 2 ^ 0))) (IntKind.u64.wrap (c.r * 2 ^ 4))) (IntKind.u64.wrap (c.t * 2 ^ 9))) (IntKind.u64.wrap (c.l * 2 ^ 15))) (IntKind.u64.wrap (c.e * 2 ^ 21)) = _
  rw [or_add (acc := 0) (by omega) (by omega) (by omega) (by omega) (by omega), or_add (o := 4) (by omega) (by omega) (by omega) (by omega) (by omega), or_add (o := 9) (by omega) (by omega) (by omega) (by omega) (by omega),
    or_add (o := 15) (by omega) (by omega) (by omega) (by omega) (by omega), or_add (o := 21) (by omega) (by omega) (by omega) (by omega) (by omega)]
  unfold CapS.w1; omega
theorem cap_parts {v : Int} (h0 : 0 ≤ v) (h1 : v < 18446744073709551616) : partsI capNs v = [v % 16, v / 16 % 32, v / 512 % 64, v / 32768 % 64, v / 2097152 % 65536] := by
  show [bits .and .u64 (v / 2 ^ 0) ((2 ^ 4 - 1 : Nat) : Int), bits .and .u64 (v / 2 ^ 4) ((2 ^ 5 - 1 : Nat) : Int), bits .and .u64 (v / 2 ^ 9) ((2 ^ 6 - 1 : Nat) : Int), bits .and .u64 (v / 2 ^ 15) ((2 ^ 6 - 1 : Nat) : Int), bits .and .u64 (v / 2 ^ 21) ((2 ^ 16 - 1 : Nat) : Int)] = _
  rw [and_mask (by omega) (by omega) (by omega), and_mask (by omega) (by omega) (by omega), and_mask (by omega) (by omega) (by omega), and_mask (by omega) (by omega) (by omega), and_mask (by omega) (by omega) (by omega)]
  simp
end Go.Proofs.Ytejdfdllgobnhaa
