/- Bits of words (package field). -/
import Derived.Test.YtejdfdllgobnhaaProg
import Derived.Test.YtejdfdllgobnhaaBase
import Derived.Laws.BitsAllLaws
import Derived.Deep.DeepCutAuto
import Derived.Deep.Cut
import Derived.Deep.CutBlock
import Derived.Deep.Light
set_option linter.unusedVariables false
set_option linter.unusedSimpArgs false
namespace Go.Proofs.Ytejdfdllgobnhaa
open Go.RowKit

def maskN (n : Int) : Nat := 2 ^ n.toNat - 1
theorem pow_pos2 (k : Nat) : 1 ≤ 2 ^ k := Nat.one_le_two_pow
theorem pow_le64 {k : Nat} (h : k ≤ 64) : 2 ^ k ≤ 18446744073709551616 := by
  have := Nat.pow_le_pow_right (n := 2) (by decide) h
  simpa using this
theorem ones_step {k : Nat} (hk : k < 64) : bits .or .u64 (IntKind.u64.wrap (((2 ^ k - 1 : Nat) : Int) * 2)) 1 = ((2 ^ (k + 1) - 1 : Nat) : Int) := by
  have h1 := pow_pos2 k
  have h2 : 2 ^ (k + 1) = 2 * 2 ^ k := by rw [Nat.pow_succ]; omega
  have h3 := pow_le64 (k := k + 1) (by omega)
  have e : IntKind.u64.wrap (((2 ^ k - 1 : Nat) : Int) * 2) = ((2 * (2 ^ k - 1) : Nat) : Int) := by
    rw [IntKind.wrap_u64]; omega
  rw [e, show (1 : Int) = ((1 : Nat) : Int) from rfl, u64_or_nat _ _ (by omega) (by omega), nat_join 1 _ _ (by omega) (by decide)]
  omega

set_option maxHeartbeats 1000000 in
theorem f_ones (n : Int) (w : World) (h64 : n ≤ 64) : Calls Try.prog 129 #[.int .i64 n] w fun e w' => e = .returned (.int .u64 (maskN n)) ∧ w = w' := by
  by_cases hn : n ≤ 0
  · have e : maskN n = 0 := by unfold maskN; have : n.toNat = 0 := by omega
                               rw [this]
    rw [e]
    clear e
    go_enter Try.func129, Try.ntmps129
    go_wp2
    go_ret
    exact ⟨rfl, rfl⟩
  · go_enter Try.func129, Try.ntmps129
    go_upto_block 0 with (fail)
    go_cut [3] (fun x wr => x = .int .u64 (maskN n) ∧ wr = w)
    case first =>
      go_wp2
      go_loopw [3, 8] (fun x i wr => ∃ k : Nat, (k : Int) ≤ n ∧ x = .int .u64 ((2 ^ k - 1 : Nat) : Int) ∧ i = .int .i64 k ∧ wr = w) (fun x i _ => 64 - (intOf i).toNat)
      case atStart => exact ⟨0, by omega, rfl, rfl, rfl⟩
      case round =>
        obtain ⟨k, hk, rfl, rfl, rfl⟩ := hrel
        by_cases hin : (k : Int) < n
        · have hs := ones_step (k := k) (by omega)
          go_wp2
          exact ⟨⟨k + 1, by omega, rfl, by go_num, trivial⟩, by simp [intOf]; omega⟩
        · have e : maskN n = 2 ^ k - 1 := by unfold maskN; have : n.toNat = k := by omega
                                             rw [this]
          go_wp2
          go_meet
          exact ⟨by rw [e], rfl⟩
    case rest =>
      obtain ⟨rfl, rfl⟩ := hcut
      go_wp2
      go_ret
      exact ⟨rfl, rfl⟩
theorem f_mask (n : Int) (w : World) (h64 : n ≤ 64) : Calls Try.prog 125 #[.int .i64 n] w fun e w' => e = .returned (.int .u64 (maskN n)) ∧ w = w' := by
  go_enter Try.func125, Try.ntmps125
  go_wp2_with ((go_at_call 129; (with_reducible refine (f_ones _ _ h64).mono ?_); rintro e w' ⟨rfl, rfl⟩))
  go_ret
  exact ⟨rfl, rfl⟩
theorem nat_notmask {x k : Nat} (hx : x < 18446744073709551616) (hk : k ≤ 64) : x &&& (18446744073709551615 - (2 ^ k - 1)) = x / 2 ^ k * 2 ^ k := by
  have h0 := pow_pos2 k
  have h1 := pow_le64 hk
  have e : 18446744073709551615 - (2 ^ k - 1) = (2 ^ (64 - k) - 1) <<< k := by
    rw [Nat.shiftLeft_eq, Nat.sub_mul, ← Nat.pow_add, Nat.sub_add_cancel hk]
    omega
  rw [e, ← Nat.shiftLeft_eq, ← Nat.shiftRight_eq_div_pow]
  apply Nat.eq_of_testBit_eq
  intro i
  rw [Nat.testBit_and, Nat.testBit_shiftLeft, Nat.testBit_shiftLeft, Nat.testBit_two_pow_sub_one, Nat.testBit_shiftRight]
  by_cases hi : k ≤ i
  · rw [show k + (i - k) = i by omega]
    by_cases h64 : i < 64
    · simp [hi, show i - k < 64 - k by omega]
    · have : x.testBit i = false := Nat.testBit_lt_two_pow (Nat.lt_of_lt_of_le (by simpa using hx) (Nat.pow_le_pow_right (n := 2) (by decide) (show 64 ≤ i by omega)))
      simp [this]
  · simp [hi]
/-- Has a word no bits from the n-th on? -/
def fitsB (v n : Int) : Bool := decide (v < 2 ^ n.toNat)
theorem fits_bits {v n : Int} (h0 : 0 ≤ v) (h1 : v < 18446744073709551616) (h64 : n ≤ 64) : (bits .andNot .u64 v (maskN n) == 0) = fitsB v n := by
  obtain ⟨x, rfl⟩ : ∃ x : Nat, v = x := ⟨v.toNat, by omega⟩
  obtain ⟨k, hk⟩ : ∃ k : Nat, n.toNat = k := ⟨_, rfl⟩
  have hm : maskN n < 18446744073709551616 := by have := pow_le64 (k := n.toNat) (by omega); have := pow_pos2 n.toNat; unfold maskN; omega
  rw [u64_andNot_nat _ _ (by omega) hm]
  unfold maskN fitsB
  rw [hk, nat_notmask (by omega) (by omega)]
  have hp := pow_pos2 k
  have e : ((2 : Int) ^ k) = ((2 ^ k : Nat) : Int) := by simp
  rw [e]
  by_cases h : x < 2 ^ k
  · rw [Nat.div_eq_of_lt h]; simp; exact_mod_cast h
  · have hd : 1 ≤ x / 2 ^ k := (Nat.le_div_iff_mul_le hp).2 (by omega)
    have hne : x / 2 ^ k * 2 ^ k ≠ 0 := Nat.mul_ne_zero (by omega) (by omega)
    have h2 : ¬ ((x : Int) < ((2 ^ k : Nat) : Int)) := by omega
    rw [decide_eq_false h2]
    simp only [beq_eq_false_iff_ne, ne_eq]; omega
theorem f_fits (v n : Int) (w : World) (h0 : 0 ≤ v) (h1 : v < 18446744073709551616) (h64 : n ≤ 64) : Calls Try.prog 121 #[.int .u64 v, .int .i64 n] w fun e w' => e = .returned (.bool (fitsB v n)) ∧ w = w' := by
  have hf := fits_bits h0 h1 h64
  go_enter Try.func121, Try.ntmps121
  go_wp2_with ((go_at_call 125; (with_reducible refine (f_mask _ _ h64).mono ?_); rintro e w' ⟨rfl, rfl⟩))
  go_ret
  exact ⟨by rw [← hf]; rfl, rfl⟩
def canB (at_ n : Int) : Bool := decide (0 ≤ at_) && decide (at_ ≤ 64) && decide (1 ≤ n) && decide (n ≤ 64) && decide (at_ + n ≤ 64)
theorem f_can (a n : Int) (w : World) : Calls Try.prog 128 #[.int .i64 a, .int .i64 n] w fun e w' => e = .returned (.bool (canB a n)) ∧ w = w' := by
  by_cases h1 : a < 0
  · go_enter Try.func128, Try.ntmps128
    go_wp2
    go_ret
    exact ⟨by simp [canB]; omega, rfl⟩
  by_cases h2 : 64 < a
  · go_enter Try.func128, Try.ntmps128
    go_wp2
    go_ret
    exact ⟨by simp [canB]; omega, rfl⟩
  by_cases h3 : n < 1
  · go_enter Try.func128, Try.ntmps128
    go_wp2
    go_ret
    exact ⟨by simp [canB]; omega, rfl⟩
  by_cases h4 : 64 < n
  · go_enter Try.func128, Try.ntmps128
    go_wp2
    go_ret
    exact ⟨by simp [canB]; omega, rfl⟩
  go_enter Try.func128, Try.ntmps128
  go_wp2
  go_ret
  exact ⟨by simp [canB]; omega, rfl⟩
end Go.Proofs.Ytejdfdllgobnhaa
