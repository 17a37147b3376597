/- Several texts in one: R01, R01b. -/
import Derived.Test.YtejdfdllgobnhaaGreatGWord
import Derived.Deep.DeepCutAuto
import Derived.Deep.Cut
import Derived.Deep.CutBlock
import Derived.Test.YtejdfdllgobnhaaGreatGRef
/- R01 -/
set_option linter.unusedVariables false
set_option linter.unusedSimpArgs false
namespace Go.Proofs.YtejdfdllgobnhaaGreat
open Go.RowKit

def sumb (f : Nat → Bool) : Nat → Nat
  | 0 => 0
  | k + 1 => sumb f k + if f k then 2 ^ k else 0
theorem sumb_mod {f : Nat → Bool} {T : Nat} : ∀ {k : Nat}, (∀ i, i < k → T.testBit i = f i) → sumb f k = T % 2 ^ k
  | 0, _ => by simp [sumb, Nat.mod_one]
  | k + 1, h => by
    rw [Nat.mod_pow_succ, sumb, sumb_mod (k := k) (fun i hi => h i (by omega)), ← h k (by omega), Nat.testBit_eq_decide_div_mod_eq]
    rcases Nat.mod_two_eq_zero_or_one (T / 2 ^ k) with e | e <;> simp [e]
theorem sumb_lt {f : Nat → Bool} : ∀ {k : Nat}, sumb f k < 2 ^ k
  | 0 => by simp [sumb]
  | k + 1 => by
    have := sumb_lt (f := f) (k := k)
    rw [sumb, Nat.pow_succ]
    split <;> omega
theorem get_sum (x a k : Nat) : sumb (fun i => x.testBit (a + i)) k = x / 2 ^ a % 2 ^ k :=
  sumb_mod (fun i _ => by rw [Nat.testBit_div_two_pow, Nat.add_comm])
def onB (x a n v i : Nat) : Bool := if a ≤ i ∧ i < a + n then v.testBit (i - a) else x.testBit i
theorem put_sum {x a n v : Nat} (hx : x < 2 ^ a) (hv : v < 2 ^ n) (hn : a + n ≤ 64) : sumb (onB x a n v) 64 = x + v * 2 ^ a := by
  have hT : x + v * 2 ^ a < 2 ^ 64 := by
    have h1 : (v + 1) * 2 ^ a ≤ 2 ^ n * 2 ^ a := Nat.mul_le_mul_right _ hv
    rw [← Nat.pow_add, Nat.add_mul] at h1
    have h2 : 2 ^ (n + a) ≤ 2 ^ 64 := Nat.pow_le_pow_right (by decide) (by omega)
    omega
  rw [sumb_mod (T := x + v * 2 ^ a), Nat.mod_eq_of_lt hT]
  intro i _
  rw [show x + v * 2 ^ a = 2 ^ a * v + x by rw [Nat.mul_comm, Nat.add_comm], Nat.testBit_two_pow_mul_add _ hx]
  unfold onB
  by_cases h1 : i < a
  · rw [if_pos h1, if_neg (by omega)]
  · rw [if_neg h1]
    by_cases h2 : i < a + n
    · rw [if_pos ⟨by omega, h2⟩]
    · rw [if_neg (by omega), Nat.testBit_lt_two_pow (Nat.lt_of_lt_of_le hv (Nat.pow_le_pow_right (by decide) (by omega))), Nat.testBit_lt_two_pow (Nat.lt_of_lt_of_le hx (Nat.pow_le_pow_right (by decide) (by omega)))]
theorem bit_val (x i : Nat) (hx : x < 18446744073709551616) : (bits .and .u64 (((x : Nat) : Int) / 2 ^ i) 1 == 1) = x.testBit i := by
  have e : (((x : Nat) : Int) / 2 ^ i) = ((x / 2 ^ i : Nat) : Int) := by push_cast; rfl
  have hl : x / 2 ^ i < 18446744073709551616 := Nat.lt_of_le_of_lt (Nat.div_le_self _ _) hx
  rw [e, show (1 : Int) = ((1 : Nat) : Int) from rfl, u64_and_nat _ _ hl (by decide), Nat.and_one_is_mod, Nat.testBit_eq_decide_div_mod_eq]
  rw [Bool.eq_iff_iff]
  simp
  omega
theorem r01_bit (x i : Nat) (w : World) (hx : x < 18446744073709551616) (hi : i < 64) : Calls Tryz.prog 257 #[.int .u64 x, .int .i64 i] w fun e w' => e = .returned (.bool (x.testBit i)) ∧ w = w' := by
  have hb := bit_val x i hx
  go_enter Tryz.func257, Tryz.ntmps257
  go_wp2
  go_ret
  exact ⟨rfl, rfl⟩
theorem sumb_step (f : Nat → Bool) {k : Nat} (hk : k < 64) : IntKind.u64.wrap ((sumb f k : Nat) + IntKind.u64.wrap (2 ^ k)) = ((sumb f k + 2 ^ k : Nat) : Int) := by
  have h1 := sumb_lt (f := f) (k := k)
  have h2 : 2 ^ k ≤ 2 ^ 63 := Nat.pow_le_pow_right (by decide) (by omega)
  have e : ((2 : Int) ^ k) = ((2 ^ k : Nat) : Int) := by push_cast; rfl
  rw [IntKind.wrap_u64, IntKind.wrap_u64, e]
  omega
theorem r01_can (a n : Nat) (w : World) (hn : 1 ≤ n) (ha : a + n ≤ 64) : Calls Tryz.prog 256 #[.int .i64 a, .int .i64 n] w fun e w' => e = .returned (.bool true) ∧ w = w' := by
  have h1 : (n : Int) ≤ 64 := by omega
  have h2 : (a : Int) ≤ 64 - n := by omega
  go_enter Tryz.func256, Tryz.ntmps256
  go_wp2
  go_ret
  exact ⟨ret_bool (by simp), rfl⟩
set_option maxHeartbeats 1000000 in
theorem r01_get (x a n : Nat) (w : World) (hx : x < 18446744073709551616) (hn : 1 ≤ n) (ha : a + n ≤ 64) : Calls Tryz.prog 244 #[.int .u64 x, .int .i64 a, .int .i64 n] w fun e w' => e = .returned (.tuple #[.int .u64 ((x / 2 ^ a % 2 ^ n : Nat) : Int), .int .i64 0]) ∧ w = w' := by
  have hs := Lib.hid (get_sum x a n)
  go_enter Tryz.func244, Tryz.ntmps244
  go_upto_block 0 with ((go_at_call 256; (with_reducible refine (r01_can a n _ hn ha).mono ?_); rintro e w' ⟨rfl, rfl⟩))
  go_cut [8] (fun v wr => v = .int .u64 ((x / 2 ^ a % 2 ^ n : Nat) : Int) ∧ wr = w)
  case first =>
    go_wp2
    go_loopw [8, 9] (fun v i wr => ∃ k : Nat, k ≤ n ∧ i = .int .i64 k ∧ v = .int .u64 (sumb (fun i => x.testBit (a + i)) k : Nat) ∧ wr = w) (fun _ i _ => n - (intOf i).toNat)
    case atStart => exact ⟨0, by omega, rfl, rfl, rfl⟩
    case round =>
      obtain ⟨k, hk, rfl, rfl, rfl⟩ := hrel
      by_cases hlt : k < n
      · have hlt' : (k : Int) < n := by omega
        have hst := sumb_step (fun i => x.testBit (a + i)) (k := k) (by omega)
        have BT := r01_bit x (a + k) wr hx (by omega)
        have hsu : Hid (sumb (fun i => x.testBit (a + i)) (k + 1) = sumb (fun i => x.testBit (a + i)) k + if x.testBit (a + k) = true then 2 ^ k else 0) := rfl
        have ea : ((a + k : Nat) : Int) = (a : Int) + k := by omega
        rw [ea] at BT
        generalize sumb (fun i => x.testBit (a + i)) k = S at *
        generalize x.testBit (a + k) = b at *
        cases b
        · go_wp2_with ((go_at_call 257; (with_reducible refine (BT).mono ?_); rintro e w' ⟨rfl, rfl⟩))
          exact ⟨⟨k + 1, by omega, by go_num, by rw [hsu.out]; simp, trivial⟩, by simp [intOf]; omega⟩
        · go_wp2_with ((go_at_call 257; (with_reducible refine (BT).mono ?_); rintro e w' ⟨rfl, rfl⟩))
          exact ⟨⟨k + 1, by omega, by go_num, by rw [hsu.out]; simp, trivial⟩, by simp [intOf]; omega⟩
      · obtain rfl : n = k := by omega
        go_wp2
        go_meet
        exact ⟨by rw [hs.out], rfl⟩
  case rest =>
    obtain ⟨rfl, rfl⟩ := hcut
    go_wp2
    go_ret2
    exact ⟨rfl, rfl⟩
theorem fits_no {v n i : Nat} (h : v.testBit i = true) (hi : n ≤ i) : ¬ v < 2 ^ n := fun hv => by
  rw [Nat.testBit_lt_two_pow (Nat.lt_of_lt_of_le hv (Nat.pow_le_pow_right (by decide) hi))] at h; cases h
theorem fits_yes {v n : Nat} (hv : v < 18446744073709551616) (h : ∀ i, i < 64 → ¬ (v.testBit i = true ∧ n ≤ i)) : v < 2 ^ n := by
  apply Nat.lt_pow_two_of_testBit
  intro i hi
  by_cases h64 : i < 64
  · rw [Bool.eq_false_iff]; exact fun e => h i h64 ⟨e, hi⟩
  · exact Nat.testBit_lt_two_pow (Nat.lt_of_lt_of_le (show v < 2 ^ 64 by simpa using hv) (Nat.pow_le_pow_right (by decide) (by omega)))
set_option maxHeartbeats 1000000 in
theorem r01_fits (v n : Nat) (w : World) (hv : v < 18446744073709551616) : Calls Tryz.prog 245 #[.int .u64 v, .int .i64 n] w fun e w' => e = .returned (.bool (decide (v < 2 ^ n))) ∧ w = w' := by
  have HN := fun i => @fits_no v n i
  have HY := @fits_yes v n hv
  generalize hD : decide (v < 2 ^ n) = D at *
  have hD1 : D = true ↔ v < 2 ^ n := by rw [← hD]; simp
  clear hD
  go_enter Tryz.func245, Tryz.ntmps245
  go_wp2
  go_loopw [5] (fun i wr => ∃ k : Nat, k ≤ 64 ∧ i = .int .i64 k ∧ (∀ j, j < k → ¬ (v.testBit j = true ∧ n ≤ j)) ∧ wr = w) (fun i _ => 64 - (intOf i).toNat)
  case atStart => exact ⟨0, by omega, rfl, fun j hj => by omega, rfl⟩
  case round =>
    obtain ⟨k, hk, rfl, hall, rfl⟩ := hrel
    by_cases hlt : k < 64
    · have hlt' : (k : Int) < 64 := by omega
      have BT := r01_bit v k wr hv hlt
      have h0 := HN k
      generalize hb : v.testBit k = b at *
      have HB := Lib.hid hb
      cases b
      · clear hb
        go_wp2_with ((go_at_call 257; (with_reducible refine (BT).mono ?_); rintro e w' ⟨rfl, rfl⟩))
        go_roundw
        case rel => exact ⟨k + 1, by omega, by go_num, fun j hj => by
          by_cases e : j = k
          · subst e; rw [HB.out]; simp
          · exact hall j (by omega), trivial⟩
        case measure => simp [intOf]; omega
      · by_cases hnk : n ≤ k
        · have hnk' : (n : Int) ≤ k := by omega
          have hz := h0 rfl hnk
          obtain rfl : D = false := by
            cases D
            · rfl
            · exact absurd (hD1.1 rfl) hz
          clear hb h0 hz hD1
          go_wp2_with ((go_at_call 257; (with_reducible refine (BT).mono ?_); rintro e w' ⟨rfl, rfl⟩))
          go_ret
          exact ⟨rfl, rfl⟩
        · have hnk' : ¬ (n : Int) ≤ k := by omega
          clear hb h0
          go_wp2_with ((go_at_call 257; (with_reducible refine (BT).mono ?_); rintro e w' ⟨rfl, rfl⟩))
          go_roundw
          case rel => exact ⟨k + 1, by omega, by go_num, fun j hj => by
            by_cases e : j = k
            · subst e; exact fun h => hnk h.2
            · exact hall j (by omega), trivial⟩
          case measure => simp [intOf]; omega
    · obtain rfl : 64 = k := by omega
      obtain rfl : D = true := hD1.2 (HY hall)
      clear hD1 HY HN hall
      go_wp2
      go_ret
      exact ⟨rfl, rfl⟩
theorem r01_can_put (a n : Nat) : 1 ≤ n → a + n ≤ 64 → (n : Int) ≤ 64 ∧ (a : Int) ≤ 64 - n := by omega
set_option maxHeartbeats 2000000 in
theorem r01_put (x a n v : Nat) (w : World) (hx : x < 2 ^ a) (hv : v < 2 ^ n) (hn : 1 ≤ n) (ha : a + n ≤ 64) : Calls Tryz.prog 248 #[.int .u64 x, .int .i64 a, .int .i64 n, .int .u64 v] w fun e w' =>
    e = .returned (.tuple #[.int .u64 ((x + v * 2 ^ a : Nat) : Int), .int .i64 0]) ∧ w = w' := by
  have hs := Lib.hid (put_sum hx hv ha)
  have hv64 : v < 18446744073709551616 := Nat.lt_of_lt_of_le hv (show 2 ^ n ≤ 2 ^ 64 from Nat.pow_le_pow_right (by decide) (by omega))
  have hx64 : x < 18446744073709551616 := Nat.lt_of_lt_of_le hx (show 2 ^ a ≤ 2 ^ 64 from Nat.pow_le_pow_right (by decide) (by omega))
  have FT := fun w => r01_fits v n w hv64
  rw [decide_eq_true hv] at FT
  generalize x + v * 2 ^ a = R at *
  clear hx hv
  go_enter Tryz.func248, Tryz.ntmps248
  go_upto_block 0 with (first | (go_at_call 256; (with_reducible refine (r01_can a n _ hn ha).mono ?_); rintro e w' ⟨rfl, rfl⟩) | (go_at_call 245; (with_reducible refine (FT _).mono ?_); rintro e w' ⟨rfl, rfl⟩))
  go_cut [10] (fun y wr => y = .int .u64 (R : Nat) ∧ wr = w)
  case first =>
    go_wp2
    go_loopw [10, 11] (fun y i wr => ∃ k : Nat, k ≤ 64 ∧ i = .int .i64 k ∧ y = .int .u64 (sumb (onB x a n v) k : Nat) ∧ wr = w) (fun _ i _ => 64 - (intOf i).toNat)
    case atStart => exact ⟨0, by omega, rfl, rfl, rfl⟩
    case round =>
      obtain ⟨k, hk, rfl, rfl, rfl⟩ := hrel
      by_cases hlt : k < 64
      · have hlt' : (k : Int) < 64 := by omega
        have hst := sumb_step (onB x a n v) (k := k) (by omega)
        have BX := fun w => r01_bit x k w hx64 hlt
        have hsu : Hid (sumb (onB x a n v) (k + 1) = sumb (onB x a n v) k + if onB x a n v k = true then 2 ^ k else 0) := rfl
        by_cases h1 : a ≤ k
        · have h1' : (a : Int) ≤ k := by omega
          by_cases h2 : k < a + n
          · have h2' : (k : Int) < (a : Int) + n := by omega
            have BV := fun w => r01_bit v (k - a) w hv64 (by omega)
            have ea : ((k - a : Nat) : Int) = (k : Int) - a := by omega
            rw [ea] at BV
            have ho : onB x a n v k = v.testBit (k - a) := by unfold onB; rw [if_pos ⟨h1, h2⟩]
            rw [ho] at hsu
            generalize v.testBit (k - a) = b at *
            generalize x.testBit k = b2 at *
            generalize sumb (onB x a n v) k = S at *
            clear ea ho
            cases b
            · go_wp2_with (first | (go_at_call 257; (with_reducible refine (BX _).mono ?_); rintro e w' ⟨rfl, rfl⟩) | (go_at_call 257; (with_reducible refine (BV _).mono ?_); rintro e w' ⟨rfl, rfl⟩))
              exact ⟨⟨k + 1, by omega, by go_num, by rw [hsu.out]; simp, trivial⟩, by simp [intOf]; omega⟩
            · go_wp2_with (first | (go_at_call 257; (with_reducible refine (BX _).mono ?_); rintro e w' ⟨rfl, rfl⟩) | (go_at_call 257; (with_reducible refine (BV _).mono ?_); rintro e w' ⟨rfl, rfl⟩))
              exact ⟨⟨k + 1, by omega, by go_num, by rw [hsu.out]; simp, trivial⟩, by simp [intOf]; omega⟩
          · have h2' : ¬ (k : Int) < (a : Int) + n := by omega
            have ho : onB x a n v k = x.testBit k := by unfold onB; rw [if_neg (fun h => h2 h.2)]
            rw [ho] at hsu
            generalize x.testBit k = b at *
            generalize sumb (onB x a n v) k = S at *
            clear ho
            cases b
            · go_wp2_with ((go_at_call 257; (with_reducible refine (BX _).mono ?_); rintro e w' ⟨rfl, rfl⟩))
              exact ⟨⟨k + 1, by omega, by go_num, by rw [hsu.out]; simp, trivial⟩, by simp [intOf]; omega⟩
            · go_wp2_with ((go_at_call 257; (with_reducible refine (BX _).mono ?_); rintro e w' ⟨rfl, rfl⟩))
              exact ⟨⟨k + 1, by omega, by go_num, by rw [hsu.out]; simp, trivial⟩, by simp [intOf]; omega⟩
        · have h1' : ¬ (a : Int) ≤ k := by omega
          have ho : onB x a n v k = x.testBit k := by unfold onB; rw [if_neg (fun h => h1 h.1)]
          rw [ho] at hsu
          generalize x.testBit k = b at *
          generalize sumb (onB x a n v) k = S at *
          clear ho
          cases b
          · go_wp2_with ((go_at_call 257; (with_reducible refine (BX _).mono ?_); rintro e w' ⟨rfl, rfl⟩))
            exact ⟨⟨k + 1, by omega, by go_num, by rw [hsu.out]; simp, trivial⟩, by simp [intOf]; omega⟩
          · go_wp2_with ((go_at_call 257; (with_reducible refine (BX _).mono ?_); rintro e w' ⟨rfl, rfl⟩))
            exact ⟨⟨k + 1, by omega, by go_num, by rw [hsu.out]; simp, trivial⟩, by simp [intOf]; omega⟩
      · obtain rfl : 64 = k := by omega
        go_wp2
        go_meet
        exact ⟨by rw [hs.out], rfl⟩
  case rest =>
    obtain ⟨rfl, rfl⟩ := hcut
    go_wp2
    go_ret2
    exact ⟨rfl, rfl⟩
end Go.Proofs.YtejdfdllgobnhaaGreat
/- R01b -/
set_option linter.unusedVariables false
set_option linter.unusedSimpArgs false
namespace Go.Proofs.YtejdfdllgobnhaaGreat
open Go.RowKit
/-- Widths and where they begin. -/
structure WS (L : Nat) (ns offs : Nat → Nat) : Prop where
  o0 : offs 0 = 0
  os : ∀ k, k < L → offs (k + 1) = offs k + ns k
  n1 : ∀ k, k < L → 1 ≤ ns k
  o64 : ∀ k, k ≤ L → offs k ≤ 64
  l : L < 1000
theorem acc_lt {L : Nat} {ns offs vs acc : Nat → Nat} (h : WS L ns offs) (a0 : acc 0 = 0) (aS : ∀ k, k < L → acc (k + 1) = acc k + vs k * 2 ^ offs k) (hv : ∀ k, k < L → vs k < 2 ^ ns k) : ∀ k, k ≤ L → acc k < 2 ^ offs k
  | 0, _ => by rw [a0]; exact Nat.two_pow_pos _
  | k + 1, hk => by
    have ih := acc_lt h a0 aS hv k (by omega)
    rw [aS k (by omega), h.os k (by omega), Nat.pow_add]
    have h1 : (vs k + 1) * 2 ^ offs k ≤ 2 ^ ns k * 2 ^ offs k := Nat.mul_le_mul_right _ (hv k (by omega))
    rw [Nat.add_mul] at h1
    rw [Nat.mul_comm (2 ^ offs k)]
    omega
set_option maxHeartbeats 2000000 in
set_option maxRecDepth 100000 in
theorem r01_pack {L : Nat} {ns offs vs acc : Nat → Nat} (bn bv cn cv : Nat) (w : World) (h : WS L ns offs) (a0 : acc 0 = 0) (aS : ∀ k, k < L → acc (k + 1) = acc k + vs k * 2 ^ offs k) (hv : ∀ k, k < L → vs k < 2 ^ ns k)
    (hn : ∀ k, k < L → w.cell? ⟨bn, k, none⟩ = some (.int .i64 (ns k))) (hvs : ∀ k, k < L → w.cell? ⟨bv, k, none⟩ = some (.int .u64 (vs k))) (ln : bn < w.heap.size) (lv : bv < w.heap.size) :
    Calls Tryz.prog 224 #[.slice (some ⟨bn, 0, none⟩) L cn, .slice (some ⟨bv, 0, none⟩) L cv] w fun e w' => e = .returned (.tuple #[.int .u64 (acc L : Nat), .int .i64 0]) ∧ Below w.heap.size w w' := by
  have AL := acc_lt h a0 aS hv
  have hl := h.l
  have ho0 := h.o0
  go_enter Tryz.func224, Tryz.ntmps224
  go_upto_block 0 with (fail)
  go_cut [6] (fun y wr => y = .int .u64 (acc L : Nat) ∧ Below w.heap.size w wr)
  case first =>
    go_wp2
    go_loopw [6, 7, 8] (fun y o i wr => ∃ k : Nat, k ≤ L ∧ i = .int .i64 k ∧ o = .int .i64 (offs k) ∧ y = .int .u64 (acc k : Nat) ∧ Below w.heap.size w wr) (fun _ _ i _ => L - (intOf i).toNat)
    case atStart => exact ⟨0, by omega, rfl, by rw [ho0]; rfl, by rw [a0]; rfl, Below.refl _ _⟩
    case round =>
      obtain ⟨k, hk, rfl, rfl, rfl, hbr⟩ := hrel
      by_cases hlt : k < L
      · have hlt' : (k : Int) < L := by omega
        have PT := fun w => r01_put (acc k) (offs k) (ns k) (vs k) w (AL k (by omega)) (hv k hlt) (h.n1 k hlt) (by rw [← h.os k hlt]; exact h.o64 _ (by omega))
        have c1 := hn k hlt
        have c2 := hvs k hlt
        rw [← hbr.cell (p := ⟨bn, k, none⟩) ln] at c1
        rw [← hbr.cell (p := ⟨bv, k, none⟩) lv] at c2
        have ln2 := Nat.lt_of_lt_of_le ln hbr.size
        have lv2 := Nat.lt_of_lt_of_le lv hbr.size
        rw [← aS k hlt] at PT
        have hos := Lib.hid (h.os k hlt)
        have b1 := h.o64 (k + 1) (by omega)
        have b2 := h.os k hlt
        have b3 : offs k + ns k ≤ 64 := by omega
        clear b1 b2
        generalize hA1 : acc (k + 1) = A1 at *
        generalize hO1 : offs (k + 1) = O1 at *
        generalize hO : offs k = O at *
        generalize hNk : ns k = N at *
        generalize vs k = X at *
        generalize hAk : acc k = A0 at *
        go_upto_region 8 with (fail)
        (refine wp_region_calm (by kernel_rfl) (by kernel_rfl) ?_; (repeat (go_big_quiet_step (((go_at_call 248; first | (with_reducible refine Calls.calm_of (PT _)) | (with_reducible refine Calls.calm_of_same (PT _))))))); refine wpQuiet_nil ?_; intro _ hw'; obtain ⟨wq, hw''⟩ := hw'; subst hw''; obtain ⟨wq, hbq⟩ := wq; try dsimp only at *)
        have c1 := c1
        rw [← hbq.cell (p := ⟨bn, k, none⟩) ln2] at c1
        go_wp2
        go_roundw
        case rel => first | exact ⟨k + 1, by omega, by go_num, by rw [hO1, hos.out]; push_cast; rfl, by rw [hA1], hbr.trans (hbq.mono hbr.size)⟩ | ((repeat apply Exists.intro); exact ⟨⟨k + 1, by omega, by go_num, by rw [hO1, hos.out]; push_cast; rfl, by rw [hA1], hbr.trans (hbq.mono hbr.size)⟩, rfl⟩)
        case measure => simp [intOf]; omega
      · obtain rfl : L = k := by omega
        go_wp2
        go_meet
        exact ⟨rfl, hbr⟩
  case rest =>
    obtain ⟨rfl, hbr⟩ := hcut
    go_wp2
    go_ret2
    exact ⟨rfl, hbr⟩
def prtL (x : Nat) (ns offs : Nat → Nat) (k : Nat) : List Value := (List.range k).map fun i => .int .u64 ((x / 2 ^ offs i % 2 ^ ns i : Nat) : Int)
theorem prtL_succ (x : Nat) (ns offs : Nat → Nat) (k : Nat) : prtL x ns offs (k + 1) = prtL x ns offs k ++ [.int .u64 ((x / 2 ^ offs k % 2 ^ ns k : Nat) : Int)] := by simp [prtL, List.range_succ]
theorem prtL_at (x : Nat) (ns offs : Nat → Nat) {k i : Nat} (h : i < k) : (prtL x ns offs k)[i]? = some (.int .u64 ((x / 2 ^ offs i % 2 ^ ns i : Nat) : Int)) := by simp [prtL, h]
set_option maxHeartbeats 2000000 in
set_option maxRecDepth 100000 in
theorem r01_unpack_yes {L : Nat} {ns offs : Nat → Nat} (x bn cn : Nat) (w : World) (h : WS L ns offs) (h1 : 1 ≤ L) (hx : x < 18446744073709551616)
    (hn : ∀ k, k < L → w.cell? ⟨bn, k, none⟩ = some (.int .i64 (ns k))) (ln : bn < w.heap.size) (hf : x < 2 ^ offs L) :
    Calls Tryz.prog 219 #[.slice (some ⟨bn, 0, none⟩) L cn, .int .u64 x] w fun e w' => ∃ g cap, e = .returned (.tuple #[.slice (some ⟨g, 0, none⟩) L cap, .int .i64 0]) ∧ Row w' g 117 (prtL x ns offs L) ∧ w.heap.size ≤ g ∧ Below w.heap.size w w' := by
  obtain ⟨j0, gi, gz0, gz1, gz2⟩ := info_parts Tryz.infoU64
  have hl := h.l
  have ho0 := h.o0
  have FT := fun w => r01_fits x (offs L) w hx
  go_enter Tryz.func219, Tryz.ntmps219
  go_upto_block 0 with (fail)
  go_cut [6, 7] (fun y o wr => ∃ g cap, y = .slice (some ⟨g, 0, none⟩) L cap ∧ o = .int .i64 (offs L) ∧ Row wr g 117 (prtL x ns offs L) ∧ w.heap.size ≤ g ∧ Below w.heap.size w wr)
  case first =>
    go_wp2
    go_loopw [6, 7, 8] (fun y o i wr => ∃ k : Nat, k ≤ L ∧ i = .int .i64 k ∧ o = .int .i64 (offs k) ∧ wr.ownsRow w.heap.size 117 1 y k (prtL x ns offs k) ∧ Below w.heap.size w wr) (fun _ _ i _ => L - (intOf i).toNat)
    case atStart => exact ⟨0, by omega, rfl, by rw [ho0]; rfl, World.ownsRow_nil _ _ _ _, Below.refl _ _⟩
    case round =>
      obtain ⟨k, hk, rfl, rfl, o2, hbr⟩ := hrel
      by_cases hlt : k < L
      · have hlt' : (k : Int) < L := by omega
        have hkn : k < 1000000 := by omega
        have GT := fun w => r01_get x (offs k) (ns k) w hx (h.n1 k hlt) (by rw [← h.os k hlt]; exact h.o64 _ (by omega))
        have c1 := hn k hlt
        rw [← hbr.cell (p := ⟨bn, k, none⟩) ln] at c1
        have hos := Lib.hid (h.os k hlt)
        have b3 : offs k + ns k ≤ 64 := by rw [← h.os k hlt]; exact h.o64 _ (by omega)
        have hsz := hbr.size
        have hps := Lib.hid (prtL_succ x ns offs k)
        generalize hO1 : offs (k + 1) = O1 at *
        generalize hO : offs k = O at *
        generalize hNk : ns k = N at *
        generalize (x / 2 ^ O % 2 ^ N : Nat) = X at *
        go_wp2_with (first
          | (go_at_call 244; (with_reducible refine (GT _).mono ?_); rintro e w' ⟨rfl, rfl⟩)
          | (at_builtin; refine wpList_append_agg wr rfl _ _ 22 rfl 117 j0 (.int .u64 0) #[.int .u64 X] 1 8 Tryz.underlying22 gi gz0 gz1 gz2 rfl rfl (by decide) (by decide) w.heap.size u6 k _ rfl o2 _ rfl rfl (by simp [Value.oneCell']) hkn hsz ?_; intro g2 cp2 w2 n2 ht2 hl3
             have hb2 : Below w.heap.size w w2 := hbr.trans ((show Below w.heap.size wr (wr.alloc (.cells #[.int .u64 X] 117 (0, 0))) from (show Below wr.heap.size wr _ by (refine Touch.below0 ?_; (repeat' (first | (with_reducible exact Touch.refl _ _) | (with_reducible assumption) | (with_reducible refine Touch.drew ?_) | (with_reducible refine Touch.drewN ?_ _) | (with_reducible refine Touch.alloc ?_ _) | (with_reducible refine Touch.setCell ?_ _ _ _ ?_) | (with_reducible refine Touch.step (by assumption) ?_) | (with_reducible refine Touch.stepT (by assumption) ?_ ?_) | (intro _; first | rfl | trivial | omega | (simp; done) | (simp; omega)) | (intro _ _; first | omega | (simp; done) | (simp; omega)))))).mono hsz).trans ((ht2.mono (S' := fun k => w.heap.size ≤ k) (fun i _ hi => (o2.lt i hi.symm).1)).below (B := w.heap.size) (by simp; omega) (fun i hi hh => by omega)))
             have c3 := hn k hlt
             rw [← hb2.cell (p := ⟨bn, k, none⟩) ln, hNk] at c3))
        go_roundw
        case rel => first | exact ⟨k + 1, by omega, by go_num, by rw [hO1, hos.out]; push_cast; rfl, by rw [hps.out]; exact n2, hb2⟩ | ((repeat apply Exists.intro); exact ⟨⟨k + 1, by omega, by go_num, by rw [hO1, hos.out]; push_cast; rfl, by rw [hps.out]; exact n2, hb2⟩, rfl⟩)
        case measure => simp [intOf]; omega
      · obtain rfl : L = k := by omega
        have hfin : ∃ g cap, u6 = .slice (some ⟨g, 0, none⟩) L cap ∧ Row wr g 117 (prtL x ns offs L) ∧ w.heap.size ≤ g := by
          rcases ownsRow_row o2 with ⟨_, h, _⟩ | ⟨g1, c1, hf, l1, _, _, _, R1⟩
          · omega
          · exact ⟨g1, c1, hf, R1, l1⟩
        obtain ⟨g, cap, hf, hr, hg⟩ := hfin
        subst hf
        clear o2
        go_wp2
        go_meet
        exact ⟨g, cap, rfl, rfl, hr, hg, hbr⟩
  case rest =>
    obtain ⟨g, cap, rfl, rfl, hr, hg, hbr⟩ := hcut
    rw [decide_eq_true hf] at FT
    go_wp2_with ((go_at_call 245; (with_reducible refine (FT _).mono ?_); rintro e w' ⟨rfl, rfl⟩))
    go_ret2
    exact ⟨g, cap, rfl, hr, hg, hbr⟩
set_option maxHeartbeats 2000000 in
set_option maxRecDepth 100000 in
theorem r01_unpack_no {L : Nat} {ns offs : Nat → Nat} (x bn cn : Nat) (w : World) (h : WS L ns offs) (h1 : 1 ≤ L) (hx : x < 18446744073709551616)
    (hn : ∀ k, k < L → w.cell? ⟨bn, k, none⟩ = some (.int .i64 (ns k))) (ln : bn < w.heap.size) (hf : ¬ x < 2 ^ offs L) :
    Calls Tryz.prog 219 #[.slice (some ⟨bn, 0, none⟩) L cn, .int .u64 x] w fun e w' => e = .returned (.tuple #[.slice none 0 0, .int .i64 1]) ∧ Below w.heap.size w w' := by
  obtain ⟨j0, gi, gz0, gz1, gz2⟩ := info_parts Tryz.infoU64
  have hl := h.l
  have ho0 := h.o0
  have FT := fun w => r01_fits x (offs L) w hx
  go_enter Tryz.func219, Tryz.ntmps219
  go_upto_block 0 with (fail)
  go_cut [6, 7] (fun y o wr => ∃ g cap, y = .slice (some ⟨g, 0, none⟩) L cap ∧ o = .int .i64 (offs L) ∧ Row wr g 117 (prtL x ns offs L) ∧ w.heap.size ≤ g ∧ Below w.heap.size w wr)
  case first =>
    go_wp2
    go_loopw [6, 7, 8] (fun y o i wr => ∃ k : Nat, k ≤ L ∧ i = .int .i64 k ∧ o = .int .i64 (offs k) ∧ wr.ownsRow w.heap.size 117 1 y k (prtL x ns offs k) ∧ Below w.heap.size w wr) (fun _ _ i _ => L - (intOf i).toNat)
    case atStart => exact ⟨0, by omega, rfl, by rw [ho0]; rfl, World.ownsRow_nil _ _ _ _, Below.refl _ _⟩
    case round =>
      obtain ⟨k, hk, rfl, rfl, o2, hbr⟩ := hrel
      by_cases hlt : k < L
      · have hlt' : (k : Int) < L := by omega
        have hkn : k < 1000000 := by omega
        have GT := fun w => r01_get x (offs k) (ns k) w hx (h.n1 k hlt) (by rw [← h.os k hlt]; exact h.o64 _ (by omega))
        have c1 := hn k hlt
        rw [← hbr.cell (p := ⟨bn, k, none⟩) ln] at c1
        have hos := Lib.hid (h.os k hlt)
        have b3 : offs k + ns k ≤ 64 := by rw [← h.os k hlt]; exact h.o64 _ (by omega)
        have hsz := hbr.size
        have hps := Lib.hid (prtL_succ x ns offs k)
        generalize hO1 : offs (k + 1) = O1 at *
        generalize hO : offs k = O at *
        generalize hNk : ns k = N at *
        generalize (x / 2 ^ O % 2 ^ N : Nat) = X at *
        go_wp2_with (first
          | (go_at_call 244; (with_reducible refine (GT _).mono ?_); rintro e w' ⟨rfl, rfl⟩)
          | (at_builtin; refine wpList_append_agg wr rfl _ _ 22 rfl 117 j0 (.int .u64 0) #[.int .u64 X] 1 8 Tryz.underlying22 gi gz0 gz1 gz2 rfl rfl (by decide) (by decide) w.heap.size u6 k _ rfl o2 _ rfl rfl (by simp [Value.oneCell']) hkn hsz ?_; intro g2 cp2 w2 n2 ht2 hl3
             have hb2 : Below w.heap.size w w2 := hbr.trans ((show Below w.heap.size wr (wr.alloc (.cells #[.int .u64 X] 117 (0, 0))) from (show Below wr.heap.size wr _ by (refine Touch.below0 ?_; (repeat' (first | (with_reducible exact Touch.refl _ _) | (with_reducible assumption) | (with_reducible refine Touch.drew ?_) | (with_reducible refine Touch.drewN ?_ _) | (with_reducible refine Touch.alloc ?_ _) | (with_reducible refine Touch.setCell ?_ _ _ _ ?_) | (with_reducible refine Touch.step (by assumption) ?_) | (with_reducible refine Touch.stepT (by assumption) ?_ ?_) | (intro _; first | rfl | trivial | omega | (simp; done) | (simp; omega)) | (intro _ _; first | omega | (simp; done) | (simp; omega)))))).mono hsz).trans ((ht2.mono (S' := fun k => w.heap.size ≤ k) (fun i _ hi => (o2.lt i hi.symm).1)).below (B := w.heap.size) (by simp; omega) (fun i hi hh => by omega)))
             have c3 := hn k hlt
             rw [← hb2.cell (p := ⟨bn, k, none⟩) ln, hNk] at c3))
        go_roundw
        case rel => first | exact ⟨k + 1, by omega, by go_num, by rw [hO1, hos.out]; push_cast; rfl, by rw [hps.out]; exact n2, hb2⟩ | ((repeat apply Exists.intro); exact ⟨⟨k + 1, by omega, by go_num, by rw [hO1, hos.out]; push_cast; rfl, by rw [hps.out]; exact n2, hb2⟩, rfl⟩)
        case measure => simp [intOf]; omega
      · obtain rfl : L = k := by omega
        have hfin : ∃ g cap, u6 = .slice (some ⟨g, 0, none⟩) L cap ∧ Row wr g 117 (prtL x ns offs L) ∧ w.heap.size ≤ g := by
          rcases ownsRow_row o2 with ⟨_, h, _⟩ | ⟨g1, c1, hf, l1, _, _, _, R1⟩
          · omega
          · exact ⟨g1, c1, hf, R1, l1⟩
        obtain ⟨g, cap, hf, hr, hg⟩ := hfin
        subst hf
        clear o2
        go_wp2
        go_meet
        exact ⟨g, cap, rfl, rfl, hr, hg, hbr⟩
  case rest =>
    obtain ⟨g, cap, rfl, rfl, hr, hg, hbr⟩ := hcut
    rw [decide_eq_false hf] at FT
    go_wp2_with ((go_at_call 245; (with_reducible refine (FT _).mono ?_); rintro e w' ⟨rfl, rfl⟩))
    go_ret2
    exact ⟨rfl, hbr⟩
end Go.Proofs.YtejdfdllgobnhaaGreat
