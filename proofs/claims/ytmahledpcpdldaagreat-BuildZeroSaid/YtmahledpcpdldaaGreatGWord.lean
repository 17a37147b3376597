/- Several texts in one: Field, Places, QuietRound. -/
import Derived.Test.YtmahledpcpdldaaGreatProg
import Derived.Test.YtmahledpcpdldaaGreatBase
import Derived.Laws.BitsAllLaws
import Derived.Deep.DeepCutAuto
import Derived.Deep.Cut
import Derived.Deep.CutBlock
import Derived.Deep.Light
import Derived.RangeFuncNested
import Derived.RangeFuncBound
import Derived.RangeFuncCalls
import Derived.RangeFuncLeaves
import Derived.Shelf.Abstract
import Derived.Shelf.RegionOpen
import Derived.OwnWalkIn
import Derived.TacticsInMore
import Derived.LoopNIn
import Derived.LoopIn
import Derived.Maps.AppendAt
import Derived.Sort.QuietIn
/- Field -/
set_option linter.unusedVariables false
set_option linter.unusedSimpArgs false
namespace Go.Proofs.YtmahledpcpdldaaGreat
open Go.RowKit

def maskN (n : Int) : Nat := 2 ^ n.toNat - 1
theorem pow_pos2 (k : Nat) : 1 ≤ 2 ^ k := Nat.one_le_two_pow
theorem pow_le64 {k : Nat} (h : k ≤ 64) : 2 ^ k ≤ 18446744073709551616 := by
  have := Nat.pow_le_pow_right (n := 2) (by decide) h
  simpa using this
theorem ones_step {k : Nat} (hk : k < 64) : bits .or .u64 (IntKind.u64.wrap (((2 ^ k - 1 : Nat) : Int) * 2)) 1 = ((2 ^ (k + 1) - 1 : Nat) : Int) := by
  have h1 := pow_pos2 k
  have h2 : 2 ^ (k + 1) = 2 * 2 ^ k := by rw [Nat.pow_succ]; omega
  have h3 := pow_le64 (k := k + 1) (by omega)
  have e : IntKind.u64.wrap (((2 ^ k - 1 : Nat) : Int) * 2) = ((2 * (2 ^ k - 1) : Nat) : Int) := by
    rw [IntKind.wrap_u64]; omega
  rw [e, show (1 : Int) = ((1 : Nat) : Int) from rfl, u64_or_nat _ _ (by omega) (by omega), nat_join 1 _ _ (by omega) (by decide)]
  omega

set_option maxHeartbeats 1000000 in
theorem f_ones (n : Int) (w : World) (h64 : n ≤ 64) : Calls Tryz.prog 305 #[.int .i64 n] w fun e w' => e = .returned (.int .u64 (maskN n)) ∧ w = w' := by
  by_cases hn : n ≤ 0
  · have e : maskN n = 0 := by unfold maskN; have : n.toNat = 0 := by omega
                               rw [this]
    rw [e]
    clear e
    go_enter Tryz.func305, Tryz.ntmps305
    go_wp2
    go_ret
    exact ⟨rfl, rfl⟩
  · go_enter Tryz.func305, Tryz.ntmps305
    go_upto_block 0 with (fail)
    go_cut [3] (fun x wr => x = .int .u64 (maskN n) ∧ wr = w)
    case first =>
      go_wp2
      go_loopw [3, 8] (fun x i wr => ∃ k : Nat, (k : Int) ≤ n ∧ x = .int .u64 ((2 ^ k - 1 : Nat) : Int) ∧ i = .int .i64 k ∧ wr = w) (fun x i _ => 64 - (intOf i).toNat)
      case atStart => exact ⟨0, by omega, rfl, rfl, rfl⟩
      case round =>
        obtain ⟨k, hk, rfl, rfl, rfl⟩ := hrel
        by_cases hin : (k : Int) < n
        · have hs := ones_step (k := k) (by omega)
          go_wp2
          exact ⟨⟨k + 1, by omega, rfl, by go_num, trivial⟩, by simp [intOf]; omega⟩
        · have e : maskN n = 2 ^ k - 1 := by unfold maskN; have : n.toNat = k := by omega
                                             rw [this]
          go_wp2
          go_meet
          exact ⟨by rw [e], rfl⟩
    case rest =>
      obtain ⟨rfl, rfl⟩ := hcut
      go_wp2
      go_ret
      exact ⟨rfl, rfl⟩
theorem f_mask (n : Int) (w : World) (h64 : n ≤ 64) : Calls Tryz.prog 298 #[.int .i64 n] w fun e w' => e = .returned (.int .u64 (maskN n)) ∧ w = w' := by
  go_enter Tryz.func298, Tryz.ntmps298
  go_wp2_with ((go_at_call 305; (with_reducible refine (f_ones _ _ h64).mono ?_); rintro e w' ⟨rfl, rfl⟩))
  go_ret
  exact ⟨rfl, rfl⟩
theorem nat_notmask {x k : Nat} (hx : x < 18446744073709551616) (hk : k ≤ 64) : x &&& (18446744073709551615 - (2 ^ k - 1)) = x / 2 ^ k * 2 ^ k := by
  have h0 := pow_pos2 k
  have h1 := pow_le64 hk
  have e : 18446744073709551615 - (2 ^ k - 1) = (2 ^ (64 - k) - 1) <<< k := by
    rw [Nat.shiftLeft_eq, Nat.sub_mul, ← Nat.pow_add, Nat.sub_add_cancel hk]
    omega
  rw [e, ← Nat.shiftLeft_eq, ← Nat.shiftRight_eq_div_pow]
  apply Nat.eq_of_testBit_eq
  intro i
  rw [Nat.testBit_and, Nat.testBit_shiftLeft, Nat.testBit_shiftLeft, Nat.testBit_two_pow_sub_one, Nat.testBit_shiftRight]
  by_cases hi : k ≤ i
  · rw [show k + (i - k) = i by omega]
    by_cases h64 : i < 64
    · simp [hi, show i - k < 64 - k by omega]
    · have : x.testBit i = false := Nat.testBit_lt_two_pow (Nat.lt_of_lt_of_le (by simpa using hx) (Nat.pow_le_pow_right (n := 2) (by decide) (show 64 ≤ i by omega)))
      simp [this]
  · simp [hi]
/-- Has a word no bits from the n-th on? -/
def fitsB (v n : Int) : Bool := decide (v < 2 ^ n.toNat)
theorem fits_bits {v n : Int} (h0 : 0 ≤ v) (h1 : v < 18446744073709551616) (h64 : n ≤ 64) : (bits .andNot .u64 v (maskN n) == 0) = fitsB v n := by
  obtain ⟨x, rfl⟩ : ∃ x : Nat, v = x := ⟨v.toNat, by omega⟩
  obtain ⟨k, hk⟩ : ∃ k : Nat, n.toNat = k := ⟨_, rfl⟩
  have hm : maskN n < 18446744073709551616 := by have := pow_le64 (k := n.toNat) (by omega); have := pow_pos2 n.toNat; unfold maskN; omega
  rw [u64_andNot_nat _ _ (by omega) hm]
  unfold maskN fitsB
  rw [hk, nat_notmask (by omega) (by omega)]
  have hp := pow_pos2 k
  have e : ((2 : Int) ^ k) = ((2 ^ k : Nat) : Int) := by simp
  rw [e]
  by_cases h : x < 2 ^ k
  · rw [Nat.div_eq_of_lt h]; simp; exact_mod_cast h
  · have hd : 1 ≤ x / 2 ^ k := (Nat.le_div_iff_mul_le hp).2 (by omega)
    have hne : x / 2 ^ k * 2 ^ k ≠ 0 := Nat.mul_ne_zero (by omega) (by omega)
    have h2 : ¬ ((x : Int) < ((2 ^ k : Nat) : Int)) := by omega
    rw [decide_eq_false h2]
    simp only [beq_eq_false_iff_ne, ne_eq]; omega
theorem f_fits (v n : Int) (w : World) (h0 : 0 ≤ v) (h1 : v < 18446744073709551616) (h64 : n ≤ 64) : Calls Tryz.prog 288 #[.int .u64 v, .int .i64 n] w fun e w' => e = .returned (.bool (fitsB v n)) ∧ w = w' := by
  have hf := fits_bits h0 h1 h64
  go_enter Tryz.func288, Tryz.ntmps288
  go_wp2_with ((go_at_call 298; (with_reducible refine (f_mask _ _ h64).mono ?_); rintro e w' ⟨rfl, rfl⟩))
  go_ret
  exact ⟨by rw [← hf]; rfl, rfl⟩
def canB (at_ n : Int) : Bool := decide (0 ≤ at_) && decide (at_ ≤ 64) && decide (1 ≤ n) && decide (n ≤ 64) && decide (at_ + n ≤ 64)
theorem f_can (a n : Int) (w : World) : Calls Tryz.prog 304 #[.int .i64 a, .int .i64 n] w fun e w' => e = .returned (.bool (canB a n)) ∧ w = w' := by
  by_cases h1 : a < 0
  · go_enter Tryz.func304, Tryz.ntmps304
    go_wp2
    go_ret
    exact ⟨by simp [canB]; omega, rfl⟩
  by_cases h2 : 64 < a
  · go_enter Tryz.func304, Tryz.ntmps304
    go_wp2
    go_ret
    exact ⟨by simp [canB]; omega, rfl⟩
  by_cases h3 : n < 1
  · go_enter Tryz.func304, Tryz.ntmps304
    go_wp2
    go_ret
    exact ⟨by simp [canB]; omega, rfl⟩
  by_cases h4 : 64 < n
  · go_enter Tryz.func304, Tryz.ntmps304
    go_wp2
    go_ret
    exact ⟨by simp [canB]; omega, rfl⟩
  go_enter Tryz.func304, Tryz.ntmps304
  go_wp2
  go_ret
  exact ⟨by simp [canB]; omega, rfl⟩
end Go.Proofs.YtmahledpcpdldaaGreat
/- Places -/
set_option linter.unusedVariables false
set_option linter.unusedSimpArgs false
namespace Go.Proofs.YtmahledpcpdldaaGreat
open Go.RowKit Go.Shelf

attribute [local go_sem] Oper.semAt_some

/-- Where the k-th part begins. -/
def offs (ns : List Int) : Nat → Int
  | 0 => 0
  | k + 1 => offs ns k + ns[k]?.getD 0
def WOk (ns : List Int) : Prop := ∀ k, k < ns.length → canB (offs ns k) (ns[k]?.getD 0) = true
theorem WOk.at {ns : List Int} (h : WOk ns) {k : Nat} (hk : k < ns.length) : 0 ≤ offs ns k ∧ 1 ≤ ns[k]?.getD 0 ∧ offs ns k + ns[k]?.getD 0 ≤ 64 := by
  have := h k hk
  simp [canB] at this
  omega
def upF (n k : Nat) : List (Fin n) := (List.finRange n).take k
theorem upF_length {n k : Nat} (h : k ≤ n) : (upF n k).length = k := by simp [upF]; omega
theorem upF_succ {n k : Nat} (h : k < n) : upF n (k + 1) = upF n k ++ [⟨k, h⟩] := by
  simp [upF, List.take_add_one, h]
theorem upF_all (n : Nat) : upF n n = List.finRange n := List.take_of_length_le (by simp)
/-- The slice of widths at box Bs. -/
def penc (ns : List Int) (x : Fin ns.length) : Array Value := #[.int .i64 (x.1 : Int), .int .i64 (offs ns x.1)]

theorem f_places (a : Option Addr) (len cap : Nat) (w : World) : Calls Tryz.prog 287 #[.slice a len cap] w fun e w' =>
    e = .returned (.func (.func 303) #[] #[.pointer (some ⟨w.heap.size, 0, none⟩)]) ∧ w' = w.alloc (.cells #[.slice a len cap] 25 (0, 0)) := by
  go_enter Tryz.func287, Tryz.ntmps287
  go_wp2
  go_ret
  exact ⟨rfl, rfl⟩

set_option maxRecDepth 100000 in
set_option maxHeartbeats 2000000 in
theorem places1_in (n : Nat) (hn : 1 ≤ n) (l Bs n₀ b off cap : Nat) (ns : List Int) (hw : WOk ns) (hmx : ns.length ≤ 64) (hb : b < n₀) (J Jx : List (Fin ns.length) → World → Prop)
    (hY : ∀ pre x W, J pre W → pre.length < ns.length → YieldAt Fence.wide (n - 1) Tryz.prog l (penc ns x) W fun e W' =>
      (e = .returned (.bool true) ∧ J (pre ++ [x]) W' ∧ Below n₀ W W') ∨ (e = .returned (.bool false) ∧ Jx (pre ++ [x]) W'))
    (W : World) (hBs : W.cell? ⟨Bs, 0, none⟩ = some (.slice (some ⟨b, off, none⟩) ns.length cap)) (hc : ∀ j, j < ns.length → W.cell? ⟨b, off + j, none⟩ = some (.int .i64 (ns[j]?.getD 0))) (h0 : J [] W) :
    CallsIn Fence.wide n Tryz.prog 303 #[.func (.yield l) #[] #[], .pointer (some ⟨Bs, 0, none⟩)] W fun e W' => (∃ v, e = .returned v) ∧
      ((∃ ys, ys = List.finRange ns.length ∧ J ys W') ∨ (∃ pre, True ∧ Jx pre W')) := by
  refine callsIn_of_wp Tryz.func303 rfl trivial ?_ rfl
  simp only [Tryz.ntmps303, List.size_toArray, List.length_cons, List.length_nil, Nat.reduceAdd, Nat.reduceSub, Array.replicate_succ, Array.replicate_zero, List.push_toArray, List.append_toArray, List.nil_append, List.cons_append]
  gi_wp2
  gi_loopw [3, 8] (fun at_ i wr => ∃ k : Nat, k ≤ ns.length ∧ at_ = .int .i64 (offs ns k) ∧ i = .int .i64 k ∧ J (upF ns.length k) wr ∧ Below n₀ W wr)
    (fun _ i _ => ns.length - (intOf i).toNat)
  case atStart => exact ⟨0, Nat.zero_le _, rfl, rfl, by simpa [upF] using h0, Below.refl _ _⟩
  case round =>
    obtain ⟨k, hk, rfl, rfl, hJs, hnx⟩ := hrel
    by_cases hlt : k < ns.length
    · obtain ⟨fn, tmps, assign, body, hy, hR⟩ := hY _ ⟨k, hlt⟩ wr hJs (by rw [upF_length hk]; exact hlt)
      dsimp only [penc] at hy
      have hcx' : wr.cell? ⟨b, off + k, none⟩ = some (.int .i64 (ns[k]?.getD 0)) := (hnx.cell (p := ⟨b, off + k, none⟩) hb).trans (hc k hlt)
      have hcan := Lib.hid (hw k hlt)
      obtain ⟨q0, q1, q2⟩ := hw.at hlt
      have hoff : offs ns (k + 1) = offs ns k + ns[k]?.getD 0 := rfl
      have HO := Lib.hid hoff
      clear hoff
      generalize ns[k]?.getD 0 = x at *
      generalize offs ns k = o at *
      gi_wp2_with (refine ⟨trivial, ?_⟩; gi_at_call 304; refine (callsIn_wide.2 (f_can _ _ _)).mono ?_; rintro e w' ⟨rfl, rfl⟩; rw [hcan.out])
      refine hR.mono ?_
      rintro e W3 (⟨rfl, hJ3, hk3⟩ | ⟨rfl, hJx3⟩)
      · gi_wp2
        go_roundw
        case rel => exact ⟨k + 1, by omega, by rw [HO.out], by go_num, by rw [upF_succ hlt]; exact hJ3, hnx.trans hk3⟩
        case measure => simp [intOf]; omega
      · gi_wp2
        refine bodyPost_ret (results_none rfl _ _ _) rfl ?_
        exact ⟨⟨_, rfl⟩, .inr ⟨_, trivial, hJx3⟩⟩
    · obtain rfl : k = ns.length := by omega
      gi_wp2
      go_end0
      exact ⟨⟨_, rfl⟩, .inl ⟨_, rfl, by rw [← upF_all]; exact hJs⟩⟩
theorem places_stops (n : Nat) (hn : 1 ≤ n) (Bs n₀ b off cap : Nat) (ns : List Int) (hw : WOk ns) (hmx : ns.length ≤ 64) (w : World) (hBs : Bs < w.heap.size) (hn₀ : n₀ ≤ w.heap.size) (hb : b < n₀)
    (hc0 : w.cell? ⟨Bs, 0, none⟩ = some (.slice (some ⟨b, off, none⟩) ns.length cap)) (hc : ∀ j, j < ns.length → w.cell? ⟨b, off + j, none⟩ = some (.int .i64 (ns[j]?.getD 0))) :
    SeqStopsK Fence.wide n Tryz.prog 303 #[.pointer (some ⟨Bs, 0, none⟩)] (penc ns) (Below n₀) (fun ys => ys = List.finRange ns.length) (fun _ => True) ns.length w := fun l J Jx W hW _ _ hY h0 =>
  places1_in n hn l Bs n₀ b off cap ns hw hmx hb J Jx hY W ((hW.cell (p := ⟨Bs, 0, none⟩) hBs).trans hc0) (fun j hj => (hW.cell (p := ⟨b, off + j, none⟩) (Nat.lt_of_lt_of_le hb hn₀)).trans (hc j hj)) h0
end Go.Proofs.YtmahledpcpdldaaGreat
/- QuietRound -/
set_option linter.unusedVariables false
set_option linter.unusedSimpArgs false
namespace Go.Proofs.YtmahledpcpdldaaGreat
open Go.RowKit

theorem wide_fn (f : FuncId) : Fence.wide.fn f = True := rfl

variable {F : Fence} {n : Nat} {P : Program} {ops : Array Oper} {C : World → Prop} {md : Region.Mode}

def noDefer (ops : Array Oper) : Bool := ops.all fun o => match o.op with | .defer _ => false | _ => true
theorem noDefer_at {i : Nat} {o : Oper} (h : noDefer ops = true) (ho : ops[i]? = some o) : ∀ c, o.op ≠ .defer c := by
  intro c hc
  obtain ⟨hi, he⟩ := Array.getElem?_eq_some_iff.1 ho
  have := (Array.all_eq_true.1 h) i hi
  rw [he, hc] at this
  cases this

theorem oper_of_quiet {o : Oper} {a : Act} {K : Act → Prop} {K' : Act → World → Prop} {Q' : Exit → Act → World → Prop} {w : World} (hnd : ∀ c, o.op ≠ .defer c) (hw : C w) (h : ∀ a w', C w' → K a → K' a w')
    (ha : o.askedIn F P a C) (hh : o.quietIn F n P a C K) : o.wpIn F n P a w K' Q' := by
  obtain ⟨v, h1, h2⟩ := hh
  have h3 := h1 w hw
  unfold Oper.quietAtIn at h3
  unfold Oper.wpIn
  refine ⟨ha w hw, ?_⟩
  rw [Oper.semAt_plain F _ _ hnd]
  generalize (execOp a.eval o).run P w = r at *
  cases r with
  | ok x w' =>
    cases x <;> simp only [Oper.quietUponIn] at h3 <;> simp only [Oper.uponIn]
    case value u =>
      obtain ⟨e1, e2⟩ := h3
      rw [e1, e2]
      exact h _ _ hw h2
    case skip =>
      obtain ⟨e1, e2⟩ := h3
      rw [e1, ← e2]
      exact h _ _ hw h2
    case enter f args =>
      obtain ⟨e1, hd, hc⟩ := h3
      rw [e1]
      exact ⟨hd, hc.mono fun e w'' ⟨he, hw''⟩ => by subst he; exact h _ _ hw'' h2⟩
  | halt x w' => simp only [Oper.quietUponIn] at h3
theorem op_of_quiet {i : Nat} {a : Act} {K : Act → Prop} {K' : Act → World → Prop} {Q' : Exit → Act → World → Prop} {w : World} (hnd : noDefer ops = true) (hC : C w) (h : ∀ a w', C w' → K a → K' a w')
    (hh : qOpIn F n P ops C i K a) : wpOpIn F n P ops Q' i K' a w := by
  unfold qOpIn at hh
  unfold wpOpIn
  split
  · rename_i ho; simp only [ho] at hh; exact h _ _ hC hh
  · rename_i o ho
    simp only [ho] at hh
    obtain ⟨ha, hh⟩ := hh
    split
    · rename_i hw; simp only [hw, if_true] at hh; exact oper_of_quiet (noDefer_at hnd ho) hC h ha hh
    · rename_i hw; simp only [hw] at hh; exact ⟨ha w hC, h _ _ hC hh⟩
theorem any_of_quiet {Q : Act → Prop} {Q' : Exit → Act → World → Prop} (hnd : noDefer ops = true) (hQ : ∀ a w, C w → Q a → Q' .normal a w) : ∀ (fuel : Nat) (listed : Array Bool) (a : Act) (w : World), C w →
    wpAnyQIn F n P md ops C Q fuel listed a → wpAnyIn F n P md ops Q' fuel listed a w
  | 0, _, _, _, hw, h => ⟨h.1, hQ _ _ hw h.2⟩
  | fuel + 1, _, _, _, hw, h => ⟨fun h0 => hQ _ _ hw (h.1 h0), fun i hi => op_of_quiet hnd hw (fun a' w' hw' => any_of_quiet hnd hQ fuel _ a' w' hw') (h.2 i hi)⟩
theorem region_quiet_in {id : Nat} {Q : Exit → Act → World → Prop} {a : Act} {w : World} (hnd : noDefer ops = true) (hm : P.follows .mixedOrders = true) (hB : Region.lexB .any ops = true) (hC : C { w with drawn := w.drawn + 1 })
    (h : wpQuietIn F n P ops C (fun a' => ∀ w', C w' → Q .normal a' w') ops.toList a) : (Code.region id ops true).wpIn F n P Q a w := by
  simp only [Region.lexB, Bool.and_eq_true] at hB
  refine wpIn_region_any hm (any_of_quiet (Q := fun a' => ∀ w', C w' → Q .normal a' w') hnd (fun _ w' hw' h => h w' hw') _ _ _ _ hC ?_)
  have := wpAnyQIn_lex (F := F) (n := n) (C := C) (md := .any) hB.1 ops.toList 0 (Array.replicate ops.size false) a (by simp) (by simpa using hB.2) h
  simpa using this
theorem region_quiet_round {id : Nat} {Q : Exit → Act → World → Prop} {a : Act} {w : World} {l : List Oper} (hnd : noDefer l.toArray = true) (hm : P.follows .mixedOrders = true) (hB : Region.lexB .any l.toArray = true)
    (h : wpQuietIn F n P l.toArray (fun w' => ∃ n, w' = w.drewN n) (fun a' => ∀ w', (∃ n, w' = w.drewN n) → Q .normal a' w') l a) : (Code.region id l.toArray true).wpIn F n P Q a w :=
  region_quiet_in (C := fun w' => ∃ n, w' = w.drewN n) hnd hm hB ⟨1, rfl⟩ (by simpa using h)
end Go.Proofs.YtmahledpcpdldaaGreat
