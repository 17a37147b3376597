/- Where the parts of a word begin (package field: places), as an iterator's contract. -/
import Derived.Test.YtejdfdllgobnhaaField
import Derived.RangeFuncNested
import Derived.RangeFuncBound
import Derived.RangeFuncCalls
import Derived.RangeFuncLeaves
import Derived.Shelf.Abstract
import Derived.Shelf.RegionOpen
import Derived.OwnWalkIn
import Derived.TacticsInMore
import Derived.LoopNIn
import Derived.LoopIn
import Derived.Maps.AppendAt
set_option linter.unusedVariables false
set_option linter.unusedSimpArgs false
namespace Go.Proofs.Ytejdfdllgobnhaa
open Go.RowKit Go.Shelf

attribute [local go_sem] Oper.semAt_some

/-- Where the k-th part begins. -/
def offs (ns : List Int) : Nat → Int
  | 0 => 0
  | k + 1 => offs ns k + ns[k]?.getD 0
def WOk (ns : List Int) : Prop := ∀ k, k < ns.length → canB (offs ns k) (ns[k]?.getD 0) = true
theorem WOk.at {ns : List Int} (h : WOk ns) {k : Nat} (hk : k < ns.length) : 0 ≤ offs ns k ∧ 1 ≤ ns[k]?.getD 0 ∧ offs ns k + ns[k]?.getD 0 ≤ 64 := by
  have := h k hk
  simp [canB] at this
  omega
def upF (n k : Nat) : List (Fin n) := (List.finRange n).take k
theorem upF_length {n k : Nat} (h : k ≤ n) : (upF n k).length = k := by simp [upF]; omega
theorem upF_succ {n k : Nat} (h : k < n) : upF n (k + 1) = upF n k ++ [⟨k, h⟩] := by
  simp [upF, List.take_add_one, h]
theorem upF_all (n : Nat) : upF n n = List.finRange n := List.take_of_length_le (by simp)
/-- The slice of widths at box Bs. -/
def penc (ns : List Int) (x : Fin ns.length) : Array Value := #[.int .i64 (x.1 : Int), .int .i64 (offs ns x.1)]

theorem f_places (a : Option Addr) (len cap : Nat) (w : World) : Calls Try.prog 120 #[.slice a len cap] w fun e w' =>
    e = .returned (.func (.func 127) #[] #[.pointer (some ⟨w.heap.size, 0, none⟩)]) ∧ w' = w.alloc (.cells #[.slice a len cap] 174 (0, 0)) := by
  go_enter Try.func120, Try.ntmps120
  go_wp2
  go_ret
  exact ⟨rfl, rfl⟩

set_option maxRecDepth 100000 in
set_option maxHeartbeats 2000000 in
theorem places1_in (n : Nat) (hn : 1 ≤ n) (l Bs n₀ b off cap : Nat) (ns : List Int) (hw : WOk ns) (hmx : ns.length ≤ 64) (hb : b < n₀) (J Jx : List (Fin ns.length) → World → Prop)
    (hY : ∀ pre x W, J pre W → pre.length < ns.length → YieldAt Fence.wide (n - 1) Try.prog l (penc ns x) W fun e W' =>
      (e = .returned (.bool true) ∧ J (pre ++ [x]) W' ∧ Below n₀ W W') ∨ (e = .returned (.bool false) ∧ Jx (pre ++ [x]) W'))
    (W : World) (hBs : W.cell? ⟨Bs, 0, none⟩ = some (.slice (some ⟨b, off, none⟩) ns.length cap)) (hc : ∀ j, j < ns.length → W.cell? ⟨b, off + j, none⟩ = some (.int .i64 (ns[j]?.getD 0))) (h0 : J [] W) :
    CallsIn Fence.wide n Try.prog 127 #[.func (.yield l) #[] #[], .pointer (some ⟨Bs, 0, none⟩)] W fun e W' => (∃ v, e = .returned v) ∧
      ((∃ ys, ys = List.finRange ns.length ∧ J ys W') ∨ (∃ pre, True ∧ Jx pre W')) := by
  refine callsIn_of_wp Try.func127 rfl trivial ?_ rfl
  simp only [Try.ntmps127, List.size_toArray, List.length_cons, List.length_nil, Nat.reduceAdd, Nat.reduceSub, Array.replicate_succ, Array.replicate_zero, List.push_toArray, List.append_toArray, List.nil_append, List.cons_append]
  gi_wp2
  gi_loopw [3, 8] (fun at_ i wr => ∃ k : Nat, k ≤ ns.length ∧ at_ = .int .i64 (offs ns k) ∧ i = .int .i64 k ∧ J (upF ns.length k) wr ∧ Below n₀ W wr)
    (fun _ i _ => ns.length - (intOf i).toNat)
  case atStart => exact ⟨0, Nat.zero_le _, rfl, rfl, by simpa [upF] using h0, Below.refl _ _⟩
  case round =>
    obtain ⟨k, hk, rfl, rfl, hJs, hnx⟩ := hrel
    by_cases hlt : k < ns.length
    · obtain ⟨fn, tmps, assign, body, hy, hR⟩ := hY _ ⟨k, hlt⟩ wr hJs (by rw [upF_length hk]; exact hlt)
      dsimp only [penc] at hy
      have hcx' : wr.cell? ⟨b, off + k, none⟩ = some (.int .i64 (ns[k]?.getD 0)) := (hnx.cell (p := ⟨b, off + k, none⟩) hb).trans (hc k hlt)
      have hcan := Lib.hid (hw k hlt)
      obtain ⟨q0, q1, q2⟩ := hw.at hlt
      have hoff : offs ns (k + 1) = offs ns k + ns[k]?.getD 0 := rfl
      have HO := Lib.hid hoff
      clear hoff
      generalize ns[k]?.getD 0 = x at *
      generalize offs ns k = o at *
      gi_wp2_with (refine ⟨trivial, ?_⟩; gi_at_call 128; refine (callsIn_wide.2 (f_can _ _ _)).mono ?_; rintro e w' ⟨rfl, rfl⟩; rw [hcan.out])
      refine hR.mono ?_
      rintro e W3 (⟨rfl, hJ3, hk3⟩ | ⟨rfl, hJx3⟩)
      · gi_wp2
        go_roundw
        case rel => exact ⟨k + 1, by omega, by rw [HO.out], by go_num, by rw [upF_succ hlt]; exact hJ3, hnx.trans hk3⟩
        case measure => simp [intOf]; omega
      · gi_wp2
        refine bodyPost_ret (results_none rfl _ _ _) rfl ?_
        exact ⟨⟨_, rfl⟩, .inr ⟨_, trivial, hJx3⟩⟩
    · obtain rfl : k = ns.length := by omega
      gi_wp2
      go_end0
      exact ⟨⟨_, rfl⟩, .inl ⟨_, rfl, by rw [← upF_all]; exact hJs⟩⟩
theorem places_stops (n : Nat) (hn : 1 ≤ n) (Bs n₀ b off cap : Nat) (ns : List Int) (hw : WOk ns) (hmx : ns.length ≤ 64) (w : World) (hBs : Bs < w.heap.size) (hn₀ : n₀ ≤ w.heap.size) (hb : b < n₀)
    (hc0 : w.cell? ⟨Bs, 0, none⟩ = some (.slice (some ⟨b, off, none⟩) ns.length cap)) (hc : ∀ j, j < ns.length → w.cell? ⟨b, off + j, none⟩ = some (.int .i64 (ns[j]?.getD 0))) :
    SeqStopsK Fence.wide n Try.prog 127 #[.pointer (some ⟨Bs, 0, none⟩)] (penc ns) (Below n₀) (fun ys => ys = List.finRange ns.length) (fun _ => True) ns.length w := fun l J Jx W hW _ _ hY h0 =>
  places1_in n hn l Bs n₀ b off cap ns hw hmx hb J Jx hY W ((hW.cell (p := ⟨Bs, 0, none⟩) hBs).trans hc0) (fun j hj => (hW.cell (p := ⟨b, off + j, none⟩) (Nat.lt_of_lt_of_le hb hn₀)).trans (hc j hj)) h0
end Go.Proofs.Ytejdfdllgobnhaa
