/- Count, Has, Keys, All of what is new. -/
import Derived.Test.YtmahledpcpdldaaGreatGMX
import Derived.Test.YtmahledpcpdldaaGreatWords2
import Derived.MapKept
set_option linter.unusedVariables false
set_option linter.unusedSimpArgs false
namespace Go.Proofs.YtmahledpcpdldaaGreat
open Go.RowKit
theorem live_count (a g : Nat) (w : World) (h : LiveIs w a g LiveS.zero) : Calls Tryz.prog 91 #[.pointer (some ⟨a, 0, none⟩)] w fun e w' => e = .returned (.int .i64 0) ∧ Below w.heap.size w w' := by
  have g0 := h.cell0
  go_enter Tryz.func91, Tryz.ntmps91
  go_upto_block 0 with ((go_at_call 113; (with_reducible refine (live_none _ _ _ _ h).mono ?_); rintro e w' ⟨rfl, rfl⟩))
  go_cut [3] (fun n wr => n = .int .i64 0 ∧ Below w.heap.size w wr)
  case first =>
    go_wp2
    go_loopw [3, 13] (fun n i wr => ∃ k : Nat, k ≤ 64 ∧ i = .int .i64 k ∧ n = .int .i64 0 ∧ Below w.heap.size w wr) (fun _ i _ => 64 - (intOf i).toNat)
    case atStart => exact ⟨0, by omega, rfl, rfl, Below.refl _ _⟩
    case round =>
      obtain ⟨k, hk, rfl, rfl, hB⟩ := hrel
      by_cases hl : k < 64
      · have hl' : (k : Int) < 64 := by omega
        obtain ⟨c0, c1, c2, c3⟩ := (h.after hB).at hl
        dsimp only [LiveS.zero] at c0 c1 c2 c3
        go_wp2
        go_roundw
        case rel => exact ⟨k + 1, by omega, by go_num, rfl, hB.alloc hB.size _⟩
        case measure => simp [intOf]; omega
      · obtain rfl : k = 64 := by omega
        go_wp2
        go_meet
        exact ⟨rfl, hB⟩
  case rest =>
    obtain ⟨rfl, hB⟩ := hcut
    go_wp2
    go_ret
    exact ⟨rfl, hB⟩
theorem reps4_at {n f : Nat} (h : f < n) {a b c d : Value} {o : Nat} (ho : o < 4) : (reps #[a, b, c, d] n)[f * 4 + o]? = #[a, b, c, d][o]? := reps_at #[a, b, c, d] h (by simpa using ho)
theorem reps1_at {n f : Nat} (h : f < n) {a : Value} : (reps #[a] n)[f]? = some a := by
  have := reps_at #[a] (n := n) (f := f) (o := 0) h (by simp)
  simpa using this
theorem r7_count (v g c : Nat) (w : World) (hb : w.heap[v]? = some (.cells #[.slice (some ⟨g, 0, none⟩) 64 c] 187 (0, 0))) (hr : Row w g 189 (reps #[.bool false, .int .i64 0, .bool false, .int .i64 0] 64)) : Calls Tryz.prog 92 #[.pointer (some ⟨v, 0, none⟩)] w fun e w' => e = .returned (.int .i64 0) ∧ Below w.heap.size w w' := by
  have g0 : w.cell? ⟨v, 0, none⟩ = some (.slice (some ⟨g, 0, none⟩) 64 c) := by rw [cell_of hb]; rfl
  go_enter Tryz.func92, Tryz.ntmps92
  go_upto_block 0 with (fail)
  go_cut [3] (fun n wr => n = .int .i64 0 ∧ wr = w)
  case first =>
    go_wp2
    go_loopw [3, 4] (fun n i wr => ∃ k : Nat, k ≤ 64 ∧ i = .int .i64 k ∧ n = .int .i64 0 ∧ wr = w) (fun _ i _ => 64 - (intOf i).toNat)
    case atStart => exact ⟨0, by omega, rfl, rfl, rfl⟩
    case round =>
      obtain ⟨k, hk, rfl, rfl, rfl⟩ := hrel
      by_cases hl : k < 64
      · have hl' : (k : Int) < 64 := by omega
        have c0 : wr.cell? ⟨g, k * 4, none⟩ = some (.bool false) := hr.at (reps4_at hl (o := 0) (by decide))
        go_wp2
        go_roundw
        case rel => first | exact ⟨k + 1, by omega, by go_num, rfl, rfl⟩ | exact ⟨k + 1, by omega, by go_num, rfl, trivial⟩
        case measure => simp [intOf]; omega
      · obtain rfl : k = 64 := by omega
        go_wp2
        go_meet
        exact ⟨rfl, rfl⟩
  case rest =>
    obtain ⟨rfl, rfl⟩ := hcut
    go_wp2
    go_ret
    exact ⟨rfl, Below.refl _ _⟩
theorem r23_has (v g c : Nat) (f : Int) (w : World) (hf : (Lit.int .i64 f).wf = true) (hb : w.heap[v]? = some (.cells #[.slice (some ⟨g, 0, none⟩) 8 c] 269 (0, 0))) (hr : Row w g 3 (reps #[.int .i64 0] 8)) : Calls Tryz.prog 102 #[.pointer (some ⟨v, 0, none⟩), .int .i64 f] w fun e w' => e = .returned (.int .i64 0) ∧ Below w.heap.size w w' := by
  have g0 : w.cell? ⟨v, 0, none⟩ = some (.slice (some ⟨g, 0, none⟩) 8 c) := by rw [cell_of hb]; rfl
  go_enter Tryz.func102, Tryz.ntmps102
  go_upto_block 0 with (fail)
  go_cut [5] (fun n wr => n = .int .i64 0 ∧ wr = w)
  case first =>
    go_wp2
    go_loopw [5, 6] (fun n i wr => ∃ k : Nat, k ≤ 8 ∧ i = .int .i64 k ∧ n = .int .i64 0 ∧ wr = w) (fun _ i _ => 8 - (intOf i).toNat)
    case atStart => exact ⟨0, by omega, rfl, rfl, rfl⟩
    case round =>
      obtain ⟨k, hk, rfl, rfl, rfl⟩ := hrel
      by_cases hl : k < 8
      · have hl' : (k : Int) < 8 := by omega
        have c0 : wr.cell? ⟨g, k, none⟩ = some (.int .i64 0) := hr.at (reps1_at hl)
        by_cases h0 : 0 ≤ f
        · by_cases h64 : f < 64
          · have hne : ¬ (0 = f + 1) := by omega
            go_wp2
            go_roundw
            case rel => first | exact ⟨k + 1, by omega, by go_num, rfl, rfl⟩ | exact ⟨k + 1, by omega, by go_num, rfl, trivial⟩
            case measure => simp [intOf]; omega
          · go_wp2
            go_roundw
            case rel => first | exact ⟨k + 1, by omega, by go_num, rfl, rfl⟩ | exact ⟨k + 1, by omega, by go_num, rfl, trivial⟩
            case measure => simp [intOf]; omega
        · go_wp2
          go_roundw
          case rel => first | exact ⟨k + 1, by omega, by go_num, rfl, rfl⟩ | exact ⟨k + 1, by omega, by go_num, rfl, trivial⟩
          case measure => simp [intOf]; omega
      · obtain rfl : k = 8 := by omega
        go_wp2
        go_meet
        exact ⟨rfl, rfl⟩
  case rest =>
    obtain ⟨rfl, rfl⟩ := hcut
    go_wp2
    go_ret
    exact ⟨rfl, Below.refl _ _⟩
theorem Tryz.eqlKeys (w : World) : (binOp .eql 162 (.slice none 0 0) (.slice none 0 0)).run Tryz.prog w = .ok (.bool true) w := by kernel_rfl
set_option maxRecDepth 100000 in
theorem tlb_keys0 (b m : Nat) (n : Int) (w : World) (h : w.heap[b]? = some (.cells #[.map (some m), .slice none 0 0, .int .i64 n] 263 (0, 0))) : Calls Tryz.prog 104 #[.pointer (some ⟨b, 0, none⟩)] w fun e w' => e = .returned (.slice none 0 0) ∧ Below w.heap.size w w' := by
  have c0 : w.cell? ⟨b, 0, none⟩ = some (.map (some m)) := by rw [cell_of h]; rfl
  have c1 : w.cell? ⟨b, 1, none⟩ = some (.slice none 0 0) := by rw [cell_of h]; rfl
  have hn : Calls Tryz.prog 195 #[.pointer (some ⟨b, 0, none⟩)] w fun e w' => e = .returned (.bool false) ∧ w = w' := by
    have he := fun bm w => Tryz.eqlTlb bm w
    go_enter Tryz.func195, Tryz.ntmps195
    go_wp2
    go_ret
    exact ⟨rfl, rfl⟩
  have hc : ∀ w, Calls Tryz.prog 196 #[.slice none 0 0] w fun e w' => e = .returned (.slice none 0 0) ∧ w = w' := fun w => by
    have he2 := fun w => Tryz.eqlKeys w
    go_enter Tryz.func196, Tryz.ntmps196
    go_wp2
    go_ret
    exact ⟨rfl, rfl⟩
  go_enter Tryz.func104, Tryz.ntmps104
  go_wp2_with (first
    | ((go_at_call 195; (with_reducible refine (hn).mono ?_); rintro e w' ⟨rfl, rfl⟩))
    | ((go_at_call 196; (with_reducible refine (hc _).mono ?_); rintro e w' ⟨rfl, rfl⟩)))
  go_ret
  exact ⟨rfl, Below.refl _ _⟩

theorem Tryz.eqlMii (bm : Nat) (w : World) : (binOp .eql 244 (.map (some bm)) (.map none)).run Tryz.prog w = .ok (.bool false) w := by kernel_rfl
theorem Tryz.lookMii {b : Nat} {k : Int} {w : World} (h : w.heap[b]? = some (.map #[] 0)) : (Instr.lookup 244 (.map (some b)) (.int .i64 k) true).run Tryz.prog w = .ok (.tuple #[.int .i64 0, .bool false]) w := by
  have hu : Tryz.prog.underlying 244 = some (.map 3 3) := Tryz.underlying244
  have hi : Tryz.prog.underlying 3 = some (.int .i64) := Tryz.underlying3
  have hz : (zeroValue 3).run Tryz.prog w = .ok (.int .i64 0) w := by kernel_rfl
  have hk := MapKept.run_checkKey (P := Tryz.prog) (w := w) (kt := 3) (k := .int .i64 k) hi (by constructor) true 9999
  have hf := MapKept.run_findKey (P := Tryz.prog) (w := w) (kt := 3) (k := .int .i64 k) (l := []) (a := none) hi rfl
  simp [Instr.lookup, run_underlying hu, MapKept.run_getObj_map h, hk, hf, hz, Result.andThen]
set_option maxRecDepth 100000 in
theorem hw_has (a m : Nat) (f : Int) (w : World) (h : w.heap[a]? = some (.cells #[.map (some m)] 246 (0, 0))) (hm : w.heap[m]? = some (.map #[] 0)) : Calls Tryz.prog 101 #[.pointer (some ⟨a, 0, none⟩), .int .i64 f] w fun e w' => e = .returned (.int .i64 0) ∧ Below w.heap.size w w' := by
  have c0 : w.cell? ⟨a, 0, none⟩ = some (.map (some m)) := by rw [cell_of h]; rfl
  have hn : Calls Tryz.prog 193 #[.pointer (some ⟨a, 0, none⟩)] w fun e w' => e = .returned (.bool false) ∧ w = w' := by
    have he := fun bm w => Tryz.eqlMii bm w
    go_enter Tryz.func193, Tryz.ntmps193
    go_wp2
    go_ret
    exact ⟨rfl, rfl⟩
  have hlk := fun k => Tryz.lookMii (k := k) hm
  go_enter Tryz.func101, Tryz.ntmps101
  go_upto_block 0 with ((go_at_call 193; (with_reducible refine (hn).mono ?_); rintro e w' ⟨rfl, rfl⟩))
  go_cut [5] (fun n wr => n = .int .i64 0 ∧ wr = w)
  case first =>
    go_wp2
    go_loopw [5, 11] (fun n i wr => ∃ k : Nat, k ≤ 8 ∧ i = .int .i64 k ∧ n = .int .i64 0 ∧ wr = w) (fun _ i _ => 8 - (intOf i).toNat)
    case atStart => exact ⟨0, by omega, rfl, rfl, rfl⟩
    case round =>
      obtain ⟨k, hk, rfl, rfl, rfl⟩ := hrel
      by_cases hl : k < 8
      · have hl' : (k : Int) < 8 := by omega
        go_wp2
        go_roundw
        case rel => first | exact ⟨k + 1, by omega, by go_num, rfl, rfl⟩ | exact ⟨k + 1, by omega, by go_num, rfl, trivial⟩
        case measure => simp [intOf]; omega
      · obtain rfl : k = 8 := by omega
        go_wp2
        go_meet
        exact ⟨rfl, rfl⟩
  case rest =>
    obtain ⟨rfl, rfl⟩ := hcut
    go_wp2
    go_ret
    exact ⟨rfl, Below.refl _ _⟩
def zrow : List Value := (List.range 8).map fun _ => .int .u64 0
theorem zrow_len : zrow.length = 8 := by simp [zrow]
theorem zrow_at {j : Nat} (h : j < 8) : zrow[j]? = some (.int .u64 0) := by simp [zrow, h]
theorem zrow_one : ∀ v ∈ zrow, v.oneCell' = true := by intro v hv; simp [zrow] at hv; obtain ⟨_, rfl⟩ := hv; rfl
set_option maxHeartbeats 1000000 in
set_option maxRecDepth 100000 in
theorem regs_all (f : Nat) (w : World) (h : w.heap[f]? = some (.cells regs0 267 (0, 0))) : Calls Tryz.prog 103 #[.pointer (some ⟨f, 0, none⟩)] w fun e w' =>
    ∃ b, e = .returned (.slice (some ⟨b, 0, none⟩) 8 8) ∧ w.heap.size ≤ b ∧ b < w'.heap.size ∧ (∀ o : Nat, o < 8 → w'.cell? ⟨b, o, none⟩ = some (.int .u64 0)) ∧ Below w.heap.size w w' := by
  obtain ⟨i0, hi, hz0, hz1, hz2⟩ := info_parts Tryz.infoU64
  have hlf := lt_of_block h
  have c8 : w.cell? ⟨f, 8, none⟩ = some (.bool true) := by rw [cell_of h]; rfl
  have hn : Calls Tryz.prog 194 #[.pointer (some ⟨f, 0, none⟩)] w fun e w' => e = .returned (.bool false) ∧ w = w' := by
    go_enter Tryz.func194, Tryz.ntmps194
    go_wp2
    go_ret
    exact ⟨rfl, rfl⟩
  have hsrc : ∀ (W : World), Below w.heap.size w W → ∀ j v, zrow[j]? = some v → W.cell? ((⟨f, 0, none⟩ : Addr).add j) = some v := by
    intro W hb j v hv
    have hj : j < 8 := by
      rcases Nat.lt_or_ge j 8 with h' | h'
      · exact h'
      · rw [List.getElem?_eq_none (by rw [zrow_len]; exact h')] at hv; cases hv
    have e : v = .int .u64 0 := by rw [zrow_at hj] at hv; injection hv with hv; exact hv.symm
    rw [e, Addr.add_lit, hb.cell (p := ⟨f, 0 + j, none⟩) hlf, cell_of h]
    have : j = 0 ∨ j = 1 ∨ j = 2 ∨ j = 3 ∨ j = 4 ∨ j = 5 ∨ j = 6 ∨ j = 7 := by omega
    rcases this with rfl | rfl | rfl | rfl | rfl | rfl | rfl | rfl <;> rfl
  go_enter Tryz.func103, Tryz.ntmps103
  go_wp2_with (first
    | ((go_at_call 194; (with_reducible refine (hn).mono ?_); rintro e w' ⟨rfl, rfl⟩))
    | (refine wpList_make rfl 160 150 _ _ rfl i0 (.int .u64 0) Tryz.underlying160 hi hz0 1 hz1 8 rfl rfl (by rw [hz2]; decide) (by decide) ?_)
    | (refine wpList_copy_own rfl _ _ 160 160 rfl 150 Tryz.underlying160 (by kernel_rfl) w.heap.size 0 8 8 ⟨f, 0, none⟩ 8 8 rfl rfl (madeCells (Value.int .u64 0).cells (8 * 1)) 150 (heap_new _ _) zrow (by rw [zrow_len]; rfl) (hsrc _ ((Below.refl _ w).alloc (Nat.le_refl _) _)) (by rw [zrow_len]; simp [madeCells]) zrow_one ?_))
  have hrow := setRow_heap (w.alloc (.cells (madeCells #[Value.int .u64 0] 8) 150 (0, 0))) w.heap.size _ (zrow ++ List.drop zrow.length (madeCells #[Value.int .u64 0] 8).toList).toArray 150 _ (heap_new _ _)
  have hbl : Below w.heap.size w ((w.alloc (.cells (madeCells #[Value.int .u64 0] 8) 150 (0, 0))).setRow w.heap.size (zrow ++ List.drop zrow.length (madeCells #[Value.int .u64 0] 8).toList).toArray) := below_setRow ((Below.refl _ w).alloc (Nat.le_refl _) _) (Nat.le_refl _) _
  go_ret
  refine ⟨w.heap.size, rfl, Nat.le_refl _, lt_of_block hrow, fun o ho => ?_, hbl⟩
  rw [cell_of hrow]
  simp only [List.getElem?_toArray]
  rw [List.getElem?_append_left (by rw [zrow_len]; exact ho), zrow_at ho]
end Go.Proofs.YtmahledpcpdldaaGreat
