/- FindFewer: the plain law and the walk. -/
import Derived.Test.YtejdfdllgobnhaaGreatFindMX
import Derived.Test.YtejdfdllgobnhaaGreatCaps
import Derived.Deep.DeepCutAuto
import Derived.Deep.Cut
import Derived.Deep.CutBlock
set_option linter.unusedVariables false
set_option linter.unusedSimpArgs false
namespace Go.Proofs.YtejdfdllgobnhaaGreat
open Go.RowKit Go.OpenShut
theorem capE_ne {m : Mach} {l : LiveS} {root a k r : Int} (h : m.capE l root a k r ≠ 0) : m.capC l root a k r = CapS.zero := by
  unfold Mach.capC; rw [if_neg h]
theorem fewer_law {m : Mach} {l : LiveS} {root a k r s : Int} (r0 : -9223372036854775808 ≤ r) (r1 : r < 9223372036854775808) (h : m.capE l root a k r = 0) :
    m.capE l root a k (bits .and .i64 r s) = 0 ∧ m.capC l root a k (bits .and .i64 r s) = m.capC l root a k r ∧ (m.capC l root a k r).k = k ∧ bits .and .i64 (m.capC l root a k r).r r = r := by
  have hc : m.capC l root a k r = lookC m.mem root a := by unfold Mach.capC; rw [if_pos h]
  unfold Mach.capE at h
  by_cases hE : lookE m.mem root a = 0
  rotate_left
  · rw [if_neg hE] at h; exact absurd h hE
  rw [if_pos hE] at h
  by_cases hk : (lookC m.mem root a).k = k
  rotate_left
  · rw [if_neg hk] at h; exact absurd h (by decide)
  rw [if_pos hk] at h
  by_cases hn : bits .andNot .i64 r (lookC m.mem root a).r = 0
  rotate_left
  · rw [if_neg hn] at h; exact absurd h (by decide)
  rw [if_pos hn] at h
  have h2 : m.capE l root a k (bits .and .i64 r s) = 0 := by
    unfold Mach.capE
    rw [if_pos hE, if_pos hk, if_pos (andNot_fewer hn)]; exact h
  refine ⟨h2, ?_, ?_, ?_⟩
  · rw [hc]; unfold Mach.capC; rw [if_pos h2]
  · rw [hc]; exact hk
  · rw [hc]; exact (andNot_zero r0 r1).1 hn
set_option maxHeartbeats 4000000 in
set_option maxRecDepth 100000 in
theorem findFewer_walk (a0 : Option Addr) (len0 cap0 : Nat) (V : Nat → CapS) (a k r s : Int) (w : World) (w0 : IsCaps w a0 len0 cap0 V) (wa : (Lit.int .i64 a).wf = true) (wk : (Lit.int .i64 k).wf = true) (wr : (Lit.int .i64 r).wf = true) (ws : (Lit.int .i64 s).wf = true) :
    Calls Tryz.prog 6 #[.slice a0 len0 cap0, .int .i64 a, .int .i64 k, .int .i64 r, .int .i64 s] w
      fun e w' => e = .returned (.bool true) ∧ Below w.heap.size w w' := by
  have P8 : ∀ w, Calls Tryz.prog 28 #[.int .i64 8] w _ := fun w => pair26 8 w (by decide) (by decide)
  have br := bounds_i64 wr
  have AW := awake26
  obtain ⟨hl63, w0⟩ := w0
  go_enter Tryz.func6, Tryz.ntmps6
  go_upto_region 2 with ((go_at_call 28; (with_reducible refine (P8 _).mono ?_); rintro e w' ⟨B, v, rfl, hM, hown, hW⟩))
  have hg2 : w.heap.size ≤ B.mg := hown _ (.inl rfl)
  have okM := PM_ok (F := 8) (by decide) (by decide)
  clear hown P8
  have ok3 := ((M2_tab (n := 8) (by omega) (by omega)).cons (hi := 0) (by omega) (by omega) rfl 0).2.ok
  have MK0 := make0 (n := 8) (by omega) (by omega) B.mb B.mg
  have MK1 := make1 (n := 8) (by omega) (by omega) B.mb B.mg
  have CN := cons_at (n := 8) (by omega) (by omega) (hi := 0) (by omega) (by omega) B.mb B.mg
  have hm : MemIs w' B.mb B.mg ⟨8, fun _ _ => 0⟩ := hM.mach.mem
  generalize PM 8 = M0 at *
  generalize (M2 8).cons 0 0 1 0 = m3 at *
  generalize M2 8 = m2 at *
  generalize (⟨8, fun _ _ => 0⟩ : MemS).make 0 ⟨1, 0, false, 0⟩ = m1 at *
  generalize (⟨8, fun _ _ => 0⟩ : MemS) = m0 at *
  have hT : Touch (· = B.mg) w' w' := Touch.refl _ _
  obtain ⟨w1, hw1⟩ : ∃ x : World, x = w' := ⟨_, rfl⟩
  subst hw1
  go_upto_block 0 with (first
    | ((go_at_call 30; (with_reducible refine (mach_mem _ _ _ (hM.mach.setmem hT hm)).mono ?_); rintro e w' ⟨rfl, rfl⟩))
    | ((go_at_call 29; (with_reducible refine (MK0 _ hm).mono ?_); rintro e w' ⟨rfl, hm, ht⟩); have hT := hT.trans ht)
    | ((go_at_call 29; (with_reducible refine (MK1 _ hm).mono ?_); rintro e w' ⟨rfl, hm, ht⟩); have hT := hT.trans ht)
    | ((go_at_call 31; (with_reducible refine (CN _ hm).mono ?_); rintro e w' ⟨rfl, hm, ht⟩); have hT := hT.trans ht))
  clear MK0 MK1 CN
  go_cut [] (fun wr => ∃ m, MemIs wr B.mb B.mg m ∧ m.Ok ∧ Touch (· = B.mg) w1 wr)
  case first =>
    go_wp2
    go_loopw [13] (fun i wr => ∃ (j : Nat) (m : MemS), j ≤ 16 ∧ i = .int .i64 j ∧ MemIs wr B.mb B.mg m ∧ m.Ok ∧ Touch (· = B.mg) w1 wr) (fun i _ => 16 - (intOf i).toNat)
    case atStart => exact ⟨0, m3, by omega, rfl, hm, ok3, hT⟩
    case round =>
      obtain ⟨j, m, hj, rfl, hm, okm, hT⟩ := hrel
      by_cases hl : j < len0
      rotate_left
      · have hl' : ¬ (j : Int) < len0 := by omega
        go_wp2
        go_meet
        exact ⟨m, hm, okm, hT⟩
      have hl' : (j : Int) < len0 := by omega
      by_cases h16 : j < 16
      rotate_left
      · have h16' : ¬ (j : Int) < 16 := by omega
        go_wp2
        go_meet
        exact ⟨m, hm, okm, hT⟩
      have h16' : (j : Int) < 16 := by omega
      rcases w0 with h0 | ⟨b, o, rfl, hb, hc⟩
      · omega
      obtain ⟨⟨c0, c1, c2, c3, c4, c5⟩, -⟩ := hc j hl
      have hB := keepB hW (by omega) hT
      have PX := fun w h => tbl_put B.mb B.mg m 0 j 0 (V j) w h okm
      unfold CapS.v at PX
      have okm2 := MemS.tput_ok okm 0 j (V j) 0
      generalize m.tput 0 j (V j) 0 = m' at *
      generalize tputE m 0 j (V j) 0 = E' at *
      rw [← hB.cell (p := ⟨b, _, none⟩) hb] at c0 c1 c2 c3 c4 c5
      have hMD := (hM.mach.setmem hT hm).after ((Below.refl wr.heap.size wr).drew)
      have hmD := hm.after ((Below.refl wr.heap.size wr).drew)
      go_upto_block 1 with (fail)
      obtain ⟨wo, hwo⟩ : ∃ x : World, x = wr := ⟨_, rfl⟩
      subst hwo
      generalize V j = Vj at *
      go_cut [] (fun wi => MemIs wi B.mb B.mg m' ∧ Touch (· = B.mg) w1 wi)
      case first =>
        go_upto_region 10 with (fail)
        go_region_law (first
          | (go_simp; (go_at_call 30; (with_reducible refine (mach_mem _ _ _ hMD).mono ?_); rintro e w' ⟨rfl, rfl⟩))
          | (go_simp; (go_at_call 32; (with_reducible refine (PX _ hmD).mono ?_); rintro e w' ⟨rfl, hm9, ht9⟩)))
        all_goals
          go_wp2
          go_meet
          exact ⟨hm9, hT.trans (((Touch.refl (· = B.mg) wo).drew).trans ht9)⟩
      case rest =>
        obtain ⟨hm9, hT9⟩ := hcut
        go_wp2
        go_roundw
        case rel => first | exact ⟨j + 1, m', by omega, by go_num, hm9, okm2, hT9⟩ | ((repeat apply Exists.intro); exact ⟨⟨j + 1, m', by omega, by go_num, hm9, okm2, hT9⟩, rfl⟩)
        case measure => simp [intOf]; omega
  case rest =>
    obtain ⟨m, hm, okm, hT⟩ := hcut
    have hL : MachL wc B { M0 with mem := m } LiveS.zero := hM.setmem hm hT
    have okL : ({ M0 with mem := m } : Mach).Ok := Mach.mem_ok okM okm
    generalize ({ M0 with mem := m } : Mach) = M at *
    have hB := keepB hW (by omega) hT
    clear hM hm hT hW okm okM ok3
    have F1 := fun w h => f_cap B M LiveS.zero 0 a k r w h okL
    have F2 := fun w h => f_cap B M LiveS.zero 0 a k (bits .and .i64 r s) w h okL
    have LN := capE_ne (m := M) (l := LiveS.zero) (root := 0) (a := a) (k := k) (r := r)
    have LF := fewer_law (m := M) (l := LiveS.zero) (root := 0) (a := a) (k := k) (r := r) (s := s) (by omega) (by omega)
    generalize M.capE LiveS.zero 0 a k (bits .and .i64 r s) = E2 at *
    generalize M.capC LiveS.zero 0 a k (bits .and .i64 r s) = C2 at *
    generalize M.capE LiveS.zero 0 a k r = E1 at *
    generalize M.capC LiveS.zero 0 a k r = C1 at *
    by_cases hE : E1 = 0
    · obtain ⟨rfl, rfl, rfl, hb⟩ := LF hE
      subst hE
      clear LN LF
      obtain ⟨y0, y1, y2, y3, y4, y5⟩ := C2
      unfold CapS.v at F1 F2
      dsimp only at F1 F2 hb
      have hb2 : (bits .and .i64 y1 r == r) = true := by simpa using hb
      go_wp2_with (first
        | ((go_at_call 22; (with_reducible refine (F1 _ hL).mono ?_); rintro e w' ⟨rfl, hx⟩); have hy := hx.alloc hx.size (.cells #[.int .i64 y0, .int .i64 y1, .int .i64 y2, .int .i64 y3, .int .i64 y4, .int .i64 y5] 32 (0, 0)); have hL := hL.after hy; have hB := hB.trans (hy.mono hB.size); have hC1 := heap_new w' (.cells #[.int .i64 y0, .int .i64 y1, .int .i64 y2, .int .i64 y3, .int .i64 y4, .int .i64 y5] 32 (0, 0)); have z0 := cell_of hC1 0; have z1 := cell_of hC1 1; have z2 := cell_of hC1 2; have z3 := cell_of hC1 3; have z4 := cell_of hC1 4; have z5 := cell_of hC1 5; dsimp at z0 z1 z2 z3 z4 z5)
        | ((go_at_call 22; (with_reducible refine (F2 _ hL).mono ?_); rintro e w' ⟨rfl, hx⟩); have hy := hx.alloc hx.size (.cells #[.int .i64 y0, .int .i64 y1, .int .i64 y2, .int .i64 y3, .int .i64 y4, .int .i64 y5] 32 (0, 0)); have hB := hB.trans (hy.mono hB.size); have hC1 := (hy.block _ (lt_of_block hC1)).trans hC1; have z0 := cell_of hC1 0; have z1 := cell_of hC1 1; have z2 := cell_of hC1 2; have z3 := cell_of hC1 3; have z4 := cell_of hC1 4; have z5 := cell_of hC1 5; dsimp at z0 z1 z2 z3 z4 z5)
        | ((go_at_call 27; (with_reducible refine (AW _).mono ?_); rintro e w' ⟨rfl, hx⟩); have hB := hB.trans (hx.mono hB.size)))
      go_ret
      exact ⟨rfl, hB⟩
    · have hz := LN hE
      subst hz
      have hE2 : (E1 == 0) = false := by simpa using hE
      have hE3 : (E1 != 0) = true := by simpa using hE
      clear LN LF hE
      obtain ⟨y0, y1, y2, y3, y4, y5⟩ := C2
      unfold CapS.v at F1 F2
      unfold CapS.zero at F1
      dsimp only at F1 F2
      go_wp2_with (first
        | ((go_at_call 22; (with_reducible refine (F1 _ hL).mono ?_); rintro e w' ⟨rfl, hx⟩); have hy := hx.alloc hx.size (.cells #[.int .i64 0, .int .i64 0, .int .i64 0, .int .i64 0, .int .i64 0, .int .i64 0] 32 (0, 0)); have hL := hL.after hy; have hB := hB.trans (hy.mono hB.size); have hC1 := heap_new w' (.cells #[.int .i64 0, .int .i64 0, .int .i64 0, .int .i64 0, .int .i64 0, .int .i64 0] 32 (0, 0)); have z0 := cell_of hC1 0; have z1 := cell_of hC1 1; have z2 := cell_of hC1 2; have z3 := cell_of hC1 3; have z4 := cell_of hC1 4; have z5 := cell_of hC1 5; dsimp at z0 z1 z2 z3 z4 z5)
        | ((go_at_call 22; (with_reducible refine (F2 _ hL).mono ?_); rintro e w' ⟨rfl, hx⟩); have hy := hx.alloc hx.size (.cells #[.int .i64 y0, .int .i64 y1, .int .i64 y2, .int .i64 y3, .int .i64 y4, .int .i64 y5] 32 (0, 0)); have hB := hB.trans (hy.mono hB.size); have hC1 := (hy.block _ (lt_of_block hC1)).trans hC1; have z0 := cell_of hC1 0; have z1 := cell_of hC1 1; have z2 := cell_of hC1 2; have z3 := cell_of hC1 3; have z4 := cell_of hC1 4; have z5 := cell_of hC1 5; dsimp at z0 z1 z2 z3 z4 z5)
        | ((go_at_call 27; (with_reducible refine (AW _).mono ?_); rintro e w' ⟨rfl, hx⟩); have hB := hB.trans (hx.mono hB.size)))
      go_ret
      exact ⟨rfl, hB⟩
end Go.Proofs.YtejdfdllgobnhaaGreat
