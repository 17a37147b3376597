/- MachineSeen: the walk. -/
import Derived.Test.YtejdfdllgobnhaaSeenQ
import Derived.Deep.Light
set_option linter.unusedVariables false
set_option linter.unusedSimpArgs false
namespace Go.Proofs.Ytejdfdllgobnhaa
open Go.RowKit

def E4 (E : Nat → Bool) : Array Value := #[.bool (E 0), .bool (E 1), .bool (E 2), .bool (E 3)]
theorem E4_set (E : Nat → Bool) {k : Nat} (hk : k < 4) : (E4 E).setIfInBounds k (.bool true) = E4 (upd E k true) := by
  match k, hk with
  | 0, _ => rfl
  | 1, _ => rfl
  | 2, _ => rfl
  | 3, _ => rfl
theorem E4_at (E : Nat → Bool) {k : Nat} (hk : k < 4) : (E4 E)[k]? = some (.bool (E k)) := by
  match k, hk with
  | 0, _ => rfl
  | 1, _ => rfl
  | 2, _ => rfl
  | 3, _ => rfl

/-- All blocks of a machine lie below n. -/
structure MBl.Under (B : MBl) (C n : Nat) : Prop where
  b : B.b < n
  mb : B.mb < n
  mg : B.mg < n
  cb : B.cb < n
  ta : B.ta < n
  tg : B.tg < n
  gc : B.gc < n
  core : ∀ k, k < C → B.core k < n ∧ B.tlb k < n
theorem MachIs.under {w : World} {B : MBl} {m : Mach} (h : MachIs w B m) : B.Under m.clk.n.toNat w.heap.size := by
  obtain ⟨_, hr, _⟩ := h.row
  exact ⟨lt_of_block h.box, h.mem.lta, h.mem.ltg, lt_of_block h.clk, h.typ.lta, h.typ.ltg, lt_of_block hr, fun k hk => ⟨lt_of_block (h.core k hk), lt_of_block (h.tlb k hk)⟩⟩
theorem MachIs.foreign {w w' : World} {B : MBl} {m : Mach} {n : Nat} (h : MachIs w B m) (u : B.Under m.clk.n.toNat n) (ht : Touch (fun x => n ≤ x) w w') : MachIs w' B m := by
  have hn : ∀ x, x < n → ¬ n ≤ x := fun x hx => by omega
  obtain ⟨arr, hr, hcl⟩ := h.row
  exact ⟨ht.at h.box (hn _ u.b), h.mem.touch ht (hn _ u.mb) (hn _ u.mg), h.clk.touch ht (hn _ u.cb), h.typ.touch ht (hn _ u.ta) (hn _ u.tg), ⟨arr, ht.at hr (hn _ u.gc), hcl⟩,
    fun k hk => ht.at (h.core k hk) (hn _ (u.core k hk).1), fun k hk => ht.at (h.tlb k hk) (hn _ (u.core k hk).2), h.sb, h.sm, h.st, h.sg, h.sc, h.d1, h.d2, h.d3⟩

set_option maxHeartbeats 4000000 in
set_option maxRecDepth 100000 in
theorem machineSeen_walk (cores : Int) (user pg : Bool) (x : Int) (a0 : Option Addr) (len0 cap0 : Nat) (z0 : List Int) (w : World) (v0 : (Lit.int .u8 cores).wf = true) (v1 : (Lit.int .u64 x).wf = true) (w0 : IsRow .u8 w a0 len0 cap0 z0) :
    Calls Try.prog 3 #[.int .u8 cores, .bool user, .bool pg, .int .u64 x, .slice a0 len0 cap0] w fun e w' => e = .returned (.bool true) ∧ Below w.heap.size w w' := by
  obtain ⟨q0, q1⟩ := u8_range v0
  obtain ⟨x0, x1⟩ := bounds_u64 v1
  clear v0 v1
  have m0 := w0.maxLen
  have o0 := w0.open
  have H0 := Lib.hid o0
  clear w0 o0
  have hnew : ∀ (C : Nat), 1 ≤ C → C ≤ 4 → ∀ w : World, Calls Try.prog 8 #[.agg #[.int .i64 1, .int .i64 C, .int .i64 0, .int .i64 0]] w fun e w' => ∃ B : MBl,
      e = .returned (.tuple #[.pointer (some ⟨B.b, 0, none⟩), .int .i64 0]) ∧ MachIs w' B (SM0 C) ∧ (∀ x, B.own x → w.heap.size ≤ x) ∧ Below w.heap.size w w' ∧ (∀ k, B.cur k = -1) := fun C h1 h4 w =>
    mach_new 1 C 0 0 w (by constructor <;> first | decide | omega)
  obtain ⟨kd, hkd⟩ : ∃ kd : Int, Hid (kd = kdOf user) := ⟨_, Lib.hid rfl⟩
  have hk : kd = 1 ∨ kd = 2 := hkd.out ▸ kdOf_or user
  go_enter Try.func3, Try.ntmps3
  go_upto_region 2 with (fail)
  obtain ⟨C, hC⟩ : ∃ C : Nat, 1 + cores % 4 = (C : Int) := ⟨(1 + cores % 4).toNat, by omega⟩
  rw [hC]
  have c1 : 1 ≤ C := by omega
  have c4 : C ≤ 4 := by omega
  clear hC q0 q1
  go_upto_region 5 with ((go_at_call 8; (with_reducible refine (hnew C c1 c4 _).mono ?_); rintro e w' ⟨B, rfl, hM, hown, hb, hcur⟩))
  obtain ⟨w1, rfl⟩ : ∃ w1 : World, w1 = w' := ⟨_, rfl⟩
  go_upto_if 42 with (fail)
  go_cut [14] (fun y wr => y = .int .i64 kd ∧ wr = w1)
  case first =>
    cases user <;> go_wp2 <;> go_meet <;> exact ⟨by rw [hkd.out]; rfl, rfl⟩
  case rest =>
    obtain ⟨rfl, rfl⟩ := hcut
    have okM := sm0_ok c1 c4
    have hbs := hb.size
    go_upto_region 12 with (first
      | ((go_at_call 9; (with_reducible refine (mach_clock _ _ _ hM).mono ?_); rintro e w' ⟨rfl, rfl⟩))
      | ((go_at_call 10; (with_reducible refine (clk_step B.cb (SM0 C).clk 0 _ hM.clk okM.clk).mono ?_); rintro e w' ⟨rfl, hc, ht⟩)
         have hM1 := hM.setclk ht hc (Clk.step_n _ _)
         have ok1 : (SM1 C).Ok := sm1_ok c1 c4
         have hb1 := below_touch hb ht hbs (fun i hi hs => by have := hown i (.inr (.inl hs)); omega)
         clear hM okM hb; have hM : MachIs _ B (SM1 C) := hM1; have okM := ok1; have hb := hb1; have hbs := hb.size; clear hM1 ok1 hb1 ht hc)
      | ((go_at_call 10; (with_reducible refine (clk_step B.cb (SM4 C kd x pg).clk 0 _ hM.clk okM.clk).mono ?_); rintro e w' ⟨rfl, hc, ht⟩)
         have hM1 := hM.setclk ht hc (Clk.step_n _ _)
         have ok1 : (SM5 C kd x pg).Ok := sm5_ok c1 c4 x0 (by omega)
         have hb1 := below_touch hb ht hbs (fun i hi hs => by have := hown i (.inr (.inl hs)); omega)
         clear hM okM hb; have hM : MachIs _ B (SM5 C kd x pg) := hM1; have okM := ok1; have hb := hb1; have hbs := hb.size; clear hM1 ok1 hb1 ht hc)
      | ((go_at_call 11; (with_reducible refine (mach_retype B (SM1 C) 0 kd _ hM okM (by decide)).mono ?_); rintro e w' ⟨rfl, hM1, ht⟩)
         rw [sm1_E c1 hk]
         have ok1 : (SM2 C kd).Ok := sm2_ok c1 c4
         have hb1 := below_touch hb ht hbs (fun i hi hs => by have := hown i hs; omega)
         clear hM okM hb; have hM : MachIs _ B (SM2 C kd) := hM1; have okM := ok1; have hb := hb1; have hbs := hb.size; clear hM1 ok1 hb1 ht)
      | ((go_at_call 12; (with_reducible refine (mach_mem _ _ _ hM).mono ?_); rintro e w' ⟨rfl, rfl⟩))
      | ((go_at_call 13; (with_reducible refine (mem_store B.mb B.mg (SM2 C kd).mem 0 7 x _ hM.mem okM.mem).mono ?_); rintro e w' ⟨rfl, hm, ht⟩)
         rw [sm2_can c1 hk]
         have hM1 := hM.setmem ht hm
         have hb1 := below_touch hb ht hbs (fun i hi hs => by have := hown i (.inl hs); omega)
         have ok1 : (SM3 C kd x).Ok := sm3_ok c1 c4 x0 (by omega)
         clear hM okM hb; have hM : MachIs _ B (SM3 C kd x) := hM1; have okM := ok1; have hb := hb1; have hbs := hb.size; clear hM1 ok1 hb1 ht hm)
      | ((go_at_call 14; (with_reducible refine (mach_typ _ _ _ hM).mono ?_); rintro e w' ⟨rfl, rfl⟩))
      | ((go_at_call 16; (with_reducible refine (mach_now _ _ _ hM).mono ?_); rintro e w' ⟨rfl, rfl⟩); rw [sm3_now c1 hk])
      | ((go_at_call 15; (with_reducible refine (typ_untype B.ta B.tg B.tcap (SM3 C kd x).typ 0 1 pg _ hM.typ okM.typ).mono ?_); rintro e w' ⟨rfl, hm, ht⟩)
         rw [sm3_unt c1 hk]
         have hM1 := hM.settyp ht hm
         have hb1 := below_touch hb ht hbs (fun i hi hs => by have := hown i (.inr (.inr hs)); omega)
         have ok1 : (SM4 C kd x pg).Ok := sm4_ok c1 c4 x0 (by omega)
         clear hM okM hb; have hM : MachIs _ B (SM4 C kd x pg) := hM1; have okM := ok1; have hb := hb1; have hbs := hb.size; clear hM1 ok1 hb1 ht hm))
    obtain ⟨w5, rfl⟩ : ∃ x : World, x = w' := ⟨_, rfl⟩
    have hlm := hM.mem.ltg; have hlc : B.cb < w5.heap.size := lt_of_block hM.clk; have hlt := hM.typ.ltg
    have hne : ∀ y, w5.heap.size ≤ y → ¬ B.own y := fun y hy h => by rcases h with h | h | h <;> omega
    have hck := sm5_ck (kd := kd) (x := x) (pg := pg) c1 c4 hk x0 (by omega)
    go_upto_block 0 with (fail)
    obtain ⟨bE, hbE⟩ : ∃ b, b = w5.heap.size := ⟨_, rfl⟩
    obtain ⟨wl, hwl⟩ : ∃ y : World, y = (w5.alloc (.cells #[.bool false, .bool false, .bool false, .bool false] 41 (0, 0))).alloc (.cells #[.bool false, .bool false, .bool false, .bool false] 41 (0, 0)) := ⟨_, rfl⟩
    have hE0 : wl.heap[bE]? = some (.cells (E4 (fun _ => false)) 41 (0, 0)) := by rw [hwl]; exact heap_alloc (heap_new' hbE _) _
    have hF0 : wl.heap[bE + 1]? = some (.cells (E4 (fun _ => false)) 41 (0, 0)) := by rw [hwl]; exact heap_new' (by simp [hbE]) _
    have hbl5 : Below w5.heap.size w5 wl := by rw [hwl]; (refine Touch.below0 ?_; (repeat' (first | (with_reducible exact Touch.refl _ _) | (with_reducible assumption) | (with_reducible refine Touch.drew ?_) | (with_reducible refine Touch.drewN ?_ _) | (with_reducible refine Touch.alloc ?_ _) | (with_reducible refine Touch.setCell ?_ _ _ _ ?_) | (with_reducible refine Touch.step (by assumption) ?_) | (with_reducible refine Touch.stepT (by assumption) ?_ ?_) | (intro _; first | rfl | trivial | omega | (simp; done) | (simp; omega)) | (intro _ _; first | omega | (simp; done) | (simp; omega)))))
    have hMl := hM.after hbl5
    have hbl := hb.trans (hbl5.mono hbs)
    have hU : B.Under C bE := by have := hM.under; rw [hck.n, ← hbE] at this; exact this
    have hEo : ¬ B.own bE := hne _ (by omega)
    have hFo : ¬ B.own (bE + 1) := hne _ (by omega)
    have hEw : w.heap.size ≤ bE := by omega
    rw [← hwl, ← hbE]
    clear hwl hM hb hbs hlm hlc hlt hne hbl5 okM hbE
    go_cut [] (fun wr => ∃ c E F, MachIs wr B (SMc C kd x pg c) ∧ CkIs C E F c ∧ wr.heap[bE]? = some (.cells (E4 E) 41 (0, 0)) ∧ wr.heap[bE + 1]? = some (.cells (E4 F) 41 (0, 0)) ∧ Below w.heap.size w wr)
    case first =>
      go_wp2
      go_loopw [17] (fun i wr => ∃ (k : Nat) (c : Clk) (E F : Nat → Bool), k ≤ 20 ∧ i = .int .i64 k ∧ MachIs wr B (SMc C kd x pg c) ∧ CkIs C E F c ∧ wr.heap[bE]? = some (.cells (E4 E) 41 (0, 0)) ∧ wr.heap[bE + 1]? = some (.cells (E4 F) 41 (0, 0)) ∧ Below w.heap.size w wr) (fun i _ => 20 - (intOf i).toNat)
      case atStart => exact ⟨0, _, _, _, by omega, rfl, hMl, hck, hE0, hF0, hbl⟩
      case round =>
        clear hMl hbl hE0 hF0 hck
        obtain ⟨k, c, E, F, hk20, rfl, hMr, hcr, hEr, hFr, hbr⟩ := hrel
        by_cases hin : k < len0 ∧ k < 20
        · obtain ⟨h0, h1⟩ := hin
          rcases H0.out with h | ⟨b0, f0, rfl, hb0, hz0, hr0⟩; · omega
          have g0 := hz0 k h0
          obtain ⟨q0, q0'⟩ := u8_range (hr0 k h0)
          generalize z0.getD k 0 = z at *
          clear hz0 hr0 H0
          have gx := ((bcell hbr).1 _ _ hb0).trans g0
          have hbs := hbr.size
          go_upto_region 17 with (fail)
          obtain ⟨j, hj⟩ : ∃ j : Nat, z / 2 % (C : Int) = (j : Int) := ⟨(z / 2 % (C : Int)).toNat, by have := Int.emod_nonneg (z / 2) (b := (C : Int)) (by omega); omega⟩
          have hjC : j < C := by have := Int.emod_lt_of_pos (z / 2) (b := (C : Int)) (by omega); omega
          rw [hj]
          clear hj
          have hj4 : j < 4 := by omega
          have okr : (SMc C kd x pg c).Ok := smc_ok c1 c4 x0 (by omega) hcr.ok hcr.n
          have hjn : j < (SMc C kd x pg c).clk.n.toNat := by show j < c.n.toNat; rw [hcr.n]; omega
          have e2 : z % 2 = 0 ∨ z % 2 = 1 := by omega
          rcases e2 with e2 | e2
          · have t0 : (z % 2 == 0) = true := by simp [e2]
            clear e2
            go_wp2_with (first
              | ((go_at_call 9; (with_reducible refine (mach_clock _ _ _ hMr).mono ?_); rintro e w' ⟨rfl, rfl⟩))
              | ((go_at_call 17; (with_reducible refine (clk_enter B.cb c (j : Int) _ hMr.clk hcr.ok).mono ?_); rintro e w' ⟨rfl, hc, ht⟩)
                 have hM1 := hMr.setclk ht hc (Clk.enter_n _ _)
                 have hE1 := ht.at hEr (fun e => hEo (.inr (.inl e)))
                 have hF1 := ht.at hFr (fun e => hFo (.inr (.inl e)))
                 have hb1 := below_touch hbr ht hbs (fun i hi hs => by have := hown i (.inr (.inl hs)); omega)
                 have gE1 : w'.cell? ⟨bE, j, none⟩ = some (.bool (E j)) := by rw [cell_of hE1]; exact E4_at E hj4
                 have fE1 := frozen_of hE1))
            have tE : Touch (fun y => bE ≤ y) w' (w'.setCell ⟨bE, j, none⟩ (.bool true)) := (Touch.refl _ _).setCell _ _ _ (fun _ => Nat.le_refl _)
            have hM2 : MachIs _ B (SMc C kd x pg (c.enter j)) := hM1.foreign (by show B.Under (c.enter j).n.toNat bE; rw [Clk.enter_n, hcr.n]; exact hU) tE
            have hE2 := heap_set hE1 (o := j) (.bool true)
            rw [E4_set E hj4] at hE2
            have hF2 := heap_set_ne (b' := bE) (o := j) hF1 (.bool true) (by omega)
            have hb2 := below_touch hb1 tE hb1.size (fun i hi hs => by omega)
            go_roundw
            case rel => exact ⟨k + 1, _, _, _, by omega, by go_num, hM2, hcr.enter hjC, hE2, hF2, hb2⟩
            case measure => simp [intOf]; omega
          · have t0 : (z % 2 == 0) = false := by simp [e2]
            clear e2
            go_wp2_with (first
              | ((go_at_call 18; (with_reducible refine (mach_flush B (SMc C kd x pg c) j _ hMr okr hjn).mono ?_); rintro e w' ⟨rfl, hM1, ht⟩)
                 have hE1 := ht.at hEr hEo
                 have hF1 := ht.at hFr hFo
                 have hb1 := below_touch hbr ht hbs (fun i hi hs => by have := hown i hs; omega)
                 have gE1 : w'.cell? ⟨bE + 1, j, none⟩ = some (.bool (F j)) := by rw [cell_of hF1]; exact E4_at F hj4
                 have fE1 := frozen_of hF1))
            have tE : Touch (fun y => bE ≤ y) w' (w'.setCell ⟨bE + 1, j, none⟩ (.bool true)) := (Touch.refl _ _).setCell _ _ _ (fun _ => by omega)
            have hM2 : MachIs _ B (SMc C kd x pg (c.flush j)) := MachIs.foreign (m := SMc C kd x pg (c.flush j)) hM1 (by show B.Under (c.flush j).n.toNat bE; rw [Clk.flush_n, hcr.n]; exact hU) tE
            have hF2 := heap_set hF1 (o := j) (.bool true)
            rw [E4_set F hj4] at hF2
            have hE2 := heap_set_ne (b' := bE + 1) (o := j) hE1 (.bool true) (by omega)
            have hb2 := below_touch hb1 tE hb1.size (fun i hi hs => by omega)
            go_roundw
            case rel => exact ⟨k + 1, _, _, _, by omega, by go_num, hM2, hcr.flush hjC, hE2, hF2, hb2⟩
            case measure => simp [intOf]; omega
        · have hin2 : ¬ ((k : Int) < len0 ∧ (k : Int) < 20) := by omega
          by_cases hin0 : k < len0
          · have hin2 : ¬ (k : Int) < 20 := by omega
            go_wp2; go_meet; exact ⟨c, E, F, hMr, hcr, hEr, hFr, hbr⟩
          · go_wp2; go_meet; exact ⟨c, E, F, hMr, hcr, hEr, hFr, hbr⟩
    case rest =>
      obtain ⟨c, E, F, hMr, hcr, hEr, hFr, hbr⟩ := hcut
      obtain ⟨wk, rfl⟩ : ∃ y : World, y = wc := ⟨_, rfl⟩
      clear hMl hbl hE0 hF0 hck H0
      go_upto_block 2 with (fail)
      go_cut [19, 20] (fun y z wr => y = .bool (allTo E C) ∧ z = .bool (allTo F C) ∧ wr = wk)
      case first =>
        go_wp2
        go_loopw [19, 20, 21] (fun y z i wr => ∃ k : Nat, k ≤ C ∧ y = .bool (allTo E k) ∧ z = .bool (allTo F k) ∧ i = .int .i64 k ∧ wr = wk) (fun _ _ i _ => C - (intOf i).toNat)
        case atStart => exact ⟨0, by omega, rfl, rfl, rfl, rfl⟩
        case round =>
          obtain ⟨k, hkC, rfl, rfl, rfl, rfl⟩ := hrel
          by_cases hin : k < C
          · have gE : wr.cell? ⟨bE, k, none⟩ = some (.bool (E k)) := by rw [cell_of hEr]; exact E4_at E (by omega)
            have gF : wr.cell? ⟨bE + 1, k, none⟩ = some (.bool (F k)) := by rw [cell_of hFr]; exact E4_at F (by omega)
            have s1 : allTo E (k + 1) = (allTo E k && E k) := rfl
            have s2 : allTo F (k + 1) = (allTo F k && F k) := rfl
            have S1 := Lib.hid s1; have S2 := Lib.hid s2
            clear s1 s2 hk
            cases hA : allTo E k <;> cases hB : allTo F k
            all_goals
              have HA := Lib.hid hA; have HB := Lib.hid hB
              clear hA hB
              go_wp2
              go_roundw
              case rel => exact ⟨k + 1, by omega, by rw [S1.out, HA.out]; rfl, by rw [S2.out, HB.out]; rfl, by go_num, trivial⟩
              case measure => simp [intOf]; omega
          · obtain rfl : k = C := by omega
            go_wp2; go_meet; exact ⟨rfl, rfl, rfl⟩
      case rest =>
        obtain ⟨rfl, rfl, rfl⟩ := hcut
        obtain ⟨wk, rfl⟩ : ∃ y : World, y = wc := ⟨_, rfl⟩
        have hkk := hkd.out
        subst hkk
        have okr : (SMc C (kdOf user) x pg c).Ok := smc_ok c1 c4 x0 (by omega) hcr.ok hcr.n
        have hE := smc_E (user := user) (pg := pg) (x := x) c1 hcr
        have hL := smc_load (user := user) (pg := pg) (x := x) c1 hcr
        have hcan := smc_can (user := user) (pg := pg) (x := x) (c := c) c1
        have HC := Lib.hid hcan
        have ok2 := Mach.retype_ok okr 0 (kdOf user)
        have hbs := hbr.size
        clear hcan hEr hFr hcr hk hkd
        generalize allTo E C = all at *
        generalize allTo F C = each at *
        cases user <;> cases pg <;> cases all <;> cases each
        all_goals
          simp [needOf] at hE hL
          have HE := Lib.hid hE; have HL := Lib.hid hL
          clear hE hL
          go_wp2_with (first
            | ((go_at_call 11; (with_reducible refine (mach_retype B _ 0 _ _ hMr okr (by decide)).mono ?_); rintro e w' ⟨rfl, hM2, ht⟩)
               rw [HE.out]
               have hb2 := below_touch hbr ht hbs (fun i hi hs => by have := hown i hs; omega))
            | ((go_at_call 12; (with_reducible refine (mach_mem _ _ _ hM2).mono ?_); rintro e w' ⟨rfl, rfl⟩))
            | ((go_at_call 19; (with_reducible refine (mem_load _ _ _ 0 7 _ hM2.mem ok2.mem).mono ?_); rintro e w' ⟨rfl, hx⟩); rw [HL.out, HC.out]; have hb2 := hb2.trans (hx.mono hb2.size))
            | ((go_at_call 20; (with_reducible refine (awake25 _).mono ?_); rintro e w' ⟨rfl, hba⟩)))

          go_ret
          exact ⟨rfl, hb2.trans (hba.mono hb2.size)⟩
end Go.Proofs.Ytejdfdllgobnhaa
