/- Several texts in one: R02, R02b. -/
import Derived.Test.YtmahledpcpdldaaGreatGRef
import Derived.Test.YtmahledpcpdldaaGreatGSlot
/- R02 -/
set_option linter.unusedVariables false
set_option linter.unusedSimpArgs false
namespace Go.Proofs.YtmahledpcpdldaaGreat
open Go.RowKit
theorem RMemIs.touch {w w' : World} {B : RMB} {m : MemS} {S : Nat → Prop} (h : RMemIs w B m) (ht : Touch S w w') (hv : ¬ S B.v) (hb : ¬ S B.b) (hf : ∀ j, j < m.n → ¬ S (B.fb j)) : RMemIs w' B m :=
  ⟨ht.at h.box hv, h.heads.touch ht hb, fun j hj => (h.rows j hj).touch ht (hf j hj), h.vb, h.vf, h.inj⟩
theorem RMemIs.after {w w' : World} {B : RMB} {m : MemS} (h : RMemIs w B m) (hb : Below w.heap.size w w') : RMemIs w' B m :=
  h.touch (Touch.of_below (S := fun _ => False) hb) (fun h => h) (fun h => h) (fun _ _ h => h)
theorem RMemIs.cell0 {w : World} {B : RMB} {m : MemS} (h : RMemIs w B m) : w.cell? ⟨B.v, 0, none⟩ = some (.slice (some ⟨B.b, 0, none⟩) m.n B.c) := by rw [cell_of h.box]; rfl
theorem RMemIs.head {w : World} {B : RMB} {m : MemS} (h : RMemIs w B m) {f : Nat} (hf : f < m.n) : w.cell? ⟨B.b, f, none⟩ = some (.slice (some ⟨B.fb f, 0, none⟩) 36 (B.cp f)) := h.heads.at (headL_at _ _ hf)
theorem RMemIs.at {w : World} {B : RMB} {m : MemS} (h : RMemIs w B m) {f o : Nat} (hf : f < m.n) (ho : o < 36) : w.cell? ⟨B.fb f, o, none⟩ = some (.int .u64 (m.w f o)) := (h.rows f hf).at (u64s_at _ ho)
theorem RMemIs.set {w : World} {B : RMB} {m : MemS} (h : RMemIs w B m) {f o : Nat} (hf : f < m.n) (ho : o < 36) (x : Int) : RMemIs (w.setCell ⟨B.fb f, o, none⟩ (.int .u64 x)) B (m.put f o x) := by
  have hv := h.vf f hf
  refine ⟨heap_set_ne h.box _ (Ne.symm hv.1), h.heads.keep _ (Ne.symm hv.2), fun j hj => ?_, h.vb, h.vf, h.inj⟩
  have hj' : j < m.n := hj
  show Row _ (B.fb j) _ (u64s (upd m.w f (upd (m.w f) o x) j))
  by_cases e : j = f
  · subst e
    rw [upd_same, ← u64s_set _ _ ho]
    exact (h.rows j hj').set (by rw [u64s_len]; exact ho) _
  · rw [upd_ne _ _ _ _ e]
    exact (h.rows j hj').keep _ (fun e2 => e (h.inj _ _ hj' hf e2))
theorem RMB.own_of {B : RMB} {n f : Nat} (hf : f < n) : B.own n (B.fb f) := ⟨f, hf, rfl⟩

theorem r2_is (B : RMB) (m : MemS) (f : Int) (w : World) (h : RMemIs w B m) : Calls Tryz.prog 187 #[.pointer (some ⟨B.v, 0, none⟩), .int .i64 f] w fun e w' => e = .returned (.bool (m.has f)) ∧ w = w' := by
  have g0 := h.cell0
  unfold MemS.has
  by_cases h0 : 0 ≤ f
  · have e : inB f m.n = decide (f < m.n) := by simp [inB]; omega
    rw [e]; clear e
    go_enter Tryz.func187, Tryz.ntmps187
    go_wp2
    go_ret
    exact ⟨rfl, rfl⟩
  · have e : inB f m.n = false := by simp [inB]; omega
    rw [e]; clear e
    go_enter Tryz.func187, Tryz.ntmps187
    go_wp2
    go_ret
    exact ⟨rfl, rfl⟩
theorem can_has {m : MemS} {f a : Int} : (m.can f a = 0 ∧ m.has f = true ∧ 0 ≤ a ∧ a < 36) ∨ (m.can f a = 1 ∧ m.has f = false) ∨ (m.can f a = 1 ∧ m.has f = true ∧ a < 0) ∨ (m.can f a = 1 ∧ m.has f = true ∧ 0 ≤ a ∧ 36 ≤ a) := by
  unfold MemS.can MemS.has
  by_cases h0 : f < 0
  · rw [if_pos h0]
    exact .inr (.inl ⟨rfl, by simp [inB]; omega⟩)
  rw [if_neg h0]
  by_cases h1 : (m.n : Int) ≤ f
  · rw [if_pos h1]
    exact .inr (.inl ⟨rfl, by simp [inB]; omega⟩)
  rw [if_neg h1]
  have hh : inB f m.n = true := by simp [inB]; omega
  by_cases h2 : a < 0
  · rw [if_pos h2]; exact .inr (.inr (.inl ⟨rfl, hh, h2⟩))
  rw [if_neg h2]
  by_cases h3 : 36 ≤ a
  · rw [if_pos h3]; exact .inr (.inr (.inr ⟨rfl, hh, by omega, h3⟩))
  rw [if_neg h3]; exact .inl ⟨rfl, hh, by omega, by omega⟩
theorem r2_load (B : RMB) (m : MemS) (f i : Int) (w : World) (h : RMemIs w B m) (ok : m.Ok) : Calls Tryz.prog 211 #[.pointer (some ⟨B.v, 0, none⟩), .int .i64 f, .int .i64 i] w fun e w' => e = .returned (.tuple #[.int .u64 (m.load f i), .int .i64 (m.can f i)]) ∧ w = w' := by
  have IS := fun w h => r2_is B m f w h
  have n64 := ok.n64
  unfold MemS.load
  rcases can_has (m := m) (f := f) (a := i) with ⟨hc, hh, i0, i1⟩ | ⟨hc, hh⟩ | ⟨hc, hh, i0⟩ | ⟨hc, hh, i0, i1⟩
  · obtain ⟨f0, f1⟩ := inB_iff.1 hh
    rw [hc, if_pos rfl]
    rw [hh] at IS
    have g0 := h.cell0
    have g1 := h.head (f := f.toNat) (by omega)
    have g2 := h.at (f := f.toNat) (o := i.toNat) (by omega) (by omega)
    clear hc hh
    go_enter Tryz.func211, Tryz.ntmps211
    go_wp2_with ((go_at_call 187; (with_reducible refine (IS _ h).mono ?_); rintro e w' ⟨rfl, rfl⟩))
    go_ret2
    exact ⟨rfl, rfl⟩
  all_goals
    rw [hc, if_neg (by decide)]
    rw [hh] at IS
    clear hc hh
    go_enter Tryz.func211, Tryz.ntmps211
    go_wp2_with ((go_at_call 187; (with_reducible refine (IS _ h).mono ?_); rintro e w' ⟨rfl, rfl⟩))
    go_ret2
    exact ⟨rfl, rfl⟩
theorem r2_store (B : RMB) (m : MemS) (f i x : Int) (w : World) (h : RMemIs w B m) (ok : m.Ok) : Calls Tryz.prog 89 #[.pointer (some ⟨B.v, 0, none⟩), .int .i64 f, .int .i64 i, .int .u64 x] w fun e w' => e = .returned (.int .i64 (m.can f i)) ∧ RMemIs w' B (m.store f i x) ∧ Touch (B.own m.n) w w' := by
  have IS := fun w h => r2_is B m f w h
  have n64 := ok.n64
  unfold MemS.store
  rcases can_has (m := m) (f := f) (a := i) with ⟨hc, hh, i0, i1⟩ | ⟨hc, hh⟩ | ⟨hc, hh, i0⟩ | ⟨hc, hh, i0, i1⟩
  · obtain ⟨f0, f1⟩ := inB_iff.1 hh
    rw [hc, if_pos rfl]
    rw [hh] at IS
    have g0 := h.cell0
    have g1 := h.head (f := f.toNat) (by omega)
    have g2 := h.at (f := f.toNat) (o := i.toNat) (by omega) (by omega)
    have gf := (h.rows f.toNat (by omega)).free
    have hset := h.set (f := f.toNat) (o := i.toNat) (by omega) (by omega) x
    have hown : B.own m.n (B.fb f.toNat) := RMB.own_of (by omega)
    have ht : Touch (B.own m.n) w (w.setCell ⟨B.fb f.toNat, i.toNat, none⟩ (.int .u64 x)) := Touch.setCell (Touch.refl _ _) _ _ _ (fun _ => hown)
    clear hc hh
    go_enter Tryz.func89, Tryz.ntmps89
    go_wp2_with ((go_at_call 187; (with_reducible refine (IS _ h).mono ?_); rintro e w' ⟨rfl, rfl⟩))
    go_ret
    exact ⟨rfl, hset, ht⟩
  all_goals
    rw [hc, if_neg (by decide)]
    rw [hh] at IS
    clear hc hh
    go_enter Tryz.func89, Tryz.ntmps89
    go_wp2_with ((go_at_call 187; (with_reducible refine (IS _ h).mono ?_); rintro e w' ⟨rfl, rfl⟩))
    go_ret
    exact ⟨rfl, h, Touch.refl _ _⟩
end Go.Proofs.YtmahledpcpdldaaGreat
/- R02b -/
set_option linter.unusedVariables false
set_option linter.unusedSimpArgs false
namespace Go.Proofs.YtmahledpcpdldaaGreat
open Go.RowKit
theorem u64s_congr {f g : Nat → Int} (h : ∀ o, o < 36 → f o = g o) : u64s f = u64s g := by
  unfold u64s; apply List.map_congr_left; intro o ho; rw [h o (by simpa using ho)]
theorem RMemIs.congr {w : World} {B : RMB} {m m' : MemS} (h : RMemIs w B m) (hn : m'.n = m.n) (hw : ∀ f o, f < m.n → o < 36 → m'.w f o = m.w f o) : RMemIs w B m' := by
  refine ⟨by rw [hn]; exact h.box, by rw [hn]; exact h.heads, fun j hj => ?_, h.vb, fun j hj => h.vf j (by omega), fun i j hi hj => h.inj i j (by omega) (by omega)⟩
  rw [hn] at hj
  rw [u64s_congr (fun o ho => hw j o hj ho)]; exact h.rows j hj
def zfill (k : Nat) (g : Nat → Int) : Nat → Int := fun o => if o < k then 0 else g o
def MemS.wipe (m : MemS) (f k : Nat) : MemS := { m with w := upd m.w f (zfill k (m.w f)) }
theorem wipe_next (m : MemS) (f k : Nat) : ∀ f' o, ((m.wipe f k).put f k 0).w f' o = (m.wipe f (k + 1)).w f' o := by
  intro f' o
  unfold MemS.put MemS.wipe
  dsimp only
  by_cases e : f' = f
  · subst e
    simp only [upd_same]
    unfold zfill upd
    dsimp only
    by_cases e1 : o = k
    · rw [if_pos e1, if_pos (by omega)]
    · rw [if_neg e1]
      by_cases e2 : o < k
      · rw [if_pos e2, if_pos (by omega)]
      · rw [if_neg e2, if_neg (by omega)]
  · simp only [upd_ne _ _ _ _ e]
set_option maxHeartbeats 1000000 in
set_option maxRecDepth 100000 in
theorem r2_clear (B : RMB) (m : MemS) (f : Int) (w : World) (h : RMemIs w B m) (ok : m.Ok) : Calls Tryz.prog 112 #[.pointer (some ⟨B.v, 0, none⟩), .int .i64 f] w fun e w' => e = .returned (.int .i64 (m.can f 0)) ∧ RMemIs w' B (m.clear f) ∧ Touch (B.own m.n) w w' := by
  have IS := fun w h => r2_is B m f w h
  have n64 := ok.n64
  unfold MemS.clear
  rcases can_has (m := m) (f := f) (a := 0) with ⟨hc, hh, -, -⟩ | ⟨hc, hh⟩ | ⟨hc, hh, i0⟩ | ⟨hc, hh, i0, i1⟩
  · obtain ⟨f0, f1⟩ := inB_iff.1 hh
    rw [hc, if_pos rfl]
    rw [hh] at IS
    obtain ⟨F, rfl⟩ : ∃ F : Nat, f = F := ⟨f.toNat, by omega⟩
    have hF : F < m.n := by omega
    have hown : B.own m.n (B.fb F) := RMB.own_of hF
    have hst : RMemIs w B (m.wipe F 0) := h.congr rfl (fun f' o _ _ => by
      unfold MemS.wipe; dsimp only
      by_cases e : f' = F
      · subst e; rw [upd_same]; rfl
      · rw [upd_ne _ _ _ _ e])
    clear hc hh
    go_enter Tryz.func112, Tryz.ntmps112
    go_upto_block 0 with ((go_at_call 187; (with_reducible refine (IS _ h).mono ?_); rintro e w' ⟨rfl, rfl⟩))
    go_cut [] (fun wr => RMemIs wr B { m with w := upd m.w F (fun _ => 0) } ∧ Touch (B.own m.n) w wr)
    case first =>
      go_wp2
      go_loopw [5] (fun i wr => ∃ k : Nat, k ≤ 36 ∧ i = .int .i64 k ∧ RMemIs wr B (m.wipe F k) ∧ Touch (B.own m.n) w wr) (fun i _ => 36 - (intOf i).toNat)
      case atStart => exact ⟨0, by omega, rfl, hst, Touch.refl _ _⟩
      case round =>
        obtain ⟨k, hk, rfl, hr, ht⟩ := hrel
        by_cases hlt : k < 36
        · have hlt' : (k : Int) < 36 := by omega
          have hFn : F < (m.wipe F k).n := hF
          have g0 := hr.cell0
          have g1 := hr.head hFn
          have g2 := hr.at hFn hlt
          have gf := (hr.rows F hFn).free
          have gn : (m.wipe F k).n = m.n := rfl
          rw [gn] at g0
          have hset := (hr.set hFn hlt 0).congr (m' := m.wipe F (k + 1)) rfl (fun f' o _ _ => (wipe_next m F k f' o).symm)
          have hFi : (F : Int) < m.n := by omega
          clear hFn gn
          go_wp2
          go_roundw
          case rel => exact ⟨k + 1, by omega, by go_num, hset, Touch.setCell ht _ _ _ (fun _ => hown)⟩
          case measure => simp [intOf]; omega
        · obtain rfl : 36 = k := by omega
          go_wp2
          go_meet
          refine ⟨hr.congr rfl (fun f' o _ ho => ?_), ht⟩
          unfold MemS.wipe; dsimp only
          by_cases e : f' = F
          · subst e; rw [upd_same, upd_same]; unfold zfill; rw [if_pos ho]
          · rw [upd_ne _ _ _ _ e, upd_ne _ _ _ _ e]
    case rest =>
      obtain ⟨hr, ht⟩ := hcut
      go_wp2
      go_ret
      exact ⟨rfl, hr, ht⟩
  rotate_left
  · omega
  · omega
  all_goals
    rw [hc, if_neg (by decide)]
    rw [hh] at IS
    clear hc hh
    go_enter Tryz.func112, Tryz.ntmps112
    go_wp2_with ((go_at_call 187; (with_reducible refine (IS _ h).mono ?_); rintro e w' ⟨rfl, rfl⟩))
    go_ret
    exact ⟨rfl, h, Touch.refl _ _⟩
theorem r2_words_no (B : RMB) (m : MemS) (f : Int) (w : World) (h : RMemIs w B m) (hh : m.has f = false) : Calls Tryz.prog 225 #[.pointer (some ⟨B.v, 0, none⟩), .int .i64 f] w fun e w' => e = .returned (.tuple #[.slice none 0 0, .int .i64 1]) ∧ w = w' := by
  have IS := fun w h => r2_is B m f w h
  rw [hh] at IS
  go_enter Tryz.func225, Tryz.ntmps225
  go_wp2_with ((go_at_call 187; (with_reducible refine (IS _ h).mono ?_); rintro e w' ⟨rfl, rfl⟩))
  go_ret2
  exact ⟨rfl, rfl⟩
set_option maxHeartbeats 1000000 in
set_option maxRecDepth 100000 in
theorem r2_words (B : RMB) (m : MemS) (F : Nat) (w : World) (h : RMemIs w B m) (ok : m.Ok) (hF : F < m.n) : Calls Tryz.prog 225 #[.pointer (some ⟨B.v, 0, none⟩), .int .i64 F] w fun e w' => ∃ g cap,
    e = .returned (.tuple #[.slice (some ⟨g, 0, none⟩) 36 cap, .int .i64 0]) ∧ Row w' g 150 (u64s (m.w F)) ∧ w.heap.size ≤ g ∧ Below w.heap.size w w' := by
  have IS := fun w h => r2_is B m F w h
  have hh : m.has (F : Int) = true := inB_iff.2 ⟨by omega, by omega⟩
  rw [hh] at IS
  clear hh
  have n64 := ok.n64
  obtain ⟨j0, gi, gz0, gz1, gz2⟩ := info_parts Tryz.infoU64
  have g0 := h.cell0
  have g1 := h.head hF
  have lb := h.heads.lt
  have lv := lt_of_block h.box
  have hFi : (F : Int) < m.n := by omega
  have hA : RMemIs (w.alloc (.cells #[] 150 (0, 0))) B m := h.after (show Below w.heap.size w _ by (refine Touch.below0 ?_; (repeat' (first | (with_reducible exact Touch.refl _ _) | (with_reducible assumption) | (with_reducible refine Touch.drew ?_) | (with_reducible refine Touch.drewN ?_ _) | (with_reducible refine Touch.alloc ?_ _) | (with_reducible refine Touch.setCell ?_ _ _ _ ?_) | (with_reducible refine Touch.step (by assumption) ?_) | (with_reducible refine Touch.stepT (by assumption) ?_ ?_) | (intro _; first | rfl | trivial | omega | (simp; done) | (simp; omega)) | (intro _ _; first | omega | (simp; done) | (simp; omega))))))
  have o1 : (w.alloc (.cells #[] 150 (0, 0))).ownsRow w.heap.size 150 1 (.slice (some ⟨w.heap.size, 0, none⟩) 0 0) 0 [] :=
    ⟨rfl, .inr ⟨w.heap.size, 0, #[], rfl, Nat.le_refl _, heap_new _ _, Nat.le_refl _, by decide, rfl, rfl⟩⟩
  go_enter Tryz.func225, Tryz.ntmps225
  go_wp2_with (first
    | (go_at_call 187; (with_reducible refine (IS _ h).mono ?_); rintro e w' ⟨rfl, rfl⟩)
    | (at_builtin
       refine wpList_append_mine _ rfl _ _ 160 rfl 150 j0 (.int .u64 0) 1 8 Tryz.underlying160 gi gz0 gz1 gz2 rfl (by decide) w.heap.size (.slice (some ⟨w.heap.size, 0, none⟩) 0 0) 0 [] rfl o1 ⟨B.fb F, 0, none⟩ 36 (B.cp F) (u64s (m.w F)) rfl (u64s_len _) (fun j u hj => ?_) (fun u hu => ?_) (by decide) (by decide) (by simp) (by decide) ?_
       rotate_left 2
       intro v2 w2 n2 ht2 hl2))
  · obtain ⟨g, cap, rfl⟩ := own_slice n2 (by decide)
    have hb2 : Below w.heap.size w w2 := (show Below w.heap.size w (w.alloc (.cells #[] 150 (0, 0))) by (refine Touch.below0 ?_; (repeat' (first | (with_reducible exact Touch.refl _ _) | (with_reducible assumption) | (with_reducible refine Touch.drew ?_) | (with_reducible refine Touch.drewN ?_ _) | (with_reducible refine Touch.alloc ?_ _) | (with_reducible refine Touch.setCell ?_ _ _ _ ?_) | (with_reducible refine Touch.step (by assumption) ?_) | (with_reducible refine Touch.stepT (by assumption) ?_ ?_) | (intro _; first | rfl | trivial | omega | (simp; done) | (simp; omega)) | (intro _ _; first | omega | (simp; done) | (simp; omega)))))).trans (ht2.below (by simp) (fun i hi hh => by injection hh with hh; dsimp only at hh; omega))
    rcases ownsRow_row n2 with ⟨he, _, _⟩ | ⟨g1, c1, he, l1, _, _, _, R1⟩
    · cases he
    · cases he
      go_ret2
      exact ⟨g, cap, rfl, R1, l1, hb2⟩
  · have hj' : j < 36 := by
      rcases Nat.lt_or_ge j 36 with h' | h'
      · exact h'
      · rw [List.getElem?_eq_none (by rw [u64s_len]; exact h')] at hj; cases hj
    rw [u64s_at _ hj'] at hj
    injection hj with hj
    subst hj
    have := hA.at hF hj'
    rw [Go.WideShapes.add_plain, Nat.zero_add]; exact this
  · unfold u64s at hu
    obtain ⟨o, _, ho⟩ := List.mem_map.1 hu
    rw [← ho]; rfl
end Go.Proofs.YtmahledpcpdldaaGreat
