/- Pack: parts as a word. -/
import Derived.Test.YtmahledpcpdldaaGreatGWord
set_option linter.unusedVariables false
set_option linter.unusedSimpArgs false
namespace Go.Proofs.YtmahledpcpdldaaGreat
open Go.RowKit Go.Shelf

attribute [local go_sem] Oper.semAt_some wide_fn

theorem Boxed.keptOwn {W W' : World} {row : Option Nat} {B : Nat} {t : TypeId} {v : Value} (h : Boxed W B t v) (hg : W.grownBy W' row) (hr : ∀ r, row = some r → ∃ o : Obj, W.heap[r]? = some o ∧ o.isCells = false) : Boxed W' B t v :=
  h.kept hg (fun e => by obtain ⟨o, ho, hc⟩ := hr B e.symm; rw [show W.heap[B]? = _ from h] at ho; cases ho; cases hc)
theorem Boxed.other {W : World} {B B' : Nat} {t : TypeId} {v : Value} (h : Boxed W B t v) (hne : B ≠ B') (v' : Value) : Boxed (W.setCell ⟨B', 0, none⟩ v') B t v := heap_set_ne h v' hne
theorem Boxed.drew {W : World} {B : Nat} {t : TypeId} {v : Value} (h : Boxed W B t v) : Boxed W.drew B t v := h

theorem below_drewN {B : Nat} {w W : World} (h : Below B w W) (n : Nat) : Below B w (W.drewN n) := ⟨h.os, h.tape, h.output, h.size, h.block⟩
theorem keeps_drewN (W : World) (n : Nat) : KeepsOthers W (W.drewN n) := ⟨Nat.le_refl _, fun _ _ h _ => h⟩
/-- A row of integers in memory. -/
def IntsAt (w : World) (b off : Nat) (k : IntKind) (xs : List Int) : Prop := b < w.heap.size ∧ ∀ j, j < xs.length → w.cell? ⟨b, off + j, none⟩ = some (.int k (xs[j]?.getD 0))
theorem IntsAt.after {w w' : World} {b off : Nat} {k : IntKind} {xs : List Int} (h : IntsAt w b off k xs) (hb : Below w.heap.size w w') : IntsAt w' b off k xs :=
  ⟨Nat.lt_of_lt_of_le h.1 hb.size, fun j hj => (hb.cell (p := ⟨b, off + j, none⟩) h.1).trans (h.2 j hj)⟩

def fitAt (ns vs : List Int) (x : Fin ns.length) : Bool := fitsB (vs[x.1]?.getD 0) (ns[x.1]?.getD 0)
def packL (ns vs : List Int) (pre : List (Fin ns.length)) : Int := pre.foldl (fun a x => bits .or .u64 a (IntKind.u64.wrap ((vs[x.1]?.getD 0) * 2 ^ (offs ns x.1).toNat))) 0
theorem packL_snoc (ns vs : List Int) (pre : List (Fin ns.length)) (x : Fin ns.length) : packL ns vs (pre ++ [x]) = bits .or .u64 (packL ns vs pre) (IntKind.u64.wrap ((vs[x.1]?.getD 0) * 2 ^ (offs ns x.1).toNat)) := by simp [packL]

set_option maxRecDepth 100000 in
set_option maxHeartbeats 4000000 in
theorem f_pack0 (ns vs : List Int) (bn on cn bv ov cv : Nat) (w : World) (hw : WOk ns) (hmx : ns.length ≤ 64) (hl : vs.length = ns.length) (hn : IntsAt w bn on .i64 ns) (hv : IntsAt w bv ov .u64 vs) (h0 : ∀ j : Nat, 0 ≤ vs[j]?.getD 0) (h1 : ∀ j : Nat, vs[j]?.getD 0 < 18446744073709551616) :
    Calls Tryz.prog 257 #[.slice (some ⟨bn, on, none⟩) ns.length cn, .slice (some ⟨bv, ov, none⟩) ns.length cv] w fun e w' =>
      e = .returned (.tuple #[.int .u64 (if (∀ x, fitAt ns vs x = true) then packL ns vs (List.finRange ns.length) else 0), .int .i64 (if (∀ x, fitAt ns vs x = true) then 0 else 1)]) ∧ Below w.heap.size w w' := by
  obtain ⟨hnl, hnc⟩ := id hn
  obtain ⟨hvl, hvc⟩ := id hv
  refine (callsIn_wide (n := 4)).1 ?_
  refine callsIn_of_wp_marks Tryz.func257 rfl trivial ?_ rfl
  simp only [Tryz.ntmps257, List.size_toArray, List.length_cons, List.length_nil, Nat.reduceAdd, Nat.reduceSub, Array.replicate_succ, Array.replicate_zero, List.push_toArray, List.append_toArray, List.nil_append, List.cons_append]
  gi_wp2_with (gi_at_call 287; refine (callsIn_wide.2 (f_places _ _ _ _)).mono ?_; rintro e w' ⟨rfl, rfl⟩)
  obtain ⟨B, hB⟩ : ∃ B, B = w.heap.size := ⟨_, rfl⟩
  obtain ⟨wl, hwl⟩ : ∃ y : World, y = ((((((w.alloc (.cells #[.slice (some ⟨bn, on, none⟩) ns.length cn] 25 (0, 0))).alloc (.cells #[.slice (some ⟨bv, ov, none⟩) ns.length cv] 160 (0, 0))).alloc (.cells #[.int .u64 0] 150 (0, 0))).alloc (.cells #[.int .i64 0] 28 (0, 0))).alloc (.cells #[.int .u64 0] 150 (0, 0))).alloc (.cells #[.slice (some ⟨bn, on, none⟩) ns.length cn] 25 (0, 0))) := ⟨_, rfl⟩
  have b0 : Boxed wl B 25 (.slice (some ⟨bn, on, none⟩) ns.length cn) := by rw [hwl]; exact heap_alloc (heap_alloc (heap_alloc (heap_alloc (heap_alloc (heap_new' hB _) _) _) _) _) _
  have b1 : Boxed wl (B + 1) 160 (.slice (some ⟨bv, ov, none⟩) ns.length cv) := by rw [hwl]; exact heap_alloc (heap_alloc (heap_alloc (heap_alloc (heap_new' (by simp [hB]) _) _) _) _) _
  have b2 : Boxed wl (B + 1 + 1) 150 (.int .u64 0) := by rw [hwl]; exact heap_alloc (heap_alloc (heap_alloc (heap_new' (by simp [hB]) _) _) _) _
  have b3 : Boxed wl (B + 1 + 1 + 1) 28 (.int .i64 0) := by rw [hwl]; exact heap_alloc (heap_alloc (heap_new' (by simp [hB]) _) _) _
  have b4 : Boxed wl (B + 1 + 1 + 1 + 1) 150 (.int .u64 0) := by rw [hwl]; exact heap_alloc (heap_new' (by simp [hB]) _) _
  have b5 : Boxed wl (B + 1 + 1 + 1 + 1 + 1) 25 (.slice (some ⟨bn, on, none⟩) ns.length cn) := by rw [hwl]; exact heap_new' (by simp [hB]) _
  have hbl : Below w.heap.size w wl := by rw [hwl]; (refine Touch.below0 ?_; (repeat' (first | (with_reducible exact Touch.refl _ _) | (with_reducible assumption) | (with_reducible refine Touch.drew ?_) | (with_reducible refine Touch.drewN ?_ _) | (with_reducible refine Touch.alloc ?_ _) | (with_reducible refine Touch.setCell ?_ _ _ _ ?_) | (with_reducible refine Touch.step (by assumption) ?_) | (with_reducible refine Touch.stepT (by assumption) ?_ ?_) | (intro _; first | rfl | trivial | omega | (simp; done) | (simp; omega)) | (intro _ _; first | omega | (simp; done) | (simp; omega)))))
  have hsl : wl.heap.size = B + 1 + 1 + 1 + 1 + 1 + 1 := by rw [hwl]; simp [hB]
  rw [← hwl, ← hB]
  have hB1 : w.heap.size ≤ B := by omega
  have hB2 : B ≤ w.heap.size := by omega
  clear hwl hB
  refine wpIn_rangeFunc_ownF rfl (by omega) (gf := 303) (lb := #[.pointer (some ⟨B + 1 + 1 + 1 + 1 + 1, 0, none⟩)]) rfl trivial (enters_of Tryz.func303 (by kernel_rfl) rfl)
    (places_stops _ (by omega) (B + 1 + 1 + 1 + 1 + 1) w.heap.size bn on cn ns hw hmx wl (by omega) (by omega) hnl b5.cell (fun j hj => (hbl.cell (p := ⟨bn, on + j, none⟩) hnl).trans (hnc j hj)))
    belowK_t (belowK_b (by omega)) (Below.refl _ _) (fun _ => rfl)
    (fun pre W => (Boxed W B 25 (.slice (some ⟨bn, on, none⟩) ns.length cn) ∧ Boxed W (B + 1) 160 (.slice (some ⟨bv, ov, none⟩) ns.length cv) ∧ Boxed W (B + 1 + 1) 150 (.int .u64 0) ∧ Boxed W (B + 1 + 1 + 1) 28 (.int .i64 0) ∧ Boxed W (B + 1 + 1 + 1 + 1) 150 (.int .u64 (packL ns vs pre)) ∧ ∀ x ∈ pre, fitAt ns vs x = true) ∧ Below w.heap.size w W)
    (fun c pre W => (Boxed W (B + 1 + 1) 150 (.int .u64 0) ∧ Boxed W (B + 1 + 1 + 1) 28 (.int .i64 1) ∧ c = .ret ∧ ∃ x, fitAt ns vs x = false) ∧ Below w.heap.size w W)
    (OwnFrom.and (Own.from (fun s A B row hs hg hr => ⟨Boxed.keptOwn hs.1 hg hr, Boxed.keptOwn hs.2.1 hg hr, Boxed.keptOwn hs.2.2.1 hg hr, Boxed.keptOwn hs.2.2.2.1 hg hr, Boxed.keptOwn hs.2.2.2.2.1 hg hr, hs.2.2.2.2.2⟩) _) (ownFrom_below (Nat.le_refl _) (by omega)))
    (fun c => OwnFrom.and (Own.from (fun s A B row hs hg hr => ⟨Boxed.keptOwn hs.1 hg hr, Boxed.keptOwn hs.2.1 hg hr, hs.2.2⟩) _) (ownFrom_below (Nat.le_refl _) (by omega)))
    ⟨⟨b0, b1, b2, b3, b4, by simp⟩, hbl⟩
    (fun x => { tmps := #[.slice (some ⟨bn, on, none⟩) ns.length cn, .slice (some ⟨bv, ov, none⟩) ns.length cv, .pointer (some ⟨B, 0, none⟩), .pointer (some ⟨B + 1, 0, none⟩), .pointer (some ⟨B + 1 + 1, 0, none⟩), .pointer (some ⟨B + 1 + 1 + 1, 0, none⟩), .pointer (some ⟨B + 1 + 1 + 1 + 1, 0, none⟩),
      .int .i64 (x.1 : Int), .int .i64 (offs ns x.1), .slice (some ⟨bn, on, none⟩) ns.length cn, .int .i64 ns.length, .slice (some ⟨bv, ov, none⟩) ns.length cv, .int .i64 ns.length, .bool false, .slice (some ⟨bn, on, none⟩) ns.length cn,
      .func (.func 303) #[] #[.pointer (some ⟨B + 1 + 1 + 1 + 1 + 1, 0, none⟩)], .int .i64 (x.1 : Int), .int .i64 (offs ns x.1), undef, undef, undef, undef, undef, undef, undef, undef, undef, undef, undef, undef, undef, undef, undef, undef, undef, undef, undef, undef, undef, undef, undef], defers := [] }) ?assign ?body ?done ?stop
  case assign =>
    intro l x W K hK
    dsimp only [penc]
    gi_wp2
    exact hK
  case body =>
    rintro l pre x W ⟨⟨b0, b1, b2, b3, b4, hft⟩, hbw⟩ _
    obtain ⟨gn0, gv0⟩ : W.cell? ⟨bn, on + x.1, none⟩ = some (.int .i64 (ns[x.1]?.getD 0)) ∧ W.cell? ⟨bv, ov + x.1, none⟩ = some (.int .u64 (vs[x.1]?.getD 0)) :=
      ⟨(hbw.cell (p := ⟨bn, on + x.1, none⟩) hnl).trans (hnc _ x.2), (hbw.cell (p := ⟨bv, ov + x.1, none⟩) hvl).trans (hvc _ (by rw [hl]; exact x.2))⟩
    have hx2 := x.2
    obtain ⟨q0, q1, q2⟩ := hw.at x.2
    have p0 := h0 x.1; have p1 := h1 x.1
    have hsn := packL_snoc ns vs pre x
    have c0 := b0.cell; have c1 := b1.cell; have c2 := b2.cell; have c3 := b3.cell; have c4 := b4.cell
    have f2 := b2.frozen; have f3 := b3.frozen; have f4 := b4.frozen
    have HS := Lib.hid hsn
    clear hsn
    have hd : 1 ≤ (4 : Nat) - 1 - 1 := by omega
    have hmx : Tryz.prog.follows .mixedOrders = true := by kernel_rfl
    cases hf : fitAt ns vs x
    · have HF := Lib.hid (show fitsB (vs[x.1]?.getD 0) (ns[x.1]?.getD 0) = false from hf)
      have HX := Lib.hid hf
      clear hf
      generalize vs[x.1]?.getD 0 = y at *
      generalize ns[x.1]?.getD 0 = z at *
      generalize offs ns x.1 = o at *
      generalize packL ns vs pre = acc at *
      have hdo : decide (o < 0) = false := by simpa using q0
      have hfit : ∀ m k : Nat, CallsIn (Fence.wide.inRound l) m Tryz.prog 288 #[.int .u64 y, .int .i64 z] (W.drewN k) fun e w'' => e = .returned (.bool false) ∧ ∃ m, w'' = W.drewN m := fun m k => by
        have := f_fits y z (W.drewN k) p0 (by omega) (by omega)
        rw [HF.out] at this
        exact CallsIn.quiet_of_same (CallsIn.inRound l (callsIn_wide.2 (this.mono fun _ _ ⟨h1, h2⟩ => ⟨h1, h2.symm⟩)))
      gi_wp2
      (refine region_quiet_round (by kernel_rfl) (by kernel_rfl) (by kernel_rfl) ?_; (repeat (gi_big_quiet_step ((gi_at_call 288; with_reducible exact hfit _ _)))); refine wpQuietIn_nil ?_; intro _ hw'; obtain ⟨nq, hw''⟩ := hw'; subst hw'')
      gi_wp2
      exact ⟨(keeps_drewN W nq).trans ((KeepsOthers.setCell _ _ _).trans (KeepsOthers.setCell _ _ _)),
        ⟨Boxed.other (Boxed.set _ (show Boxed (W.drewN nq) _ _ _ from b2)) (by omega) _, Boxed.set _ (Boxed.other (show Boxed (W.drewN nq) _ _ _ from b3) (by omega) _), rfl, x, HX.out⟩,
        ((below_drewN hbw nq).setCell (p := ⟨B + 1 + 1, 0, none⟩) (by show w.heap.size ≤ B + 1 + 1; omega) _).setCell (p := ⟨B + 1 + 1 + 1, 0, none⟩) (by show w.heap.size ≤ B + 1 + 1 + 1; omega) _⟩
    · have HF := Lib.hid (show fitsB (vs[x.1]?.getD 0) (ns[x.1]?.getD 0) = true from hf)
      have HX := Lib.hid hf
      clear hf
      generalize vs[x.1]?.getD 0 = y at *
      generalize ns[x.1]?.getD 0 = z at *
      generalize offs ns x.1 = o at *
      generalize packL ns vs pre = acc at *
      have hdo : decide (o < 0) = false := by simpa using q0
      have hfit : ∀ m k : Nat, CallsIn (Fence.wide.inRound l) m Tryz.prog 288 #[.int .u64 y, .int .i64 z] (W.drewN k) fun e w'' => e = .returned (.bool true) ∧ ∃ m, w'' = W.drewN m := fun m k => by
        have := f_fits y z (W.drewN k) p0 (by omega) (by omega)
        rw [HF.out] at this
        exact CallsIn.quiet_of_same (CallsIn.inRound l (callsIn_wide.2 (this.mono fun _ _ ⟨h1, h2⟩ => ⟨h1, h2.symm⟩)))
      gi_wp2
      (refine region_quiet_round (by kernel_rfl) (by kernel_rfl) (by kernel_rfl) ?_; (repeat (gi_big_quiet_step ((gi_at_call 288; with_reducible exact hfit _ _)))); refine wpQuietIn_nil ?_; intro _ hw'; obtain ⟨nq, hw''⟩ := hw'; subst hw'')
      have b0 : Boxed (W.drewN nq) B 25 (.slice (some ⟨bn, on, none⟩) ns.length cn) := b0
      have b1 : Boxed (W.drewN nq) (B + 1) 160 (.slice (some ⟨bv, ov, none⟩) ns.length cv) := b1
      have b2 : Boxed (W.drewN nq) (B + 1 + 1) 150 (.int .u64 0) := b2
      have b3 : Boxed (W.drewN nq) (B + 1 + 1 + 1) 28 (.int .i64 0) := b3
      have b4 : Boxed (W.drewN nq) (B + 1 + 1 + 1 + 1) 150 (.int .u64 acc) := b4
      have gv0 : (W.drewN nq).cell? ⟨bv, ov + x.1, none⟩ = some (.int .u64 y) := gv0
      have hbw := below_drewN hbw nq
      have hKO := keeps_drewN W nq
      have hKB := below_drewN (Below.refl w.heap.size W) nq
      generalize W.drewN nq = W2 at *
      have c0 := b0.cell; have c1 := b1.cell; have c2 := b2.cell; have c3 := b3.cell; have c4 := b4.cell
      have f4 := b4.frozen
      have hK2 : Below w.heap.size W W2 := hKB
      gi_wp2
      gi_region_with_o (fail)
      all_goals
        gi_wp2
        exact ⟨hKO.trans ((KeepsOthers.setCell _ _ _).trans (KeepsOthers.drew _)), (hK2.setCell (p := ⟨B + 1 + 1 + 1 + 1, 0, none⟩) (by show w.heap.size ≤ B + 1 + 1 + 1 + 1; omega) _).drew,
          ⟨Boxed.drew (b0.other (by omega) _), Boxed.drew (b1.other (by omega) _), Boxed.drew (b2.other (by omega) _), Boxed.drew (b3.other (by omega) _), by rw [HS.out]; exact Boxed.drew (b4.set _), fun y hy => (List.mem_append.1 hy).elim (hft y) (fun e => by rw [List.mem_singleton.1 e]; exact HX.out)⟩,
          (hbw.setCell (p := ⟨B + 1 + 1 + 1 + 1, 0, none⟩) (by show w.heap.size ≤ B + 1 + 1 + 1 + 1; omega) _).drew⟩
  case done =>
    rintro D xs W hD rfl ⟨⟨b0, b1, b2, b3, b4, hft⟩, hbw⟩ hK
    have hall : ∀ x, fitAt ns vs x = true := fun x => hft x (List.mem_finRange x)
    have HA := Lib.hid hall
    clear hall hft
    obtain ⟨acc, HACC⟩ : ∃ acc, Hid (packL ns vs (List.finRange ns.length) = acc) := ⟨_, Lib.hid rfl⟩
    rw [HACC.out] at b4
    have c2 := b2.cell; have c3 := b3.cell; have c4 := b4.cell
    have f2 := b2.frozen; have f3 := b3.frozen
    gi_wp2
    have hK' := ((KeepsOthers.setCell W ⟨B + 1 + 1, 0, none⟩ (.int .u64 acc)).trans (KeepsOthers.setCell _ ⟨B + 1 + 1 + 1, 0, none⟩ (.int .i64 0))).same D _ hK rfl
    refine ⟨by simp, .inl ⟨_, _, rfl, run_takeDeferred hK', ?_⟩⟩
    have e2 := Boxed.keptOwn ((b2.set (.int .u64 acc)).other (B' := B + 1 + 1 + 1) (by omega) (.int .i64 0)) (grownBy_putObj' _ D (.deferred none)) (fun r e => by cases e; exact ⟨_, hK', rfl⟩)
    have e3 := Boxed.keptOwn ((b3.other (B' := B + 1 + 1) (by omega) (.int .u64 acc)).set (.int .i64 0)) (grownBy_putObj' _ D (.deferred none)) (fun r e => by cases e; exact ⟨_, hK', rfl⟩)
    have c2 := e2.cell; have c3 := e3.cell
    refine ⟨.tuple #[.int .u64 acc, .int .i64 0], ?_, by rw [HACC.out], ?_⟩
    · simp [results, Tryz.f257, go_sem, c2, c3]
    · exact ((hbw.setCell (p := ⟨B + 1 + 1, 0, none⟩) (by show w.heap.size ≤ B + 1 + 1; omega) _).setCell (p := ⟨B + 1 + 1 + 1, 0, none⟩) (by show w.heap.size ≤ B + 1 + 1 + 1; omega) _).trans (belowK_b (w := w) (Nat.le_refl _) _ D _ _ (by omega) hK' rfl rfl)
  case stop =>
    rintro D c pre W hD _ ⟨⟨b2, b3, rfl, x, hx⟩, hbw⟩ hK
    have hall : ¬ ∀ x, fitAt ns vs x = true := fun h => by rw [h x] at hx; cases hx
    have HA := Lib.hid hall
    clear hall hx
    gi_wp2
    refine ⟨by simp, .inl ⟨_, _, rfl, run_takeDeferred hK, ?_⟩⟩
    have e2 := Boxed.keptOwn b2 (grownBy_putObj' _ D (.deferred none)) (fun r e => by cases e; exact ⟨_, hK, rfl⟩)
    have e3 := Boxed.keptOwn b3 (grownBy_putObj' _ D (.deferred none)) (fun r e => by cases e; exact ⟨_, hK, rfl⟩)
    have c2 := e2.cell; have c3 := e3.cell
    refine ⟨.tuple #[.int .u64 0, .int .i64 1], ?_, by first | rfl | rw [if_neg HA.out, if_neg HA.out], ?_⟩
    · simp [results, Tryz.f257, go_sem, c2, c3]
    · exact hbw.trans (belowK_b (w := w) (Nat.le_refl _) _ D _ _ (by omega) hK rfl rfl)
end Go.Proofs.YtmahledpcpdldaaGreat
