/- all: how many bits widths have together. -/
import Derived.Test.YtmahledpcpdldaaGreatPack
set_option linter.unusedVariables false
set_option linter.unusedSimpArgs false
namespace Go.Proofs.YtmahledpcpdldaaGreat
open Go.RowKit Go.Shelf

attribute [local go_sem] Oper.semAt_some wide_fn

def endL (ns : List Int) (pre : List (Fin ns.length)) : Int := pre.foldl (fun _ x => offs ns x.1 + ns[x.1]?.getD 0) 0
theorem endL_snoc (ns : List Int) (pre : List (Fin ns.length)) (x : Fin ns.length) : endL ns (pre ++ [x]) = offs ns x.1 + ns[x.1]?.getD 0 := by simp [endL]
theorem endL_up (ns : List Int) : ∀ k, k ≤ ns.length → endL ns (upF ns.length k) = offs ns k
  | 0, _ => by simp [endL, upF, offs]
  | k + 1, h => by rw [upF_succ (by omega), endL_snoc]; rfl
theorem endL_all (ns : List Int) : endL ns (List.finRange ns.length) = offs ns ns.length := by rw [← upF_all]; exact endL_up ns _ (Nat.le_refl _)

set_option maxRecDepth 100000 in
set_option maxHeartbeats 4000000 in
theorem f_all (ns : List Int) (bn on cn : Nat) (w : World) (hw : WOk ns) (hmx : ns.length ≤ 64) (hn : IntsAt w bn on .i64 ns) :
    Calls Tryz.prog 299 #[.slice (some ⟨bn, on, none⟩) ns.length cn] w fun e w' => e = .returned (.int .i64 (offs ns ns.length)) ∧ Below w.heap.size w w' := by
  obtain ⟨hnl, hnc⟩ := id hn
  refine (callsIn_wide (n := 4)).1 ?_
  refine callsIn_of_wp_marks Tryz.func299 rfl trivial ?_ rfl
  simp only [Tryz.ntmps299, List.size_toArray, List.length_cons, List.length_nil, Nat.reduceAdd, Nat.reduceSub, Array.replicate_succ, Array.replicate_zero, List.push_toArray, List.append_toArray, List.nil_append, List.cons_append]
  gi_wp2_with (gi_at_call 287; refine (callsIn_wide.2 (f_places _ _ _ _)).mono ?_; rintro e w' ⟨rfl, rfl⟩)
  obtain ⟨B, hB⟩ : ∃ B, B = w.heap.size := ⟨_, rfl⟩
  obtain ⟨wl, hwl⟩ : ∃ y : World, y = ((w.alloc (.cells #[.slice (some ⟨bn, on, none⟩) ns.length cn] 25 (0, 0))).alloc (.cells #[.int .i64 0] 3 (0, 0))).alloc (.cells #[.slice (some ⟨bn, on, none⟩) ns.length cn] 25 (0, 0)) := ⟨_, rfl⟩
  have b0 : Boxed wl B 25 (.slice (some ⟨bn, on, none⟩) ns.length cn) := by rw [hwl]; exact heap_alloc (heap_alloc (heap_new' hB _) _) _
  have b1 : Boxed wl (B + 1) 3 (.int .i64 0) := by rw [hwl]; exact heap_alloc (heap_new' (by simp [hB]) _) _
  have b2 : Boxed wl (B + 1 + 1) 25 (.slice (some ⟨bn, on, none⟩) ns.length cn) := by rw [hwl]; exact heap_new' (by simp [hB]) _
  have hbl : Below w.heap.size w wl := by rw [hwl]; (refine Touch.below0 ?_; (repeat' (first | (with_reducible exact Touch.refl _ _) | (with_reducible assumption) | (with_reducible refine Touch.drew ?_) | (with_reducible refine Touch.drewN ?_ _) | (with_reducible refine Touch.alloc ?_ _) | (with_reducible refine Touch.setCell ?_ _ _ _ ?_) | (with_reducible refine Touch.step (by assumption) ?_) | (with_reducible refine Touch.stepT (by assumption) ?_ ?_) | (intro _; first | rfl | trivial | omega | (simp; done) | (simp; omega)) | (intro _ _; first | omega | (simp; done) | (simp; omega)))))
  have hsl : wl.heap.size = B + 1 + 1 + 1 := by rw [hwl]; simp [hB]
  rw [← hwl, ← hB]
  have hB1 : w.heap.size ≤ B := by omega
  have hB2 : B ≤ w.heap.size := by omega
  clear hwl hB
  refine wpIn_rangeFunc_ownF rfl (by omega) (gf := 303) (lb := #[.pointer (some ⟨B + 1 + 1, 0, none⟩)]) rfl trivial (enters_of Tryz.func303 (by kernel_rfl) rfl)
    (places_stops _ (by omega) (B + 1 + 1) w.heap.size bn on cn ns hw hmx wl (by omega) (by omega) hnl b2.cell (fun j hj => (hbl.cell (p := ⟨bn, on + j, none⟩) hnl).trans (hnc j hj)))
    belowK_t (belowK_b (by omega)) (Below.refl _ _) (fun _ => rfl)
    (fun pre W => (Boxed W B 25 (.slice (some ⟨bn, on, none⟩) ns.length cn) ∧ Boxed W (B + 1) 3 (.int .i64 (endL ns pre))) ∧ Below w.heap.size w W)
    (fun _ _ _ => False)
    (OwnFrom.and (Own.from (fun s A B row hs hg hr => ⟨Boxed.keptOwn hs.1 hg hr, Boxed.keptOwn hs.2 hg hr⟩) _) (ownFrom_below (Nat.le_refl _) (by omega)))
    (fun _ _ _ _ _ hs _ _ => hs)
    ⟨⟨b0, b1⟩, hbl⟩
    (fun x => { tmps := #[.slice (some ⟨bn, on, none⟩) ns.length cn, .pointer (some ⟨B, 0, none⟩), .int .i64 0, .pointer (some ⟨B + 1, 0, none⟩), .int .i64 (x.1 : Int), .int .i64 (offs ns x.1), .slice (some ⟨bn, on, none⟩) ns.length cn,
      .func (.func 303) #[] #[.pointer (some ⟨B + 1 + 1, 0, none⟩)], .int .i64 (x.1 : Int), .int .i64 (offs ns x.1), undef, undef, undef, undef, undef, undef, undef], defers := [] }) ?assign ?body ?done ?stop
  case assign =>
    intro l x W K hK
    dsimp only [penc]
    gi_wp2
    exact hK
  case body =>
    rintro l pre x W ⟨⟨b0, b1⟩, hbw⟩ _
    have gn0 : W.cell? ⟨bn, on + x.1, none⟩ = some (.int .i64 (ns[x.1]?.getD 0)) := (hbw.cell (p := ⟨bn, on + x.1, none⟩) hnl).trans (hnc _ x.2)
    have hx2 := x.2
    obtain ⟨q0, q1, q2⟩ := hw.at x.2
    have hsn := endL_snoc ns pre x
    have HS := Lib.hid hsn
    have c0 := b0.cell; have c1 := b1.cell; have f1 := b1.frozen
    clear hsn
    generalize ns[x.1]?.getD 0 = z at *
    generalize offs ns x.1 = o at *
    gi_wp2
    exact ⟨KeepsOthers.setCell _ _ _, (Below.refl w.heap.size W).setCell (p := ⟨B + 1, 0, none⟩) (by show w.heap.size ≤ B + 1; omega) _, ⟨b0.other (by omega) _, by rw [HS.out]; exact b1.set _⟩, hbw.setCell (p := ⟨B + 1, 0, none⟩) (by show w.heap.size ≤ B + 1; omega) _⟩
  case done =>
    rintro D xs W hD rfl ⟨⟨b0, b1⟩, hbw⟩ hK
    rw [endL_all] at b1
    obtain ⟨r, HR⟩ : ∃ r, Hid (offs ns ns.length = r) := ⟨_, Lib.hid rfl⟩
    rw [HR.out] at b1
    have c1 := b1.cell
    gi_wp2
    refine ⟨by simp, .inl ⟨_, _, rfl, run_takeDeferred hK, ?_⟩⟩
    exact ⟨_, results_tmp rfl _ _ _, by rw [HR.out]; rfl, hbw.trans (belowK_b (w := w) (Nat.le_refl _) W D _ _ (by omega) hK rfl rfl)⟩
  case stop =>
    rintro D c pre W hD _ h _
    exact h.elim
end Go.Proofs.YtmahledpcpdldaaGreat
