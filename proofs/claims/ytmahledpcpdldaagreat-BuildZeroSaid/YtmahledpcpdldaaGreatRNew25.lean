/- The reference's machine, new: it comes, and nothing that was there changes. -/
import Derived.Test.YtmahledpcpdldaaGreatGRef
import Derived.Test.YtmahledpcpdldaaGreatRef03
import Derived.Test.YtmahledpcpdldaaGreatMach4
import Derived.Deep.RegionLaw
set_option linter.unusedVariables false
set_option linter.unusedSimpArgs false
namespace Go.Proofs.YtmahledpcpdldaaGreat
open Go.RowKit

theorem r25_check (f c p r : Int) (w : World) (ok : CfgOk f c p r) : Calls Tryz.prog 61 #[.agg #[.int .i64 f, .int .i64 c, .int .i64 p, .int .i64 r]] w fun e w' => e = .returned (.int .i64 0) ∧ Below w.heap.size w w' := by
  obtain ⟨f1, f64, c1, c4, p0, pc, r0, r8⟩ := ok
  have n1 : ¬ f < 1 := by omega
  have n2 : ¬ 64 < f := by omega
  have n3 : ¬ c < 1 := by omega
  have n4 : ¬ 4 < c := by omega
  have n5 : ¬ p < 0 := by omega
  have n6 : ¬ c < p := by omega
  have n7 : ¬ r < 0 := by omega
  have n8 : ¬ 8 < r := by omega
  go_enter Tryz.func61, Tryz.ntmps61
  go_wp2
  go_ret
  exact ⟨rfl, by (refine Touch.below0 ?_; (repeat' (first | (with_reducible exact Touch.refl _ _) | (with_reducible assumption) | (with_reducible refine Touch.drew ?_) | (with_reducible refine Touch.drewN ?_ _) | (with_reducible refine Touch.alloc ?_ _) | (with_reducible refine Touch.setCell ?_ _ _ _ ?_) | (with_reducible refine Touch.step (by assumption) ?_) | (with_reducible refine Touch.stepT (by assumption) ?_ ?_) | (intro _; first | rfl | trivial | omega | (simp; done) | (simp; omega)) | (intro _ _; first | omega | (simp; done) | (simp; omega)))))⟩

structure Tri (w : World) (b : Nat) (a0 a1 a4 a5 a6 : Value) (kT kR kC : Nat) (sT sR sC : Value) (xs ys zs : List Value) : Prop where
  box : w.heap[b]? = some (.cells #[a0, a1, sT, sR, a4, a5, a6, sC] 64 (0, 0))
  oT : w.ownsRow (b + 1) 129 1 sT kT xs
  oR : w.ownsRow (b + 1) 132 1 sR kR ys
  oC : w.ownsRow (b + 1) 3 1 sC kC zs
  dTR : Apart sT sR
  dTC : Apart sT sC
  dRC : Apart sR sC
section
variable {w w2 : World} {b : Nat} {a0 a1 a4 a5 a6 : Value} {kT kR kC : Nat} {sT sR sC s' : Value} {xs ys zs : List Value} {O : Obj} {x : List Value}
theorem Tri.alloc (h : Tri w b a0 a1 a4 a5 a6 kT kR kC sT sR sC xs ys zs) (o : Obj) : Tri (w.alloc o) b a0 a1 a4 a5 a6 kT kR kC sT sR sC xs ys zs :=
  ⟨heap_alloc h.box o, h.oT.alloc o, h.oR.alloc o, h.oC.alloc o, h.dTR, h.dTC, h.dRC⟩
theorem Tri.after (h : Tri w b a0 a1 a4 a5 a6 kT kR kC sT sR sC xs ys zs) (hb : Below w.heap.size w w2) : Tri w2 b a0 a1 a4 a5 a6 kT kR kC sT sR sC xs ys zs :=
  ⟨(hb.block _ (lt_of_block h.box)).trans h.box, ownsRow_keep h.oT (Touch.of_below (S := fun _ => False) hb) (fun _ _ h => h), ownsRow_keep h.oR (Touch.of_below (S := fun _ => False) hb) (fun _ _ h => h), ownsRow_keep h.oC (Touch.of_below (S := fun _ => False) hb) (fun _ _ h => h), h.dTR, h.dTC, h.dRC⟩
theorem Tri.stepT (h : Tri w b a0 a1 a4 a5 a6 kT kR kC sT sR sC xs ys zs) (n2 : w2.ownsRow (b + 1) 129 1 s' (kT + 1) (xs ++ x)) (ht : Touch (fun j => some j = sT.ownBlock) (w.alloc O) w2)
    (hl : s'.ownBlock = sT.ownBlock ∨ s'.ownBlock = some (w.alloc O).heap.size) : Tri (w2.setCell ⟨b, 2, none⟩ s') b a0 a1 a4 a5 a6 (kT + 1) kR kC s' sR sC (xs ++ x) ys zs :=
  ⟨heap_set (field_box h.box h.oT ht) s', field_own n2 2 s', field_other h.oR h.dTR ht 2 s', field_other h.oC h.dTC ht 2 s', field_apart h.oR h.dTR hl, field_apart h.oC h.dTC hl, h.dRC⟩
theorem Tri.stepR (h : Tri w b a0 a1 a4 a5 a6 kT kR kC sT sR sC xs ys zs) (n2 : w2.ownsRow (b + 1) 132 1 s' (kR + 1) (ys ++ x)) (ht : Touch (fun j => some j = sR.ownBlock) (w.alloc O) w2)
    (hl : s'.ownBlock = sR.ownBlock ∨ s'.ownBlock = some (w.alloc O).heap.size) : Tri (w2.setCell ⟨b, 3, none⟩ s') b a0 a1 a4 a5 a6 kT (kR + 1) kC sT s' sC xs (ys ++ x) zs :=
  ⟨heap_set (field_box h.box h.oR ht) s', field_other h.oT h.dTR.symm ht 3 s', field_own n2 3 s', field_other h.oC h.dRC ht 3 s', (field_apart h.oT h.dTR.symm hl).symm, h.dTC, field_apart h.oC h.dRC hl⟩
theorem Tri.stepC (h : Tri w b a0 a1 a4 a5 a6 kT kR kC sT sR sC xs ys zs) (n2 : w2.ownsRow (b + 1) 3 1 s' (kC + 1) (zs ++ x)) (ht : Touch (fun j => some j = sC.ownBlock) (w.alloc O) w2)
    (hl : s'.ownBlock = sC.ownBlock ∨ s'.ownBlock = some (w.alloc O).heap.size) : Tri (w2.setCell ⟨b, 7, none⟩ s') b a0 a1 a4 a5 a6 kT kR (kC + 1) sT sR s' xs ys (zs ++ x) :=
  ⟨heap_set (field_box h.box h.oC ht) s', field_other h.oT h.dTC.symm ht 7 s', field_other h.oR h.dRC.symm ht 7 s', field_own n2 7 s', h.dTR, (field_apart h.oT h.dTC.symm hl).symm, (field_apart h.oR h.dRC.symm hl).symm⟩
end

theorem Tryz.infoPT : (Tryz.prog.info? 129).map (fun i => (i.zero, i.size, i.bytes)) = some (some (.pointer none), 1, 8) := by kernel_rfl
theorem Tryz.infoPF : (Tryz.prog.info? 132).map (fun i => (i.zero, i.size, i.bytes)) = some (some (.pointer none), 1, 8) := by kernel_rfl
set_option maxHeartbeats 4000000 in
set_option maxRecDepth 100000 in
theorem r25_new (F C : Nat) (p r : Int) (w : World) (ok : CfgOk F C p r) : Calls Tryz.prog 7 #[.agg #[.int .i64 F, .int .i64 C, .int .i64 p, .int .i64 r]] w fun e w' => ∃ b,
    e = .returned (.tuple #[.pointer (some ⟨b, 0, none⟩), .int .i64 0]) ∧ Below w.heap.size w w' := by
  have hf1 := ok.f1; have hf64 := ok.f64; have hc1 := ok.c1; have hc4 := ok.c4; have hr0 := ok.r0; have hr8 := ok.r8
  obtain ⟨i0, hi, hz0, hz1, hz2⟩ := info_parts Tryz.infoPT
  obtain ⟨j0, gi, gz0, gz1, gz2⟩ := info_parts Tryz.infoPF
  obtain ⟨k0, ki, kz0, kz1, kz2⟩ := info_parts Tryz.infoInt
  have hA : ∀ o, Below w.heap.size w (w.alloc o) := fun o => by (refine Touch.below0 ?_; (repeat' (first | (with_reducible exact Touch.refl _ _) | (with_reducible assumption) | (with_reducible refine Touch.drew ?_) | (with_reducible refine Touch.drewN ?_ _) | (with_reducible refine Touch.alloc ?_ _) | (with_reducible refine Touch.setCell ?_ _ _ _ ?_) | (with_reducible refine Touch.step (by assumption) ?_) | (with_reducible refine Touch.stepT (by assumption) ?_ ?_) | (intro _; first | rfl | trivial | omega | (simp; done) | (simp; omega)) | (intro _ _; first | omega | (simp; done) | (simp; omega)))))
  have C0 := fun w => r25_check F C p r w ok
  go_enter Tryz.func7, Tryz.ntmps7
  go_upto_region 3 with ((go_at_call 61; (with_reducible refine (C0 _).mono ?_); rintro e w' ⟨rfl, hb1⟩))
  have hcfg : (w').heap[w.heap.size]? = some (.cells #[.int .i64 F, .int .i64 C, .int .i64 p, .int .i64 r] 23 (0, 0)) := (hb1.block _ (by simp)).trans (heap_new w _)
  have hbw := (hA _).trans (hb1.mono (hA _).size)
  generalize w' = W1 at *
  clear hb1 hA C0
  go_upto_region 4 with (first
    | ((go_at_call 62; (with_reducible refine (r7_new _).mono ?_); rintro e w' ⟨g7, c7, rfl, -, -, -, hb⟩); have hcfg := (hb.block _ (lt_of_block hcfg)).trans hcfg; have hbw := hbw.trans (hb.mono hbw.size); obtain ⟨W7, hW7⟩ : ∃ x : World, x = w' := ⟨_, rfl⟩; subst hW7)
    | ((go_at_call 63; (with_reducible refine (r23_new _).mono ?_); rintro e w' ⟨g23, c23, rfl, -, -, -, hb⟩); have hcfg := (hb.block _ (lt_of_block hcfg)).trans hcfg; have hbw := hbw.trans (hb.mono hbw.size)))
  have hbox := heap_new w' (.cells #[.pointer none, .pointer none, .slice none 0 0, .slice none 0 0, .pointer none, .pointer (some ⟨W1.heap.size, 0, none⟩), .pointer (some ⟨W7.heap.size, 0, none⟩), .slice none 0 0] 64 (0, 0))
  have hcfg := heap_alloc hcfg (.cells #[.pointer none, .pointer none, .slice none 0 0, .slice none 0 0, .pointer none, .pointer (some ⟨W1.heap.size, 0, none⟩), .pointer (some ⟨W7.heap.size, 0, none⟩), .slice none 0 0] 64 (0, 0))
  have hbw := hbw.alloc hbw.size (.cells #[.pointer none, .pointer none, .slice none 0 0, .slice none 0 0, .pointer none, .pointer (some ⟨W1.heap.size, 0, none⟩), .pointer (some ⟨W7.heap.size, 0, none⟩), .slice none 0 0] 64 (0, 0))
  have hbl : w.heap.size < w'.heap.size := lt_of_block ‹w'.heap[w.heap.size]? = _›
  generalize w'.alloc (.cells #[.pointer none, .pointer none, .slice none 0 0, .slice none 0 0, .pointer none, .pointer (some ⟨W1.heap.size, 0, none⟩), .pointer (some ⟨W7.heap.size, 0, none⟩), .slice none 0 0] 64 (0, 0)) = W2 at *
  generalize (.pointer (some ⟨W1.heap.size, 0, none⟩) : Value) = a5 at *
  generalize (.pointer (some ⟨W7.heap.size, 0, none⟩) : Value) = a6 at *
  generalize w'.heap.size = b at *
  have q0 := cell_of hcfg 0
  have q1 := cell_of hcfg 1
  dsimp at q0 q1
  have N2 := fun w => r2_new F w (by omega) (by omega)
  have N3 : ∀ w, Calls Tryz.prog 65 #[.int .i64 C] w fun e w' => ∃ v, e = .returned (.tuple #[.pointer (some ⟨v, 0, none⟩), .int .i64 0]) ∧ Below w.heap.size w w' := fun w => (r3_new C w (by omega) (by omega)).mono fun _ _ ⟨h1, _, h2⟩ => ⟨_, h1, h2⟩
  have N6 : ∀ w, Calls Tryz.prog 66 #[.int .i64 F] w fun e w' => ∃ v, e = .returned (.tuple #[.pointer (some ⟨v, 0, none⟩), .int .i64 0]) ∧ Below w.heap.size w w' := fun w => (r6_new F w (by omega) (by omega)).mono fun _ _ ⟨_, _, h1, _, _, _, h2⟩ => ⟨_, h1, h2⟩
  have N4 : ∀ w, Calls Tryz.prog 67 #[.int .i64 r] w fun e w' => ∃ v, e = .returned (.tuple #[.pointer (some ⟨v, 0, none⟩), .int .i64 0]) ∧ Below w.heap.size w w' := fun w => (r4_new r w hr0 hr8).mono fun _ _ ⟨h1, h2⟩ => ⟨_, h1, by subst h2; (refine Touch.below0 ?_; (repeat' (first | (with_reducible exact Touch.refl _ _) | (with_reducible assumption) | (with_reducible refine Touch.drew ?_) | (with_reducible refine Touch.drewN ?_ _) | (with_reducible refine Touch.alloc ?_ _) | (with_reducible refine Touch.setCell ?_ _ _ _ ?_) | (with_reducible refine Touch.step (by assumption) ?_) | (with_reducible refine Touch.stepT (by assumption) ?_ ?_) | (intro _; first | rfl | trivial | omega | (simp; done) | (simp; omega)) | (intro _ _; first | omega | (simp; done) | (simp; omega)))))⟩
  have N5 : ∀ w, Calls Tryz.prog 68 #[] w fun e w' => ∃ v, e = .returned (.pointer (some ⟨v, 0, none⟩)) ∧ Below w.heap.size w w' := fun w => (r5_new w).mono fun _ _ ⟨_, _, h1, _, _, _, h2⟩ => ⟨_, h1, h2⟩
  go_upto_region 7 with (first
    | ((go_at_call 64; (with_reducible refine (N2 _).mono ?_); rintro e w' ⟨B2, rfl, -, -, hb⟩); have hcfg := (hb.block _ (lt_of_block hcfg)).trans hcfg; have hbox := (hb.block _ (lt_of_block hbox)).trans hbox; have hbw := hbw.trans (hb.mono hbw.size); have q1 := cell_of hcfg 1; dsimp at q1)
    | ((go_at_call 65; (with_reducible refine (N3 _).mono ?_); rintro e w' ⟨v3, rfl, hb⟩); have hcfg := (hb.block _ (lt_of_block hcfg)).trans hcfg; have hbox := (hb.block _ (lt_of_block hbox)).trans hbox; have hbw := hbw.trans (hb.mono hbw.size); have q0 := cell_of hcfg 0; dsimp at q0)
    | ((go_at_call 66; (with_reducible refine (N6 _).mono ?_); rintro e w' ⟨v6, rfl, hb⟩); have hcfg := (hb.block _ (lt_of_block hcfg)).trans hcfg; have hbox := (hb.block _ (lt_of_block hbox)).trans hbox; have hbw := hbw.trans (hb.mono hbw.size)))
  clear q0 q1 N2 N3 N6
  have fb := frozen_of hbox
  have d0 := cell_of hbox 0
  have d1 := cell_of hbox 1
  have d4 := cell_of hbox 4
  dsimp at d0 d1 d4
  go_upto_block 0 with (fail)
  have hbox : (((w'.setCell ⟨b, 0, none⟩ (.pointer (some ⟨B2.v, 0, none⟩))).setCell ⟨b, 1, none⟩ (.pointer (some ⟨v3, 0, none⟩))).setCell ⟨b, 4, none⟩ (.pointer (some ⟨v6, 0, none⟩))).heap[b]? = some (.cells #[.pointer (some ⟨B2.v, 0, none⟩), .pointer (some ⟨v3, 0, none⟩), .slice none 0 0, .slice none 0 0, .pointer (some ⟨v6, 0, none⟩), a5, a6, .slice none 0 0] 64 (0, 0)) :=
    heap_set (heap_set (heap_set hbox _) _) _
  have hcfg := heap_set_ne (b' := b) (o := 4) (heap_set_ne (b' := b) (o := 1) (heap_set_ne (b' := b) (o := 0) hcfg (.pointer (some ⟨B2.v, 0, none⟩)) (by omega)) (.pointer (some ⟨v3, 0, none⟩)) (by omega)) (.pointer (some ⟨v6, 0, none⟩)) (by omega)
  have htt : Touch (· = b) w' (((w'.setCell ⟨b, 0, none⟩ (.pointer (some ⟨B2.v, 0, none⟩))).setCell ⟨b, 1, none⟩ (.pointer (some ⟨v3, 0, none⟩))).setCell ⟨b, 4, none⟩ (.pointer (some ⟨v6, 0, none⟩))) := by (repeat' (first | (with_reducible exact Touch.refl _ _) | (with_reducible assumption) | (with_reducible refine Touch.drew ?_) | (with_reducible refine Touch.drewN ?_ _) | (with_reducible refine Touch.alloc ?_ _) | (with_reducible refine Touch.setCell ?_ _ _ _ ?_) | (with_reducible refine Touch.step (by assumption) ?_) | (with_reducible refine Touch.stepT (by assumption) ?_ ?_) | (intro _; first | rfl | trivial | omega | (simp; done) | (simp; omega)) | (intro _ _; first | omega | (simp; done) | (simp; omega))))
  have hbw := below_touch hbw htt hbw.size (fun i hi e => by have : i = b := e; omega)
  generalize ((w'.setCell ⟨b, 0, none⟩ (.pointer (some ⟨B2.v, 0, none⟩))).setCell ⟨b, 1, none⟩ (.pointer (some ⟨v3, 0, none⟩))).setCell ⟨b, 4, none⟩ (.pointer (some ⟨v6, 0, none⟩)) = W at *
  generalize (.pointer (some ⟨B2.v, 0, none⟩) : Value) = a0 at *
  generalize (.pointer (some ⟨v3, 0, none⟩) : Value) = a1 at *
  generalize (.pointer (some ⟨v6, 0, none⟩) : Value) = a4 at *
  have q1 := cell_of hcfg 1
  dsimp at q1
  clear htt fb d0 d1 d4
  go_cut [] (fun wr => Touch (fun j => b ≤ j) W wr)
  case first =>
    go_wp2
    go_loopw [11] (fun i wr => ∃ (k : Nat) (sT sR sC : Value) (xs ys zs : List Value), k ≤ C ∧ i = .int .i64 k ∧ Tri wr b a0 a1 a4 a5 a6 k k k sT sR sC xs ys zs ∧ Touch (fun j => b ≤ j) W wr) (fun i _ => C - (intOf i).toNat)
    case atStart => exact ⟨0, .slice none 0 0, .slice none 0 0, .slice none 0 0, [], [], [], by omega, rfl, ⟨hbox, World.ownsRow_nil _ _ _ _, World.ownsRow_nil _ _ _ _, World.ownsRow_nil _ _ _ _, Apart.nil _, Apart.nil _, Apart.nil _⟩, Touch.refl _ _⟩
    case round =>
      obtain ⟨k, sT, sR, sC, xs, ys, zs, hk, rfl, hT, ht⟩ := hrel
      have hcr := ht.at hcfg (by omega)
      have q1 := cell_of hcr 1
      have q3 := cell_of hcr 3
      dsimp at q1 q3
      by_cases hlt : k < C
      · have hlt' : (k : Int) < C := by omega
        have hkn : k < 1000000 := by omega
        go_upto_region 15 with (first
          | ((go_at_call 67; (with_reducible refine (N4 _).mono ?_); rintro e w' ⟨v4, rfl, hb⟩); have hT := hT.after hb; have ht := ht.trans (Touch.of_below hb); have hsz := lt_of_block hT.box; have q2 := cell_of hT.box 2; dsimp at q2)
          | (at_builtin; refine wpList_append_agg w' rfl _ _ 58 rfl 129 i0 (.pointer none) #[.pointer (some ⟨v4, 0, none⟩)] 1 8 Tryz.underlying58 hi hz0 hz1 hz2 rfl rfl (by decide) (by decide) (b + 1) sT k _ rfl hT.oT _ rfl rfl (by simp [Value.oneCell']) hkn hsz ?_; intro g2 cp2 w2 n2 ht2 hl2
             have hb3 := field_box hT.box hT.oT ht2
             have u2 := cell_of hb3 2
             have f3 := frozen_of hb3
             have hT2 := hT.stepT n2 ht2 hl2
             have t1 := field_touch hT.oT ht2 2 (.slice (some ⟨g2, 0, none⟩) (k + 1) cp2)
             dsimp at u2))
        clear hcr q1 q3
        have ht := ht.trans t1
        generalize w2.setCell ⟨b, 2, none⟩ (.slice (some ⟨g2, 0, none⟩) (k + 1) cp2) = W4 at *
        have u3 := cell_of hT2.box 3
        have f4 := frozen_of hT2.box
        dsimp at u3
        clear hT hsz q2 hb3 u2 f3 n2 ht2 hl2 t1
        go_cut [] (fun wi => ∃ (s : Value) (yy : List Value), Tri wi b a0 a1 a4 a5 a6 (k + 1) (k + 1) k (.slice (some ⟨g2, 0, none⟩) (k + 1) cp2) s sC (xs ++ [.pointer (some ⟨v4, 0, none⟩)]) yy zs ∧ Touch (fun j => b ≤ j) W wi)
        case first =>
          have hsz0 := lt_of_block hT2.box
          go_region_law (first
            | (refine step_append_agg _ (by rfl) _ _ 59 (by rfl) 132 j0 (.pointer none) #[.pointer (some ⟨v5, 0, none⟩)] 1 8 Tryz.underlying59 gi gz0 gz1 gz2 rfl rfl (by decide) (by decide) (b + 1) sR k _ (by rfl) hT'.oR _ rfl (by rfl) (by simp [Value.oneCell']) hkn hsz1 ?_; intro g3 cp3 w3 n3 ht3 hl3
               have hb3 := field_box hT'.box hT'.oR ht3
               have u5 := cell_of hb3 3
               have f5 := frozen_of hb3
               have hT3 := hT'.stepR n3 ht3 hl3
               have t3 := field_touch hT'.oR ht3 3 (.slice (some ⟨g3, 0, none⟩) (k + 1) cp3)
               dsimp at u5)
            | (go_simp; (go_at_call 68; (with_reducible refine (N5 _).mono ?_); rintro e w' ⟨v5, rfl, hb1⟩); have hb2 : Below W4.heap.size W4 w' := below_undrew hb1; have hT' := hT2.after hb2; have u6 := cell_of hT'.box 3; have u7 := (fun o => cell_of (heap_alloc hT'.box o) 3); have hsz1 : b + 1 ≤ w'.heap.size := lt_of_block hT'.box; dsimp at u6 u7))
          all_goals
            go_wp2
            go_meet
            exact ⟨_, _, hT3, (ht.trans (Touch.of_below hb2)).trans t3⟩
        case rest =>
          obtain ⟨s, yy, hT3, ht3⟩ := hcut
          have q7 := cell_of hT3.box 7
          have hsz3 := lt_of_block hT3.box
          dsimp at q7
          clear u3 f4 hT2
          go_wp2_with (at_builtin; refine wpList_append_agg wc rfl _ _ 25 rfl 3 k0 (.int .i64 0) #[.int .i64 (-1)] 1 8 Tryz.underlying25 ki kz0 kz1 kz2 rfl rfl (by decide) (by decide) (b + 1) sC k _ rfl hT3.oC _ rfl rfl (by kernel_rfl) hkn hsz3 ?_; intro g4 cp4 w4 n4 ht4 hl4
                       have hb4 := field_box hT3.box hT3.oC ht4
                       have u8 := cell_of hb4 7
                       have f8 := frozen_of hb4
                       have hT4 := hT3.stepC n4 ht4 hl4
                       have t4 := field_touch hT3.oC ht4 7 (.slice (some ⟨g4, 0, none⟩) (k + 1) cp4)
                       dsimp at u8)
          have hfin : ∃ (k' : Nat) (sT sR sC : Value) (xs ys zs : List Value), k' ≤ C ∧ (Value.int .i64 ((k : Int) + 1)) = .int .i64 k' ∧ Tri (w4.setCell ⟨b, 7, none⟩ (.slice (some ⟨g4, 0, none⟩) (k + 1) cp4)) b a0 a1 a4 a5 a6 k' k' k' sT sR sC xs ys zs ∧ Touch (fun j => b ≤ j) W (w4.setCell ⟨b, 7, none⟩ (.slice (some ⟨g4, 0, none⟩) (k + 1) cp4)) :=
            ⟨k + 1, _, _, _, _, _, _, by omega, by congr 1, hT4, ht3.trans t4⟩
          go_roundw
          case rel => first | exact hfin | ((repeat apply Exists.intro); exact ⟨hfin, rfl⟩)
          case measure => simp [intOf]; omega
      · obtain rfl : k = C := by omega
        clear hT
        go_wp2
        go_meet
        exact ht
  case rest =>
    go_wp2
    go_ret2
    exact ⟨b, rfl, below_touch hbw hcut hbw.size (fun i hi e => by omega)⟩
end Go.Proofs.YtmahledpcpdldaaGreat
