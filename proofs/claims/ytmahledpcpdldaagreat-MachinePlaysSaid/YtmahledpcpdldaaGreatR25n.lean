/- The reference's machine, new: all that it is. -/
import Derived.Test.YtmahledpcpdldaaGreatR25
set_option linter.unusedVariables false
set_option linter.unusedSimpArgs false
namespace Go.Proofs.YtmahledpcpdldaaGreat
open Go.RowKit
structure LL (w : World) (lv lg lc hv hg hc : Nat) : Prop where
  lvb : w.heap[lv]? = some (.cells #[.slice (some ⟨lg, 0, none⟩) 64 lc] 187 (0, 0))
  lvr : Row w lg 189 (reps #[.bool false, .int .i64 0, .bool false, .int .i64 0] 64)
  hvb : w.heap[hv]? = some (.cells #[.slice (some ⟨hg, 0, none⟩) 8 hc] 269 (0, 0))
  hvr : Row w hg 3 (reps #[.int .i64 0] 8)
theorem LL.touch {w w2 : World} {lv lg lc hv hg hc : Nat} {S : Nat → Prop} (h : LL w lv lg lc hv hg hc) (ht : Touch S w w2) (h1 : ¬ S lv) (h2 : ¬ S lg) (h3 : ¬ S hv) (h4 : ¬ S hg) : LL w2 lv lg lc hv hg hc :=
  ⟨ht.at h.lvb h1, h.lvr.touch ht h2, ht.at h.hvb h3, h.hvr.touch ht h4⟩
theorem LL.after {w w2 : World} {lv lg lc hv hg hc : Nat} (h : LL w lv lg lc hv hg hc) (hb : Below w.heap.size w w2) : LL w2 lv lg lc hv hg hc :=
  h.touch (Touch.of_below (S := fun _ => False) hb) (fun h => h) (fun h => h) (fun h => h) (fun h => h)
theorem RClk.after {w w' : World} {v : Nat} {c : Clk} {b1 b2 b3 c1 c2 c3 : Nat} (h : RClk w v c b1 b2 b3 c1 c2 c3) (hb : Below w.heap.size w w') : RClk w' v c b1 b2 b3 c1 c2 c3 :=
  h.touch (Touch.of_below (S := fun _ => False) hb) (fun h => h) (fun h => h) (fun h => h) (fun h => h)
theorem RMemIs.lts {w : World} {B : RMB} {m : MemS} (h : RMemIs w B m) : B.v < w.heap.size ∧ B.b < w.heap.size ∧ ∀ j, j < m.n → B.fb j < w.heap.size := ⟨lt_of_block h.box, h.heads.lt, fun j hj => (h.rows j hj).lt⟩
theorem RClk.lts {w : World} {v : Nat} {c : Clk} {b1 b2 b3 c1 c2 c3 : Nat} (h : RClk w v c b1 b2 b3 c1 c2 c3) : v < w.heap.size ∧ b1 < w.heap.size ∧ b2 < w.heap.size ∧ b3 < w.heap.size := ⟨lt_of_block h.box, h.r1.lt, h.r2.lt, h.r3.lt⟩
theorem tnew_row {w : World} {g : Nat} {n : Nat} {T : TypeId} (h : Row w g T (reps #[.int .i64 0, .int .i64 0, .int .i64 (-1), .int .i64 0] n)) :
    ∃ arr : Array Value, w.heap[g]? = some (.cells arr T (0, 0)) ∧ ∀ f o, f < n → o < 4 → arr[f * 4 + o]? = some (tcell (TypS.new n) f o) := by
  obtain ⟨sp, h⟩ := h
  refine ⟨_, h, fun f o hf ho => ?_⟩
  have hx := reps_at #[.int .i64 0, .int .i64 0, .int .i64 (-1), .int .i64 0] (n := n) (f := f) (o := o) hf (by simpa using ho)
  have hl : f * 4 + o < (reps #[Value.int .i64 0, .int .i64 0, .int .i64 (-1), .int .i64 0] n).length := by rw [reps_len]; simp; omega
  rw [List.getElem?_toArray, List.getElem?_append_left hl]
  refine Eq.trans hx ?_
  match o, ho with
  | 0, _ => rfl
  | 1, _ => rfl
  | 2, _ => rfl
  | 3, _ => rfl
structure RPart (w : World) (M : RMB) (F : Nat) (C : Nat) (cv b1 b2 b3 c1 c2 c3 ta tg tcap lv lg lc hv hg hc : Nat) : Prop where
  mem : RMemIs w M ⟨F, fun _ _ => 0⟩
  clk : RClk w cv (Clk.new C) b1 b2 b3 c1 c2 c3
  typ : RTypIs w ta tg tcap (TypS.new F)
  ll : LL w lv lg lc hv hg hc
theorem RPart.touch {w w2 : World} {M : RMB} {F C cv b1 b2 b3 c1 c2 c3 ta tg tcap lv lg lc hv hg hc : Nat} {b : Nat} (h : RPart w M F C cv b1 b2 b3 c1 c2 c3 ta tg tcap lv lg lc hv hg hc) (ht : Touch (· = b) w w2)
    (h0 : lv < b ∧ lg < b ∧ hv < b ∧ hg < b) (h1 : b < M.v ∧ b < M.b ∧ (∀ j, j < F → b < M.fb j)) (h2 : b < cv) (h3 : b < ta ∧ b < tg) : RPart w2 M F C cv b1 b2 b3 c1 c2 c3 ta tg tcap lv lg lc hv hg hc := by
  have q1 := h.clk.v1; have q2 := h.clk.v2; have q3 := h.clk.v3
  exact ⟨h.mem.touch ht (by omega) (by omega) (fun j hj => by have := h1.2.2 j hj; omega), h.clk.touch ht (by omega) (by omega) (by omega) (by omega), h.typ.touch ht (by omega) (by omega), h.ll.touch ht (by omega) (by omega) (by omega) (by omega)⟩
set_option maxHeartbeats 4000000 in
set_option maxRecDepth 100000 in
theorem r25_newS (F C : Nat) (p r : Int) (w : World) (ok : CfgOk F C p r) : Calls Tryz.prog 7 #[.agg #[.int .i64 F, .int .i64 C, .int .i64 p, .int .i64 r]] w fun e w' => ∃ R : RB,
    e = .returned (.tuple #[.pointer (some ⟨R.b, 0, none⟩), .int .i64 0]) ∧ RMachIs w' R ⟨⟨F, fun _ _ => 0⟩, Clk.new C, TypS.new F⟩ r (fun _ => -1) ∧ R.From w.heap.size ∧ Below w.heap.size w w' := by
  have hf1 := ok.f1; have hf64 := ok.f64; have hc1 := ok.c1; have hc4 := ok.c4; have hr0 := ok.r0; have hr8 := ok.r8
  obtain ⟨i0, hi, hz0, hz1, hz2⟩ := info_parts Tryz.infoPT
  obtain ⟨j0, gi, gz0, gz1, gz2⟩ := info_parts Tryz.infoPF
  obtain ⟨k0, ki, kz0, kz1, kz2⟩ := info_parts Tryz.infoInt
  have hA : ∀ o, Below w.heap.size w (w.alloc o) := fun o => by (refine Touch.below0 ?_; (repeat' (first | (with_reducible exact Touch.refl _ _) | (with_reducible assumption) | (with_reducible refine Touch.drew ?_) | (with_reducible refine Touch.drewN ?_ _) | (with_reducible refine Touch.alloc ?_ _) | (with_reducible refine Touch.setCell ?_ _ _ _ ?_) | (with_reducible refine Touch.step (by assumption) ?_) | (with_reducible refine Touch.stepT (by assumption) ?_ ?_) | (intro _; first | rfl | trivial | omega | (simp; done) | (simp; omega)) | (intro _ _; first | omega | (simp; done) | (simp; omega)))))
  have C0 := fun w => r25_check F C p r w ok
  go_enter Tryz.func7, Tryz.ntmps7
  go_upto_region 3 with ((go_at_call 61; (with_reducible refine (C0 _).mono ?_); rintro e w' ⟨rfl, hb1⟩))
  have hcfg : (w').heap[w.heap.size]? = some (.cells #[.int .i64 F, .int .i64 C, .int .i64 p, .int .i64 r] 23 (0, 0)) := (hb1.block _ (by simp)).trans (heap_new w _)
  have hbw := (hA _).trans (hb1.mono (hA _).size)
  have hbw1 := hbw.size
  generalize w' = W1 at *
  clear hb1 hA C0
  go_upto_region 4 with (first
    | ((go_at_call 62; (with_reducible refine (r7_new _).mono ?_); rintro e w' ⟨g7, c7, rfl, lvb, lvr, lv7, hb⟩); have l7 := lvr.lt; have l71 := lt_of_block lvb; have hcfg := (hb.block _ (lt_of_block hcfg)).trans hcfg; have hbw := hbw.trans (hb.mono hbw.size); obtain ⟨W7, hW7⟩ : ∃ x : World, x = w' := ⟨_, rfl⟩; subst hW7)
    | ((go_at_call 63; (with_reducible refine (r23_new _).mono ?_); rintro e w' ⟨g23, c23, rfl, hvb, hvr, hv23, hb⟩); have lvr := lvr.after hb; have lvb := (hb.block _ (lt_of_block lvb)).trans lvb; have hs23 := hb.size; have l23 := hvr.lt; have hw7 := hbw.size; have hcfg := (hb.block _ (lt_of_block hcfg)).trans hcfg; have hbw := hbw.trans (hb.mono hbw.size)))
  have hLL0 : LL w' W1.heap.size g7 c7 W7.heap.size g23 c23 := ⟨lvb, lvr, hvb, hvr⟩
  have hbox := heap_new w' (.cells #[.pointer none, .pointer none, .slice none 0 0, .slice none 0 0, .pointer none, .pointer (some ⟨W1.heap.size, 0, none⟩), .pointer (some ⟨W7.heap.size, 0, none⟩), .slice none 0 0] 64 (0, 0))
  have hcfg := heap_alloc hcfg (.cells #[.pointer none, .pointer none, .slice none 0 0, .slice none 0 0, .pointer none, .pointer (some ⟨W1.heap.size, 0, none⟩), .pointer (some ⟨W7.heap.size, 0, none⟩), .slice none 0 0] 64 (0, 0))
  have hbw := hbw.alloc hbw.size (.cells #[.pointer none, .pointer none, .slice none 0 0, .slice none 0 0, .pointer none, .pointer (some ⟨W1.heap.size, 0, none⟩), .pointer (some ⟨W7.heap.size, 0, none⟩), .slice none 0 0] 64 (0, 0))
  have hLL := hLL0.after (show Below w'.heap.size w' (w'.alloc (.cells #[.pointer none, .pointer none, .slice none 0 0, .slice none 0 0, .pointer none, .pointer (some ⟨W1.heap.size, 0, none⟩), .pointer (some ⟨W7.heap.size, 0, none⟩), .slice none 0 0] 64 (0, 0))) by (refine Touch.below0 ?_; (repeat' (first | (with_reducible exact Touch.refl _ _) | (with_reducible assumption) | (with_reducible refine Touch.drew ?_) | (with_reducible refine Touch.drewN ?_ _) | (with_reducible refine Touch.alloc ?_ _) | (with_reducible refine Touch.setCell ?_ _ _ _ ?_) | (with_reducible refine Touch.step (by assumption) ?_) | (with_reducible refine Touch.stepT (by assumption) ?_ ?_) | (intro _; first | rfl | trivial | omega | (simp; done) | (simp; omega)) | (intro _ _; first | omega | (simp; done) | (simp; omega))))))
  have hlb := lt_of_block hLL0.lvb
  have hlg := hLL0.lvr.lt
  have hhb := lt_of_block hLL0.hvb
  have hhg := hLL0.hvr.lt
  have hbl : w.heap.size < w'.heap.size := lt_of_block ‹w'.heap[w.heap.size]? = _›
  have hlw : w.heap.size ≤ W1.heap.size := hbw1
  have hhw : w.heap.size ≤ W7.heap.size := hw7
  clear hLL0 lvb lvr hvb hvr l7 l71 hs23 l23 hbw1 hw7
  generalize w'.alloc (.cells #[.pointer none, .pointer none, .slice none 0 0, .slice none 0 0, .pointer none, .pointer (some ⟨W1.heap.size, 0, none⟩), .pointer (some ⟨W7.heap.size, 0, none⟩), .slice none 0 0] 64 (0, 0)) = W2 at *
  generalize W1.heap.size = lv at *
  generalize W7.heap.size = hv at *
  generalize w'.heap.size = b at *
  have hbW2 : b < W2.heap.size := lt_of_block hbox
  have q0 := cell_of hcfg 0
  have q1 := cell_of hcfg 1
  dsimp at q0 q1
  have N2 := fun w => r2_new F w (by omega) (by omega)
  have N3 := fun w => r3_new C w (by omega) (by omega)
  have N6 := fun w => r6_new F w (by omega) (by omega)
  have N4 := fun w => r4_new r w hr0 hr8
  have N5 : ∀ w, Calls Tryz.prog 68 #[] w fun e w' => ∃ v g cap, e = .returned (.pointer (some ⟨v, 0, none⟩)) ∧ w'.heap[v]? = some (.cells #[.slice (some ⟨g, 0, none⟩) 8 cap] 165 (0, 0)) ∧ Row w' g 150 (reps #[.int .u64 0] 8) ∧ w.heap.size ≤ v ∧ w.heap.size ≤ g ∧ Below w.heap.size w w' := fun w => (r5_new w).mono fun _ _ ⟨g, c, h1, h2, h3, h4, h5⟩ => ⟨_, g, c, h1, h2, h3, Nat.le_refl _, Nat.le_of_lt h4, h5⟩
  go_upto_region 7 with (first
    | ((go_at_call 64; (with_reducible refine (N2 _).mono ?_); rintro e w' ⟨B2, rfl, hM, hMF, hb⟩); obtain ⟨w2, hw2⟩ : ∃ x : World, x = w' := ⟨_, rfl⟩; subst hw2; have s2 := hb.size; have hMl := hM.lts; have hLL := hLL.after hb; have hcfg := (hb.block _ (lt_of_block hcfg)).trans hcfg; have hbox := (hb.block _ (lt_of_block hbox)).trans hbox; have hbw := hbw.trans (hb.mono hbw.size); have q1 := cell_of hcfg 1; dsimp at q1)
    | ((go_at_call 65; (with_reducible refine (N3 _).mono ?_); rintro e w' ⟨rfl, ⟨b1, b2, b3, c1, c2, c3, hC⟩, hb⟩); obtain ⟨w3, hw3⟩ : ∃ x : World, x = w' := ⟨_, rfl⟩; subst hw3; have s3 := hb.size; have hCl := hC.lts; have hM := hM.after hb; have hLL := hLL.after hb; have hcfg := (hb.block _ (lt_of_block hcfg)).trans hcfg; have hbox := (hb.block _ (lt_of_block hbox)).trans hbox; have hbw := hbw.trans (hb.mono hbw.size); have q0 := cell_of hcfg 0; dsimp at q0)
    | ((go_at_call 66; (with_reducible refine (N6 _).mono ?_); rintro e w' ⟨g6, c6, rfl, t6b, t6r, l6, hb⟩); have s6 := hb.size; have hT6 : RTypIs w' w3.heap.size g6 c6 (TypS.new F) := ⟨t6b, tnew_row t6r, by omega⟩; have l6g := t6r.lt; have l6b := lt_of_block t6b; have hM := hM.after hb; have hC := hC.after hb; have hLL := hLL.after hb; have hcfg := (hb.block _ (lt_of_block hcfg)).trans hcfg; have hbox := (hb.block _ (lt_of_block hbox)).trans hbox; have hbw := hbw.trans (hb.mono hbw.size)))
  have hP0 : RPart w' B2 F C w2.heap.size b1 b2 b3 c1 c2 c3 w3.heap.size g6 c6 lv g7 c7 hv g23 c23 := ⟨hM, hC, hT6, hLL⟩
  clear q0 q1 N2 N3 N6 hM hC hT6 hLL t6b t6r
  have fb := frozen_of hbox
  have d0 := cell_of hbox 0
  have d1 := cell_of hbox 1
  have d4 := cell_of hbox 4
  dsimp at d0 d1 d4
  go_upto_block 0 with (fail)
  have hMf := hMF.f
  have hMv := hMF.v
  have hMb := hMF.b
  have htt : Touch (· = b) w' (((w'.setCell ⟨b, 0, none⟩ (.pointer (some ⟨B2.v, 0, none⟩))).setCell ⟨b, 1, none⟩ (.pointer (some ⟨w2.heap.size, 0, none⟩))).setCell ⟨b, 4, none⟩ (.pointer (some ⟨w3.heap.size, 0, none⟩))) := by (repeat' (first | (with_reducible exact Touch.refl _ _) | (with_reducible assumption) | (with_reducible refine Touch.drew ?_) | (with_reducible refine Touch.drewN ?_ _) | (with_reducible refine Touch.alloc ?_ _) | (with_reducible refine Touch.setCell ?_ _ _ _ ?_) | (with_reducible refine Touch.step (by assumption) ?_) | (with_reducible refine Touch.stepT (by assumption) ?_ ?_) | (intro _; first | rfl | trivial | omega | (simp; done) | (simp; omega)) | (intro _ _; first | omega | (simp; done) | (simp; omega))))
  have hP : RPart (((w'.setCell ⟨b, 0, none⟩ (.pointer (some ⟨B2.v, 0, none⟩))).setCell ⟨b, 1, none⟩ (.pointer (some ⟨w2.heap.size, 0, none⟩))).setCell ⟨b, 4, none⟩ (.pointer (some ⟨w3.heap.size, 0, none⟩))) B2 F C w2.heap.size b1 b2 b3 c1 c2 c3 w3.heap.size g6 c6 lv g7 c7 hv g23 c23 :=
    hP0.touch htt ⟨hlb, hlg, hhb, hhg⟩ ⟨by omega, by omega, fun j hj => by have := hMf j hj; omega⟩ (by omega) ⟨by omega, by omega⟩
  have hsW : (((w'.setCell ⟨b, 0, none⟩ (.pointer (some ⟨B2.v, 0, none⟩))).setCell ⟨b, 1, none⟩ (.pointer (some ⟨w2.heap.size, 0, none⟩))).setCell ⟨b, 4, none⟩ (.pointer (some ⟨w3.heap.size, 0, none⟩))).heap.size = w'.heap.size := by simp
  have hbox : (((w'.setCell ⟨b, 0, none⟩ (.pointer (some ⟨B2.v, 0, none⟩))).setCell ⟨b, 1, none⟩ (.pointer (some ⟨w2.heap.size, 0, none⟩))).setCell ⟨b, 4, none⟩ (.pointer (some ⟨w3.heap.size, 0, none⟩))).heap[b]? = some (.cells #[.pointer (some ⟨B2.v, 0, none⟩), .pointer (some ⟨w2.heap.size, 0, none⟩), .slice none 0 0, .slice none 0 0, .pointer (some ⟨w3.heap.size, 0, none⟩), .pointer (some ⟨lv, 0, none⟩), .pointer (some ⟨hv, 0, none⟩), .slice none 0 0] 64 (0, 0)) :=
    heap_set (heap_set (heap_set hbox _) _) _
  have hcfg := heap_set_ne (b' := b) (o := 4) (heap_set_ne (b' := b) (o := 1) (heap_set_ne (b' := b) (o := 0) hcfg (.pointer (some ⟨B2.v, 0, none⟩)) (by omega)) (.pointer (some ⟨w2.heap.size, 0, none⟩)) (by omega)) (.pointer (some ⟨w3.heap.size, 0, none⟩)) (by omega)
  have hbw := below_touch hbw htt hbw.size (fun i hi e => by have : i = b := e; omega)
  clear hP0 htt
  generalize ((w'.setCell ⟨b, 0, none⟩ (.pointer (some ⟨B2.v, 0, none⟩))).setCell ⟨b, 1, none⟩ (.pointer (some ⟨w2.heap.size, 0, none⟩))).setCell ⟨b, 4, none⟩ (.pointer (some ⟨w3.heap.size, 0, none⟩)) = W at *
  clear fb d0 d1 d4
  obtain ⟨a0, ha0⟩ : ∃ x : Value, x = .pointer (some ⟨B2.v, 0, none⟩) := ⟨_, rfl⟩
  obtain ⟨a1, ha1⟩ : ∃ x : Value, x = .pointer (some ⟨w2.heap.size, 0, none⟩) := ⟨_, rfl⟩
  obtain ⟨a4, ha4⟩ : ∃ x : Value, x = .pointer (some ⟨w3.heap.size, 0, none⟩) := ⟨_, rfl⟩
  obtain ⟨a5, ha5⟩ : ∃ x : Value, x = .pointer (some ⟨lv, 0, none⟩) := ⟨_, rfl⟩
  obtain ⟨a6, ha6⟩ : ∃ x : Value, x = .pointer (some ⟨hv, 0, none⟩) := ⟨_, rfl⟩
  rw [← ha0, ← ha1, ← ha4, ← ha5, ← ha6] at hbox
  have ha0 := Lib.hid ha0; have ha1 := Lib.hid ha1; have ha4 := Lib.hid ha4; have ha5 := Lib.hid ha5; have ha6 := Lib.hid ha6
  have hWb : b < W.heap.size := lt_of_block hbox
  have hbW : ∀ (x : World), Touch (· = b) W x → W.heap.size ≤ x.heap.size := fun x h => h.size
  go_cut [] (fun wr => ∃ st ct sr cr sc cc tb rb rg rc, wr.heap[b]? = some (.cells #[a0, a1, .slice (some ⟨st, 0, none⟩) C ct, .slice (some ⟨sr, 0, none⟩) C cr, a4, a5, a6, .slice (some ⟨sc, 0, none⟩) C cc] 64 (0, 0)) ∧
    Row wr st 129 (ptrs tb C) ∧ Row wr sr 132 (ptrs rb C) ∧ Row wr sc 3 (ints (fun _ => -1) C) ∧ TriX wr W.heap.size tb rb rg rc r C C ∧ W.heap.size ≤ st ∧ W.heap.size ≤ sr ∧ W.heap.size ≤ sc ∧ Touch (· = b) W wr)
  case first =>
    go_wp2
    go_loopw [11] (fun i wr => ∃ (k : Nat) (sT sR sC : Value) (tb rb rg rc : Nat → Nat), k ≤ C ∧ i = .int .i64 k ∧ Tri wr b a0 a1 a4 a5 a6 k k k sT sR sC (ptrs tb k) (ptrs rb k) (ints (fun _ => -1) k) ∧ TriX wr W.heap.size tb rb rg rc r k k ∧
      (∀ g, sT.ownBlock = some g → W.heap.size ≤ g) ∧ (∀ g, sR.ownBlock = some g → W.heap.size ≤ g) ∧ (∀ g, sC.ownBlock = some g → W.heap.size ≤ g) ∧ Touch (· = b) W wr) (fun i _ => C - (intOf i).toNat)
    case atStart => exact ⟨0, .slice none 0 0, .slice none 0 0, .slice none 0 0, fun _ => 0, fun _ => 0, fun _ => 0, fun _ => 0, by omega, rfl, ⟨hbox, World.ownsRow_nil _ _ _ _, World.ownsRow_nil _ _ _ _, World.ownsRow_nil _ _ _ _, Apart.nil _, Apart.nil _, Apart.nil _⟩, ⟨fun j hj => by omega, fun j hj => by omega, fun j hj => by omega, fun j hj => by omega, fun j hj => by omega⟩, fun g h => by simp [Value.ownBlock] at h, fun g h => by simp [Value.ownBlock] at h, fun g h => by simp [Value.ownBlock] at h, Touch.refl _ _⟩
    case round =>
      obtain ⟨k, sT, sR, sC, tb, rb, rg, rc, hk, rfl, hT, hX, lT, lR, lC, ht⟩ := hrel
      have hcr := ht.at hcfg (by omega)
      have q1 := cell_of hcr 1
      have q3 := cell_of hcr 3
      dsimp at q1 q3
      by_cases hlt : k < C
      · have hlt' : (k : Int) < C := by omega
        have hkn : k < 1000000 := by omega
        go_upto_region 15 with (first
          | ((go_at_call 67; (with_reducible refine (N4 _).mono ?_); rintro e w' ⟨rfl, hw4⟩)
             obtain ⟨v4, hv4⟩ : ∃ x, x = wr.heap.size := ⟨_, rfl⟩
             rw [← hv4]
             have hb : Below wr.heap.size wr w' := (by subst hw4; (refine Touch.below0 ?_; (repeat' (first | (with_reducible exact Touch.refl _ _) | (with_reducible assumption) | (with_reducible refine Touch.drew ?_) | (with_reducible refine Touch.drewN ?_ _) | (with_reducible refine Touch.alloc ?_ _) | (with_reducible refine Touch.setCell ?_ _ _ _ ?_) | (with_reducible refine Touch.step (by assumption) ?_) | (with_reducible refine Touch.stepT (by assumption) ?_ ?_) | (intro _; first | rfl | trivial | omega | (simp; done) | (simp; omega)) | (intro _ _; first | omega | (simp; done) | (simp; omega))))))
             have hv4b : w'.heap[v4]? = some (.cells #[.slice none 0 0, .int .i64 r] 168 (0, 0)) := (by subst hw4; exact heap_new' hv4 _)
             have hv4l : W.heap.size ≤ v4 := (by rw [hv4]; exact ht.size)
             clear hw4 hv4
             have hT := hT.after hb; have hX := (hX.after hb).addT hv4b hv4l; have ht := ht.trans (Touch.of_below hb); have hsz := lt_of_block hT.box; have q2 := cell_of hT.box 2; dsimp at q2)
          | (at_builtin; refine wpList_append_agg w' rfl _ _ 58 rfl 129 i0 (.pointer none) #[.pointer (some ⟨v4, 0, none⟩)] 1 8 Tryz.underlying58 hi hz0 hz1 hz2 rfl rfl (by decide) (by decide) (b + 1) sT k _ rfl hT.oT _ rfl rfl (by simp [Value.oneCell']) hkn hsz ?_; intro g2 cp2 w2' n2 ht2 hl2
             have hb3 := field_box hT.box hT.oT ht2
             have u2 := cell_of hb3 2
             have f3 := frozen_of hb3
             have hT2 := hT.stepT n2 ht2 hl2
             have hX2 := hX.field hT.oT hT.box ⟨by decide, by decide, by decide⟩ ht2 2 (.slice (some ⟨g2, 0, none⟩) (k + 1) cp2)
             have t1 := box_touch (v := .slice (some ⟨g2, 0, none⟩) (k + 1) cp2) ht ht2 lT 2
             have lT2 := lo_step lT ht.size hl2
             dsimp at u2))
        clear hcr q1 q3
        generalize w2'.setCell ⟨b, 2, none⟩ (.slice (some ⟨g2, 0, none⟩) (k + 1) cp2) = W4 at *
        have u3 := cell_of hT2.box 3
        have f4 := frozen_of hT2.box
        dsimp at u3
        clear hT hX hsz q2 hb3 u2 f3 n2 ht2 hl2 ht
        have ht := t1
        clear t1
        go_cut [] (fun wi => ∃ (s : Value) (rb' rg' rc' : Nat → Nat), Tri wi b a0 a1 a4 a5 a6 (k + 1) (k + 1) k (.slice (some ⟨g2, 0, none⟩) (k + 1) cp2) s sC (ptrs tb k ++ [.pointer (some ⟨v4, 0, none⟩)]) (ptrs rb' (k + 1)) (ints (fun _ => -1) k) ∧ TriX wi W.heap.size (upd tb k v4) rb' rg' rc' r (k + 1) (k + 1) ∧ (∀ g, s.ownBlock = some g → W.heap.size ≤ g) ∧ Touch (· = b) W wi)
        case first =>
          have hsz0 := lt_of_block hT2.box
          go_region_law (first
            | (refine step_append_agg _ (by rfl) _ _ 59 (by rfl) 132 j0 (.pointer none) #[.pointer (some ⟨v5, 0, none⟩)] 1 8 Tryz.underlying59 gi gz0 gz1 gz2 rfl rfl (by decide) (by decide) (b + 1) sR k _ (by rfl) hT'.oR _ rfl (by rfl) (by simp [Value.oneCell']) hkn hsz1 ?_; intro g3 cp3 w3' n3 ht3 hl3
               have hb3 := field_box hT'.box hT'.oR ht3
               have u5 := cell_of hb3 3
               have f5 := frozen_of hb3
               have hT3 := hT'.stepR n3 ht3 hl3
               have hX3 := hX'.field hT'.oR hT'.box ⟨by decide, by decide, by decide⟩ ht3 3 (.slice (some ⟨g3, 0, none⟩) (k + 1) cp3)
               have t3 := box_touch (v := .slice (some ⟨g3, 0, none⟩) (k + 1) cp3) ht' ht3 lR 3
               have lR3 := lo_step lR ht'.size hl3
               dsimp at u5)
            | (go_simp; (go_at_call 68; (with_reducible refine (N5 _).mono ?_); rintro e w' ⟨v5, g5, cap5, rfl, v5b, v5r, v5l, v5g, hb1⟩); have hb2 : Below W4.heap.size W4 w' := below_undrew hb1; have v5lo : W4.heap.size ≤ v5 := v5l; have v5go : W4.heap.size ≤ g5 := v5g; have v5w := ht.size
               have hT' := hT2.after hb2
               have hX' := (hX2.after hb2).addF v5b v5r (by omega) (by omega)
               have ht' := ht.trans (Touch.of_below hb2)
               have u6 := cell_of hT'.box 3; have u7 := (fun o => cell_of (heap_alloc hT'.box o) 3); have hsz1 : b + 1 ≤ w'.heap.size := lt_of_block hT'.box; dsimp at u6 u7))
          all_goals
            go_wp2
            go_meet
            exact ⟨_, _, _, _, by rw [← ptrs_succ]; exact hT3, hX3, lR3, t3⟩
        case rest =>
          obtain ⟨s, rb', rg', rc', hT3, hX3, lR3, ht3⟩ := hcut
          have q7 := cell_of hT3.box 7
          have hsz3 := lt_of_block hT3.box
          dsimp at q7
          clear u3 f4 hT2 hX2
          go_wp2_with (at_builtin; refine wpList_append_agg wc rfl _ _ 25 rfl 3 k0 (.int .i64 0) #[.int .i64 (-1)] 1 8 Tryz.underlying25 ki kz0 kz1 kz2 rfl rfl (by decide) (by decide) (b + 1) sC k _ rfl hT3.oC _ rfl rfl (by kernel_rfl) hkn hsz3 ?_; intro g4 cp4 w4 n4 ht4 hl4
                       have hb4 := field_box hT3.box hT3.oC ht4
                       have u8 := cell_of hb4 7
                       have f8 := frozen_of hb4
                       have hT4 := hT3.stepC n4 ht4 hl4
                       have hX4 := hX3.field hT3.oC hT3.box ⟨by decide, by decide, by decide⟩ ht4 7 (.slice (some ⟨g4, 0, none⟩) (k + 1) cp4)
                       have t4 := box_touch (v := .slice (some ⟨g4, 0, none⟩) (k + 1) cp4) ht3 ht4 lC 7
                       have lC4 := lo_step lC ht3.size hl4
                       dsimp at u8)
          have hfin : ∃ (k' : Nat) (sT sR sC : Value) (tb rb rg rc : Nat → Nat), k' ≤ C ∧ (Value.int .i64 ((k : Int) + 1)) = .int .i64 k' ∧ Tri (w4.setCell ⟨b, 7, none⟩ (.slice (some ⟨g4, 0, none⟩) (k + 1) cp4)) b a0 a1 a4 a5 a6 k' k' k' sT sR sC (ptrs tb k') (ptrs rb k') (ints (fun _ => -1) k') ∧
              TriX (w4.setCell ⟨b, 7, none⟩ (.slice (some ⟨g4, 0, none⟩) (k + 1) cp4)) W.heap.size tb rb rg rc r k' k' ∧ (∀ g, sT.ownBlock = some g → W.heap.size ≤ g) ∧ (∀ g, sR.ownBlock = some g → W.heap.size ≤ g) ∧ (∀ g, sC.ownBlock = some g → W.heap.size ≤ g) ∧ Touch (· = b) W (w4.setCell ⟨b, 7, none⟩ (.slice (some ⟨g4, 0, none⟩) (k + 1) cp4)) :=
            ⟨k + 1, _, _, _, _, _, _, _, by omega, by congr 1, by rw [← ptrs_succ tb, ints_succ]; exact hT4, hX4, lT2, lR3, lC4, t4⟩
          go_roundw
          case rel => first | exact hfin | ((repeat apply Exists.intro); exact ⟨hfin, rfl⟩)
          case measure => simp [intOf]; omega
      · obtain rfl : k = C := by omega
        have hfin : ∃ st ct sr cr sc cc tb rb rg rc, wr.heap[b]? = some (.cells #[a0, a1, .slice (some ⟨st, 0, none⟩) k ct, .slice (some ⟨sr, 0, none⟩) k cr, a4, a5, a6, .slice (some ⟨sc, 0, none⟩) k cc] 64 (0, 0)) ∧
            Row wr st 129 (ptrs tb k) ∧ Row wr sr 132 (ptrs rb k) ∧ Row wr sc 3 (ints (fun _ => -1) k) ∧ TriX wr W.heap.size tb rb rg rc r k k ∧ W.heap.size ≤ st ∧ W.heap.size ≤ sr ∧ W.heap.size ≤ sc ∧ Touch (· = b) W wr := by
          obtain ⟨hbx, oT, oR, oC, _, _, _⟩ := hT
          rcases ownsRow_row oT with ⟨_, h, _⟩ | ⟨g1, d1, rfl, _, _, _, _, R1⟩; · omega
          rcases ownsRow_row oR with ⟨_, h, _⟩ | ⟨g2, d2, rfl, _, _, _, _, R2⟩; · omega
          rcases ownsRow_row oC with ⟨_, h, _⟩ | ⟨g3, d3, rfl, _, _, _, _, R3⟩; · omega
          exact ⟨g1, d1, g2, d2, g3, d3, tb, rb, rg, rc, hbx, R1, R2, R3, hX, lT _ rfl, lR _ rfl, lC _ rfl, ht⟩
        clear hT hX lT lR lC
        go_wp2
        go_meet
        exact hfin
  case rest =>
    obtain ⟨st, ct, sr, cr, sc, cc, tb, rb, rg, rc, hbx, R1, R2, R3, hX, l1, l2, l3, ht⟩ := hcut
    go_wp2
    go_ret2
    have hP2 := hP.touch ht ⟨hlb, hlg, hhb, hhg⟩ ⟨by omega, by omega, fun j hj => by have := hMf j hj; omega⟩ (by omega) ⟨by omega, by omega⟩
    have hCn : (Clk.new C).n.toNat = C := by simp [Clk.new]
    rw [ha0.out, ha1.out, ha4.out, ha5.out, ha6.out] at hbx
    refine ⟨⟨b, W2.heap.size, w2.heap.size, w3.heap.size, W.heap.size, B2, w2.heap.size, b1, b2, b3, c1, c2, c3, w3.heap.size, g6, c6, lv, g7, c7, hv, g23, c23, st, ct, sr, cr, sc, cc, tb, rb, rg, rc⟩, rfl, ?_, ⟨?_, ?_, ?_⟩, below_touch hbw ht hbw.size (fun i hi e => by have : i = b := e; omega)⟩
    · have k1 := hP2.clk.v1; have k2 := hP2.clk.v2; have k3 := hP2.clk.v3
      constructor <;> dsimp only
      case box => rw [hCn]; exact hbx
      case mem => exact hP2.mem
      case clk => exact hP2.clk
      case typ => exact hP2.typ
      case lvb => exact hP2.ll.lvb
      case lvr => exact hP2.ll.lvr
      case hvb => exact hP2.ll.hvb
      case hvr => exact hP2.ll.hvr
      case rT => rw [hCn]; exact R1
      case rR => rw [hCn]; exact R2
      case rC => rw [hCn]; exact R3
      case tl => rw [hCn]; exact hX.tl
      case fl => rw [hCn]; exact hX.fl
      case fr => rw [hCn]; exact hX.fr
      case q0 => omega
      case q1 => exact ⟨hMv, hMl.1, hMb, hMl.2.1, fun j hj => ⟨hMf j hj, hMl.2.2 j hj⟩⟩
      case q2 => omega
      case q3 => omega
      case q4 => exact ⟨l1, l2, l3, fun j hj => by rw [hCn] at hj; exact ⟨hX.lT j hj, hX.lF j hj⟩⟩
      case e01 => omega
      case e12 => omega
      case e23 => omega
    · show _ ≤ b; omega
    · dsimp only; omega
    · dsimp only; omega
end Go.Proofs.YtmahledpcpdldaaGreat
