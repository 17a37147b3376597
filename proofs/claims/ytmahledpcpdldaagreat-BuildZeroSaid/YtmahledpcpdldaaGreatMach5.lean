/- A new machine (under way). -/
import Derived.Test.YtmahledpcpdldaaGreatMach4
import Derived.Test.YtmahledpcpdldaaGreatCores
import Derived.Deep.RegionLaw
import Derived.Deep.DeepCutAuto
import Derived.Deep.Cut
import Derived.Deep.CutBlock
set_option linter.unusedVariables false
set_option linter.unusedSimpArgs false
namespace Go.Proofs.YtmahledpcpdldaaGreat
open Go.RowKit

theorem nn {B : MBl} {x : Nat} (h : x ≠ B.mg ∧ x ≠ B.cb ∧ x ≠ B.tg) : ¬ B.own x := fun h2 => by
  rcases h2 with h2 | h2 | h2
  · exact h.1 h2
  · exact h.2.1 h2
  · exact h.2.2 h2
set_option maxHeartbeats 4000000 in
set_option maxRecDepth 100000 in
theorem mach_newX (F C : Nat) (p r : Int) (w : World) (ok : CfgOk F C p r) : Calls Tryz.prog 6 #[.agg #[.int .i64 F, .int .i64 C, .int .i64 p, .int .i64 r]] w fun e w' => ∃ B : MBl,
    e = .returned (.tuple #[.pointer (some ⟨B.b, 0, none⟩), .int .i64 0]) ∧ MachIs w' B ⟨⟨F, fun _ _ => 0⟩, Clk.new C, TypS.new F⟩ ∧ (∀ x, B.own x → w.heap.size ≤ x) ∧ Below w.heap.size w w' ∧ (∀ k, B.cur k = -1) ∧
    (w'.heap[B.lb]? = some (.cells #[.slice (some ⟨B.lb - 1, 0, none⟩) 64 64] 184 (0, 0)) ∧ w'.heap[B.lb - 1]? = some (.cells (madeCells #[.bool false, .int .i64 0, .bool false, .int .i64 0] 256) 179 (0, 0)) ∧ w.heap.size < B.lb ∧ ¬ B.own B.lb ∧ ¬ B.own (B.lb - 1)) ∧
    (w'.heap[B.hb]? = some (.cells #[.map (some (B.hb - 1))] 246 (0, 0)) ∧ w'.heap[B.hb - 1]? = some (.map #[] 0)) ∧ (∀ k, k < C → w'.heap[B.regs k]? = some (.cells regs0 267 (0, 0))) ∧ (∀ i j, i < C → j < C → B.core i = B.core j → i = j) ∧ (∀ k, k < C → w.heap.size ≤ B.core k) := by
  have hf1 := ok.f1; have hf64 := ok.f64; have hc1 := ok.c1; have hc4 := ok.c4
  have hA : ∀ o, Below w.heap.size w (w.alloc o) := fun o => by (refine Touch.below0 ?_; (repeat' (first | (with_reducible exact Touch.refl _ _) | (with_reducible assumption) | (with_reducible refine Touch.drew ?_) | (with_reducible refine Touch.drewN ?_ _) | (with_reducible refine Touch.alloc ?_ _) | (with_reducible refine Touch.setCell ?_ _ _ _ ?_) | (with_reducible refine Touch.step (by assumption) ?_) | (with_reducible refine Touch.stepT (by assumption) ?_ ?_) | (intro _; first | rfl | trivial | omega | (simp; done) | (simp; omega)) | (intro _ _; first | omega | (simp; done) | (simp; omega)))))
  have hA2 : ∀ (x : World) o, Below x.heap.size x (x.alloc o) := fun x o => by (refine Touch.below0 ?_; (repeat' (first | (with_reducible exact Touch.refl _ _) | (with_reducible assumption) | (with_reducible refine Touch.drew ?_) | (with_reducible refine Touch.drewN ?_ _) | (with_reducible refine Touch.alloc ?_ _) | (with_reducible refine Touch.setCell ?_ _ _ _ ?_) | (with_reducible refine Touch.step (by assumption) ?_) | (with_reducible refine Touch.stepT (by assumption) ?_ ?_) | (intro _; first | rfl | trivial | omega | (simp; done) | (simp; omega)) | (intro _ _; first | omega | (simp; done) | (simp; omega)))))
  go_enter Tryz.func6, Tryz.ntmps6
  go_upto_region 5 with (first
    | ((go_at_call 8; (with_reducible refine (mach_check _ _ _ _ _ ok).mono ?_); rintro e w' ⟨rfl, hb1⟩)
       have hp1 : w'.heap[w.heap.size]? = _ := (hb1.block _ (by simp)).trans (heap_new w _)
       have hbw1 := (hA _).trans (hb1.mono (hA _).size)
       obtain ⟨w1, hw1⟩ : ∃ x : World, x = w' := ⟨_, rfl⟩
       subst hw1)
    | (go_at_call 53; (with_reducible refine (live_new _).mono ?_); rintro e w' ⟨rfl, rfl⟩)
    | (go_at_call 54; (with_reducible refine (hw_new _).mono ?_); rintro e w' ⟨rfl, hb2, hl2, hHb, hHm⟩))
  obtain ⟨b, hb⟩ : ∃ b, b = w'.heap.size := ⟨_, rfl⟩
  obtain ⟨lb, hlb⟩ : ∃ x, x = w1.heap.size + 1 := ⟨_, rfl⟩
  obtain ⟨hl, hhl⟩ : ∃ x, x = lb + 1 + 1 := ⟨_, rfl⟩
  have hLg : w'.heap[lb - 1]? = some (.cells (madeCells #[.bool false, .int .i64 0, .bool false, .int .i64 0] 256) 179 (0, 0)) := by
    rw [hlb]; exact (hb2.block _ (by simp; omega)).trans (heap_alloc (heap_new _ _) _)
  have hLv : w'.heap[lb]? = some (.cells #[.slice (some ⟨lb - 1, 0, none⟩) 64 64] 184 (0, 0)) := by
    rw [hlb]; exact (hb2.block _ (by simp)).trans (heap_new' (by simp) _)
  have hHb : w'.heap[hl]? = some (.cells #[.map (some (hl - 1))] 246 (0, 0)) := by
    have e : hl = ((w1.alloc (.cells (madeCells #[.bool false, .int .i64 0, .bool false, .int .i64 0] 256) 179 (0, 0))).alloc (.cells #[.slice (some ⟨w1.heap.size, 0, none⟩) 64 64] 184 (0, 0))).heap.size + 1 := by rw [hhl, hlb]; simp
    rw [e]; exact hHb
  have hHm : w'.heap[hl - 1]? = some (.map #[] 0) := by
    have e : hl - 1 = ((w1.alloc (.cells (madeCells #[.bool false, .int .i64 0, .bool false, .int .i64 0] 256) 179 (0, 0))).alloc (.cells #[.slice (some ⟨w1.heap.size, 0, none⟩) 64 64] 184 (0, 0))).heap.size := by rw [hhl, hlb]; simp
    rw [e]; exact hHm
  have hhlb : hl < b := by rw [hb]; exact lt_of_block hHb
  have hlbb : lb < b := by rw [hb]; exact lt_of_block hLv
  have hwlb : w.heap.size < lb := by have := hbw1.size; simp at *; omega
  rw [← hb, ← hlb, ← hhl]
  have hbl : w.heap.size < b := by (have := hb2.size; have := hbw1.size; have := hb1.size; simp at *; omega)
  obtain ⟨wa, hwa⟩ : ∃ x : World, x = (w'.alloc (.cells #[.pointer none, .pointer none, .pointer none, .pointer (some ⟨lb, 0, none⟩), .pointer (some ⟨hl, 0, none⟩), .slice none 0 0] 102 (0, 0))).alloc (.cells #[.pointer (some ⟨b, 0, none⟩)] 27 (0, 0)) := ⟨_, rfl⟩
  have hbox : wa.heap[b]? = some (.cells #[.pointer none, .pointer none, .pointer none, .pointer (some ⟨lb, 0, none⟩), .pointer (some ⟨hl, 0, none⟩), .slice none 0 0] 102 (0, 0)) := by
    rw [hwa]; exact heap_alloc (heap_new' hb _) _
  have hvar : wa.heap[b + 1]? = some (.cells #[.pointer (some ⟨b, 0, none⟩)] 27 (0, 0)) := by
    rw [hwa]; exact heap_new' (by simp [hb]) _
  have hpar : wa.heap[w.heap.size]? = some (.cells #[.int .i64 F, .int .i64 C, .int .i64 p, .int .i64 r] 23 (0, 0)) := by
    rw [hwa]; refine heap_alloc (heap_alloc ((hb2.block _ ?_).trans (heap_alloc (heap_alloc hp1 _) _)) _) _
    simp; have := hbw1.size; omega
  have hbwa : Below w.heap.size w wa := by
    have s1 := hbw1.size
    have s2 := hb2.size
    have hS : ∀ (x : World) o, w.heap.size ≤ x.heap.size → Below w.heap.size w x → Below w.heap.size w (x.alloc o) := fun x o hx h => h.trans ((hA2 x o).mono hx)
    have h1 : Below w.heap.size w w' := (hS _ _ (by simp; omega) (hS _ _ s1 hbw1)).trans (hb2.mono (by simp; omega))
    have h1s := h1.size
    rw [hwa]
    exact hS _ _ (by simp; omega) (hS _ _ h1s h1)
  rw [← hwa]
  have hLg : wa.heap[lb - 1]? = some (.cells (madeCells #[.bool false, .int .i64 0, .bool false, .int .i64 0] 256) 179 (0, 0)) := by rw [hwa]; exact heap_alloc (heap_alloc hLg _) _
  have hHb : wa.heap[hl]? = some (.cells #[.map (some (hl - 1))] 246 (0, 0)) := by rw [hwa]; exact heap_alloc (heap_alloc hHb _) _
  have hHm : wa.heap[hl - 1]? = some (.map #[] 0) := by rw [hwa]; exact heap_alloc (heap_alloc hHm _) _
  have hLv : wa.heap[lb]? = some (.cells #[.slice (some ⟨lb - 1, 0, none⟩) 64 64] 184 (0, 0)) := by rw [hwa]; exact heap_alloc (heap_alloc hLv _) _
  have hbs : b + 1 < wa.heap.size := by rw [hwa]; simp [hb]
  clear hwa hb hb2 hl2 hp1 hb1 hbw1
  go_cut [] (fun wr => ∃ mb mg, wr.heap[b]? = some (.cells #[.pointer (some ⟨mb, 0, none⟩), .pointer none, .pointer none, .pointer (some ⟨lb, 0, none⟩), .pointer (some ⟨hl, 0, none⟩), .slice none 0 0] 102 (0, 0)) ∧ MemIs wr mb mg ⟨F, fun _ _ => 0⟩ ∧ wa.heap.size ≤ mb ∧ wa.heap.size ≤ mg ∧ Touch (· = b) wa wr)
  case first =>
    have gv : wa.cell? ⟨b + 1, 0, none⟩ = some (.pointer (some ⟨b, 0, none⟩)) := by rw [cell_of hvar]; rfl
    have gp : wa.cell? ⟨w.heap.size, 0, none⟩ = some (.int .i64 F) := by rw [cell_of hpar]; rfl
    go_region_law (first
      | (go_simp; (go_at_call 55; (with_reducible refine (mem_new F _ (by omega) (by omega)).mono ?_); rintro e w' ⟨rfl, hm, hbx⟩)
         have hbz : Below wa.heap.size wa w' := below_undrew hbx
         have hbox2 := (hbz.block _ (lt_of_block hbox)).trans hbox
         have gb2 := cell_of hbox2 0
         have fb2 := frozen_of hbox2
         have gv2 : w'.cell? ⟨b + 1, 0, none⟩ = some (.pointer (some ⟨b, 0, none⟩)) := by rw [cell_of ((hbz.block _ (lt_of_block hvar)).trans hvar)]; rfl
         dsimp at gb2))
    all_goals
      go_wp2
      go_meet
      have tb : Touch (· = b) w' (w'.setCell ⟨b, 0, none⟩ (.pointer (some ⟨wa.heap.size + 1, 0, none⟩))) := Touch.setCell (Touch.refl _ _) b 0 _ (fun _ => rfl)
      exact ⟨wa.heap.size + 1, wa.heap.size, heap_set hbox2 _, hm.touch tb (fun e => by have : wa.heap.size + 1 = b := e; omega) (fun e => by have : wa.heap.size = b := e; omega), by omega, by omega, (Touch.of_below hbz).trans tb⟩
  case rest =>
    obtain ⟨mb, mg, hbox5, hm5, hmb, hmg, ht5⟩ := hcut
    have hLg := ht5.at hLg (by omega)
    have hLv := ht5.at hLv (by omega)
    have hHb := ht5.at hHb (by omega)
    have hHm := ht5.at hHm (by omega)
    have hvar5 := ht5.at hvar (by omega)
    have hpar5 := ht5.at hpar (by omega)
    have hs5 := ht5.size
    clear hbox
    go_upto_region 6 with (fail)
    go_cut [] (fun wr => ∃ cb, wr.heap[b]? = some (.cells #[.pointer (some ⟨mb, 0, none⟩), .pointer (some ⟨cb, 0, none⟩), .pointer none, .pointer (some ⟨lb, 0, none⟩), .pointer (some ⟨hl, 0, none⟩), .slice none 0 0] 102 (0, 0)) ∧ ClkAt wr cb (Clk.new C) ∧ wc.heap.size ≤ cb ∧ Touch (· = b) wc wr)
    case first =>
      have gv : wc.cell? ⟨b + 1, 0, none⟩ = some (.pointer (some ⟨b, 0, none⟩)) := by rw [cell_of hvar5]; rfl
      have gp : wc.cell? ⟨w.heap.size, 1, none⟩ = some (.int .i64 C) := by rw [cell_of hpar5]; rfl
      go_region_law (first
        | (go_simp; (go_at_call 56; (with_reducible refine (clk_new C _ (by omega) (by omega)).mono ?_); rintro e w' ⟨rfl, hm, hbx⟩)
           have hbz : Below wc.heap.size wc w' := below_undrew hbx
           have hbox2 := (hbz.block _ (lt_of_block hbox5)).trans hbox5
           have gb2 := cell_of hbox2 1
           have fb2 := frozen_of hbox2
           have gv2 : w'.cell? ⟨b + 1, 0, none⟩ = some (.pointer (some ⟨b, 0, none⟩)) := by rw [cell_of ((hbz.block _ (lt_of_block hvar5)).trans hvar5)]; rfl
           dsimp at gb2))
      all_goals
        go_wp2
        go_meet
        have tb : Touch (· = b) w' (w'.setCell ⟨b, 1, none⟩ (.pointer (some ⟨wc.heap.size, 0, none⟩))) := Touch.setCell (Touch.refl _ _) b 1 _ (fun _ => rfl)
        exact ⟨wc.heap.size, heap_set hbox2 _, ClkAt.touch hm tb (fun e => by have : wc.heap.size = b := e; omega), by omega, (Touch.of_below hbz).trans tb⟩
    case rest =>
      obtain ⟨wd, hwd⟩ : ∃ x : World, x = wc := ⟨_, rfl⟩
      subst hwd
      obtain ⟨cb, hbox6, hc6, hcb, ht6⟩ := hcut
      have hLg := ht6.at hLg (by omega)
      have hLv := ht6.at hLv (by omega)
      have hHb := ht6.at hHb (by omega)
      have hHm := ht6.at hHm (by omega)
      have hvar6 := ht6.at hvar5 (by omega)
      have hpar6 := ht6.at hpar5 (by omega)
      have hs6 := ht6.size
      have hlm := hm5.lta
      have hlg := hm5.ltg
      have hm6 := hm5.touch ht6 (by omega) (by omega)
      clear hbox5
      go_upto_region 7 with (fail)
      go_cut [] (fun wr => ∃ ta tg tcap, wr.heap[b]? = some (.cells #[.pointer (some ⟨mb, 0, none⟩), .pointer (some ⟨cb, 0, none⟩), .pointer (some ⟨ta, 0, none⟩), .pointer (some ⟨lb, 0, none⟩), .pointer (some ⟨hl, 0, none⟩), .slice none 0 0] 102 (0, 0)) ∧ TypIs wr ta tg tcap (TypS.new F) ∧ wd.heap.size ≤ ta ∧ ta < tg ∧ Touch (· = b) wd wr)
      case first =>
        have gv : wd.cell? ⟨b + 1, 0, none⟩ = some (.pointer (some ⟨b, 0, none⟩)) := by rw [cell_of hvar6]; rfl
        have gp : wd.cell? ⟨w.heap.size, 0, none⟩ = some (.int .i64 F) := by rw [cell_of hpar6]; rfl
        go_region_law (first
          | (go_simp; (go_at_call 57; (with_reducible refine (typ_new F _ (by omega) (by omega)).mono ?_); rintro e w' ⟨tg, tcap, rfl, hm, htg, hbx⟩)
             have hbz : Below wd.heap.size wd w' := below_undrew hbx
             have hbox2 := (hbz.block _ (lt_of_block hbox6)).trans hbox6
             have gb2 := cell_of hbox2 2
             have fb2 := frozen_of hbox2
             have gv2 : w'.cell? ⟨b + 1, 0, none⟩ = some (.pointer (some ⟨b, 0, none⟩)) := by rw [cell_of ((hbz.block _ (lt_of_block hvar6)).trans hvar6)]; rfl
             have htg2 : wd.heap.size < tg := htg
             dsimp at gb2))
        all_goals
          go_wp2
          go_meet
          have tb : Touch (· = b) w' (w'.setCell ⟨b, 2, none⟩ (.pointer (some ⟨wd.heap.size, 0, none⟩))) := Touch.setCell (Touch.refl _ _) b 2 _ (fun _ => rfl)
          exact ⟨wd.heap.size, tg, tcap, heap_set hbox2 _, hm.touch tb (fun e => by have : wd.heap.size = b := e; omega) (fun e => by have : tg = b := e; omega), by omega, htg2, (Touch.of_below hbz).trans tb⟩
      case rest =>
        obtain ⟨we, hwe⟩ : ∃ x : World, x = wc := ⟨_, rfl⟩
        subst hwe
        obtain ⟨ta, tg, tcap, hbox7, hty7, hta, htt, ht7⟩ := hcut
        have hLg := ht7.at hLg (by omega)
        have hLv := ht7.at hLv (by omega)
        have hHb := ht7.at hHb (by omega)
        have hHm := ht7.at hHm (by omega)
        have hvar7 := ht7.at hvar6 (by omega)
        have hpar7 := ht7.at hpar6 (by omega)
        have hs7 := ht7.size
        have hlc := lt_of_block hc6
        have hm7 := hm6.touch ht7 (by omega) (by omega)
        have hc7 := ClkAt.touch hc6 ht7 (by omega)
        have gp : we.cell? ⟨w.heap.size, 1, none⟩ = some (.int .i64 C) := by rw [cell_of hpar7]; rfl
        clear hbox6
        go_upto_block 0 with (fail)
        have hsz : ∀ (c g : Nat), b < we.heap.size := fun _ _ => by omega
        go_cut [] (fun wr => ∃ (core regs tlb : Nat → Nat) (gc cap : Nat), wr.heap[b]? = some (.cells #[.pointer (some ⟨mb, 0, none⟩), .pointer (some ⟨cb, 0, none⟩), .pointer (some ⟨ta, 0, none⟩), .pointer (some ⟨lb, 0, none⟩), .pointer (some ⟨hl, 0, none⟩), .slice (some ⟨gc, 0, none⟩) C cap] 102 (0, 0)) ∧
          Row wr gc 116 (ptrs core C) ∧ we.heap.size ≤ gc ∧ CoresOk wr we.heap.size core regs tlb C (some gc) r ∧ Touch (· = b) we wr)
        case first =>
          go_wp2
          go_loopw [46] (fun i wr => ∃ (k : Nat) (s : Value) (core regs tlb : Nat → Nat), k ≤ C ∧ i = .int .i64 k ∧ wr.heap[b]? = some (.cells #[.pointer (some ⟨mb, 0, none⟩), .pointer (some ⟨cb, 0, none⟩), .pointer (some ⟨ta, 0, none⟩), .pointer (some ⟨lb, 0, none⟩), .pointer (some ⟨hl, 0, none⟩), s] 102 (0, 0)) ∧
            wr.ownsRow we.heap.size 116 1 s k (ptrs core k) ∧ CoresOk wr we.heap.size core regs tlb k s.ownBlock r ∧ Touch (· = b) we wr) (fun i _ => C - (intOf i).toNat)
          case atStart => exact ⟨0, .slice none 0 0, fun _ => 0, fun _ => 0, fun _ => 0, by omega, rfl, hbox7, World.ownsRow_nil _ _ _ _, ⟨fun j hj => by omega, fun j hj => by omega, fun j hj => by omega, fun j hj => by omega, fun j hj => by omega, fun i j hi => by omega⟩, Touch.refl _ _⟩
          case round =>
            obtain ⟨k, s, core, regs, tlb, hk, rfl, hbx, o1, hco, htw⟩ := hrel
            have hsw := htw.size
            by_cases hlt : k < C
            · have hlt' : (k : Int) < C := by omega
              have hpr := htw.at hpar7 (by omega)
              have hvr := htw.at hvar7 (by omega)
              go_wp2_with ((go_at_call 58; (with_reducible refine (mach_add _ _ b k we.heap.size _ _ _ (.int .i64 0) _ _ _ _ _ s r _ _ hpr ok.r0 ok.r8 hvr hbx o1 (by omega) (by omega) hsw (by omega)).mono ?_); rintro e w' ⟨t, c, g, cap, rfl, hbx2, o2, hg, hc, ht, h1, h2, ⟨rg, hcc, hrr⟩, htt2, hx⟩))
              have htn : Touch (· = b) we w' := htw.trans2 hx (fun i hi hh => by
                rcases hh with hh | hh
                · exact hh
                · have := o1.lt i hh.symm; omega)
              exact ⟨⟨k + 1, .slice (some ⟨g, 0, none⟩) (k + 1) cap, upd core k c, upd regs k rg, upd tlb k t, by omega, by go_num, hbx2, by rw [← ptrs_succ]; exact o2, hco.step (b := b) (by omega) (by omega) hg hc ht h1 h2 hcc htt2 hrr hx, htn⟩, by simp [intOf]; omega⟩
            · obtain rfl : k = C := by omega
              have hfin : ∃ (core regs tlb : Nat → Nat) (gc cap : Nat), wr.heap[b]? = some (.cells #[.pointer (some ⟨mb, 0, none⟩), .pointer (some ⟨cb, 0, none⟩), .pointer (some ⟨ta, 0, none⟩), .pointer (some ⟨lb, 0, none⟩), .pointer (some ⟨hl, 0, none⟩), .slice (some ⟨gc, 0, none⟩) k cap] 102 (0, 0)) ∧
                  Row wr gc 116 (ptrs core k) ∧ we.heap.size ≤ gc ∧ CoresOk wr we.heap.size core regs tlb k (some gc) r ∧ Touch (· = b) we wr := by
                rcases ownsRow_row o1 with ⟨_, h, _⟩ | ⟨g, cp, rfl, l1, _, _, _, R1⟩
                · omega
                · exact ⟨core, regs, tlb, g, cp, hbx, R1, l1, hco, htw⟩
              clear o1 hbx hco
              go_wp2
              go_meet
              exact hfin
        case rest =>
          obtain ⟨core, regs, tlb, gc, cap, hbx, R1, hgc, hco, htw⟩ := hcut
          have hLg := htw.at hLg (by omega)
          have hLv := htw.at hLv (by omega)
          have hHb := htw.at hHb (by omega)
          have hHm := htw.at hHm (by omega)
          have q8 : ∀ x, x < b → x ≠ mg ∧ x ≠ cb ∧ x ≠ tg := fun x hx => by refine ⟨?_, ?_, ?_⟩ <;> omega
          have hvr := htw.at hvar7 (by omega)
          have gvr := cell_of hvr 0
          dsimp at gvr
          have hlt7 := hty7.lta
          have hltg := hty7.ltg
          have hCn : (Clk.new C).n.toNat = C := by simp [Clk.new]
          go_wp2
          go_ret2
          obtain ⟨sp, R2⟩ := R1
          have hbe : Below w.heap.size w wc := by
            have tt : Touch (· = b) wa wc := ((ht5.trans ht6).trans ht7).trans htw
            exact hbwa.trans (tt.below (hbwa.size) (fun i hi e => by have : i = b := e; omega))
          have hm8 := hm7.touch htw (by omega) (by omega)
          have hc8 := ClkAt.touch hc7 htw (by omega)
          have hty8 := hty7.touch htw (by omega) (by omega)
          have q1 : b ≠ mg ∧ b ≠ cb ∧ b ≠ tg := by refine ⟨?_, ?_, ?_⟩ <;> omega
          have q2 : mb ≠ mg ∧ mb ≠ cb ∧ mb ≠ tg := by refine ⟨hm7.ne, ?_, ?_⟩ <;> omega
          have q3 : ta ≠ mg ∧ ta ≠ cb ∧ ta ≠ tg := by refine ⟨?_, ?_, ?_⟩ <;> omega
          have q4 : gc ≠ mg ∧ gc ≠ cb ∧ gc ≠ tg := by refine ⟨?_, ?_, ?_⟩ <;> omega
          have q5 : ∀ x, we.heap.size ≤ x → x ≠ mg ∧ x ≠ cb ∧ x ≠ tg := fun x hx => by refine ⟨?_, ?_, ?_⟩ <;> omega
          have q6 : mg ≠ cb ∧ mg ≠ tg ∧ cb ≠ tg := by refine ⟨?_, ?_, ?_⟩ <;> omega
          have q7 : w.heap.size ≤ mg ∧ w.heap.size ≤ cb ∧ w.heap.size ≤ tg := by (have := hbwa.size; refine ⟨?_, ?_, ?_⟩ <;> omega)
          refine ⟨⟨b, mb, mg, cb, ta, tg, tcap, lb, hl, gc, cap, core, regs, tlb, fun j => tlb j - 1, fun _ => r, fun _ => -1⟩, rfl, ⟨?_, hm8, hc8, hty8, ⟨_, R2, ?_⟩, ?_, ?_, nn q1, nn q2, nn q3, nn q4, ?_, q6.1, q6.2.1, q6.2.2⟩, ?_, hbe, fun _ => rfl, ⟨hLv, hLg, hwlb, nn (q8 _ hlbb), nn (q8 _ (by show lb - 1 < b; omega))⟩, ⟨hHb, hHm⟩, fun k hk => (hco.f k hk).1, hco.inj, fun k hk => by have := (hco.lo k hk).1; have := hbwa.size; show _ ≤ core k; omega⟩
          · show wc.heap[b]? = _
            dsimp only
            rw [hCn]; exact hbx
          · intro k hk
            dsimp only at hk ⊢
            rw [hCn] at hk
            rw [List.getElem?_toArray, List.getElem?_append_left (by rw [ptrs_len]; exact hk)]
            exact ptrs_at core hk
          · intro k hk; dsimp only at hk; rw [hCn] at hk; exact hco.c k hk
          · intro k hk; dsimp only at hk; rw [hCn] at hk; exact hco.t k hk
          · intro k hk; dsimp only at hk; rw [hCn] at hk
            exact ⟨nn (q5 _ (hco.lo k hk).1), nn (q5 _ (hco.lo k hk).2)⟩
          · rintro x (h | h | h)
            · rw [h]; exact q7.1
            · rw [h]; exact q7.2.1
            · rw [h]; exact q7.2.2
theorem mach_newL (F C : Nat) (p r : Int) (w : World) (ok : CfgOk F C p r) : Calls Tryz.prog 6 #[.agg #[.int .i64 F, .int .i64 C, .int .i64 p, .int .i64 r]] w fun e w' => ∃ B : MBl,
    e = .returned (.tuple #[.pointer (some ⟨B.b, 0, none⟩), .int .i64 0]) ∧ MachIs w' B ⟨⟨F, fun _ _ => 0⟩, Clk.new C, TypS.new F⟩ ∧ (∀ x, B.own x → w.heap.size ≤ x) ∧ Below w.heap.size w w' ∧ (∀ k, B.cur k = -1) ∧
    (w'.heap[B.lb]? = some (.cells #[.slice (some ⟨B.lb - 1, 0, none⟩) 64 64] 184 (0, 0)) ∧ w'.heap[B.lb - 1]? = some (.cells (madeCells #[.bool false, .int .i64 0, .bool false, .int .i64 0] 256) 179 (0, 0)) ∧ w.heap.size < B.lb ∧ ¬ B.own B.lb ∧ ¬ B.own (B.lb - 1)) :=
  (mach_newX F C p r w ok).mono fun _ _ ⟨B, h1, h2, h3, h4, h5, h6, _⟩ => ⟨B, h1, h2, h3, h4, h5, h6⟩
theorem mach_new (F C : Nat) (p r : Int) (w : World) (ok : CfgOk F C p r) : Calls Tryz.prog 6 #[.agg #[.int .i64 F, .int .i64 C, .int .i64 p, .int .i64 r]] w fun e w' => ∃ B : MBl,
    e = .returned (.tuple #[.pointer (some ⟨B.b, 0, none⟩), .int .i64 0]) ∧ MachIs w' B ⟨⟨F, fun _ _ => 0⟩, Clk.new C, TypS.new F⟩ ∧ (∀ x, B.own x → w.heap.size ≤ x) ∧ Below w.heap.size w w' ∧ (∀ k, B.cur k = -1) :=
  (mach_newL F C p r w ok).mono fun _ _ ⟨B, h1, h2, h3, h4, h5, _⟩ => ⟨B, h1, h2, h3, h4, h5⟩
end Go.Proofs.YtmahledpcpdldaaGreat
