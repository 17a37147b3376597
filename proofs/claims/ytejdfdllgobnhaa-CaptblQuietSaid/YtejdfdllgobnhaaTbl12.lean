/- Tables of capabilities (package captbl): Freeze. -/
import Derived.Test.YtejdfdllgobnhaaTbl11
set_option linter.unusedVariables false
set_option linter.unusedSimpArgs false
namespace Go.Proofs.Ytejdfdllgobnhaa
open Go.RowKit
def frzOf (m : MemS) (f now : Int) : HeadS := ⟨1, (hdC m f).lv, true, now⟩
def freezeE (m : MemS) (f now : Int) : Int := if timeB now then (if hdE m f = 0 ∧ (hdC m f).k = 1 then (if (hdC m f).fz then 10 else if headOk m f (frzOf m f now) then 0 else 1) else 4) else 1
def MemS.freeze (m : MemS) (f now : Int) : MemS := if timeB now = true ∧ hdE m f = 0 ∧ (hdC m f).k = 1 ∧ (hdC m f).fz = false then m.head f (frzOf m f now) else m
set_option maxHeartbeats 1000000 in
set_option maxRecDepth 100000 in
theorem tbl_freeze (a g : Nat) (m : MemS) (f now : Int) (w : World) (h : MemIs w a g m) (ok : m.Ok) : Calls Try.prog 38 #[.pointer (some ⟨a, 0, none⟩), .int .i64 f, .int .i64 now] w fun e w' =>
    e = .returned (.int .i64 (freezeE m f now)) ∧ MemIs w' a g (m.freeze f now) ∧ Touch (· = g) w w' := by
  have hG := fun w h => head_get a g m f w h ok
  have HP := fun w h => head_put a g m f (frzOf m f now) w h ok
  unfold freezeE MemS.freeze
  unfold frzOf HeadS.v at HP
  dsimp only at HP
  have e1 : headOk m f (frzOf m f now) = headOk m f ⟨1, (hdC m f).lv, true, now⟩ := rfl
  have e2 : m.head f (frzOf m f now) = m.head f ⟨1, (hdC m f).lv, true, now⟩ := rfl
  rw [e1, e2]
  generalize headOk m f ⟨1, (hdC m f).lv, true, now⟩ = pk at *
  generalize m.head f ⟨1, (hdC m f).lv, true, now⟩ = M at *
  clear e1 e2
  generalize hdC m f = C at *
  generalize hdE m f = E at *
  obtain ⟨k, l, fz, tm⟩ := C
  unfold HeadS.v at *
  dsimp only at *
  cases ht : timeB now
  · have HT := Lib.hid ht
    simp only [Bool.false_eq_true, if_false, false_and]
    clear ht
    go_enter Try.func38, Try.ntmps38
    go_wp2_with ((go_at_call 75; (with_reducible refine (tbl_time _ _).mono ?_); rintro e w' ⟨rfl, rfl⟩); rw [HT.out])
    go_ret
    exact ⟨rfl, h, Touch.refl _ _⟩
  have HT := Lib.hid ht
  clear ht
  by_cases hE : E = 0
  · subst hE
    by_cases hk : k = 1
    · subst hk
      cases fz
      · simp only [Bool.false_eq_true, and_self, if_true, if_false]
        generalize (if pk = true then (0 : Int) else 1) = EE at *
        go_enter Try.func38, Try.ntmps38
        go_upto_region 9 with (first
          | ((go_at_call 75; (with_reducible refine (tbl_time _ _).mono ?_); rintro e w' ⟨rfl, rfl⟩); rw [HT.out])
          | ((go_at_call 77; (with_reducible refine (hG _ h).mono ?_); rintro e w' ⟨rfl, hx⟩)))
        have hN : w.heap.size ≤ w'.heap.size := hx.size
        have hw3 := hx.alloc hx.size (.cells #[.int .i64 1, .int .i64 l, .bool false, .int .i64 tm] 113 (0, 0))
        have hC := heap_new w' (.cells #[.int .i64 1, .int .i64 l, .bool false, .int .i64 tm] 113 (0, 0))
        generalize w'.alloc (.cells #[.int .i64 1, .int .i64 l, .bool false, .int .i64 tm] 113 (0, 0)) = w3 at *
        generalize w'.heap.size = N at *
        clear hx
        have s0 := cell_of hC 0; have s1 := cell_of hC 1; have s2 := cell_of hC 2; have s3 := cell_of hC 3; have fr := frozen_of hC
        dsimp at s0 s1 s2 s3
        have hwF := (hw3.setCell (p := ⟨N, 2, none⟩) hN (.bool true)).setCell (p := ⟨N, 3, none⟩) hN (.int .i64 now)
        go_wp2_with ((go_at_call 78; (with_reducible refine (HP _ (h.after hwF)).mono ?_); rintro e w' ⟨rfl, hm, hx⟩))
        go_ret
        exact ⟨rfl, hm, (Touch.of_below hwF).trans hx⟩
      · simp only [and_self, if_true, reduceCtorEq, and_false, if_false]
        go_enter Try.func38, Try.ntmps38
        go_wp2_with (first
          | ((go_at_call 75; (with_reducible refine (tbl_time _ _).mono ?_); rintro e w' ⟨rfl, rfl⟩); rw [HT.out])
          | ((go_at_call 77; (with_reducible refine (hG _ h).mono ?_); rintro e w' ⟨rfl, hx⟩); have hw2 := hx.alloc hx.size (.cells #[.int .i64 1, .int .i64 l, .bool true, .int .i64 tm] 113 (0, 0))))
        go_ret
        exact ⟨rfl, h.after hw2, Touch.of_below hw2⟩
    · have hk2 : (k == 1) = false := by simpa using hk
      simp only [hk, and_false, false_and, if_false, if_true]
      go_enter Try.func38, Try.ntmps38
      go_wp2_with (first
        | ((go_at_call 75; (with_reducible refine (tbl_time _ _).mono ?_); rintro e w' ⟨rfl, rfl⟩); rw [HT.out])
        | ((go_at_call 77; (with_reducible refine (hG _ h).mono ?_); rintro e w' ⟨rfl, hx⟩); have hw2 := hx.alloc hx.size (.cells #[.int .i64 k, .int .i64 l, .bool fz, .int .i64 tm] 113 (0, 0))))
      go_ret
      exact ⟨rfl, h.after hw2, Touch.of_below hw2⟩
  · have hE2 : (E == 0) = false := by simpa using hE
    simp only [hE, false_and, and_false, if_false, if_true]
    go_enter Try.func38, Try.ntmps38
    go_wp2_with (first
      | ((go_at_call 75; (with_reducible refine (tbl_time _ _).mono ?_); rintro e w' ⟨rfl, rfl⟩); rw [HT.out])
      | ((go_at_call 77; (with_reducible refine (hG _ h).mono ?_); rintro e w' ⟨rfl, hx⟩); have hw2 := hx.alloc hx.size (.cells #[.int .i64 k, .int .i64 l, .bool fz, .int .i64 tm] 113 (0, 0))))
    go_ret
    exact ⟨rfl, h.after hw2, Touch.of_below hw2⟩
end Go.Proofs.Ytejdfdllgobnhaa
