/- palanquinlaw13: awake. -/
import Derived.Test.YtejdfdllgobnhaaGreatGTab
set_option linter.unusedVariables false
set_option linter.unusedSimpArgs false
namespace Go.Proofs.YtejdfdllgobnhaaGreat
open Go.RowKit
theorem ok0 {n : Nat} (h1 : 1 ≤ n) (h2 : n ≤ 64) : MemS.Ok ⟨n, fun _ _ => 0⟩ := ⟨h1, h2, fun _ _ => Int.le_refl _, fun _ _ => by show (0 : Int) < _; omega⟩
theorem keepB {w w1 w2 : World} {g : Nat} (hb : Below w.heap.size w w1) (hg : w.heap.size ≤ g) (ht : Touch (· = g) w1 w2) : Below w.heap.size w w2 :=
  hb.trans (ht.below hb.size (fun k hk e => by have : k = g := e; omega))
set_option maxHeartbeats 1000000 in
theorem looked13 (a g : Nat) (m : MemS) (w : World) (h : MemIs w a g m) (ok : m.Ok) : Calls Tryz.prog 67 #[.pointer (some ⟨a, 0, none⟩)] w fun e w' =>
    e = .returned (.bool (decide (lookE m 0 5 = 0) && decide ((lookC m 0 5).k = 11))) ∧ Below w.heap.size w w' := by
  have LK := tbl_Look a g m 0 5 w h ok
  generalize lookC m 0 5 = C at *
  generalize lookE m 0 5 = E at *
  obtain ⟨k, r, t, l, ep, ca⟩ := C
  unfold CapS.v at *
  dsimp only at *
  by_cases hE : E = 0
  · subst hE
    go_enter Tryz.func67, Tryz.ntmps67
    go_wp2_with ((go_at_call 61; (with_reducible refine (LK).mono ?_); rintro e w' ⟨rfl, hx⟩); have hw2 := hx.alloc hx.size (.cells #[.int .i64 k, .int .i64 r, .int .i64 t, .int .i64 l, .int .i64 ep, .int .i64 ca] 32 (0, 0)))
    go_ret
    exact ⟨ret_bool (by simp; rfl), hw2⟩
  · have hE2 : (E == 0) = false := by simpa using hE
    go_enter Tryz.func67, Tryz.ntmps67
    go_wp2_with ((go_at_call 61; (with_reducible refine (LK).mono ?_); rintro e w' ⟨rfl, hx⟩); have hw2 := hx.alloc hx.size (.cells #[.int .i64 k, .int .i64 r, .int .i64 t, .int .i64 l, .int .i64 ep, .int .i64 ca] 32 (0, 0)))
    go_ret
    exact ⟨ret_bool (by simp [hE]), hw2⟩
def M2 (n : Nat) : MemS := ((⟨n, fun _ _ => 0⟩ : MemS).make 0 ⟨1, 0, false, 0⟩).make 1 ⟨1, 1, false, 0⟩
theorem M2_tab {n : Nat} (h1 : 2 ≤ n) (h2 : n ≤ 64) : Tab (M2 n) false 0 zeroR zeroR :=
  Tab.new (ok0 (by omega) h2) (inB_iff.2 ⟨by omega, by show (0 : Int) < n; omega⟩) (inB_iff.2 ⟨by omega, by show (1 : Int) < n; omega⟩)
theorem make0 {n : Nat} (h1 : 2 ≤ n) (h2 : n ≤ 64) (a g : Nat) (w : World) (h : MemIs w a g ⟨n, fun _ _ => 0⟩) : Calls Tryz.prog 29 #[.pointer (some ⟨a, 0, none⟩), .int .i64 0, .int .i64 0] w fun e w' =>
    e = .returned (.int .i64 0) ∧ MemIs w' a g ((⟨n, fun _ _ => 0⟩ : MemS).make 0 ⟨1, 0, false, 0⟩) ∧ Touch (· = g) w w' := by
  have := tbl_make a g _ 0 0 w h (ok0 (by omega) h2)
  rw [if_pos (headOk0 (inB_iff.2 ⟨by omega, by show (0 : Int) < n; omega⟩))] at this
  exact this
theorem make1 {n : Nat} (h1 : 2 ≤ n) (h2 : n ≤ 64) (a g : Nat) (w : World) (h : MemIs w a g ((⟨n, fun _ _ => 0⟩ : MemS).make 0 ⟨1, 0, false, 0⟩)) : Calls Tryz.prog 29 #[.pointer (some ⟨a, 0, none⟩), .int .i64 1, .int .i64 1] w fun e w' =>
    e = .returned (.int .i64 0) ∧ MemIs w' a g (M2 n) ∧ Touch (· = g) w w' := by
  have := tbl_make a g _ 1 1 w h (MemS.make_ok (ok0 (by omega) h2) _ _)
  rw [if_pos (headOk1 (by unfold MemS.has; rw [make_n]; exact inB_iff.2 ⟨by omega, by show (1 : Int) < n; omega⟩))] at this
  exact this
theorem cons_at {n : Nat} (h1 : 2 ≤ n) (h2 : n ≤ 64) {hi : Int} (i0 : 0 ≤ hi) (i1 : hi < 16) (a g : Nat) (w : World) (h : MemIs w a g (M2 n)) : Calls Tryz.prog 31 #[.pointer (some ⟨a, 0, none⟩), .int .i64 0, .int .i64 hi, .int .i64 1, .int .i64 0] w fun e w' =>
    e = .returned (.int .i64 0) ∧ MemIs w' a g ((M2 n).cons 0 hi 1 0) ∧ Touch (· = g) w w' := by
  have T := M2_tab h1 h2
  have := tbl_cons a g _ 0 hi 1 0 w h T.ok
  rw [(T.cons i0 i1 rfl 0).1] at this
  exact this
def chw : CapS := ⟨11, 0, 0, 0, 0, 0⟩
set_option maxHeartbeats 1000000 in
set_option maxRecDepth 100000 in
theorem awake13 (w : World) : Calls Tryz.prog 12 #[] w fun e w' => e = .returned (.bool true) ∧ Below w.heap.size w w' := by
  have T2 := M2_tab (n := 2) (by omega) (by omega)
  have T3 := (T2.cons (hi := 0) (by omega) (by omega) rfl 0).2
  have P := T3.put (a := 5) (by omega) (by omega) rfl chw 0
  have pe : tputE ((M2 2).cons 0 0 1 0) 0 5 chw 0 = 0 := P.1.trans (by kernel_rfl)
  obtain ⟨-, -, T4⟩ := P.2.1 pe
  have PT : ∀ a g w, MemIs w a g ((M2 2).cons 0 0 1 0) → Calls Tryz.prog 32 #[.pointer (some ⟨a, 0, none⟩), .int .i64 0, .int .i64 5, chw.v, .int .i64 0] w fun e w' => e = .returned (.int .i64 0) ∧ MemIs w' a g (((M2 2).cons 0 0 1 0).tput 0 5 chw 0) ∧ Touch (· = g) w w' := fun a g w h => by
    have := tbl_put a g _ 0 5 0 chw w h T3.ok
    rw [pe] at this; exact this
  have LK := T4.look (a := 5) (by omega) (by omega) rfl
  have l0 : lookE (((M2 2).cons 0 0 1 0).tput 0 5 chw 0) 0 5 = 0 := LK.1.trans rfl
  have l1 : lookC (((M2 2).cons 0 0 1 0).tput 0 5 chw 0) 0 5 = chw := (LK.2 (by decide)).1
  have LD : ∀ a g w, MemIs w a g (((M2 2).cons 0 0 1 0).tput 0 5 chw 0) → Calls Tryz.prog 67 #[.pointer (some ⟨a, 0, none⟩)] w fun e w' => e = .returned (.bool true) ∧ Below w.heap.size w w' := fun a g w h => by
    have := looked13 a g _ w h T4.ok
    rw [l0, l1] at this; exact this
  have MK0 := make0 (n := 2) (by omega) (by omega)
  have MK1 := make1 (n := 2) (by omega) (by omega)
  have CN := cons_at (n := 2) (by omega) (by omega) (hi := 0) (by omega) (by omega)
  have NW := mem_new 2 w (by omega) (by omega)
  change Calls _ _ #[.int .i64 2] _ _ at NW
  clear T2 T3 P pe T4 LK l0 l1
  generalize ((M2 2).cons 0 0 1 0).tput 0 5 chw 0 = m4 at *
  unfold chw CapS.v at PT
  dsimp only at PT
  generalize (M2 2).cons 0 0 1 0 = m3 at *
  generalize M2 2 = m2 at *
  generalize (⟨2, fun _ _ => 0⟩ : MemS).make 0 ⟨1, 0, false, 0⟩ = m1 at *
  generalize (⟨2, fun _ _ => 0⟩ : MemS) = m0 at *
  go_enter Tryz.func12, Tryz.ntmps12
  go_wp2_with (first
    | ((go_at_call 51; (with_reducible refine (NW).mono ?_); rintro e w' ⟨rfl, hM, hb⟩))
    | ((go_at_call 29; (with_reducible refine (MK0 _ _ _ hM).mono ?_); rintro e w' ⟨rfl, hM, ht⟩); have hb := keepB hb (Nat.le_refl _) ht)
    | ((go_at_call 29; (with_reducible refine (MK1 _ _ _ hM).mono ?_); rintro e w' ⟨rfl, hM, ht⟩); have hb := keepB hb (Nat.le_refl _) ht)
    | ((go_at_call 31; (with_reducible refine (CN _ _ _ hM).mono ?_); rintro e w' ⟨rfl, hM, ht⟩); have hb := keepB hb (Nat.le_refl _) ht)
    | ((go_at_call 32; (with_reducible refine (PT _ _ _ hM).mono ?_); rintro e w' ⟨rfl, hM, ht⟩); have hb := keepB hb (Nat.le_refl _) ht)
    | ((go_at_call 67; (with_reducible refine (LD _ _ _ hM).mono ?_); rintro e w' ⟨rfl, hx⟩)))
  go_ret
  exact ⟨rfl, hb.trans (hx.mono hb.size)⟩
end Go.Proofs.YtejdfdllgobnhaaGreat
