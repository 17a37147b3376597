/- Several texts in one: SeenA, SeenP, SeenQ. -/
import Derived.Test.YtmahledpcpdldaaGreatMach5
/- SeenA -/
set_option linter.unusedVariables false
set_option linter.unusedSimpArgs false
namespace Go.Proofs.YtmahledpcpdldaaGreat
open Go.RowKit

theorem mach_cur (B : MBl) (m : Mach) (k : Nat) (w : World) (h : MachIs w B m) (ok : m.Ok) (hk : k < m.clk.n.toNat) : Calls Tryz.prog 14 #[.pointer (some ⟨B.b, 0, none⟩), .int .i64 k] w fun e w' => e = .returned (.int .i64 (B.cur k)) ∧ w = w' := by
  have c1 : w.cell? ⟨B.core k, 2, none⟩ = some (.int .i64 (B.cur k)) := by rw [cell_of (h.core k hk)]; rfl
  go_enter Tryz.func14, Tryz.ntmps14
  go_wp2_with ((go_at_call 105; (with_reducible refine (mach_core _ _ _ _ h ok hk).mono ?_); rintro e w' ⟨rfl, rfl⟩))
  go_ret
  exact ⟨rfl, rfl⟩
theorem mach_cur0 (B : MBl) (m : Mach) (w : World) (h : MachIs w B m) (ok : m.Ok) (hk : 0 < m.clk.n.toNat) : Calls Tryz.prog 14 #[.pointer (some ⟨B.b, 0, none⟩), .int .i64 0] w fun e w' => e = .returned (.int .i64 (B.cur 0)) ∧ w = w' := mach_cur B m 0 w h ok hk
theorem MemS.zero_ok {n : Nat} (h1 : 1 ≤ n) (h64 : n ≤ 64) : (⟨n, fun _ _ => 0⟩ : MemS).Ok := ⟨h1, h64, fun _ _ => Int.le_refl _, fun _ _ => by show (0 : Int) < _; omega⟩
theorem TypS.new_ok {n : Nat} (h1 : 1 ≤ n) (h64 : n ≤ 64) : (TypS.new n).Ok := by
  constructor <;> first | exact h1 | exact h64 | (intro f; simp [TypS.new])
theorem Mach.new_ok {F C : Nat} {p r : Int} (ok : CfgOk F C p r) : (⟨⟨F, fun _ _ => 0⟩, Clk.new C, TypS.new F⟩ : Mach).Ok :=
  ⟨MemS.zero_ok (by have := ok.f1; omega) (by have := ok.f64; omega), Clk.new_ok (by omega) (by have := ok.c4; omega), TypS.new_ok (by have := ok.f1; omega) (by have := ok.f64; omega), ok.c1⟩
theorem cfg11 : CfgOk (1 : Nat) (1 : Nat) 0 0 := by constructor <;> decide
theorem awake25 (w : World) : Calls Tryz.prog 9 #[] w fun e w' => e = .returned (.bool true) ∧ Below w.heap.size w w' := by
  have hn : Calls Tryz.prog 6 #[.agg #[.int .i64 1, .int .i64 1, .int .i64 0, .int .i64 0]] w fun e w' => ∃ B : MBl,
    e = .returned (.tuple #[.pointer (some ⟨B.b, 0, none⟩), .int .i64 0]) ∧ MachIs w' B ⟨⟨1, fun _ _ => 0⟩, Clk.new 1, TypS.new 1⟩ ∧ (∀ x, B.own x → w.heap.size ≤ x) ∧ Below w.heap.size w w' ∧ (∀ k, B.cur k = -1) := mach_new 1 1 0 0 w cfg11
  have okm : (⟨⟨1, fun _ _ => 0⟩, Clk.new 1, TypS.new 1⟩ : Mach).Ok := Mach.new_ok cfg11
  go_enter Tryz.func9, Tryz.ntmps9
  go_wp2_with (first
    | ((go_at_call 6; (with_reducible refine (hn).mono ?_); rintro e w' ⟨B, rfl, hM, hown, hbw, hcur⟩))
    | ((go_at_call 70; (with_reducible refine (mach_cores _ _ _ hM).mono ?_); rintro e w' ⟨rfl, rfl⟩))
    | ((go_at_call 14; (with_reducible refine (mach_cur0 _ _ _ hM okm (by decide)).mono ?_); rintro e w' ⟨rfl, rfl⟩); rw [hcur 0]))
  go_ret
  exact ⟨rfl, hbw⟩
end Go.Proofs.YtmahledpcpdldaaGreat
/- SeenP -/
set_option linter.unusedVariables false
set_option linter.unusedSimpArgs false
namespace Go.Proofs.YtmahledpcpdldaaGreat
open Go.RowKit
set_option linter.unusedSectionVars false

def SM0 (C : Nat) : Mach := ⟨⟨1, fun _ _ => 0⟩, Clk.new C, TypS.new 1⟩
def SM1 (C : Nat) : Mach := { SM0 C with clk := (Clk.new C).step 0 }
def SM2 (C : Nat) (kd : Int) : Mach := (SM1 C).retype 0 kd
def SM3 (C : Nat) (kd x : Int) : Mach := { SM2 C kd with mem := (SM2 C kd).mem.store 0 7 x }
def SM4 (C : Nat) (kd x : Int) (pg : Bool) : Mach := { SM3 C kd x with typ := (SM3 C kd x).typ.untype 0 1 pg }
def SM5 (C : Nat) (kd x : Int) (pg : Bool) : Mach := { SM4 C kd x pg with clk := (SM4 C kd x pg).clk.step 0 }
def SMc (C : Nat) (kd x : Int) (pg : Bool) (c : Clk) : Mach := { SM5 C kd x pg with clk := c }

section
variable {C : Nat} {kd x : Int} {pg : Bool} (h1 : 1 ≤ C) (h4 : C ≤ 4) (hk : kd = 1 ∨ kd = 2)
include h1

theorem can0 : (Clk.new (C : Int)).can 0 = 0 := by unfold Clk.can Clk.new; dsimp only; rw [if_neg (by omega), if_neg (by omega), if_neg (by omega)]
theorem step0 : (Clk.new (C : Int)).step 0 = { Clk.new (C : Int) with now := 1, cy := upd (fun _ => 0) 0 1 } := by
  have := Clk.goes (can0 h1) (by simp [Clk.new])
  rw [this.2]; simp [Clk.new]
theorem sm1_seen : (SM1 C).seen 0 = true := by
  simp [Mach.seen, SM1, SM0, TypS.was, TypS.can, TypS.new, Clk.quiet]
include hk
theorem sm1_tE : (SM1 C).typ.retypeE 0 kd true = 0 := by
  rcases hk with rfl | rfl <;> simp [SM1, SM0, TypS.retypeE, TypS.can, TypS.new]
theorem sm1_E : (SM1 C).retypeE 0 kd = 0 := by
  rw [Mach.retypeE, sm1_seen h1, if_pos (sm1_tE h1 hk)]; simp [SM1, SM0, MemS.can]
theorem sm2_eq : SM2 C kd = ⟨⟨1, upd (fun _ _ => 0) 0 (fun _ => 0)⟩, (Clk.new (C : Int)).step 0, { TypS.new 1 with k := upd (fun _ => 0) 0 kd }⟩ := by
  rw [SM2, Mach.retype, sm1_seen h1, if_pos (sm1_tE h1 hk)]
  have e : (SM1 C).typ.retype 0 kd true = { TypS.new 1 with k := upd (fun _ => 0) 0 kd } := by
    rw [TypS.retype, if_pos (sm1_tE h1 hk)]; simp [SM1, SM0, TypS.new]
  rw [e]
  simp [SM1, SM0, MemS.clear, MemS.can]
end
end Go.Proofs.YtmahledpcpdldaaGreat
/- SeenQ -/
set_option linter.unusedVariables false
set_option linter.unusedSimpArgs false
namespace Go.Proofs.YtmahledpcpdldaaGreat
open Go.RowKit

theorem MemS.store_okq {m : MemS} (ok : m.Ok) (f a : Int) {x : Int} (h0 : 0 ≤ x) (h1 : x < 18446744073709551616) : (m.store f a x).Ok := by
  unfold MemS.store
  split
  · refine ⟨ok.n1, ok.n64, fun g o => ?_, fun g o => ?_⟩
    · show 0 ≤ upd m.w f.toNat (upd (m.w f.toNat) a.toNat x) g o
      have := ok.lo g o; have := ok.lo f.toNat o
      unfold upd; split
      · dsimp only; split <;> omega
      · omega
    · show upd m.w f.toNat (upd (m.w f.toNat) a.toNat x) g o < _
      have := ok.hi g o; have := ok.hi f.toNat o
      unfold upd; split
      · dsimp only; split <;> omega
      · omega
  · exact ok
theorem MemS.clear_ok {m : MemS} (ok : m.Ok) (f : Int) : (m.clear f).Ok := by
  unfold MemS.clear
  split
  · refine ⟨ok.n1, ok.n64, fun g o => ?_, fun g o => ?_⟩
    · show 0 ≤ upd m.w f.toNat (fun _ => 0) g o
      have := ok.lo g o; unfold upd; split <;> (try dsimp only) <;> omega
    · show upd m.w f.toNat (fun _ => 0) g o < _
      have := ok.hi g o; unfold upd; split <;> (try dsimp only) <;> omega
  · exact ok
theorem TypS.retype_ok {t : TypS} (ok : t.Ok) (f kd : Int) (q : Bool) : (t.retype f kd q).Ok := by
  unfold TypS.retype
  split
  · rename_i h
    have hk : kd = 1 ∨ kd = 2 := by
      unfold TypS.retypeE at h
      split at h
      · omega
      · split at h
        · omega
        · rename_i h2; rcases Decidable.em (kd = 1) with h3 | h3
          · exact .inl h3
          · rcases Decidable.em (kd = 2) with h4 | h4
            · exact .inr h4
            · exact absurd ⟨h3, h4⟩ h2
    refine ⟨ok.n1, ok.n64, fun g => ?_, fun g => ?_, ok.c0, ok.c1, ok.f0, ok.f1, ok.w0, ok.w3⟩
    · show 0 ≤ upd t.k f.toNat kd g
      have := ok.k0 g; unfold upd; split <;> omega
    · show upd t.k f.toNat kd g ≤ 2
      have := ok.k2 g; unfold upd; split <;> omega
  · exact ok
theorem TypS.untype_ok {t : TypS} (ok : t.Ok) (f : Int) {now : Int} (pg : Bool) (h : now ≤ 1073741824) : (t.untype f now pg).Ok := by
  unfold TypS.untype
  split
  · refine ⟨ok.n1, ok.n64, fun g => ?_, fun g => ?_, ok.c0, ok.c1, fun g => ?_, fun g => ?_, fun g => ?_, fun g => ?_⟩
    · show 0 ≤ upd t.k f.toNat 0 g
      have := ok.k0 g; unfold upd; split <;> omega
    · show upd t.k f.toNat 0 g ≤ 2
      have := ok.k2 g; unfold upd; split <;> omega
    · show -1 ≤ upd t.fr f.toNat (max (t.fr f.toNat) now) g
      have := ok.f0 g; have := ok.f0 f.toNat; unfold upd; split <;> omega
    · show upd t.fr f.toNat (max (t.fr f.toNat) now) g ≤ _
      have := ok.f1 g; have := ok.f1 f.toNat; unfold upd; split <;> omega
    · show 0 ≤ upd t.wa f.toNat (if pg = true ∧ t.k f.toNat = 2 then 3 else t.k f.toNat) g
      have := ok.w0 g; have := ok.k0 f.toNat; unfold upd; split
      · split <;> omega
      · omega
    · show upd t.wa f.toNat (if pg = true ∧ t.k f.toNat = 2 then 3 else t.k f.toNat) g ≤ 3
      have := ok.w3 g; have := ok.k2 f.toNat; unfold upd; split
      · split <;> omega
      · omega
  · exact ok
theorem Mach.retype_ok {m : Mach} (ok : m.Ok) (f kd : Int) : (m.retype f kd).Ok := by
  unfold Mach.retype
  split
  · exact ⟨MemS.clear_ok ok.mem f, ok.clk, TypS.retype_ok ok.typ f kd _, ok.n1⟩
  · exact ok
theorem Mach.clk_ok {m : Mach} (ok : m.Ok) {c : Clk} (hc : c.Ok) (hn : c.n = m.clk.n) : ({ m with clk := c } : Mach).Ok := ⟨ok.mem, hc, ok.typ, by show 1 ≤ c.n; rw [hn]; exact ok.n1⟩
theorem Mach.mem_ok {m : Mach} (ok : m.Ok) {c : MemS} (hc : c.Ok) : ({ m with mem := c } : Mach).Ok := ⟨hc, ok.clk, ok.typ, ok.n1⟩
theorem Mach.typ_ok {m : Mach} (ok : m.Ok) {c : TypS} (hc : c.Ok) : ({ m with typ := c } : Mach).Ok := ⟨ok.mem, ok.clk, hc, ok.n1⟩

/-- The clock in the law's loop. -/
structure CkIs (C : Nat) (E F : Nat → Bool) (c : Clk) : Prop where
  n : c.n = C
  now : c.now = 2
  ok : c.Ok
  en : ∀ j, j < C → c.en j = if E j then 2 else -1
  fl : ∀ j, j < C → c.fl j = if F j then 2 else -1

theorem CkIs.enter {C : Nat} {E F : Nat → Bool} {c : Clk} (h : CkIs C E F c) {k : Nat} (hk : k < C) : CkIs C (upd E k true) F (c.enter k) := by
  have hc : c.can k = 0 := Clk.can_k (by rw [h.n]; omega) k (by rw [h.n]; omega)
  refine ⟨by rw [Clk.enter_n]; exact h.n, by rw [(Clk.yes hc).1]; exact h.now, Clk.enter_ok h.ok _, fun j hj => ?_, fun j hj => ?_⟩
  · rw [(Clk.yes hc).1]; show upd c.en (k : Int).toNat c.now j = _
    have e : (k : Int).toNat = k := by omega
    rw [e, h.now]; unfold upd; split
    · rfl
    · exact h.en j hj
  · rw [(Clk.yes hc).1]; exact h.fl j hj
theorem CkIs.flush {C : Nat} {E F : Nat → Bool} {c : Clk} (h : CkIs C E F c) {k : Nat} (hk : k < C) : CkIs C E (upd F k true) (c.flush k) := by
  have hc : c.can k = 0 := Clk.can_k (by rw [h.n]; omega) k (by rw [h.n]; omega)
  refine ⟨by rw [Clk.flush_n]; exact h.n, by rw [(Clk.yes hc).2.1]; exact h.now, Clk.flush_ok h.ok _, fun j hj => ?_, fun j hj => ?_⟩
  · rw [(Clk.yes hc).2.1]; exact h.en j hj
  · rw [(Clk.yes hc).2.1]; show upd c.fl (k : Int).toNat c.now j = _
    have e : (k : Int).toNat = k := by omega
    rw [e, h.now]; unfold upd; split
    · rfl
    · exact h.fl j hj

def allTo (E : Nat → Bool) : Nat → Bool
  | 0 => true
  | n + 1 => allTo E n && E n
theorem allTo_true {E : Nat → Bool} : ∀ {n : Nat}, allTo E n = true → ∀ j, j < n → E j = true
  | 0, _, j, hj => by omega
  | n + 1, h, j, hj => by
    unfold allTo at h; simp only [Bool.and_eq_true] at h
    rcases Nat.lt_or_ge j n with h1 | h1
    · exact allTo_true h.1 j h1
    · obtain rfl : j = n := by omega
      exact h.2
theorem allTo_false {E : Nat → Bool} : ∀ {n : Nat}, allTo E n = false → ∃ j, j < n ∧ E j = false
  | 0, h => by cases h
  | n + 1, h => by
    unfold allTo at h; simp only [Bool.and_eq_false_iff] at h
    rcases h with h | h
    · obtain ⟨j, hj, he⟩ := allTo_false h; exact ⟨j, by omega, he⟩
    · exact ⟨n, by omega, h⟩
theorem CkIs.kern {C : Nat} {E F : Nat → Bool} {c : Clk} (h : CkIs C E F c) (h1 : 1 ≤ C) : c.kern 1 = allTo E C := by
  cases hE : allTo E C with
  | true => exact Clk.kern_true (by rw [h.n]; omega) (fun j hj => by rw [h.n] at hj; rw [h.en j (by omega), allTo_true hE j (by omega)]; decide)
  | false =>
    obtain ⟨j, hj, he⟩ := allTo_false hE
    exact Clk.kern_false (j := j) (by rw [h.n]; omega) (by rw [h.en j hj, he]; decide)
theorem CkIs.user {C : Nat} {E F : Nat → Bool} {c : Clk} (h : CkIs C E F c) (h1 : 1 ≤ C) : c.user 1 = allTo F C := by
  cases hE : allTo F C with
  | true => exact Clk.user_true (by rw [h.n]; omega) (fun j hj => by rw [h.n] at hj; rw [h.fl j (by omega), allTo_true hE j (by omega)]; decide)
  | false =>
    obtain ⟨j, hj, he⟩ := allTo_false hE
    exact Clk.user_false (j := j) (by rw [h.n]; omega) (by rw [h.fl j hj, he]; decide)

def kdOf (user : Bool) : Int := if user then 1 else 2
theorem kdOf_or (user : Bool) : kdOf user = 1 ∨ kdOf user = 2 := by cases user <;> simp [kdOf]

section
variable {C : Nat} {kd x : Int} {pg : Bool}
theorem sm0_ok (h1 : 1 ≤ C) (h4 : C ≤ 4) : (SM0 C).Ok := ⟨MemS.zero_ok (by omega) (by omega), Clk.new_ok (by omega) (by omega), TypS.new_ok (by omega) (by omega), by show 1 ≤ (C : Int); omega⟩
theorem sm1_ok (h1 : 1 ≤ C) (h4 : C ≤ 4) : (SM1 C).Ok := Mach.clk_ok (sm0_ok h1 h4) (Clk.step_ok (sm0_ok h1 h4).clk 0) (Clk.step_n _ _)
theorem sm2_ok (h1 : 1 ≤ C) (h4 : C ≤ 4) : (SM2 C kd).Ok := Mach.retype_ok (sm1_ok h1 h4) _ _
theorem sm3_ok (h1 : 1 ≤ C) (h4 : C ≤ 4) (hx0 : 0 ≤ x) (hx1 : x < 18446744073709551616) : (SM3 C kd x).Ok := Mach.mem_ok (sm2_ok h1 h4) (MemS.store_okq (sm2_ok h1 h4).mem _ _ hx0 hx1)
theorem sm4_ok (h1 : 1 ≤ C) (h4 : C ≤ 4) (hx0 : 0 ≤ x) (hx1 : x < 18446744073709551616) : (SM4 C kd x pg).Ok := Mach.typ_ok (sm3_ok h1 h4 hx0 hx1) (TypS.untype_ok (sm3_ok h1 h4 hx0 hx1).typ _ _ (by decide))
theorem sm5_ok (h1 : 1 ≤ C) (h4 : C ≤ 4) (hx0 : 0 ≤ x) (hx1 : x < 18446744073709551616) : (SM5 C kd x pg).Ok := Mach.clk_ok (sm4_ok h1 h4 hx0 hx1) (Clk.step_ok (sm4_ok h1 h4 hx0 hx1).clk 0) (Clk.step_n _ _)
theorem smc_ok (h1 : 1 ≤ C) (h4 : C ≤ 4) (hx0 : 0 ≤ x) (hx1 : x < 18446744073709551616) {c : Clk} (hc : c.Ok) (hn : c.n = C) : (SMc C kd x pg c).Ok :=
  ⟨(sm5_ok (pg := pg) h1 h4 hx0 hx1).mem, hc, (sm5_ok h1 h4 hx0 hx1).typ, by show 1 ≤ c.n; rw [hn]; omega⟩

theorem sm2_can (h1 : 1 ≤ C) (hk : kd = 1 ∨ kd = 2) : (SM2 C kd).mem.can 0 7 = 0 := by rw [sm2_eq h1 hk]; rfl
theorem sm3_eq (h1 : 1 ≤ C) (hk : kd = 1 ∨ kd = 2) : SM3 C kd x = ⟨⟨1, upd (upd (fun _ _ => 0) 0 (fun _ => 0)) 0 (upd (upd (fun _ _ => 0) 0 (fun _ => 0) 0) 7 x)⟩, { Clk.new (C : Int) with now := 1, cy := upd (fun _ => 0) 0 1 }, { TypS.new 1 with k := upd (fun _ => 0) 0 kd }⟩ := by
  rw [SM3, MemS.store, if_pos (sm2_can h1 hk), sm2_eq h1 hk, step0 h1]; rfl
theorem sm3_now (h1 : 1 ≤ C) (hk : kd = 1 ∨ kd = 2) : (SM3 C kd x).clk.nowOf = 1 := by
  rw [sm3_eq h1 hk, Clk.nowOf]; exact if_neg (by show ¬ (C : Int) = 0; omega)
theorem sm3_unt (h1 : 1 ≤ C) (hk : kd = 1 ∨ kd = 2) : (SM3 C kd x).typ.untypeE 0 = 0 := by
  rw [sm3_eq h1 hk]; rcases hk with rfl | rfl <;> simp [TypS.untypeE, TypS.can, TypS.new, upd]
theorem sm4_eq (h1 : 1 ≤ C) (hk : kd = 1 ∨ kd = 2) : SM4 C kd x pg = ⟨(SM3 C kd x).mem, { Clk.new (C : Int) with now := 1, cy := upd (fun _ => 0) 0 1 }, { TypS.new 1 with k := upd (upd (fun _ => 0) 0 kd) 0 0, wa := upd (fun _ => 0) 0 (if pg = true ∧ kd = 2 then 3 else kd), fr := upd (fun _ => -1) 0 1 }⟩ := by
  rw [SM4, TypS.untype, if_pos (sm3_unt h1 hk), sm3_eq h1 hk]; rfl
theorem sm5_ck (h1 : 1 ≤ C) (h4 : C ≤ 4) (hk : kd = 1 ∨ kd = 2) (hx0 : 0 ≤ x) (hx1 : x < 18446744073709551616) : CkIs C (fun _ => false) (fun _ => false) (SM5 C kd x pg).clk := by
  have hc : (SM4 C kd x pg).clk.can 0 = 0 := by rw [sm4_eq h1 hk]; unfold Clk.can Clk.new; dsimp only; rw [if_neg (by omega), if_neg (by omega), if_neg (by omega)]
  have hg := Clk.goes hc (by rw [sm4_eq h1 hk]; show ¬ (1073741824 : Int) ≤ 1; decide)
  refine ⟨?_, ?_, (sm5_ok h1 h4 hx0 hx1).clk, ?_, ?_⟩
  · show ((SM4 C kd x pg).clk.step 0).n = _; rw [Clk.step_n, sm4_eq h1 hk]; rfl
  · show ((SM4 C kd x pg).clk.step 0).now = _; rw [hg.2, sm4_eq h1 hk]; rfl
  · intro j hj; show ((SM4 C kd x pg).clk.step 0).en j = _; rw [hg.2, sm4_eq h1 hk]; rfl
  · intro j hj; show ((SM4 C kd x pg).clk.step 0).fl j = _; rw [hg.2, sm4_eq h1 hk]; rfl
/-- What the law needs. -/
def needOf (user pg all each : Bool) : Bool := user && each || !user && all && (each || !pg)
theorem smc_seen {user : Bool} {c : Clk} {E F : Nat → Bool} (h1 : 1 ≤ C) (hc : CkIs C E F c) : (SMc C (kdOf user) x pg c).seen 0 = needOf user pg (allTo E C) (allTo F C) := by
  have hw : (SMc C (kdOf user) x pg c).typ = (SM4 C (kdOf user) x pg).typ := rfl
  rw [Mach.seen, hw, sm4_eq h1 (kdOf_or user)]
  show c.quiet (TypS.was _ _) (TypS.freed _ _) = _
  have hz : ∀ t : TypS, t.n = 1 → t.can 0 = 0 := fun t ht => by unfold TypS.can; rw [ht]; rfl
  rw [TypS.was, TypS.freed, if_pos (hz _ rfl), if_pos (hz _ rfl)]
  show c.quiet (if pg = true ∧ kdOf user = 2 then 3 else kdOf user) 1 = _
  cases user <;> cases pg <;> simp [kdOf, Clk.quiet, needOf, hc.kern h1, hc.user h1, Bool.and_comm]
theorem smc_E {user : Bool} {c : Clk} {E F : Nat → Bool} (h1 : 1 ≤ C) (hc : CkIs C E F c) : (SMc C (kdOf user) x pg c).retypeE 0 (kdOf user) = if needOf user pg (allTo E C) (allTo F C) then 0 else 6 := by
  have ht : (SMc C (kdOf user) x pg c).typ.retypeE 0 (kdOf user) (needOf user pg (allTo E C) (allTo F C)) = if needOf user pg (allTo E C) (allTo F C) then 0 else 6 := by
    have hw : (SMc C (kdOf user) x pg c).typ = (SM4 C (kdOf user) x pg).typ := rfl
    rw [hw, sm4_eq h1 (kdOf_or user)]
    have hz : ∀ t : TypS, t.n = 1 → t.can 0 = 0 := fun t ht => by unfold TypS.can; rw [ht]; rfl
    rw [TypS.retypeE, hz _ rfl, if_neg (by decide), if_neg (by cases user <;> decide), if_neg (by simp [upd])]
  rw [Mach.retypeE, smc_seen h1 hc, ht]
  split
  · rw [if_pos rfl]; have hw : (SMc C (kdOf user) x pg c).mem = (SM3 C (kdOf user) x).mem := rfl
    rw [hw, sm3_eq h1 (kdOf_or user)]; rfl
  · rw [if_neg (by decide)]
theorem smc_load {user : Bool} {c : Clk} {E F : Nat → Bool} (h1 : 1 ≤ C) (hc : CkIs C E F c) : ((SMc C (kdOf user) x pg c).retype 0 (kdOf user)).mem.load 0 7 = if needOf user pg (allTo E C) (allTo F C) then 0 else x := by
  have ht : (SMc C (kdOf user) x pg c).typ.retypeE 0 (kdOf user) (needOf user pg (allTo E C) (allTo F C)) = if needOf user pg (allTo E C) (allTo F C) then 0 else 6 := by
    have hw : (SMc C (kdOf user) x pg c).typ = (SM4 C (kdOf user) x pg).typ := rfl
    rw [hw, sm4_eq h1 (kdOf_or user)]
    have hz : ∀ t : TypS, t.n = 1 → t.can 0 = 0 := fun t ht => by unfold TypS.can; rw [ht]; rfl
    rw [TypS.retypeE, hz _ rfl, if_neg (by decide), if_neg (by cases user <;> decide), if_neg (by simp [upd])]
  rw [Mach.retype, smc_seen h1 hc, ht]
  have hw : (SMc C (kdOf user) x pg c).mem = (SM3 C (kdOf user) x).mem := rfl
  split
  · rw [if_pos rfl]; show ((SMc C (kdOf user) x pg c).mem.clear 0).load 0 7 = 0
    rw [hw, sm3_eq h1 (kdOf_or user)]; rfl
  · rw [if_neg (by decide)]; rw [hw, sm3_eq h1 (kdOf_or user)]; rfl
theorem smc_can {user : Bool} {c : Clk} (h1 : 1 ≤ C) : ((SMc C (kdOf user) x pg c).retype 0 (kdOf user)).mem.can 0 7 = 0 := by
  have hw : (SMc C (kdOf user) x pg c).mem = (SM3 C (kdOf user) x).mem := rfl
  rw [Mach.retype]
  split
  · show ((SMc C (kdOf user) x pg c).mem.clear 0).can 0 7 = 0
    rw [hw, sm3_eq h1 (kdOf_or user)]; rfl
  · rw [hw, sm3_eq h1 (kdOf_or user)]; rfl
end
end Go.Proofs.YtmahledpcpdldaaGreat
