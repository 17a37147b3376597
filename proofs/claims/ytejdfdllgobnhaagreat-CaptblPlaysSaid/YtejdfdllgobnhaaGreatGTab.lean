/- Several texts in one: Tab, Tab2. -/
import Derived.Test.YtejdfdllgobnhaaGreatGTbc
/- Tab -/
set_option linter.unusedVariables false
set_option linter.unusedSimpArgs false
namespace Go.Proofs.YtejdfdllgobnhaaGreat
open Go.RowKit

theorem upd_at' {α : Type} (f : Nat → α) (k : Nat) (v : α) (i : Nat) : upd f k v i = if i = k then v else f i := rfl
theorem wd_store {m : MemS} {f a : Int} (x : Int) (hf : m.has f = true) (a0 : 0 ≤ a) (a1 : a < 36) {f' b : Int} (f0 : 0 ≤ f') (b0 : 0 ≤ b) :
    (m.store f a x).wd f' b = if f' = f ∧ b = a then x else m.wd f' b := by
  obtain ⟨g0, _⟩ := inB_iff.1 hf
  unfold MemS.store
  rw [if_pos (MemS.can_in hf a0 a1)]
  show upd m.w f.toNat (upd (m.w f.toNat) a.toNat x) f'.toNat b.toNat = _
  rw [upd_at']
  by_cases e : f' = f
  · subst e
    rw [if_pos rfl, upd_at']
    by_cases e2 : b = a
    · subst e2; rw [if_pos rfl, if_pos ⟨rfl, rfl⟩]
    · rw [if_neg (by omega), if_neg (fun h => e2 h.2)]; rfl
  · rw [if_neg (by omega), if_neg (fun h => e h.1)]; rfl
theorem wd_clear {m : MemS} {f : Int} (hf : m.has f = true) {f' b : Int} (f0 : 0 ≤ f') : (m.clear f).wd f' b = if f' = f then 0 else m.wd f' b := by
  obtain ⟨g0, _⟩ := inB_iff.1 hf
  unfold MemS.clear
  rw [if_pos (MemS.can_in hf (by omega) (by omega))]
  show upd m.w f.toNat (fun _ => 0) f'.toNat b.toNat = _
  rw [upd_at']
  by_cases e : f' = f
  · subst e; rw [if_pos rfl, if_pos rfl]
  · rw [if_neg (by omega), if_neg e]; rfl
theorem has_store' (m : MemS) (f a x f' : Int) : (m.store f a x).has f' = m.has f' := by unfold MemS.has; rw [MemS.store_n]
theorem slot_n (m : MemS) (f i : Int) (c : CapS) : (m.slot f i c).n = m.n := by unfold MemS.slot; split <;> simp only [MemS.store_n]
theorem head_n (m : MemS) (f : Int) (h : HeadS) : (m.head f h).n = m.n := by unfold MemS.head; split <;> simp only [MemS.hk_n]
theorem make_n (m : MemS) (f : Int) (h : HeadS) : (m.make f h).n = m.n := by unfold MemS.make; split <;> simp only [head_n, MemS.clear_n]
theorem wd_slot {m : MemS} {f i : Int} {c : CapS} (h : putOk m f i c = true) {f' b : Int} (f0 : 0 ≤ f') (b0 : 0 ≤ b) :
    (m.slot f i c).wd f' b = if f' = f ∧ b = 4 + 2 * i then c.w1 else if f' = f ∧ b = 4 + 2 * i + 1 then c.a else m.wd f' b := by
  have h' := h
  unfold putOk at h'
  simp only [Bool.and_eq_true] at h'
  obtain ⟨⟨hi, hr⟩, hf⟩ := h'
  obtain ⟨i0, i1⟩ := inB_iff.1 hi
  unfold MemS.slot
  rw [if_pos h, wd_store c.a ((has_store' _ _ _ _ _).trans hf) (by omega) (by omega) f0 b0, wd_store c.w1 hf (by omega) (by omega) f0 b0]
  by_cases e : f' = f ∧ b = 4 + 2 * i
  · have e2 : ¬ (f' = f ∧ b = 4 + 2 * i + 1) := by omega
    rw [if_neg e2, if_pos e, if_pos e]
  · by_cases e2 : f' = f ∧ b = 4 + 2 * i + 1
    · rw [if_pos e2, if_neg e, if_pos e2]
    · rw [if_neg e2, if_neg e, if_neg e, if_neg e2]
theorem wd_head {m : MemS} {f : Int} {h : HeadS} (hk : headOk m f h = true) {f' b : Int} (f0 : 0 ≤ f') (b0 : 0 ≤ b) :
    (m.head f h).wd f' b = if f' = f ∧ b < 4 then h.wk b.toNat else m.wd f' b := by
  have hf : m.has f = true := by unfold headOk at hk; simp only [Bool.and_eq_true] at hk; exact hk.2
  have key : ∀ k, k ≤ 4 → (m.hk f h k).wd f' b = if f' = f ∧ b < k then h.wk b.toNat else m.wd f' b := by
    intro k
    induction k with
    | zero => intro _; rw [if_neg (by omega)]; rfl
    | succ k ih =>
      intro hle
      have hf' : (m.hk f h k).has f = true := by unfold MemS.has; rw [MemS.hk_n]; exact hf
      show ((m.hk f h k).store f k (h.wk k)).wd f' b = _
      rw [wd_store _ hf' (by omega) (by omega) f0 b0, ih (by omega)]
      by_cases e : f' = f ∧ b = k
      · rw [if_pos e, if_pos ⟨e.1, by omega⟩, e.2]; rfl
      · rw [if_neg e]
        by_cases e2 : f' = f ∧ b < k
        · rw [if_pos e2, if_pos ⟨e2.1, by omega⟩]
        · rw [if_neg e2, if_neg (by omega)]
  unfold MemS.head
  rw [if_pos hk]
  exact key 4 (Nat.le_refl _)
theorem hd_congr {m m' : MemS} {f : Int} (hn : m'.n = m.n) (h0 : m'.wd f 0 = m.wd f 0) (h1 : m'.wd f 1 = m.wd f 1) (h2 : m'.wd f 2 = m.wd f 2) (h3 : m'.wd f 3 = m.wd f 3) : hdC m' f = hdC m f ∧ hdE m' f = hdE m f := by
  unfold hdC hdE hdOk hdPre MemS.has
  rw [hn, h0, h1, h2, h3]
  exact ⟨rfl, rfl⟩
theorem slot_congr {m m' : MemS} {f i : Int} (hn : m'.n = m.n) (h0 : m'.wd f (4 + 2 * i) = m.wd f (4 + 2 * i)) (h1 : m'.wd f (4 + 2 * i + 1) = m.wd f (4 + 2 * i + 1)) : slotC m' f i = slotC m f i ∧ slotE m' f i = slotE m f i := by
  unfold slotC slotE MemS.has
  rw [hn, h0, h1]
  exact ⟨rfl, rfl⟩
theorem ofW_w0 {h : HeadS} (hr : h.right = true) : HeadS.ofW h.w0 h.tm = h := by
  obtain ⟨h1, h2, h3⟩ := HeadS.bounds hr
  obtain ⟨k, l, z, t⟩ := h
  unfold HeadS.ofW HeadS.w0
  dsimp only at *
  cases z
  · simp only [Bool.false_eq_true, if_false]
    congr 1 <;> first | omega | (rw [show (k + l * 16 + 0) / 32 % 2 = 0 by omega]; rfl)
  · simp only [if_true]
    congr 1 <;> first | omega | (rw [show (k + l * 16 + 32) / 32 % 2 = 1 by omega]; rfl)
theorem hd_head {m : MemS} {f : Int} {h : HeadS} (hk : headOk m f h = true) : hdE (m.head f h) f = 0 ∧ hdC (m.head f h) f = h := by
  have hk' := hk
  unfold headOk at hk'; simp only [Bool.and_eq_true] at hk'
  obtain ⟨hr, hf⟩ := hk'
  obtain ⟨f0, _⟩ := inB_iff.1 hf
  obtain ⟨b1, b2, b3⟩ := HeadS.bounds hr
  obtain ⟨u0, u1⟩ := HeadS.w0_b hr
  have w0 : (m.head f h).wd f 0 = h.w0 := by rw [wd_head hk f0 (by omega), if_pos ⟨rfl, by omega⟩]; rfl
  have w1 : (m.head f h).wd f 1 = h.tm := by rw [wd_head hk f0 (by omega), if_pos ⟨rfl, by omega⟩]; rfl
  have w2 : (m.head f h).wd f 2 = 0 := by rw [wd_head hk f0 (by omega), if_pos ⟨rfl, by omega⟩]; rfl
  have w3 : (m.head f h).wd f 3 = 0 := by rw [wd_head hk f0 (by omega), if_pos ⟨rfl, by omega⟩]; rfl
  have hh : (m.head f h).has f = true := by unfold MemS.has; rw [head_n]; exact hf
  have e : hdOk (m.head f h) f = true := by
    unfold hdOk hdPre
    rw [hh, w0, w1, w2, w3, ofW_w0 hr, hr, decide_eq_true u1, decide_eq_true b3.2]; rfl
  unfold hdE hdC
  rw [hh, e, w0, w1, ofW_w0 hr]
  exact ⟨rfl, rfl⟩
theorem slot_slot {m : MemS} {f i : Int} {c : CapS} (h : putOk m f i c = true) : slotE (m.slot f i c) f i = 0 ∧ slotC (m.slot f i c) f i = c := by
  have h' := h
  unfold putOk at h'
  simp only [Bool.and_eq_true] at h'
  obtain ⟨⟨hi, hr⟩, hf⟩ := h'
  obtain ⟨i0, i1⟩ := inB_iff.1 hi
  obtain ⟨f0, _⟩ := inB_iff.1 hf
  have w0 : (m.slot f i c).wd f (4 + 2 * i) = c.w1 := by rw [wd_slot h f0 (by omega), if_pos ⟨rfl, rfl⟩]
  have w1 : (m.slot f i c).wd f (4 + 2 * i + 1) = c.a := by rw [wd_slot h f0 (by omega), if_neg (by omega), if_pos ⟨rfl, rfl⟩]
  have hh : (m.slot f i c).has f = true := by unfold MemS.has; rw [slot_n]; exact hf
  unfold slotE slotC
  rw [hi, hh, w0, w1]
  exact ⟨(getC_put hr).2, (getC_put hr).1⟩
theorem slot_beside {m : MemS} {f i : Int} {c : CapS} (h : putOk m f i c = true) {f' j : Int} (f0 : 0 ≤ f') (j0 : 0 ≤ j) (hn : ¬ (f' = f ∧ j = i)) : slotC (m.slot f i c) f' j = slotC m f' j ∧ slotE (m.slot f i c) f' j = slotE m f' j :=
  slot_congr (slot_n _ _ _ _) (by rw [wd_slot h f0 (by omega), if_neg (by omega), if_neg (by omega)]) (by rw [wd_slot h f0 (by omega), if_neg (by omega), if_neg (by omega)])
theorem hd_slot {m : MemS} {f i : Int} {c : CapS} (h : putOk m f i c = true) {f' : Int} (f0 : 0 ≤ f') : hdC (m.slot f i c) f' = hdC m f' ∧ hdE (m.slot f i c) f' = hdE m f' := by
  have h' := h
  unfold putOk at h'
  simp only [Bool.and_eq_true] at h'
  obtain ⟨i0, i1⟩ := inB_iff.1 h'.1.1
  exact hd_congr (slot_n _ _ _ _) (by rw [wd_slot h f0 (by omega), if_neg (by omega), if_neg (by omega)]) (by rw [wd_slot h f0 (by omega), if_neg (by omega), if_neg (by omega)]) (by rw [wd_slot h f0 (by omega), if_neg (by omega), if_neg (by omega)]) (by rw [wd_slot h f0 (by omega), if_neg (by omega), if_neg (by omega)])
theorem slot_head {m : MemS} {f : Int} {h : HeadS} (hk : headOk m f h = true) {f' j : Int} (f0 : 0 ≤ f') (j0 : 0 ≤ j) : slotC (m.head f h) f' j = slotC m f' j ∧ slotE (m.head f h) f' j = slotE m f' j :=
  slot_congr (head_n _ _ _) (by rw [wd_head hk f0 (by omega), if_neg (by omega)]) (by rw [wd_head hk f0 (by omega), if_neg (by omega)])
theorem hd_beside {m : MemS} {f : Int} {h : HeadS} (hk : headOk m f h = true) {f' : Int} (f0 : 0 ≤ f') (hn : f' ≠ f) : hdC (m.head f h) f' = hdC m f' ∧ hdE (m.head f h) f' = hdE m f' :=
  hd_congr (head_n _ _ _) (by rw [wd_head hk f0 (by omega), if_neg (by omega)]) (by rw [wd_head hk f0 (by omega), if_neg (by omega)]) (by rw [wd_head hk f0 (by omega), if_neg (by omega)]) (by rw [wd_head hk f0 (by omega), if_neg (by omega)])
theorem getC_00 : getC 0 0 = CapS.zero ∧ getE 0 0 = 0 := ⟨by kernel_rfl, by kernel_rfl⟩
theorem slot_clear {m : MemS} {f i : Int} (hf : m.has f = true) (hi : inB i 16 = true) : slotE (m.clear f) f i = 0 ∧ slotC (m.clear f) f i = CapS.zero := by
  obtain ⟨f0, _⟩ := inB_iff.1 hf
  have hh : (m.clear f).has f = true := by unfold MemS.has; rw [MemS.clear_n]; exact hf
  unfold slotE slotC
  rw [hi, hh, wd_clear hf f0, wd_clear hf f0, if_pos rfl, if_pos rfl]
  exact ⟨getC_00.2, getC_00.1⟩
end Go.Proofs.YtejdfdllgobnhaaGreat
/- Tab2 -/
set_option linter.unusedVariables false
set_option linter.unusedSimpArgs false
namespace Go.Proofs.YtejdfdllgobnhaaGreat
open Go.RowKit

def updI (f : Int → CapS) (k : Int) (v : CapS) : Int → CapS := fun i => if i = k then v else f i
theorem updI_eq (f : Int → CapS) (k : Int) (v : CapS) : updI f k v k = v := if_pos rfl
theorem updI_ne (f : Int → CapS) {k i : Int} (v : CapS) (h : i ≠ k) : updI f k v i = f i := if_neg h
/-- Frame 0 is a root, frame 1 a leaf (frozen: z, at tm); R and L are their slots. -/
structure Tab (m : MemS) (z : Bool) (tm : Int) (R L : Int → CapS) : Prop where
  ok : m.Ok
  f0 : m.has 0 = true
  f1 : m.has 1 = true
  e0 : hdE m 0 = 0
  c0 : hdC m 0 = ⟨1, 0, false, 0⟩
  e1 : hdE m 1 = 0
  c1 : hdC m 1 = ⟨1, 1, z, tm⟩
  r : ∀ i, 0 ≤ i → i < 16 → slotE m 0 i = 0 ∧ slotC m 0 i = R i
  l : ∀ i, 0 ≤ i → i < 16 → slotE m 1 i = 0 ∧ slotC m 1 i = L i

theorem MemS.slot_ok {m : MemS} (ok : m.Ok) (f i : Int) (c : CapS) : (m.slot f i c).Ok := by
  unfold MemS.slot
  split
  · rename_i h
    unfold putOk at h; simp only [Bool.and_eq_true] at h
    have hs := CapS.right_sized h.1.2
    have h1 := CapS.w1_lt hs
    obtain ⟨_, _, _, _, _, h6⟩ := CapS.sized_b hs
    exact MemS.store_ok (MemS.store_ok ok _ _ h1.1 (by omega)) _ _ h6.1 (by omega)
  · exact ok
theorem MemS.head_ok {m : MemS} (ok : m.Ok) (f : Int) (h : HeadS) : (m.head f h).Ok := by
  unfold MemS.head
  split
  · rename_i h'
    unfold headOk at h'; simp only [Bool.and_eq_true] at h'
    exact MemS.hk_ok ok f h'.1 4
  · exact ok
theorem MemS.make_ok {m : MemS} (ok : m.Ok) (f : Int) (h : HeadS) : (m.make f h).Ok := by
  unfold MemS.make
  split
  · exact MemS.head_ok (MemS.clear_ok' ok f) f h
  · exact ok
theorem MemS.cons_ok {m : MemS} (ok : m.Ok) (r h l fl : Int) : (m.cons r h l fl).Ok := by unfold MemS.cons; split <;> first | exact ok | exact MemS.slot_ok ok _ _ _
theorem MemS.tput_ok {m : MemS} (ok : m.Ok) (r n : Int) (c : CapS) (fl : Int) : (m.tput r n c fl).Ok := by unfold MemS.tput; split <;> first | exact ok | exact MemS.slot_ok ok _ _ _
theorem MemS.drop_ok {m : MemS} (ok : m.Ok) (r n now : Int) : (m.drop r n now).Ok := by unfold MemS.drop; split <;> first | exact ok | exact MemS.slot_ok ok _ _ _
theorem MemS.decons_ok {m : MemS} (ok : m.Ok) (r n now fl : Int) : (m.decons r n now fl).Ok := by unfold MemS.decons; split <;> first | exact ok | exact MemS.slot_ok ok _ _ _
theorem MemS.freeze_ok {m : MemS} (ok : m.Ok) (f now : Int) : (m.freeze f now).Ok := by unfold MemS.freeze; split <;> first | exact ok | exact MemS.head_ok ok _ _

/-- A frame that is made: its head, and slots with nothing. -/
theorem make_told {m : MemS} {f : Int} {h : HeadS} (hk : headOk m f h = true) :
    (hdE (m.make f h) f = 0 ∧ hdC (m.make f h) f = h) ∧ ∀ i, 0 ≤ i → i < 16 → slotE (m.make f h) f i = 0 ∧ slotC (m.make f h) f i = CapS.zero := by
  have hk2 : headOk (m.clear f) f h = true := (headOk_clear _ _ _).trans hk
  have hf : m.has f = true := by unfold headOk at hk; simp only [Bool.and_eq_true] at hk; exact hk.2
  obtain ⟨f0, _⟩ := inB_iff.1 hf
  unfold MemS.make
  rw [if_pos hk]
  refine ⟨hd_head hk2, fun i i0 i1 => ?_⟩
  have := slot_head hk2 f0 i0
  have c := slot_clear hf (inB_iff.2 ⟨i0, i1⟩)
  exact ⟨this.2.trans c.1, this.1.trans c.2⟩
theorem make_beside {m : MemS} {f : Int} {h : HeadS} (hk : headOk m f h = true) {f' : Int} (g0 : 0 ≤ f') (hn : f' ≠ f) :
    (hdE (m.make f h) f' = hdE m f' ∧ hdC (m.make f h) f' = hdC m f') ∧ ∀ i, 0 ≤ i → i < 16 → slotE (m.make f h) f' i = slotE m f' i ∧ slotC (m.make f h) f' i = slotC m f' i := by
  have hk2 : headOk (m.clear f) f h = true := (headOk_clear _ _ _).trans hk
  have hf : m.has f = true := by unfold headOk at hk; simp only [Bool.and_eq_true] at hk; exact hk.2
  have w : ∀ b, (m.clear f).wd f' b = m.wd f' b := fun b => by rw [wd_clear hf g0, if_neg hn]
  unfold MemS.make
  rw [if_pos hk]
  have h1 := hd_beside hk2 g0 hn
  have h2 := hd_congr (m' := m.clear f) (f := f') (MemS.clear_n _ _) (w 0) (w 1) (w 2) (w 3)
  refine ⟨⟨h1.2.trans h2.2, h1.1.trans h2.1⟩, fun i i0 i1 => ?_⟩
  have s1 := slot_head hk2 g0 i0
  have s2 := slot_congr (m' := m.clear f) (f := f') (i := i) (MemS.clear_n _ _) (w _) (w _)
  exact ⟨s1.2.trans s2.2, s1.1.trans s2.1⟩
theorem headOk0 {m : MemS} (h : m.has 0 = true) : headOk m 0 ⟨1, 0, false, 0⟩ = true := by unfold headOk; rw [h]; decide
theorem headOk1 {m : MemS} (h : m.has 1 = true) : headOk m 1 ⟨1, 1, false, 0⟩ = true := by unfold headOk; rw [h]; decide
def zeroR : Int → CapS := fun _ => CapS.zero
theorem Tab.new {m : MemS} (ok : m.Ok) (h0 : m.has 0 = true) (h1 : m.has 1 = true) : Tab ((m.make 0 ⟨1, 0, false, 0⟩).make 1 ⟨1, 1, false, 0⟩) false 0 zeroR zeroR := by
  have k0 := headOk0 h0
  have g1 : (m.make 0 ⟨1, 0, false, 0⟩).has 1 = true := by unfold MemS.has; rw [make_n]; exact h1
  have k1 := headOk1 g1
  have a := make_told k0
  have b := make_told k1
  have c := make_beside k1 (f' := 0) (by omega) (by omega)
  refine ⟨MemS.make_ok (MemS.make_ok ok _ _) _ _, ?_, ?_, c.1.1.trans a.1.1, c.1.2.trans a.1.2, b.1.1, b.1.2, fun i i0 i1 => ?_, fun i i0 i1 => b.2 i i0 i1⟩
  · unfold MemS.has; rw [make_n, make_n]; exact h0
  · unfold MemS.has; rw [make_n]; exact g1
  · exact ⟨(c.2 i i0 i1).1.trans (a.2 i i0 i1).1, (c.2 i i0 i1).2.trans (a.2 i i0 i1).2⟩

section
variable {m : MemS} {z : Bool} {tm : Int} {R L : Int → CapS}
theorem Tab.t0 (h : Tab m z tm R L) : isT m 0 0 = true := by unfold isT; rw [h.e0, h.c0]; rfl
theorem Tab.t1 (h : Tab m z tm R L) : isT m 1 1 = true := by unfold isT; rw [h.e1, h.c1]; rfl
/-- A slot of the leaf is written. -/
theorem Tab.leaf (h : Tab m z tm R L) {i : Int} {c : CapS} (hp : putOk m 1 i c = true) : Tab (m.slot 1 i c) z tm R (updI L i c) := by
  have hp' := hp
  unfold putOk at hp'; simp only [Bool.and_eq_true] at hp'
  obtain ⟨i0, i1⟩ := inB_iff.1 hp'.1.1
  have a0 := hd_slot hp (f' := 0) (by omega)
  have a1 := hd_slot hp (f' := 1) (by omega)
  refine ⟨MemS.slot_ok h.ok _ _ _, ?_, ?_, a0.2.trans h.e0, a0.1.trans h.c0, a1.2.trans h.e1, a1.1.trans h.c1, fun j j0 j1 => ?_, fun j j0 j1 => ?_⟩
  · unfold MemS.has; rw [slot_n]; exact h.f0
  · unfold MemS.has; rw [slot_n]; exact h.f1
  · have b := slot_beside hp (f' := 0) (j := j) (by omega) j0 (by omega)
    exact ⟨b.2.trans (h.r j j0 j1).1, b.1.trans (h.r j j0 j1).2⟩
  · by_cases e : j = i
    · subst e; rw [updI_eq]; exact slot_slot hp
    · rw [updI_ne _ _ e]
      have b := slot_beside hp (f' := 1) (j := j) (by omega) j0 (by omega)
      exact ⟨b.2.trans (h.l j j0 j1).1, b.1.trans (h.l j j0 j1).2⟩
/-- A slot of the root is written. -/
theorem Tab.root (h : Tab m z tm R L) {i : Int} {c : CapS} (hp : putOk m 0 i c = true) : Tab (m.slot 0 i c) z tm (updI R i c) L := by
  have hp' := hp
  unfold putOk at hp'; simp only [Bool.and_eq_true] at hp'
  obtain ⟨i0, i1⟩ := inB_iff.1 hp'.1.1
  have a0 := hd_slot hp (f' := 0) (by omega)
  have a1 := hd_slot hp (f' := 1) (by omega)
  refine ⟨MemS.slot_ok h.ok _ _ _, ?_, ?_, a0.2.trans h.e0, a0.1.trans h.c0, a1.2.trans h.e1, a1.1.trans h.c1, fun j j0 j1 => ?_, fun j j0 j1 => ?_⟩
  · unfold MemS.has; rw [slot_n]; exact h.f0
  · unfold MemS.has; rw [slot_n]; exact h.f1
  · by_cases e : j = i
    · subst e; rw [updI_eq]; exact slot_slot hp
    · rw [updI_ne _ _ e]
      have b := slot_beside hp (f' := 0) (j := j) (by omega) j0 (by omega)
      exact ⟨b.2.trans (h.r j j0 j1).1, b.1.trans (h.r j j0 j1).2⟩
  · have b := slot_beside hp (f' := 1) (j := j) (by omega) j0 (by omega)
    exact ⟨b.2.trans (h.l j j0 j1).1, b.1.trans (h.l j j0 j1).2⟩
theorem Tab.freeE_r (h : Tab m z tm R L) {i : Int} (i0 : 0 ≤ i) (i1 : i < 16) (fl : Int) : freeE m 0 i fl = if 1 < (R i).k then 10 else if quietC (R i) fl then 0 else 6 := by
  unfold freeE; rw [(h.r i i0 i1).1, (h.r i i0 i1).2, if_pos rfl]
theorem Tab.freeE_l (h : Tab m z tm R L) {i : Int} (i0 : 0 ≤ i) (i1 : i < 16) (fl : Int) : freeE m 1 i fl = if 1 < (L i).k then 10 else if quietC (L i) fl then 0 else 6 := by
  unfold freeE; rw [(h.l i i0 i1).1, (h.l i i0 i1).2, if_pos rfl]
/-- A leaf comes to an empty place of the root. -/
theorem Tab.cons (h : Tab m false tm R L) {hi : Int} (i0 : 0 ≤ hi) (i1 : hi < 16) (hz : (R hi).k = 0) (fl : Int) : consE m 0 hi 1 fl = 0 ∧ Tab (m.cons 0 hi 1 fl) false tm (updI R hi (consC 1)) L := by
  have hb := inB_iff.2 ⟨i0, i1⟩
  have hF : freeE m 0 hi fl = 0 := by rw [h.freeE_r i0 i1, if_neg (by omega), if_pos (by unfold quietC; rw [hz]; rfl)]
  have hp : putOk m 0 hi (consC 1) = true := by unfold putOk; rw [hb, h.f0]; rfl
  unfold consE MemS.cons
  rw [hb, h.t0, h.t1, h.c0, h.c1, hF, hp]
  exact ⟨rfl, by rw [if_pos ⟨rfl, rfl, rfl, rfl, rfl, rfl⟩]; exact h.root hp⟩
theorem Tab.walk (h : Tab m z tm R L) {a : Int} (a0 : 0 ≤ a) (a1 : a < 256) (hr : R (a / 16) = consC 1) : walkE m 0 a = 0 ∧ walkP m 0 a = ⟨1, a % 16, z⟩ := by
  have s := h.r (a / 16) (by omega) (by omega)
  have e : walkE m 0 a = 0 := by
    unfold walkE
    rw [inB_iff.2 ⟨a0, a1⟩, h.t0, s.1, s.2, hr, show isT m (consC 1).t 1 = true from h.t1]; rfl
  refine ⟨e, ?_⟩
  unfold walkP
  rw [e, if_pos rfl, s.2, hr, show hdC m (consC 1).t = ⟨1, 1, z, tm⟩ from h.c1]; rfl
theorem Tab.walk3 (h : Tab m z tm R L) {a : Int} (a0 : 0 ≤ a) (a1 : a < 256) (hr : (R (a / 16)).k ≠ 3) : walkE m 0 a = 3 := by
  have s := h.r (a / 16) (by omega) (by omega)
  unfold walkE
  rw [inB_iff.2 ⟨a0, a1⟩, h.t0, s.1, s.2, if_neg (show ¬ ((0 : Int) = 0 ∧ (R (a / 16)).k = 3) from fun e => hr e.2)]; rfl
theorem Tab.walk1 {a : Int} (ha : ¬ (0 ≤ a ∧ a < 256)) : walkE m 0 a = 1 := by
  have : inB a 256 = false := by rw [Bool.eq_false_iff]; intro h; exact ha (inB_iff.1 h)
  unfold walkE; rw [this]; rfl
theorem Tab.look (h : Tab m z tm R L) {a : Int} (a0 : 0 ≤ a) (a1 : a < 256) (hr : R (a / 16) = consC 1) :
    lookE m 0 a = (if (L (a % 16)).k ≤ 1 then 3 else 0) ∧ (¬ (L (a % 16)).k ≤ 1 → lookC m 0 a = L (a % 16) ∧ lookP m 0 a = ⟨1, a % 16, z⟩) := by
  obtain ⟨e, p⟩ := h.walk a0 a1 hr
  have s := h.l (a % 16) (by omega) (by omega)
  have le : lookE m 0 a = (if (L (a % 16)).k ≤ 1 then 3 else 0) := by
    unfold lookE; rw [e, p]; dsimp only; rw [s.1, s.2]; rfl
  refine ⟨le, fun hk => ?_⟩
  rw [if_neg hk] at le
  unfold lookC lookP
  rw [le, p]; dsimp only; rw [s.2]; exact ⟨rfl, rfl⟩
theorem Tab.look3 (h : Tab m z tm R L) {a : Int} (a0 : 0 ≤ a) (a1 : a < 256) (hr : (R (a / 16)).k ≠ 3) : lookE m 0 a = 3 := by
  unfold lookE; rw [h.walk3 a0 a1 hr]; rfl
theorem Tab.room (h : Tab m z tm R L) {a : Int} (a0 : 0 ≤ a) (a1 : a < 256) (hr : R (a / 16) = consC 1) (fl : Int) :
    roomE m 0 a fl = (if z then 6 else if 1 < (L (a % 16)).k then 10 else if quietC (L (a % 16)) fl then 0 else 6) ∧ (z = false → roomP m 0 a = ⟨1, a % 16, false⟩) := by
  obtain ⟨e, p⟩ := h.walk a0 a1 hr
  have s := h.freeE_l (i := a % 16) (by omega) (by omega) fl
  constructor
  · unfold roomE; rw [e, p]; dsimp only; rw [s]; rfl
  · rintro rfl; unfold roomP; rw [e, p]; rfl
/-- A capability that comes. -/
theorem Tab.put (h : Tab m z tm R L) {a : Int} (a0 : 0 ≤ a) (a1 : a < 256) (hr : R (a / 16) = consC 1) (c : CapS) (fl : Int) :
    tputE m 0 a c fl = (if c.right = true ∧ 1 < c.k then (if z then 6 else if 1 < (L (a % 16)).k then 10 else if quietC (L (a % 16)) fl then 0 else 6) else 1) ∧
      (tputE m 0 a c fl = 0 → c.right = true ∧ 1 < c.k ∧ Tab (m.tput 0 a c fl) z tm R (updI L (a % 16) c)) ∧ (tputE m 0 a c fl ≠ 0 → m.tput 0 a c fl = m) := by
  obtain ⟨re, rp⟩ := h.room a0 a1 hr fl
  by_cases hc : c.right = true ∧ 1 < c.k
  · rw [if_pos hc]
    by_cases h0 : roomE m 0 a fl = 0
    · have hz : z = false := by
        cases z
        · rfl
        · rw [re] at h0; cases h0
      have rp := rp hz
      have hp : putOk m 1 (a % 16) c = true := by unfold putOk; rw [inB_iff.2 ⟨by omega, by omega⟩, hc.1, h.f1]; rfl
      have e1 : tputE m 0 a c fl = 0 := by unfold tputE; rw [if_pos hc, if_pos h0, rp]; dsimp only; rw [if_pos hp]
      have e2 : m.tput 0 a c fl = m.slot 1 (a % 16) c := by unfold MemS.tput; rw [if_pos ⟨hc.1, hc.2, h0⟩, rp]
      rw [e1, e2]
      exact ⟨by rw [← re, h0], fun _ => ⟨hc.1, hc.2, h.leaf hp⟩, fun h => absurd rfl h⟩
    · have e1 : tputE m 0 a c fl = roomE m 0 a fl := by unfold tputE; rw [if_pos hc, if_neg h0]
      have e2 : m.tput 0 a c fl = m := by unfold MemS.tput; rw [if_neg (fun h => h0 h.2.2)]
      rw [e1, e2]
      exact ⟨re, fun h => absurd h h0, fun _ => rfl⟩
  · have e1 : tputE m 0 a c fl = 1 := by unfold tputE; rw [if_neg hc]
    have e2 : m.tput 0 a c fl = m := by unfold MemS.tput; rw [if_neg (fun h => hc ⟨h.1, h.2.1⟩)]
    rw [e1, e2, if_neg hc]
    exact ⟨rfl, fun h => absurd h (by decide), fun _ => rfl⟩
/-- What comes, comes to a leaf. -/
theorem Tab.put_in (h : Tab m z tm R L) {a : Int} {c : CapS} {fl : Int} (hp : tputE m 0 a c fl = 0) : (0 ≤ a ∧ a < 256) ∧ (R (a / 16)).k = 3 := by
  have key : walkE m 0 a = 0 := by
    unfold tputE at hp
    split at hp
    · split at hp
      · rename_i hr
        unfold roomE at hr
        split at hr
        · assumption
        · exact hr
      · rename_i h1; exact absurd hp h1
    · cases hp
  by_cases ha : 0 ≤ a ∧ a < 256
  · refine ⟨ha, ?_⟩
    by_cases hk : (R (a / 16)).k = 3
    · exact hk
    · rw [h.walk3 ha.1 ha.2 hk] at key; cases key
  · rw [Tab.walk1 ha] at key; cases key
theorem gone_right {now : Int} (ht : timeB now = true) : (goneC now).right = true := by
  unfold timeB at ht; simp at ht
  unfold CapS.right CapS.sized goneC CapS.kind inB
  simp; omega
/-- A capability that goes. -/
theorem Tab.drop (h : Tab m z tm R L) {a : Int} (a0 : 0 ≤ a) (a1 : a < 256) (hr : R (a / 16) = consC 1) (now : Int) :
    dropE m 0 a now = (if timeB now then (if (L (a % 16)).k ≤ 1 then 3 else if z then 6 else 0) else 1) ∧
      (dropE m 0 a now = 0 → dropC m 0 a now = L (a % 16) ∧ Tab (m.drop 0 a now) z tm R (updI L (a % 16) (goneC now))) ∧ (dropE m 0 a now ≠ 0 → m.drop 0 a now = m) := by
  obtain ⟨le, lc⟩ := h.look a0 a1 hr
  unfold dropE dropC MemS.drop dropD
  cases ht : timeB now
  · exact ⟨rfl, fun h => absurd (show (1 : Int) = 0 from h) (by decide), fun _ => rfl⟩
  · by_cases hk : (L (a % 16)).k ≤ 1
    · rw [if_pos hk] at le
      rw [le]
      exact ⟨by rw [if_pos hk]; rfl, fun h => absurd (show (3 : Int) = 0 from h) (by decide), fun _ => rfl⟩
    · rw [if_neg hk] at le
      obtain ⟨lc, lp⟩ := lc hk
      rw [le, lc, lp]
      dsimp only
      cases z
      · have hp : putOk m 1 (a % 16) (goneC now) = true := by unfold putOk; rw [inB_iff.2 ⟨by omega, by omega⟩, gone_right ht, h.f1]; rfl
        rw [if_neg hk, if_pos hp]
        exact ⟨rfl, fun _ => ⟨rfl, h.leaf hp⟩, fun h => absurd rfl h⟩
      · rw [if_neg hk]
        exact ⟨rfl, fun h => absurd (show (6 : Int) = 0 from h) (by decide), fun _ => rfl⟩
/-- The leaf is frozen. -/
theorem Tab.freeze (h : Tab m false tm R L) {now : Int} (ht : timeB now = true) : freezeE m 1 now = 0 ∧ Tab (m.freeze 1 now) true now R L := by
  have ht' := ht
  unfold timeB at ht'; simp at ht'
  have hf : frzOf m 1 now = ⟨1, 1, true, now⟩ := by unfold frzOf; rw [h.c1]
  have hk : headOk m 1 ⟨1, 1, true, now⟩ = true := by unfold headOk; rw [h.f1]; unfold HeadS.right; simp; omega
  unfold freezeE MemS.freeze
  rw [ht, h.e1, h.c1, hf, hk]
  refine ⟨rfl, ?_⟩
  rw [if_pos ⟨rfl, rfl, rfl, rfl⟩]
  have a := hd_head hk
  have b := hd_beside hk (f' := 0) (by omega) (by omega)
  refine ⟨MemS.head_ok h.ok _ _, ?_, ?_, b.2.trans h.e0, b.1.trans h.c0, a.1, a.2, fun j j0 j1 => ?_, fun j j0 j1 => ?_⟩
  · unfold MemS.has; rw [head_n]; exact h.f0
  · unfold MemS.has; rw [head_n]; exact h.f1
  · have s := slot_head hk (f' := 0) (j := j) (by omega) j0
    exact ⟨s.2.trans (h.r j j0 j1).1, s.1.trans (h.r j j0 j1).2⟩
  · have s := slot_head hk (f' := 1) (j := j) (by omega) j0
    exact ⟨s.2.trans (h.l j j0 j1).1, s.1.trans (h.l j j0 j1).2⟩
/-- The leaf goes from the root. -/
theorem Tab.decons (h : Tab m z tm R L) {hi : Int} (i0 : 0 ≤ hi) (i1 : hi < 16) (hr : R hi = consC 1) {now : Int} (ht : timeB now = true) (fl : Int) :
    deconsE m 0 hi now fl = (if z = true ∧ tm < fl then 0 else 6) ∧ deconsR m 0 hi now fl = (if z = true ∧ tm < fl then 1 else 0) ∧
      (z = true ∧ tm < fl → Tab (m.decons 0 hi now fl) z tm (updI R hi (goneC now)) L) ∧ (¬ (z = true ∧ tm < fl) → m.decons 0 hi now fl = m) := by
  have hb := inB_iff.2 ⟨i0, i1⟩
  have s := h.r hi i0 i1
  have hs : settledB m (consC 1).t fl = (z && decide (tm < fl)) := by
    show settledB m 1 fl = _
    unfold settledB; rw [h.e1, h.c1]; simp
  have hp : putOk m 0 hi (goneC now) = true := by unfold putOk; rw [hb, gone_right ht, h.f0]; rfl
  unfold deconsE deconsR MemS.decons deconsD
  rw [hb, ht, h.t0, s.1, s.2, hr, hs, hp]
  by_cases hz : z = true ∧ tm < fl
  · have e : (z && decide (tm < fl)) = true := by simp [hz.1, hz.2]
    rw [e, if_pos hz, if_pos hz]
    exact ⟨rfl, rfl, fun _ => h.root hp, fun h => absurd hz h⟩
  · have e : (z && decide (tm < fl)) = false := by
      cases z
      · rfl
      · simp; simp at hz; omega
    rw [e, if_neg hz, if_neg hz]
    exact ⟨rfl, rfl, fun h => absurd h hz, fun _ => rfl⟩
end
end Go.Proofs.YtejdfdllgobnhaaGreat
