/- Tables as told by their heads and slots: the plain law behind make, cons, put, drop, freeze. -/
import Derived.Test.YtejdfdllgobnhaaTbl13
set_option linter.unusedVariables false
set_option linter.unusedSimpArgs false
namespace Go.Proofs.Ytejdfdllgobnhaa
open Go.RowKit

theorem upd_at' {α : Type} (f : Nat → α) (k : Nat) (v : α) (i : Nat) : upd f k v i = if i = k then v else f i := rfl
theorem wd_store {m : MemS} {f a : Int} (x : Int) (hf : m.has f = true) (a0 : 0 ≤ a) (a1 : a < 36) {f' b : Int} (f0 : 0 ≤ f') (b0 : 0 ≤ b) :
    (m.store f a x).wd f' b = if f' = f ∧ b = a then x else m.wd f' b := by
  obtain ⟨g0, _⟩ := inB_iff.1 hf
  unfold MemS.store
  rw [if_pos (MemS.can_in hf a0 a1)]
  show upd m.w f.toNat (upd (m.w f.toNat) a.toNat x) f'.toNat b.toNat = _
  rw [upd_at']
  by_cases e : f' = f
  · subst e
    rw [if_pos rfl, upd_at']
    by_cases e2 : b = a
    · subst e2; rw [if_pos rfl, if_pos ⟨rfl, rfl⟩]
    · rw [if_neg (by omega), if_neg (fun h => e2 h.2)]; rfl
  · rw [if_neg (by omega), if_neg (fun h => e h.1)]; rfl
theorem wd_clear {m : MemS} {f : Int} (hf : m.has f = true) {f' b : Int} (f0 : 0 ≤ f') : (m.clear f).wd f' b = if f' = f then 0 else m.wd f' b := by
  obtain ⟨g0, _⟩ := inB_iff.1 hf
  unfold MemS.clear
  rw [if_pos (MemS.can_in hf (by omega) (by omega))]
  show upd m.w f.toNat (fun _ => 0) f'.toNat b.toNat = _
  rw [upd_at']
  by_cases e : f' = f
  · subst e; rw [if_pos rfl, if_pos rfl]
  · rw [if_neg (by omega), if_neg e]; rfl
theorem has_store' (m : MemS) (f a x f' : Int) : (m.store f a x).has f' = m.has f' := by unfold MemS.has; rw [MemS.store_n]
theorem slot_n (m : MemS) (f i : Int) (c : CapS) : (m.slot f i c).n = m.n := by unfold MemS.slot; split <;> simp only [MemS.store_n]
theorem head_n (m : MemS) (f : Int) (h : HeadS) : (m.head f h).n = m.n := by unfold MemS.head; split <;> simp only [MemS.hk_n]
theorem make_n (m : MemS) (f : Int) (h : HeadS) : (m.make f h).n = m.n := by unfold MemS.make; split <;> simp only [head_n, MemS.clear_n]
theorem wd_slot {m : MemS} {f i : Int} {c : CapS} (h : putOk m f i c = true) {f' b : Int} (f0 : 0 ≤ f') (b0 : 0 ≤ b) :
    (m.slot f i c).wd f' b = if f' = f ∧ b = 4 + 2 * i then c.w1 else if f' = f ∧ b = 4 + 2 * i + 1 then c.a else m.wd f' b := by
  have h' := h
  unfold putOk at h'
  simp only [Bool.and_eq_true] at h'
  obtain ⟨⟨hi, hr⟩, hf⟩ := h'
  obtain ⟨i0, i1⟩ := inB_iff.1 hi
  unfold MemS.slot
  rw [if_pos h, wd_store c.a ((has_store' _ _ _ _ _).trans hf) (by omega) (by omega) f0 b0, wd_store c.w1 hf (by omega) (by omega) f0 b0]
  by_cases e : f' = f ∧ b = 4 + 2 * i
  · have e2 : ¬ (f' = f ∧ b = 4 + 2 * i + 1) := by omega
    rw [if_neg e2, if_pos e, if_pos e]
  · by_cases e2 : f' = f ∧ b = 4 + 2 * i + 1
    · rw [if_pos e2, if_neg e, if_pos e2]
    · rw [if_neg e2, if_neg e, if_neg e, if_neg e2]
theorem wd_head {m : MemS} {f : Int} {h : HeadS} (hk : headOk m f h = true) {f' b : Int} (f0 : 0 ≤ f') (b0 : 0 ≤ b) :
    (m.head f h).wd f' b = if f' = f ∧ b < 4 then h.wk b.toNat else m.wd f' b := by
  have hf : m.has f = true := by unfold headOk at hk; simp only [Bool.and_eq_true] at hk; exact hk.2
  have key : ∀ k, k ≤ 4 → (m.hk f h k).wd f' b = if f' = f ∧ b < k then h.wk b.toNat else m.wd f' b := by
    intro k
    induction k with
    | zero => intro _; rw [if_neg (by omega)]; rfl
    | succ k ih =>
      intro hle
      have hf' : (m.hk f h k).has f = true := by unfold MemS.has; rw [MemS.hk_n]; exact hf
      show ((m.hk f h k).store f k (h.wk k)).wd f' b = _
      rw [wd_store _ hf' (by omega) (by omega) f0 b0, ih (by omega)]
      by_cases e : f' = f ∧ b = k
      · rw [if_pos e, if_pos ⟨e.1, by omega⟩, e.2]; rfl
      · rw [if_neg e]
        by_cases e2 : f' = f ∧ b < k
        · rw [if_pos e2, if_pos ⟨e2.1, by omega⟩]
        · rw [if_neg e2, if_neg (by omega)]
  unfold MemS.head
  rw [if_pos hk]
  exact key 4 (Nat.le_refl _)
theorem hd_congr {m m' : MemS} {f : Int} (hn : m'.n = m.n) (h0 : m'.wd f 0 = m.wd f 0) (h1 : m'.wd f 1 = m.wd f 1) (h2 : m'.wd f 2 = m.wd f 2) (h3 : m'.wd f 3 = m.wd f 3) : hdC m' f = hdC m f ∧ hdE m' f = hdE m f := by
  unfold hdC hdE hdOk hdPre MemS.has
  rw [hn, h0, h1, h2, h3]
  exact ⟨rfl, rfl⟩
theorem slot_congr {m m' : MemS} {f i : Int} (hn : m'.n = m.n) (h0 : m'.wd f (4 + 2 * i) = m.wd f (4 + 2 * i)) (h1 : m'.wd f (4 + 2 * i + 1) = m.wd f (4 + 2 * i + 1)) : slotC m' f i = slotC m f i ∧ slotE m' f i = slotE m f i := by
  unfold slotC slotE MemS.has
  rw [hn, h0, h1]
  exact ⟨rfl, rfl⟩
theorem ofW_w0 {h : HeadS} (hr : h.right = true) : HeadS.ofW h.w0 h.tm = h := by
  obtain ⟨h1, h2, h3⟩ := HeadS.bounds hr
  obtain ⟨k, l, z, t⟩ := h
  unfold HeadS.ofW HeadS.w0
  dsimp only at *
  cases z
  · simp only [Bool.false_eq_true, if_false]
    congr 1 <;> first | omega | (rw [show (k + l * 16 + 0) / 32 % 2 = 0 by omega]; rfl)
  · simp only [if_true]
    congr 1 <;> first | omega | (rw [show (k + l * 16 + 32) / 32 % 2 = 1 by omega]; rfl)
theorem hd_head {m : MemS} {f : Int} {h : HeadS} (hk : headOk m f h = true) : hdE (m.head f h) f = 0 ∧ hdC (m.head f h) f = h := by
  have hk' := hk
  unfold headOk at hk'; simp only [Bool.and_eq_true] at hk'
  obtain ⟨hr, hf⟩ := hk'
  obtain ⟨f0, _⟩ := inB_iff.1 hf
  obtain ⟨b1, b2, b3⟩ := HeadS.bounds hr
  obtain ⟨u0, u1⟩ := HeadS.w0_b hr
  have w0 : (m.head f h).wd f 0 = h.w0 := by rw [wd_head hk f0 (by omega), if_pos ⟨rfl, by omega⟩]; rfl
  have w1 : (m.head f h).wd f 1 = h.tm := by rw [wd_head hk f0 (by omega), if_pos ⟨rfl, by omega⟩]; rfl
  have w2 : (m.head f h).wd f 2 = 0 := by rw [wd_head hk f0 (by omega), if_pos ⟨rfl, by omega⟩]; rfl
  have w3 : (m.head f h).wd f 3 = 0 := by rw [wd_head hk f0 (by omega), if_pos ⟨rfl, by omega⟩]; rfl
  have hh : (m.head f h).has f = true := by unfold MemS.has; rw [head_n]; exact hf
  have e : hdOk (m.head f h) f = true := by
    unfold hdOk hdPre
    rw [hh, w0, w1, w2, w3, ofW_w0 hr, hr, decide_eq_true u1, decide_eq_true b3.2]; rfl
  unfold hdE hdC
  rw [hh, e, w0, w1, ofW_w0 hr]
  exact ⟨rfl, rfl⟩
theorem slot_slot {m : MemS} {f i : Int} {c : CapS} (h : putOk m f i c = true) : slotE (m.slot f i c) f i = 0 ∧ slotC (m.slot f i c) f i = c := by
  have h' := h
  unfold putOk at h'
  simp only [Bool.and_eq_true] at h'
  obtain ⟨⟨hi, hr⟩, hf⟩ := h'
  obtain ⟨i0, i1⟩ := inB_iff.1 hi
  obtain ⟨f0, _⟩ := inB_iff.1 hf
  have w0 : (m.slot f i c).wd f (4 + 2 * i) = c.w1 := by rw [wd_slot h f0 (by omega), if_pos ⟨rfl, rfl⟩]
  have w1 : (m.slot f i c).wd f (4 + 2 * i + 1) = c.a := by rw [wd_slot h f0 (by omega), if_neg (by omega), if_pos ⟨rfl, rfl⟩]
  have hh : (m.slot f i c).has f = true := by unfold MemS.has; rw [slot_n]; exact hf
  unfold slotE slotC
  rw [hi, hh, w0, w1]
  exact ⟨(getC_put hr).2, (getC_put hr).1⟩
theorem slot_beside {m : MemS} {f i : Int} {c : CapS} (h : putOk m f i c = true) {f' j : Int} (f0 : 0 ≤ f') (j0 : 0 ≤ j) (hn : ¬ (f' = f ∧ j = i)) : slotC (m.slot f i c) f' j = slotC m f' j ∧ slotE (m.slot f i c) f' j = slotE m f' j :=
  slot_congr (slot_n _ _ _ _) (by rw [wd_slot h f0 (by omega), if_neg (by omega), if_neg (by omega)]) (by rw [wd_slot h f0 (by omega), if_neg (by omega), if_neg (by omega)])
theorem hd_slot {m : MemS} {f i : Int} {c : CapS} (h : putOk m f i c = true) {f' : Int} (f0 : 0 ≤ f') : hdC (m.slot f i c) f' = hdC m f' ∧ hdE (m.slot f i c) f' = hdE m f' := by
  have h' := h
  unfold putOk at h'
  simp only [Bool.and_eq_true] at h'
  obtain ⟨i0, i1⟩ := inB_iff.1 h'.1.1
  exact hd_congr (slot_n _ _ _ _) (by rw [wd_slot h f0 (by omega), if_neg (by omega), if_neg (by omega)]) (by rw [wd_slot h f0 (by omega), if_neg (by omega), if_neg (by omega)]) (by rw [wd_slot h f0 (by omega), if_neg (by omega), if_neg (by omega)]) (by rw [wd_slot h f0 (by omega), if_neg (by omega), if_neg (by omega)])
theorem slot_head {m : MemS} {f : Int} {h : HeadS} (hk : headOk m f h = true) {f' j : Int} (f0 : 0 ≤ f') (j0 : 0 ≤ j) : slotC (m.head f h) f' j = slotC m f' j ∧ slotE (m.head f h) f' j = slotE m f' j :=
  slot_congr (head_n _ _ _) (by rw [wd_head hk f0 (by omega), if_neg (by omega)]) (by rw [wd_head hk f0 (by omega), if_neg (by omega)])
theorem hd_beside {m : MemS} {f : Int} {h : HeadS} (hk : headOk m f h = true) {f' : Int} (f0 : 0 ≤ f') (hn : f' ≠ f) : hdC (m.head f h) f' = hdC m f' ∧ hdE (m.head f h) f' = hdE m f' :=
  hd_congr (head_n _ _ _) (by rw [wd_head hk f0 (by omega), if_neg (by omega)]) (by rw [wd_head hk f0 (by omega), if_neg (by omega)]) (by rw [wd_head hk f0 (by omega), if_neg (by omega)]) (by rw [wd_head hk f0 (by omega), if_neg (by omega)])
theorem getC_00 : getC 0 0 = CapS.zero ∧ getE 0 0 = 0 := ⟨by kernel_rfl, by kernel_rfl⟩
theorem slot_clear {m : MemS} {f i : Int} (hf : m.has f = true) (hi : inB i 16 = true) : slotE (m.clear f) f i = 0 ∧ slotC (m.clear f) f i = CapS.zero := by
  obtain ⟨f0, _⟩ := inB_iff.1 hf
  have hh : (m.clear f).has f = true := by unfold MemS.has; rw [MemS.clear_n]; exact hf
  unfold slotE slotC
  rw [hi, hh, wd_clear hf f0, wd_clear hf f0, if_pos rfl, if_pos rfl]
  exact ⟨getC_00.2, getC_00.1⟩
end Go.Proofs.Ytejdfdllgobnhaa
