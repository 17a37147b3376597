/- Rows of cells that a slice owns; append, told with the block that it leaves. -/
import Derived.Test.YtmahledpcpdldaaGreatBase
set_option linter.unusedVariables false
set_option linter.unusedSimpArgs false
namespace Go.Proofs.YtmahledpcpdldaaGreat
open Go.RowKit

/-- Block b begins with the cells xs. -/
def Row (w : World) (b : Nat) (T : TypeId) (xs : List Value) : Prop := ∃ spare : List Value, w.heap[b]? = some (.cells (xs ++ spare).toArray T (0, 0))

theorem Row.at {w : World} {b : Nat} {T : TypeId} {xs : List Value} (h : Row w b T xs) {j : Nat} {v : Value} (hj : xs[j]? = some v) : w.cell? ⟨b, j, none⟩ = some v := by
  obtain ⟨spare, h⟩ := h
  rw [cell_of h]
  have hl : j < xs.length := by
    rcases Nat.lt_or_ge j xs.length with h' | h'
    · exact h'
    · rw [List.getElem?_eq_none h'] at hj; cases hj
  simp [List.getElem?_append_left hl, hj]
theorem Row.free {w : World} {b : Nat} {T : TypeId} {xs : List Value} (h : Row w b T xs) (o : Nat) : w.frozen? ⟨b, o, none⟩ = false := by
  obtain ⟨spare, h⟩ := h; exact frozen_of h o
theorem Row.lt {w : World} {b : Nat} {T : TypeId} {xs : List Value} (h : Row w b T xs) : b < w.heap.size := by
  obtain ⟨spare, h⟩ := h; exact lt_of_block h
theorem Row.set {w : World} {b : Nat} {T : TypeId} {xs : List Value} (h : Row w b T xs) {j : Nat} (hj : j < xs.length) (v : Value) : Row (w.setCell ⟨b, j, none⟩ v) b T (xs.set j v) := by
  obtain ⟨spare, h⟩ := h
  refine ⟨spare, (heap_set h v).trans ?_⟩
  simp [List.set_append_left _ _ hj]
theorem Row.keep {w : World} {b b' o : Nat} {T : TypeId} {xs : List Value} (h : Row w b T xs) (v : Value) (hb : b ≠ b') : Row (w.setCell ⟨b', o, none⟩ v) b T xs := by
  obtain ⟨spare, h⟩ := h; exact ⟨spare, heap_set_ne h v hb⟩
theorem Row.touch {w w' : World} {b : Nat} {T : TypeId} {xs : List Value} {S : Nat → Prop} (h : Row w b T xs) (ht : Touch S w w') (hs : ¬ S b) : Row w' b T xs := by
  obtain ⟨spare, h⟩ := h; exact ⟨spare, ht.at h hs⟩
theorem Row.after {w w' : World} {b : Nat} {T : TypeId} {xs : List Value} (h : Row w b T xs) (hb : Below w.heap.size w w') : Row w' b T xs := by
  obtain ⟨spare, h⟩ := h; exact ⟨spare, (hb.block b (lt_of_block h)).trans h⟩
theorem Row.alloc {w : World} {b : Nat} {T : TypeId} {xs : List Value} (h : Row w b T xs) (o : Obj) : Row (w.alloc o) b T xs := by
  obtain ⟨spare, h⟩ := h; exact ⟨spare, heap_alloc h o⟩

theorem ownsRow_row {w : World} {base : Nat} {e : TypeId} {size : Nat} {v : Value} {n : Nat} {xs : List Value} (h : w.ownsRow base e size v n xs) :
    (v = .slice none 0 0 ∧ n = 0 ∧ xs = []) ∨ ∃ g cap, v = .slice (some ⟨g, 0, none⟩) n cap ∧ base ≤ g ∧ n ≤ cap ∧ cap ≤ maxLen ∧ xs.length = n * size ∧ Row w g e xs := by
  obtain ⟨hl, ⟨hv, hn⟩ | ⟨g, cap, cur, hv, hg, hh, hn, hc, hs, ht⟩⟩ := h
  · subst hn
    exact .inl ⟨hv, rfl, List.eq_nil_of_length_eq_zero (by simpa using hl)⟩
  · refine .inr ⟨g, cap, hv, hg, hn, hc, hl, cur.toList.drop (n * size), ?_⟩
    rw [← ht, List.take_append_drop]; simpa using hh

theorem own_slice {w : World} {base : Nat} {e : TypeId} {size : Nat} {v : Value} {n : Nat} {xs : List Value} (h : w.ownsRow base e size v n xs) (h0 : 0 < n) :
    ∃ g cap, v = .slice (some ⟨g, 0, none⟩) n cap := by
  rcases ownsRow_row h with ⟨_, hn, _⟩ | ⟨g, cap, hv, _⟩
  · omega
  · exact ⟨g, cap, hv⟩

theorem ownsRow_keep {w w' : World} {base : Nat} {e : TypeId} {size : Nat} {v : Value} {n : Nat} {xs : List Value} {S : Nat → Prop} (h : w.ownsRow base e size v n xs) (ht : Touch S w w')
    (hs : ∀ g, v.ownBlock = some g → ¬ S g) : w'.ownsRow base e size v n xs := by
  refine ⟨h.1, ?_⟩
  rcases h.2 with hn | ⟨g, cap, cur, rfl, hb, hgg, rest⟩
  · exact .inl hn
  · exact .inr ⟨g, cap, cur, rfl, hb, ht.at hgg (hs g rfl), rest⟩

theorem grownBy_touch {w w' : World} {row : Option Nat} (h : w.grownBy w' row) : Touch (fun k => some k = row) w w' :=
  ⟨h.os, h.tape, h.output, h.size, fun k hk hn => h.block k hk hn⟩

section
variable {P : Program} (w : World)

/-- Append: the block that it leaves is the one that there was, or a new one. -/
theorem append_block (base : Nat) (t ty e : TypeId) (i : TypeInfo) (z : Value) (size bytes : Nat) (ht : P.underlying t = some (.slice e)) (hi : P.info? e = some i) (hz : i.zero = some z)
    (hsize : i.size = size) (hby : i.bytes = bytes)
    (v : Value) (n : Nat) (xs : List Value) (hown : w.ownsRow base e size v n xs)
    (a : Addr) (m c : Nat) (news : List Value) (hl : news.length = m * size) (hnews : ∀ j u, news[j]? = some u → w.cell? (a.add j) = some u) (h1 : ∀ u ∈ news, u.oneCell' = true)
    (h63 : n + m ≤ maxLen) (hbytes : (n + m) * bytes ≤ 140737488355328) (h0 : 0 < m)
    {v' : Value} {w' : World} (hr : (Builtin.append_ #[t, t] ty #[v, .slice (some a) m c]).run P w = .ok v' w') :
    v'.ownBlock = v.ownBlock ∨ v'.ownBlock = some w.heap.size := by
  subst hsize; subst hby
  have hsmall : n + m ≤ 9223372036854775807 := by simp only [maxLen] at h63; omega
  rcases hown.2 with ⟨rfl, rfl⟩ | ⟨g, cap, cur, rfl, hbg, hg, hnc, hcm, hcs, htake⟩
  · have hr2 := run_append_nil (P := P) w t ty e i z ht hi hz a m c news hl hnews h0 (by omega) (by have hb := hbytes; simp only [Nat.zero_add] at hb; omega)
    rw [hr2] at hr; cases hr; exact .inr rfl
  · by_cases hroom : n + m ≤ cap
    · have hfit : n * i.size + news.length ≤ cur.size := by rw [hl, hcs, ← Nat.add_mul]; exact Nat.mul_le_mul_right _ hroom
      have hr2 := run_append_room (P := P) w t ty e i ht hi g n cap cur hg a m c news hl hnews h1 hroom hfit
      rw [hr2] at hr; cases hr; exact .inl rfl
    · have holds : ∀ j u, xs[j]? = some u → w.cell? ((⟨g, 0, none⟩ : Addr).add j) = some u := hown.cells (g := g) rfl
      have hr2 := run_append_grow (P := P) w t ty e i z ht hi hz ⟨g, 0, none⟩ n cap xs hown.1 holds a m c news hl hnews (by omega) (by omega) (growslice_fits (by omega) hbytes)
      rw [hr2] at hr; cases hr; exact .inr rfl

/-- The law at the operation. -/
theorem wpList_append_mine {ops : Array Oper} {rest : List Oper} {o : Oper} {a : Act} {Q : Exit → Act → World → Prop} (hgd : o.guard = none) (s x : Operand) (t : TypeId)
    (ho : o.op = .call { callee := .builtin .append, args := #[s, x], argTypes := #[t, t] })
    (e : TypeId) (i : TypeInfo) (z : Value) (size bytes : Nat) (ht : P.underlying t = some (.slice e)) (hi : P.info? e = some i) (hz : i.zero = some z)
    (hsize : i.size = size) (hby : i.bytes = bytes) (hzs : z.cells.size = size) (hsz : 0 < size)
    (base : Nat) (v : Value) (n : Nat) (xs : List Value) (hs : a.eval s = v) (hown : w.ownsRow base e size v n xs)
    (ad : Addr) (m c : Nat) (news : List Value) (hx : a.eval x = .slice (some ad) m c) (hl : news.length = m * size) (hnews : ∀ j u, news[j]? = some u → w.cell? (ad.add j) = some u) (h1 : ∀ u ∈ news, u.oneCell' = true)
    (h63 : n + m ≤ maxLen) (hbytes : (n + m) * bytes ≤ 140737488355328) (hbase : base ≤ w.heap.size) (h0 : 0 < m)
    (h : ∀ v' w', w'.ownsRow base e size v' (n + m) (xs ++ news) → Touch (fun k => some k = v.ownBlock) w w' → (v'.ownBlock = v.ownBlock ∨ v'.ownBlock = some w.heap.size) → wpList P ops Q rest (a.put o.dst v') w') : wpList P ops Q (o :: rest) a w :=
  wpList_plain hgd fun K hK => by
    obtain ⟨v', w', hr, h2, h3, _⟩ := run_append_own (P := P) w base t o.type e i z size bytes ht hi hz hsize hby hzs hsz v n xs hown ad m c news hl hnews h1 h63 hbytes hbase
    have h5 := append_block (P := P) w base t o.type e i z size bytes ht hi hz hsize hby v n xs hown ad m c news hl hnews h1 h63 hbytes h0 hr
    unfold Oper.wp execOp
    simp only [ho, resolve, invoke, builtin, Sem.run_bind, Sem.run_pure, Result.andThen_ok, List.map_toArray, List.map_cons, List.map_nil, hs, hx, hr]
    exact hK _ _ (h v' w' h2 (grownBy_touch h3) h5)
end

/-- The one new element of 'append(s, x)' lies in a block of its own. -/
theorem one_new (w : World) (x : Value) (t : TypeId) : ∀ j u, [x][j]? = some u → (w.alloc (.cells #[x] t (0, 0))).cell? ((⟨w.heap.size, 0, none⟩ : Addr).add j) = some u := by
  intro j u hj
  match j, hj with
  | 0, hj =>
    obtain rfl : x = u := by simpa using hj
    rw [Addr.add_zero', cell_of (heap_new w _)]; rfl
  | j + 1, hj => simp at hj

theorem below_touchB {B : Nat} {a b c : World} (h : Below B a b) (k : Touch (fun j => B ≤ j) b c) (hB : B ≤ b.heap.size) : Below B a c :=
  h.trans (k.below hB (fun i hi hh => by omega))

/-- 'append(s, x)', x one cell: the law at the operation, with no goal beside it. -/
theorem wpList_append_one {P : Program} (W : World) {ops : Array Oper} {rest : List Oper} {o : Oper} {a : Act} {Q : Exit → Act → World → Prop} (hgd : o.guard = none) (s x : Operand) (t : TypeId)
    (ho : o.op = .call { callee := .builtin .append, args := #[s, x], argTypes := #[t, t] })
    (e : TypeId) (i : TypeInfo) (z u : Value) (bytes : Nat) (ht : P.underlying t = some (.slice e)) (hi : P.info? e = some i) (hz : i.zero = some z)
    (hsize : i.size = 1) (hby : i.bytes = bytes) (hzs : z.cells.size = 1) (hb : bytes ≤ 1000)
    (base : Nat) (v : Value) (n : Nat) (xs : List Value) (hs : a.eval s = v) (hown : W.ownsRow base e 1 v n xs)
    (q : Nat) (hq : q = W.heap.size) (hx : a.eval x = .slice (some ⟨q, 0, none⟩) 1 1) (hone : u.oneCell' = true) (hn : n < 1000000) (hbase : base ≤ W.heap.size)
    (h : ∀ g cap w', w'.ownsRow base e 1 (.slice (some ⟨g, 0, none⟩) (n + 1) cap) (n + 1) (xs ++ [u]) → Touch (fun k => some k = v.ownBlock) (W.alloc (.cells #[u] e (0, 0))) w' →
      ((Value.slice (some ⟨g, 0, none⟩) (n + 1) cap).ownBlock = v.ownBlock ∨ (Value.slice (some ⟨g, 0, none⟩) (n + 1) cap).ownBlock = some (W.alloc (.cells #[u] e (0, 0))).heap.size) → wpList P ops Q rest (a.put o.dst (.slice (some ⟨g, 0, none⟩) (n + 1) cap)) w') :
    wpList P ops Q (o :: rest) a (W.alloc (.cells #[u] e (0, 0))) := by
  subst hq
  have hb2 : (n + 1) * bytes ≤ 140737488355328 := by
    have : (n + 1) * bytes ≤ 1000000 * 1000 := Nat.mul_le_mul (by omega) hb
    omega
  refine wpList_append_mine _ hgd s x t ho e i z 1 bytes ht hi hz hsize hby hzs (by decide) base v n xs hs (hown.alloc _) ⟨W.heap.size, 0, none⟩ 1 1 [u] hx rfl (one_new _ _ _) ?_ ?_ hb2 ?_ (by decide) ?_
  · intro y hy; obtain rfl : y = u := by simpa using hy
    exact hone
  · unfold maxLen; omega
  · simp; omega
  · intro v' w' h1 h2 h3
    obtain ⟨g, cap, rfl⟩ := own_slice h1 (by omega)
    exact h g cap w' h1 h2 h3

/-- Two slices own no block together. -/
def Apart (s s2 : Value) : Prop := ∀ g, s.ownBlock = some g → s2.ownBlock ≠ some g
theorem Apart.symm {s s2 : Value} (h : Apart s s2) : Apart s2 s := fun g hg h2 => h g h2 hg
theorem Apart.nil (s2 : Value) : Apart (.slice none 0 0) s2 := fun g hg => by simp [Value.ownBlock] at hg

section
variable {wr w1 : World} {B : Nat} {arr : Array Value} {T e : TypeId} {s s' : Value} {k size : Nat} {xs : List Value} {x : List Value} {O : Obj}
/-- Behind 'append(b.f, ..)', b's block as it was. -/
theorem field_box (hbox : wr.heap[B]? = some (.cells arr T (0, 0))) (o1 : wr.ownsRow (B + 1) e size s k xs) (ht : Touch (fun j => some j = s.ownBlock) (wr.alloc O) w1) :
    w1.heap[B]? = some (.cells arr T (0, 0)) :=
  ht.at (heap_alloc hbox O) (fun h => by have := o1.lt B h.symm; omega)
theorem field_own {m : Nat} (h : w1.ownsRow (B + 1) e size s' (k + m) (xs ++ x)) (o : Nat) (v : Value) : (w1.setCell ⟨B, o, none⟩ v).ownsRow (B + 1) e size s' (k + m) (xs ++ x) :=
  ownsRow_keep h (Touch.setCell (S := fun j => j = B) (Touch.refl _ _) B o v (fun _ => rfl)) (fun g hg hb => by have := h.lt g hg; omega)
theorem field_other {e2 : TypeId} {n2 sz2 : Nat} {s2 : Value} {ys : List Value} (o2 : wr.ownsRow (B + 1) e2 sz2 s2 n2 ys) (ha : Apart s s2) (ht : Touch (fun j => some j = s.ownBlock) (wr.alloc O) w1) (o : Nat) (v : Value) :
    (w1.setCell ⟨B, o, none⟩ v).ownsRow (B + 1) e2 sz2 s2 n2 ys :=
  ownsRow_keep (ownsRow_keep (o2.alloc O) ht (fun g hg hs => ha g hs.symm hg)) (Touch.setCell (S := fun j => j = B) (Touch.refl _ _) B o v (fun _ => rfl)) (fun g hg hb => by have := o2.lt g hg; omega)
theorem field_apart {e2 : TypeId} {n2 sz2 : Nat} {s2 : Value} {ys : List Value} (o2 : wr.ownsRow (B + 1) e2 sz2 s2 n2 ys) (ha : Apart s s2) (hb : s'.ownBlock = s.ownBlock ∨ s'.ownBlock = some (wr.alloc O).heap.size) : Apart s' s2 := by
  intro g hg h2
  rcases hb with hb | hb
  · exact ha g (hb ▸ hg) h2
  · have h3 := o2.lt g h2
    rw [hb] at hg
    simp at hg; omega
theorem field_touch (o1 : wr.ownsRow (B + 1) e size s k xs) (ht : Touch (fun j => some j = s.ownBlock) (wr.alloc O) w1) (o : Nat) (v : Value) :
    Touch (fun j => B ≤ j) wr (w1.setCell ⟨B, o, none⟩ v) :=
  Touch.setCell (Touch.stepT ht ((Touch.refl _ _).alloc O) (fun i _ hi => by have := o1.lt i hi.symm; omega)) B o v (fun _ => Nat.le_refl _)
end
end Go.Proofs.YtmahledpcpdldaaGreat
