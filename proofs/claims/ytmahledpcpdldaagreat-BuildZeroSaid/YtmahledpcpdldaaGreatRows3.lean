/- Append of one element of many cells. -/
import Derived.Test.YtmahledpcpdldaaGreatRows2
import Derived.Deep.MidRow
set_option linter.unusedVariables false
set_option linter.unusedSimpArgs false
namespace Go.Proofs.YtmahledpcpdldaaGreat
open Go.RowKit

theorem below_undrew {w w' : World} (h : Below w.drew.heap.size w.drew w') : Below w.heap.size w w' := ⟨h.os, h.tape, h.output, h.size, h.block⟩

theorem agg_new (w : World) (xs : Array Value) (t : TypeId) : ∀ j u, xs.toList[j]? = some u → (w.alloc (.cells xs t (0, 0))).cell? ((⟨w.heap.size, 0, none⟩ : Addr).add j) = some u := by
  intro j u hj
  rw [Addr.add_mid, cell_of (heap_new w _), Nat.zero_add]
  rw [Array.getElem?_toList] at hj; exact hj

/-- 'append(s, x)', x of 'size' cells: the law at the operation, with no goal beside it. -/
theorem wpList_append_agg {P : Program} (W : World) {ops : Array Oper} {rest : List Oper} {o : Oper} {a : Act} {Q : Exit → Act → World → Prop} (hgd : o.guard = none) (s x : Operand) (t : TypeId)
    (ho : o.op = .call { callee := .builtin .append, args := #[s, x], argTypes := #[t, t] })
    (e : TypeId) (i : TypeInfo) (z : Value) (us : Array Value) (size bytes : Nat) (ht : P.underlying t = some (.slice e)) (hi : P.info? e = some i) (hz : i.zero = some z)
    (hsize : i.size = size) (hby : i.bytes = bytes) (hzs : z.cells.size = size) (hus : us.size = size) (hsz : 0 < size) (hb : bytes ≤ 1000)
    (base : Nat) (v : Value) (n : Nat) (xs : List Value) (hs : a.eval s = v) (hown : W.ownsRow base e size v n xs)
    (q : Nat) (hq : q = W.heap.size) (hx : a.eval x = .slice (some ⟨q, 0, none⟩) 1 1) (hone : us.all (·.oneCell') = true) (hn : n < 1000000) (hbase : base ≤ W.heap.size)
    (h : ∀ g cap w', w'.ownsRow base e size (.slice (some ⟨g, 0, none⟩) (n + 1) cap) (n + 1) (xs ++ us.toList) → Touch (fun k => some k = v.ownBlock) (W.alloc (.cells us e (0, 0))) w' →
      ((Value.slice (some ⟨g, 0, none⟩) (n + 1) cap).ownBlock = v.ownBlock ∨ (Value.slice (some ⟨g, 0, none⟩) (n + 1) cap).ownBlock = some (W.alloc (.cells us e (0, 0))).heap.size) → wpList P ops Q rest (a.put o.dst (.slice (some ⟨g, 0, none⟩) (n + 1) cap)) w') :
    wpList P ops Q (o :: rest) a (W.alloc (.cells us e (0, 0))) := by
  subst hq
  have hb2 : (n + 1) * bytes ≤ 140737488355328 := by
    have : (n + 1) * bytes ≤ 1000000 * 1000 := Nat.mul_le_mul (by omega) hb
    omega
  refine wpList_append_mine _ hgd s x t ho e i z size bytes ht hi hz hsize hby hzs hsz base v n xs hs (hown.alloc _) ⟨W.heap.size, 0, none⟩ 1 1 us.toList hx (by simp [hus]) (agg_new _ _ _) ?_ ?_ hb2 ?_ (by decide) ?_
  · intro y hy
    exact (Array.all_eq_true_iff_forall_mem.1 hone) y (by simpa using hy)
  · unfold maxLen; omega
  · simp; omega
  · intro v' w' h1 h2 h3
    obtain ⟨g, cap, rfl⟩ := own_slice h1 (by omega)
    exact h g cap w' h1 h2 h3

theorem wp_append_agg {P : Program} (W : World) {o : Oper} {a : Act} {K : Act → World → Prop} {Q : Exit → Act → World → Prop} (s x : Operand) (t : TypeId)
    (ho : o.op = .call { callee := .builtin .append, args := #[s, x], argTypes := #[t, t] })
    (e : TypeId) (i : TypeInfo) (z : Value) (us : Array Value) (size bytes : Nat) (ht : P.underlying t = some (.slice e)) (hi : P.info? e = some i) (hz : i.zero = some z)
    (hsize : i.size = size) (hby : i.bytes = bytes) (hzs : z.cells.size = size) (hus : us.size = size) (hsz : 0 < size) (hb : bytes ≤ 1000)
    (base : Nat) (v : Value) (n : Nat) (xs : List Value) (hs : a.eval s = v) (hown : W.ownsRow base e size v n xs)
    (q : Nat) (hq : q = W.heap.size) (hx : a.eval x = .slice (some ⟨q, 0, none⟩) 1 1) (hone : us.all (·.oneCell') = true) (hn : n < 1000000) (hbase : base ≤ W.heap.size)
    (h : ∀ g cap w', w'.ownsRow base e size (.slice (some ⟨g, 0, none⟩) (n + 1) cap) (n + 1) (xs ++ us.toList) → Touch (fun k => some k = v.ownBlock) (W.alloc (.cells us e (0, 0))) w' →
      ((Value.slice (some ⟨g, 0, none⟩) (n + 1) cap).ownBlock = v.ownBlock ∨ (Value.slice (some ⟨g, 0, none⟩) (n + 1) cap).ownBlock = some (W.alloc (.cells us e (0, 0))).heap.size) → K (a.put o.dst (.slice (some ⟨g, 0, none⟩) (n + 1) cap)) w') :
    o.wp P a (W.alloc (.cells us e (0, 0))) K Q := by
  subst hq
  have hb2 : (n + 1) * bytes ≤ 140737488355328 := by
    have : (n + 1) * bytes ≤ 1000000 * 1000 := Nat.mul_le_mul (by omega) hb
    omega
  have h63 : n + 1 ≤ maxLen := by unfold maxLen; omega
  have hl : us.toList.length = 1 * size := by simp [hus]
  have h1 : ∀ u ∈ us.toList, u.oneCell' = true := fun y hy => (Array.all_eq_true_iff_forall_mem.1 hone) y (by simpa using hy)
  have hbase' : base ≤ (W.alloc (.cells us e (0, 0))).heap.size := by simp; omega
  obtain ⟨v', w', hr, h2, h3, _⟩ := run_append_own (P := P) (W.alloc (.cells us e (0, 0))) base t o.type e i z size bytes ht hi hz hsize hby hzs hsz v n xs (hown.alloc _) ⟨W.heap.size, 0, none⟩ 1 1 us.toList hl (agg_new _ _ _) h1 h63 hb2 hbase'
  have h5 := append_block (P := P) (W.alloc (.cells us e (0, 0))) base t o.type e i z size bytes ht hi hz hsize hby v n xs (hown.alloc _) ⟨W.heap.size, 0, none⟩ 1 1 us.toList hl (agg_new _ _ _) h1 h63 hb2 (by decide) hr
  obtain ⟨g, cap, rfl⟩ := own_slice h2 (by omega)
  unfold Oper.wp execOp
  simp only [ho, resolve, invoke, builtin, Sem.run_bind, Sem.run_pure, Result.andThen_ok, List.map_toArray, List.map_cons, List.map_nil, hs, hx, hr]
  exact h g cap w' h2 (grownBy_touch h3) h5

/-- The same at a step of a region that draws its order. -/
theorem step_append_agg {P : Program} (W : World) {ops : Array Oper} {o : Oper} {a : Act} {K : Act → World → Prop} {Q : Exit → Act → World → Prop} {E : Prop} (hgd : o.guard = none) (s x : Operand) (t : TypeId)
    (ho : o.op = .call { callee := .builtin .append, args := #[s, x], argTypes := #[t, t] })
    (e : TypeId) (i : TypeInfo) (z : Value) (us : Array Value) (size bytes : Nat) (ht : P.underlying t = some (.slice e)) (hi : P.info? e = some i) (hz : i.zero = some z)
    (hsize : i.size = size) (hby : i.bytes = bytes) (hzs : z.cells.size = size) (hus : us.size = size) (hsz : 0 < size) (hb : bytes ≤ 1000)
    (base : Nat) (v : Value) (n : Nat) (xs : List Value) (hs : a.eval s = v) (hown : W.ownsRow base e size v n xs)
    (q : Nat) (hq : q = W.heap.size) (hx : a.eval x = .slice (some ⟨q, 0, none⟩) 1 1) (hone : us.all (·.oneCell') = true) (hn : n < 1000000) (hbase : base ≤ W.heap.size)
    (h : ∀ g cap w', w'.ownsRow base e size (.slice (some ⟨g, 0, none⟩) (n + 1) cap) (n + 1) (xs ++ us.toList) → Touch (fun k => some k = v.ownBlock) (W.alloc (.cells us e (0, 0))) w' →
      ((Value.slice (some ⟨g, 0, none⟩) (n + 1) cap).ownBlock = v.ownBlock ∨ (Value.slice (some ⟨g, 0, none⟩) (n + 1) cap).ownBlock = some (W.alloc (.cells us e (0, 0))).heap.size) → K (a.put o.dst (.slice (some ⟨g, 0, none⟩) (n + 1) cap)) w') :
    if Region.wanted o (yielded ops a.tmps) = true then Oper.wp P o a (W.alloc (.cells us e (0, 0))) K Q else E := by
  rw [if_pos (by simp [Region.wanted, hgd])]
  exact wp_append_agg W s x t ho e i z us size bytes ht hi hz hsize hby hzs hus hsz hb base v n xs hs hown q hq hx hone hn hbase h
end Go.Proofs.YtmahledpcpdldaaGreat
