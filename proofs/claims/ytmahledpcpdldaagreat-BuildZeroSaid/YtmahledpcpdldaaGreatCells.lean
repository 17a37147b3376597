/- Many cells set at once; rows made at once. -/
import Derived.Test.YtmahledpcpdldaaGreatBase
import Derived.Deep.MidRow
import Derived.Laws.MakeOwn
set_option linter.unusedVariables false
set_option linter.unusedSimpArgs false
namespace Go.Proofs.YtmahledpcpdldaaGreat
open Go.RowKit

theorem heap_setCells {b : Nat} {T : TypeId} : ∀ (vs : List Value) (o : Nat) (w : World) (arr : Array Value), w.heap[b]? = some (.cells arr T (0, 0)) →
    ∃ arr', (w.setCells b o vs).heap[b]? = some (.cells arr' T (0, 0))
  | [], _, _, arr, h => ⟨arr, h⟩
  | v :: r, o, w, arr, h => heap_setCells r (o + 1) _ _ (heap_set h v)

theorem Touch.setCells {S : Nat → Prop} {a : World} (b : Nat) (hb : b < a.heap.size → S b) : ∀ (vs : List Value) (o : Nat) (w : World), Touch S a w → Touch S a (w.setCells b o vs)
  | [], _, _, h => h
  | v :: r, o, w, h => Touch.setCells b hb r (o + 1) _ (h.setCell b o v hb)

theorem setCells_block {b b' : Nat} {x : Option Obj} (hn : b' ≠ b) : ∀ (vs : List Value) (o : Nat) (w : World), w.heap[b']? = x → (w.setCells b o vs).heap[b']? = x
  | [], _, _, h => h
  | v :: r, o, w, h => setCells_block hn r (o + 1) _ (heap_set_ne h v hn)

theorem madeCells_at (z : Array Value) (n o : Nat) (ho : o < n) : (madeCells z n)[o]? = some (z[o % z.size]!) := by
  simp [madeCells, ho]

/-- 'make([]E, n)' at a plain region's list. -/
theorem wpList_make {P : Program} {ops : Array Oper} {rest : List Oper} {o : Oper} {a : Act} {w : World} {Q : Exit → Act → World → Prop} (hgd : o.guard = none) (t e : TypeId) (x y : Operand) (ho : o.op = .makeSlice t x y)
    (i : TypeInfo) (z : Value) (ht : P.underlying t = some (.slice e)) (hi : P.info? e = some i) (hz : i.zero = some z) (size : Nat) (hs : i.size = size)
    (n : Nat) (hx : a.eval x = .int .i64 n) (hy : a.eval y = .int .i64 n) (hbytes : (i.bytes : Int) * n ≤ 281474976710656) (h63 : (n : Int) ≤ 9223372036854775807)
    (h : wpList P ops Q rest (a.put o.dst (.slice (some ⟨w.heap.size, 0, none⟩) n n)) (w.alloc (.cells (madeCells z.cells (n * size)) e))) : wpList P ops Q (o :: rest) a w :=
  wpList_plain hgd fun _ hK => by
    unfold Oper.wp execOp
    have := run_make (P := P) w t e i z ht hi hz .i64 .i64 (n : Int) (n : Int) (by omega) (by omega) hbytes h63
    simp only [Int.toNat_natCast, hs] at this
    simp only [ho, hx, hy, Sem.run_bind, this, Result.andThen_ok, Sem.run_pure]
    exact hK _ _ h
end Go.Proofs.YtmahledpcpdldaaGreat
