/- A slice of structs of six integers that came in (parameters of type []api.Cap). -/
import Derived.Test.YtmahledpcpdldaaGreatSix
import Derived.Test.YtmahledpcpdldaaGreatGCap
import Derived.Deep.Slices
set_option linter.unusedVariables false
set_option linter.unusedSimpArgs false
namespace Go.Proofs.YtmahledpcpdldaaGreat
open Go.RowKit Go.Joins Go.ChangeShapes Go.WideShapes Go.Deep Go.WideElems Go.Maps
/-- WHAT THE WALK IS TOLD OF A SLICE OF CAPABILITIES THAT CAME IN. -/
def IsCaps (w : World) (a : Option Addr) (len cap : Nat) (V : Nat → CapS) : Prop :=
  len ≤ 9223372036854775807 ∧ (len = 0 ∨ ∃ b o, a = some ⟨b, o, none⟩ ∧ b < w.heap.size ∧ ∀ i, i < len →
    (w.cell? ⟨b, o + i * 6, none⟩ = some (.int .i64 (V i).k) ∧ w.cell? ⟨b, o + i * 6 + 1, none⟩ = some (.int .i64 (V i).r) ∧ w.cell? ⟨b, o + i * 6 + 2, none⟩ = some (.int .i64 (V i).t) ∧
      w.cell? ⟨b, o + i * 6 + 3, none⟩ = some (.int .i64 (V i).l) ∧ w.cell? ⟨b, o + i * 6 + 4, none⟩ = some (.int .i64 (V i).e) ∧ w.cell? ⟨b, o + i * 6 + 5, none⟩ = some (.int .i64 (V i).a)) ∧
    ((Lit.int .i64 (V i).k).wf = true ∧ (Lit.int .i64 (V i).r).wf = true ∧ (Lit.int .i64 (V i).t).wf = true ∧ (Lit.int .i64 (V i).l).wf = true ∧ (Lit.int .i64 (V i).e).wf = true ∧ (Lit.int .i64 (V i).a).wf = true))
section
variable {H : Type} {enc : TypeId × Value → H} {P : Program} {w : World} {base : Nat} {spare : Nat → Bool} {held : Bool}
theorem trod_ints6 {e ei : TypeId} {f0 f1 f2 f3 f4 f5 : Field} {n : Nat} {cs : List Value} {x : DataW H × List MemPlace} (hs : P.underlying e = some (.struct #[f0, f1, f2, f3, f4, f5])) (hone : oneCellFields P #[f0, f1, f2, f3, f4, f5] = true)
    (he : P.underlying ei = some (.int .i64)) (e0 : f0.type = ei) (e1 : f1.type = ei) (e2 : f2.type = ei) (e3 : f3.type = ei) (e4 : f4.type = ei) (e5 : f5.type = ei) (hl : cs.length = 6)
    (h : DataW.trod enc P w base spare held n e cs = some x) :
    ∃ c : CapS, cs = [.int .i64 c.k, .int .i64 c.r, .int .i64 c.t, .int .i64 c.l, .int .i64 c.e, .int .i64 c.a] ∧
      ((Lit.int .i64 c.k).wf = true ∧ (Lit.int .i64 c.r).wf = true ∧ (Lit.int .i64 c.t).wf = true ∧ (Lit.int .i64 c.l).wf = true ∧ (Lit.int .i64 c.e).wf = true ∧ (Lit.int .i64 c.a).wf = true) := by
  match cs, hl with
  | [c0, c1, c2, c3, c4, c5], _ =>
    obtain ⟨xs, k, _, hx, hl, hlen, hff⟩ := DataW.trod_struct hs h
    obtain ⟨o0, k0⟩ := hone_of hone 0 f0 rfl
    obtain ⟨o1, k1⟩ := hone_of hone 1 f1 rfl
    obtain ⟨o2, k2⟩ := hone_of hone 2 f2 rfl
    obtain ⟨o3, k3⟩ := hone_of hone 3 f3 rfl
    obtain ⟨o4, k4⟩ := hone_of hone 4 f4 rfl
    obtain ⟨o5, k5⟩ := hone_of hone 5 f5 rfl
    subst e0
    match xs, hlen with
    | [y0, y1, y2, y3, y4, y5], _ =>
      have h0 : DataW.trod enc P w base spare held k f0.type [c0] = some y0 := by simpa [o0, k0] using hff 0 f0 rfl
      have h1 : DataW.trod enc P w base spare held k f1.type [c1] = some y1 := by simpa [o1, k1] using hff 1 f1 rfl
      have h2 : DataW.trod enc P w base spare held k f2.type [c2] = some y2 := by simpa [o2, k2] using hff 2 f2 rfl
      have h3 : DataW.trod enc P w base spare held k f3.type [c3] = some y3 := by simpa [o3, k3] using hff 3 f3 rfl
      have h4 : DataW.trod enc P w base spare held k f4.type [c4] = some y4 := by simpa [o4, k4] using hff 4 f4 rfl
      have h5 : DataW.trod enc P w base spare held k f5.type [c5] = some y5 := by simpa [o5, k5] using hff 5 f5 rfl
      rw [e1] at h1; rw [e2] at h2; rw [e3] at h3; rw [e4] at h4; rw [e5] at h5
      obtain ⟨a0, q0, rfl, w0⟩ := DataW.trod_int he h0
      obtain ⟨a1, q1, rfl, w1⟩ := DataW.trod_int he h1
      obtain ⟨a2, q2, rfl, w2⟩ := DataW.trod_int he h2
      obtain ⟨a3, q3, rfl, w3⟩ := DataW.trod_int he h3
      obtain ⟨a4, q4, rfl, w4⟩ := DataW.trod_int he h4
      obtain ⟨a5, q5, rfl, w5⟩ := DataW.trod_int he h5
      simp only [List.cons.injEq, and_true] at q0 q1 q2 q3 q4 q5
      subst q0; subst q1; subst q2; subst q3; subst q4; subst q5
      exact ⟨⟨a0, a1, a2, a3, a4, a5⟩, rfl, w0, w1, w2, w3, w4, w5⟩
theorem open_caps {t e ei : TypeId} {f0 f1 f2 f3 f4 f5 : Field} (ht : P.underlying t = some (.slice e)) (hs : P.underlying e = some (.struct #[f0, f1, f2, f3, f4, f5])) (hone : oneCellFields P #[f0, f1, f2, f3, f4, f5] = true) (hC : P.cellsOf e = 6)
    (he : P.underlying ei = some (.int .i64)) (e0 : f0.type = ei) (e1 : f1.type = ei) (e2 : f2.type = ei) (e3 : f3.type = ei) (e4 : f4.type = ei) (e5 : f5.type = ei) {a : Option Addr} {len cap : Nat} {d : DataW H} {p : List MemPlace}
    (h : DataW.Trod enc P w base spare held t (.slice a len cap) d p) : ∃ V, IsCaps w a len cap V := by
  obtain ⟨fuel, hf⟩ := h
  rcases open_slice ht hf with ⟨hcs, _⟩ | ⟨x, l, c, m, n, D, Pl, hcs, hb, hl, hm, hmm, _, hx⟩
  · simp [Value.cells] at hcs
    obtain ⟨rfl, rfl, rfl⟩ := hcs
    exact ⟨fun _ => CapS.zero, by decide, .inl rfl⟩
  · simp [Value.cells] at hcs
    obtain ⟨rfl, rfl, rfl⟩ := hcs
    have hlm : len ≤ m := by rw [hmm]; split <;> omega
    have h63 : len ≤ 9223372036854775807 := by unfold maxLen at hm; omega
    obtain ⟨b, o, spot⟩ := x
    by_cases h0 : len = 0
    · exact ⟨fun _ => CapS.zero, h63, .inl h0⟩
    have each : ∀ i, i < len → ∃ c : CapS, (∀ j, j < 6 → w.cell? ((⟨b, o, spot⟩ : Addr).add (i * 6 + j)) = [Value.int .i64 c.k, .int .i64 c.r, .int .i64 c.t, .int .i64 c.l, .int .i64 c.e, .int .i64 c.a][j]?) ∧
        ((Lit.int .i64 c.k).wf = true ∧ (Lit.int .i64 c.r).wf = true ∧ (Lit.int .i64 c.t).wf = true ∧ (Lit.int .i64 c.l).wf = true ∧ (Lit.int .i64 c.e).wf = true ∧ (Lit.int .i64 c.a).wf = true) := by
      intro i hi
      obtain ⟨cs', h1, h2⟩ := hx i (by omega)
      rw [hC] at h1
      obtain ⟨_, hlen, hcell⟩ := World.cells?_some h1
      obtain ⟨c, rfl, hw⟩ := trod_ints6 hs hone he e0 e1 e2 e3 e4 e5 hlen h2
      exact ⟨c, fun j hj => by rw [← hcell j hj, add_add], hw⟩
    have hinh : Inhabited CapS := ⟨CapS.zero⟩
    obtain ⟨V, hV⟩ := choose_lt each
    have hsp : spot = none := by
      have := (hV 0 (by omega)).1 0 (by omega)
      exact World.cell?_spot (by simpa [Addr.add] using this)
    subst hsp
    have hc : ∀ i, i < len → ∀ j, j < 6 → w.cell? ⟨b, o + (i * 6 + j), none⟩ = [Value.int .i64 (V i).k, .int .i64 (V i).r, .int .i64 (V i).t, .int .i64 (V i).l, .int .i64 (V i).e, .int .i64 (V i).a][j]? := by
      intro i hi j hj
      rw [← (hV i hi).1 j hj, add_plain]
    refine ⟨V, h63, .inr ⟨b, o, rfl, ?_, fun i hi => ⟨⟨?_, ?_, ?_, ?_, ?_, ?_⟩, (hV i hi).2⟩⟩⟩
    · have := hc 0 (by omega) 0 (by omega)
      exact lt_of_cell (a := ⟨b, o + (0 * 6 + 0), none⟩) this
    · exact hc i hi 0 (by omega)
    · exact hc i hi 1 (by omega)
    · exact hc i hi 2 (by omega)
    · exact hc i hi 3 (by omega)
    · exact hc i hi 4 (by omega)
    · exact hc i hi 5 (by omega)
end
end Go.Proofs.YtmahledpcpdldaaGreat
