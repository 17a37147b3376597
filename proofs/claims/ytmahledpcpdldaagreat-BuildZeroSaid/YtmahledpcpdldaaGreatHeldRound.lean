/- A region that draws its order, inside a round of a range over a function: what reads only cells that nobody in the region writes may be taken first. -/
import Derived.Test.YtmahledpcpdldaaGreatGWord
import Derived.OrdersHeld
set_option linter.unusedVariables false
set_option linter.unusedSimpArgs false
namespace Go.Proofs.YtmahledpcpdldaaGreat
open Go.RowKit

variable {F : Fence} {n : Nat} {P : Program} {ops : Array Oper} {Q : Exit → Act → World → Prop} {S : World → Prop} {md : Region.Mode}

/-- In every world that meets S the operation gives v and leaves the world. -/
structure Gives (P : Program) (ops : Array Oper) (S : World → Prop) (o : Oper) (v : Value) (a : Act) : Prop where
  calm : ∀ w, o.about P w a.eval = none
  val : YieldsIf P ops S o v a

theorem Gives.same {o : Oper} {v : Value} {a a' : Act} (h : Gives P ops S o v a) (he : execOp a'.eval o = execOp a.eval o)
    (hw : Region.wanted o (yielded ops a'.tmps) = Region.wanted o (yielded ops a.tmps)) (hb : ∀ w, o.about P w a'.eval = o.about P w a.eval) : Gives P ops S o v a' :=
  ⟨fun w => by rw [hb w]; exact h.calm w, h.val.of_same he hw⟩

theorem Gives.op {i : Nat} {o : Oper} {v : Value} {a : Act} (hnd : noDefer ops = true) (hi : ops[i]? = some o) (h : Gives P ops S o v a) {K : Act → World → Prop} {w : World} (hS : S w) (hK : K (a.put o.dst v) w) : wpOpIn F n P ops Q i K a w := by
  have hab : ∀ f, o.about P w a.eval = some f → F.fn f := fun f hf => by rw [h.calm w] at hf; cases hf
  unfold wpOpIn
  simp only [hi]
  rcases h.val with ⟨hw, hv⟩ | ⟨hw, rfl⟩
  · simp only [hw, if_true, Oper.wpIn, Oper.semAt_plain F _ _ (noDefer_at hnd hi), hv w hS, Oper.uponIn]; exact ⟨hab, hK⟩
  · simp only [hw, Bool.false_eq_true, if_false]; exact ⟨hab, hK⟩

/-- Another operation j that looks at nothing of i's, and i at nothing of j's. -/
theorem Gives.past {j : Nat} {oi oj : Oper} {v : Value} (hnd : noDefer ops = true) (hj : ops[j]? = some oj) (hap : oi.apart ops oj = true)
    (hsi : ∀ cs b, oi.op ≠ .select cs b) (hsj : ∀ cs b, oj.op ≠ .select cs b) (hQ : ∀ c a w, ¬ Q (.panic c) a w) {K : Act → World → Prop} {a : Act} {w : World}
    (hy : Gives P ops S oi v a) (h : wpOpIn F n P ops Q j K (a.put oi.dst v) w) :
    wpOpIn F n P ops Q j (fun a' w' => Gives P ops S oi v a' ∧ K (a'.put oi.dst v) w') a w := by
  obtain ⟨h1, h2, h3⟩ := Oper.apart_spec hap
  have keep : ∀ (a : Act), Gives P ops S oi v a → ∀ u, Gives P ops S oi v (a.put oj.dst u) := fun a hy u =>
    hy.same (execOp_put oi hsi a oj.dst u h3) (wanted_put oi a oj.dst u h3) (fun w => about_put oi w a oj.dst u h3)
  have put : ∀ (a : Act) u, (a.put oi.dst v).put oj.dst u = (a.put oj.dst u).put oi.dst v := fun a u => Act.put_comm a v u h2
  unfold wpOpIn at *
  simp only [hj] at h ⊢
  rw [wanted_put oj a oi.dst v h1, about_put oj w a oi.dst v h1] at h
  split
  · rename_i hw
    simp only [hw, if_true] at h
    unfold Oper.wpIn at *
    rw [about_put oj w a oi.dst v h1] at h
    refine ⟨h.1, ?_⟩
    have h := h.2
    rw [Oper.semAt_plain F _ _ (noDefer_at hnd hj), execOp_put oj hsj a oi.dst v h1] at h
    rw [Oper.semAt_plain F _ _ (noDefer_at hnd hj)]
    generalize (execOp a.eval oj).run P w = r at *
    cases r with
    | ok x w' =>
      cases x <;> simp only [Oper.uponIn] at h ⊢
      case value u => exact ⟨keep a hy u, by rw [← put]; exact h⟩
      case skip => exact ⟨keep a hy _, by rw [← put]; exact h⟩
      case defer d =>
        refine ⟨(hy.same (a' := { a with defers := d :: a.defers }) rfl rfl (fun _ => rfl)).same (execOp_put oi hsi _ oj.dst undef h3) (wanted_put oi _ oj.dst undef h3) (fun w => about_put oi w _ oj.dst undef h3), ?_⟩
        rw [← put, ← Act.put_defers]
        exact h
      case enter f args =>
        refine ⟨h.1, CallsIn.mono h.2 fun e w'' he => ?_⟩
        cases e with
        | returned u => exact ⟨keep a hy u, by rw [← put]; exact he⟩
        | panicked c => exact (hQ _ _ _ he).elim
        | outgrown => exact he
      case row row args => exact ⟨h.1, RowsIn.mono h.2 fun u w'' he => ⟨keep a hy u, by rw [← put]; exact he⟩⟩
      case round l f tmps assign body =>
        refine ⟨h.1, RoundIn.mono h.2 fun e w'' he => ?_⟩
        cases e with
        | returned u => exact ⟨keep a hy u, by rw [← put]; exact he⟩
        | panicked c => exact (hQ _ _ _ he).elim
        | outgrown => exact he
    | halt x w' =>
      cases x <;> simp only [Oper.uponIn] at h ⊢
      case panic u => exact (hQ _ _ _ h).elim
  · rename_i hw
    simp only [hw] at h
    exact ⟨h.1, keep a hy _, by rw [← put]; exact h.2⟩

/-- Whatever order from here on, S being shown behind each operation. -/
def anyS (F : Fence) (n : Nat) (P : Program) (md : Region.Mode) (ops : Array Oper) (Q : Exit → Act → World → Prop) (S : World → Prop) : Nat → Array Bool → Act → World → Prop
  | 0, listed, a, w => Region.ready md ops listed = [] ∧ Q .normal a w
  | fuel + 1, listed, a, w => (Region.ready md ops listed = [] → Q .normal a w) ∧
    ∀ i ∈ Region.ready md ops listed, wpOpIn F n P ops Q i (fun a' w' => S w' ∧ anyS F n P md ops Q S fuel (listed.setIfInBounds i true) a' w') a w
theorem any_of_anyS : ∀ (fuel : Nat) (listed : Array Bool) (a : Act) (w : World), anyS F n P md ops Q S fuel listed a w → wpAnyIn F n P md ops Q fuel listed a w
  | 0, _, _, _, h => h
  | fuel + 1, _, _, _, h => ⟨h.1, fun i hi => wpOpIn_mono (fun a' w' h' => any_of_anyS fuel _ a' w' h'.2) (h.2 i hi)⟩
theorem anyS_first {i : Nat} {oi : Oper} {v : Value} (hnd : noDefer ops = true) (hi : ops[i]? = some oi) (hsel : ∀ (j : Nat) (o : Oper) cs b, ops[j]? = some o → o.op ≠ .select cs b) (hQ : ∀ c a w, ¬ Q (.panic c) a w) :
    ∀ (fuel : Nat) (listed : Array Bool) (a : Act) (w : World),
      (∀ j oj, ops[j]? = some oj → j ≠ i → listed.getD j true = false → (∀ e ∈ oj.after, Region.binds md e = true → e.on ≠ i) → oi.apart ops oj = true) →
      i ∈ Region.ready md ops listed → Gives P ops S oi v a → S w →
      anyS F n P md ops Q S fuel (listed.setIfInBounds i true) (a.put oi.dst v) w → anyS F n P md ops Q S (fuel + 1) listed a w := by
  intro fuel
  induction fuel with
  | zero =>
    intro listed a w _ hr hy hS H
    refine ⟨fun h => (by rw [h] at hr; cases hr), fun j hj => ?_⟩
    by_cases hji : j = i
    · subst hji; exact hy.op hnd hi hS ⟨hS, H⟩
    · have := ready_mono hj hji
      rw [H.1] at this
      cases this
  | succ fuel ih =>
    intro listed a w hfree hr hy hS H
    refine ⟨fun h => (by rw [h] at hr; cases hr), fun j hj => ?_⟩
    by_cases hji : j = i
    · subst hji; exact hy.op hnd hi hS ⟨hS, H⟩
    · have h1 := H.2 j (ready_mono hj hji)
      obtain ⟨hjun, oj, hoj, hall⟩ := mem_ready.1 hj
      have hnot : ∀ e ∈ oj.after, Region.binds md e = true → e.on ≠ i := fun e he hb heq => by
        have h1 := hall e he hb
        have h0 := (mem_ready.1 hr).1
        rw [heq] at h1
        rcases Nat.lt_or_ge i listed.size with h' | h'
        · simp [h'] at h0 h1; rw [h0] at h1; cases h1
        · simp [Array.getElem?_eq_none h'] at h1
      have h2 := hy.past hnd hoj (hfree j oj hoj hji hjun hnot) (fun cs b => hsel i oi cs b hi) (fun cs b => hsel j oj cs b hoj) hQ h1
      have hfree' : ∀ k ok, ops[k]? = some ok → k ≠ i → (listed.setIfInBounds j true).getD k true = false →
          (∀ e ∈ ok.after, Region.binds md e = true → e.on ≠ i) → oi.apart ops ok = true := fun k ok hk hki hun hno => by
        refine hfree k ok hk hki ?_ hno
        by_cases hjk : j = k
        · subst hjk; exact hjun
        · rw [getD_set_ne true hjk] at hun; exact hun
      refine wpOpIn_mono (fun a' w' h3 => ⟨h3.2.1, ih (listed.setIfInBounds j true) a' w' hfree' (ready_mono hr (Ne.symm hji)) h3.1 h3.2.1 ?_⟩) h2
      rw [Array.setIfInBounds_comm _ _ hji]
      exact h3.2.2
theorem anyS_take (i : Nat) {oi : Oper} {v : Value} {fuel : Nat} {listed : Array Bool} {a : Act} {w : World} (hi : ops[i]? = some oi) (hnd : noDefer ops = true)
    (hs : Region.noSelect ops = true) (hf : Region.free md ops listed i = true) (hr : (Region.ready md ops listed).contains i = true) (hQ : ∀ c a w, ¬ Q (.panic c) a w)
    (hy : Gives P ops S oi v a) (hS : S w) (h : anyS F n P md ops Q S fuel (listed.setIfInBounds i true) (a.put oi.dst v) w) : anyS F n P md ops Q S (fuel + 1) listed a w :=
  anyS_first hnd hi (Region.noSelect_spec hs) hQ fuel listed a w (Region.free_spec hi hf) (by simpa using hr) hy hS h
theorem anyS_all (rs : List Nat) {fuel : Nat} {listed : Array Bool} {a : Act} {w : World} (hr : Region.ready md ops listed = rs) (hne : rs ≠ [])
    (h : ∀ i ∈ rs, wpOpIn F n P ops Q i (fun a' w' => S w' ∧ anyS F n P md ops Q S fuel (listed.setIfInBounds i true) a' w') a w) : anyS F n P md ops Q S (fuel + 1) listed a w :=
  ⟨fun h0 => absurd (hr ▸ h0) hne, hr ▸ h⟩
theorem anyS_done {listed : Array Bool} {a : Act} {w : World} (hr : Region.ready md ops listed = []) (h : Q .normal a w) : ∀ fuel, anyS F n P md ops Q S fuel listed a w
  | 0 => ⟨hr, h⟩
  | _ + 1 => ⟨fun _ => h, by rw [hr]; simp⟩

theorem op_value {i : Nat} {o : Oper} {v : Value} {a : Act} {w w' : World} {K : Act → World → Prop} (hi : ops[i]? = some o) (hnd : noDefer ops = true) (hw : Region.wanted o (yielded ops a.tmps) = true) (hab : o.about P w a.eval = none)
    (hr : (execOp a.eval o).run P w = .ok (.value v) w') (hK : K (a.put o.dst v) w') : wpOpIn F n P ops Q i K a w := by
  unfold wpOpIn
  simp only [hi, hw, if_true, Oper.wpIn, Oper.semAt_plain F _ _ (noDefer_at hnd hi), hr, Oper.uponIn]
  exact ⟨fun f hf => (by rw [hab] at hf; cases hf), hK⟩
theorem op_skip {i : Nat} {o : Oper} {a : Act} {w w' : World} {K : Act → World → Prop} (hi : ops[i]? = some o) (hnd : noDefer ops = true) (hw : Region.wanted o (yielded ops a.tmps) = true) (hab : o.about P w a.eval = none)
    (hr : (execOp a.eval o).run P w = .ok .skip w') (hK : K (a.put o.dst undef) w') : wpOpIn F n P ops Q i K a w := by
  unfold wpOpIn
  simp only [hi, hw, if_true, Oper.wpIn, Oper.semAt_plain F _ _ (noDefer_at hnd hi), hr, Oper.uponIn]
  exact ⟨fun f hf => (by rw [hab] at hf; cases hf), hK⟩
theorem op_enterB {i : Nat} {o : Oper} {v : Value} {a : Act} {w : World} {K : Act → World → Prop} {f : FuncId} {args : Array Value} (hi : ops[i]? = some o) (hnd : noDefer ops = true) (hw : Region.wanted o (yielded ops a.tmps) = true) (hF : ∀ f, F.fn f) (hd : F.depth = none)
    (hr : (execOp a.eval o).run P w = .ok (.enter f args) w) (hc : CallsIn F (n - 1) P f args w fun e w' => e = .returned v ∧ Below w.heap.size w w') (hK : ∀ w', Below w.heap.size w w' → K (a.put o.dst v) w') : wpOpIn F n P ops Q i K a w := by
  unfold wpOpIn
  simp only [hi, hw, if_true, Oper.wpIn, Oper.semAt_plain F _ _ (noDefer_at hnd hi), hr, Oper.uponIn]
  refine ⟨fun f _ => hF f, fun h => (by rw [hd] at h; cases h), hc.mono ?_⟩
  rintro e w' ⟨rfl, hb⟩
  exact hK _ hb
theorem op_enter {i : Nat} {o : Oper} {v : Value} {a : Act} {w : World} {K : Act → World → Prop} {f : FuncId} {args : Array Value} (hi : ops[i]? = some o) (hnd : noDefer ops = true) (hw : Region.wanted o (yielded ops a.tmps) = true) (hF : ∀ f, F.fn f) (hd : F.depth = none)
    (hr : (execOp a.eval o).run P w = .ok (.enter f args) w) (hc : CallsIn F (n - 1) P f args w fun e w' => e = .returned v ∧ w = w') (hK : K (a.put o.dst v) w) : wpOpIn F n P ops Q i K a w := by
  unfold wpOpIn
  simp only [hi, hw, if_true, Oper.wpIn, Oper.semAt_plain F _ _ (noDefer_at hnd hi), hr, Oper.uponIn]
  refine ⟨fun f _ => hF f, fun h => (by rw [hd] at h; cases h), hc.mono ?_⟩
  rintro e w' ⟨rfl, rfl⟩
  exact hK

/-- 'R behind the region', and no panic. -/
def OnNormal (R : Act → World → Prop) : Exit → Act → World → Prop
  | .normal, a, w => R a w
  | _, _, _ => False
theorem region_held_round {id : Nat} {a : Act} {w : World} {l : List Oper} {Q : Exit → Act → World → Prop} (S : World → Prop) (hm : P.follows .mixedOrders = true)
    (h : anyS F n P .any l.toArray (OnNormal (Q .normal)) S l.length (List.replicate l.length false).toArray a w.drew) : (Code.region id l.toArray true).wpIn F n P Q a w := by
  refine wpIn_mono (wpIn_region_any (Q := OnNormal (Q .normal)) hm ?_) (fun e a w h => by cases e <;> first | exact h | exact h.elim)
  have := any_of_anyS _ _ _ _ h
  simpa using this
end Go.Proofs.YtmahledpcpdldaaGreat
