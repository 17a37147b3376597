/- Unpack: a word's parts. -/
import Derived.Test.YtmahledpcpdldaaGreatAll
import Derived.Test.YtmahledpcpdldaaGreatHeldRound
set_option linter.unusedVariables false
set_option linter.unusedSimpArgs false
namespace Go.Proofs.YtmahledpcpdldaaGreat
open Go.RowKit Go.Shelf

attribute [local go_sem] Oper.semAt_some wide_fn

theorem Tryz.infoU64 : (Tryz.prog.info? 150).map (fun i => (i.zero, i.size, i.bytes)) = some (some (.int .u64 0), 1, 8) := by kernel_rfl

theorem ownBlock_ge {W : World} {base : Nat} {e : TypeId} {size : Nat} {v : Value} {k : Nat} {xs : List Value} (h : W.ownsRow base e size v k xs) {b : Nat} (hb : b < base) : some b ≠ v.ownBlock := by
  rcases h.2 with ⟨rfl, _⟩ | ⟨g, cap, cur, rfl, hg, _⟩
  · simp [Value.ownBlock]
  · intro e; simp [Value.ownBlock] at e; omega
theorem ownsRow_base {W : World} {base base' : Nat} {e : TypeId} {size : Nat} {v : Value} {k : Nat} {xs : List Value} (h : W.ownsRow base e size v k xs) (hb : base' ≤ base) : W.ownsRow base' e size v k xs :=
  ⟨h.1, h.2.imp id (fun ⟨g, cap, cur, hv, hg, r⟩ => ⟨g, cap, cur, hv, Nat.le_trans hb hg, r⟩)⟩
def partAt (ns : List Int) (v : Int) (x : Fin ns.length) : Int := bits .and .u64 (v / 2 ^ (offs ns x.1).toNat) (maskN (ns[x.1]?.getD 0))
def partsL (ns : List Int) (v : Int) (pre : List (Fin ns.length)) : List Value := pre.map fun x => .int .u64 (partAt ns v x)

def upA (bn on cn : Nat) (v : Int) (B i : Nat) (o : Int) (len : Nat) (s15 s16 s17 s18 s19 s20 s21 s22 s23 s24 s25 s26 : Value) : Act :=
  { tmps := #[.slice (some ⟨bn, on, none⟩) len cn, .int .u64 v, .pointer (some ⟨B, 0, none⟩), .pointer (some ⟨B + 1, 0, none⟩), .pointer (some ⟨B + 1 + 1, 0, none⟩), .pointer (some ⟨B + 1 + 1 + 1, 0, none⟩), .pointer (some ⟨B + 1 + 1 + 1 + 1, 0, none⟩),
      .int .i64 (i : Int), .int .i64 o, .slice (some ⟨bn, on, none⟩) len cn,
      .func (.func 303) #[] #[.pointer (some ⟨B + 1 + 1 + 1 + 1 + 1, 0, none⟩)], .int .i64 (i : Int), .int .i64 o, .int .i64 o, .bool (decide (o < 0)), s15, s16, s17, s18, s19, s20, s21, s22, s23, s24, s25, s26, undef, undef, undef, undef, undef, undef], defers := [] }
theorem ownsRow_ints {W : World} {base : Nat} {e : TypeId} {r : Value} {n : Nat} {xs : List Int} (h : W.ownsRow base e 1 r n (xs.map (Value.int .u64))) (hn : 1 ≤ n) :
    ∃ g cap, r = .slice (some ⟨g, 0, none⟩) n cap ∧ base ≤ g ∧ (∃ cur, W.heap[g]? = some (.cells cur e (0, 0))) ∧ ∀ j, j < n → W.cell? ⟨g, j, none⟩ = some (.int .u64 (xs[j]?.getD 0)) := by
  obtain ⟨hl, ⟨_, h0⟩ | ⟨g, cap, cur, rfl, hb, hg, _, _, _, ht⟩⟩ := h
  · omega
  · refine ⟨g, cap, rfl, hb, ⟨cur, hg⟩, fun j hj => ?_⟩
    have hx : j < xs.length := by simp at hl; omega
    rw [cell_of hg]
    have e1 : cur.toList[j]? = (xs.map (Value.int .u64))[j]? := by rw [← ht, List.getElem?_take, if_pos (by omega)]
    rw [← Array.getElem?_toList, e1]
    simp [hx]
def partsI (ns : List Int) (v : Int) : List Int := (List.finRange ns.length).map (partAt ns v)
theorem partsL_I (ns : List Int) (v : Int) : partsL ns v (List.finRange ns.length) = (partsI ns v).map (Value.int .u64) := by simp [partsL, partsI]
theorem partsI_at (ns : List Int) (v : Int) {j : Nat} (hj : j < ns.length) : (partsI ns v)[j]?.getD 0 = partAt ns v ⟨j, hj⟩ := by simp [partsI, hj]
def upD (bn on cn : Nat) (v : Int) (B len D : Nat) (s27 s28 s29 s30 s31 : Value) : Act :=
  { tmps := #[.slice (some ⟨bn, on, none⟩) len cn, .int .u64 v, .pointer (some ⟨B, 0, none⟩), .pointer (some ⟨B + 1, 0, none⟩), .pointer (some ⟨B + 1 + 1, 0, none⟩), .pointer (some ⟨B + 1 + 1 + 1, 0, none⟩), .pointer (some ⟨B + 1 + 1 + 1 + 1, 0, none⟩), undef, undef,
      .slice (some ⟨bn, on, none⟩) len cn, .func (.func 303) #[] #[.pointer (some ⟨B + 1 + 1 + 1 + 1 + 1, 0, none⟩)], undef, undef, undef, undef, undef, undef, undef, undef, undef, undef, undef, undef, undef, undef, undef, undef, s27, s28, s29, s30, s31, undef],
    defers := [{ target := .collected D, args := #[] }] }
set_option maxRecDepth 100000 in
set_option maxHeartbeats 4000000 in
theorem f_unpack0 (ns : List Int) (bn on cn : Nat) (v : Int) (w : World) (hw : WOk ns) (hmx : ns.length ≤ 64) (hn : IntsAt w bn on .i64 ns) (h0 : 0 ≤ v) (h1 : v < 18446744073709551616) (hends : 0 ≤ offs ns ns.length ∧ offs ns ns.length ≤ 64) (hpos : 1 ≤ ns.length) :
    Calls Tryz.prog 277 #[.slice (some ⟨bn, on, none⟩) ns.length cn, .int .u64 v] w fun e w' => Below w.heap.size w w' ∧
      ((fitsB v (offs ns ns.length) = true ∧ ∃ g cap, e = .returned (.tuple #[.slice (some ⟨g, 0, none⟩) ns.length cap, .int .i64 0]) ∧ w.heap.size ≤ g ∧ ∀ j, j < ns.length → w'.cell? ⟨g, j, none⟩ = some (.int .u64 ((partsI ns v)[j]?.getD 0))) ∨
       (fitsB v (offs ns ns.length) = false ∧ e = .returned (.tuple #[.slice none 0 0, .int .i64 1]))) := by
  obtain ⟨hnl, hnc⟩ := id hn
  refine (callsIn_wide (n := 4)).1 ?_
  refine callsIn_of_wp_marks Tryz.func277 rfl trivial ?_ rfl
  simp only [Tryz.ntmps277, List.size_toArray, List.length_cons, List.length_nil, Nat.reduceAdd, Nat.reduceSub, Array.replicate_succ, Array.replicate_zero, List.push_toArray, List.append_toArray, List.nil_append, List.cons_append]
  gi_wp2_with (gi_at_call 287; refine (callsIn_wide.2 (f_places _ _ _ _)).mono ?_; rintro e w' ⟨rfl, rfl⟩)
  obtain ⟨B, hB⟩ : ∃ B, B = w.heap.size := ⟨_, rfl⟩
  obtain ⟨wl, hwl⟩ : ∃ y : World, y = ((((((w.alloc (.cells #[.slice (some ⟨bn, on, none⟩) ns.length cn] 25 (0, 0))).alloc (.cells #[.int .u64 v] 150 (0, 0))).alloc (.cells #[.slice none 0 0] 160 (0, 0))).alloc (.cells #[.int .i64 0] 28 (0, 0))).alloc (.cells #[.slice none 0 0] 160 (0, 0))).alloc (.cells #[.slice (some ⟨bn, on, none⟩) ns.length cn] 25 (0, 0))) := ⟨_, rfl⟩
  have b0 : Boxed wl B 25 (.slice (some ⟨bn, on, none⟩) ns.length cn) := by rw [hwl]; exact heap_alloc (heap_alloc (heap_alloc (heap_alloc (heap_alloc (heap_new' hB _) _) _) _) _) _
  have b1 : Boxed wl (B + 1) 150 (.int .u64 v) := by rw [hwl]; exact heap_alloc (heap_alloc (heap_alloc (heap_alloc (heap_new' (by simp [hB]) _) _) _) _) _
  have b2 : Boxed wl (B + 1 + 1) 160 (.slice none 0 0) := by rw [hwl]; exact heap_alloc (heap_alloc (heap_alloc (heap_new' (by simp [hB]) _) _) _) _
  have b3 : Boxed wl (B + 1 + 1 + 1) 28 (.int .i64 0) := by rw [hwl]; exact heap_alloc (heap_alloc (heap_new' (by simp [hB]) _) _) _
  have b4 : Boxed wl (B + 1 + 1 + 1 + 1) 160 (.slice none 0 0) := by rw [hwl]; exact heap_alloc (heap_new' (by simp [hB]) _) _
  have b5 : Boxed wl (B + 1 + 1 + 1 + 1 + 1) 25 (.slice (some ⟨bn, on, none⟩) ns.length cn) := by rw [hwl]; exact heap_new' (by simp [hB]) _
  have hbl : Below w.heap.size w wl := by rw [hwl]; (refine Touch.below0 ?_; (repeat' (first | (with_reducible exact Touch.refl _ _) | (with_reducible assumption) | (with_reducible refine Touch.drew ?_) | (with_reducible refine Touch.drewN ?_ _) | (with_reducible refine Touch.alloc ?_ _) | (with_reducible refine Touch.setCell ?_ _ _ _ ?_) | (with_reducible refine Touch.step (by assumption) ?_) | (with_reducible refine Touch.stepT (by assumption) ?_ ?_) | (intro _; first | rfl | trivial | omega | (simp; done) | (simp; omega)) | (intro _ _; first | omega | (simp; done) | (simp; omega)))))
  have hsl : wl.heap.size = B + 1 + 1 + 1 + 1 + 1 + 1 := by rw [hwl]; simp [hB]
  rw [← hwl, ← hB]
  have hB1 : w.heap.size ≤ B := by omega
  have hB2 : B ≤ w.heap.size := by omega
  clear hwl hB
  refine wpIn_rangeFunc_ownF rfl (by omega) (gf := 303) (lb := #[.pointer (some ⟨B + 1 + 1 + 1 + 1 + 1, 0, none⟩)]) rfl trivial (enters_of Tryz.func303 (by kernel_rfl) rfl)
    (places_stops _ (by omega) (B + 1 + 1 + 1 + 1 + 1) w.heap.size bn on cn ns hw hmx wl (by omega) (by omega) hnl b5.cell (fun j hj => (hbl.cell (p := ⟨bn, on + j, none⟩) hnl).trans (hnc j hj)))
    belowK_t (belowK_b (by omega)) (Below.refl _ _) (fun _ => rfl)
    (fun pre W => ((Boxed W B 25 (.slice (some ⟨bn, on, none⟩) ns.length cn) ∧ Boxed W (B + 1) 150 (.int .u64 v) ∧ Boxed W (B + 1 + 1) 160 (.slice none 0 0) ∧ Boxed W (B + 1 + 1 + 1) 28 (.int .i64 0)) ∧
      (∃ r, Boxed W (B + 1 + 1 + 1 + 1) 160 r ∧ W.ownsRow wl.heap.size 150 1 r pre.length (partsL ns v pre) ∧ pre.length ≤ pre.length) ∧ wl.heap.size ≤ W.heap.size) ∧ Below w.heap.size w W)
    (fun _ _ _ => False)
    (OwnFrom.and (Own.from (fun s A C row hs hg hr => ⟨⟨Boxed.keptOwn hs.1.1 hg hr, Boxed.keptOwn hs.1.2.1 hg hr, Boxed.keptOwn hs.1.2.2.1 hg hr, Boxed.keptOwn hs.1.2.2.2 hg hr⟩, holdsRow_own wl.heap.size (B + 1 + 1 + 1 + 1) 160 150 1 (fun pre => pre.length) (fun pre => partsL ns v pre) (fun pre _ => pre.length ≤ pre.length) s A C row hs.2.1 hg hr, Nat.le_trans hs.2.2 hg.size⟩) _) (ownFrom_below (Nat.le_refl _) (by omega)))
    (fun _ _ _ _ _ hs _ _ => hs)
    ⟨⟨⟨b0, b1, b2, b3⟩, ⟨_, b4, ⟨rfl, .inl ⟨rfl, rfl⟩⟩, Nat.le_refl _⟩, Nat.le_refl _⟩, hbl⟩
    (fun x => { tmps := #[.slice (some ⟨bn, on, none⟩) ns.length cn, .int .u64 v, .pointer (some ⟨B, 0, none⟩), .pointer (some ⟨B + 1, 0, none⟩), .pointer (some ⟨B + 1 + 1, 0, none⟩), .pointer (some ⟨B + 1 + 1 + 1, 0, none⟩), .pointer (some ⟨B + 1 + 1 + 1 + 1, 0, none⟩),
      .int .i64 (x.1 : Int), .int .i64 (offs ns x.1), .slice (some ⟨bn, on, none⟩) ns.length cn,
      .func (.func 303) #[] #[.pointer (some ⟨B + 1 + 1 + 1 + 1 + 1, 0, none⟩)], .int .i64 (x.1 : Int), .int .i64 (offs ns x.1), undef, undef, undef, undef, undef, undef, undef, undef, undef, undef, undef, undef, undef, undef, undef, undef, undef, undef, undef, undef], defers := [] }) ?assign ?body ?done ?stop
  case assign =>
    intro l x W K hK
    dsimp only [penc]
    gi_wp2
    exact hK
  case body =>
    rintro l pre x W ⟨⟨⟨b0, b1, b2, b3⟩, ⟨r, b4, hrow, -⟩, hsz⟩, hbw⟩ hlen
    have gn0 : W.cell? ⟨bn, on + x.1, none⟩ = some (.int .i64 (ns[x.1]?.getD 0)) := (hbw.cell (p := ⟨bn, on + x.1, none⟩) hnl).trans (hnc _ x.2)
    have hx2 := x.2
    obtain ⟨q0, q1, q2⟩ := hw.at x.2
    obtain ⟨o, HO⟩ : ∃ o, Hid (offs ns x.1 = o) := ⟨_, Lib.hid rfl⟩
    rw [HO.out] at q0 q2 ⊢
    gi_wp2
    generalize hz : ns[x.1]?.getD 0 = z at *
    have HZ := Lib.hid hz
    have c0 := b0.cell; have c1 := b1.cell; have c4 := b4.cell
    obtain ⟨S, hSS⟩ : ∃ S : World → Prop, S = (fun w' => w'.cell? ⟨B + 1, 0, none⟩ = some (.int .u64 v) ∧ w'.cell? ⟨B, 0, none⟩ = some (.slice (some ⟨bn, on, none⟩) ns.length cn) ∧ w'.cell? ⟨bn, on + x.1, none⟩ = some (.int .i64 z)) := ⟨_, rfl⟩
    refine region_held_round S (by kernel_rfl) ?_
    have hS : S W.drew := by rw [hSS]; exact ⟨c1, c0, gn0⟩
    show anyS _ _ _ _ _ _ _ _ _ (upA bn on cn v B x.1 o ns.length undef undef undef undef undef undef undef undef undef undef undef undef) _
    refine anyS_take (v := (.int .u64 v)) 1 rfl (by kernel_rfl) (by kernel_rfl) (by kernel_rfl) (by kernel_rfl) (fun _ _ _ h => h) ⟨fun _ => rfl, Or.inl ⟨by rfl, fun w' hS' => ?_⟩⟩ hS ?_
    · rw [hSS] at hS'
      obtain ⟨s1, s2, s3⟩ := hS'
      simp only [upA]
      go_simp
      try with_reducible rfl
    show anyS _ _ _ _ _ _ _ _ _ (upA bn on cn v B x.1 o ns.length undef (.int .u64 v) undef undef undef undef undef undef undef undef undef undef) _
    refine anyS_take (v := (.int .i64 o)) 2 rfl (by kernel_rfl) (by kernel_rfl) (by kernel_rfl) (by kernel_rfl) (fun _ _ _ h => h) ⟨fun _ => rfl, Or.inl ⟨by rfl, fun w' hS' => ?_⟩⟩ hS ?_
    · rw [hSS] at hS'
      obtain ⟨s1, s2, s3⟩ := hS'
      simp only [upA]
      go_simp
      try with_reducible rfl
    show anyS _ _ _ _ _ _ _ _ _ (upA bn on cn v B x.1 o ns.length undef (.int .u64 v) (.int .i64 o) undef undef undef undef undef undef undef undef undef) _
    refine anyS_take (v := (.int .u64 (v / 2 ^ o.toNat))) 3 rfl (by kernel_rfl) (by kernel_rfl) (by kernel_rfl) (by kernel_rfl) (fun _ _ _ h => h) ⟨fun _ => rfl, Or.inl ⟨by rfl, fun w' hS' => ?_⟩⟩ hS ?_
    · rw [hSS] at hS'
      obtain ⟨s1, s2, s3⟩ := hS'
      simp only [upA]
      go_simp
      try with_reducible rfl
    show anyS _ _ _ _ _ _ _ _ _ (upA bn on cn v B x.1 o ns.length undef (.int .u64 v) (.int .i64 o) (.int .u64 (v / 2 ^ o.toNat)) undef undef undef undef undef undef undef undef) _
    refine anyS_take (v := (.slice (some ⟨bn, on, none⟩) ns.length cn)) 4 rfl (by kernel_rfl) (by kernel_rfl) (by kernel_rfl) (by kernel_rfl) (fun _ _ _ h => h) ⟨fun _ => rfl, Or.inl ⟨by rfl, fun w' hS' => ?_⟩⟩ hS ?_
    · rw [hSS] at hS'
      obtain ⟨s1, s2, s3⟩ := hS'
      simp only [upA]
      go_simp
      try with_reducible rfl
    show anyS _ _ _ _ _ _ _ _ _ (upA bn on cn v B x.1 o ns.length undef (.int .u64 v) (.int .i64 o) (.int .u64 (v / 2 ^ o.toNat)) (.slice (some ⟨bn, on, none⟩) ns.length cn) undef undef undef undef undef undef undef) _
    refine anyS_take (v := (.int .i64 (x.1 : Int))) 5 rfl (by kernel_rfl) (by kernel_rfl) (by kernel_rfl) (by kernel_rfl) (fun _ _ _ h => h) ⟨fun _ => rfl, Or.inl ⟨by rfl, fun w' hS' => ?_⟩⟩ hS ?_
    · rw [hSS] at hS'
      obtain ⟨s1, s2, s3⟩ := hS'
      simp only [upA]
      go_simp
      try with_reducible rfl
    show anyS _ _ _ _ _ _ _ _ _ (upA bn on cn v B x.1 o ns.length undef (.int .u64 v) (.int .i64 o) (.int .u64 (v / 2 ^ o.toNat)) (.slice (some ⟨bn, on, none⟩) ns.length cn) (.int .i64 (x.1 : Int)) undef undef undef undef undef undef) _
    refine anyS_take (v := (.pointer (some ⟨bn, on + x.1, none⟩))) 6 rfl (by kernel_rfl) (by kernel_rfl) (by kernel_rfl) (by kernel_rfl) (fun _ _ _ h => h) ⟨fun _ => rfl, Or.inl ⟨by rfl, fun w' hS' => ?_⟩⟩ hS ?_
    · rw [hSS] at hS'
      obtain ⟨s1, s2, s3⟩ := hS'
      simp only [upA]
      go_simp
      try with_reducible rfl
    show anyS _ _ _ _ _ _ _ _ _ (upA bn on cn v B x.1 o ns.length undef (.int .u64 v) (.int .i64 o) (.int .u64 (v / 2 ^ o.toNat)) (.slice (some ⟨bn, on, none⟩) ns.length cn) (.int .i64 (x.1 : Int)) (.pointer (some ⟨bn, on + x.1, none⟩)) undef undef undef undef undef) _
    refine anyS_take (v := (.int .i64 z)) 7 rfl (by kernel_rfl) (by kernel_rfl) (by kernel_rfl) (by kernel_rfl) (fun _ _ _ h => h) ⟨fun _ => rfl, Or.inl ⟨by rfl, fun w' hS' => ?_⟩⟩ hS ?_
    · rw [hSS] at hS'
      obtain ⟨s1, s2, s3⟩ := hS'
      simp only [upA]
      go_simp
      try with_reducible rfl
    show anyS _ _ _ _ _ _ _ _ _ (upA bn on cn v B x.1 o ns.length undef (.int .u64 v) (.int .i64 o) (.int .u64 (v / 2 ^ o.toNat)) (.slice (some ⟨bn, on, none⟩) ns.length cn) (.int .i64 (x.1 : Int)) (.pointer (some ⟨bn, on + x.1, none⟩)) (.int .i64 z) undef undef undef undef) _
    obtain ⟨pt, HP⟩ : ∃ pt, Hid (bits .and .u64 (v / 2 ^ o.toNat) (maskN z) = pt) := ⟨_, Lib.hid rfl⟩
    obtain ⟨w2, hw2⟩ : ∃ y : World, y = W.drew.alloc (.cells #[.int .u64 pt] 150 (0, 0)) := ⟨_, rfl⟩
    have hb2 : Below W.heap.size W (W.drew.alloc (.cells #[.int .u64 pt] 150 (0, 0))) := ((Below.refl _ W).drew).alloc (Nat.le_refl _) _
    have hS2 : S (W.drew.alloc (.cells #[.int .u64 pt] 150 (0, 0))) := by
      rw [hSS]
      exact ⟨(hb2.cell (p := ⟨B + 1, 0, none⟩) b1.lt).trans c1, (hb2.cell (p := ⟨B, 0, none⟩) b0.lt).trans c0, (hb2.cell (p := ⟨bn, on + x.1, none⟩) (Nat.lt_of_lt_of_le hnl hbw.size)).trans gn0⟩
    have c42 : (W.drew.alloc (.cells #[.int .u64 pt] 150 (0, 0))).cell? ⟨B + 1 + 1 + 1 + 1, 0, none⟩ = some r := (hb2.cell (p := ⟨B + 1 + 1 + 1 + 1, 0, none⟩) b4.lt).trans c4
    have c43 : (W.alloc (.cells #[.int .u64 pt] 150 (0, 0))).cell? ⟨B + 1 + 1 + 1 + 1, 0, none⟩ = some r := c42
    obtain ⟨i0, hi, hz0, hz1, hz2⟩ := info_parts Tryz.infoU64
    have hrow2 : (W.drew.alloc (.cells #[.int .u64 pt] 150 (0, 0))).ownsRow wl.heap.size 150 1 r pre.length (partsL ns v pre) := World.ownsRow.alloc (w := W.drew) hrow _
    obtain ⟨v', w1, hrun, hown', hgrow, -⟩ := run_append_own (P := Tryz.prog) (W.drew.alloc (.cells #[.int .u64 pt] 150 (0, 0))) wl.heap.size 160 160 150 i0 (.int .u64 0) 1 8 Tryz.underlying160 hi hz0 hz1 hz2 rfl (by decide) r pre.length (partsL ns v pre) hrow2 ⟨W.heap.size, 0, none⟩ 1 1 [.int .u64 pt] rfl (cell_one_new _ _ _) (by simp [Value.oneCell']) (by unfold maxLen; omega) (by omega) (by simp; omega)
    obtain ⟨g', cap', rfl⟩ := ownsRow_succ hown'
    have hkeep : ∀ k, k < wl.heap.size → w1.heap[k]? = W.heap[k]? := fun k hk => (hgrow.block k (by simp; omega) (ownBlock_ge hrow hk)).trans (hb2.block k (by omega))
    have hS3 : S w1 := by
      rw [hSS]
      have k0 : Boxed w1 B 25 (.slice (some ⟨bn, on, none⟩) ns.length cn) := (hkeep B (by omega)).trans b0
      have k1 : Boxed w1 (B + 1) 150 (.int .u64 v) := (hkeep (B + 1) (by omega)).trans b1
      exact ⟨k1.cell, k0.cell, by rw [World.cell?_of_block (a := ⟨bn, on + x.1, none⟩) (hkeep bn (by omega))]; exact gn0⟩
    have k4 : Boxed w1 (B + 1 + 1 + 1 + 1) 160 r := (hkeep _ (by omega)).trans b4
    have c41 := k4.cell; have f41 := k4.frozen
    have hS4 : S (w1.setCell ⟨B + 1 + 1 + 1 + 1, 0, none⟩ (.slice (some ⟨g', 0, none⟩) (pre.length + 1) cap')) := by
      rw [hSS] at hS3 ⊢
      obtain ⟨s1, s2, s3⟩ := hS3
      exact ⟨(World.cell?_of_block (a := ⟨B + 1, 0, none⟩) (heap_set_ne rfl _ (show B + 1 ≠ B + 1 + 1 + 1 + 1 by omega))).trans s1, (World.cell?_of_block (a := ⟨B, 0, none⟩) (heap_set_ne rfl _ (show B ≠ B + 1 + 1 + 1 + 1 by omega))).trans s2, (World.cell?_of_block (a := ⟨bn, on + x.1, none⟩) (heap_set_ne rfl _ (show bn ≠ B + 1 + 1 + 1 + 1 by omega))).trans s3⟩
    have hparts : partsL ns v (pre ++ [x]) = partsL ns v pre ++ [.int .u64 pt] := by
      unfold partsL; rw [List.map_append, List.map_singleton, partAt, HO.out, HZ.out, HP.out]
    have hKO : KeepsOthers W (w1.setCell ⟨B + 1 + 1 + 1 + 1, 0, none⟩ (.slice (some ⟨g', 0, none⟩) (pre.length + 1) cap')) := by
      refine (KeepsOthers.drew W).trans ((KeepsOthers.alloc W.drew _).trans ((KeepsOthers.of_grownBy hgrow fun j o ej hj => ?_).trans (KeepsOthers.setCell _ _ _)))
      rcases hrow2.2 with ⟨rfl, _⟩ | ⟨g, cap, cur, rfl, _, hgb, _⟩
      · simp [Value.ownBlock] at ej
      · obtain rfl : g = j := by simpa [Value.ownBlock] using ej
        rw [hgb] at hj; cases hj; rfl
    have hKB : Below w.heap.size W (w1.setCell ⟨B + 1 + 1 + 1 + 1, 0, none⟩ (.slice (some ⟨g', 0, none⟩) (pre.length + 1) cap')) := by
      refine Below.setCell (p := ⟨B + 1 + 1 + 1 + 1, 0, none⟩) ?_ (by show w.heap.size ≤ B + 1 + 1 + 1 + 1; omega) _
      refine (((Below.refl w.heap.size W).drew).alloc hbw.size _).grown hgrow (by simp; have := hbw.size; omega) fun j ej => ?_
      rcases hrow.2 with ⟨rfl, _⟩ | ⟨g, cap, cur, rfl, hb, _, _⟩
      · simp [Value.ownBlock] at ej
      · obtain rfl : g = j := by simpa [Value.ownBlock] using ej
        omega
    have m0 : Boxed (w1.setCell ⟨B + 1 + 1 + 1 + 1, 0, none⟩ (.slice (some ⟨g', 0, none⟩) (pre.length + 1) cap')) B 25 (.slice (some ⟨bn, on, none⟩) ns.length cn) := Boxed.other ((hkeep _ (by omega)).trans b0) (by omega) _
    have m1 : Boxed (w1.setCell ⟨B + 1 + 1 + 1 + 1, 0, none⟩ (.slice (some ⟨g', 0, none⟩) (pre.length + 1) cap')) (B + 1) 150 (.int .u64 v) := Boxed.other ((hkeep _ (by omega)).trans b1) (by omega) _
    have m2 : Boxed (w1.setCell ⟨B + 1 + 1 + 1 + 1, 0, none⟩ (.slice (some ⟨g', 0, none⟩) (pre.length + 1) cap')) (B + 1 + 1) 160 (.slice none 0 0) := Boxed.other ((hkeep _ (by omega)).trans b2) (by omega) _
    have m3 : Boxed (w1.setCell ⟨B + 1 + 1 + 1 + 1, 0, none⟩ (.slice (some ⟨g', 0, none⟩) (pre.length + 1) cap')) (B + 1 + 1 + 1) 28 (.int .i64 0) := Boxed.other ((hkeep _ (by omega)).trans b3) (by omega) _
    have m4 : Boxed (w1.setCell ⟨B + 1 + 1 + 1 + 1, 0, none⟩ (.slice (some ⟨g', 0, none⟩) (pre.length + 1) cap')) (B + 1 + 1 + 1 + 1) 160 (.slice (some ⟨g', 0, none⟩) (pre.length + 1) cap') := k4.set _
    have mrow : (w1.setCell ⟨B + 1 + 1 + 1 + 1, 0, none⟩ (.slice (some ⟨g', 0, none⟩) (pre.length + 1) cap')).ownsRow wl.heap.size 150 1 (.slice (some ⟨g', 0, none⟩) (pre.length + 1) cap') (pre.length + 1) (partsL ns v pre ++ [.int .u64 pt]) :=
      hown'.kept (grownBy_setCell' w1 _ _) (.inr (ownBlock_ge hown' (b := B + 1 + 1 + 1 + 1) (by omega)).symm)
    have msz : wl.heap.size ≤ (w1.setCell ⟨B + 1 + 1 + 1 + 1, 0, none⟩ (.slice (some ⟨g', 0, none⟩) (pre.length + 1) cap')).heap.size := Nat.le_trans hsz (Nat.le_trans (by simp) (Nat.le_trans hgrow.size (KeepsOthers.setCell w1 _ _).size))
    refine anyS_all [0, 8] (by kernel_rfl) (by decide) ?_
    intro i hi
    simp only [List.mem_cons, List.not_mem_nil, or_false] at hi
    rcases hi with rfl | rfl
    · refine op_value (v := r) (w' := W.drew) rfl (by kernel_rfl) (by rfl) rfl (by simp only [upA]; go_simp) ⟨by rw [hSS]; exact ⟨c1, c0, gn0⟩, ?_⟩
      show anyS _ _ _ _ _ _ _ _ _ (upA bn on cn v B x.1 o ns.length r (.int .u64 v) (.int .i64 o) (.int .u64 (v / 2 ^ o.toNat)) (.slice (some ⟨bn, on, none⟩) ns.length cn) (.int .i64 (x.1 : Int)) (.pointer (some ⟨bn, on + x.1, none⟩)) (.int .i64 z) undef undef undef undef) _
      refine anyS_all [8] (by kernel_rfl) (by decide) (fun i hi => ?_)
      obtain rfl := List.mem_singleton.1 hi
      refine op_enter (v := .int .u64 (maskN z)) (f := 298) (args := #[.int .i64 z]) rfl (by kernel_rfl) (by rfl) (fun _ => trivial) rfl (by simp only [upA]; go_simp) (CallsIn.inRound l (callsIn_wide.2 (f_mask z _ (by omega)))) ⟨hS, ?_⟩
      show anyS _ _ _ _ _ _ _ _ _ (upA bn on cn v B x.1 o ns.length r (.int .u64 v) (.int .i64 o) (.int .u64 (v / 2 ^ o.toNat)) (.slice (some ⟨bn, on, none⟩) ns.length cn) (.int .i64 (x.1 : Int)) (.pointer (some ⟨bn, on + x.1, none⟩)) (.int .i64 z) (.int .u64 (maskN z)) undef undef undef) _
      refine anyS_take (v := .int .u64 pt) 9 rfl (by kernel_rfl) (by kernel_rfl) (by kernel_rfl) (by kernel_rfl) (fun _ _ _ h => h) ⟨fun _ => rfl, Or.inl ⟨by rfl, fun w' hS' => ?_⟩⟩ hS ?_
      · simp only [upA]; go_simp; rw [HP.out]
      show anyS _ _ _ _ _ _ _ _ _ (upA bn on cn v B x.1 o ns.length r (.int .u64 v) (.int .i64 o) (.int .u64 (v / 2 ^ o.toNat)) (.slice (some ⟨bn, on, none⟩) ns.length cn) (.int .i64 (x.1 : Int)) (.pointer (some ⟨bn, on + x.1, none⟩)) (.int .i64 z) (.int .u64 (maskN z)) (.int .u64 pt) undef undef) _
      refine anyS_all [10] (by kernel_rfl) (by decide) (fun i hi => ?_)
      obtain rfl := List.mem_singleton.1 hi
      refine op_value (v := .slice (some ⟨W.heap.size, 0, none⟩) 1 1) (w' := W.drew.alloc (.cells #[.int .u64 pt] 150 (0, 0))) rfl (by kernel_rfl) (by rfl) rfl (by simp only [upA]; go_simp) ⟨hS2, ?_⟩
      show anyS _ _ _ _ _ _ _ _ _ (upA bn on cn v B x.1 o ns.length r (.int .u64 v) (.int .i64 o) (.int .u64 (v / 2 ^ o.toNat)) (.slice (some ⟨bn, on, none⟩) ns.length cn) (.int .i64 (x.1 : Int)) (.pointer (some ⟨bn, on + x.1, none⟩)) (.int .i64 z) (.int .u64 (maskN z)) (.int .u64 pt) (.slice (some ⟨W.heap.size, 0, none⟩) 1 1) undef) _
      refine anyS_all [11] (by kernel_rfl) (by decide) (fun i hi => ?_)
      obtain rfl := List.mem_singleton.1 hi
      refine op_value (v := .slice (some ⟨g', 0, none⟩) (pre.length + 1) cap') (w' := w1) rfl (by kernel_rfl) (by rfl) rfl (by simp only [upA]; simp [execOp, resolve, invoke, builtin, hrun, Result.andThen, Act.eval]) ⟨hS3, ?_⟩
      show anyS _ _ _ _ _ _ _ _ _ (upA bn on cn v B x.1 o ns.length r (.int .u64 v) (.int .i64 o) (.int .u64 (v / 2 ^ o.toNat)) (.slice (some ⟨bn, on, none⟩) ns.length cn) (.int .i64 (x.1 : Int)) (.pointer (some ⟨bn, on + x.1, none⟩)) (.int .i64 z) (.int .u64 (maskN z)) (.int .u64 pt) (.slice (some ⟨W.heap.size, 0, none⟩) 1 1) (.slice (some ⟨g', 0, none⟩) (pre.length + 1) cap')) _
      refine anyS_all [12] (by kernel_rfl) (by decide) (fun i hi => ?_)
      obtain rfl := List.mem_singleton.1 hi
      refine op_skip (w' := w1.setCell ⟨B + 1 + 1 + 1 + 1, 0, none⟩ (.slice (some ⟨g', 0, none⟩) (pre.length + 1) cap')) rfl (by kernel_rfl) (by rfl) rfl (by simp only [upA]; go_simp) ⟨hS4, ?_⟩
      refine anyS_done (by kernel_rfl) ?_ _
      show Exit.inBlock 1 _ .normal _ _
      gi_wp2
      exact ⟨hKO, hKB, ⟨⟨m0, m1, m2, m3⟩, ⟨_, m4, by rw [List.length_append, hparts]; exact mrow, Nat.le_refl _⟩, msz⟩, hbw.trans (hKB.mono (Nat.le_refl _))⟩
    · refine op_enter (v := .int .u64 (maskN z)) (f := 298) (args := #[.int .i64 z]) rfl (by kernel_rfl) (by rfl) (fun _ => trivial) rfl (by simp only [upA]; go_simp) (CallsIn.inRound l (callsIn_wide.2 (f_mask z _ (by omega)))) ⟨hS, ?_⟩
      show anyS _ _ _ _ _ _ _ _ _ (upA bn on cn v B x.1 o ns.length undef (.int .u64 v) (.int .i64 o) (.int .u64 (v / 2 ^ o.toNat)) (.slice (some ⟨bn, on, none⟩) ns.length cn) (.int .i64 (x.1 : Int)) (.pointer (some ⟨bn, on + x.1, none⟩)) (.int .i64 z) (.int .u64 (maskN z)) undef undef undef) _
      refine anyS_take (v := .int .u64 pt) 9 rfl (by kernel_rfl) (by kernel_rfl) (by kernel_rfl) (by kernel_rfl) (fun _ _ _ h => h) ⟨fun _ => rfl, Or.inl ⟨by rfl, fun w' hS' => ?_⟩⟩ hS ?_
      · simp only [upA]; go_simp; rw [HP.out]
      show anyS _ _ _ _ _ _ _ _ _ (upA bn on cn v B x.1 o ns.length undef (.int .u64 v) (.int .i64 o) (.int .u64 (v / 2 ^ o.toNat)) (.slice (some ⟨bn, on, none⟩) ns.length cn) (.int .i64 (x.1 : Int)) (.pointer (some ⟨bn, on + x.1, none⟩)) (.int .i64 z) (.int .u64 (maskN z)) (.int .u64 pt) undef undef) _
      refine anyS_all [0, 10] (by kernel_rfl) (by decide) ?_
      intro i hi
      simp only [List.mem_cons, List.not_mem_nil, or_false] at hi
      rcases hi with rfl | rfl
      · refine op_value (v := r) (w' := W.drew) rfl (by kernel_rfl) (by rfl) rfl (by simp only [upA]; go_simp) ⟨by rw [hSS]; exact ⟨c1, c0, gn0⟩, ?_⟩
        show anyS _ _ _ _ _ _ _ _ _ (upA bn on cn v B x.1 o ns.length r (.int .u64 v) (.int .i64 o) (.int .u64 (v / 2 ^ o.toNat)) (.slice (some ⟨bn, on, none⟩) ns.length cn) (.int .i64 (x.1 : Int)) (.pointer (some ⟨bn, on + x.1, none⟩)) (.int .i64 z) (.int .u64 (maskN z)) (.int .u64 pt) undef undef) _
        refine anyS_all [10] (by kernel_rfl) (by decide) (fun i hi => ?_)
        obtain rfl := List.mem_singleton.1 hi
        refine op_value (v := .slice (some ⟨W.heap.size, 0, none⟩) 1 1) (w' := W.drew.alloc (.cells #[.int .u64 pt] 150 (0, 0))) rfl (by kernel_rfl) (by rfl) rfl (by simp only [upA]; go_simp) ⟨hS2, ?_⟩
        show anyS _ _ _ _ _ _ _ _ _ (upA bn on cn v B x.1 o ns.length r (.int .u64 v) (.int .i64 o) (.int .u64 (v / 2 ^ o.toNat)) (.slice (some ⟨bn, on, none⟩) ns.length cn) (.int .i64 (x.1 : Int)) (.pointer (some ⟨bn, on + x.1, none⟩)) (.int .i64 z) (.int .u64 (maskN z)) (.int .u64 pt) (.slice (some ⟨W.heap.size, 0, none⟩) 1 1) undef) _
        refine anyS_all [11] (by kernel_rfl) (by decide) (fun i hi => ?_)
        obtain rfl := List.mem_singleton.1 hi
        refine op_value (v := .slice (some ⟨g', 0, none⟩) (pre.length + 1) cap') (w' := w1) rfl (by kernel_rfl) (by rfl) rfl (by simp only [upA]; simp [execOp, resolve, invoke, builtin, hrun, Result.andThen, Act.eval]) ⟨hS3, ?_⟩
        show anyS _ _ _ _ _ _ _ _ _ (upA bn on cn v B x.1 o ns.length r (.int .u64 v) (.int .i64 o) (.int .u64 (v / 2 ^ o.toNat)) (.slice (some ⟨bn, on, none⟩) ns.length cn) (.int .i64 (x.1 : Int)) (.pointer (some ⟨bn, on + x.1, none⟩)) (.int .i64 z) (.int .u64 (maskN z)) (.int .u64 pt) (.slice (some ⟨W.heap.size, 0, none⟩) 1 1) (.slice (some ⟨g', 0, none⟩) (pre.length + 1) cap')) _
        refine anyS_all [12] (by kernel_rfl) (by decide) (fun i hi => ?_)
        obtain rfl := List.mem_singleton.1 hi
        refine op_skip (w' := w1.setCell ⟨B + 1 + 1 + 1 + 1, 0, none⟩ (.slice (some ⟨g', 0, none⟩) (pre.length + 1) cap')) rfl (by kernel_rfl) (by rfl) rfl (by simp only [upA]; go_simp) ⟨hS4, ?_⟩
        refine anyS_done (by kernel_rfl) ?_ _
        show Exit.inBlock 1 _ .normal _ _
        gi_wp2
        exact ⟨hKO, hKB, ⟨⟨m0, m1, m2, m3⟩, ⟨_, m4, by rw [List.length_append, hparts]; exact mrow, Nat.le_refl _⟩, msz⟩, hbw.trans (hKB.mono (Nat.le_refl _))⟩
      · refine op_value (v := .slice (some ⟨W.heap.size, 0, none⟩) 1 1) (w' := W.drew.alloc (.cells #[.int .u64 pt] 150 (0, 0))) rfl (by kernel_rfl) (by rfl) rfl (by simp only [upA]; go_simp) ⟨hS2, ?_⟩
        show anyS _ _ _ _ _ _ _ _ _ (upA bn on cn v B x.1 o ns.length undef (.int .u64 v) (.int .i64 o) (.int .u64 (v / 2 ^ o.toNat)) (.slice (some ⟨bn, on, none⟩) ns.length cn) (.int .i64 (x.1 : Int)) (.pointer (some ⟨bn, on + x.1, none⟩)) (.int .i64 z) (.int .u64 (maskN z)) (.int .u64 pt) (.slice (some ⟨W.heap.size, 0, none⟩) 1 1) undef) _
        refine anyS_all [0] (by kernel_rfl) (by decide) (fun i hi => ?_)
        obtain rfl := List.mem_singleton.1 hi
        refine op_value (v := r) (w' := W.drew.alloc (.cells #[.int .u64 pt] 150 (0, 0))) rfl (by kernel_rfl) (by rfl) rfl (by simp only [upA]; go_simp) ⟨hS2, ?_⟩
        show anyS _ _ _ _ _ _ _ _ _ (upA bn on cn v B x.1 o ns.length r (.int .u64 v) (.int .i64 o) (.int .u64 (v / 2 ^ o.toNat)) (.slice (some ⟨bn, on, none⟩) ns.length cn) (.int .i64 (x.1 : Int)) (.pointer (some ⟨bn, on + x.1, none⟩)) (.int .i64 z) (.int .u64 (maskN z)) (.int .u64 pt) (.slice (some ⟨W.heap.size, 0, none⟩) 1 1) undef) _
        refine anyS_all [11] (by kernel_rfl) (by decide) (fun i hi => ?_)
        obtain rfl := List.mem_singleton.1 hi
        refine op_value (v := .slice (some ⟨g', 0, none⟩) (pre.length + 1) cap') (w' := w1) rfl (by kernel_rfl) (by rfl) rfl (by simp only [upA]; simp [execOp, resolve, invoke, builtin, hrun, Result.andThen, Act.eval]) ⟨hS3, ?_⟩
        show anyS _ _ _ _ _ _ _ _ _ (upA bn on cn v B x.1 o ns.length r (.int .u64 v) (.int .i64 o) (.int .u64 (v / 2 ^ o.toNat)) (.slice (some ⟨bn, on, none⟩) ns.length cn) (.int .i64 (x.1 : Int)) (.pointer (some ⟨bn, on + x.1, none⟩)) (.int .i64 z) (.int .u64 (maskN z)) (.int .u64 pt) (.slice (some ⟨W.heap.size, 0, none⟩) 1 1) (.slice (some ⟨g', 0, none⟩) (pre.length + 1) cap')) _
        refine anyS_all [12] (by kernel_rfl) (by decide) (fun i hi => ?_)
        obtain rfl := List.mem_singleton.1 hi
        refine op_skip (w' := w1.setCell ⟨B + 1 + 1 + 1 + 1, 0, none⟩ (.slice (some ⟨g', 0, none⟩) (pre.length + 1) cap')) rfl (by kernel_rfl) (by rfl) rfl (by simp only [upA]; go_simp) ⟨hS4, ?_⟩
        refine anyS_done (by kernel_rfl) ?_ _
        show Exit.inBlock 1 _ .normal _ _
        gi_wp2
        exact ⟨hKO, hKB, ⟨⟨m0, m1, m2, m3⟩, ⟨_, m4, by rw [List.length_append, hparts]; exact mrow, Nat.le_refl _⟩, msz⟩, hbw.trans (hKB.mono (Nat.le_refl _))⟩
  case done =>
    rintro D xs W hD rfl ⟨⟨⟨b0, b1, b2, b3⟩, ⟨r, b4, hrow, -⟩, hsz⟩, hbw⟩ hK
    have c0 := b0.cell; have c1 := b1.cell
    gi_wp2
    rw [partsL_I, List.length_finRange] at hrow
    obtain ⟨g, cap, rfl, hg, ⟨cur, hgc⟩, hgs⟩ := ownsRow_ints hrow hpos
    have hgl := lt_of_block hgc
    cases hft : fitsB v (offs ns ns.length)
    · have HF := Lib.hid hft
      clear hft
      have hS : Below W.heap.size W W.drew := (Below.refl _ W).drew
      refine region_held_round (fun w' => Below W.heap.size W w') (by kernel_rfl) ?_
      show anyS _ _ _ _ _ _ _ _ _ (upD bn on cn v B ns.length D undef undef undef undef undef) _
      refine anyS_take (v := (.int .u64 v)) 0 rfl (by kernel_rfl) (by kernel_rfl) (by kernel_rfl) (by kernel_rfl) (fun _ _ _ h => h) ⟨fun _ => rfl, Or.inl ⟨by rfl, fun w' hS' => ?_⟩⟩ hS ?_
      · have s1 := (hS'.cell (p := ⟨B + 1, 0, none⟩) b1.lt).trans c1
        simp only [upD]
        go_simp
        try with_reducible rfl
      show anyS _ _ _ _ _ _ _ _ _ (upD bn on cn v B ns.length D (.int .u64 v) undef undef undef undef) _
      refine anyS_take (v := (.slice (some ⟨bn, on, none⟩) ns.length cn)) 1 rfl (by kernel_rfl) (by kernel_rfl) (by kernel_rfl) (by kernel_rfl) (fun _ _ _ h => h) ⟨fun _ => rfl, Or.inl ⟨by rfl, fun w' hS' => ?_⟩⟩ hS ?_
      · have s1 := (hS'.cell (p := ⟨B, 0, none⟩) b0.lt).trans c0
        simp only [upD]
        go_simp
        try with_reducible rfl
      show anyS _ _ _ _ _ _ _ _ _ (upD bn on cn v B ns.length D (.int .u64 v) (.slice (some ⟨bn, on, none⟩) ns.length cn) undef undef undef) _
      refine anyS_all [2] (by kernel_rfl) (by decide) (fun i hi => ?_)
      obtain rfl := List.mem_singleton.1 hi
      refine op_enterB (v := .int .i64 (offs ns ns.length)) (f := 299) (args := #[.slice (some ⟨bn, on, none⟩) ns.length cn]) rfl (by kernel_rfl) (by rfl) (fun _ => trivial) rfl (by simp only [upD]; go_simp) (callsIn_wide.2 (f_all ns bn on cn _ hw hmx (hn.after (hbw.drew)))) (fun w3 hb3 => ?_)
      have hS3 : Below W.heap.size W w3 := hS.trans (hb3.mono (Nat.le_refl _))
      refine ⟨hS3, ?_⟩
      show anyS _ _ _ _ _ _ _ _ _ (upD bn on cn v B ns.length D (.int .u64 v) (.slice (some ⟨bn, on, none⟩) ns.length cn) (.int .i64 (offs ns ns.length)) undef undef) _
      refine anyS_all [3] (by kernel_rfl) (by decide) (fun i hi => ?_)
      obtain rfl := List.mem_singleton.1 hi
      refine op_enter (v := .bool false) (f := 288) (args := #[.int .u64 v, .int .i64 (offs ns ns.length)]) rfl (by kernel_rfl) (by rfl) (fun _ => trivial) rfl (by simp only [upD]; go_simp) (callsIn_wide.2 (by have := f_fits v (offs ns ns.length) w3 h0 h1 hends.2; rw [HF.out] at this; exact this)) ⟨hS3, ?_⟩
      show anyS _ _ _ _ _ _ _ _ _ (upD bn on cn v B ns.length D (.int .u64 v) (.slice (some ⟨bn, on, none⟩) ns.length cn) (.int .i64 (offs ns ns.length)) (.bool false) undef) _
      refine anyS_take (v := .bool true) 4 rfl (by kernel_rfl) (by kernel_rfl) (by kernel_rfl) (by kernel_rfl) (fun _ _ _ h => h) ⟨fun _ => rfl, Or.inl ⟨by rfl, fun w' hS' => ?_⟩⟩ hS3 ?_
      · simp only [upD]
        go_simp
      show anyS _ _ _ _ _ _ _ _ _ (upD bn on cn v B ns.length D (.int .u64 v) (.slice (some ⟨bn, on, none⟩) ns.length cn) (.int .i64 (offs ns ns.length)) (.bool false) (.bool true)) _
      refine anyS_done (by kernel_rfl) ?_ _
      simp only [OnNormal, upD]
      have e2 : Boxed w3 (B + 1 + 1) 160 (.slice none 0 0) := (hS3.block _ b2.lt).trans b2
      have e3 : Boxed w3 (B + 1 + 1 + 1) 28 (.int .i64 0) := (hS3.block _ b3.lt).trans b3
      have e4 : Boxed w3 (B + 1 + 1 + 1 + 1) 160 (.slice (some ⟨g, 0, none⟩) ns.length cap) := (hS3.block _ b4.lt).trans b4
      have hK3 : w3.heap[D]? = some (.deferred (some [])) := (hS3.block _ (Array.getElem?_eq_some_iff.1 hK).1).trans hK
      have hbw3 := hbw.trans (hS3.mono hbw.size)
      have c2 := e2.cell; have c3 := e3.cell; have c4 := e4.cell
      have f2 := e2.frozen; have f3 := e3.frozen
      gi_wp2
      have hK' := ((KeepsOthers.setCell w3 ⟨B + 1 + 1, 0, none⟩ (.slice none 0 0)).trans (KeepsOthers.setCell _ ⟨B + 1 + 1 + 1, 0, none⟩ (.int .i64 1))).same D _ hK3 rfl
      refine ⟨by simp, .inl ⟨_, _, rfl, run_takeDeferred hK', ?_⟩⟩
      have e2' := Boxed.keptOwn ((e2.set (.slice none 0 0)).other (B' := B + 1 + 1 + 1) (by omega) (.int .i64 1)) (grownBy_putObj' _ D (.deferred none)) (fun r e => by cases e; exact ⟨_, hK', rfl⟩)
      have e3' := Boxed.keptOwn ((e3.other (B' := B + 1 + 1) (by omega) (.slice none 0 0)).set (.int .i64 1)) (grownBy_putObj' _ D (.deferred none)) (fun r e => by cases e; exact ⟨_, hK', rfl⟩)
      have c2' := e2'.cell; have c3' := e3'.cell
      refine ⟨.tuple #[.slice none 0 0, .int .i64 1], ?_, ?_, .inr ⟨HF.out, rfl⟩⟩
      · simp [results, Tryz.f277, go_sem, c2', c3']
      · exact ((hbw3.setCell (p := ⟨B + 1 + 1, 0, none⟩) (by show w.heap.size ≤ B + 1 + 1; omega) _).setCell (p := ⟨B + 1 + 1 + 1, 0, none⟩) (by show w.heap.size ≤ B + 1 + 1 + 1; omega) _).trans (belowK_b (w := w) (Nat.le_refl _) _ D _ _ (by omega) hK' rfl rfl)
    · have HF := Lib.hid hft
      clear hft
      have hS : Below W.heap.size W W.drew := (Below.refl _ W).drew
      refine region_held_round (fun w' => Below W.heap.size W w') (by kernel_rfl) ?_
      show anyS _ _ _ _ _ _ _ _ _ (upD bn on cn v B ns.length D undef undef undef undef undef) _
      refine anyS_take (v := (.int .u64 v)) 0 rfl (by kernel_rfl) (by kernel_rfl) (by kernel_rfl) (by kernel_rfl) (fun _ _ _ h => h) ⟨fun _ => rfl, Or.inl ⟨by rfl, fun w' hS' => ?_⟩⟩ hS ?_
      · have s1 := (hS'.cell (p := ⟨B + 1, 0, none⟩) b1.lt).trans c1
        simp only [upD]
        go_simp
        try with_reducible rfl
      show anyS _ _ _ _ _ _ _ _ _ (upD bn on cn v B ns.length D (.int .u64 v) undef undef undef undef) _
      refine anyS_take (v := (.slice (some ⟨bn, on, none⟩) ns.length cn)) 1 rfl (by kernel_rfl) (by kernel_rfl) (by kernel_rfl) (by kernel_rfl) (fun _ _ _ h => h) ⟨fun _ => rfl, Or.inl ⟨by rfl, fun w' hS' => ?_⟩⟩ hS ?_
      · have s1 := (hS'.cell (p := ⟨B, 0, none⟩) b0.lt).trans c0
        simp only [upD]
        go_simp
        try with_reducible rfl
      show anyS _ _ _ _ _ _ _ _ _ (upD bn on cn v B ns.length D (.int .u64 v) (.slice (some ⟨bn, on, none⟩) ns.length cn) undef undef undef) _
      refine anyS_all [2] (by kernel_rfl) (by decide) (fun i hi => ?_)
      obtain rfl := List.mem_singleton.1 hi
      refine op_enterB (v := .int .i64 (offs ns ns.length)) (f := 299) (args := #[.slice (some ⟨bn, on, none⟩) ns.length cn]) rfl (by kernel_rfl) (by rfl) (fun _ => trivial) rfl (by simp only [upD]; go_simp) (callsIn_wide.2 (f_all ns bn on cn _ hw hmx (hn.after (hbw.drew)))) (fun w3 hb3 => ?_)
      have hS3 : Below W.heap.size W w3 := hS.trans (hb3.mono (Nat.le_refl _))
      refine ⟨hS3, ?_⟩
      show anyS _ _ _ _ _ _ _ _ _ (upD bn on cn v B ns.length D (.int .u64 v) (.slice (some ⟨bn, on, none⟩) ns.length cn) (.int .i64 (offs ns ns.length)) undef undef) _
      refine anyS_all [3] (by kernel_rfl) (by decide) (fun i hi => ?_)
      obtain rfl := List.mem_singleton.1 hi
      refine op_enter (v := .bool true) (f := 288) (args := #[.int .u64 v, .int .i64 (offs ns ns.length)]) rfl (by kernel_rfl) (by rfl) (fun _ => trivial) rfl (by simp only [upD]; go_simp) (callsIn_wide.2 (by have := f_fits v (offs ns ns.length) w3 h0 h1 hends.2; rw [HF.out] at this; exact this)) ⟨hS3, ?_⟩
      show anyS _ _ _ _ _ _ _ _ _ (upD bn on cn v B ns.length D (.int .u64 v) (.slice (some ⟨bn, on, none⟩) ns.length cn) (.int .i64 (offs ns ns.length)) (.bool true) undef) _
      refine anyS_take (v := .bool false) 4 rfl (by kernel_rfl) (by kernel_rfl) (by kernel_rfl) (by kernel_rfl) (fun _ _ _ h => h) ⟨fun _ => rfl, Or.inl ⟨by rfl, fun w' hS' => ?_⟩⟩ hS3 ?_
      · simp only [upD]
        go_simp
      show anyS _ _ _ _ _ _ _ _ _ (upD bn on cn v B ns.length D (.int .u64 v) (.slice (some ⟨bn, on, none⟩) ns.length cn) (.int .i64 (offs ns ns.length)) (.bool true) (.bool false)) _
      refine anyS_done (by kernel_rfl) ?_ _
      simp only [OnNormal, upD]
      have e2 : Boxed w3 (B + 1 + 1) 160 (.slice none 0 0) := (hS3.block _ b2.lt).trans b2
      have e3 : Boxed w3 (B + 1 + 1 + 1) 28 (.int .i64 0) := (hS3.block _ b3.lt).trans b3
      have e4 : Boxed w3 (B + 1 + 1 + 1 + 1) 160 (.slice (some ⟨g, 0, none⟩) ns.length cap) := (hS3.block _ b4.lt).trans b4
      have hK3 : w3.heap[D]? = some (.deferred (some [])) := (hS3.block _ (Array.getElem?_eq_some_iff.1 hK).1).trans hK
      have hbw3 := hbw.trans (hS3.mono hbw.size)
      have c2 := e2.cell; have c3 := e3.cell; have c4 := e4.cell
      have f2 := e2.frozen; have f3 := e3.frozen
      gi_wp2
      have hK' := ((KeepsOthers.setCell w3 ⟨B + 1 + 1, 0, none⟩ (.slice (some ⟨g, 0, none⟩) ns.length cap)).trans (KeepsOthers.setCell _ ⟨B + 1 + 1 + 1, 0, none⟩ (.int .i64 0))).same D _ hK3 rfl
      refine ⟨by simp, .inl ⟨_, _, rfl, run_takeDeferred hK', ?_⟩⟩
      have e2' := Boxed.keptOwn ((e2.set (.slice (some ⟨g, 0, none⟩) ns.length cap)).other (B' := B + 1 + 1 + 1) (by omega) (.int .i64 0)) (grownBy_putObj' _ D (.deferred none)) (fun r e => by cases e; exact ⟨_, hK', rfl⟩)
      have e3' := Boxed.keptOwn ((e3.other (B' := B + 1 + 1) (by omega) (.slice (some ⟨g, 0, none⟩) ns.length cap)).set (.int .i64 0)) (grownBy_putObj' _ D (.deferred none)) (fun r e => by cases e; exact ⟨_, hK', rfl⟩)
      have c2' := e2'.cell; have c3' := e3'.cell
      refine ⟨.tuple #[.slice (some ⟨g, 0, none⟩) ns.length cap, .int .i64 0], ?_, ?_, .inl ⟨HF.out, g, cap, rfl, by omega, fun j hj => ?_⟩⟩
      · simp [results, Tryz.f277, go_sem, c2', c3']
      · exact ((hbw3.setCell (p := ⟨B + 1 + 1, 0, none⟩) (by show w.heap.size ≤ B + 1 + 1; omega) _).setCell (p := ⟨B + 1 + 1 + 1, 0, none⟩) (by show w.heap.size ≤ B + 1 + 1 + 1; omega) _).trans (belowK_b (w := w) (Nat.le_refl _) _ D _ _ (by omega) hK' rfl rfl)
      · refine cell_kept ?_ (grownBy_putObj' _ D (.deferred none)) (fun r e => by cases e; exact ⟨_, hK', rfl⟩)
        rw [World.cell?_of_block (a := ⟨g, j, none⟩) (heap_set_ne rfl _ (show g ≠ B + 1 + 1 + 1 by omega)), World.cell?_of_block (a := ⟨g, j, none⟩) (heap_set_ne rfl _ (show g ≠ B + 1 + 1 by omega)), World.cell?_of_block (a := ⟨g, j, none⟩) (hS3.block g hgl)]
        exact hgs j hj
  case stop =>
    rintro D c pre W hD _ h _
    exact h.elim
end Go.Proofs.YtmahledpcpdldaaGreat
