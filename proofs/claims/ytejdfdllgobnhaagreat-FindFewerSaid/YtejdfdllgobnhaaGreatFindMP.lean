/- FindMem: the plain law. -/
import Derived.Test.YtejdfdllgobnhaaGreatFindC
import Derived.Test.YtejdfdllgobnhaaGreatRBits
import Derived.Test.YtejdfdllgobnhaaGreatAw13
set_option linter.unusedVariables false
set_option linter.unusedSimpArgs false
namespace Go.Proofs.YtejdfdllgobnhaaGreat
open Go.RowKit
theorem findMem_law (x : CapS) {r f : Int} {m3 m4 : MemS} (d3 : m3 = (M2 8).cons 0 0 1 0) (d4 : m4 = m3.tput 0 5 x 0) (hx : tputE m3 0 5 x 0 = 0) (l : LiveS) (M : Mach) (hM : M.mem = m4) (r0 : -9223372036854775808 ≤ r) (r1 : r < 9223372036854775808) :
    x.right = true ∧ M.memE l 0 5 r f = if x.k = 2 then (if bits .and .i64 x.r r = r then (if f < x.t then 1 else if x.t + x.a ≤ f then 1 else 0) else 5) else 4 := by
  have T3 := ((M2_tab (n := 8) (by omega) (by omega)).cons (hi := 0) (by omega) (by omega) rfl 0).2
  rw [← d3] at T3
  have ra : updI zeroR 0 (consC 1) (5 / 16) = consC 1 := rfl
  obtain ⟨xr, xk, T4⟩ := (T3.put (a := 5) (by omega) (by omega) ra x 0).2.1 hx
  rw [← d4] at T4
  have nx : ¬ x.k ≤ 1 := by omega
  have L4 := T4.look (a := 5) (by omega) (by omega) ra
  rw [show (5 : Int) % 16 = 5 from rfl, updI_eq, if_neg nx] at L4
  have le := L4.1
  have lc := (L4.2 nx).1
  refine ⟨xr, ?_⟩
  unfold Mach.memE Mach.capC Mach.capE
  rw [hM, le, lc]
  by_cases hk : x.k = 2
  · rw [if_pos rfl, if_pos hk, if_pos hk, hk]
    by_cases hb : bits .and .i64 x.r r = r
    · rw [if_pos ((andNot_zero r0 r1).2 hb), if_pos hb]
      rfl
    · rw [if_neg (fun h => hb ((andNot_zero r0 r1).1 h)), if_neg hb]
      rfl
  · rw [if_pos rfl, if_neg hk, if_neg hk]
    rfl
end Go.Proofs.YtejdfdllgobnhaaGreat
