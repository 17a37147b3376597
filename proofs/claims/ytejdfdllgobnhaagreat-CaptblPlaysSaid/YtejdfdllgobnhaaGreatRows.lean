/-
  No cell of these rows narrows 'for every input' (looked for: loops, veiled, ifaces, maps, wideKeys, modest, calm, conditions, laid).
  DERIVED. THE GIVEN ROWS OF THIS SEAT. 6 by the template 'for every input the law returns true; each argument reads behind the call as it read before'; 0 by the template 'total and deterministic' (their statements: YtejdfdllgobnhaaGreatTotals.lean).
  GIVEN WITH THE SEED: the statements are not yours to turn. If you find one false, say at which input.
  Laid BY PROGRAM, IN A SANDBOX (cutbox-rows.mjs): the forced cells as the released guide's own fill.sh prints them over the translation e6b0347f43708c4e… (all of the seat's roots in one cut). By AI agents, Wed Nov 11 2026. No macro, syntax, notation, axiom, sorry.
-/
import Derived.Test.YtejdfdllgobnhaaGreatChecked
import GoSem.Claim
import GoSem.ClaimJoined
import GoSem.ClaimMapViews
import Derived.JoinedTies
import Derived.KernelRfl
namespace Go.Proofs.YtejdfdllgobnhaaGreat
/- THE CELL 'sum', in the pinned program and in every row, IS THE sha256 OF THE DUMP (.gsa) THAT YtejdfdllgobnhaaGreatProg.lean LOADS. Nothing in Lean hashes anything: it is a label: what it is worth is what the hold of that sum in a sandbox is worth. -/
noncomputable def Tryz.pinned : Pinned := { name := "ytejdfdllgobnhaagreat", sum := "e6b0347f43708c4e60820fdd7fca3ab0836d33d74dfd3b0c5f7346fe96314985", checked := Tryz.checked }
namespace Rows
def none {H : Type} : Left H := { results := [], args := [] }

/-- 'palanquinlaw13.CaptblPlays': WHATEVER THE INPUT: true; the input reads as it did. -/
def captblPlaysSpec : ChangeSpec := { name := "captblPlays", fn := fun _ => fun
  | [d1, d2, d3, d4, d5, d6] => { results := [.lit (.bool true)], args := [d1, d2, d3, d4, d5, d6] }
  | _ => none }
def captblPlaysRow : OpenClaim := { program := "ytejdfdllgobnhaagreat", sum := "e6b0347f43708c4e60820fdd7fca3ab0836d33d74dfd3b0c5f7346fe96314985", func := "palanquin/palanquinlaw13.CaptblPlays", spec := "captblPlays", unfollowed := true, recurses := true, plainKeys := false, apart := false }
def CaptblPlaysSaid : Prop := captblPlaysRow.holds Tryz.pinned (OpenSpec.ofChange captblPlaysSpec)

/-- ITS FALSE NEIGHBOUR: 'it returns false'. Refute it at one input. -/
def captblPlaysWrong : ChangeSpec := { name := "captblPlays", fn := fun _ => fun
  | [d1, d2, d3, d4, d5, d6] => { results := [.lit (.bool false)], args := [d1, d2, d3, d4, d5, d6] }
  | _ => none }
def CaptblPlaysWrongFalsely : Prop := captblPlaysRow.holds Tryz.pinned (OpenSpec.ofChange captblPlaysWrong)

/-- 'palanquinlaw25.MachinePlays': WHATEVER THE INPUT: true; the input reads as it did. -/
def machinePlaysSpec : ChangeSpec := { name := "machinePlays", fn := fun _ => fun
  | [d1, d2, d3, d4, d5] => { results := [.lit (.bool true)], args := [d1, d2, d3, d4, d5] }
  | _ => none }
def machinePlaysRow : OpenClaim := { program := "ytejdfdllgobnhaagreat", sum := "e6b0347f43708c4e60820fdd7fca3ab0836d33d74dfd3b0c5f7346fe96314985", func := "palanquin/palanquinlaw25.MachinePlays", spec := "machinePlays", unfollowed := true, recurses := true, plainKeys := false, apart := false }
def MachinePlaysSaid : Prop := machinePlaysRow.holds Tryz.pinned (OpenSpec.ofChange machinePlaysSpec)

/-- ITS FALSE NEIGHBOUR: 'it returns false'. Refute it at one input. -/
def machinePlaysWrong : ChangeSpec := { name := "machinePlays", fn := fun _ => fun
  | [d1, d2, d3, d4, d5] => { results := [.lit (.bool false)], args := [d1, d2, d3, d4, d5] }
  | _ => none }
def MachinePlaysWrongFalsely : Prop := machinePlaysRow.holds Tryz.pinned (OpenSpec.ofChange machinePlaysWrong)

/-- 'palanquinlaw26.FindZero': WHATEVER THE INPUT: true; the input reads as it did. -/
def findZeroSpec : ChangeSpec := { name := "findZero", fn := fun _ => fun
  | [d1, d2] => { results := [.lit (.bool true)], args := [d1, d2] }
  | _ => none }
def findZeroRow : OpenClaim := { program := "ytejdfdllgobnhaagreat", sum := "e6b0347f43708c4e60820fdd7fca3ab0836d33d74dfd3b0c5f7346fe96314985", func := "palanquin/palanquinlaw26.FindZero", spec := "findZero", unfollowed := true, recurses := true, plainKeys := false, apart := false }
def FindZeroSaid : Prop := findZeroRow.holds Tryz.pinned (OpenSpec.ofChange findZeroSpec)

/-- ITS FALSE NEIGHBOUR: 'it returns false'. Refute it at one input. -/
def findZeroWrong : ChangeSpec := { name := "findZero", fn := fun _ => fun
  | [d1, d2] => { results := [.lit (.bool false)], args := [d1, d2] }
  | _ => none }
def FindZeroWrongFalsely : Prop := findZeroRow.holds Tryz.pinned (OpenSpec.ofChange findZeroWrong)

/-- 'palanquinlaw26.FindFewer': WHATEVER THE INPUT: true; the input reads as it did. -/
def findFewerSpec : ChangeSpec := { name := "findFewer", fn := fun _ => fun
  | [d1, d2, d3, d4, d5] => { results := [.lit (.bool true)], args := [d1, d2, d3, d4, d5] }
  | _ => none }
def findFewerRow : OpenClaim := { program := "ytejdfdllgobnhaagreat", sum := "e6b0347f43708c4e60820fdd7fca3ab0836d33d74dfd3b0c5f7346fe96314985", func := "palanquin/palanquinlaw26.FindFewer", spec := "findFewer", unfollowed := true, recurses := true, plainKeys := false, apart := false }
def FindFewerSaid : Prop := findFewerRow.holds Tryz.pinned (OpenSpec.ofChange findFewerSpec)

/-- ITS FALSE NEIGHBOUR: 'it returns false'. Refute it at one input. -/
def findFewerWrong : ChangeSpec := { name := "findFewer", fn := fun _ => fun
  | [d1, d2, d3, d4, d5] => { results := [.lit (.bool false)], args := [d1, d2, d3, d4, d5] }
  | _ => none }
def FindFewerWrongFalsely : Prop := findFewerRow.holds Tryz.pinned (OpenSpec.ofChange findFewerWrong)

/-- 'palanquinlaw26.FindMem': WHATEVER THE INPUT: true; the input reads as it did. -/
def findMemSpec : ChangeSpec := { name := "findMem", fn := fun _ => fun
  | [d1, d2, d3] => { results := [.lit (.bool true)], args := [d1, d2, d3] }
  | _ => none }
def findMemRow : OpenClaim := { program := "ytejdfdllgobnhaagreat", sum := "e6b0347f43708c4e60820fdd7fca3ab0836d33d74dfd3b0c5f7346fe96314985", func := "palanquin/palanquinlaw26.FindMem", spec := "findMem", unfollowed := true, recurses := true, plainKeys := false, apart := false }
def FindMemSaid : Prop := findMemRow.holds Tryz.pinned (OpenSpec.ofChange findMemSpec)

/-- ITS FALSE NEIGHBOUR: 'it returns false'. Refute it at one input. -/
def findMemWrong : ChangeSpec := { name := "findMem", fn := fun _ => fun
  | [d1, d2, d3] => { results := [.lit (.bool false)], args := [d1, d2, d3] }
  | _ => none }
def FindMemWrongFalsely : Prop := findMemRow.holds Tryz.pinned (OpenSpec.ofChange findMemWrong)

/-- 'palanquinlaw26.FindTells': WHATEVER THE INPUT: true; the input reads as it did. -/
def findTellsSpec : ChangeSpec := { name := "findTells", fn := fun _ => fun
  | [d1, d2, d3, d4, d5, d6, d7] => { results := [.lit (.bool true)], args := [d1, d2, d3, d4, d5, d6, d7] }
  | _ => none }
def findTellsRow : OpenClaim := { program := "ytejdfdllgobnhaagreat", sum := "e6b0347f43708c4e60820fdd7fca3ab0836d33d74dfd3b0c5f7346fe96314985", func := "palanquin/palanquinlaw26.FindTells", spec := "findTells", unfollowed := true, recurses := true, plainKeys := false, apart := false }
def FindTellsSaid : Prop := findTellsRow.holds Tryz.pinned (OpenSpec.ofChange findTellsSpec)

/-- ITS FALSE NEIGHBOUR: 'it returns false'. Refute it at one input. -/
def findTellsWrong : ChangeSpec := { name := "findTells", fn := fun _ => fun
  | [d1, d2, d3, d4, d5, d6, d7] => { results := [.lit (.bool false)], args := [d1, d2, d3, d4, d5, d6, d7] }
  | _ => none }
def FindTellsWrongFalsely : Prop := findTellsRow.holds Tryz.pinned (OpenSpec.ofChange findTellsWrong)

/- THE SECOND FORM. 'bulk': how many values and letters a reading holds, each counted each time it is reached (what is shared counts as often as it is met; a slice's spare places count too). A statement '..UptoSaid' is the law's where the arguments, and the package variables that the reading takes, are together of bulk at most 1048576: NARROWER than '..Said'. Prove '..Said' where nothing that the law and all that it calls make is longer than what came in: it says more and counts as full. Else prove '..UptoSaid'. A law counts once. -/
mutual
def uptoBulk {H : Type} : DataW H → Nat
  | .lit (.string bytes) => bytes.length + 1
  | .lit _ => 1
  | .nil => 1
  | .ptr d => uptoBulk d + 1
  | .slice elems spare => uptoBulkAll elems + uptoBulkAll spare + 1
  | .agg parts => uptoBulkAll parts + 1
  | .iface _ d => uptoBulk d + 1
  | .map entries => uptoBulkEntries entries + 1
  | .held _ => 1
def uptoBulkAll {H : Type} : List (DataW H) → Nat
  | [] => 0
  | d :: r => uptoBulk d + uptoBulkAll r
def uptoBulkEntries {H : Type} : List (Lit × DataW H) → Nat
  | [] => 0
  | x :: r => uptoBulkEntry x + uptoBulkEntries r
def uptoBulkEntry {H : Type} : Lit × DataW H → Nat
  | (.string bytes, d) => bytes.length + uptoBulk d + 1
  | (_, d) => uptoBulk d + 1
 end
def uptoSmall : (H : Type) → List (DataW H) → Bool := fun _ ds => decide (uptoBulkAll ds ≤ 1048576)
def OpenSpec.upto (s : _root_.Go.ChangeSpec) : _root_.Go.OpenSpec := { _root_.Go.OpenSpec.ofChange s with cond := some uptoSmall }

/-- 'palanquinlaw13.CaptblPlays', WHERE WHAT IT READS IS OF BULK AT MOST 1048576: true; the input reads as it did. -/
def captblPlaysUptoRow : OpenClaim := { program := "ytejdfdllgobnhaagreat", sum := "e6b0347f43708c4e60820fdd7fca3ab0836d33d74dfd3b0c5f7346fe96314985", func := "palanquin/palanquinlaw13.CaptblPlays", spec := "captblPlays", unfollowed := true, recurses := true, plainKeys := false, apart := false, narrowed := true }
def CaptblPlaysUptoSaid : Prop := captblPlaysUptoRow.holds Tryz.pinned (OpenSpec.upto captblPlaysSpec)

/-- 'palanquinlaw25.MachinePlays', WHERE WHAT IT READS IS OF BULK AT MOST 1048576: true; the input reads as it did. -/
def machinePlaysUptoRow : OpenClaim := { program := "ytejdfdllgobnhaagreat", sum := "e6b0347f43708c4e60820fdd7fca3ab0836d33d74dfd3b0c5f7346fe96314985", func := "palanquin/palanquinlaw25.MachinePlays", spec := "machinePlays", unfollowed := true, recurses := true, plainKeys := false, apart := false, narrowed := true }
def MachinePlaysUptoSaid : Prop := machinePlaysUptoRow.holds Tryz.pinned (OpenSpec.upto machinePlaysSpec)

/-- 'palanquinlaw26.FindZero', WHERE WHAT IT READS IS OF BULK AT MOST 1048576: true; the input reads as it did. -/
def findZeroUptoRow : OpenClaim := { program := "ytejdfdllgobnhaagreat", sum := "e6b0347f43708c4e60820fdd7fca3ab0836d33d74dfd3b0c5f7346fe96314985", func := "palanquin/palanquinlaw26.FindZero", spec := "findZero", unfollowed := true, recurses := true, plainKeys := false, apart := false, narrowed := true }
def FindZeroUptoSaid : Prop := findZeroUptoRow.holds Tryz.pinned (OpenSpec.upto findZeroSpec)

/-- 'palanquinlaw26.FindFewer', WHERE WHAT IT READS IS OF BULK AT MOST 1048576: true; the input reads as it did. -/
def findFewerUptoRow : OpenClaim := { program := "ytejdfdllgobnhaagreat", sum := "e6b0347f43708c4e60820fdd7fca3ab0836d33d74dfd3b0c5f7346fe96314985", func := "palanquin/palanquinlaw26.FindFewer", spec := "findFewer", unfollowed := true, recurses := true, plainKeys := false, apart := false, narrowed := true }
def FindFewerUptoSaid : Prop := findFewerUptoRow.holds Tryz.pinned (OpenSpec.upto findFewerSpec)

/-- 'palanquinlaw26.FindMem', WHERE WHAT IT READS IS OF BULK AT MOST 1048576: true; the input reads as it did. -/
def findMemUptoRow : OpenClaim := { program := "ytejdfdllgobnhaagreat", sum := "e6b0347f43708c4e60820fdd7fca3ab0836d33d74dfd3b0c5f7346fe96314985", func := "palanquin/palanquinlaw26.FindMem", spec := "findMem", unfollowed := true, recurses := true, plainKeys := false, apart := false, narrowed := true }
def FindMemUptoSaid : Prop := findMemUptoRow.holds Tryz.pinned (OpenSpec.upto findMemSpec)

/-- 'palanquinlaw26.FindTells', WHERE WHAT IT READS IS OF BULK AT MOST 1048576: true; the input reads as it did. -/
def findTellsUptoRow : OpenClaim := { program := "ytejdfdllgobnhaagreat", sum := "e6b0347f43708c4e60820fdd7fca3ab0836d33d74dfd3b0c5f7346fe96314985", func := "palanquin/palanquinlaw26.FindTells", spec := "findTells", unfollowed := true, recurses := true, plainKeys := false, apart := false, narrowed := true }
def FindTellsUptoSaid : Prop := findTellsUptoRow.holds Tryz.pinned (OpenSpec.upto findTellsSpec)

end Rows
end Go.Proofs.YtejdfdllgobnhaaGreat
