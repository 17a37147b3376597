/-
  No cell of these rows narrows 'for every input' (looked for: loops, veiled, ifaces, maps, wideKeys, modest, calm, conditions, laid).
  DERIVED. THE GIVEN ROWS OF THIS SEAT. 3 by the template 'for every input the law returns true; each argument reads behind the call as it read before'; 0 by the template 'total and deterministic' (their statements: YtmahledpcpdldaaGreatTotals.lean).
  GIVEN WITH THE SEED: the statements are not yours to turn. If you find one false, say at which input.
  Laid BY PROGRAM, IN A SANDBOX (cutbox-rows.mjs): the forced cells as the released guide's own fill.sh prints them over the translation 29b5e24d0316c988… (all of the seat's roots in one cut). By AI agents, Wed Nov 11 2026. No macro, syntax, notation, axiom, sorry.
-/
import Derived.Test.YtmahledpcpdldaaGreatChecked
import GoSem.Claim
import GoSem.ClaimJoined
import GoSem.ClaimMapViews
import Derived.JoinedTies
import Derived.KernelRfl
namespace Go.Proofs.YtmahledpcpdldaaGreat
/- THE CELL 'sum', in the pinned program and in every row, IS THE sha256 OF THE DUMP (.gsa) THAT YtmahledpcpdldaaGreatProg.lean LOADS. Nothing in Lean hashes anything: it is a label: what it is worth is what the hold of that sum in a sandbox is worth. -/
noncomputable def Tryz.pinned : Pinned := { name := "ytmahledpcpdldaagreat", sum := "29b5e24d0316c988aac1fd2cc140f819e470768aab62f643045ef4f7ed3c6ec4", checked := Tryz.checked }
namespace Rows
def none {H : Type} : Left H := { results := [], args := [] }

/-- 'palanquinlaw25.MachinePlays': WHATEVER THE INPUT: true; the input reads as it did. -/
def machinePlaysSpec : ChangeSpec := { name := "machinePlays", fn := fun _ => fun
  | [d1, d2, d3, d4, d5] => { results := [.lit (.bool true)], args := [d1, d2, d3, d4, d5] }
  | _ => none }
def machinePlaysRow : OpenClaim := { program := "ytmahledpcpdldaagreat", sum := "29b5e24d0316c988aac1fd2cc140f819e470768aab62f643045ef4f7ed3c6ec4", func := "palanquin/palanquinlaw25.MachinePlays", spec := "machinePlays", unfollowed := true, recurses := true, plainKeys := false, apart := false }
def MachinePlaysSaid : Prop := machinePlaysRow.holds Tryz.pinned (OpenSpec.ofChange machinePlaysSpec)

/-- ITS FALSE NEIGHBOUR: 'it returns false'. Refute it at one input. -/
def machinePlaysWrong : ChangeSpec := { name := "machinePlays", fn := fun _ => fun
  | [d1, d2, d3, d4, d5] => { results := [.lit (.bool false)], args := [d1, d2, d3, d4, d5] }
  | _ => none }
def MachinePlaysWrongFalsely : Prop := machinePlaysRow.holds Tryz.pinned (OpenSpec.ofChange machinePlaysWrong)

/-- 'palanquinlaw26.FindTells': WHATEVER THE INPUT: true; the input reads as it did. -/
def findTellsSpec : ChangeSpec := { name := "findTells", fn := fun _ => fun
  | [d1, d2, d3, d4, d5, d6, d7] => { results := [.lit (.bool true)], args := [d1, d2, d3, d4, d5, d6, d7] }
  | _ => none }
def findTellsRow : OpenClaim := { program := "ytmahledpcpdldaagreat", sum := "29b5e24d0316c988aac1fd2cc140f819e470768aab62f643045ef4f7ed3c6ec4", func := "palanquin/palanquinlaw26.FindTells", spec := "findTells", unfollowed := true, recurses := true, plainKeys := false, apart := false }
def FindTellsSaid : Prop := findTellsRow.holds Tryz.pinned (OpenSpec.ofChange findTellsSpec)

/-- ITS FALSE NEIGHBOUR: 'it returns false'. Refute it at one input. -/
def findTellsWrong : ChangeSpec := { name := "findTells", fn := fun _ => fun
  | [d1, d2, d3, d4, d5, d6, d7] => { results := [.lit (.bool false)], args := [d1, d2, d3, d4, d5, d6, d7] }
  | _ => none }
def FindTellsWrongFalsely : Prop := findTellsRow.holds Tryz.pinned (OpenSpec.ofChange findTellsWrong)

/-- 'palanquinlaw27.BuildZero': WHATEVER THE INPUT: true; the input reads as it did. -/
def buildZeroSpec : ChangeSpec := { name := "buildZero", fn := fun _ => fun
  | [d] => { results := [.lit (.bool true)], args := [d] }
  | _ => none }
def buildZeroRow : OpenClaim := { program := "ytmahledpcpdldaagreat", sum := "29b5e24d0316c988aac1fd2cc140f819e470768aab62f643045ef4f7ed3c6ec4", func := "palanquin/palanquinlaw27.BuildZero", spec := "buildZero", unfollowed := true, recurses := true, plainKeys := false, apart := false }
def BuildZeroSaid : Prop := buildZeroRow.holds Tryz.pinned (OpenSpec.ofChange buildZeroSpec)

/-- ITS FALSE NEIGHBOUR: 'it returns false'. Refute it at one input. -/
def buildZeroWrong : ChangeSpec := { name := "buildZero", fn := fun _ => fun
  | [d] => { results := [.lit (.bool false)], args := [d] }
  | _ => none }
def BuildZeroWrongFalsely : Prop := buildZeroRow.holds Tryz.pinned (OpenSpec.ofChange buildZeroWrong)

/- THE SECOND FORM. 'bulk': how many values and letters a reading holds, each counted each time it is reached (what is shared counts as often as it is met; a slice's spare places count too). A statement '..UptoSaid' is the law's where the arguments, and the package variables that the reading takes, are together of bulk at most 1048576: NARROWER than '..Said'. Prove '..Said' where nothing that the law and all that it calls make is longer than what came in: it says more and counts as full. Else prove '..UptoSaid'. A law counts once. -/
mutual
def uptoBulk {H : Type} : DataW H → Nat
  | .lit (.string bytes) => bytes.length + 1
  | .lit _ => 1
  | .nil => 1
  | .ptr d => uptoBulk d + 1
  | .slice elems spare => uptoBulkAll elems + uptoBulkAll spare + 1
  | .agg parts => uptoBulkAll parts + 1
  | .iface _ d => uptoBulk d + 1
  | .map entries => uptoBulkEntries entries + 1
  | .held _ => 1
def uptoBulkAll {H : Type} : List (DataW H) → Nat
  | [] => 0
  | d :: r => uptoBulk d + uptoBulkAll r
def uptoBulkEntries {H : Type} : List (Lit × DataW H) → Nat
  | [] => 0
  | x :: r => uptoBulkEntry x + uptoBulkEntries r
def uptoBulkEntry {H : Type} : Lit × DataW H → Nat
  | (.string bytes, d) => bytes.length + uptoBulk d + 1
  | (_, d) => uptoBulk d + 1
 end
def uptoSmall : (H : Type) → List (DataW H) → Bool := fun _ ds => decide (uptoBulkAll ds ≤ 1048576)
def OpenSpec.upto (s : _root_.Go.ChangeSpec) : _root_.Go.OpenSpec := { _root_.Go.OpenSpec.ofChange s with cond := some uptoSmall }

/-- 'palanquinlaw25.MachinePlays', WHERE WHAT IT READS IS OF BULK AT MOST 1048576: true; the input reads as it did. -/
def machinePlaysUptoRow : OpenClaim := { program := "ytmahledpcpdldaagreat", sum := "29b5e24d0316c988aac1fd2cc140f819e470768aab62f643045ef4f7ed3c6ec4", func := "palanquin/palanquinlaw25.MachinePlays", spec := "machinePlays", unfollowed := true, recurses := true, plainKeys := false, apart := false, narrowed := true }
def MachinePlaysUptoSaid : Prop := machinePlaysUptoRow.holds Tryz.pinned (OpenSpec.upto machinePlaysSpec)

/-- 'palanquinlaw26.FindTells', WHERE WHAT IT READS IS OF BULK AT MOST 1048576: true; the input reads as it did. -/
def findTellsUptoRow : OpenClaim := { program := "ytmahledpcpdldaagreat", sum := "29b5e24d0316c988aac1fd2cc140f819e470768aab62f643045ef4f7ed3c6ec4", func := "palanquin/palanquinlaw26.FindTells", spec := "findTells", unfollowed := true, recurses := true, plainKeys := false, apart := false, narrowed := true }
def FindTellsUptoSaid : Prop := findTellsUptoRow.holds Tryz.pinned (OpenSpec.upto findTellsSpec)

/-- 'palanquinlaw27.BuildZero', WHERE WHAT IT READS IS OF BULK AT MOST 1048576: true; the input reads as it did. -/
def buildZeroUptoRow : OpenClaim := { program := "ytmahledpcpdldaagreat", sum := "29b5e24d0316c988aac1fd2cc140f819e470768aab62f643045ef4f7ed3c6ec4", func := "palanquin/palanquinlaw27.BuildZero", spec := "buildZero", unfollowed := true, recurses := true, plainKeys := false, apart := false, narrowed := true }
def BuildZeroUptoSaid : Prop := buildZeroUptoRow.holds Tryz.pinned (OpenSpec.upto buildZeroSpec)

end Rows
end Go.Proofs.YtmahledpcpdldaaGreat
