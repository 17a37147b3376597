/-
  No cell of these rows narrows 'for every input' (looked for: loops, veiled, ifaces, maps, wideKeys, modest, calm, conditions, laid).
  DERIVED. THE GIVEN ROWS OF THIS SEAT. 5 by the template 'for every input the law returns true; each argument reads behind the call as it read before'; 0 by the template 'total and deterministic' (their statements: YtejdfdllgobnhaaTotals.lean).
  GIVEN WITH THE SEED: the statements are not yours to turn. If you find one false, say at which input.
  Laid BY PROGRAM, IN A SANDBOX (cutbox-rows.mjs): the forced cells as the released guide's own fill.sh prints them over the translation 267186a3942085f0… (all of the seat's roots in one cut). By AI agents, Wed Nov 11 2026. No macro, syntax, notation, axiom, sorry.
-/
import Derived.Test.YtejdfdllgobnhaaChecked
import GoSem.Claim
import GoSem.ClaimJoined
import GoSem.ClaimMapViews
import Derived.JoinedTies
import Derived.KernelRfl
namespace Go.Proofs.Ytejdfdllgobnhaa
/- THE CELL 'sum', in the pinned program and in every row, IS THE sha256 OF THE DUMP (.gsa) THAT YtejdfdllgobnhaaProg.lean LOADS. Nothing in Lean hashes anything: it is a label: what it is worth is what the hold of that sum in a sandbox is worth. -/
noncomputable def Try.pinned : Pinned := { name := "ytejdfdllgobnhaa", sum := "267186a3942085f0610c7563112ccd512c0cf077d7e46b247b04ecd07053b39c", checked := Try.checked }
namespace Rows
def none {H : Type} : Left H := { results := [], args := [] }

/-- 'palanquinlaw25.MachineSeen': WHATEVER THE INPUT: true; the input reads as it did. -/
def machineSeenSpec : ChangeSpec := { name := "machineSeen", fn := fun _ => fun
  | [d1, d2, d3, d4, d5] => { results := [.lit (.bool true)], args := [d1, d2, d3, d4, d5] }
  | _ => none }
def machineSeenRow : OpenClaim := { program := "ytejdfdllgobnhaa", sum := "267186a3942085f0610c7563112ccd512c0cf077d7e46b247b04ecd07053b39c", func := "palanquin/palanquinlaw25.MachineSeen", spec := "machineSeen", unfollowed := true, recurses := true, plainKeys := false, apart := false }
def MachineSeenSaid : Prop := machineSeenRow.holds Try.pinned (OpenSpec.ofChange machineSeenSpec)

/-- ITS FALSE NEIGHBOUR: 'it returns false'. Refute it at one input. -/
def machineSeenWrong : ChangeSpec := { name := "machineSeen", fn := fun _ => fun
  | [d1, d2, d3, d4, d5] => { results := [.lit (.bool false)], args := [d1, d2, d3, d4, d5] }
  | _ => none }
def MachineSeenWrongFalsely : Prop := machineSeenRow.holds Try.pinned (OpenSpec.ofChange machineSeenWrong)

/-- 'palanquinlaw25.MachineZero': WHATEVER THE INPUT: true; the input reads as it did. -/
def machineZeroSpec : ChangeSpec := { name := "machineZero", fn := fun _ => fun
  | [d1, d2] => { results := [.lit (.bool true)], args := [d1, d2] }
  | _ => none }
def machineZeroRow : OpenClaim := { program := "ytejdfdllgobnhaa", sum := "267186a3942085f0610c7563112ccd512c0cf077d7e46b247b04ecd07053b39c", func := "palanquin/palanquinlaw25.MachineZero", spec := "machineZero", unfollowed := true, recurses := true, plainKeys := false, apart := false }
def MachineZeroSaid : Prop := machineZeroRow.holds Try.pinned (OpenSpec.ofChange machineZeroSpec)

/-- ITS FALSE NEIGHBOUR: 'it returns false'. Refute it at one input. -/
def machineZeroWrong : ChangeSpec := { name := "machineZero", fn := fun _ => fun
  | [d1, d2] => { results := [.lit (.bool false)], args := [d1, d2] }
  | _ => none }
def MachineZeroWrongFalsely : Prop := machineZeroRow.holds Try.pinned (OpenSpec.ofChange machineZeroWrong)

/-- 'palanquinlaw13.CaptblBeside': WHATEVER THE INPUT: true; the input reads as it did. -/
def captblBesideSpec : ChangeSpec := { name := "captblBeside", fn := fun _ => fun
  | [d1, d2, d3, d4, d5] => { results := [.lit (.bool true)], args := [d1, d2, d3, d4, d5] }
  | _ => none }
def captblBesideRow : OpenClaim := { program := "ytejdfdllgobnhaa", sum := "267186a3942085f0610c7563112ccd512c0cf077d7e46b247b04ecd07053b39c", func := "palanquin/palanquinlaw13.CaptblBeside", spec := "captblBeside", unfollowed := true, recurses := true, plainKeys := false, apart := false }
def CaptblBesideSaid : Prop := captblBesideRow.holds Try.pinned (OpenSpec.ofChange captblBesideSpec)

/-- ITS FALSE NEIGHBOUR: 'it returns false'. Refute it at one input. -/
def captblBesideWrong : ChangeSpec := { name := "captblBeside", fn := fun _ => fun
  | [d1, d2, d3, d4, d5] => { results := [.lit (.bool false)], args := [d1, d2, d3, d4, d5] }
  | _ => none }
def CaptblBesideWrongFalsely : Prop := captblBesideRow.holds Try.pinned (OpenSpec.ofChange captblBesideWrong)

/-- 'palanquinlaw13.CaptblQuiet': WHATEVER THE INPUT: true; the input reads as it did. -/
def captblQuietSpec : ChangeSpec := { name := "captblQuiet", fn := fun _ => fun
  | [d1, d2, d3, d4, d5] => { results := [.lit (.bool true)], args := [d1, d2, d3, d4, d5] }
  | _ => none }
def captblQuietRow : OpenClaim := { program := "ytejdfdllgobnhaa", sum := "267186a3942085f0610c7563112ccd512c0cf077d7e46b247b04ecd07053b39c", func := "palanquin/palanquinlaw13.CaptblQuiet", spec := "captblQuiet", unfollowed := true, recurses := true, plainKeys := false, apart := false }
def CaptblQuietSaid : Prop := captblQuietRow.holds Try.pinned (OpenSpec.ofChange captblQuietSpec)

/-- ITS FALSE NEIGHBOUR: 'it returns false'. Refute it at one input. -/
def captblQuietWrong : ChangeSpec := { name := "captblQuiet", fn := fun _ => fun
  | [d1, d2, d3, d4, d5] => { results := [.lit (.bool false)], args := [d1, d2, d3, d4, d5] }
  | _ => none }
def CaptblQuietWrongFalsely : Prop := captblQuietRow.holds Try.pinned (OpenSpec.ofChange captblQuietWrong)

/-- 'palanquinlaw13.CaptblLeaf': WHATEVER THE INPUT: true; the input reads as it did. -/
def captblLeafSpec : ChangeSpec := { name := "captblLeaf", fn := fun _ => fun
  | [d1, d2, d3, d4, d5] => { results := [.lit (.bool true)], args := [d1, d2, d3, d4, d5] }
  | _ => none }
def captblLeafRow : OpenClaim := { program := "ytejdfdllgobnhaa", sum := "267186a3942085f0610c7563112ccd512c0cf077d7e46b247b04ecd07053b39c", func := "palanquin/palanquinlaw13.CaptblLeaf", spec := "captblLeaf", unfollowed := true, recurses := true, plainKeys := false, apart := false }
def CaptblLeafSaid : Prop := captblLeafRow.holds Try.pinned (OpenSpec.ofChange captblLeafSpec)

/-- ITS FALSE NEIGHBOUR: 'it returns false'. Refute it at one input. -/
def captblLeafWrong : ChangeSpec := { name := "captblLeaf", fn := fun _ => fun
  | [d1, d2, d3, d4, d5] => { results := [.lit (.bool false)], args := [d1, d2, d3, d4, d5] }
  | _ => none }
def CaptblLeafWrongFalsely : Prop := captblLeafRow.holds Try.pinned (OpenSpec.ofChange captblLeafWrong)

/- THE SECOND FORM. 'bulk': how many values and letters a reading holds, each counted each time it is reached (what is shared counts as often as it is met; a slice's spare places count too). A statement '..UptoSaid' is the law's where the arguments, and the package variables that the reading takes, are together of bulk at most 1048576: NARROWER than '..Said'. Prove '..Said' where nothing that the law and all that it calls make is longer than what came in: it says more and counts as full. Else prove '..UptoSaid'. A law counts once. -/
mutual
def uptoBulk {H : Type} : DataW H → Nat
  | .lit (.string bytes) => bytes.length + 1
  | .lit _ => 1
  | .nil => 1
  | .ptr d => uptoBulk d + 1
  | .slice elems spare => uptoBulkAll elems + uptoBulkAll spare + 1
  | .agg parts => uptoBulkAll parts + 1
  | .iface _ d => uptoBulk d + 1
  | .map entries => uptoBulkEntries entries + 1
  | .held _ => 1
def uptoBulkAll {H : Type} : List (DataW H) → Nat
  | [] => 0
  | d :: r => uptoBulk d + uptoBulkAll r
def uptoBulkEntries {H : Type} : List (Lit × DataW H) → Nat
  | [] => 0
  | x :: r => uptoBulkEntry x + uptoBulkEntries r
def uptoBulkEntry {H : Type} : Lit × DataW H → Nat
  | (.string bytes, d) => bytes.length + uptoBulk d + 1
  | (_, d) => uptoBulk d + 1
 end
def uptoSmall : (H : Type) → List (DataW H) → Bool := fun _ ds => decide (uptoBulkAll ds ≤ 1048576)
def OpenSpec.upto (s : _root_.Go.ChangeSpec) : _root_.Go.OpenSpec := { _root_.Go.OpenSpec.ofChange s with cond := some uptoSmall }

/-- 'palanquinlaw25.MachineSeen', WHERE WHAT IT READS IS OF BULK AT MOST 1048576: true; the input reads as it did. -/
def machineSeenUptoRow : OpenClaim := { program := "ytejdfdllgobnhaa", sum := "267186a3942085f0610c7563112ccd512c0cf077d7e46b247b04ecd07053b39c", func := "palanquin/palanquinlaw25.MachineSeen", spec := "machineSeen", unfollowed := true, recurses := true, plainKeys := false, apart := false, narrowed := true }
def MachineSeenUptoSaid : Prop := machineSeenUptoRow.holds Try.pinned (OpenSpec.upto machineSeenSpec)

/-- 'palanquinlaw25.MachineZero', WHERE WHAT IT READS IS OF BULK AT MOST 1048576: true; the input reads as it did. -/
def machineZeroUptoRow : OpenClaim := { program := "ytejdfdllgobnhaa", sum := "267186a3942085f0610c7563112ccd512c0cf077d7e46b247b04ecd07053b39c", func := "palanquin/palanquinlaw25.MachineZero", spec := "machineZero", unfollowed := true, recurses := true, plainKeys := false, apart := false, narrowed := true }
def MachineZeroUptoSaid : Prop := machineZeroUptoRow.holds Try.pinned (OpenSpec.upto machineZeroSpec)

/-- 'palanquinlaw13.CaptblBeside', WHERE WHAT IT READS IS OF BULK AT MOST 1048576: true; the input reads as it did. -/
def captblBesideUptoRow : OpenClaim := { program := "ytejdfdllgobnhaa", sum := "267186a3942085f0610c7563112ccd512c0cf077d7e46b247b04ecd07053b39c", func := "palanquin/palanquinlaw13.CaptblBeside", spec := "captblBeside", unfollowed := true, recurses := true, plainKeys := false, apart := false, narrowed := true }
def CaptblBesideUptoSaid : Prop := captblBesideUptoRow.holds Try.pinned (OpenSpec.upto captblBesideSpec)

/-- 'palanquinlaw13.CaptblQuiet', WHERE WHAT IT READS IS OF BULK AT MOST 1048576: true; the input reads as it did. -/
def captblQuietUptoRow : OpenClaim := { program := "ytejdfdllgobnhaa", sum := "267186a3942085f0610c7563112ccd512c0cf077d7e46b247b04ecd07053b39c", func := "palanquin/palanquinlaw13.CaptblQuiet", spec := "captblQuiet", unfollowed := true, recurses := true, plainKeys := false, apart := false, narrowed := true }
def CaptblQuietUptoSaid : Prop := captblQuietUptoRow.holds Try.pinned (OpenSpec.upto captblQuietSpec)

/-- 'palanquinlaw13.CaptblLeaf', WHERE WHAT IT READS IS OF BULK AT MOST 1048576: true; the input reads as it did. -/
def captblLeafUptoRow : OpenClaim := { program := "ytejdfdllgobnhaa", sum := "267186a3942085f0610c7563112ccd512c0cf077d7e46b247b04ecd07053b39c", func := "palanquin/palanquinlaw13.CaptblLeaf", spec := "captblLeaf", unfollowed := true, recurses := true, plainKeys := false, apart := false, narrowed := true }
def CaptblLeafUptoSaid : Prop := captblLeafUptoRow.holds Try.pinned (OpenSpec.upto captblLeafSpec)

end Rows
end Go.Proofs.Ytejdfdllgobnhaa
