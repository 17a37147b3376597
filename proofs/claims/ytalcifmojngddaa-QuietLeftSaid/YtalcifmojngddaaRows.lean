/-
  No cell of these rows narrows 'for every input' (looked for: loops, veiled, ifaces, maps, wideKeys, modest, calm, conditions, laid).
  DERIVED. THE GIVEN ROWS OF THIS SEAT. 7 by the template 'for every input the law returns true; each argument reads behind the call as it read before'; 0 by the template 'total and deterministic' (their statements: YtalcifmojngddaaTotals.lean).
  GIVEN WITH THE SEED: the statements are not yours to turn. If you find one false, say at which input.
  Laid BY PROGRAM, IN A SANDBOX (cutbox-rows.mjs): the forced cells as the released guide's own fill.sh prints them over the translation d1cef3b527814b38… (all of the seat's roots in one cut). By AI agents, Wed Nov 11 2026. No macro, syntax, notation, axiom, sorry.
-/
import Derived.Test.YtalcifmojngddaaChecked
import GoSem.Claim
import GoSem.ClaimJoined
import GoSem.ClaimMapViews
import Derived.JoinedTies
import Derived.KernelRfl
namespace Go.Proofs.Ytalcifmojngddaa
/- THE CELL 'sum', in the pinned program and in every row, IS THE sha256 OF THE DUMP (.gsa) THAT YtalcifmojngddaaProg.lean LOADS. Nothing in Lean hashes anything: it is a label: what it is worth is what the hold of that sum in a sandbox is worth. -/
noncomputable def Try.pinned : Pinned := { name := "ytalcifmojngddaa", sum := "d1cef3b527814b387640b3ea8588663ad2e327f567318a8bb9585e6cff72663d", checked := Try.checked }
namespace Rows
def none {H : Type} : Left H := { results := [], args := [] }

/-- 'palanquinlaw03.ClockOne': WHATEVER THE INPUT: true; the input reads as it did. -/
def clockOneSpec : ChangeSpec := { name := "clockOne", fn := fun _ => fun
  | [d1, d2, d3, d4] => { results := [.lit (.bool true)], args := [d1, d2, d3, d4] }
  | _ => none }
def clockOneRow : OpenClaim := { program := "ytalcifmojngddaa", sum := "d1cef3b527814b387640b3ea8588663ad2e327f567318a8bb9585e6cff72663d", func := "palanquin/palanquinlaw03.ClockOne", spec := "clockOne", apart := false }
def ClockOneSaid : Prop := clockOneRow.holds Try.pinned (OpenSpec.ofChange clockOneSpec)

/-- ITS FALSE NEIGHBOUR: 'it returns false'. Refute it at one input. -/
def clockOneWrong : ChangeSpec := { name := "clockOne", fn := fun _ => fun
  | [d1, d2, d3, d4] => { results := [.lit (.bool false)], args := [d1, d2, d3, d4] }
  | _ => none }
def ClockOneWrongFalsely : Prop := clockOneRow.holds Try.pinned (OpenSpec.ofChange clockOneWrong)

/-- 'palanquinlaw03.ClockZero': WHATEVER THE INPUT: true; the input reads as it did. -/
def clockZeroSpec : ChangeSpec := { name := "clockZero", fn := fun _ => fun
  | [d] => { results := [.lit (.bool true)], args := [d] }
  | _ => none }
def clockZeroRow : OpenClaim := { program := "ytalcifmojngddaa", sum := "d1cef3b527814b387640b3ea8588663ad2e327f567318a8bb9585e6cff72663d", func := "palanquin/palanquinlaw03.ClockZero", spec := "clockZero", unfollowed := true, recurses := true, apart := false }
def ClockZeroSaid : Prop := clockZeroRow.holds Try.pinned (OpenSpec.ofChange clockZeroSpec)

/-- ITS FALSE NEIGHBOUR: 'it returns false'. Refute it at one input. -/
def clockZeroWrong : ChangeSpec := { name := "clockZero", fn := fun _ => fun
  | [d] => { results := [.lit (.bool false)], args := [d] }
  | _ => none }
def ClockZeroWrongFalsely : Prop := clockZeroRow.holds Try.pinned (OpenSpec.ofChange clockZeroWrong)

/-- 'palanquinlaw03.ClockSums': WHATEVER THE INPUT: true; the input reads as it did. -/
def clockSumsSpec : ChangeSpec := { name := "clockSums", fn := fun _ => fun
  | [d1, d2] => { results := [.lit (.bool true)], args := [d1, d2] }
  | _ => none }
def clockSumsRow : OpenClaim := { program := "ytalcifmojngddaa", sum := "d1cef3b527814b387640b3ea8588663ad2e327f567318a8bb9585e6cff72663d", func := "palanquin/palanquinlaw03.ClockSums", spec := "clockSums", unfollowed := true, recurses := true, apart := false }
def ClockSumsSaid : Prop := clockSumsRow.holds Try.pinned (OpenSpec.ofChange clockSumsSpec)

/-- ITS FALSE NEIGHBOUR: 'it returns false'. Refute it at one input. -/
def clockSumsWrong : ChangeSpec := { name := "clockSums", fn := fun _ => fun
  | [d1, d2] => { results := [.lit (.bool false)], args := [d1, d2] }
  | _ => none }
def ClockSumsWrongFalsely : Prop := clockSumsRow.holds Try.pinned (OpenSpec.ofChange clockSumsWrong)

/-- 'palanquinlaw03.ClockPlays': WHATEVER THE INPUT: true; the input reads as it did. -/
def clockPlaysSpec : ChangeSpec := { name := "clockPlays", fn := fun _ => fun
  | [d1, d2, d3] => { results := [.lit (.bool true)], args := [d1, d2, d3] }
  | _ => none }
def clockPlaysRow : OpenClaim := { program := "ytalcifmojngddaa", sum := "d1cef3b527814b387640b3ea8588663ad2e327f567318a8bb9585e6cff72663d", func := "palanquin/palanquinlaw03.ClockPlays", spec := "clockPlays", unfollowed := true, recurses := true, apart := false }
def ClockPlaysSaid : Prop := clockPlaysRow.holds Try.pinned (OpenSpec.ofChange clockPlaysSpec)

/-- ITS FALSE NEIGHBOUR: 'it returns false'. Refute it at one input. -/
def clockPlaysWrong : ChangeSpec := { name := "clockPlays", fn := fun _ => fun
  | [d1, d2, d3] => { results := [.lit (.bool false)], args := [d1, d2, d3] }
  | _ => none }
def ClockPlaysWrongFalsely : Prop := clockPlaysRow.holds Try.pinned (OpenSpec.ofChange clockPlaysWrong)

/-- 'palanquinlaw08.QuietEarlier': WHATEVER THE INPUT: true; the input reads as it did. -/
def quietEarlierSpec : ChangeSpec := { name := "quietEarlier", fn := fun _ => fun
  | [d1, d2, d3, d4] => { results := [.lit (.bool true)], args := [d1, d2, d3, d4] }
  | _ => none }
def quietEarlierRow : OpenClaim := { program := "ytalcifmojngddaa", sum := "d1cef3b527814b387640b3ea8588663ad2e327f567318a8bb9585e6cff72663d", func := "palanquin/palanquinlaw08.QuietEarlier", spec := "quietEarlier", unfollowed := true, recurses := true, apart := false }
def QuietEarlierSaid : Prop := quietEarlierRow.holds Try.pinned (OpenSpec.ofChange quietEarlierSpec)

/-- ITS FALSE NEIGHBOUR: 'it returns false'. Refute it at one input. -/
def quietEarlierWrong : ChangeSpec := { name := "quietEarlier", fn := fun _ => fun
  | [d1, d2, d3, d4] => { results := [.lit (.bool false)], args := [d1, d2, d3, d4] }
  | _ => none }
def QuietEarlierWrongFalsely : Prop := quietEarlierRow.holds Try.pinned (OpenSpec.ofChange quietEarlierWrong)

/-- 'palanquinlaw08.QuietTells': WHATEVER THE INPUT: true; the input reads as it did. -/
def quietTellsSpec : ChangeSpec := { name := "quietTells", fn := fun _ => fun
  | [d1, d2, d3, d4, d5] => { results := [.lit (.bool true)], args := [d1, d2, d3, d4, d5] }
  | _ => none }
def quietTellsRow : OpenClaim := { program := "ytalcifmojngddaa", sum := "d1cef3b527814b387640b3ea8588663ad2e327f567318a8bb9585e6cff72663d", func := "palanquin/palanquinlaw08.QuietTells", spec := "quietTells", unfollowed := true, recurses := true, apart := false }
def QuietTellsSaid : Prop := quietTellsRow.holds Try.pinned (OpenSpec.ofChange quietTellsSpec)

/-- ITS FALSE NEIGHBOUR: 'it returns false'. Refute it at one input. -/
def quietTellsWrong : ChangeSpec := { name := "quietTells", fn := fun _ => fun
  | [d1, d2, d3, d4, d5] => { results := [.lit (.bool false)], args := [d1, d2, d3, d4, d5] }
  | _ => none }
def QuietTellsWrongFalsely : Prop := quietTellsRow.holds Try.pinned (OpenSpec.ofChange quietTellsWrong)

/-- 'palanquinlaw08.QuietLeft': WHATEVER THE INPUT: true; the input reads as it did. -/
def quietLeftSpec : ChangeSpec := { name := "quietLeft", fn := fun _ => fun
  | [d1, d2, d3, d4] => { results := [.lit (.bool true)], args := [d1, d2, d3, d4] }
  | _ => none }
def quietLeftRow : OpenClaim := { program := "ytalcifmojngddaa", sum := "d1cef3b527814b387640b3ea8588663ad2e327f567318a8bb9585e6cff72663d", func := "palanquin/palanquinlaw08.QuietLeft", spec := "quietLeft", unfollowed := true, recurses := true, apart := false }
def QuietLeftSaid : Prop := quietLeftRow.holds Try.pinned (OpenSpec.ofChange quietLeftSpec)

/-- ITS FALSE NEIGHBOUR: 'it returns false'. Refute it at one input. -/
def quietLeftWrong : ChangeSpec := { name := "quietLeft", fn := fun _ => fun
  | [d1, d2, d3, d4] => { results := [.lit (.bool false)], args := [d1, d2, d3, d4] }
  | _ => none }
def QuietLeftWrongFalsely : Prop := quietLeftRow.holds Try.pinned (OpenSpec.ofChange quietLeftWrong)

/- THE SECOND FORM. 'bulk': how many values and letters a reading holds, each counted each time it is reached (what is shared counts as often as it is met; a slice's spare places count too). A statement '..UptoSaid' is the law's where the arguments, and the package variables that the reading takes, are together of bulk at most 1048576: NARROWER than '..Said'. Prove '..Said' where nothing that the law and all that it calls make is longer than what came in: it says more and counts as full. Else prove '..UptoSaid'. A law counts once. -/
mutual
def uptoBulk {H : Type} : DataW H → Nat
  | .lit (.string bytes) => bytes.length + 1
  | .lit _ => 1
  | .nil => 1
  | .ptr d => uptoBulk d + 1
  | .slice elems spare => uptoBulkAll elems + uptoBulkAll spare + 1
  | .agg parts => uptoBulkAll parts + 1
  | .iface _ d => uptoBulk d + 1
  | .map entries => uptoBulkEntries entries + 1
  | .held _ => 1
def uptoBulkAll {H : Type} : List (DataW H) → Nat
  | [] => 0
  | d :: r => uptoBulk d + uptoBulkAll r
def uptoBulkEntries {H : Type} : List (Lit × DataW H) → Nat
  | [] => 0
  | x :: r => uptoBulkEntry x + uptoBulkEntries r
def uptoBulkEntry {H : Type} : Lit × DataW H → Nat
  | (.string bytes, d) => bytes.length + uptoBulk d + 1
  | (_, d) => uptoBulk d + 1
 end
def uptoSmall : (H : Type) → List (DataW H) → Bool := fun _ ds => decide (uptoBulkAll ds ≤ 1048576)
def OpenSpec.upto (s : _root_.Go.ChangeSpec) : _root_.Go.OpenSpec := { _root_.Go.OpenSpec.ofChange s with cond := some uptoSmall }

/-- 'palanquinlaw03.ClockOne', WHERE WHAT IT READS IS OF BULK AT MOST 1048576: true; the input reads as it did. -/
def clockOneUptoRow : OpenClaim := { program := "ytalcifmojngddaa", sum := "d1cef3b527814b387640b3ea8588663ad2e327f567318a8bb9585e6cff72663d", func := "palanquin/palanquinlaw03.ClockOne", spec := "clockOne", apart := false, narrowed := true }
def ClockOneUptoSaid : Prop := clockOneUptoRow.holds Try.pinned (OpenSpec.upto clockOneSpec)

/-- 'palanquinlaw03.ClockZero', WHERE WHAT IT READS IS OF BULK AT MOST 1048576: true; the input reads as it did. -/
def clockZeroUptoRow : OpenClaim := { program := "ytalcifmojngddaa", sum := "d1cef3b527814b387640b3ea8588663ad2e327f567318a8bb9585e6cff72663d", func := "palanquin/palanquinlaw03.ClockZero", spec := "clockZero", unfollowed := true, recurses := true, apart := false, narrowed := true }
def ClockZeroUptoSaid : Prop := clockZeroUptoRow.holds Try.pinned (OpenSpec.upto clockZeroSpec)

/-- 'palanquinlaw03.ClockSums', WHERE WHAT IT READS IS OF BULK AT MOST 1048576: true; the input reads as it did. -/
def clockSumsUptoRow : OpenClaim := { program := "ytalcifmojngddaa", sum := "d1cef3b527814b387640b3ea8588663ad2e327f567318a8bb9585e6cff72663d", func := "palanquin/palanquinlaw03.ClockSums", spec := "clockSums", unfollowed := true, recurses := true, apart := false, narrowed := true }
def ClockSumsUptoSaid : Prop := clockSumsUptoRow.holds Try.pinned (OpenSpec.upto clockSumsSpec)

/-- 'palanquinlaw03.ClockPlays', WHERE WHAT IT READS IS OF BULK AT MOST 1048576: true; the input reads as it did. -/
def clockPlaysUptoRow : OpenClaim := { program := "ytalcifmojngddaa", sum := "d1cef3b527814b387640b3ea8588663ad2e327f567318a8bb9585e6cff72663d", func := "palanquin/palanquinlaw03.ClockPlays", spec := "clockPlays", unfollowed := true, recurses := true, apart := false, narrowed := true }
def ClockPlaysUptoSaid : Prop := clockPlaysUptoRow.holds Try.pinned (OpenSpec.upto clockPlaysSpec)

/-- 'palanquinlaw08.QuietEarlier', WHERE WHAT IT READS IS OF BULK AT MOST 1048576: true; the input reads as it did. -/
def quietEarlierUptoRow : OpenClaim := { program := "ytalcifmojngddaa", sum := "d1cef3b527814b387640b3ea8588663ad2e327f567318a8bb9585e6cff72663d", func := "palanquin/palanquinlaw08.QuietEarlier", spec := "quietEarlier", unfollowed := true, recurses := true, apart := false, narrowed := true }
def QuietEarlierUptoSaid : Prop := quietEarlierUptoRow.holds Try.pinned (OpenSpec.upto quietEarlierSpec)

/-- 'palanquinlaw08.QuietTells', WHERE WHAT IT READS IS OF BULK AT MOST 1048576: true; the input reads as it did. -/
def quietTellsUptoRow : OpenClaim := { program := "ytalcifmojngddaa", sum := "d1cef3b527814b387640b3ea8588663ad2e327f567318a8bb9585e6cff72663d", func := "palanquin/palanquinlaw08.QuietTells", spec := "quietTells", unfollowed := true, recurses := true, apart := false, narrowed := true }
def QuietTellsUptoSaid : Prop := quietTellsUptoRow.holds Try.pinned (OpenSpec.upto quietTellsSpec)

/-- 'palanquinlaw08.QuietLeft', WHERE WHAT IT READS IS OF BULK AT MOST 1048576: true; the input reads as it did. -/
def quietLeftUptoRow : OpenClaim := { program := "ytalcifmojngddaa", sum := "d1cef3b527814b387640b3ea8588663ad2e327f567318a8bb9585e6cff72663d", func := "palanquin/palanquinlaw08.QuietLeft", spec := "quietLeft", unfollowed := true, recurses := true, apart := false, narrowed := true }
def QuietLeftUptoSaid : Prop := quietLeftUptoRow.holds Try.pinned (OpenSpec.upto quietLeftSpec)

end Rows
end Go.Proofs.Ytalcifmojngddaa
