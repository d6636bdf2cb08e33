/-
  No cell of these rows narrows 'for every input' (looked for: loops, veiled, ifaces, maps, wideKeys, modest, calm, conditions, laid).
  DERIVED. THE GIVEN ROWS OF THIS SEAT. 9 by the template 'for every input the law returns true; each argument reads behind the call as it read before'; 0 by the template 'total and deterministic' (their statements: YthhdihnaicggiaaTotals.lean).
  GIVEN WITH THE SEED: the statements are not yours to turn. If you find one false, say at which input.
  Laid BY PROGRAM, IN A SANDBOX (cutbox-rows.mjs): the forced cells as the released guide's own fill.sh prints them over the translation ef440451cde3d017… (all of the seat's roots in one cut). By AI agents, Wed Nov 11 2026. No macro, syntax, notation, axiom, sorry.
-/
import Derived.Test.YthhdihnaicggiaaChecked
import GoSem.Claim
import GoSem.ClaimJoined
import GoSem.ClaimMapViews
import Derived.JoinedTies
import Derived.KernelRfl
namespace Go.Proofs.Ythhdihnaicggiaa
/- THE CELL 'sum', in the pinned program and in every row, IS THE sha256 OF THE DUMP (.gsa) THAT YthhdihnaicggiaaProg.lean LOADS. Nothing in Lean hashes anything: it is a label: what it is worth is what the hold of that sum in a sandbox is worth. -/
noncomputable def Try.pinned : Pinned := { name := "ythhdihnaicggiaa", sum := "ef440451cde3d017548435762385a50db4efbe9f8f3723222f998b0d0e5f285d", checked := Try.checked }
namespace Rows
def none {H : Type} : Left H := { results := [], args := [] }

/-- 'peristylelaw2.EncodeBestIsShortest': WHATEVER THE INPUT: true; the input reads as it did. -/
def encodeBestIsShortestSpec : ChangeSpec := { name := "encodeBestIsShortest", fn := fun _ => fun
  | [d] => { results := [.lit (.bool true)], args := [d] }
  | _ => none }
def encodeBestIsShortestRow : OpenClaim := { program := "ythhdihnaicggiaa", sum := "ef440451cde3d017548435762385a50db4efbe9f8f3723222f998b0d0e5f285d", func := "peristyle/peristylelaw2.EncodeBestIsShortest", spec := "encodeBestIsShortest", recurses := true, apart := false }
def EncodeBestIsShortestSaid : Prop := encodeBestIsShortestRow.holds Try.pinned (OpenSpec.ofChange encodeBestIsShortestSpec)

/-- ITS FALSE NEIGHBOUR: 'it returns false'. Refute it at one input. -/
def encodeBestIsShortestWrong : ChangeSpec := { name := "encodeBestIsShortest", fn := fun _ => fun
  | [d] => { results := [.lit (.bool false)], args := [d] }
  | _ => none }
def EncodeBestIsShortestWrongFalsely : Prop := encodeBestIsShortestRow.holds Try.pinned (OpenSpec.ofChange encodeBestIsShortestWrong)

/-- 'peristylelaw2.EncodeNullsMatchSpec': WHATEVER THE INPUT: true; the input reads as it did. -/
def encodeNullsMatchSpecSpec : ChangeSpec := { name := "encodeNullsMatchSpec", fn := fun _ => fun
  | [d1, d2] => { results := [.lit (.bool true)], args := [d1, d2] }
  | _ => none }
def encodeNullsMatchSpecRow : OpenClaim := { program := "ythhdihnaicggiaa", sum := "ef440451cde3d017548435762385a50db4efbe9f8f3723222f998b0d0e5f285d", func := "peristyle/peristylelaw2.EncodeNullsMatchSpec", spec := "encodeNullsMatchSpec", recurses := true, apart := false }
def EncodeNullsMatchSpecSaid : Prop := encodeNullsMatchSpecRow.holds Try.pinned (OpenSpec.ofChange encodeNullsMatchSpecSpec)

/-- ITS FALSE NEIGHBOUR: 'it returns false'. Refute it at one input. -/
def encodeNullsMatchSpecWrong : ChangeSpec := { name := "encodeNullsMatchSpec", fn := fun _ => fun
  | [d1, d2] => { results := [.lit (.bool false)], args := [d1, d2] }
  | _ => none }
def EncodeNullsMatchSpecWrongFalsely : Prop := encodeNullsMatchSpecRow.holds Try.pinned (OpenSpec.ofChange encodeNullsMatchSpecWrong)

/-- 'peristylelaw2.EncodeComesBack': WHATEVER THE INPUT: true; the input reads as it did. -/
def encodeComesBackSpec : ChangeSpec := { name := "encodeComesBack", fn := fun _ => fun
  | [d1, d2, d3] => { results := [.lit (.bool true)], args := [d1, d2, d3] }
  | _ => none }
def encodeComesBackRow : OpenClaim := { program := "ythhdihnaicggiaa", sum := "ef440451cde3d017548435762385a50db4efbe9f8f3723222f998b0d0e5f285d", func := "peristyle/peristylelaw2.EncodeComesBack", spec := "encodeComesBack", recurses := true, apart := false }
def EncodeComesBackSaid : Prop := encodeComesBackRow.holds Try.pinned (OpenSpec.ofChange encodeComesBackSpec)

/-- ITS FALSE NEIGHBOUR: 'it returns false'. Refute it at one input. -/
def encodeComesBackWrong : ChangeSpec := { name := "encodeComesBack", fn := fun _ => fun
  | [d1, d2, d3] => { results := [.lit (.bool false)], args := [d1, d2, d3] }
  | _ => none }
def EncodeComesBackWrongFalsely : Prop := encodeComesBackRow.holds Try.pinned (OpenSpec.ofChange encodeComesBackWrong)

/-- 'peristylelaw2.EncodeIntsMatchSpec': WHATEVER THE INPUT: true; the input reads as it did. -/
def encodeIntsMatchSpecSpec : ChangeSpec := { name := "encodeIntsMatchSpec", fn := fun _ => fun
  | [d1, d2, d3] => { results := [.lit (.bool true)], args := [d1, d2, d3] }
  | _ => none }
def encodeIntsMatchSpecRow : OpenClaim := { program := "ythhdihnaicggiaa", sum := "ef440451cde3d017548435762385a50db4efbe9f8f3723222f998b0d0e5f285d", func := "peristyle/peristylelaw2.EncodeIntsMatchSpec", spec := "encodeIntsMatchSpec", recurses := true, apart := false }
def EncodeIntsMatchSpecSaid : Prop := encodeIntsMatchSpecRow.holds Try.pinned (OpenSpec.ofChange encodeIntsMatchSpecSpec)

/-- ITS FALSE NEIGHBOUR: 'it returns false'. Refute it at one input. -/
def encodeIntsMatchSpecWrong : ChangeSpec := { name := "encodeIntsMatchSpec", fn := fun _ => fun
  | [d1, d2, d3] => { results := [.lit (.bool false)], args := [d1, d2, d3] }
  | _ => none }
def EncodeIntsMatchSpecWrongFalsely : Prop := encodeIntsMatchSpecRow.holds Try.pinned (OpenSpec.ofChange encodeIntsMatchSpecWrong)

/-- 'peristylelaw2.EncodeAskedIsDecoded': WHATEVER THE INPUT: true; the input reads as it did. -/
def encodeAskedIsDecodedSpec : ChangeSpec := { name := "encodeAskedIsDecoded", fn := fun _ => fun
  | [d1, d2, d3, d4, d5] => { results := [.lit (.bool true)], args := [d1, d2, d3, d4, d5] }
  | _ => none }
def encodeAskedIsDecodedRow : OpenClaim := { program := "ythhdihnaicggiaa", sum := "ef440451cde3d017548435762385a50db4efbe9f8f3723222f998b0d0e5f285d", func := "peristyle/peristylelaw2.EncodeAskedIsDecoded", spec := "encodeAskedIsDecoded", recurses := true, apart := false }
def EncodeAskedIsDecodedSaid : Prop := encodeAskedIsDecodedRow.holds Try.pinned (OpenSpec.ofChange encodeAskedIsDecodedSpec)

/-- ITS FALSE NEIGHBOUR: 'it returns false'. Refute it at one input. -/
def encodeAskedIsDecodedWrong : ChangeSpec := { name := "encodeAskedIsDecoded", fn := fun _ => fun
  | [d1, d2, d3, d4, d5] => { results := [.lit (.bool false)], args := [d1, d2, d3, d4, d5] }
  | _ => none }
def EncodeAskedIsDecodedWrongFalsely : Prop := encodeAskedIsDecodedRow.holds Try.pinned (OpenSpec.ofChange encodeAskedIsDecodedWrong)

/-- 'peristylelaw2.EncodeJoinedIsBoth': WHATEVER THE INPUT: true; the input reads as it did. -/
def encodeJoinedIsBothSpec : ChangeSpec := { name := "encodeJoinedIsBoth", fn := fun _ => fun
  | [d1, d2, d3, d4] => { results := [.lit (.bool true)], args := [d1, d2, d3, d4] }
  | _ => none }
def encodeJoinedIsBothRow : OpenClaim := { program := "ythhdihnaicggiaa", sum := "ef440451cde3d017548435762385a50db4efbe9f8f3723222f998b0d0e5f285d", func := "peristyle/peristylelaw2.EncodeJoinedIsBoth", spec := "encodeJoinedIsBoth", recurses := true, apart := false }
def EncodeJoinedIsBothSaid : Prop := encodeJoinedIsBothRow.holds Try.pinned (OpenSpec.ofChange encodeJoinedIsBothSpec)

/-- ITS FALSE NEIGHBOUR: 'it returns false'. Refute it at one input. -/
def encodeJoinedIsBothWrong : ChangeSpec := { name := "encodeJoinedIsBoth", fn := fun _ => fun
  | [d1, d2, d3, d4] => { results := [.lit (.bool false)], args := [d1, d2, d3, d4] }
  | _ => none }
def EncodeJoinedIsBothWrongFalsely : Prop := encodeJoinedIsBothRow.holds Try.pinned (OpenSpec.ofChange encodeJoinedIsBothWrong)

/-- 'peristylelaw2.EncodeTextsComeBack': WHATEVER THE INPUT: true; the input reads as it did. -/
def encodeTextsComeBackSpec : ChangeSpec := { name := "encodeTextsComeBack", fn := fun _ => fun
  | [d1, d2, d3, d4, d5] => { results := [.lit (.bool true)], args := [d1, d2, d3, d4, d5] }
  | _ => none }
def encodeTextsComeBackRow : OpenClaim := { program := "ythhdihnaicggiaa", sum := "ef440451cde3d017548435762385a50db4efbe9f8f3723222f998b0d0e5f285d", func := "peristyle/peristylelaw2.EncodeTextsComeBack", spec := "encodeTextsComeBack", recurses := true, apart := false }
def EncodeTextsComeBackSaid : Prop := encodeTextsComeBackRow.holds Try.pinned (OpenSpec.ofChange encodeTextsComeBackSpec)

/-- ITS FALSE NEIGHBOUR: 'it returns false'. Refute it at one input. -/
def encodeTextsComeBackWrong : ChangeSpec := { name := "encodeTextsComeBack", fn := fun _ => fun
  | [d1, d2, d3, d4, d5] => { results := [.lit (.bool false)], args := [d1, d2, d3, d4, d5] }
  | _ => none }
def EncodeTextsComeBackWrongFalsely : Prop := encodeTextsComeBackRow.holds Try.pinned (OpenSpec.ofChange encodeTextsComeBackWrong)

/-- 'peristylelaw2.EncodeAskedMatchesSpec': WHATEVER THE INPUT: true; the input reads as it did. -/
def encodeAskedMatchesSpecSpec : ChangeSpec := { name := "encodeAskedMatchesSpec", fn := fun _ => fun
  | [d1, d2, d3, d4, d5] => { results := [.lit (.bool true)], args := [d1, d2, d3, d4, d5] }
  | _ => none }
def encodeAskedMatchesSpecRow : OpenClaim := { program := "ythhdihnaicggiaa", sum := "ef440451cde3d017548435762385a50db4efbe9f8f3723222f998b0d0e5f285d", func := "peristyle/peristylelaw2.EncodeAskedMatchesSpec", spec := "encodeAskedMatchesSpec", recurses := true, apart := false }
def EncodeAskedMatchesSpecSaid : Prop := encodeAskedMatchesSpecRow.holds Try.pinned (OpenSpec.ofChange encodeAskedMatchesSpecSpec)

/-- ITS FALSE NEIGHBOUR: 'it returns false'. Refute it at one input. -/
def encodeAskedMatchesSpecWrong : ChangeSpec := { name := "encodeAskedMatchesSpec", fn := fun _ => fun
  | [d1, d2, d3, d4, d5] => { results := [.lit (.bool false)], args := [d1, d2, d3, d4, d5] }
  | _ => none }
def EncodeAskedMatchesSpecWrongFalsely : Prop := encodeAskedMatchesSpecRow.holds Try.pinned (OpenSpec.ofChange encodeAskedMatchesSpecWrong)

/-- 'peristylelaw2.EncodeTextsMatchSpec': WHATEVER THE INPUT: true; the input reads as it did. -/
def encodeTextsMatchSpecSpec : ChangeSpec := { name := "encodeTextsMatchSpec", fn := fun _ => fun
  | [d1, d2, d3, d4, d5, d6] => { results := [.lit (.bool true)], args := [d1, d2, d3, d4, d5, d6] }
  | _ => none }
def encodeTextsMatchSpecRow : OpenClaim := { program := "ythhdihnaicggiaa", sum := "ef440451cde3d017548435762385a50db4efbe9f8f3723222f998b0d0e5f285d", func := "peristyle/peristylelaw2.EncodeTextsMatchSpec", spec := "encodeTextsMatchSpec", recurses := true, apart := false }
def EncodeTextsMatchSpecSaid : Prop := encodeTextsMatchSpecRow.holds Try.pinned (OpenSpec.ofChange encodeTextsMatchSpecSpec)

/-- ITS FALSE NEIGHBOUR: 'it returns false'. Refute it at one input. -/
def encodeTextsMatchSpecWrong : ChangeSpec := { name := "encodeTextsMatchSpec", fn := fun _ => fun
  | [d1, d2, d3, d4, d5, d6] => { results := [.lit (.bool false)], args := [d1, d2, d3, d4, d5, d6] }
  | _ => none }
def EncodeTextsMatchSpecWrongFalsely : Prop := encodeTextsMatchSpecRow.holds Try.pinned (OpenSpec.ofChange encodeTextsMatchSpecWrong)

/- THE SECOND FORM. 'bulk': how many values and letters a reading holds, each counted each time it is reached (what is shared counts as often as it is met; a slice's spare places count too). A statement '..UptoSaid' is the law's where the arguments, and the package variables that the reading takes, are together of bulk at most 1048576: NARROWER than '..Said'. Prove '..Said' where nothing that the law and all that it calls make is longer than what came in: it says more and counts as full. Else prove '..UptoSaid'. A law counts once. -/
mutual
def uptoBulk {H : Type} : DataW H → Nat
  | .lit (.string bytes) => bytes.length + 1
  | .lit _ => 1
  | .nil => 1
  | .ptr d => uptoBulk d + 1
  | .slice elems spare => uptoBulkAll elems + uptoBulkAll spare + 1
  | .agg parts => uptoBulkAll parts + 1
  | .iface _ d => uptoBulk d + 1
  | .map entries => uptoBulkEntries entries + 1
  | .held _ => 1
def uptoBulkAll {H : Type} : List (DataW H) → Nat
  | [] => 0
  | d :: r => uptoBulk d + uptoBulkAll r
def uptoBulkEntries {H : Type} : List (Lit × DataW H) → Nat
  | [] => 0
  | x :: r => uptoBulkEntry x + uptoBulkEntries r
def uptoBulkEntry {H : Type} : Lit × DataW H → Nat
  | (.string bytes, d) => bytes.length + uptoBulk d + 1
  | (_, d) => uptoBulk d + 1
 end
def uptoSmall : (H : Type) → List (DataW H) → Bool := fun _ ds => decide (uptoBulkAll ds ≤ 1048576)
def OpenSpec.upto (s : _root_.Go.ChangeSpec) : _root_.Go.OpenSpec := { _root_.Go.OpenSpec.ofChange s with cond := some uptoSmall }

/-- 'peristylelaw2.EncodeBestIsShortest', WHERE WHAT IT READS IS OF BULK AT MOST 1048576: true; the input reads as it did. -/
def encodeBestIsShortestUptoRow : OpenClaim := { program := "ythhdihnaicggiaa", sum := "ef440451cde3d017548435762385a50db4efbe9f8f3723222f998b0d0e5f285d", func := "peristyle/peristylelaw2.EncodeBestIsShortest", spec := "encodeBestIsShortest", recurses := true, apart := false, narrowed := true }
def EncodeBestIsShortestUptoSaid : Prop := encodeBestIsShortestUptoRow.holds Try.pinned (OpenSpec.upto encodeBestIsShortestSpec)

/-- 'peristylelaw2.EncodeNullsMatchSpec', WHERE WHAT IT READS IS OF BULK AT MOST 1048576: true; the input reads as it did. -/
def encodeNullsMatchSpecUptoRow : OpenClaim := { program := "ythhdihnaicggiaa", sum := "ef440451cde3d017548435762385a50db4efbe9f8f3723222f998b0d0e5f285d", func := "peristyle/peristylelaw2.EncodeNullsMatchSpec", spec := "encodeNullsMatchSpec", recurses := true, apart := false, narrowed := true }
def EncodeNullsMatchSpecUptoSaid : Prop := encodeNullsMatchSpecUptoRow.holds Try.pinned (OpenSpec.upto encodeNullsMatchSpecSpec)

/-- 'peristylelaw2.EncodeComesBack', WHERE WHAT IT READS IS OF BULK AT MOST 1048576: true; the input reads as it did. -/
def encodeComesBackUptoRow : OpenClaim := { program := "ythhdihnaicggiaa", sum := "ef440451cde3d017548435762385a50db4efbe9f8f3723222f998b0d0e5f285d", func := "peristyle/peristylelaw2.EncodeComesBack", spec := "encodeComesBack", recurses := true, apart := false, narrowed := true }
def EncodeComesBackUptoSaid : Prop := encodeComesBackUptoRow.holds Try.pinned (OpenSpec.upto encodeComesBackSpec)

/-- 'peristylelaw2.EncodeIntsMatchSpec', WHERE WHAT IT READS IS OF BULK AT MOST 1048576: true; the input reads as it did. -/
def encodeIntsMatchSpecUptoRow : OpenClaim := { program := "ythhdihnaicggiaa", sum := "ef440451cde3d017548435762385a50db4efbe9f8f3723222f998b0d0e5f285d", func := "peristyle/peristylelaw2.EncodeIntsMatchSpec", spec := "encodeIntsMatchSpec", recurses := true, apart := false, narrowed := true }
def EncodeIntsMatchSpecUptoSaid : Prop := encodeIntsMatchSpecUptoRow.holds Try.pinned (OpenSpec.upto encodeIntsMatchSpecSpec)

/-- 'peristylelaw2.EncodeAskedIsDecoded', WHERE WHAT IT READS IS OF BULK AT MOST 1048576: true; the input reads as it did. -/
def encodeAskedIsDecodedUptoRow : OpenClaim := { program := "ythhdihnaicggiaa", sum := "ef440451cde3d017548435762385a50db4efbe9f8f3723222f998b0d0e5f285d", func := "peristyle/peristylelaw2.EncodeAskedIsDecoded", spec := "encodeAskedIsDecoded", recurses := true, apart := false, narrowed := true }
def EncodeAskedIsDecodedUptoSaid : Prop := encodeAskedIsDecodedUptoRow.holds Try.pinned (OpenSpec.upto encodeAskedIsDecodedSpec)

/-- 'peristylelaw2.EncodeJoinedIsBoth', WHERE WHAT IT READS IS OF BULK AT MOST 1048576: true; the input reads as it did. -/
def encodeJoinedIsBothUptoRow : OpenClaim := { program := "ythhdihnaicggiaa", sum := "ef440451cde3d017548435762385a50db4efbe9f8f3723222f998b0d0e5f285d", func := "peristyle/peristylelaw2.EncodeJoinedIsBoth", spec := "encodeJoinedIsBoth", recurses := true, apart := false, narrowed := true }
def EncodeJoinedIsBothUptoSaid : Prop := encodeJoinedIsBothUptoRow.holds Try.pinned (OpenSpec.upto encodeJoinedIsBothSpec)

/-- 'peristylelaw2.EncodeTextsComeBack', WHERE WHAT IT READS IS OF BULK AT MOST 1048576: true; the input reads as it did. -/
def encodeTextsComeBackUptoRow : OpenClaim := { program := "ythhdihnaicggiaa", sum := "ef440451cde3d017548435762385a50db4efbe9f8f3723222f998b0d0e5f285d", func := "peristyle/peristylelaw2.EncodeTextsComeBack", spec := "encodeTextsComeBack", recurses := true, apart := false, narrowed := true }
def EncodeTextsComeBackUptoSaid : Prop := encodeTextsComeBackUptoRow.holds Try.pinned (OpenSpec.upto encodeTextsComeBackSpec)

/-- 'peristylelaw2.EncodeAskedMatchesSpec', WHERE WHAT IT READS IS OF BULK AT MOST 1048576: true; the input reads as it did. -/
def encodeAskedMatchesSpecUptoRow : OpenClaim := { program := "ythhdihnaicggiaa", sum := "ef440451cde3d017548435762385a50db4efbe9f8f3723222f998b0d0e5f285d", func := "peristyle/peristylelaw2.EncodeAskedMatchesSpec", spec := "encodeAskedMatchesSpec", recurses := true, apart := false, narrowed := true }
def EncodeAskedMatchesSpecUptoSaid : Prop := encodeAskedMatchesSpecUptoRow.holds Try.pinned (OpenSpec.upto encodeAskedMatchesSpecSpec)

/-- 'peristylelaw2.EncodeTextsMatchSpec', WHERE WHAT IT READS IS OF BULK AT MOST 1048576: true; the input reads as it did. -/
def encodeTextsMatchSpecUptoRow : OpenClaim := { program := "ythhdihnaicggiaa", sum := "ef440451cde3d017548435762385a50db4efbe9f8f3723222f998b0d0e5f285d", func := "peristyle/peristylelaw2.EncodeTextsMatchSpec", spec := "encodeTextsMatchSpec", recurses := true, apart := false, narrowed := true }
def EncodeTextsMatchSpecUptoSaid : Prop := encodeTextsMatchSpecUptoRow.holds Try.pinned (OpenSpec.upto encodeTextsMatchSpecSpec)

end Rows
end Go.Proofs.Ythhdihnaicggiaa
