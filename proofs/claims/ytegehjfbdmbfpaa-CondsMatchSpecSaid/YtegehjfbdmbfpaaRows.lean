/-
  No cell of these rows narrows 'for every input' (looked for: loops, veiled, ifaces, maps, wideKeys, modest, calm, conditions, laid).
  DERIVED. THE GIVEN ROWS OF THIS SEAT. 3 by the template 'for every input the law returns true; each argument reads behind the call as it read before'; 0 by the template 'total and deterministic' (their statements: YtegehjfbdmbfpaaTotals.lean).
  GIVEN WITH THE SEED: the statements are not yours to turn. If you find one false, say at which input.
  Laid BY PROGRAM, IN A SANDBOX (cutbox-rows.mjs): the forced cells as the released guide's own fill.sh prints them over the translation 6fc4c879d7a2f440… (all of the seat's roots in one cut). By AI agents, Wed Nov 11 2026. No macro, syntax, notation, axiom, sorry.
-/
import Derived.Test.YtegehjfbdmbfpaaChecked
import GoSem.Claim
import GoSem.ClaimJoined
import GoSem.ClaimMapViews
import Derived.JoinedTies
import Derived.KernelRfl
namespace Go.Proofs.Ytegehjfbdmbfpaa
/- THE CELL 'sum', in the pinned program and in every row, IS THE sha256 OF THE DUMP (.gsa) THAT YtegehjfbdmbfpaaProg.lean LOADS. Nothing in Lean hashes anything: it is a label: what it is worth is what the hold of that sum in a sandbox is worth. -/
noncomputable def Try.pinned : Pinned := { name := "ytegehjfbdmbfpaa", sum := "6fc4c879d7a2f44043dddfd9d0f3327231736125ec0c6956c186b177c56d6030", checked := Try.checked }
namespace Rows
def none {H : Type} : Left H := { results := [], args := [] }

/-- 'peristylelaw3.CondsMatchSpec': WHATEVER THE INPUT: true; the input reads as it did. -/
def condsMatchSpecSpec : ChangeSpec := { name := "condsMatchSpec", fn := fun _ => fun
  | [d1, d2] => { results := [.lit (.bool true)], args := [d1, d2] }
  | _ => none }
def condsMatchSpecRow : OpenClaim := { program := "ytegehjfbdmbfpaa", sum := "6fc4c879d7a2f44043dddfd9d0f3327231736125ec0c6956c186b177c56d6030", func := "peristyle/peristylelaw3.CondsMatchSpec", spec := "condsMatchSpec", inPlace := ["internal/bytealg.abigen_runtime_cmpstring"], apart := false }
def CondsMatchSpecSaid : Prop := condsMatchSpecRow.holds Try.pinned (OpenSpec.ofChange condsMatchSpecSpec)

/-- ITS FALSE NEIGHBOUR: 'it returns false'. Refute it at one input. -/
def condsMatchSpecWrong : ChangeSpec := { name := "condsMatchSpec", fn := fun _ => fun
  | [d1, d2] => { results := [.lit (.bool false)], args := [d1, d2] }
  | _ => none }
def CondsMatchSpecWrongFalsely : Prop := condsMatchSpecRow.holds Try.pinned (OpenSpec.ofChange condsMatchSpecWrong)

/-- 'peristylelaw3.ZonesMatchSpec': WHATEVER THE INPUT: true; the input reads as it did. -/
def zonesMatchSpecSpec : ChangeSpec := { name := "zonesMatchSpec", fn := fun _ => fun
  | [d1, d2, d3] => { results := [.lit (.bool true)], args := [d1, d2, d3] }
  | _ => none }
def zonesMatchSpecRow : OpenClaim := { program := "ytegehjfbdmbfpaa", sum := "6fc4c879d7a2f44043dddfd9d0f3327231736125ec0c6956c186b177c56d6030", func := "peristyle/peristylelaw3.ZonesMatchSpec", spec := "zonesMatchSpec", inPlace := ["internal/bytealg.abigen_runtime_cmpstring"], unfollowed := true, recurses := true, apart := false }
def ZonesMatchSpecSaid : Prop := zonesMatchSpecRow.holds Try.pinned (OpenSpec.ofChange zonesMatchSpecSpec)

/-- ITS FALSE NEIGHBOUR: 'it returns false'. Refute it at one input. -/
def zonesMatchSpecWrong : ChangeSpec := { name := "zonesMatchSpec", fn := fun _ => fun
  | [d1, d2, d3] => { results := [.lit (.bool false)], args := [d1, d2, d3] }
  | _ => none }
def ZonesMatchSpecWrongFalsely : Prop := zonesMatchSpecRow.holds Try.pinned (OpenSpec.ofChange zonesMatchSpecWrong)

/-- 'peristylelaw3.CondsTellOfValues': WHATEVER THE INPUT: true; the input reads as it did. -/
def condsTellOfValuesSpec : ChangeSpec := { name := "condsTellOfValues", fn := fun _ => fun
  | [d1, d2, d3] => { results := [.lit (.bool true)], args := [d1, d2, d3] }
  | _ => none }
def condsTellOfValuesRow : OpenClaim := { program := "ytegehjfbdmbfpaa", sum := "6fc4c879d7a2f44043dddfd9d0f3327231736125ec0c6956c186b177c56d6030", func := "peristyle/peristylelaw3.CondsTellOfValues", spec := "condsTellOfValues", inPlace := ["internal/bytealg.abigen_runtime_cmpstring"], unfollowed := true, recurses := true, apart := false }
def CondsTellOfValuesSaid : Prop := condsTellOfValuesRow.holds Try.pinned (OpenSpec.ofChange condsTellOfValuesSpec)

/-- ITS FALSE NEIGHBOUR: 'it returns false'. Refute it at one input. -/
def condsTellOfValuesWrong : ChangeSpec := { name := "condsTellOfValues", fn := fun _ => fun
  | [d1, d2, d3] => { results := [.lit (.bool false)], args := [d1, d2, d3] }
  | _ => none }
def CondsTellOfValuesWrongFalsely : Prop := condsTellOfValuesRow.holds Try.pinned (OpenSpec.ofChange condsTellOfValuesWrong)

/- THE SECOND FORM. 'bulk': how many values and letters a reading holds, each counted each time it is reached (what is shared counts as often as it is met; a slice's spare places count too). A statement '..UptoSaid' is the law's where the arguments, and the package variables that the reading takes, are together of bulk at most 1048576: NARROWER than '..Said'. Prove '..Said' where nothing that the law and all that it calls make is longer than what came in: it says more and counts as full. Else prove '..UptoSaid'. A law counts once. -/
mutual
def uptoBulk {H : Type} : DataW H → Nat
  | .lit (.string bytes) => bytes.length + 1
  | .lit _ => 1
  | .nil => 1
  | .ptr d => uptoBulk d + 1
  | .slice elems spare => uptoBulkAll elems + uptoBulkAll spare + 1
  | .agg parts => uptoBulkAll parts + 1
  | .iface _ d => uptoBulk d + 1
  | .map entries => uptoBulkEntries entries + 1
  | .held _ => 1
def uptoBulkAll {H : Type} : List (DataW H) → Nat
  | [] => 0
  | d :: r => uptoBulk d + uptoBulkAll r
def uptoBulkEntries {H : Type} : List (Lit × DataW H) → Nat
  | [] => 0
  | x :: r => uptoBulkEntry x + uptoBulkEntries r
def uptoBulkEntry {H : Type} : Lit × DataW H → Nat
  | (.string bytes, d) => bytes.length + uptoBulk d + 1
  | (_, d) => uptoBulk d + 1
 end
def uptoSmall : (H : Type) → List (DataW H) → Bool := fun _ ds => decide (uptoBulkAll ds ≤ 1048576)
def OpenSpec.upto (s : _root_.Go.ChangeSpec) : _root_.Go.OpenSpec := { _root_.Go.OpenSpec.ofChange s with cond := some uptoSmall }

/-- 'peristylelaw3.CondsMatchSpec', WHERE WHAT IT READS IS OF BULK AT MOST 1048576: true; the input reads as it did. -/
def condsMatchSpecUptoRow : OpenClaim := { program := "ytegehjfbdmbfpaa", sum := "6fc4c879d7a2f44043dddfd9d0f3327231736125ec0c6956c186b177c56d6030", func := "peristyle/peristylelaw3.CondsMatchSpec", spec := "condsMatchSpec", inPlace := ["internal/bytealg.abigen_runtime_cmpstring"], apart := false, narrowed := true }
def CondsMatchSpecUptoSaid : Prop := condsMatchSpecUptoRow.holds Try.pinned (OpenSpec.upto condsMatchSpecSpec)

/-- 'peristylelaw3.ZonesMatchSpec', WHERE WHAT IT READS IS OF BULK AT MOST 1048576: true; the input reads as it did. -/
def zonesMatchSpecUptoRow : OpenClaim := { program := "ytegehjfbdmbfpaa", sum := "6fc4c879d7a2f44043dddfd9d0f3327231736125ec0c6956c186b177c56d6030", func := "peristyle/peristylelaw3.ZonesMatchSpec", spec := "zonesMatchSpec", inPlace := ["internal/bytealg.abigen_runtime_cmpstring"], unfollowed := true, recurses := true, apart := false, narrowed := true }
def ZonesMatchSpecUptoSaid : Prop := zonesMatchSpecUptoRow.holds Try.pinned (OpenSpec.upto zonesMatchSpecSpec)

/-- 'peristylelaw3.CondsTellOfValues', WHERE WHAT IT READS IS OF BULK AT MOST 1048576: true; the input reads as it did. -/
def condsTellOfValuesUptoRow : OpenClaim := { program := "ytegehjfbdmbfpaa", sum := "6fc4c879d7a2f44043dddfd9d0f3327231736125ec0c6956c186b177c56d6030", func := "peristyle/peristylelaw3.CondsTellOfValues", spec := "condsTellOfValues", inPlace := ["internal/bytealg.abigen_runtime_cmpstring"], unfollowed := true, recurses := true, apart := false, narrowed := true }
def CondsTellOfValuesUptoSaid : Prop := condsTellOfValuesUptoRow.holds Try.pinned (OpenSpec.upto condsTellOfValuesSpec)

end Rows
end Go.Proofs.Ytegehjfbdmbfpaa
