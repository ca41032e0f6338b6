/-
  No cell of these rows narrows 'for every input' (looked for: loops, veiled, ifaces, maps, wideKeys, modest, calm, conditions, laid).
  DERIVED. THE GIVEN ROWS OF THIS SEAT. 4 by the template 'for every input the law returns true; each argument reads behind the call as it read before'; 0 by the template 'total and deterministic' (their statements: YtigpacfcklcmpaaTotals.lean).
  GIVEN WITH THE SEED: the statements are not yours to turn. If you find one false, say at which input.
  Laid BY PROGRAM, IN A SANDBOX (cutbox-rows.mjs): the forced cells as the released guide's own fill.sh prints them over the translation 3b1e4d0dc937df9d… (all of the seat's roots in one cut). By AI agents, Wed Nov 11 2026. No macro, syntax, notation, axiom, sorry.
-/
import Derived.Test.YtigpacfcklcmpaaChecked
import GoSem.Claim
import GoSem.ClaimJoined
import GoSem.ClaimMapViews
import Derived.JoinedTies
import Derived.KernelRfl
namespace Go.Proofs.Ytigpacfcklcmpaa
/- THE CELL 'sum', in the pinned program and in every row, IS THE sha256 OF THE DUMP (.gsa) THAT YtigpacfcklcmpaaProg.lean LOADS. Nothing in Lean hashes anything: it is a label: what it is worth is what the hold of that sum in a sandbox is worth. -/
noncomputable def Try.pinned : Pinned := { name := "ytigpacfcklcmpaa", sum := "3b1e4d0dc937df9d64d6fa6037283e809f5a1917216955493113285e3d9f7f5d", checked := Try.checked }
namespace Rows
def none {H : Type} : Left H := { results := [], args := [] }

/-- 'headgatelaw35.FaultLoses': WHATEVER THE INPUT: true; the input reads as it did. -/
def faultLosesSpec : ChangeSpec := { name := "faultLoses", fn := fun _ => fun
  | [d1, d2, d3] => { results := [.lit (.bool true)], args := [d1, d2, d3] }
  | _ => none }
def faultLosesRow : OpenClaim := { program := "ytigpacfcklcmpaa", sum := "3b1e4d0dc937df9d64d6fa6037283e809f5a1917216955493113285e3d9f7f5d", func := "headgate/headgatelaw35.FaultLoses", spec := "faultLoses", unfollowed := true, recurses := true, apart := false }
def FaultLosesSaid : Prop := faultLosesRow.holds Try.pinned (OpenSpec.ofChange faultLosesSpec)

/-- ITS FALSE NEIGHBOUR: 'it returns false'. Refute it at one input. -/
def faultLosesWrong : ChangeSpec := { name := "faultLoses", fn := fun _ => fun
  | [d1, d2, d3] => { results := [.lit (.bool false)], args := [d1, d2, d3] }
  | _ => none }
def FaultLosesWrongFalsely : Prop := faultLosesRow.holds Try.pinned (OpenSpec.ofChange faultLosesWrong)

/-- 'headgatelaw35.FaultLowers': WHATEVER THE INPUT: true; the input reads as it did. -/
def faultLowersSpec : ChangeSpec := { name := "faultLowers", fn := fun _ => fun
  | [d1, d2, d3, d4] => { results := [.lit (.bool true)], args := [d1, d2, d3, d4] }
  | _ => none }
def faultLowersRow : OpenClaim := { program := "ytigpacfcklcmpaa", sum := "3b1e4d0dc937df9d64d6fa6037283e809f5a1917216955493113285e3d9f7f5d", func := "headgate/headgatelaw35.FaultLowers", spec := "faultLowers", unfollowed := true, recurses := true, apart := false }
def FaultLowersSaid : Prop := faultLowersRow.holds Try.pinned (OpenSpec.ofChange faultLowersSpec)

/-- ITS FALSE NEIGHBOUR: 'it returns false'. Refute it at one input. -/
def faultLowersWrong : ChangeSpec := { name := "faultLowers", fn := fun _ => fun
  | [d1, d2, d3, d4] => { results := [.lit (.bool false)], args := [d1, d2, d3, d4] }
  | _ => none }
def FaultLowersWrongFalsely : Prop := faultLowersRow.holds Try.pinned (OpenSpec.ofChange faultLowersWrong)

/-- 'headgatelaw35.FaultSteps': WHATEVER THE INPUT: true; the input reads as it did. -/
def faultStepsSpec : ChangeSpec := { name := "faultSteps", fn := fun _ => fun
  | [d1, d2, d3] => { results := [.lit (.bool true)], args := [d1, d2, d3] }
  | _ => none }
def faultStepsRow : OpenClaim := { program := "ytigpacfcklcmpaa", sum := "3b1e4d0dc937df9d64d6fa6037283e809f5a1917216955493113285e3d9f7f5d", func := "headgate/headgatelaw35.FaultSteps", spec := "faultSteps", unfollowed := true, recurses := true, apart := false }
def FaultStepsSaid : Prop := faultStepsRow.holds Try.pinned (OpenSpec.ofChange faultStepsSpec)

/-- ITS FALSE NEIGHBOUR: 'it returns false'. Refute it at one input. -/
def faultStepsWrong : ChangeSpec := { name := "faultSteps", fn := fun _ => fun
  | [d1, d2, d3] => { results := [.lit (.bool false)], args := [d1, d2, d3] }
  | _ => none }
def FaultStepsWrongFalsely : Prop := faultStepsRow.holds Try.pinned (OpenSpec.ofChange faultStepsWrong)

/-- 'headgatelaw35.FaultKnown': WHATEVER THE INPUT: true; the input reads as it did. -/
def faultKnownSpec : ChangeSpec := { name := "faultKnown", fn := fun _ => fun
  | [] => { results := [.lit (.bool true)], args := [] }
  | _ => none }
def faultKnownRow : OpenClaim := { program := "ytigpacfcklcmpaa", sum := "3b1e4d0dc937df9d64d6fa6037283e809f5a1917216955493113285e3d9f7f5d", func := "headgate/headgatelaw35.FaultKnown", spec := "faultKnown", unfollowed := true, recurses := true, apart := false }
def FaultKnownSaid : Prop := faultKnownRow.holds Try.pinned (OpenSpec.ofChange faultKnownSpec)

/-- ITS FALSE NEIGHBOUR: 'it returns false'. Refute it at one input. -/
def faultKnownWrong : ChangeSpec := { name := "faultKnown", fn := fun _ => fun
  | [] => { results := [.lit (.bool false)], args := [] }
  | _ => none }
def FaultKnownWrongFalsely : Prop := faultKnownRow.holds Try.pinned (OpenSpec.ofChange faultKnownWrong)

/- THE SECOND FORM. 'bulk': how many values and letters a reading holds, each counted each time it is reached (what is shared counts as often as it is met; a slice's spare places count too). A statement '..UptoSaid' is the law's where the arguments, and the package variables that the reading takes, are together of bulk at most 1048576: NARROWER than '..Said'. Prove '..Said' where nothing that the law and all that it calls make is longer than what came in: it says more and counts as full. Else prove '..UptoSaid'. A law counts once. -/
mutual
def uptoBulk {H : Type} : DataW H → Nat
  | .lit (.string bytes) => bytes.length + 1
  | .lit _ => 1
  | .nil => 1
  | .ptr d => uptoBulk d + 1
  | .slice elems spare => uptoBulkAll elems + uptoBulkAll spare + 1
  | .agg parts => uptoBulkAll parts + 1
  | .iface _ d => uptoBulk d + 1
  | .map entries => uptoBulkEntries entries + 1
  | .held _ => 1
def uptoBulkAll {H : Type} : List (DataW H) → Nat
  | [] => 0
  | d :: r => uptoBulk d + uptoBulkAll r
def uptoBulkEntries {H : Type} : List (Lit × DataW H) → Nat
  | [] => 0
  | x :: r => uptoBulkEntry x + uptoBulkEntries r
def uptoBulkEntry {H : Type} : Lit × DataW H → Nat
  | (.string bytes, d) => bytes.length + uptoBulk d + 1
  | (_, d) => uptoBulk d + 1
 end
def uptoSmall : (H : Type) → List (DataW H) → Bool := fun _ ds => decide (uptoBulkAll ds ≤ 1048576)
def OpenSpec.upto (s : _root_.Go.ChangeSpec) : _root_.Go.OpenSpec := { _root_.Go.OpenSpec.ofChange s with cond := some uptoSmall }

/-- 'headgatelaw35.FaultLoses', WHERE WHAT IT READS IS OF BULK AT MOST 1048576: true; the input reads as it did. -/
def faultLosesUptoRow : OpenClaim := { program := "ytigpacfcklcmpaa", sum := "3b1e4d0dc937df9d64d6fa6037283e809f5a1917216955493113285e3d9f7f5d", func := "headgate/headgatelaw35.FaultLoses", spec := "faultLoses", unfollowed := true, recurses := true, apart := false, narrowed := true }
def FaultLosesUptoSaid : Prop := faultLosesUptoRow.holds Try.pinned (OpenSpec.upto faultLosesSpec)

/-- 'headgatelaw35.FaultLowers', WHERE WHAT IT READS IS OF BULK AT MOST 1048576: true; the input reads as it did. -/
def faultLowersUptoRow : OpenClaim := { program := "ytigpacfcklcmpaa", sum := "3b1e4d0dc937df9d64d6fa6037283e809f5a1917216955493113285e3d9f7f5d", func := "headgate/headgatelaw35.FaultLowers", spec := "faultLowers", unfollowed := true, recurses := true, apart := false, narrowed := true }
def FaultLowersUptoSaid : Prop := faultLowersUptoRow.holds Try.pinned (OpenSpec.upto faultLowersSpec)

/-- 'headgatelaw35.FaultSteps', WHERE WHAT IT READS IS OF BULK AT MOST 1048576: true; the input reads as it did. -/
def faultStepsUptoRow : OpenClaim := { program := "ytigpacfcklcmpaa", sum := "3b1e4d0dc937df9d64d6fa6037283e809f5a1917216955493113285e3d9f7f5d", func := "headgate/headgatelaw35.FaultSteps", spec := "faultSteps", unfollowed := true, recurses := true, apart := false, narrowed := true }
def FaultStepsUptoSaid : Prop := faultStepsUptoRow.holds Try.pinned (OpenSpec.upto faultStepsSpec)

/-- 'headgatelaw35.FaultKnown', WHERE WHAT IT READS IS OF BULK AT MOST 1048576: true; the input reads as it did. -/
def faultKnownUptoRow : OpenClaim := { program := "ytigpacfcklcmpaa", sum := "3b1e4d0dc937df9d64d6fa6037283e809f5a1917216955493113285e3d9f7f5d", func := "headgate/headgatelaw35.FaultKnown", spec := "faultKnown", unfollowed := true, recurses := true, apart := false, narrowed := true }
def FaultKnownUptoSaid : Prop := faultKnownUptoRow.holds Try.pinned (OpenSpec.upto faultKnownSpec)

end Rows
end Go.Proofs.Ytigpacfcklcmpaa
