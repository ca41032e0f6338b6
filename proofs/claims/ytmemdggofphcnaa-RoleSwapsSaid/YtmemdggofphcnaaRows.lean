/-
  No cell of these rows narrows 'for every input' (looked for: loops, veiled, ifaces, maps, wideKeys, modest, calm, conditions, laid).
  DERIVED. THE GIVEN ROWS OF THIS SEAT. 9 by the template 'for every input the law returns true; each argument reads behind the call as it read before'; 0 by the template 'total and deterministic' (their statements: YtmemdggofphcnaaTotals.lean).
  GIVEN WITH THE SEED: the statements are not yours to turn. If you find one false, say at which input.
  Laid BY PROGRAM, IN A SANDBOX (cutbox-rows.mjs): the forced cells as the released guide's own fill.sh prints them over the translation 2b1f2df4d12e4143… (all of the seat's roots in one cut). By AI agents, Wed Nov 11 2026. No macro, syntax, notation, axiom, sorry.
-/
import Derived.Test.YtmemdggofphcnaaChecked
import GoSem.Claim
import GoSem.ClaimJoined
import GoSem.ClaimMapViews
import Derived.JoinedTies
import Derived.KernelRfl
namespace Go.Proofs.Ytmemdggofphcnaa
/- THE CELL 'sum', in the pinned program and in every row, IS THE sha256 OF THE DUMP (.gsa) THAT YtmemdggofphcnaaProg.lean LOADS. Nothing in Lean hashes anything: it is a label: what it is worth is what the hold of that sum in a sandbox is worth. -/
noncomputable def Try.pinned : Pinned := { name := "ytmemdggofphcnaa", sum := "2b1f2df4d12e4143686c4e12dd7b66fbe403076d303a622c6f0b58b31ffb7e68", checked := Try.checked }
namespace Rows
def none {H : Type} : Left H := { results := [], args := [] }

/-- 'headgatelaw16.RoleMays': WHATEVER THE INPUT: true; the input reads as it did. -/
def roleMaysSpec : ChangeSpec := { name := "roleMays", fn := fun _ => fun
  | [d1, d2] => { results := [.lit (.bool true)], args := [d1, d2] }
  | _ => none }
def roleMaysRow : OpenClaim := { program := "ytmemdggofphcnaa", sum := "2b1f2df4d12e4143686c4e12dd7b66fbe403076d303a622c6f0b58b31ffb7e68", func := "headgate/headgatelaw16.RoleMays", spec := "roleMays", inPlace := ["internal/bytealg.IndexByteString"], apart := false }
def RoleMaysSaid : Prop := roleMaysRow.holds Try.pinned (OpenSpec.ofChange roleMaysSpec)

/-- ITS FALSE NEIGHBOUR: 'it returns false'. Refute it at one input. -/
def roleMaysWrong : ChangeSpec := { name := "roleMays", fn := fun _ => fun
  | [d1, d2] => { results := [.lit (.bool false)], args := [d1, d2] }
  | _ => none }
def RoleMaysWrongFalsely : Prop := roleMaysRow.holds Try.pinned (OpenSpec.ofChange roleMaysWrong)

/-- 'headgatelaw16.RoleParses': WHATEVER THE INPUT: true; the input reads as it did. -/
def roleParsesSpec : ChangeSpec := { name := "roleParses", fn := fun _ => fun
  | [d] => { results := [.lit (.bool true)], args := [d] }
  | _ => none }
def roleParsesRow : OpenClaim := { program := "ytmemdggofphcnaa", sum := "2b1f2df4d12e4143686c4e12dd7b66fbe403076d303a622c6f0b58b31ffb7e68", func := "headgate/headgatelaw16.RoleParses", spec := "roleParses", inPlace := ["internal/bytealg.IndexByteString"], apart := false }
def RoleParsesSaid : Prop := roleParsesRow.holds Try.pinned (OpenSpec.ofChange roleParsesSpec)

/-- ITS FALSE NEIGHBOUR: 'it returns false'. Refute it at one input. -/
def roleParsesWrong : ChangeSpec := { name := "roleParses", fn := fun _ => fun
  | [d] => { results := [.lit (.bool false)], args := [d] }
  | _ => none }
def RoleParsesWrongFalsely : Prop := roleParsesRow.holds Try.pinned (OpenSpec.ofChange roleParsesWrong)

/-- 'headgatelaw16.RoleBack': WHATEVER THE INPUT: true; the input reads as it did. -/
def roleBackSpec : ChangeSpec := { name := "roleBack", fn := fun _ => fun
  | [d] => { results := [.lit (.bool true)], args := [d] }
  | _ => none }
def roleBackRow : OpenClaim := { program := "ytmemdggofphcnaa", sum := "2b1f2df4d12e4143686c4e12dd7b66fbe403076d303a622c6f0b58b31ffb7e68", func := "headgate/headgatelaw16.RoleBack", spec := "roleBack", inPlace := ["internal/abi.NoEscape", "internal/bytealg.IndexByteString"], unfollowed := true, recurses := true, apart := false }
def RoleBackSaid : Prop := roleBackRow.holds Try.pinned (OpenSpec.ofChange roleBackSpec)

/-- ITS FALSE NEIGHBOUR: 'it returns false'. Refute it at one input. -/
def roleBackWrong : ChangeSpec := { name := "roleBack", fn := fun _ => fun
  | [d] => { results := [.lit (.bool false)], args := [d] }
  | _ => none }
def RoleBackWrongFalsely : Prop := roleBackRow.holds Try.pinned (OpenSpec.ofChange roleBackWrong)

/-- 'headgatelaw16.RoleSwaps': WHATEVER THE INPUT: true; the input reads as it did. -/
def roleSwapsSpec : ChangeSpec := { name := "roleSwaps", fn := fun _ => fun
  | [d1, d2, d3] => { results := [.lit (.bool true)], args := [d1, d2, d3] }
  | _ => none }
def roleSwapsRow : OpenClaim := { program := "ytmemdggofphcnaa", sum := "2b1f2df4d12e4143686c4e12dd7b66fbe403076d303a622c6f0b58b31ffb7e68", func := "headgate/headgatelaw16.RoleSwaps", spec := "roleSwaps", inPlace := ["internal/bytealg.IndexByteString"], unfollowed := true, recurses := true, apart := false }
def RoleSwapsSaid : Prop := roleSwapsRow.holds Try.pinned (OpenSpec.ofChange roleSwapsSpec)

/-- ITS FALSE NEIGHBOUR: 'it returns false'. Refute it at one input. -/
def roleSwapsWrong : ChangeSpec := { name := "roleSwaps", fn := fun _ => fun
  | [d1, d2, d3] => { results := [.lit (.bool false)], args := [d1, d2, d3] }
  | _ => none }
def RoleSwapsWrongFalsely : Prop := roleSwapsRow.holds Try.pinned (OpenSpec.ofChange roleSwapsWrong)

/-- 'headgatelaw16.RoleChanges': WHATEVER THE INPUT: true; the input reads as it did. -/
def roleChangesSpec : ChangeSpec := { name := "roleChanges", fn := fun _ => fun
  | [d1, d2] => { results := [.lit (.bool true)], args := [d1, d2] }
  | _ => none }
def roleChangesRow : OpenClaim := { program := "ytmemdggofphcnaa", sum := "2b1f2df4d12e4143686c4e12dd7b66fbe403076d303a622c6f0b58b31ffb7e68", func := "headgate/headgatelaw16.RoleChanges", spec := "roleChanges", inPlace := ["internal/bytealg.IndexByteString"], unfollowed := true, recurses := true, apart := false }
def RoleChangesSaid : Prop := roleChangesRow.holds Try.pinned (OpenSpec.ofChange roleChangesSpec)

/-- ITS FALSE NEIGHBOUR: 'it returns false'. Refute it at one input. -/
def roleChangesWrong : ChangeSpec := { name := "roleChanges", fn := fun _ => fun
  | [d1, d2] => { results := [.lit (.bool false)], args := [d1, d2] }
  | _ => none }
def RoleChangesWrongFalsely : Prop := roleChangesRow.holds Try.pinned (OpenSpec.ofChange roleChangesWrong)

/-- 'headgatelaw16.RoleWays': WHATEVER THE INPUT: true; the input reads as it did. -/
def roleWaysSpec : ChangeSpec := { name := "roleWays", fn := fun _ => fun
  | [d1, d2] => { results := [.lit (.bool true)], args := [d1, d2] }
  | _ => none }
def roleWaysRow : OpenClaim := { program := "ytmemdggofphcnaa", sum := "2b1f2df4d12e4143686c4e12dd7b66fbe403076d303a622c6f0b58b31ffb7e68", func := "headgate/headgatelaw16.RoleWays", spec := "roleWays", inPlace := ["internal/bytealg.IndexByteString"], unfollowed := true, recurses := true, apart := false }
def RoleWaysSaid : Prop := roleWaysRow.holds Try.pinned (OpenSpec.ofChange roleWaysSpec)

/-- ITS FALSE NEIGHBOUR: 'it returns false'. Refute it at one input. -/
def roleWaysWrong : ChangeSpec := { name := "roleWays", fn := fun _ => fun
  | [d1, d2] => { results := [.lit (.bool false)], args := [d1, d2] }
  | _ => none }
def RoleWaysWrongFalsely : Prop := roleWaysRow.holds Try.pinned (OpenSpec.ofChange roleWaysWrong)

/-- 'headgatelaw16.RoleLooks': WHATEVER THE INPUT: true; the input reads as it did. -/
def roleLooksSpec : ChangeSpec := { name := "roleLooks", fn := fun _ => fun
  | [d1, d2] => { results := [.lit (.bool true)], args := [d1, d2] }
  | _ => none }
def roleLooksRow : OpenClaim := { program := "ytmemdggofphcnaa", sum := "2b1f2df4d12e4143686c4e12dd7b66fbe403076d303a622c6f0b58b31ffb7e68", func := "headgate/headgatelaw16.RoleLooks", spec := "roleLooks", inPlace := ["internal/bytealg.IndexByteString", "internal/abi.NoEscape"], unfollowed := true, recurses := true, apart := false }
def RoleLooksSaid : Prop := roleLooksRow.holds Try.pinned (OpenSpec.ofChange roleLooksSpec)

/-- ITS FALSE NEIGHBOUR: 'it returns false'. Refute it at one input. -/
def roleLooksWrong : ChangeSpec := { name := "roleLooks", fn := fun _ => fun
  | [d1, d2] => { results := [.lit (.bool false)], args := [d1, d2] }
  | _ => none }
def RoleLooksWrongFalsely : Prop := roleLooksRow.holds Try.pinned (OpenSpec.ofChange roleLooksWrong)

/-- 'headgatelaw16.RoleKnown': WHATEVER THE INPUT: true; the input reads as it did. -/
def roleKnownSpec : ChangeSpec := { name := "roleKnown", fn := fun _ => fun
  | [] => { results := [.lit (.bool true)], args := [] }
  | _ => none }
def roleKnownRow : OpenClaim := { program := "ytmemdggofphcnaa", sum := "2b1f2df4d12e4143686c4e12dd7b66fbe403076d303a622c6f0b58b31ffb7e68", func := "headgate/headgatelaw16.RoleKnown", spec := "roleKnown", inPlace := ["internal/bytealg.IndexByteString"], unfollowed := true, recurses := true, apart := false }
def RoleKnownSaid : Prop := roleKnownRow.holds Try.pinned (OpenSpec.ofChange roleKnownSpec)

/-- ITS FALSE NEIGHBOUR: 'it returns false'. Refute it at one input. -/
def roleKnownWrong : ChangeSpec := { name := "roleKnown", fn := fun _ => fun
  | [] => { results := [.lit (.bool false)], args := [] }
  | _ => none }
def RoleKnownWrongFalsely : Prop := roleKnownRow.holds Try.pinned (OpenSpec.ofChange roleKnownWrong)

/-- 'headgatelaw16.RoleCounts': WHATEVER THE INPUT: true; the input reads as it did. -/
def roleCountsSpec : ChangeSpec := { name := "roleCounts", fn := fun _ => fun
  | [d1, d2, d3] => { results := [.lit (.bool true)], args := [d1, d2, d3] }
  | _ => none }
def roleCountsRow : OpenClaim := { program := "ytmemdggofphcnaa", sum := "2b1f2df4d12e4143686c4e12dd7b66fbe403076d303a622c6f0b58b31ffb7e68", func := "headgate/headgatelaw16.RoleCounts", spec := "roleCounts", inPlace := ["internal/bytealg.IndexByteString"], unfollowed := true, recurses := true, apart := false }
def RoleCountsSaid : Prop := roleCountsRow.holds Try.pinned (OpenSpec.ofChange roleCountsSpec)

/-- ITS FALSE NEIGHBOUR: 'it returns false'. Refute it at one input. -/
def roleCountsWrong : ChangeSpec := { name := "roleCounts", fn := fun _ => fun
  | [d1, d2, d3] => { results := [.lit (.bool false)], args := [d1, d2, d3] }
  | _ => none }
def RoleCountsWrongFalsely : Prop := roleCountsRow.holds Try.pinned (OpenSpec.ofChange roleCountsWrong)

/- THE SECOND FORM. 'bulk': how many values and letters a reading holds, each counted each time it is reached (what is shared counts as often as it is met; a slice's spare places count too). A statement '..UptoSaid' is the law's where the arguments, and the package variables that the reading takes, are together of bulk at most 1048576: NARROWER than '..Said'. Prove '..Said' where nothing that the law and all that it calls make is longer than what came in: it says more and counts as full. Else prove '..UptoSaid'. A law counts once. -/
mutual
def uptoBulk {H : Type} : DataW H → Nat
  | .lit (.string bytes) => bytes.length + 1
  | .lit _ => 1
  | .nil => 1
  | .ptr d => uptoBulk d + 1
  | .slice elems spare => uptoBulkAll elems + uptoBulkAll spare + 1
  | .agg parts => uptoBulkAll parts + 1
  | .iface _ d => uptoBulk d + 1
  | .map entries => uptoBulkEntries entries + 1
  | .held _ => 1
def uptoBulkAll {H : Type} : List (DataW H) → Nat
  | [] => 0
  | d :: r => uptoBulk d + uptoBulkAll r
def uptoBulkEntries {H : Type} : List (Lit × DataW H) → Nat
  | [] => 0
  | x :: r => uptoBulkEntry x + uptoBulkEntries r
def uptoBulkEntry {H : Type} : Lit × DataW H → Nat
  | (.string bytes, d) => bytes.length + uptoBulk d + 1
  | (_, d) => uptoBulk d + 1
 end
def uptoSmall : (H : Type) → List (DataW H) → Bool := fun _ ds => decide (uptoBulkAll ds ≤ 1048576)
def OpenSpec.upto (s : _root_.Go.ChangeSpec) : _root_.Go.OpenSpec := { _root_.Go.OpenSpec.ofChange s with cond := some uptoSmall }

/-- 'headgatelaw16.RoleMays', WHERE WHAT IT READS IS OF BULK AT MOST 1048576: true; the input reads as it did. -/
def roleMaysUptoRow : OpenClaim := { program := "ytmemdggofphcnaa", sum := "2b1f2df4d12e4143686c4e12dd7b66fbe403076d303a622c6f0b58b31ffb7e68", func := "headgate/headgatelaw16.RoleMays", spec := "roleMays", inPlace := ["internal/bytealg.IndexByteString"], apart := false, narrowed := true }
def RoleMaysUptoSaid : Prop := roleMaysUptoRow.holds Try.pinned (OpenSpec.upto roleMaysSpec)

/-- 'headgatelaw16.RoleParses', WHERE WHAT IT READS IS OF BULK AT MOST 1048576: true; the input reads as it did. -/
def roleParsesUptoRow : OpenClaim := { program := "ytmemdggofphcnaa", sum := "2b1f2df4d12e4143686c4e12dd7b66fbe403076d303a622c6f0b58b31ffb7e68", func := "headgate/headgatelaw16.RoleParses", spec := "roleParses", inPlace := ["internal/bytealg.IndexByteString"], apart := false, narrowed := true }
def RoleParsesUptoSaid : Prop := roleParsesUptoRow.holds Try.pinned (OpenSpec.upto roleParsesSpec)

/-- 'headgatelaw16.RoleBack', WHERE WHAT IT READS IS OF BULK AT MOST 1048576: true; the input reads as it did. -/
def roleBackUptoRow : OpenClaim := { program := "ytmemdggofphcnaa", sum := "2b1f2df4d12e4143686c4e12dd7b66fbe403076d303a622c6f0b58b31ffb7e68", func := "headgate/headgatelaw16.RoleBack", spec := "roleBack", inPlace := ["internal/abi.NoEscape", "internal/bytealg.IndexByteString"], unfollowed := true, recurses := true, apart := false, narrowed := true }
def RoleBackUptoSaid : Prop := roleBackUptoRow.holds Try.pinned (OpenSpec.upto roleBackSpec)

/-- 'headgatelaw16.RoleSwaps', WHERE WHAT IT READS IS OF BULK AT MOST 1048576: true; the input reads as it did. -/
def roleSwapsUptoRow : OpenClaim := { program := "ytmemdggofphcnaa", sum := "2b1f2df4d12e4143686c4e12dd7b66fbe403076d303a622c6f0b58b31ffb7e68", func := "headgate/headgatelaw16.RoleSwaps", spec := "roleSwaps", inPlace := ["internal/bytealg.IndexByteString"], unfollowed := true, recurses := true, apart := false, narrowed := true }
def RoleSwapsUptoSaid : Prop := roleSwapsUptoRow.holds Try.pinned (OpenSpec.upto roleSwapsSpec)

/-- 'headgatelaw16.RoleChanges', WHERE WHAT IT READS IS OF BULK AT MOST 1048576: true; the input reads as it did. -/
def roleChangesUptoRow : OpenClaim := { program := "ytmemdggofphcnaa", sum := "2b1f2df4d12e4143686c4e12dd7b66fbe403076d303a622c6f0b58b31ffb7e68", func := "headgate/headgatelaw16.RoleChanges", spec := "roleChanges", inPlace := ["internal/bytealg.IndexByteString"], unfollowed := true, recurses := true, apart := false, narrowed := true }
def RoleChangesUptoSaid : Prop := roleChangesUptoRow.holds Try.pinned (OpenSpec.upto roleChangesSpec)

/-- 'headgatelaw16.RoleWays', WHERE WHAT IT READS IS OF BULK AT MOST 1048576: true; the input reads as it did. -/
def roleWaysUptoRow : OpenClaim := { program := "ytmemdggofphcnaa", sum := "2b1f2df4d12e4143686c4e12dd7b66fbe403076d303a622c6f0b58b31ffb7e68", func := "headgate/headgatelaw16.RoleWays", spec := "roleWays", inPlace := ["internal/bytealg.IndexByteString"], unfollowed := true, recurses := true, apart := false, narrowed := true }
def RoleWaysUptoSaid : Prop := roleWaysUptoRow.holds Try.pinned (OpenSpec.upto roleWaysSpec)

/-- 'headgatelaw16.RoleLooks', WHERE WHAT IT READS IS OF BULK AT MOST 1048576: true; the input reads as it did. -/
def roleLooksUptoRow : OpenClaim := { program := "ytmemdggofphcnaa", sum := "2b1f2df4d12e4143686c4e12dd7b66fbe403076d303a622c6f0b58b31ffb7e68", func := "headgate/headgatelaw16.RoleLooks", spec := "roleLooks", inPlace := ["internal/bytealg.IndexByteString", "internal/abi.NoEscape"], unfollowed := true, recurses := true, apart := false, narrowed := true }
def RoleLooksUptoSaid : Prop := roleLooksUptoRow.holds Try.pinned (OpenSpec.upto roleLooksSpec)

/-- 'headgatelaw16.RoleKnown', WHERE WHAT IT READS IS OF BULK AT MOST 1048576: true; the input reads as it did. -/
def roleKnownUptoRow : OpenClaim := { program := "ytmemdggofphcnaa", sum := "2b1f2df4d12e4143686c4e12dd7b66fbe403076d303a622c6f0b58b31ffb7e68", func := "headgate/headgatelaw16.RoleKnown", spec := "roleKnown", inPlace := ["internal/bytealg.IndexByteString"], unfollowed := true, recurses := true, apart := false, narrowed := true }
def RoleKnownUptoSaid : Prop := roleKnownUptoRow.holds Try.pinned (OpenSpec.upto roleKnownSpec)

/-- 'headgatelaw16.RoleCounts', WHERE WHAT IT READS IS OF BULK AT MOST 1048576: true; the input reads as it did. -/
def roleCountsUptoRow : OpenClaim := { program := "ytmemdggofphcnaa", sum := "2b1f2df4d12e4143686c4e12dd7b66fbe403076d303a622c6f0b58b31ffb7e68", func := "headgate/headgatelaw16.RoleCounts", spec := "roleCounts", inPlace := ["internal/bytealg.IndexByteString"], unfollowed := true, recurses := true, apart := false, narrowed := true }
def RoleCountsUptoSaid : Prop := roleCountsUptoRow.holds Try.pinned (OpenSpec.upto roleCountsSpec)

end Rows
end Go.Proofs.Ytmemdggofphcnaa
