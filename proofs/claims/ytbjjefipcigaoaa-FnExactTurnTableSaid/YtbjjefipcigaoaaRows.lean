/-
  No cell of these rows narrows 'for every input' (looked for: loops, veiled, ifaces, maps, wideKeys, modest, calm, conditions, laid).
  DERIVED. THE GIVEN ROWS OF THIS SEAT. 5 by the template 'for every input the law returns true; each argument reads behind the call as it read before'; 0 by the template 'total and deterministic' (their statements: YtbjjefipcigaoaaTotals.lean).
  GIVEN WITH THE SEED: the statements are not yours to turn. If you find one false, say at which input.
  Laid BY PROGRAM, IN A SANDBOX (cutbox-rows.mjs): the forced cells as the released guide's own fill.sh prints them over the translation 0247d63ad330810d… (all of the seat's roots in one cut). By AI agents, Wed Nov 11 2026. No macro, syntax, notation, axiom, sorry.
-/
import Derived.Test.YtbjjefipcigaoaaChecked
import GoSem.Claim
import GoSem.ClaimJoined
import GoSem.ClaimMapViews
import Derived.JoinedTies
import Derived.KernelRfl
namespace Go.Proofs.Ytbjjefipcigaoaa
/- THE CELL 'sum', in the pinned program and in every row, IS THE sha256 OF THE DUMP (.gsa) THAT YtbjjefipcigaoaaProg.lean LOADS. Nothing in Lean hashes anything: it is a label: what it is worth is what the hold of that sum in a sandbox is worth. -/
noncomputable def Try.pinned : Pinned := { name := "ytbjjefipcigaoaa", sum := "0247d63ad330810d0eca8caf0f67b3b14cc792723b6fc4cb1c4d61e652989187", checked := Try.checked }
namespace Rows
def none {H : Type} : Left H := { results := [], args := [] }

/-- 'laws.FnExactAreIsomorphic': WHATEVER THE INPUT: true; the input reads as it did. -/
def fnExactAreIsomorphicSpec : ChangeSpec := { name := "fnExactAreIsomorphic", fn := fun _ => fun
  | [d1, d2] => { results := [.lit (.bool true)], args := [d1, d2] }
  | _ => none }
def fnExactAreIsomorphicRow : OpenClaim := { program := "ytbjjefipcigaoaa", sum := "0247d63ad330810d0eca8caf0f67b3b14cc792723b6fc4cb1c4d61e652989187", func := "loop.example/g01298/laws.FnExactAreIsomorphic", spec := "fnExactAreIsomorphic", unfollowed := true, recurses := true, apart := false }
def FnExactAreIsomorphicSaid : Prop := fnExactAreIsomorphicRow.holds Try.pinned (OpenSpec.ofChange fnExactAreIsomorphicSpec)

/-- ITS FALSE NEIGHBOUR: 'it returns false'. Refute it at one input. -/
def fnExactAreIsomorphicWrong : ChangeSpec := { name := "fnExactAreIsomorphic", fn := fun _ => fun
  | [d1, d2] => { results := [.lit (.bool false)], args := [d1, d2] }
  | _ => none }
def FnExactAreIsomorphicWrongFalsely : Prop := fnExactAreIsomorphicRow.holds Try.pinned (OpenSpec.ofChange fnExactAreIsomorphicWrong)

/-- 'laws.FnExactFindIsomorphism': WHATEVER THE INPUT: true; the input reads as it did. -/
def fnExactFindIsomorphismSpec : ChangeSpec := { name := "fnExactFindIsomorphism", fn := fun _ => fun
  | [d1, d2] => { results := [.lit (.bool true)], args := [d1, d2] }
  | _ => none }
def fnExactFindIsomorphismRow : OpenClaim := { program := "ytbjjefipcigaoaa", sum := "0247d63ad330810d0eca8caf0f67b3b14cc792723b6fc4cb1c4d61e652989187", func := "loop.example/g01298/laws.FnExactFindIsomorphism", spec := "fnExactFindIsomorphism", unfollowed := true, recurses := true, apart := false }
def FnExactFindIsomorphismSaid : Prop := fnExactFindIsomorphismRow.holds Try.pinned (OpenSpec.ofChange fnExactFindIsomorphismSpec)

/-- ITS FALSE NEIGHBOUR: 'it returns false'. Refute it at one input. -/
def fnExactFindIsomorphismWrong : ChangeSpec := { name := "fnExactFindIsomorphism", fn := fun _ => fun
  | [d1, d2] => { results := [.lit (.bool false)], args := [d1, d2] }
  | _ => none }
def FnExactFindIsomorphismWrongFalsely : Prop := fnExactFindIsomorphismRow.holds Try.pinned (OpenSpec.ofChange fnExactFindIsomorphismWrong)

/-- 'laws.FnExactLeastCode': WHATEVER THE INPUT: true; the input reads as it did. -/
def fnExactLeastCodeSpec : ChangeSpec := { name := "fnExactLeastCode", fn := fun _ => fun
  | [d] => { results := [.lit (.bool true)], args := [d] }
  | _ => none }
def fnExactLeastCodeRow : OpenClaim := { program := "ytbjjefipcigaoaa", sum := "0247d63ad330810d0eca8caf0f67b3b14cc792723b6fc4cb1c4d61e652989187", func := "loop.example/g01298/laws.FnExactLeastCode", spec := "fnExactLeastCode", unfollowed := true, recurses := true, apart := false }
def FnExactLeastCodeSaid : Prop := fnExactLeastCodeRow.holds Try.pinned (OpenSpec.ofChange fnExactLeastCodeSpec)

/-- ITS FALSE NEIGHBOUR: 'it returns false'. Refute it at one input. -/
def fnExactLeastCodeWrong : ChangeSpec := { name := "fnExactLeastCode", fn := fun _ => fun
  | [d] => { results := [.lit (.bool false)], args := [d] }
  | _ => none }
def FnExactLeastCodeWrongFalsely : Prop := fnExactLeastCodeRow.holds Try.pinned (OpenSpec.ofChange fnExactLeastCodeWrong)

/-- 'laws.FnExactSwitchGraph': WHATEVER THE INPUT: true; the input reads as it did. -/
def fnExactSwitchGraphSpec : ChangeSpec := { name := "fnExactSwitchGraph", fn := fun _ => fun
  | [d1, d2] => { results := [.lit (.bool true)], args := [d1, d2] }
  | _ => none }
def fnExactSwitchGraphRow : OpenClaim := { program := "ytbjjefipcigaoaa", sum := "0247d63ad330810d0eca8caf0f67b3b14cc792723b6fc4cb1c4d61e652989187", func := "loop.example/g01298/laws.FnExactSwitchGraph", spec := "fnExactSwitchGraph", unfollowed := true, recurses := true, apart := false }
def FnExactSwitchGraphSaid : Prop := fnExactSwitchGraphRow.holds Try.pinned (OpenSpec.ofChange fnExactSwitchGraphSpec)

/-- ITS FALSE NEIGHBOUR: 'it returns false'. Refute it at one input. -/
def fnExactSwitchGraphWrong : ChangeSpec := { name := "fnExactSwitchGraph", fn := fun _ => fun
  | [d1, d2] => { results := [.lit (.bool false)], args := [d1, d2] }
  | _ => none }
def FnExactSwitchGraphWrongFalsely : Prop := fnExactSwitchGraphRow.holds Try.pinned (OpenSpec.ofChange fnExactSwitchGraphWrong)

/-- 'laws.FnExactTurnTable': WHATEVER THE INPUT: true; the input reads as it did. -/
def fnExactTurnTableSpec : ChangeSpec := { name := "fnExactTurnTable", fn := fun _ => fun
  | [d1, d2] => { results := [.lit (.bool true)], args := [d1, d2] }
  | _ => none }
def fnExactTurnTableRow : OpenClaim := { program := "ytbjjefipcigaoaa", sum := "0247d63ad330810d0eca8caf0f67b3b14cc792723b6fc4cb1c4d61e652989187", func := "loop.example/g01298/laws.FnExactTurnTable", spec := "fnExactTurnTable", unfollowed := true, recurses := true, apart := false }
def FnExactTurnTableSaid : Prop := fnExactTurnTableRow.holds Try.pinned (OpenSpec.ofChange fnExactTurnTableSpec)

/-- ITS FALSE NEIGHBOUR: 'it returns false'. Refute it at one input. -/
def fnExactTurnTableWrong : ChangeSpec := { name := "fnExactTurnTable", fn := fun _ => fun
  | [d1, d2] => { results := [.lit (.bool false)], args := [d1, d2] }
  | _ => none }
def FnExactTurnTableWrongFalsely : Prop := fnExactTurnTableRow.holds Try.pinned (OpenSpec.ofChange fnExactTurnTableWrong)

/- THE SECOND FORM. 'bulk': how many values and letters a reading holds, each counted each time it is reached (what is shared counts as often as it is met; a slice's spare places count too). A statement '..UptoSaid' is the law's where the arguments, and the package variables that the reading takes, are together of bulk at most 1048576: NARROWER than '..Said'. Prove '..Said' where nothing that the law and all that it calls make is longer than what came in: it says more and counts as full. Else prove '..UptoSaid'. A law counts once. -/
mutual
def uptoBulk {H : Type} : DataW H → Nat
  | .lit (.string bytes) => bytes.length + 1
  | .lit _ => 1
  | .nil => 1
  | .ptr d => uptoBulk d + 1
  | .slice elems spare => uptoBulkAll elems + uptoBulkAll spare + 1
  | .agg parts => uptoBulkAll parts + 1
  | .iface _ d => uptoBulk d + 1
  | .map entries => uptoBulkEntries entries + 1
  | .held _ => 1
def uptoBulkAll {H : Type} : List (DataW H) → Nat
  | [] => 0
  | d :: r => uptoBulk d + uptoBulkAll r
def uptoBulkEntries {H : Type} : List (Lit × DataW H) → Nat
  | [] => 0
  | x :: r => uptoBulkEntry x + uptoBulkEntries r
def uptoBulkEntry {H : Type} : Lit × DataW H → Nat
  | (.string bytes, d) => bytes.length + uptoBulk d + 1
  | (_, d) => uptoBulk d + 1
 end
def uptoSmall : (H : Type) → List (DataW H) → Bool := fun _ ds => decide (uptoBulkAll ds ≤ 1048576)
def OpenSpec.upto (s : _root_.Go.ChangeSpec) : _root_.Go.OpenSpec := { _root_.Go.OpenSpec.ofChange s with cond := some uptoSmall }

/-- 'laws.FnExactAreIsomorphic', WHERE WHAT IT READS IS OF BULK AT MOST 1048576: true; the input reads as it did. -/
def fnExactAreIsomorphicUptoRow : OpenClaim := { program := "ytbjjefipcigaoaa", sum := "0247d63ad330810d0eca8caf0f67b3b14cc792723b6fc4cb1c4d61e652989187", func := "loop.example/g01298/laws.FnExactAreIsomorphic", spec := "fnExactAreIsomorphic", unfollowed := true, recurses := true, apart := false, narrowed := true }
def FnExactAreIsomorphicUptoSaid : Prop := fnExactAreIsomorphicUptoRow.holds Try.pinned (OpenSpec.upto fnExactAreIsomorphicSpec)

/-- 'laws.FnExactFindIsomorphism', WHERE WHAT IT READS IS OF BULK AT MOST 1048576: true; the input reads as it did. -/
def fnExactFindIsomorphismUptoRow : OpenClaim := { program := "ytbjjefipcigaoaa", sum := "0247d63ad330810d0eca8caf0f67b3b14cc792723b6fc4cb1c4d61e652989187", func := "loop.example/g01298/laws.FnExactFindIsomorphism", spec := "fnExactFindIsomorphism", unfollowed := true, recurses := true, apart := false, narrowed := true }
def FnExactFindIsomorphismUptoSaid : Prop := fnExactFindIsomorphismUptoRow.holds Try.pinned (OpenSpec.upto fnExactFindIsomorphismSpec)

/-- 'laws.FnExactLeastCode', WHERE WHAT IT READS IS OF BULK AT MOST 1048576: true; the input reads as it did. -/
def fnExactLeastCodeUptoRow : OpenClaim := { program := "ytbjjefipcigaoaa", sum := "0247d63ad330810d0eca8caf0f67b3b14cc792723b6fc4cb1c4d61e652989187", func := "loop.example/g01298/laws.FnExactLeastCode", spec := "fnExactLeastCode", unfollowed := true, recurses := true, apart := false, narrowed := true }
def FnExactLeastCodeUptoSaid : Prop := fnExactLeastCodeUptoRow.holds Try.pinned (OpenSpec.upto fnExactLeastCodeSpec)

/-- 'laws.FnExactSwitchGraph', WHERE WHAT IT READS IS OF BULK AT MOST 1048576: true; the input reads as it did. -/
def fnExactSwitchGraphUptoRow : OpenClaim := { program := "ytbjjefipcigaoaa", sum := "0247d63ad330810d0eca8caf0f67b3b14cc792723b6fc4cb1c4d61e652989187", func := "loop.example/g01298/laws.FnExactSwitchGraph", spec := "fnExactSwitchGraph", unfollowed := true, recurses := true, apart := false, narrowed := true }
def FnExactSwitchGraphUptoSaid : Prop := fnExactSwitchGraphUptoRow.holds Try.pinned (OpenSpec.upto fnExactSwitchGraphSpec)

/-- 'laws.FnExactTurnTable', WHERE WHAT IT READS IS OF BULK AT MOST 1048576: true; the input reads as it did. -/
def fnExactTurnTableUptoRow : OpenClaim := { program := "ytbjjefipcigaoaa", sum := "0247d63ad330810d0eca8caf0f67b3b14cc792723b6fc4cb1c4d61e652989187", func := "loop.example/g01298/laws.FnExactTurnTable", spec := "fnExactTurnTable", unfollowed := true, recurses := true, apart := false, narrowed := true }
def FnExactTurnTableUptoSaid : Prop := fnExactTurnTableUptoRow.holds Try.pinned (OpenSpec.upto fnExactTurnTableSpec)

end Rows
end Go.Proofs.Ytbjjefipcigaoaa
