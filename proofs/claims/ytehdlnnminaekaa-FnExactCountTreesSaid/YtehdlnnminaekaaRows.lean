/-
  No cell of these rows narrows 'for every input' (looked for: loops, veiled, ifaces, maps, wideKeys, modest, calm, conditions, laid).
  DERIVED. THE GIVEN ROWS OF THIS SEAT. 9 by the template 'for every input the law returns true; each argument reads behind the call as it read before'; 0 by the template 'total and deterministic' (their statements: YtehdlnnminaekaaTotals.lean).
  GIVEN WITH THE SEED: the statements are not yours to turn. If you find one false, say at which input.
  Laid BY PROGRAM, IN A SANDBOX (cutbox-rows.mjs): the forced cells as the released guide's own fill.sh prints them over the translation 315c1805b0551996… (all of the seat's roots in one cut). By AI agents, Wed Nov 11 2026. No macro, syntax, notation, axiom, sorry.
-/
import Derived.Test.YtehdlnnminaekaaChecked
import GoSem.Claim
import GoSem.ClaimJoined
import GoSem.ClaimMapViews
import Derived.JoinedTies
import Derived.KernelRfl
namespace Go.Proofs.Ytehdlnnminaekaa
/- THE CELL 'sum', in the pinned program and in every row, IS THE sha256 OF THE DUMP (.gsa) THAT YtehdlnnminaekaaProg.lean LOADS. Nothing in Lean hashes anything: it is a label: what it is worth is what the hold of that sum in a sandbox is worth. -/
noncomputable def Try.pinned : Pinned := { name := "ytehdlnnminaekaa", sum := "315c1805b0551996b27e56596a8db7e098498ad9752d3e964c5660e72ded6230", checked := Try.checked }
namespace Rows
def none {H : Type} : Left H := { results := [], args := [] }

/-- 'laws.FnExactIsRamanujan': WHATEVER THE INPUT: true; the input reads as it did. -/
def fnExactIsRamanujanSpec : ChangeSpec := { name := "fnExactIsRamanujan", fn := fun _ => fun
  | [d] => { results := [.lit (.bool true)], args := [d] }
  | _ => none }
def fnExactIsRamanujanRow : OpenClaim := { program := "ytehdlnnminaekaa", sum := "315c1805b0551996b27e56596a8db7e098498ad9752d3e964c5660e72ded6230", func := "loop.example/g01298/laws.FnExactIsRamanujan", spec := "fnExactIsRamanujan", unfollowed := true, recurses := true, apart := false }
def FnExactIsRamanujanSaid : Prop := fnExactIsRamanujanRow.holds Try.pinned (OpenSpec.ofChange fnExactIsRamanujanSpec)

/-- ITS FALSE NEIGHBOUR: 'it returns false'. Refute it at one input. -/
def fnExactIsRamanujanWrong : ChangeSpec := { name := "fnExactIsRamanujan", fn := fun _ => fun
  | [d] => { results := [.lit (.bool false)], args := [d] }
  | _ => none }
def FnExactIsRamanujanWrongFalsely : Prop := fnExactIsRamanujanRow.holds Try.pinned (OpenSpec.ofChange fnExactIsRamanujanWrong)

/-- 'laws.FnExactDoLookAlike': WHATEVER THE INPUT: true; the input reads as it did. -/
def fnExactDoLookAlikeSpec : ChangeSpec := { name := "fnExactDoLookAlike", fn := fun _ => fun
  | [d1, d2] => { results := [.lit (.bool true)], args := [d1, d2] }
  | _ => none }
def fnExactDoLookAlikeRow : OpenClaim := { program := "ytehdlnnminaekaa", sum := "315c1805b0551996b27e56596a8db7e098498ad9752d3e964c5660e72ded6230", func := "loop.example/g01298/laws.FnExactDoLookAlike", spec := "fnExactDoLookAlike", apart := false }
def FnExactDoLookAlikeSaid : Prop := fnExactDoLookAlikeRow.holds Try.pinned (OpenSpec.ofChange fnExactDoLookAlikeSpec)

/-- ITS FALSE NEIGHBOUR: 'it returns false'. Refute it at one input. -/
def fnExactDoLookAlikeWrong : ChangeSpec := { name := "fnExactDoLookAlike", fn := fun _ => fun
  | [d1, d2] => { results := [.lit (.bool false)], args := [d1, d2] }
  | _ => none }
def FnExactDoLookAlikeWrongFalsely : Prop := fnExactDoLookAlikeRow.holds Try.pinned (OpenSpec.ofChange fnExactDoLookAlikeWrong)

/-- 'laws.FnExactGreatestBelow': WHATEVER THE INPUT: true; the input reads as it did. -/
def fnExactGreatestBelowSpec : ChangeSpec := { name := "fnExactGreatestBelow", fn := fun _ => fun
  | [d] => { results := [.lit (.bool true)], args := [d] }
  | _ => none }
def fnExactGreatestBelowRow : OpenClaim := { program := "ytehdlnnminaekaa", sum := "315c1805b0551996b27e56596a8db7e098498ad9752d3e964c5660e72ded6230", func := "loop.example/g01298/laws.FnExactGreatestBelow", spec := "fnExactGreatestBelow", apart := false }
def FnExactGreatestBelowSaid : Prop := fnExactGreatestBelowRow.holds Try.pinned (OpenSpec.ofChange fnExactGreatestBelowSpec)

/-- ITS FALSE NEIGHBOUR: 'it returns false'. Refute it at one input. -/
def fnExactGreatestBelowWrong : ChangeSpec := { name := "fnExactGreatestBelow", fn := fun _ => fun
  | [d] => { results := [.lit (.bool false)], args := [d] }
  | _ => none }
def FnExactGreatestBelowWrongFalsely : Prop := fnExactGreatestBelowRow.holds Try.pinned (OpenSpec.ofChange fnExactGreatestBelowWrong)

/-- 'laws.FnExactBartholdiFactor': WHATEVER THE INPUT: true; the input reads as it did. -/
def fnExactBartholdiFactorSpec : ChangeSpec := { name := "fnExactBartholdiFactor", fn := fun _ => fun
  | [d1, d2, d3] => { results := [.lit (.bool true)], args := [d1, d2, d3] }
  | _ => none }
def fnExactBartholdiFactorRow : OpenClaim := { program := "ytehdlnnminaekaa", sum := "315c1805b0551996b27e56596a8db7e098498ad9752d3e964c5660e72ded6230", func := "loop.example/g01298/laws.FnExactBartholdiFactor", spec := "fnExactBartholdiFactor", unfollowed := true, recurses := true, apart := false }
def FnExactBartholdiFactorSaid : Prop := fnExactBartholdiFactorRow.holds Try.pinned (OpenSpec.ofChange fnExactBartholdiFactorSpec)

/-- ITS FALSE NEIGHBOUR: 'it returns false'. Refute it at one input. -/
def fnExactBartholdiFactorWrong : ChangeSpec := { name := "fnExactBartholdiFactor", fn := fun _ => fun
  | [d1, d2, d3] => { results := [.lit (.bool false)], args := [d1, d2, d3] }
  | _ => none }
def FnExactBartholdiFactorWrongFalsely : Prop := fnExactBartholdiFactorRow.holds Try.pinned (OpenSpec.ofChange fnExactBartholdiFactorWrong)

/-- 'laws.FnExactCountTrees': WHATEVER THE INPUT: true; the input reads as it did. -/
def fnExactCountTreesSpec : ChangeSpec := { name := "fnExactCountTrees", fn := fun _ => fun
  | [d] => { results := [.lit (.bool true)], args := [d] }
  | _ => none }
def fnExactCountTreesRow : OpenClaim := { program := "ytehdlnnminaekaa", sum := "315c1805b0551996b27e56596a8db7e098498ad9752d3e964c5660e72ded6230", func := "loop.example/g01298/laws.FnExactCountTrees", spec := "fnExactCountTrees", unfollowed := true, recurses := true, apart := false }
def FnExactCountTreesSaid : Prop := fnExactCountTreesRow.holds Try.pinned (OpenSpec.ofChange fnExactCountTreesSpec)

/-- ITS FALSE NEIGHBOUR: 'it returns false'. Refute it at one input. -/
def fnExactCountTreesWrong : ChangeSpec := { name := "fnExactCountTrees", fn := fun _ => fun
  | [d] => { results := [.lit (.bool false)], args := [d] }
  | _ => none }
def FnExactCountTreesWrongFalsely : Prop := fnExactCountTreesRow.holds Try.pinned (OpenSpec.ofChange fnExactCountTreesWrong)

/-- 'laws.FnExactTreesWith': WHATEVER THE INPUT: true; the input reads as it did. -/
def fnExactTreesWithSpec : ChangeSpec := { name := "fnExactTreesWith", fn := fun _ => fun
  | [d1, d2] => { results := [.lit (.bool true)], args := [d1, d2] }
  | _ => none }
def fnExactTreesWithRow : OpenClaim := { program := "ytehdlnnminaekaa", sum := "315c1805b0551996b27e56596a8db7e098498ad9752d3e964c5660e72ded6230", func := "loop.example/g01298/laws.FnExactTreesWith", spec := "fnExactTreesWith", unfollowed := true, recurses := true, apart := false }
def FnExactTreesWithSaid : Prop := fnExactTreesWithRow.holds Try.pinned (OpenSpec.ofChange fnExactTreesWithSpec)

/-- ITS FALSE NEIGHBOUR: 'it returns false'. Refute it at one input. -/
def fnExactTreesWithWrong : ChangeSpec := { name := "fnExactTreesWith", fn := fun _ => fun
  | [d1, d2] => { results := [.lit (.bool false)], args := [d1, d2] }
  | _ => none }
def FnExactTreesWithWrongFalsely : Prop := fnExactTreesWithRow.holds Try.pinned (OpenSpec.ofChange fnExactTreesWithWrong)

/-- 'laws.FnExactPartingNumber': WHATEVER THE INPUT: true; the input reads as it did. -/
def fnExactPartingNumberSpec : ChangeSpec := { name := "fnExactPartingNumber", fn := fun _ => fun
  | [d1, d2, d3] => { results := [.lit (.bool true)], args := [d1, d2, d3] }
  | _ => none }
def fnExactPartingNumberRow : OpenClaim := { program := "ytehdlnnminaekaa", sum := "315c1805b0551996b27e56596a8db7e098498ad9752d3e964c5660e72ded6230", func := "loop.example/g01298/laws.FnExactPartingNumber", spec := "fnExactPartingNumber", unfollowed := true, recurses := true, apart := false }
def FnExactPartingNumberSaid : Prop := fnExactPartingNumberRow.holds Try.pinned (OpenSpec.ofChange fnExactPartingNumberSpec)

/-- ITS FALSE NEIGHBOUR: 'it returns false'. Refute it at one input. -/
def fnExactPartingNumberWrong : ChangeSpec := { name := "fnExactPartingNumber", fn := fun _ => fun
  | [d1, d2, d3] => { results := [.lit (.bool false)], args := [d1, d2, d3] }
  | _ => none }
def FnExactPartingNumberWrongFalsely : Prop := fnExactPartingNumberRow.holds Try.pinned (OpenSpec.ofChange fnExactPartingNumberWrong)

/-- 'laws.FnExactResistanceOf': WHATEVER THE INPUT: true; the input reads as it did. -/
def fnExactResistanceOfSpec : ChangeSpec := { name := "fnExactResistanceOf", fn := fun _ => fun
  | [d1, d2, d3] => { results := [.lit (.bool true)], args := [d1, d2, d3] }
  | _ => none }
def fnExactResistanceOfRow : OpenClaim := { program := "ytehdlnnminaekaa", sum := "315c1805b0551996b27e56596a8db7e098498ad9752d3e964c5660e72ded6230", func := "loop.example/g01298/laws.FnExactResistanceOf", spec := "fnExactResistanceOf", unfollowed := true, recurses := true, apart := false }
def FnExactResistanceOfSaid : Prop := fnExactResistanceOfRow.holds Try.pinned (OpenSpec.ofChange fnExactResistanceOfSpec)

/-- ITS FALSE NEIGHBOUR: 'it returns false'. Refute it at one input. -/
def fnExactResistanceOfWrong : ChangeSpec := { name := "fnExactResistanceOf", fn := fun _ => fun
  | [d1, d2, d3] => { results := [.lit (.bool false)], args := [d1, d2, d3] }
  | _ => none }
def FnExactResistanceOfWrongFalsely : Prop := fnExactResistanceOfRow.holds Try.pinned (OpenSpec.ofChange fnExactResistanceOfWrong)

/-- 'laws.FnExactSpanningTrees': WHATEVER THE INPUT: true; the input reads as it did. -/
def fnExactSpanningTreesSpec : ChangeSpec := { name := "fnExactSpanningTrees", fn := fun _ => fun
  | [d] => { results := [.lit (.bool true)], args := [d] }
  | _ => none }
def fnExactSpanningTreesRow : OpenClaim := { program := "ytehdlnnminaekaa", sum := "315c1805b0551996b27e56596a8db7e098498ad9752d3e964c5660e72ded6230", func := "loop.example/g01298/laws.FnExactSpanningTrees", spec := "fnExactSpanningTrees", unfollowed := true, recurses := true, apart := false }
def FnExactSpanningTreesSaid : Prop := fnExactSpanningTreesRow.holds Try.pinned (OpenSpec.ofChange fnExactSpanningTreesSpec)

/-- ITS FALSE NEIGHBOUR: 'it returns false'. Refute it at one input. -/
def fnExactSpanningTreesWrong : ChangeSpec := { name := "fnExactSpanningTrees", fn := fun _ => fun
  | [d] => { results := [.lit (.bool false)], args := [d] }
  | _ => none }
def FnExactSpanningTreesWrongFalsely : Prop := fnExactSpanningTreesRow.holds Try.pinned (OpenSpec.ofChange fnExactSpanningTreesWrong)

/- THE SECOND FORM. 'bulk': how many values and letters a reading holds, each counted each time it is reached (what is shared counts as often as it is met; a slice's spare places count too). A statement '..UptoSaid' is the law's where the arguments, and the package variables that the reading takes, are together of bulk at most 1048576: NARROWER than '..Said'. Prove '..Said' where nothing that the law and all that it calls make is longer than what came in: it says more and counts as full. Else prove '..UptoSaid'. A law counts once. -/
mutual
def uptoBulk {H : Type} : DataW H → Nat
  | .lit (.string bytes) => bytes.length + 1
  | .lit _ => 1
  | .nil => 1
  | .ptr d => uptoBulk d + 1
  | .slice elems spare => uptoBulkAll elems + uptoBulkAll spare + 1
  | .agg parts => uptoBulkAll parts + 1
  | .iface _ d => uptoBulk d + 1
  | .map entries => uptoBulkEntries entries + 1
  | .held _ => 1
def uptoBulkAll {H : Type} : List (DataW H) → Nat
  | [] => 0
  | d :: r => uptoBulk d + uptoBulkAll r
def uptoBulkEntries {H : Type} : List (Lit × DataW H) → Nat
  | [] => 0
  | x :: r => uptoBulkEntry x + uptoBulkEntries r
def uptoBulkEntry {H : Type} : Lit × DataW H → Nat
  | (.string bytes, d) => bytes.length + uptoBulk d + 1
  | (_, d) => uptoBulk d + 1
 end
def uptoSmall : (H : Type) → List (DataW H) → Bool := fun _ ds => decide (uptoBulkAll ds ≤ 1048576)
def OpenSpec.upto (s : _root_.Go.ChangeSpec) : _root_.Go.OpenSpec := { _root_.Go.OpenSpec.ofChange s with cond := some uptoSmall }

/-- 'laws.FnExactIsRamanujan', WHERE WHAT IT READS IS OF BULK AT MOST 1048576: true; the input reads as it did. -/
def fnExactIsRamanujanUptoRow : OpenClaim := { program := "ytehdlnnminaekaa", sum := "315c1805b0551996b27e56596a8db7e098498ad9752d3e964c5660e72ded6230", func := "loop.example/g01298/laws.FnExactIsRamanujan", spec := "fnExactIsRamanujan", unfollowed := true, recurses := true, apart := false, narrowed := true }
def FnExactIsRamanujanUptoSaid : Prop := fnExactIsRamanujanUptoRow.holds Try.pinned (OpenSpec.upto fnExactIsRamanujanSpec)

/-- 'laws.FnExactDoLookAlike', WHERE WHAT IT READS IS OF BULK AT MOST 1048576: true; the input reads as it did. -/
def fnExactDoLookAlikeUptoRow : OpenClaim := { program := "ytehdlnnminaekaa", sum := "315c1805b0551996b27e56596a8db7e098498ad9752d3e964c5660e72ded6230", func := "loop.example/g01298/laws.FnExactDoLookAlike", spec := "fnExactDoLookAlike", apart := false, narrowed := true }
def FnExactDoLookAlikeUptoSaid : Prop := fnExactDoLookAlikeUptoRow.holds Try.pinned (OpenSpec.upto fnExactDoLookAlikeSpec)

/-- 'laws.FnExactGreatestBelow', WHERE WHAT IT READS IS OF BULK AT MOST 1048576: true; the input reads as it did. -/
def fnExactGreatestBelowUptoRow : OpenClaim := { program := "ytehdlnnminaekaa", sum := "315c1805b0551996b27e56596a8db7e098498ad9752d3e964c5660e72ded6230", func := "loop.example/g01298/laws.FnExactGreatestBelow", spec := "fnExactGreatestBelow", apart := false, narrowed := true }
def FnExactGreatestBelowUptoSaid : Prop := fnExactGreatestBelowUptoRow.holds Try.pinned (OpenSpec.upto fnExactGreatestBelowSpec)

/-- 'laws.FnExactBartholdiFactor', WHERE WHAT IT READS IS OF BULK AT MOST 1048576: true; the input reads as it did. -/
def fnExactBartholdiFactorUptoRow : OpenClaim := { program := "ytehdlnnminaekaa", sum := "315c1805b0551996b27e56596a8db7e098498ad9752d3e964c5660e72ded6230", func := "loop.example/g01298/laws.FnExactBartholdiFactor", spec := "fnExactBartholdiFactor", unfollowed := true, recurses := true, apart := false, narrowed := true }
def FnExactBartholdiFactorUptoSaid : Prop := fnExactBartholdiFactorUptoRow.holds Try.pinned (OpenSpec.upto fnExactBartholdiFactorSpec)

/-- 'laws.FnExactCountTrees', WHERE WHAT IT READS IS OF BULK AT MOST 1048576: true; the input reads as it did. -/
def fnExactCountTreesUptoRow : OpenClaim := { program := "ytehdlnnminaekaa", sum := "315c1805b0551996b27e56596a8db7e098498ad9752d3e964c5660e72ded6230", func := "loop.example/g01298/laws.FnExactCountTrees", spec := "fnExactCountTrees", unfollowed := true, recurses := true, apart := false, narrowed := true }
def FnExactCountTreesUptoSaid : Prop := fnExactCountTreesUptoRow.holds Try.pinned (OpenSpec.upto fnExactCountTreesSpec)

/-- 'laws.FnExactTreesWith', WHERE WHAT IT READS IS OF BULK AT MOST 1048576: true; the input reads as it did. -/
def fnExactTreesWithUptoRow : OpenClaim := { program := "ytehdlnnminaekaa", sum := "315c1805b0551996b27e56596a8db7e098498ad9752d3e964c5660e72ded6230", func := "loop.example/g01298/laws.FnExactTreesWith", spec := "fnExactTreesWith", unfollowed := true, recurses := true, apart := false, narrowed := true }
def FnExactTreesWithUptoSaid : Prop := fnExactTreesWithUptoRow.holds Try.pinned (OpenSpec.upto fnExactTreesWithSpec)

/-- 'laws.FnExactPartingNumber', WHERE WHAT IT READS IS OF BULK AT MOST 1048576: true; the input reads as it did. -/
def fnExactPartingNumberUptoRow : OpenClaim := { program := "ytehdlnnminaekaa", sum := "315c1805b0551996b27e56596a8db7e098498ad9752d3e964c5660e72ded6230", func := "loop.example/g01298/laws.FnExactPartingNumber", spec := "fnExactPartingNumber", unfollowed := true, recurses := true, apart := false, narrowed := true }
def FnExactPartingNumberUptoSaid : Prop := fnExactPartingNumberUptoRow.holds Try.pinned (OpenSpec.upto fnExactPartingNumberSpec)

/-- 'laws.FnExactResistanceOf', WHERE WHAT IT READS IS OF BULK AT MOST 1048576: true; the input reads as it did. -/
def fnExactResistanceOfUptoRow : OpenClaim := { program := "ytehdlnnminaekaa", sum := "315c1805b0551996b27e56596a8db7e098498ad9752d3e964c5660e72ded6230", func := "loop.example/g01298/laws.FnExactResistanceOf", spec := "fnExactResistanceOf", unfollowed := true, recurses := true, apart := false, narrowed := true }
def FnExactResistanceOfUptoSaid : Prop := fnExactResistanceOfUptoRow.holds Try.pinned (OpenSpec.upto fnExactResistanceOfSpec)

/-- 'laws.FnExactSpanningTrees', WHERE WHAT IT READS IS OF BULK AT MOST 1048576: true; the input reads as it did. -/
def fnExactSpanningTreesUptoRow : OpenClaim := { program := "ytehdlnnminaekaa", sum := "315c1805b0551996b27e56596a8db7e098498ad9752d3e964c5660e72ded6230", func := "loop.example/g01298/laws.FnExactSpanningTrees", spec := "fnExactSpanningTrees", unfollowed := true, recurses := true, apart := false, narrowed := true }
def FnExactSpanningTreesUptoSaid : Prop := fnExactSpanningTreesUptoRow.holds Try.pinned (OpenSpec.upto fnExactSpanningTreesSpec)

end Rows
end Go.Proofs.Ytehdlnnminaekaa
