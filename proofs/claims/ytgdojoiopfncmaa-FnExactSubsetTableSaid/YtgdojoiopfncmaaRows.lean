/-
  No cell of these rows narrows 'for every input' (looked for: loops, veiled, ifaces, maps, wideKeys, modest, calm, conditions, laid).
  DERIVED. THE GIVEN ROWS OF THIS SEAT. 31 by the template 'for every input the law returns true; each argument reads behind the call as it read before'; 0 by the template 'total and deterministic' (their statements: YtgdojoiopfncmaaTotals.lean).
  GIVEN WITH THE SEED: the statements are not yours to turn. If you find one false, say at which input.
  Laid BY PROGRAM, IN A SANDBOX (cutbox-rows.mjs): the forced cells as the released guide's own fill.sh prints them over the translation 6dfd41c7eabc2aef… (all of the seat's roots in one cut). By AI agents, Wed Nov 11 2026. No macro, syntax, notation, axiom, sorry.
-/
import Derived.Test.YtgdojoiopfncmaaChecked
import GoSem.Claim
import GoSem.ClaimJoined
import GoSem.ClaimMapViews
import Derived.JoinedTies
import Derived.KernelRfl
namespace Go.Proofs.Ytgdojoiopfncmaa
/- THE CELL 'sum', in the pinned program and in every row, IS THE sha256 OF THE DUMP (.gsa) THAT YtgdojoiopfncmaaProg.lean LOADS. Nothing in Lean hashes anything: it is a label: what it is worth is what the hold of that sum in a sandbox is worth. -/
noncomputable def Try.pinned : Pinned := { name := "ytgdojoiopfncmaa", sum := "6dfd41c7eabc2aef7ba3193be643031be11fb60423e66a79e197c313bbd7a365", checked := Try.checked }
namespace Rows
def none {H : Type} : Left H := { results := [], args := [] }

/-- 'laws.FnExactPowerSumsOf': WHATEVER THE INPUT: true; the input reads as it did. -/
def fnExactPowerSumsOfSpec : ChangeSpec := { name := "fnExactPowerSumsOf", fn := fun _ => fun
  | [d1, d2] => { results := [.lit (.bool true)], args := [d1, d2] }
  | _ => none }
def fnExactPowerSumsOfRow : OpenClaim := { program := "ytgdojoiopfncmaa", sum := "6dfd41c7eabc2aef7ba3193be643031be11fb60423e66a79e197c313bbd7a365", func := "loop.example/g01298/laws.FnExactPowerSumsOf", spec := "fnExactPowerSumsOf", apart := false }
def FnExactPowerSumsOfSaid : Prop := fnExactPowerSumsOfRow.holds Try.pinned (OpenSpec.ofChange fnExactPowerSumsOfSpec)

/-- ITS FALSE NEIGHBOUR: 'it returns false'. Refute it at one input. -/
def fnExactPowerSumsOfWrong : ChangeSpec := { name := "fnExactPowerSumsOf", fn := fun _ => fun
  | [d1, d2] => { results := [.lit (.bool false)], args := [d1, d2] }
  | _ => none }
def FnExactPowerSumsOfWrongFalsely : Prop := fnExactPowerSumsOfRow.holds Try.pinned (OpenSpec.ofChange fnExactPowerSumsOfWrong)

/-- 'laws.FnExactDegreeProduct': WHATEVER THE INPUT: true; the input reads as it did. -/
def fnExactDegreeProductSpec : ChangeSpec := { name := "fnExactDegreeProduct", fn := fun _ => fun
  | [d] => { results := [.lit (.bool true)], args := [d] }
  | _ => none }
def fnExactDegreeProductRow : OpenClaim := { program := "ytgdojoiopfncmaa", sum := "6dfd41c7eabc2aef7ba3193be643031be11fb60423e66a79e197c313bbd7a365", func := "loop.example/g01298/laws.FnExactDegreeProduct", spec := "fnExactDegreeProduct", apart := false }
def FnExactDegreeProductSaid : Prop := fnExactDegreeProductRow.holds Try.pinned (OpenSpec.ofChange fnExactDegreeProductSpec)

/-- ITS FALSE NEIGHBOUR: 'it returns false'. Refute it at one input. -/
def fnExactDegreeProductWrong : ChangeSpec := { name := "fnExactDegreeProduct", fn := fun _ => fun
  | [d] => { results := [.lit (.bool false)], args := [d] }
  | _ => none }
def FnExactDegreeProductWrongFalsely : Prop := fnExactDegreeProductRow.holds Try.pinned (OpenSpec.ofChange fnExactDegreeProductWrong)

/-- 'laws.FnExactPolynomialOfSums': WHATEVER THE INPUT: true; the input reads as it did. -/
def fnExactPolynomialOfSumsSpec : ChangeSpec := { name := "fnExactPolynomialOfSums", fn := fun _ => fun
  | [d] => { results := [.lit (.bool true)], args := [d] }
  | _ => none }
def fnExactPolynomialOfSumsRow : OpenClaim := { program := "ytgdojoiopfncmaa", sum := "6dfd41c7eabc2aef7ba3193be643031be11fb60423e66a79e197c313bbd7a365", func := "loop.example/g01298/laws.FnExactPolynomialOfSums", spec := "fnExactPolynomialOfSums", unfollowed := true, recurses := true, apart := false }
def FnExactPolynomialOfSumsSaid : Prop := fnExactPolynomialOfSumsRow.holds Try.pinned (OpenSpec.ofChange fnExactPolynomialOfSumsSpec)

/-- ITS FALSE NEIGHBOUR: 'it returns false'. Refute it at one input. -/
def fnExactPolynomialOfSumsWrong : ChangeSpec := { name := "fnExactPolynomialOfSums", fn := fun _ => fun
  | [d] => { results := [.lit (.bool false)], args := [d] }
  | _ => none }
def FnExactPolynomialOfSumsWrongFalsely : Prop := fnExactPolynomialOfSumsRow.holds Try.pinned (OpenSpec.ofChange fnExactPolynomialOfSumsWrong)

/-- 'laws.FnExactPrimesOfSums': WHATEVER THE INPUT: true; the input reads as it did. -/
def fnExactPrimesOfSumsSpec : ChangeSpec := { name := "fnExactPrimesOfSums", fn := fun _ => fun
  | [d] => { results := [.lit (.bool true)], args := [d] }
  | _ => none }
def fnExactPrimesOfSumsRow : OpenClaim := { program := "ytgdojoiopfncmaa", sum := "6dfd41c7eabc2aef7ba3193be643031be11fb60423e66a79e197c313bbd7a365", func := "loop.example/g01298/laws.FnExactPrimesOfSums", spec := "fnExactPrimesOfSums", unfollowed := true, recurses := true, apart := false }
def FnExactPrimesOfSumsSaid : Prop := fnExactPrimesOfSumsRow.holds Try.pinned (OpenSpec.ofChange fnExactPrimesOfSumsSpec)

/-- ITS FALSE NEIGHBOUR: 'it returns false'. Refute it at one input. -/
def fnExactPrimesOfSumsWrong : ChangeSpec := { name := "fnExactPrimesOfSums", fn := fun _ => fun
  | [d] => { results := [.lit (.bool false)], args := [d] }
  | _ => none }
def FnExactPrimesOfSumsWrongFalsely : Prop := fnExactPrimesOfSumsRow.holds Try.pinned (OpenSpec.ofChange fnExactPrimesOfSumsWrong)

/-- 'laws.FnExactIsSimple': WHATEVER THE INPUT: true; the input reads as it did. -/
def fnExactIsSimpleSpec : ChangeSpec := { name := "fnExactIsSimple", fn := fun _ => fun
  | [d] => { results := [.lit (.bool true)], args := [d] }
  | _ => none }
def fnExactIsSimpleRow : OpenClaim := { program := "ytgdojoiopfncmaa", sum := "6dfd41c7eabc2aef7ba3193be643031be11fb60423e66a79e197c313bbd7a365", func := "loop.example/g01298/laws.FnExactIsSimple", spec := "fnExactIsSimple", apart := false }
def FnExactIsSimpleSaid : Prop := fnExactIsSimpleRow.holds Try.pinned (OpenSpec.ofChange fnExactIsSimpleSpec)

/-- ITS FALSE NEIGHBOUR: 'it returns false'. Refute it at one input. -/
def fnExactIsSimpleWrong : ChangeSpec := { name := "fnExactIsSimple", fn := fun _ => fun
  | [d] => { results := [.lit (.bool false)], args := [d] }
  | _ => none }
def FnExactIsSimpleWrongFalsely : Prop := fnExactIsSimpleRow.holds Try.pinned (OpenSpec.ofChange fnExactIsSimpleWrong)

/-- 'laws.FnExactRegularDegree': WHATEVER THE INPUT: true; the input reads as it did. -/
def fnExactRegularDegreeSpec : ChangeSpec := { name := "fnExactRegularDegree", fn := fun _ => fun
  | [d] => { results := [.lit (.bool true)], args := [d] }
  | _ => none }
def fnExactRegularDegreeRow : OpenClaim := { program := "ytgdojoiopfncmaa", sum := "6dfd41c7eabc2aef7ba3193be643031be11fb60423e66a79e197c313bbd7a365", func := "loop.example/g01298/laws.FnExactRegularDegree", spec := "fnExactRegularDegree", apart := false }
def FnExactRegularDegreeSaid : Prop := fnExactRegularDegreeRow.holds Try.pinned (OpenSpec.ofChange fnExactRegularDegreeSpec)

/-- ITS FALSE NEIGHBOUR: 'it returns false'. Refute it at one input. -/
def fnExactRegularDegreeWrong : ChangeSpec := { name := "fnExactRegularDegree", fn := fun _ => fun
  | [d] => { results := [.lit (.bool false)], args := [d] }
  | _ => none }
def FnExactRegularDegreeWrongFalsely : Prop := fnExactRegularDegreeRow.holds Try.pinned (OpenSpec.ofChange fnExactRegularDegreeWrong)

/-- 'laws.FnExactLaplacianRows': WHATEVER THE INPUT: true; the input reads as it did. -/
def fnExactLaplacianRowsSpec : ChangeSpec := { name := "fnExactLaplacianRows", fn := fun _ => fun
  | [d] => { results := [.lit (.bool true)], args := [d] }
  | _ => none }
def fnExactLaplacianRowsRow : OpenClaim := { program := "ytgdojoiopfncmaa", sum := "6dfd41c7eabc2aef7ba3193be643031be11fb60423e66a79e197c313bbd7a365", func := "loop.example/g01298/laws.FnExactLaplacianRows", spec := "fnExactLaplacianRows", apart := false }
def FnExactLaplacianRowsSaid : Prop := fnExactLaplacianRowsRow.holds Try.pinned (OpenSpec.ofChange fnExactLaplacianRowsSpec)

/-- ITS FALSE NEIGHBOUR: 'it returns false'. Refute it at one input. -/
def fnExactLaplacianRowsWrong : ChangeSpec := { name := "fnExactLaplacianRows", fn := fun _ => fun
  | [d] => { results := [.lit (.bool false)], args := [d] }
  | _ => none }
def FnExactLaplacianRowsWrongFalsely : Prop := fnExactLaplacianRowsRow.holds Try.pinned (OpenSpec.ofChange fnExactLaplacianRowsWrong)

/-- 'laws.FnExactCountTurns': WHATEVER THE INPUT: true; the input reads as it did. -/
def fnExactCountTurnsSpec : ChangeSpec := { name := "fnExactCountTurns", fn := fun _ => fun
  | [d1, d2] => { results := [.lit (.bool true)], args := [d1, d2] }
  | _ => none }
def fnExactCountTurnsRow : OpenClaim := { program := "ytgdojoiopfncmaa", sum := "6dfd41c7eabc2aef7ba3193be643031be11fb60423e66a79e197c313bbd7a365", func := "loop.example/g01298/laws.FnExactCountTurns", spec := "fnExactCountTurns", unfollowed := true, recurses := true, apart := false }
def FnExactCountTurnsSaid : Prop := fnExactCountTurnsRow.holds Try.pinned (OpenSpec.ofChange fnExactCountTurnsSpec)

/-- ITS FALSE NEIGHBOUR: 'it returns false'. Refute it at one input. -/
def fnExactCountTurnsWrong : ChangeSpec := { name := "fnExactCountTurns", fn := fun _ => fun
  | [d1, d2] => { results := [.lit (.bool false)], args := [d1, d2] }
  | _ => none }
def FnExactCountTurnsWrongFalsely : Prop := fnExactCountTurnsRow.holds Try.pinned (OpenSpec.ofChange fnExactCountTurnsWrong)

/-- 'laws.FnExactIsIsomorphism': WHATEVER THE INPUT: true; the input reads as it did. -/
def fnExactIsIsomorphismSpec : ChangeSpec := { name := "fnExactIsIsomorphism", fn := fun _ => fun
  | [d1, d2, d3] => { results := [.lit (.bool true)], args := [d1, d2, d3] }
  | _ => none }
def fnExactIsIsomorphismRow : OpenClaim := { program := "ytgdojoiopfncmaa", sum := "6dfd41c7eabc2aef7ba3193be643031be11fb60423e66a79e197c313bbd7a365", func := "loop.example/g01298/laws.FnExactIsIsomorphism", spec := "fnExactIsIsomorphism", apart := false }
def FnExactIsIsomorphismSaid : Prop := fnExactIsIsomorphismRow.holds Try.pinned (OpenSpec.ofChange fnExactIsIsomorphismSpec)

/-- ITS FALSE NEIGHBOUR: 'it returns false'. Refute it at one input. -/
def fnExactIsIsomorphismWrong : ChangeSpec := { name := "fnExactIsIsomorphism", fn := fun _ => fun
  | [d1, d2, d3] => { results := [.lit (.bool false)], args := [d1, d2, d3] }
  | _ => none }
def FnExactIsIsomorphismWrongFalsely : Prop := fnExactIsIsomorphismRow.holds Try.pinned (OpenSpec.ofChange fnExactIsIsomorphismWrong)

/-- 'laws.FnExactWeightOfWalk': WHATEVER THE INPUT: true; the input reads as it did. -/
def fnExactWeightOfWalkSpec : ChangeSpec := { name := "fnExactWeightOfWalk", fn := fun _ => fun
  | [d1, d2, d3, d4] => { results := [.lit (.bool true)], args := [d1, d2, d3, d4] }
  | _ => none }
def fnExactWeightOfWalkRow : OpenClaim := { program := "ytgdojoiopfncmaa", sum := "6dfd41c7eabc2aef7ba3193be643031be11fb60423e66a79e197c313bbd7a365", func := "loop.example/g01298/laws.FnExactWeightOfWalk", spec := "fnExactWeightOfWalk", unfollowed := true, recurses := true, apart := false }
def FnExactWeightOfWalkSaid : Prop := fnExactWeightOfWalkRow.holds Try.pinned (OpenSpec.ofChange fnExactWeightOfWalkSpec)

/-- ITS FALSE NEIGHBOUR: 'it returns false'. Refute it at one input. -/
def fnExactWeightOfWalkWrong : ChangeSpec := { name := "fnExactWeightOfWalk", fn := fun _ => fun
  | [d1, d2, d3, d4] => { results := [.lit (.bool false)], args := [d1, d2, d3, d4] }
  | _ => none }
def FnExactWeightOfWalkWrongFalsely : Prop := fnExactWeightOfWalkRow.holds Try.pinned (OpenSpec.ofChange fnExactWeightOfWalkWrong)

/-- 'laws.FnExactCodeOf': WHATEVER THE INPUT: true; the input reads as it did. -/
def fnExactCodeOfSpec : ChangeSpec := { name := "fnExactCodeOf", fn := fun _ => fun
  | [d] => { results := [.lit (.bool true)], args := [d] }
  | _ => none }
def fnExactCodeOfRow : OpenClaim := { program := "ytgdojoiopfncmaa", sum := "6dfd41c7eabc2aef7ba3193be643031be11fb60423e66a79e197c313bbd7a365", func := "loop.example/g01298/laws.FnExactCodeOf", spec := "fnExactCodeOf", apart := false }
def FnExactCodeOfSaid : Prop := fnExactCodeOfRow.holds Try.pinned (OpenSpec.ofChange fnExactCodeOfSpec)

/-- ITS FALSE NEIGHBOUR: 'it returns false'. Refute it at one input. -/
def fnExactCodeOfWrong : ChangeSpec := { name := "fnExactCodeOf", fn := fun _ => fun
  | [d] => { results := [.lit (.bool false)], args := [d] }
  | _ => none }
def FnExactCodeOfWrongFalsely : Prop := fnExactCodeOfRow.holds Try.pinned (OpenSpec.ofChange fnExactCodeOfWrong)

/-- 'laws.FnExactCountConnected': WHATEVER THE INPUT: true; the input reads as it did. -/
def fnExactCountConnectedSpec : ChangeSpec := { name := "fnExactCountConnected", fn := fun _ => fun
  | [d] => { results := [.lit (.bool true)], args := [d] }
  | _ => none }
def fnExactCountConnectedRow : OpenClaim := { program := "ytgdojoiopfncmaa", sum := "6dfd41c7eabc2aef7ba3193be643031be11fb60423e66a79e197c313bbd7a365", func := "loop.example/g01298/laws.FnExactCountConnected", spec := "fnExactCountConnected", unfollowed := true, recurses := true, apart := false }
def FnExactCountConnectedSaid : Prop := fnExactCountConnectedRow.holds Try.pinned (OpenSpec.ofChange fnExactCountConnectedSpec)

/-- ITS FALSE NEIGHBOUR: 'it returns false'. Refute it at one input. -/
def fnExactCountConnectedWrong : ChangeSpec := { name := "fnExactCountConnected", fn := fun _ => fun
  | [d] => { results := [.lit (.bool false)], args := [d] }
  | _ => none }
def FnExactCountConnectedWrongFalsely : Prop := fnExactCountConnectedRow.holds Try.pinned (OpenSpec.ofChange fnExactCountConnectedWrong)

/-- 'laws.FnExactSpectralSum': WHATEVER THE INPUT: true; the input reads as it did. -/
def fnExactSpectralSumSpec : ChangeSpec := { name := "fnExactSpectralSum", fn := fun _ => fun
  | [d1, d2] => { results := [.lit (.bool true)], args := [d1, d2] }
  | _ => none }
def fnExactSpectralSumRow : OpenClaim := { program := "ytgdojoiopfncmaa", sum := "6dfd41c7eabc2aef7ba3193be643031be11fb60423e66a79e197c313bbd7a365", func := "loop.example/g01298/laws.FnExactSpectralSum", spec := "fnExactSpectralSum", unfollowed := true, recurses := true, apart := false }
def FnExactSpectralSumSaid : Prop := fnExactSpectralSumRow.holds Try.pinned (OpenSpec.ofChange fnExactSpectralSumSpec)

/-- ITS FALSE NEIGHBOUR: 'it returns false'. Refute it at one input. -/
def fnExactSpectralSumWrong : ChangeSpec := { name := "fnExactSpectralSum", fn := fun _ => fun
  | [d1, d2] => { results := [.lit (.bool false)], args := [d1, d2] }
  | _ => none }
def FnExactSpectralSumWrongFalsely : Prop := fnExactSpectralSumRow.holds Try.pinned (OpenSpec.ofChange fnExactSpectralSumWrong)

/-- 'laws.FnExactCountForests': WHATEVER THE INPUT: true; the input reads as it did. -/
def fnExactCountForestsSpec : ChangeSpec := { name := "fnExactCountForests", fn := fun _ => fun
  | [d] => { results := [.lit (.bool true)], args := [d] }
  | _ => none }
def fnExactCountForestsRow : OpenClaim := { program := "ytgdojoiopfncmaa", sum := "6dfd41c7eabc2aef7ba3193be643031be11fb60423e66a79e197c313bbd7a365", func := "loop.example/g01298/laws.FnExactCountForests", spec := "fnExactCountForests", unfollowed := true, recurses := true, apart := false }
def FnExactCountForestsSaid : Prop := fnExactCountForestsRow.holds Try.pinned (OpenSpec.ofChange fnExactCountForestsSpec)

/-- ITS FALSE NEIGHBOUR: 'it returns false'. Refute it at one input. -/
def fnExactCountForestsWrong : ChangeSpec := { name := "fnExactCountForests", fn := fun _ => fun
  | [d] => { results := [.lit (.bool false)], args := [d] }
  | _ => none }
def FnExactCountForestsWrongFalsely : Prop := fnExactCountForestsRow.holds Try.pinned (OpenSpec.ofChange fnExactCountForestsWrong)

/-- 'laws.FnExactSubsetRank': WHATEVER THE INPUT: true; the input reads as it did. -/
def fnExactSubsetRankSpec : ChangeSpec := { name := "fnExactSubsetRank", fn := fun _ => fun
  | [d1, d2] => { results := [.lit (.bool true)], args := [d1, d2] }
  | _ => none }
def fnExactSubsetRankRow : OpenClaim := { program := "ytgdojoiopfncmaa", sum := "6dfd41c7eabc2aef7ba3193be643031be11fb60423e66a79e197c313bbd7a365", func := "loop.example/g01298/laws.FnExactSubsetRank", spec := "fnExactSubsetRank", unfollowed := true, recurses := true, apart := false }
def FnExactSubsetRankSaid : Prop := fnExactSubsetRankRow.holds Try.pinned (OpenSpec.ofChange fnExactSubsetRankSpec)

/-- ITS FALSE NEIGHBOUR: 'it returns false'. Refute it at one input. -/
def fnExactSubsetRankWrong : ChangeSpec := { name := "fnExactSubsetRank", fn := fun _ => fun
  | [d1, d2] => { results := [.lit (.bool false)], args := [d1, d2] }
  | _ => none }
def FnExactSubsetRankWrongFalsely : Prop := fnExactSubsetRankRow.holds Try.pinned (OpenSpec.ofChange fnExactSubsetRankWrong)

/-- 'laws.FnExactCountAutomorphisms': WHATEVER THE INPUT: true; the input reads as it did. -/
def fnExactCountAutomorphismsSpec : ChangeSpec := { name := "fnExactCountAutomorphisms", fn := fun _ => fun
  | [d] => { results := [.lit (.bool true)], args := [d] }
  | _ => none }
def fnExactCountAutomorphismsRow : OpenClaim := { program := "ytgdojoiopfncmaa", sum := "6dfd41c7eabc2aef7ba3193be643031be11fb60423e66a79e197c313bbd7a365", func := "loop.example/g01298/laws.FnExactCountAutomorphisms", spec := "fnExactCountAutomorphisms", unfollowed := true, recurses := true, apart := false }
def FnExactCountAutomorphismsSaid : Prop := fnExactCountAutomorphismsRow.holds Try.pinned (OpenSpec.ofChange fnExactCountAutomorphismsSpec)

/-- ITS FALSE NEIGHBOUR: 'it returns false'. Refute it at one input. -/
def fnExactCountAutomorphismsWrong : ChangeSpec := { name := "fnExactCountAutomorphisms", fn := fun _ => fun
  | [d] => { results := [.lit (.bool false)], args := [d] }
  | _ => none }
def FnExactCountAutomorphismsWrongFalsely : Prop := fnExactCountAutomorphismsRow.holds Try.pinned (OpenSpec.ofChange fnExactCountAutomorphismsWrong)

/-- 'laws.FnExactLineGraph': WHATEVER THE INPUT: true; the input reads as it did. -/
def fnExactLineGraphSpec : ChangeSpec := { name := "fnExactLineGraph", fn := fun _ => fun
  | [d] => { results := [.lit (.bool true)], args := [d] }
  | _ => none }
def fnExactLineGraphRow : OpenClaim := { program := "ytgdojoiopfncmaa", sum := "6dfd41c7eabc2aef7ba3193be643031be11fb60423e66a79e197c313bbd7a365", func := "loop.example/g01298/laws.FnExactLineGraph", spec := "fnExactLineGraph", unfollowed := true, recurses := true, apart := false }
def FnExactLineGraphSaid : Prop := fnExactLineGraphRow.holds Try.pinned (OpenSpec.ofChange fnExactLineGraphSpec)

/-- ITS FALSE NEIGHBOUR: 'it returns false'. Refute it at one input. -/
def fnExactLineGraphWrong : ChangeSpec := { name := "fnExactLineGraph", fn := fun _ => fun
  | [d] => { results := [.lit (.bool false)], args := [d] }
  | _ => none }
def FnExactLineGraphWrongFalsely : Prop := fnExactLineGraphRow.holds Try.pinned (OpenSpec.ofChange fnExactLineGraphWrong)

/-- 'laws.FnExactEqualWeights': WHATEVER THE INPUT: true; the input reads as it did. -/
def fnExactEqualWeightsSpec : ChangeSpec := { name := "fnExactEqualWeights", fn := fun _ => fun
  | [d1, d2, d3] => { results := [.lit (.bool true)], args := [d1, d2, d3] }
  | _ => none }
def fnExactEqualWeightsRow : OpenClaim := { program := "ytgdojoiopfncmaa", sum := "6dfd41c7eabc2aef7ba3193be643031be11fb60423e66a79e197c313bbd7a365", func := "loop.example/g01298/laws.FnExactEqualWeights", spec := "fnExactEqualWeights", unfollowed := true, recurses := true, apart := false }
def FnExactEqualWeightsSaid : Prop := fnExactEqualWeightsRow.holds Try.pinned (OpenSpec.ofChange fnExactEqualWeightsSpec)

/-- ITS FALSE NEIGHBOUR: 'it returns false'. Refute it at one input. -/
def fnExactEqualWeightsWrong : ChangeSpec := { name := "fnExactEqualWeights", fn := fun _ => fun
  | [d1, d2, d3] => { results := [.lit (.bool false)], args := [d1, d2, d3] }
  | _ => none }
def FnExactEqualWeightsWrongFalsely : Prop := fnExactEqualWeightsRow.holds Try.pinned (OpenSpec.ofChange fnExactEqualWeightsWrong)

/-- 'laws.FnExactIsTree': WHATEVER THE INPUT: true; the input reads as it did. -/
def fnExactIsTreeSpec : ChangeSpec := { name := "fnExactIsTree", fn := fun _ => fun
  | [d1, d2] => { results := [.lit (.bool true)], args := [d1, d2] }
  | _ => none }
def fnExactIsTreeRow : OpenClaim := { program := "ytgdojoiopfncmaa", sum := "6dfd41c7eabc2aef7ba3193be643031be11fb60423e66a79e197c313bbd7a365", func := "loop.example/g01298/laws.FnExactIsTree", spec := "fnExactIsTree", unfollowed := true, recurses := true, apart := false }
def FnExactIsTreeSaid : Prop := fnExactIsTreeRow.holds Try.pinned (OpenSpec.ofChange fnExactIsTreeSpec)

/-- ITS FALSE NEIGHBOUR: 'it returns false'. Refute it at one input. -/
def fnExactIsTreeWrong : ChangeSpec := { name := "fnExactIsTree", fn := fun _ => fun
  | [d1, d2] => { results := [.lit (.bool false)], args := [d1, d2] }
  | _ => none }
def FnExactIsTreeWrongFalsely : Prop := fnExactIsTreeRow.holds Try.pinned (OpenSpec.ofChange fnExactIsTreeWrong)

/-- 'laws.FnExactAreIsomorphic': WHATEVER THE INPUT: true; the input reads as it did. -/
def fnExactAreIsomorphicSpec : ChangeSpec := { name := "fnExactAreIsomorphic", fn := fun _ => fun
  | [d1, d2] => { results := [.lit (.bool true)], args := [d1, d2] }
  | _ => none }
def fnExactAreIsomorphicRow : OpenClaim := { program := "ytgdojoiopfncmaa", sum := "6dfd41c7eabc2aef7ba3193be643031be11fb60423e66a79e197c313bbd7a365", func := "loop.example/g01298/laws.FnExactAreIsomorphic", spec := "fnExactAreIsomorphic", unfollowed := true, recurses := true, apart := false }
def FnExactAreIsomorphicSaid : Prop := fnExactAreIsomorphicRow.holds Try.pinned (OpenSpec.ofChange fnExactAreIsomorphicSpec)

/-- ITS FALSE NEIGHBOUR: 'it returns false'. Refute it at one input. -/
def fnExactAreIsomorphicWrong : ChangeSpec := { name := "fnExactAreIsomorphic", fn := fun _ => fun
  | [d1, d2] => { results := [.lit (.bool false)], args := [d1, d2] }
  | _ => none }
def FnExactAreIsomorphicWrongFalsely : Prop := fnExactAreIsomorphicRow.holds Try.pinned (OpenSpec.ofChange fnExactAreIsomorphicWrong)

/-- 'laws.FnExactSubsetTable': WHATEVER THE INPUT: true; the input reads as it did. -/
def fnExactSubsetTableSpec : ChangeSpec := { name := "fnExactSubsetTable", fn := fun _ => fun
  | [d] => { results := [.lit (.bool true)], args := [d] }
  | _ => none }
def fnExactSubsetTableRow : OpenClaim := { program := "ytgdojoiopfncmaa", sum := "6dfd41c7eabc2aef7ba3193be643031be11fb60423e66a79e197c313bbd7a365", func := "loop.example/g01298/laws.FnExactSubsetTable", spec := "fnExactSubsetTable", unfollowed := true, recurses := true, apart := false }
def FnExactSubsetTableSaid : Prop := fnExactSubsetTableRow.holds Try.pinned (OpenSpec.ofChange fnExactSubsetTableSpec)

/-- ITS FALSE NEIGHBOUR: 'it returns false'. Refute it at one input. -/
def fnExactSubsetTableWrong : ChangeSpec := { name := "fnExactSubsetTable", fn := fun _ => fun
  | [d] => { results := [.lit (.bool false)], args := [d] }
  | _ => none }
def FnExactSubsetTableWrongFalsely : Prop := fnExactSubsetTableRow.holds Try.pinned (OpenSpec.ofChange fnExactSubsetTableWrong)

/-- 'laws.FnExactComplementOf': WHATEVER THE INPUT: true; the input reads as it did. -/
def fnExactComplementOfSpec : ChangeSpec := { name := "fnExactComplementOf", fn := fun _ => fun
  | [d] => { results := [.lit (.bool true)], args := [d] }
  | _ => none }
def fnExactComplementOfRow : OpenClaim := { program := "ytgdojoiopfncmaa", sum := "6dfd41c7eabc2aef7ba3193be643031be11fb60423e66a79e197c313bbd7a365", func := "loop.example/g01298/laws.FnExactComplementOf", spec := "fnExactComplementOf", unfollowed := true, recurses := true, apart := false }
def FnExactComplementOfSaid : Prop := fnExactComplementOfRow.holds Try.pinned (OpenSpec.ofChange fnExactComplementOfSpec)

/-- ITS FALSE NEIGHBOUR: 'it returns false'. Refute it at one input. -/
def fnExactComplementOfWrong : ChangeSpec := { name := "fnExactComplementOf", fn := fun _ => fun
  | [d] => { results := [.lit (.bool false)], args := [d] }
  | _ => none }
def FnExactComplementOfWrongFalsely : Prop := fnExactComplementOfRow.holds Try.pinned (OpenSpec.ofChange fnExactComplementOfWrong)

/-- 'laws.FnExactCountColourings': WHATEVER THE INPUT: true; the input reads as it did. -/
def fnExactCountColouringsSpec : ChangeSpec := { name := "fnExactCountColourings", fn := fun _ => fun
  | [d1, d2] => { results := [.lit (.bool true)], args := [d1, d2] }
  | _ => none }
def fnExactCountColouringsRow : OpenClaim := { program := "ytgdojoiopfncmaa", sum := "6dfd41c7eabc2aef7ba3193be643031be11fb60423e66a79e197c313bbd7a365", func := "loop.example/g01298/laws.FnExactCountColourings", spec := "fnExactCountColourings", unfollowed := true, recurses := true, apart := false }
def FnExactCountColouringsSaid : Prop := fnExactCountColouringsRow.holds Try.pinned (OpenSpec.ofChange fnExactCountColouringsSpec)

/-- ITS FALSE NEIGHBOUR: 'it returns false'. Refute it at one input. -/
def fnExactCountColouringsWrong : ChangeSpec := { name := "fnExactCountColourings", fn := fun _ => fun
  | [d1, d2] => { results := [.lit (.bool false)], args := [d1, d2] }
  | _ => none }
def FnExactCountColouringsWrongFalsely : Prop := fnExactCountColouringsRow.holds Try.pinned (OpenSpec.ofChange fnExactCountColouringsWrong)

/-- 'laws.FnExactAllWalks': WHATEVER THE INPUT: true; the input reads as it did. -/
def fnExactAllWalksSpec : ChangeSpec := { name := "fnExactAllWalks", fn := fun _ => fun
  | [d1, d2] => { results := [.lit (.bool true)], args := [d1, d2] }
  | _ => none }
def fnExactAllWalksRow : OpenClaim := { program := "ytgdojoiopfncmaa", sum := "6dfd41c7eabc2aef7ba3193be643031be11fb60423e66a79e197c313bbd7a365", func := "loop.example/g01298/laws.FnExactAllWalks", spec := "fnExactAllWalks", unfollowed := true, recurses := true, apart := false }
def FnExactAllWalksSaid : Prop := fnExactAllWalksRow.holds Try.pinned (OpenSpec.ofChange fnExactAllWalksSpec)

/-- ITS FALSE NEIGHBOUR: 'it returns false'. Refute it at one input. -/
def fnExactAllWalksWrong : ChangeSpec := { name := "fnExactAllWalks", fn := fun _ => fun
  | [d1, d2] => { results := [.lit (.bool false)], args := [d1, d2] }
  | _ => none }
def FnExactAllWalksWrongFalsely : Prop := fnExactAllWalksRow.holds Try.pinned (OpenSpec.ofChange fnExactAllWalksWrong)

/-- 'laws.FnExactChromaticOf': WHATEVER THE INPUT: true; the input reads as it did. -/
def fnExactChromaticOfSpec : ChangeSpec := { name := "fnExactChromaticOf", fn := fun _ => fun
  | [d] => { results := [.lit (.bool true)], args := [d] }
  | _ => none }
def fnExactChromaticOfRow : OpenClaim := { program := "ytgdojoiopfncmaa", sum := "6dfd41c7eabc2aef7ba3193be643031be11fb60423e66a79e197c313bbd7a365", func := "loop.example/g01298/laws.FnExactChromaticOf", spec := "fnExactChromaticOf", unfollowed := true, recurses := true, apart := false }
def FnExactChromaticOfSaid : Prop := fnExactChromaticOfRow.holds Try.pinned (OpenSpec.ofChange fnExactChromaticOfSpec)

/-- ITS FALSE NEIGHBOUR: 'it returns false'. Refute it at one input. -/
def fnExactChromaticOfWrong : ChangeSpec := { name := "fnExactChromaticOf", fn := fun _ => fun
  | [d] => { results := [.lit (.bool false)], args := [d] }
  | _ => none }
def FnExactChromaticOfWrongFalsely : Prop := fnExactChromaticOfRow.holds Try.pinned (OpenSpec.ofChange fnExactChromaticOfWrong)

/-- 'laws.FnExactDoesSwitch': WHATEVER THE INPUT: true; the input reads as it did. -/
def fnExactDoesSwitchSpec : ChangeSpec := { name := "fnExactDoesSwitch", fn := fun _ => fun
  | [d1, d2] => { results := [.lit (.bool true)], args := [d1, d2] }
  | _ => none }
def fnExactDoesSwitchRow : OpenClaim := { program := "ytgdojoiopfncmaa", sum := "6dfd41c7eabc2aef7ba3193be643031be11fb60423e66a79e197c313bbd7a365", func := "loop.example/g01298/laws.FnExactDoesSwitch", spec := "fnExactDoesSwitch", unfollowed := true, recurses := true, apart := false }
def FnExactDoesSwitchSaid : Prop := fnExactDoesSwitchRow.holds Try.pinned (OpenSpec.ofChange fnExactDoesSwitchSpec)

/-- ITS FALSE NEIGHBOUR: 'it returns false'. Refute it at one input. -/
def fnExactDoesSwitchWrong : ChangeSpec := { name := "fnExactDoesSwitch", fn := fun _ => fun
  | [d1, d2] => { results := [.lit (.bool false)], args := [d1, d2] }
  | _ => none }
def FnExactDoesSwitchWrongFalsely : Prop := fnExactDoesSwitchRow.holds Try.pinned (OpenSpec.ofChange fnExactDoesSwitchWrong)

/-- 'laws.FnExactFindIsomorphism': WHATEVER THE INPUT: true; the input reads as it did. -/
def fnExactFindIsomorphismSpec : ChangeSpec := { name := "fnExactFindIsomorphism", fn := fun _ => fun
  | [d1, d2] => { results := [.lit (.bool true)], args := [d1, d2] }
  | _ => none }
def fnExactFindIsomorphismRow : OpenClaim := { program := "ytgdojoiopfncmaa", sum := "6dfd41c7eabc2aef7ba3193be643031be11fb60423e66a79e197c313bbd7a365", func := "loop.example/g01298/laws.FnExactFindIsomorphism", spec := "fnExactFindIsomorphism", unfollowed := true, recurses := true, apart := false }
def FnExactFindIsomorphismSaid : Prop := fnExactFindIsomorphismRow.holds Try.pinned (OpenSpec.ofChange fnExactFindIsomorphismSpec)

/-- ITS FALSE NEIGHBOUR: 'it returns false'. Refute it at one input. -/
def fnExactFindIsomorphismWrong : ChangeSpec := { name := "fnExactFindIsomorphism", fn := fun _ => fun
  | [d1, d2] => { results := [.lit (.bool false)], args := [d1, d2] }
  | _ => none }
def FnExactFindIsomorphismWrongFalsely : Prop := fnExactFindIsomorphismRow.holds Try.pinned (OpenSpec.ofChange fnExactFindIsomorphismWrong)

/-- 'laws.FnExactTurnTable': WHATEVER THE INPUT: true; the input reads as it did. -/
def fnExactTurnTableSpec : ChangeSpec := { name := "fnExactTurnTable", fn := fun _ => fun
  | [d1, d2] => { results := [.lit (.bool true)], args := [d1, d2] }
  | _ => none }
def fnExactTurnTableRow : OpenClaim := { program := "ytgdojoiopfncmaa", sum := "6dfd41c7eabc2aef7ba3193be643031be11fb60423e66a79e197c313bbd7a365", func := "loop.example/g01298/laws.FnExactTurnTable", spec := "fnExactTurnTable", unfollowed := true, recurses := true, apart := false }
def FnExactTurnTableSaid : Prop := fnExactTurnTableRow.holds Try.pinned (OpenSpec.ofChange fnExactTurnTableSpec)

/-- ITS FALSE NEIGHBOUR: 'it returns false'. Refute it at one input. -/
def fnExactTurnTableWrong : ChangeSpec := { name := "fnExactTurnTable", fn := fun _ => fun
  | [d1, d2] => { results := [.lit (.bool false)], args := [d1, d2] }
  | _ => none }
def FnExactTurnTableWrongFalsely : Prop := fnExactTurnTableRow.holds Try.pinned (OpenSpec.ofChange fnExactTurnTableWrong)

/-- 'laws.FnExactLeastCode': WHATEVER THE INPUT: true; the input reads as it did. -/
def fnExactLeastCodeSpec : ChangeSpec := { name := "fnExactLeastCode", fn := fun _ => fun
  | [d] => { results := [.lit (.bool true)], args := [d] }
  | _ => none }
def fnExactLeastCodeRow : OpenClaim := { program := "ytgdojoiopfncmaa", sum := "6dfd41c7eabc2aef7ba3193be643031be11fb60423e66a79e197c313bbd7a365", func := "loop.example/g01298/laws.FnExactLeastCode", spec := "fnExactLeastCode", unfollowed := true, recurses := true, apart := false }
def FnExactLeastCodeSaid : Prop := fnExactLeastCodeRow.holds Try.pinned (OpenSpec.ofChange fnExactLeastCodeSpec)

/-- ITS FALSE NEIGHBOUR: 'it returns false'. Refute it at one input. -/
def fnExactLeastCodeWrong : ChangeSpec := { name := "fnExactLeastCode", fn := fun _ => fun
  | [d] => { results := [.lit (.bool false)], args := [d] }
  | _ => none }
def FnExactLeastCodeWrongFalsely : Prop := fnExactLeastCodeRow.holds Try.pinned (OpenSpec.ofChange fnExactLeastCodeWrong)

/-- 'laws.FnExactWeightedCounts': WHATEVER THE INPUT: true; the input reads as it did. -/
def fnExactWeightedCountsSpec : ChangeSpec := { name := "fnExactWeightedCounts", fn := fun _ => fun
  | [d1, d2, d3, d4] => { results := [.lit (.bool true)], args := [d1, d2, d3, d4] }
  | _ => none }
def fnExactWeightedCountsRow : OpenClaim := { program := "ytgdojoiopfncmaa", sum := "6dfd41c7eabc2aef7ba3193be643031be11fb60423e66a79e197c313bbd7a365", func := "loop.example/g01298/laws.FnExactWeightedCounts", spec := "fnExactWeightedCounts", unfollowed := true, recurses := true, apart := false }
def FnExactWeightedCountsSaid : Prop := fnExactWeightedCountsRow.holds Try.pinned (OpenSpec.ofChange fnExactWeightedCountsSpec)

/-- ITS FALSE NEIGHBOUR: 'it returns false'. Refute it at one input. -/
def fnExactWeightedCountsWrong : ChangeSpec := { name := "fnExactWeightedCounts", fn := fun _ => fun
  | [d1, d2, d3, d4] => { results := [.lit (.bool false)], args := [d1, d2, d3, d4] }
  | _ => none }
def FnExactWeightedCountsWrongFalsely : Prop := fnExactWeightedCountsRow.holds Try.pinned (OpenSpec.ofChange fnExactWeightedCountsWrong)

/-- 'laws.FnExactSwitchGraph': WHATEVER THE INPUT: true; the input reads as it did. -/
def fnExactSwitchGraphSpec : ChangeSpec := { name := "fnExactSwitchGraph", fn := fun _ => fun
  | [d1, d2] => { results := [.lit (.bool true)], args := [d1, d2] }
  | _ => none }
def fnExactSwitchGraphRow : OpenClaim := { program := "ytgdojoiopfncmaa", sum := "6dfd41c7eabc2aef7ba3193be643031be11fb60423e66a79e197c313bbd7a365", func := "loop.example/g01298/laws.FnExactSwitchGraph", spec := "fnExactSwitchGraph", unfollowed := true, recurses := true, apart := false }
def FnExactSwitchGraphSaid : Prop := fnExactSwitchGraphRow.holds Try.pinned (OpenSpec.ofChange fnExactSwitchGraphSpec)

/-- ITS FALSE NEIGHBOUR: 'it returns false'. Refute it at one input. -/
def fnExactSwitchGraphWrong : ChangeSpec := { name := "fnExactSwitchGraph", fn := fun _ => fun
  | [d1, d2] => { results := [.lit (.bool false)], args := [d1, d2] }
  | _ => none }
def FnExactSwitchGraphWrongFalsely : Prop := fnExactSwitchGraphRow.holds Try.pinned (OpenSpec.ofChange fnExactSwitchGraphWrong)

/- THE SECOND FORM. 'bulk': how many values and letters a reading holds, each counted each time it is reached (what is shared counts as often as it is met; a slice's spare places count too). A statement '..UptoSaid' is the law's where the arguments, and the package variables that the reading takes, are together of bulk at most 1048576: NARROWER than '..Said'. Prove '..Said' where nothing that the law and all that it calls make is longer than what came in: it says more and counts as full. Else prove '..UptoSaid'. A law counts once. -/
mutual
def uptoBulk {H : Type} : DataW H → Nat
  | .lit (.string bytes) => bytes.length + 1
  | .lit _ => 1
  | .nil => 1
  | .ptr d => uptoBulk d + 1
  | .slice elems spare => uptoBulkAll elems + uptoBulkAll spare + 1
  | .agg parts => uptoBulkAll parts + 1
  | .iface _ d => uptoBulk d + 1
  | .map entries => uptoBulkEntries entries + 1
  | .held _ => 1
def uptoBulkAll {H : Type} : List (DataW H) → Nat
  | [] => 0
  | d :: r => uptoBulk d + uptoBulkAll r
def uptoBulkEntries {H : Type} : List (Lit × DataW H) → Nat
  | [] => 0
  | x :: r => uptoBulkEntry x + uptoBulkEntries r
def uptoBulkEntry {H : Type} : Lit × DataW H → Nat
  | (.string bytes, d) => bytes.length + uptoBulk d + 1
  | (_, d) => uptoBulk d + 1
 end
def uptoSmall : (H : Type) → List (DataW H) → Bool := fun _ ds => decide (uptoBulkAll ds ≤ 1048576)
def OpenSpec.upto (s : _root_.Go.ChangeSpec) : _root_.Go.OpenSpec := { _root_.Go.OpenSpec.ofChange s with cond := some uptoSmall }

/-- 'laws.FnExactPowerSumsOf', WHERE WHAT IT READS IS OF BULK AT MOST 1048576: true; the input reads as it did. -/
def fnExactPowerSumsOfUptoRow : OpenClaim := { program := "ytgdojoiopfncmaa", sum := "6dfd41c7eabc2aef7ba3193be643031be11fb60423e66a79e197c313bbd7a365", func := "loop.example/g01298/laws.FnExactPowerSumsOf", spec := "fnExactPowerSumsOf", apart := false, narrowed := true }
def FnExactPowerSumsOfUptoSaid : Prop := fnExactPowerSumsOfUptoRow.holds Try.pinned (OpenSpec.upto fnExactPowerSumsOfSpec)

/-- 'laws.FnExactDegreeProduct', WHERE WHAT IT READS IS OF BULK AT MOST 1048576: true; the input reads as it did. -/
def fnExactDegreeProductUptoRow : OpenClaim := { program := "ytgdojoiopfncmaa", sum := "6dfd41c7eabc2aef7ba3193be643031be11fb60423e66a79e197c313bbd7a365", func := "loop.example/g01298/laws.FnExactDegreeProduct", spec := "fnExactDegreeProduct", apart := false, narrowed := true }
def FnExactDegreeProductUptoSaid : Prop := fnExactDegreeProductUptoRow.holds Try.pinned (OpenSpec.upto fnExactDegreeProductSpec)

/-- 'laws.FnExactPolynomialOfSums', WHERE WHAT IT READS IS OF BULK AT MOST 1048576: true; the input reads as it did. -/
def fnExactPolynomialOfSumsUptoRow : OpenClaim := { program := "ytgdojoiopfncmaa", sum := "6dfd41c7eabc2aef7ba3193be643031be11fb60423e66a79e197c313bbd7a365", func := "loop.example/g01298/laws.FnExactPolynomialOfSums", spec := "fnExactPolynomialOfSums", unfollowed := true, recurses := true, apart := false, narrowed := true }
def FnExactPolynomialOfSumsUptoSaid : Prop := fnExactPolynomialOfSumsUptoRow.holds Try.pinned (OpenSpec.upto fnExactPolynomialOfSumsSpec)

/-- 'laws.FnExactPrimesOfSums', WHERE WHAT IT READS IS OF BULK AT MOST 1048576: true; the input reads as it did. -/
def fnExactPrimesOfSumsUptoRow : OpenClaim := { program := "ytgdojoiopfncmaa", sum := "6dfd41c7eabc2aef7ba3193be643031be11fb60423e66a79e197c313bbd7a365", func := "loop.example/g01298/laws.FnExactPrimesOfSums", spec := "fnExactPrimesOfSums", unfollowed := true, recurses := true, apart := false, narrowed := true }
def FnExactPrimesOfSumsUptoSaid : Prop := fnExactPrimesOfSumsUptoRow.holds Try.pinned (OpenSpec.upto fnExactPrimesOfSumsSpec)

/-- 'laws.FnExactIsSimple', WHERE WHAT IT READS IS OF BULK AT MOST 1048576: true; the input reads as it did. -/
def fnExactIsSimpleUptoRow : OpenClaim := { program := "ytgdojoiopfncmaa", sum := "6dfd41c7eabc2aef7ba3193be643031be11fb60423e66a79e197c313bbd7a365", func := "loop.example/g01298/laws.FnExactIsSimple", spec := "fnExactIsSimple", apart := false, narrowed := true }
def FnExactIsSimpleUptoSaid : Prop := fnExactIsSimpleUptoRow.holds Try.pinned (OpenSpec.upto fnExactIsSimpleSpec)

/-- 'laws.FnExactRegularDegree', WHERE WHAT IT READS IS OF BULK AT MOST 1048576: true; the input reads as it did. -/
def fnExactRegularDegreeUptoRow : OpenClaim := { program := "ytgdojoiopfncmaa", sum := "6dfd41c7eabc2aef7ba3193be643031be11fb60423e66a79e197c313bbd7a365", func := "loop.example/g01298/laws.FnExactRegularDegree", spec := "fnExactRegularDegree", apart := false, narrowed := true }
def FnExactRegularDegreeUptoSaid : Prop := fnExactRegularDegreeUptoRow.holds Try.pinned (OpenSpec.upto fnExactRegularDegreeSpec)

/-- 'laws.FnExactLaplacianRows', WHERE WHAT IT READS IS OF BULK AT MOST 1048576: true; the input reads as it did. -/
def fnExactLaplacianRowsUptoRow : OpenClaim := { program := "ytgdojoiopfncmaa", sum := "6dfd41c7eabc2aef7ba3193be643031be11fb60423e66a79e197c313bbd7a365", func := "loop.example/g01298/laws.FnExactLaplacianRows", spec := "fnExactLaplacianRows", apart := false, narrowed := true }
def FnExactLaplacianRowsUptoSaid : Prop := fnExactLaplacianRowsUptoRow.holds Try.pinned (OpenSpec.upto fnExactLaplacianRowsSpec)

/-- 'laws.FnExactCountTurns', WHERE WHAT IT READS IS OF BULK AT MOST 1048576: true; the input reads as it did. -/
def fnExactCountTurnsUptoRow : OpenClaim := { program := "ytgdojoiopfncmaa", sum := "6dfd41c7eabc2aef7ba3193be643031be11fb60423e66a79e197c313bbd7a365", func := "loop.example/g01298/laws.FnExactCountTurns", spec := "fnExactCountTurns", unfollowed := true, recurses := true, apart := false, narrowed := true }
def FnExactCountTurnsUptoSaid : Prop := fnExactCountTurnsUptoRow.holds Try.pinned (OpenSpec.upto fnExactCountTurnsSpec)

/-- 'laws.FnExactIsIsomorphism', WHERE WHAT IT READS IS OF BULK AT MOST 1048576: true; the input reads as it did. -/
def fnExactIsIsomorphismUptoRow : OpenClaim := { program := "ytgdojoiopfncmaa", sum := "6dfd41c7eabc2aef7ba3193be643031be11fb60423e66a79e197c313bbd7a365", func := "loop.example/g01298/laws.FnExactIsIsomorphism", spec := "fnExactIsIsomorphism", apart := false, narrowed := true }
def FnExactIsIsomorphismUptoSaid : Prop := fnExactIsIsomorphismUptoRow.holds Try.pinned (OpenSpec.upto fnExactIsIsomorphismSpec)

/-- 'laws.FnExactWeightOfWalk', WHERE WHAT IT READS IS OF BULK AT MOST 1048576: true; the input reads as it did. -/
def fnExactWeightOfWalkUptoRow : OpenClaim := { program := "ytgdojoiopfncmaa", sum := "6dfd41c7eabc2aef7ba3193be643031be11fb60423e66a79e197c313bbd7a365", func := "loop.example/g01298/laws.FnExactWeightOfWalk", spec := "fnExactWeightOfWalk", unfollowed := true, recurses := true, apart := false, narrowed := true }
def FnExactWeightOfWalkUptoSaid : Prop := fnExactWeightOfWalkUptoRow.holds Try.pinned (OpenSpec.upto fnExactWeightOfWalkSpec)

/-- 'laws.FnExactCodeOf', WHERE WHAT IT READS IS OF BULK AT MOST 1048576: true; the input reads as it did. -/
def fnExactCodeOfUptoRow : OpenClaim := { program := "ytgdojoiopfncmaa", sum := "6dfd41c7eabc2aef7ba3193be643031be11fb60423e66a79e197c313bbd7a365", func := "loop.example/g01298/laws.FnExactCodeOf", spec := "fnExactCodeOf", apart := false, narrowed := true }
def FnExactCodeOfUptoSaid : Prop := fnExactCodeOfUptoRow.holds Try.pinned (OpenSpec.upto fnExactCodeOfSpec)

/-- 'laws.FnExactCountConnected', WHERE WHAT IT READS IS OF BULK AT MOST 1048576: true; the input reads as it did. -/
def fnExactCountConnectedUptoRow : OpenClaim := { program := "ytgdojoiopfncmaa", sum := "6dfd41c7eabc2aef7ba3193be643031be11fb60423e66a79e197c313bbd7a365", func := "loop.example/g01298/laws.FnExactCountConnected", spec := "fnExactCountConnected", unfollowed := true, recurses := true, apart := false, narrowed := true }
def FnExactCountConnectedUptoSaid : Prop := fnExactCountConnectedUptoRow.holds Try.pinned (OpenSpec.upto fnExactCountConnectedSpec)

/-- 'laws.FnExactSpectralSum', WHERE WHAT IT READS IS OF BULK AT MOST 1048576: true; the input reads as it did. -/
def fnExactSpectralSumUptoRow : OpenClaim := { program := "ytgdojoiopfncmaa", sum := "6dfd41c7eabc2aef7ba3193be643031be11fb60423e66a79e197c313bbd7a365", func := "loop.example/g01298/laws.FnExactSpectralSum", spec := "fnExactSpectralSum", unfollowed := true, recurses := true, apart := false, narrowed := true }
def FnExactSpectralSumUptoSaid : Prop := fnExactSpectralSumUptoRow.holds Try.pinned (OpenSpec.upto fnExactSpectralSumSpec)

/-- 'laws.FnExactCountForests', WHERE WHAT IT READS IS OF BULK AT MOST 1048576: true; the input reads as it did. -/
def fnExactCountForestsUptoRow : OpenClaim := { program := "ytgdojoiopfncmaa", sum := "6dfd41c7eabc2aef7ba3193be643031be11fb60423e66a79e197c313bbd7a365", func := "loop.example/g01298/laws.FnExactCountForests", spec := "fnExactCountForests", unfollowed := true, recurses := true, apart := false, narrowed := true }
def FnExactCountForestsUptoSaid : Prop := fnExactCountForestsUptoRow.holds Try.pinned (OpenSpec.upto fnExactCountForestsSpec)

/-- 'laws.FnExactSubsetRank', WHERE WHAT IT READS IS OF BULK AT MOST 1048576: true; the input reads as it did. -/
def fnExactSubsetRankUptoRow : OpenClaim := { program := "ytgdojoiopfncmaa", sum := "6dfd41c7eabc2aef7ba3193be643031be11fb60423e66a79e197c313bbd7a365", func := "loop.example/g01298/laws.FnExactSubsetRank", spec := "fnExactSubsetRank", unfollowed := true, recurses := true, apart := false, narrowed := true }
def FnExactSubsetRankUptoSaid : Prop := fnExactSubsetRankUptoRow.holds Try.pinned (OpenSpec.upto fnExactSubsetRankSpec)

/-- 'laws.FnExactCountAutomorphisms', WHERE WHAT IT READS IS OF BULK AT MOST 1048576: true; the input reads as it did. -/
def fnExactCountAutomorphismsUptoRow : OpenClaim := { program := "ytgdojoiopfncmaa", sum := "6dfd41c7eabc2aef7ba3193be643031be11fb60423e66a79e197c313bbd7a365", func := "loop.example/g01298/laws.FnExactCountAutomorphisms", spec := "fnExactCountAutomorphisms", unfollowed := true, recurses := true, apart := false, narrowed := true }
def FnExactCountAutomorphismsUptoSaid : Prop := fnExactCountAutomorphismsUptoRow.holds Try.pinned (OpenSpec.upto fnExactCountAutomorphismsSpec)

/-- 'laws.FnExactLineGraph', WHERE WHAT IT READS IS OF BULK AT MOST 1048576: true; the input reads as it did. -/
def fnExactLineGraphUptoRow : OpenClaim := { program := "ytgdojoiopfncmaa", sum := "6dfd41c7eabc2aef7ba3193be643031be11fb60423e66a79e197c313bbd7a365", func := "loop.example/g01298/laws.FnExactLineGraph", spec := "fnExactLineGraph", unfollowed := true, recurses := true, apart := false, narrowed := true }
def FnExactLineGraphUptoSaid : Prop := fnExactLineGraphUptoRow.holds Try.pinned (OpenSpec.upto fnExactLineGraphSpec)

/-- 'laws.FnExactEqualWeights', WHERE WHAT IT READS IS OF BULK AT MOST 1048576: true; the input reads as it did. -/
def fnExactEqualWeightsUptoRow : OpenClaim := { program := "ytgdojoiopfncmaa", sum := "6dfd41c7eabc2aef7ba3193be643031be11fb60423e66a79e197c313bbd7a365", func := "loop.example/g01298/laws.FnExactEqualWeights", spec := "fnExactEqualWeights", unfollowed := true, recurses := true, apart := false, narrowed := true }
def FnExactEqualWeightsUptoSaid : Prop := fnExactEqualWeightsUptoRow.holds Try.pinned (OpenSpec.upto fnExactEqualWeightsSpec)

/-- 'laws.FnExactIsTree', WHERE WHAT IT READS IS OF BULK AT MOST 1048576: true; the input reads as it did. -/
def fnExactIsTreeUptoRow : OpenClaim := { program := "ytgdojoiopfncmaa", sum := "6dfd41c7eabc2aef7ba3193be643031be11fb60423e66a79e197c313bbd7a365", func := "loop.example/g01298/laws.FnExactIsTree", spec := "fnExactIsTree", unfollowed := true, recurses := true, apart := false, narrowed := true }
def FnExactIsTreeUptoSaid : Prop := fnExactIsTreeUptoRow.holds Try.pinned (OpenSpec.upto fnExactIsTreeSpec)

/-- 'laws.FnExactAreIsomorphic', WHERE WHAT IT READS IS OF BULK AT MOST 1048576: true; the input reads as it did. -/
def fnExactAreIsomorphicUptoRow : OpenClaim := { program := "ytgdojoiopfncmaa", sum := "6dfd41c7eabc2aef7ba3193be643031be11fb60423e66a79e197c313bbd7a365", func := "loop.example/g01298/laws.FnExactAreIsomorphic", spec := "fnExactAreIsomorphic", unfollowed := true, recurses := true, apart := false, narrowed := true }
def FnExactAreIsomorphicUptoSaid : Prop := fnExactAreIsomorphicUptoRow.holds Try.pinned (OpenSpec.upto fnExactAreIsomorphicSpec)

/-- 'laws.FnExactSubsetTable', WHERE WHAT IT READS IS OF BULK AT MOST 1048576: true; the input reads as it did. -/
def fnExactSubsetTableUptoRow : OpenClaim := { program := "ytgdojoiopfncmaa", sum := "6dfd41c7eabc2aef7ba3193be643031be11fb60423e66a79e197c313bbd7a365", func := "loop.example/g01298/laws.FnExactSubsetTable", spec := "fnExactSubsetTable", unfollowed := true, recurses := true, apart := false, narrowed := true }
def FnExactSubsetTableUptoSaid : Prop := fnExactSubsetTableUptoRow.holds Try.pinned (OpenSpec.upto fnExactSubsetTableSpec)

/-- 'laws.FnExactComplementOf', WHERE WHAT IT READS IS OF BULK AT MOST 1048576: true; the input reads as it did. -/
def fnExactComplementOfUptoRow : OpenClaim := { program := "ytgdojoiopfncmaa", sum := "6dfd41c7eabc2aef7ba3193be643031be11fb60423e66a79e197c313bbd7a365", func := "loop.example/g01298/laws.FnExactComplementOf", spec := "fnExactComplementOf", unfollowed := true, recurses := true, apart := false, narrowed := true }
def FnExactComplementOfUptoSaid : Prop := fnExactComplementOfUptoRow.holds Try.pinned (OpenSpec.upto fnExactComplementOfSpec)

/-- 'laws.FnExactCountColourings', WHERE WHAT IT READS IS OF BULK AT MOST 1048576: true; the input reads as it did. -/
def fnExactCountColouringsUptoRow : OpenClaim := { program := "ytgdojoiopfncmaa", sum := "6dfd41c7eabc2aef7ba3193be643031be11fb60423e66a79e197c313bbd7a365", func := "loop.example/g01298/laws.FnExactCountColourings", spec := "fnExactCountColourings", unfollowed := true, recurses := true, apart := false, narrowed := true }
def FnExactCountColouringsUptoSaid : Prop := fnExactCountColouringsUptoRow.holds Try.pinned (OpenSpec.upto fnExactCountColouringsSpec)

/-- 'laws.FnExactAllWalks', WHERE WHAT IT READS IS OF BULK AT MOST 1048576: true; the input reads as it did. -/
def fnExactAllWalksUptoRow : OpenClaim := { program := "ytgdojoiopfncmaa", sum := "6dfd41c7eabc2aef7ba3193be643031be11fb60423e66a79e197c313bbd7a365", func := "loop.example/g01298/laws.FnExactAllWalks", spec := "fnExactAllWalks", unfollowed := true, recurses := true, apart := false, narrowed := true }
def FnExactAllWalksUptoSaid : Prop := fnExactAllWalksUptoRow.holds Try.pinned (OpenSpec.upto fnExactAllWalksSpec)

/-- 'laws.FnExactChromaticOf', WHERE WHAT IT READS IS OF BULK AT MOST 1048576: true; the input reads as it did. -/
def fnExactChromaticOfUptoRow : OpenClaim := { program := "ytgdojoiopfncmaa", sum := "6dfd41c7eabc2aef7ba3193be643031be11fb60423e66a79e197c313bbd7a365", func := "loop.example/g01298/laws.FnExactChromaticOf", spec := "fnExactChromaticOf", unfollowed := true, recurses := true, apart := false, narrowed := true }
def FnExactChromaticOfUptoSaid : Prop := fnExactChromaticOfUptoRow.holds Try.pinned (OpenSpec.upto fnExactChromaticOfSpec)

/-- 'laws.FnExactDoesSwitch', WHERE WHAT IT READS IS OF BULK AT MOST 1048576: true; the input reads as it did. -/
def fnExactDoesSwitchUptoRow : OpenClaim := { program := "ytgdojoiopfncmaa", sum := "6dfd41c7eabc2aef7ba3193be643031be11fb60423e66a79e197c313bbd7a365", func := "loop.example/g01298/laws.FnExactDoesSwitch", spec := "fnExactDoesSwitch", unfollowed := true, recurses := true, apart := false, narrowed := true }
def FnExactDoesSwitchUptoSaid : Prop := fnExactDoesSwitchUptoRow.holds Try.pinned (OpenSpec.upto fnExactDoesSwitchSpec)

/-- 'laws.FnExactFindIsomorphism', WHERE WHAT IT READS IS OF BULK AT MOST 1048576: true; the input reads as it did. -/
def fnExactFindIsomorphismUptoRow : OpenClaim := { program := "ytgdojoiopfncmaa", sum := "6dfd41c7eabc2aef7ba3193be643031be11fb60423e66a79e197c313bbd7a365", func := "loop.example/g01298/laws.FnExactFindIsomorphism", spec := "fnExactFindIsomorphism", unfollowed := true, recurses := true, apart := false, narrowed := true }
def FnExactFindIsomorphismUptoSaid : Prop := fnExactFindIsomorphismUptoRow.holds Try.pinned (OpenSpec.upto fnExactFindIsomorphismSpec)

/-- 'laws.FnExactTurnTable', WHERE WHAT IT READS IS OF BULK AT MOST 1048576: true; the input reads as it did. -/
def fnExactTurnTableUptoRow : OpenClaim := { program := "ytgdojoiopfncmaa", sum := "6dfd41c7eabc2aef7ba3193be643031be11fb60423e66a79e197c313bbd7a365", func := "loop.example/g01298/laws.FnExactTurnTable", spec := "fnExactTurnTable", unfollowed := true, recurses := true, apart := false, narrowed := true }
def FnExactTurnTableUptoSaid : Prop := fnExactTurnTableUptoRow.holds Try.pinned (OpenSpec.upto fnExactTurnTableSpec)

/-- 'laws.FnExactLeastCode', WHERE WHAT IT READS IS OF BULK AT MOST 1048576: true; the input reads as it did. -/
def fnExactLeastCodeUptoRow : OpenClaim := { program := "ytgdojoiopfncmaa", sum := "6dfd41c7eabc2aef7ba3193be643031be11fb60423e66a79e197c313bbd7a365", func := "loop.example/g01298/laws.FnExactLeastCode", spec := "fnExactLeastCode", unfollowed := true, recurses := true, apart := false, narrowed := true }
def FnExactLeastCodeUptoSaid : Prop := fnExactLeastCodeUptoRow.holds Try.pinned (OpenSpec.upto fnExactLeastCodeSpec)

/-- 'laws.FnExactWeightedCounts', WHERE WHAT IT READS IS OF BULK AT MOST 1048576: true; the input reads as it did. -/
def fnExactWeightedCountsUptoRow : OpenClaim := { program := "ytgdojoiopfncmaa", sum := "6dfd41c7eabc2aef7ba3193be643031be11fb60423e66a79e197c313bbd7a365", func := "loop.example/g01298/laws.FnExactWeightedCounts", spec := "fnExactWeightedCounts", unfollowed := true, recurses := true, apart := false, narrowed := true }
def FnExactWeightedCountsUptoSaid : Prop := fnExactWeightedCountsUptoRow.holds Try.pinned (OpenSpec.upto fnExactWeightedCountsSpec)

/-- 'laws.FnExactSwitchGraph', WHERE WHAT IT READS IS OF BULK AT MOST 1048576: true; the input reads as it did. -/
def fnExactSwitchGraphUptoRow : OpenClaim := { program := "ytgdojoiopfncmaa", sum := "6dfd41c7eabc2aef7ba3193be643031be11fb60423e66a79e197c313bbd7a365", func := "loop.example/g01298/laws.FnExactSwitchGraph", spec := "fnExactSwitchGraph", unfollowed := true, recurses := true, apart := false, narrowed := true }
def FnExactSwitchGraphUptoSaid : Prop := fnExactSwitchGraphUptoRow.holds Try.pinned (OpenSpec.upto fnExactSwitchGraphSpec)

end Rows
end Go.Proofs.Ytgdojoiopfncmaa
