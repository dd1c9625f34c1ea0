/-
  No cell of these rows narrows 'for every input' (looked for: loops, veiled, ifaces, maps, wideKeys, modest, calm, conditions, laid).
  DERIVED. THE GIVEN ROWS OF THIS SEAT. 6 by the template 'for every input the law returns true; each argument reads behind the call as it read before'; 0 by the template 'total and deterministic' (their statements: YtoafnnnipmdimaaTotals.lean).
  GIVEN WITH THE SEED: the statements are not yours to turn. If you find one false, say at which input.
  Laid BY PROGRAM, IN A SANDBOX (cutbox-rows.mjs): the forced cells as the released guide's own fill.sh prints them over the translation 254541452376f903… (all of the seat's roots in one cut). By AI agents, Wed Nov 11 2026. No macro, syntax, notation, axiom, sorry.
-/
import Derived.Test.YtoafnnnipmdimaaChecked
import GoSem.Claim
import GoSem.ClaimJoined
import GoSem.ClaimMapViews
import Derived.JoinedTies
import Derived.KernelRfl
namespace Go.Proofs.Ytoafnnnipmdimaa
/- THE CELL 'sum', in the pinned program and in every row, IS THE sha256 OF THE DUMP (.gsa) THAT YtoafnnnipmdimaaProg.lean LOADS. Nothing in Lean hashes anything: it is a label: what it is worth is what the hold of that sum in a sandbox is worth. -/
noncomputable def Try.pinned : Pinned := { name := "ytoafnnnipmdimaa", sum := "254541452376f903e591f2d90423e7650965f01fd2d03db84c43c8d243564f6b", checked := Try.checked }
namespace Rows
def none {H : Type} : Left H := { results := [], args := [] }

/-- 'laws.FnExactIsIsomorphism': WHATEVER THE INPUT: true; the input reads as it did. -/
def fnExactIsIsomorphismSpec : ChangeSpec := { name := "fnExactIsIsomorphism", fn := fun _ => fun
  | [d1, d2, d3] => { results := [.lit (.bool true)], args := [d1, d2, d3] }
  | _ => none }
def fnExactIsIsomorphismRow : OpenClaim := { program := "ytoafnnnipmdimaa", sum := "254541452376f903e591f2d90423e7650965f01fd2d03db84c43c8d243564f6b", func := "loop.example/g01298/laws.FnExactIsIsomorphism", spec := "fnExactIsIsomorphism", apart := false }
def FnExactIsIsomorphismSaid : Prop := fnExactIsIsomorphismRow.holds Try.pinned (OpenSpec.ofChange fnExactIsIsomorphismSpec)

/-- ITS FALSE NEIGHBOUR: 'it returns false'. Refute it at one input. -/
def fnExactIsIsomorphismWrong : ChangeSpec := { name := "fnExactIsIsomorphism", fn := fun _ => fun
  | [d1, d2, d3] => { results := [.lit (.bool false)], args := [d1, d2, d3] }
  | _ => none }
def FnExactIsIsomorphismWrongFalsely : Prop := fnExactIsIsomorphismRow.holds Try.pinned (OpenSpec.ofChange fnExactIsIsomorphismWrong)

/-- 'laws.FnExactSpectralSum': WHATEVER THE INPUT: true; the input reads as it did. -/
def fnExactSpectralSumSpec : ChangeSpec := { name := "fnExactSpectralSum", fn := fun _ => fun
  | [d1, d2] => { results := [.lit (.bool true)], args := [d1, d2] }
  | _ => none }
def fnExactSpectralSumRow : OpenClaim := { program := "ytoafnnnipmdimaa", sum := "254541452376f903e591f2d90423e7650965f01fd2d03db84c43c8d243564f6b", func := "loop.example/g01298/laws.FnExactSpectralSum", spec := "fnExactSpectralSum", unfollowed := true, recurses := true, apart := false }
def FnExactSpectralSumSaid : Prop := fnExactSpectralSumRow.holds Try.pinned (OpenSpec.ofChange fnExactSpectralSumSpec)

/-- ITS FALSE NEIGHBOUR: 'it returns false'. Refute it at one input. -/
def fnExactSpectralSumWrong : ChangeSpec := { name := "fnExactSpectralSum", fn := fun _ => fun
  | [d1, d2] => { results := [.lit (.bool false)], args := [d1, d2] }
  | _ => none }
def FnExactSpectralSumWrongFalsely : Prop := fnExactSpectralSumRow.holds Try.pinned (OpenSpec.ofChange fnExactSpectralSumWrong)

/-- 'laws.FnExactComplementOf': WHATEVER THE INPUT: true; the input reads as it did. -/
def fnExactComplementOfSpec : ChangeSpec := { name := "fnExactComplementOf", fn := fun _ => fun
  | [d] => { results := [.lit (.bool true)], args := [d] }
  | _ => none }
def fnExactComplementOfRow : OpenClaim := { program := "ytoafnnnipmdimaa", sum := "254541452376f903e591f2d90423e7650965f01fd2d03db84c43c8d243564f6b", func := "loop.example/g01298/laws.FnExactComplementOf", spec := "fnExactComplementOf", unfollowed := true, recurses := true, apart := false }
def FnExactComplementOfSaid : Prop := fnExactComplementOfRow.holds Try.pinned (OpenSpec.ofChange fnExactComplementOfSpec)

/-- ITS FALSE NEIGHBOUR: 'it returns false'. Refute it at one input. -/
def fnExactComplementOfWrong : ChangeSpec := { name := "fnExactComplementOf", fn := fun _ => fun
  | [d] => { results := [.lit (.bool false)], args := [d] }
  | _ => none }
def FnExactComplementOfWrongFalsely : Prop := fnExactComplementOfRow.holds Try.pinned (OpenSpec.ofChange fnExactComplementOfWrong)

/-- 'laws.FnExactWeightedCounts': WHATEVER THE INPUT: true; the input reads as it did. -/
def fnExactWeightedCountsSpec : ChangeSpec := { name := "fnExactWeightedCounts", fn := fun _ => fun
  | [d1, d2, d3, d4] => { results := [.lit (.bool true)], args := [d1, d2, d3, d4] }
  | _ => none }
def fnExactWeightedCountsRow : OpenClaim := { program := "ytoafnnnipmdimaa", sum := "254541452376f903e591f2d90423e7650965f01fd2d03db84c43c8d243564f6b", func := "loop.example/g01298/laws.FnExactWeightedCounts", spec := "fnExactWeightedCounts", unfollowed := true, recurses := true, apart := false }
def FnExactWeightedCountsSaid : Prop := fnExactWeightedCountsRow.holds Try.pinned (OpenSpec.ofChange fnExactWeightedCountsSpec)

/-- ITS FALSE NEIGHBOUR: 'it returns false'. Refute it at one input. -/
def fnExactWeightedCountsWrong : ChangeSpec := { name := "fnExactWeightedCounts", fn := fun _ => fun
  | [d1, d2, d3, d4] => { results := [.lit (.bool false)], args := [d1, d2, d3, d4] }
  | _ => none }
def FnExactWeightedCountsWrongFalsely : Prop := fnExactWeightedCountsRow.holds Try.pinned (OpenSpec.ofChange fnExactWeightedCountsWrong)

/-- 'laws.FnExactEqualWeights': WHATEVER THE INPUT: true; the input reads as it did. -/
def fnExactEqualWeightsSpec : ChangeSpec := { name := "fnExactEqualWeights", fn := fun _ => fun
  | [d1, d2, d3] => { results := [.lit (.bool true)], args := [d1, d2, d3] }
  | _ => none }
def fnExactEqualWeightsRow : OpenClaim := { program := "ytoafnnnipmdimaa", sum := "254541452376f903e591f2d90423e7650965f01fd2d03db84c43c8d243564f6b", func := "loop.example/g01298/laws.FnExactEqualWeights", spec := "fnExactEqualWeights", unfollowed := true, recurses := true, apart := false }
def FnExactEqualWeightsSaid : Prop := fnExactEqualWeightsRow.holds Try.pinned (OpenSpec.ofChange fnExactEqualWeightsSpec)

/-- ITS FALSE NEIGHBOUR: 'it returns false'. Refute it at one input. -/
def fnExactEqualWeightsWrong : ChangeSpec := { name := "fnExactEqualWeights", fn := fun _ => fun
  | [d1, d2, d3] => { results := [.lit (.bool false)], args := [d1, d2, d3] }
  | _ => none }
def FnExactEqualWeightsWrongFalsely : Prop := fnExactEqualWeightsRow.holds Try.pinned (OpenSpec.ofChange fnExactEqualWeightsWrong)

/-- 'laws.FnExactCountAutomorphisms': WHATEVER THE INPUT: true; the input reads as it did. -/
def fnExactCountAutomorphismsSpec : ChangeSpec := { name := "fnExactCountAutomorphisms", fn := fun _ => fun
  | [d] => { results := [.lit (.bool true)], args := [d] }
  | _ => none }
def fnExactCountAutomorphismsRow : OpenClaim := { program := "ytoafnnnipmdimaa", sum := "254541452376f903e591f2d90423e7650965f01fd2d03db84c43c8d243564f6b", func := "loop.example/g01298/laws.FnExactCountAutomorphisms", spec := "fnExactCountAutomorphisms", unfollowed := true, recurses := true, apart := false }
def FnExactCountAutomorphismsSaid : Prop := fnExactCountAutomorphismsRow.holds Try.pinned (OpenSpec.ofChange fnExactCountAutomorphismsSpec)

/-- ITS FALSE NEIGHBOUR: 'it returns false'. Refute it at one input. -/
def fnExactCountAutomorphismsWrong : ChangeSpec := { name := "fnExactCountAutomorphisms", fn := fun _ => fun
  | [d] => { results := [.lit (.bool false)], args := [d] }
  | _ => none }
def FnExactCountAutomorphismsWrongFalsely : Prop := fnExactCountAutomorphismsRow.holds Try.pinned (OpenSpec.ofChange fnExactCountAutomorphismsWrong)

/- THE SECOND FORM. 'bulk': how many values and letters a reading holds, each counted each time it is reached (what is shared counts as often as it is met; a slice's spare places count too). A statement '..UptoSaid' is the law's where the arguments, and the package variables that the reading takes, are together of bulk at most 1048576: NARROWER than '..Said'. Prove '..Said' where nothing that the law and all that it calls make is longer than what came in: it says more and counts as full. Else prove '..UptoSaid'. A law counts once. -/
mutual
def uptoBulk {H : Type} : DataW H → Nat
  | .lit (.string bytes) => bytes.length + 1
  | .lit _ => 1
  | .nil => 1
  | .ptr d => uptoBulk d + 1
  | .slice elems spare => uptoBulkAll elems + uptoBulkAll spare + 1
  | .agg parts => uptoBulkAll parts + 1
  | .iface _ d => uptoBulk d + 1
  | .map entries => uptoBulkEntries entries + 1
  | .held _ => 1
def uptoBulkAll {H : Type} : List (DataW H) → Nat
  | [] => 0
  | d :: r => uptoBulk d + uptoBulkAll r
def uptoBulkEntries {H : Type} : List (Lit × DataW H) → Nat
  | [] => 0
  | x :: r => uptoBulkEntry x + uptoBulkEntries r
def uptoBulkEntry {H : Type} : Lit × DataW H → Nat
  | (.string bytes, d) => bytes.length + uptoBulk d + 1
  | (_, d) => uptoBulk d + 1
 end
def uptoSmall : (H : Type) → List (DataW H) → Bool := fun _ ds => decide (uptoBulkAll ds ≤ 1048576)
def OpenSpec.upto (s : _root_.Go.ChangeSpec) : _root_.Go.OpenSpec := { _root_.Go.OpenSpec.ofChange s with cond := some uptoSmall }

/-- 'laws.FnExactIsIsomorphism', WHERE WHAT IT READS IS OF BULK AT MOST 1048576: true; the input reads as it did. -/
def fnExactIsIsomorphismUptoRow : OpenClaim := { program := "ytoafnnnipmdimaa", sum := "254541452376f903e591f2d90423e7650965f01fd2d03db84c43c8d243564f6b", func := "loop.example/g01298/laws.FnExactIsIsomorphism", spec := "fnExactIsIsomorphism", apart := false, narrowed := true }
def FnExactIsIsomorphismUptoSaid : Prop := fnExactIsIsomorphismUptoRow.holds Try.pinned (OpenSpec.upto fnExactIsIsomorphismSpec)

/-- 'laws.FnExactSpectralSum', WHERE WHAT IT READS IS OF BULK AT MOST 1048576: true; the input reads as it did. -/
def fnExactSpectralSumUptoRow : OpenClaim := { program := "ytoafnnnipmdimaa", sum := "254541452376f903e591f2d90423e7650965f01fd2d03db84c43c8d243564f6b", func := "loop.example/g01298/laws.FnExactSpectralSum", spec := "fnExactSpectralSum", unfollowed := true, recurses := true, apart := false, narrowed := true }
def FnExactSpectralSumUptoSaid : Prop := fnExactSpectralSumUptoRow.holds Try.pinned (OpenSpec.upto fnExactSpectralSumSpec)

/-- 'laws.FnExactComplementOf', WHERE WHAT IT READS IS OF BULK AT MOST 1048576: true; the input reads as it did. -/
def fnExactComplementOfUptoRow : OpenClaim := { program := "ytoafnnnipmdimaa", sum := "254541452376f903e591f2d90423e7650965f01fd2d03db84c43c8d243564f6b", func := "loop.example/g01298/laws.FnExactComplementOf", spec := "fnExactComplementOf", unfollowed := true, recurses := true, apart := false, narrowed := true }
def FnExactComplementOfUptoSaid : Prop := fnExactComplementOfUptoRow.holds Try.pinned (OpenSpec.upto fnExactComplementOfSpec)

/-- 'laws.FnExactWeightedCounts', WHERE WHAT IT READS IS OF BULK AT MOST 1048576: true; the input reads as it did. -/
def fnExactWeightedCountsUptoRow : OpenClaim := { program := "ytoafnnnipmdimaa", sum := "254541452376f903e591f2d90423e7650965f01fd2d03db84c43c8d243564f6b", func := "loop.example/g01298/laws.FnExactWeightedCounts", spec := "fnExactWeightedCounts", unfollowed := true, recurses := true, apart := false, narrowed := true }
def FnExactWeightedCountsUptoSaid : Prop := fnExactWeightedCountsUptoRow.holds Try.pinned (OpenSpec.upto fnExactWeightedCountsSpec)

/-- 'laws.FnExactEqualWeights', WHERE WHAT IT READS IS OF BULK AT MOST 1048576: true; the input reads as it did. -/
def fnExactEqualWeightsUptoRow : OpenClaim := { program := "ytoafnnnipmdimaa", sum := "254541452376f903e591f2d90423e7650965f01fd2d03db84c43c8d243564f6b", func := "loop.example/g01298/laws.FnExactEqualWeights", spec := "fnExactEqualWeights", unfollowed := true, recurses := true, apart := false, narrowed := true }
def FnExactEqualWeightsUptoSaid : Prop := fnExactEqualWeightsUptoRow.holds Try.pinned (OpenSpec.upto fnExactEqualWeightsSpec)

/-- 'laws.FnExactCountAutomorphisms', WHERE WHAT IT READS IS OF BULK AT MOST 1048576: true; the input reads as it did. -/
def fnExactCountAutomorphismsUptoRow : OpenClaim := { program := "ytoafnnnipmdimaa", sum := "254541452376f903e591f2d90423e7650965f01fd2d03db84c43c8d243564f6b", func := "loop.example/g01298/laws.FnExactCountAutomorphisms", spec := "fnExactCountAutomorphisms", unfollowed := true, recurses := true, apart := false, narrowed := true }
def FnExactCountAutomorphismsUptoSaid : Prop := fnExactCountAutomorphismsUptoRow.holds Try.pinned (OpenSpec.upto fnExactCountAutomorphismsSpec)

end Rows
end Go.Proofs.Ytoafnnnipmdimaa
