/-
  No cell of these rows narrows 'for every input' (looked for: loops, veiled, ifaces, maps, wideKeys, modest, calm, conditions, laid).
  DERIVED. THE GIVEN ROWS OF THIS SEAT. 8 by the template 'for every input the law returns true; each argument reads behind the call as it read before'; 0 by the template 'total and deterministic' (their statements: YtimdklhkhjpmbaaTotals.lean).
  GIVEN WITH THE SEED: the statements are not yours to turn. If you find one false, say at which input.
  Laid BY PROGRAM, IN A SANDBOX (cutbox-rows.mjs): the forced cells as the released guide's own fill.sh prints them over the translation 047b20e31cf0d6c1… (all of the seat's roots in one cut). By AI agents, Wed Nov 11 2026. No macro, syntax, notation, axiom, sorry.
-/
import Derived.Test.YtimdklhkhjpmbaaChecked
import GoSem.Claim
import GoSem.ClaimJoined
import GoSem.ClaimMapViews
import Derived.JoinedTies
import Derived.KernelRfl
namespace Go.Proofs.Ytimdklhkhjpmbaa
/- THE CELL 'sum', in the pinned program and in every row, IS THE sha256 OF THE DUMP (.gsa) THAT YtimdklhkhjpmbaaProg.lean LOADS. Nothing in Lean hashes anything: it is a label: what it is worth is what the hold of that sum in a sandbox is worth. -/
noncomputable def Try.pinned : Pinned := { name := "ytimdklhkhjpmbaa", sum := "047b20e31cf0d6c107521567e3b0f76eb5cf7cd8e92805f62edbc6f7e5144985", checked := Try.checked }
namespace Rows
def none {H : Type} : Left H := { results := [], args := [] }

/-- 'laws.FnExactSpectrumOf': WHATEVER THE INPUT: true; the input reads as it did. -/
def fnExactSpectrumOfSpec : ChangeSpec := { name := "fnExactSpectrumOf", fn := fun _ => fun
  | [d] => { results := [.lit (.bool true)], args := [d] }
  | _ => none }
def fnExactSpectrumOfRow : OpenClaim := { program := "ytimdklhkhjpmbaa", sum := "047b20e31cf0d6c107521567e3b0f76eb5cf7cd8e92805f62edbc6f7e5144985", func := "loop.example/g01298/laws.FnExactSpectrumOf", spec := "fnExactSpectrumOf", apart := false }
def FnExactSpectrumOfSaid : Prop := fnExactSpectrumOfRow.holds Try.pinned (OpenSpec.ofChange fnExactSpectrumOfSpec)

/-- ITS FALSE NEIGHBOUR: 'it returns false'. Refute it at one input. -/
def fnExactSpectrumOfWrong : ChangeSpec := { name := "fnExactSpectrumOf", fn := fun _ => fun
  | [d] => { results := [.lit (.bool false)], args := [d] }
  | _ => none }
def FnExactSpectrumOfWrongFalsely : Prop := fnExactSpectrumOfRow.holds Try.pinned (OpenSpec.ofChange fnExactSpectrumOfWrong)

/-- 'laws.FnExactCharacteristicOf': WHATEVER THE INPUT: true; the input reads as it did. -/
def fnExactCharacteristicOfSpec : ChangeSpec := { name := "fnExactCharacteristicOf", fn := fun _ => fun
  | [d] => { results := [.lit (.bool true)], args := [d] }
  | _ => none }
def fnExactCharacteristicOfRow : OpenClaim := { program := "ytimdklhkhjpmbaa", sum := "047b20e31cf0d6c107521567e3b0f76eb5cf7cd8e92805f62edbc6f7e5144985", func := "loop.example/g01298/laws.FnExactCharacteristicOf", spec := "fnExactCharacteristicOf", apart := false }
def FnExactCharacteristicOfSaid : Prop := fnExactCharacteristicOfRow.holds Try.pinned (OpenSpec.ofChange fnExactCharacteristicOfSpec)

/-- ITS FALSE NEIGHBOUR: 'it returns false'. Refute it at one input. -/
def fnExactCharacteristicOfWrong : ChangeSpec := { name := "fnExactCharacteristicOf", fn := fun _ => fun
  | [d] => { results := [.lit (.bool false)], args := [d] }
  | _ => none }
def FnExactCharacteristicOfWrongFalsely : Prop := fnExactCharacteristicOfRow.holds Try.pinned (OpenSpec.ofChange fnExactCharacteristicOfWrong)

/-- 'laws.FnExactLaplacianPolynomial': WHATEVER THE INPUT: true; the input reads as it did. -/
def fnExactLaplacianPolynomialSpec : ChangeSpec := { name := "fnExactLaplacianPolynomial", fn := fun _ => fun
  | [d] => { results := [.lit (.bool true)], args := [d] }
  | _ => none }
def fnExactLaplacianPolynomialRow : OpenClaim := { program := "ytimdklhkhjpmbaa", sum := "047b20e31cf0d6c107521567e3b0f76eb5cf7cd8e92805f62edbc6f7e5144985", func := "loop.example/g01298/laws.FnExactLaplacianPolynomial", spec := "fnExactLaplacianPolynomial", apart := false }
def FnExactLaplacianPolynomialSaid : Prop := fnExactLaplacianPolynomialRow.holds Try.pinned (OpenSpec.ofChange fnExactLaplacianPolynomialSpec)

/-- ITS FALSE NEIGHBOUR: 'it returns false'. Refute it at one input. -/
def fnExactLaplacianPolynomialWrong : ChangeSpec := { name := "fnExactLaplacianPolynomial", fn := fun _ => fun
  | [d] => { results := [.lit (.bool false)], args := [d] }
  | _ => none }
def FnExactLaplacianPolynomialWrongFalsely : Prop := fnExactLaplacianPolynomialRow.holds Try.pinned (OpenSpec.ofChange fnExactLaplacianPolynomialWrong)

/-- 'laws.FnExactSquarePolynomial': WHATEVER THE INPUT: true; the input reads as it did. -/
def fnExactSquarePolynomialSpec : ChangeSpec := { name := "fnExactSquarePolynomial", fn := fun _ => fun
  | [d] => { results := [.lit (.bool true)], args := [d] }
  | _ => none }
def fnExactSquarePolynomialRow : OpenClaim := { program := "ytimdklhkhjpmbaa", sum := "047b20e31cf0d6c107521567e3b0f76eb5cf7cd8e92805f62edbc6f7e5144985", func := "loop.example/g01298/laws.FnExactSquarePolynomial", spec := "fnExactSquarePolynomial", apart := false }
def FnExactSquarePolynomialSaid : Prop := fnExactSquarePolynomialRow.holds Try.pinned (OpenSpec.ofChange fnExactSquarePolynomialSpec)

/-- ITS FALSE NEIGHBOUR: 'it returns false'. Refute it at one input. -/
def fnExactSquarePolynomialWrong : ChangeSpec := { name := "fnExactSquarePolynomial", fn := fun _ => fun
  | [d] => { results := [.lit (.bool false)], args := [d] }
  | _ => none }
def FnExactSquarePolynomialWrongFalsely : Prop := fnExactSquarePolynomialRow.holds Try.pinned (OpenSpec.ofChange fnExactSquarePolynomialWrong)

/-- 'laws.FnExactEigenAt': WHATEVER THE INPUT: true; the input reads as it did. -/
def fnExactEigenAtSpec : ChangeSpec := { name := "fnExactEigenAt", fn := fun _ => fun
  | [d1, d2] => { results := [.lit (.bool true)], args := [d1, d2] }
  | _ => none }
def fnExactEigenAtRow : OpenClaim := { program := "ytimdklhkhjpmbaa", sum := "047b20e31cf0d6c107521567e3b0f76eb5cf7cd8e92805f62edbc6f7e5144985", func := "loop.example/g01298/laws.FnExactEigenAt", spec := "fnExactEigenAt", unfollowed := true, recurses := true, apart := false }
def FnExactEigenAtSaid : Prop := fnExactEigenAtRow.holds Try.pinned (OpenSpec.ofChange fnExactEigenAtSpec)

/-- ITS FALSE NEIGHBOUR: 'it returns false'. Refute it at one input. -/
def fnExactEigenAtWrong : ChangeSpec := { name := "fnExactEigenAt", fn := fun _ => fun
  | [d1, d2] => { results := [.lit (.bool false)], args := [d1, d2] }
  | _ => none }
def FnExactEigenAtWrongFalsely : Prop := fnExactEigenAtRow.holds Try.pinned (OpenSpec.ofChange fnExactEigenAtWrong)

/-- 'laws.FnExactEigenAbove': WHATEVER THE INPUT: true; the input reads as it did. -/
def fnExactEigenAboveSpec : ChangeSpec := { name := "fnExactEigenAbove", fn := fun _ => fun
  | [d1, d2] => { results := [.lit (.bool true)], args := [d1, d2] }
  | _ => none }
def fnExactEigenAboveRow : OpenClaim := { program := "ytimdklhkhjpmbaa", sum := "047b20e31cf0d6c107521567e3b0f76eb5cf7cd8e92805f62edbc6f7e5144985", func := "loop.example/g01298/laws.FnExactEigenAbove", spec := "fnExactEigenAbove", unfollowed := true, recurses := true, apart := false }
def FnExactEigenAboveSaid : Prop := fnExactEigenAboveRow.holds Try.pinned (OpenSpec.ofChange fnExactEigenAboveSpec)

/-- ITS FALSE NEIGHBOUR: 'it returns false'. Refute it at one input. -/
def fnExactEigenAboveWrong : ChangeSpec := { name := "fnExactEigenAbove", fn := fun _ => fun
  | [d1, d2] => { results := [.lit (.bool false)], args := [d1, d2] }
  | _ => none }
def FnExactEigenAboveWrongFalsely : Prop := fnExactEigenAboveRow.holds Try.pinned (OpenSpec.ofChange fnExactEigenAboveWrong)

/-- 'laws.FnExactIsSymmetricSpectrum': WHATEVER THE INPUT: true; the input reads as it did. -/
def fnExactIsSymmetricSpectrumSpec : ChangeSpec := { name := "fnExactIsSymmetricSpectrum", fn := fun _ => fun
  | [d] => { results := [.lit (.bool true)], args := [d] }
  | _ => none }
def fnExactIsSymmetricSpectrumRow : OpenClaim := { program := "ytimdklhkhjpmbaa", sum := "047b20e31cf0d6c107521567e3b0f76eb5cf7cd8e92805f62edbc6f7e5144985", func := "loop.example/g01298/laws.FnExactIsSymmetricSpectrum", spec := "fnExactIsSymmetricSpectrum", apart := false }
def FnExactIsSymmetricSpectrumSaid : Prop := fnExactIsSymmetricSpectrumRow.holds Try.pinned (OpenSpec.ofChange fnExactIsSymmetricSpectrumSpec)

/-- ITS FALSE NEIGHBOUR: 'it returns false'. Refute it at one input. -/
def fnExactIsSymmetricSpectrumWrong : ChangeSpec := { name := "fnExactIsSymmetricSpectrum", fn := fun _ => fun
  | [d] => { results := [.lit (.bool false)], args := [d] }
  | _ => none }
def FnExactIsSymmetricSpectrumWrongFalsely : Prop := fnExactIsSymmetricSpectrumRow.holds Try.pinned (OpenSpec.ofChange fnExactIsSymmetricSpectrumWrong)

/-- 'laws.FnExactSignsOfSpectrum': WHATEVER THE INPUT: true; the input reads as it did. -/
def fnExactSignsOfSpectrumSpec : ChangeSpec := { name := "fnExactSignsOfSpectrum", fn := fun _ => fun
  | [d] => { results := [.lit (.bool true)], args := [d] }
  | _ => none }
def fnExactSignsOfSpectrumRow : OpenClaim := { program := "ytimdklhkhjpmbaa", sum := "047b20e31cf0d6c107521567e3b0f76eb5cf7cd8e92805f62edbc6f7e5144985", func := "loop.example/g01298/laws.FnExactSignsOfSpectrum", spec := "fnExactSignsOfSpectrum", apart := false }
def FnExactSignsOfSpectrumSaid : Prop := fnExactSignsOfSpectrumRow.holds Try.pinned (OpenSpec.ofChange fnExactSignsOfSpectrumSpec)

/-- ITS FALSE NEIGHBOUR: 'it returns false'. Refute it at one input. -/
def fnExactSignsOfSpectrumWrong : ChangeSpec := { name := "fnExactSignsOfSpectrum", fn := fun _ => fun
  | [d] => { results := [.lit (.bool false)], args := [d] }
  | _ => none }
def FnExactSignsOfSpectrumWrongFalsely : Prop := fnExactSignsOfSpectrumRow.holds Try.pinned (OpenSpec.ofChange fnExactSignsOfSpectrumWrong)

/- THE SECOND FORM. 'bulk': how many values and letters a reading holds, each counted each time it is reached (what is shared counts as often as it is met; a slice's spare places count too). A statement '..UptoSaid' is the law's where the arguments, and the package variables that the reading takes, are together of bulk at most 1048576: NARROWER than '..Said'. Prove '..Said' where nothing that the law and all that it calls make is longer than what came in: it says more and counts as full. Else prove '..UptoSaid'. A law counts once. -/
mutual
def uptoBulk {H : Type} : DataW H → Nat
  | .lit (.string bytes) => bytes.length + 1
  | .lit _ => 1
  | .nil => 1
  | .ptr d => uptoBulk d + 1
  | .slice elems spare => uptoBulkAll elems + uptoBulkAll spare + 1
  | .agg parts => uptoBulkAll parts + 1
  | .iface _ d => uptoBulk d + 1
  | .map entries => uptoBulkEntries entries + 1
  | .held _ => 1
def uptoBulkAll {H : Type} : List (DataW H) → Nat
  | [] => 0
  | d :: r => uptoBulk d + uptoBulkAll r
def uptoBulkEntries {H : Type} : List (Lit × DataW H) → Nat
  | [] => 0
  | x :: r => uptoBulkEntry x + uptoBulkEntries r
def uptoBulkEntry {H : Type} : Lit × DataW H → Nat
  | (.string bytes, d) => bytes.length + uptoBulk d + 1
  | (_, d) => uptoBulk d + 1
 end
def uptoSmall : (H : Type) → List (DataW H) → Bool := fun _ ds => decide (uptoBulkAll ds ≤ 1048576)
def OpenSpec.upto (s : _root_.Go.ChangeSpec) : _root_.Go.OpenSpec := { _root_.Go.OpenSpec.ofChange s with cond := some uptoSmall }

/-- 'laws.FnExactSpectrumOf', WHERE WHAT IT READS IS OF BULK AT MOST 1048576: true; the input reads as it did. -/
def fnExactSpectrumOfUptoRow : OpenClaim := { program := "ytimdklhkhjpmbaa", sum := "047b20e31cf0d6c107521567e3b0f76eb5cf7cd8e92805f62edbc6f7e5144985", func := "loop.example/g01298/laws.FnExactSpectrumOf", spec := "fnExactSpectrumOf", apart := false, narrowed := true }
def FnExactSpectrumOfUptoSaid : Prop := fnExactSpectrumOfUptoRow.holds Try.pinned (OpenSpec.upto fnExactSpectrumOfSpec)

/-- 'laws.FnExactCharacteristicOf', WHERE WHAT IT READS IS OF BULK AT MOST 1048576: true; the input reads as it did. -/
def fnExactCharacteristicOfUptoRow : OpenClaim := { program := "ytimdklhkhjpmbaa", sum := "047b20e31cf0d6c107521567e3b0f76eb5cf7cd8e92805f62edbc6f7e5144985", func := "loop.example/g01298/laws.FnExactCharacteristicOf", spec := "fnExactCharacteristicOf", apart := false, narrowed := true }
def FnExactCharacteristicOfUptoSaid : Prop := fnExactCharacteristicOfUptoRow.holds Try.pinned (OpenSpec.upto fnExactCharacteristicOfSpec)

/-- 'laws.FnExactLaplacianPolynomial', WHERE WHAT IT READS IS OF BULK AT MOST 1048576: true; the input reads as it did. -/
def fnExactLaplacianPolynomialUptoRow : OpenClaim := { program := "ytimdklhkhjpmbaa", sum := "047b20e31cf0d6c107521567e3b0f76eb5cf7cd8e92805f62edbc6f7e5144985", func := "loop.example/g01298/laws.FnExactLaplacianPolynomial", spec := "fnExactLaplacianPolynomial", apart := false, narrowed := true }
def FnExactLaplacianPolynomialUptoSaid : Prop := fnExactLaplacianPolynomialUptoRow.holds Try.pinned (OpenSpec.upto fnExactLaplacianPolynomialSpec)

/-- 'laws.FnExactSquarePolynomial', WHERE WHAT IT READS IS OF BULK AT MOST 1048576: true; the input reads as it did. -/
def fnExactSquarePolynomialUptoRow : OpenClaim := { program := "ytimdklhkhjpmbaa", sum := "047b20e31cf0d6c107521567e3b0f76eb5cf7cd8e92805f62edbc6f7e5144985", func := "loop.example/g01298/laws.FnExactSquarePolynomial", spec := "fnExactSquarePolynomial", apart := false, narrowed := true }
def FnExactSquarePolynomialUptoSaid : Prop := fnExactSquarePolynomialUptoRow.holds Try.pinned (OpenSpec.upto fnExactSquarePolynomialSpec)

/-- 'laws.FnExactEigenAt', WHERE WHAT IT READS IS OF BULK AT MOST 1048576: true; the input reads as it did. -/
def fnExactEigenAtUptoRow : OpenClaim := { program := "ytimdklhkhjpmbaa", sum := "047b20e31cf0d6c107521567e3b0f76eb5cf7cd8e92805f62edbc6f7e5144985", func := "loop.example/g01298/laws.FnExactEigenAt", spec := "fnExactEigenAt", unfollowed := true, recurses := true, apart := false, narrowed := true }
def FnExactEigenAtUptoSaid : Prop := fnExactEigenAtUptoRow.holds Try.pinned (OpenSpec.upto fnExactEigenAtSpec)

/-- 'laws.FnExactEigenAbove', WHERE WHAT IT READS IS OF BULK AT MOST 1048576: true; the input reads as it did. -/
def fnExactEigenAboveUptoRow : OpenClaim := { program := "ytimdklhkhjpmbaa", sum := "047b20e31cf0d6c107521567e3b0f76eb5cf7cd8e92805f62edbc6f7e5144985", func := "loop.example/g01298/laws.FnExactEigenAbove", spec := "fnExactEigenAbove", unfollowed := true, recurses := true, apart := false, narrowed := true }
def FnExactEigenAboveUptoSaid : Prop := fnExactEigenAboveUptoRow.holds Try.pinned (OpenSpec.upto fnExactEigenAboveSpec)

/-- 'laws.FnExactIsSymmetricSpectrum', WHERE WHAT IT READS IS OF BULK AT MOST 1048576: true; the input reads as it did. -/
def fnExactIsSymmetricSpectrumUptoRow : OpenClaim := { program := "ytimdklhkhjpmbaa", sum := "047b20e31cf0d6c107521567e3b0f76eb5cf7cd8e92805f62edbc6f7e5144985", func := "loop.example/g01298/laws.FnExactIsSymmetricSpectrum", spec := "fnExactIsSymmetricSpectrum", apart := false, narrowed := true }
def FnExactIsSymmetricSpectrumUptoSaid : Prop := fnExactIsSymmetricSpectrumUptoRow.holds Try.pinned (OpenSpec.upto fnExactIsSymmetricSpectrumSpec)

/-- 'laws.FnExactSignsOfSpectrum', WHERE WHAT IT READS IS OF BULK AT MOST 1048576: true; the input reads as it did. -/
def fnExactSignsOfSpectrumUptoRow : OpenClaim := { program := "ytimdklhkhjpmbaa", sum := "047b20e31cf0d6c107521567e3b0f76eb5cf7cd8e92805f62edbc6f7e5144985", func := "loop.example/g01298/laws.FnExactSignsOfSpectrum", spec := "fnExactSignsOfSpectrum", apart := false, narrowed := true }
def FnExactSignsOfSpectrumUptoSaid : Prop := fnExactSignsOfSpectrumUptoRow.holds Try.pinned (OpenSpec.upto fnExactSignsOfSpectrumSpec)

end Rows
end Go.Proofs.Ytimdklhkhjpmbaa
