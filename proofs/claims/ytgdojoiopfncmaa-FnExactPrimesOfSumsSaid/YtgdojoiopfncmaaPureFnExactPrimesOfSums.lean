import Derived.Test.YtgdojoiopfncmaaQ4Q
import Derived.Test.YtgdojoiopfncmaaXlawsFnExactPrimesOfSums
/- The statement on PrimesOfSums, of the law's own computation. -/
namespace Go.Proofs.Ytgdojoiopfncmaa.Q
open Go.RowKit Go.Proofs.Ytgdojoiopfncmaa.X Go.Proofs.YtgdojoiopfncmaaW.PrintWords Go.Proofs.YtgdojoiopfncmaaW.PrintLast Go.Proofs.YtgdojoiopfncmaaW.PrintMore
set_option linter.unusedVariables false
theorem FnExactPrimesOfSums (l : List Int) (hm : l.length ≤ 9223372036854775807) (hy : l.length * 8 ≤ 140737488351232) (hw : ∀ x ∈ l, (Lit.int .i64 x).wf = true) : ∃ k, laws_FnExactPrimesOfSums.f k l = some true := by
  apply Ev.rounds
  unfold laws_FnExactPrimesOfSums.f
  by_cases hb : (l.length : Int) > 1048576
  · exact evT hb (evN rfl)
  refine evF hb ?_
  have hl : l.length ≤ 1048576 := by omega
  have hc := toInt64S l (by omega)
  have hs := eqSelf l hl
  obtain ⟨r, h0, ha, hi⟩ := pq_both l hl
  have he := eqSelf r.1 (by omega)
  have m1 := markInt64S l 1 (by omega) (by omega)
  have m2 := markInt64S r.1 1 (by omega) (by omega)
  have m3 := heldInt64S r.1.length 1 (by omega) (by omega)
  have ne : (r.2 != r.2) = false := by simp
  refine Ev.bind hc (Ev.bind ha (Ev.bind hc (Ev.bind hi (Ev.bind he (evT rfl ?_)))))
  refine Ev.step (fun _ => rfl) (evF (by rw [ne]; simp) (Ev.bind hc (Ev.bind hs (evT rfl (Ev.bind m1 (evF (by show ¬ (1 + (l.length : Int) < 0); omega) (Ev.bind he (evT rfl ?_))))))))
  refine Ev.step (fun _ => rfl) (evF (by rw [ne]; simp) (Ev.bind m2 (Ev.bind m3 (evF (by omega) (evT rfl (Ev.bind hc (Ev.bind hi (Ev.bind he (evT rfl ?_)))))))))
  exact Ev.step (fun _ => rfl) (evF (by rw [ne]; simp) (Ev.bind m3 (evF (by omega) (evT rfl (evN rfl)))))
end Go.Proofs.Ytgdojoiopfncmaa.Q
