import Derived.Test.YtgdojoiopfncmaaQ2
import Derived.Test.YtgdojoiopfncmaaXlawsFnExactDegreeProduct
/- The products of all degrees less one are the same. -/
namespace Go.Proofs.Ytgdojoiopfncmaa.Q
open Go.RowKit Go.Proofs.Ytgdojoiopfncmaa.X Go.Proofs.YtgdojoiopfncmaaW.PrintWords Go.Proofs.YtgdojoiopfncmaaW.PrintLast Go.Proofs.YtgdojoiopfncmaaW.PrintMore
set_option linter.unusedVariables false
def prodFrom (P : List (Nat × Nat)) : Nat → Nat → Int → Int
  | 0, _, a => a
  | d + 1, v, a => prodFrom P d (v + 1) (wrap64 (a * wrap64 ((degN P v : Int) - 1)))
theorem dpSpec_l (N : Nat) (P : List (Nat × Nat)) (g : G8 N P) (d : Nat) : ∀ (v : Nat) (a : Int), v + d = N → Ev (fun k => spec_DegreeProduct.l0 k a (v : Int) (N : Int) (edg P)) (prodFrom P d v a, 0) := by
  have h8 := g.hi; have h10 := g.len
  induction d with
  | zero => intro v a hv; exact Ev.step (fun _ => rfl) (evF (by omega) (evN rfl))
  | succ d ih =>
    intro v a hv
    refine Ev.step (fun _ => rfl) (evT (by omega) (Ev.bind (degSpec (N : Int) P (by omega) v) ?_))
    rw [wnat (n := N) (by omega) (by omega)]
    exact ih (v + 1) _ (by omega)
theorem dpImpl_l (N : Nat) (P : List (Nat × Nat)) (g : G8 N P) (d : Nat) : ∀ (v : Nat) (a : Int), v + d = N → Ev (fun k => impl_DegreeProduct.l0 k a (degs N P) (N : Int) (v : Int)) (prodFrom P d v a, 0) := by
  have h8 := g.hi
  induction d with
  | zero => intro v a hv; exact Ev.step (fun _ => rfl) (evF (by omega) (evN rfl))
  | succ d ih =>
    intro v a hv
    refine Ev.step (fun _ => rfl) (evT (by omega) (evT (by omega) (evT (by rw [degs_length]; omega) ?_)))
    rw [wnat (n := N) (by omega) (by omega), degs_at _ _ _ (by omega)]
    exact ih (v + 1) _ (by omega)
theorem dp_both (n : Int) (E : List (List Int)) (hE : E.length ≤ 1048576) : ∃ r, Ev (fun k => spec_DegreeProduct.f k n E) r ∧ Ev (fun k => impl_DegreeProduct.f k n E) r := by
  have h1 := isSpec n E hE; have h2 := isImpl n E hE
  unfold spec_DegreeProduct.f impl_DegreeProduct.f
  by_cases h : VG n E = true
  · rw [h] at h1 h2
    obtain ⟨N, P, rfl, rfl, g⟩ := VG_true h
    refine ⟨_, Ev.bind h1 (evT rfl (dpSpec_l N P g N 0 1 (by omega))), Ev.bind h2 (evT rfl (Ev.bind (degImpl P N g) ?_))⟩
    rw [degs_length]
    exact dpImpl_l N P g N 0 1 (by omega)
  · rw [Bool.eq_false_iff.2 h] at h1 h2
    exact ⟨(0, 1), Ev.bind h1 (evF (by simp) (evN rfl)), Ev.bind h2 (evF (by simp) (evN rfl))⟩
theorem FnExactDegreeProduct (n : Int) (E : List (List Int)) (hn : (Lit.int .i64 n).wf = true) (hE : E.length ≤ 9223372036854775807) (ha : ∀ l ∈ E, l.length ≤ 9223372036854775807 ∧ ∀ x ∈ l, (Lit.int .i64 x).wf = true) : ∃ k, laws_FnExactDegreeProduct.f k n E = some true := by
  apply Ev.rounds
  unfold laws_FnExactDegreeProduct.f
  obtain ⟨t, ht, hp⟩ := szGraph n E hE (fun l hl => (ha l hl).1)
  refine Ev.bind ht ?_
  rcases hp with hp | ⟨_, _, h1, h2⟩
  · exact evT hp (evN rfl)
  · refine evF (by omega) ?_
    have hG := toGraph n E h1 h2
    obtain ⟨r, hs, hi⟩ := dp_both n E h1
    refine Ev.bind hG (Ev.bind hs (Ev.bind hG (Ev.bind hi (evT rfl ?_))))
    refine Ev.step (fun _ => rfl) (evF (by simp) (Ev.bind hG (Ev.bind (eqGraph_self n E h1 h2) (evT rfl (evN rfl)))))
end Go.Proofs.Ytgdojoiopfncmaa.Q
