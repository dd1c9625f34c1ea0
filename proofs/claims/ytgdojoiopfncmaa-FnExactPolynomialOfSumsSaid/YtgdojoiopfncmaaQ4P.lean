import Derived.Test.YtgdojoiopfncmaaQ4
import Derived.Test.YtgdojoiopfncmaaXspecPolynomialOfSums
import Derived.Test.YtgdojoiopfncmaaXimplPolynomialOfSums
/- The polynomial of sums: both sides come to the same. -/
namespace Go.Proofs.Ytgdojoiopfncmaa.Q
open Go.RowKit Go.Proofs.Ytgdojoiopfncmaa.X Go.Proofs.YtgdojoiopfncmaaW.PrintWords Go.Proofs.YtgdojoiopfncmaaW.PrintLast Go.Proofs.YtgdojoiopfncmaaW.PrintMore
set_option linter.unusedVariables false
set_option linter.unusedSimpArgs false
/-! ### the polynomial of sums -/
def innP (out sums : List Int) (m : Nat) : Nat → Nat → Int → Option Int
  | 0, i, a => some a
  | d + 1, i, a => (mo a (out.getD i 0) (sums.getD (m - i - 1) 0)).bind fun r => innP out sums m d (i + 1) r
theorem ppSpec_i (out sums : List Int) (m : Nat) (hm : m ≤ sums.length) (hs : sums.length ≤ 24) (ho : out.length = m) (h1 : ∀ i, small (sums.getD i 0)) (h2 : ∀ i, small (out.getD i 0)) (d : Nat) : ∀ (i : Nat) (a : Int), small a → i + d = m →
    match innP out sums m d i a with
    | some s => small s ∧ ∀ R, Ev (fun k => spec_PolynomialOfSums.l1 k sums out m s m) R → Ev (fun k => spec_PolynomialOfSums.l1 k sums out m a i) R
    | none => Ev (fun k => spec_PolynomialOfSums.l1 k sums out m a i) ([], 3) := by
  induction d with
  | zero => intro i a ha hi; obtain rfl : i = m := by omega
            exact ⟨ha, fun R h => h⟩
  | succ d ih =>
    intro i a ha hi
    unfold innP
    obtain ⟨v, hv, hr⟩ := specMore a (out.getD i 0) (sums.getD (m - i - 1) 0) ha (h2 _) (h1 _)
    have st : ∀ R, Ev (fun k => if (v, (mo a (out.getD i 0) (sums.getD (m - i - 1) 0)).isSome).2 = true then spec_PolynomialOfSums.l1 k sums out m v ((i + 1 : Nat) : Int) else some (([] : List Int), 3)) R → Ev (fun k => spec_PolynomialOfSums.l1 k sums out m a i) R := by
      intro R h
      refine Ev.step (fun _ => rfl) (evT (by omega) (evT (by omega) (evT (by omega) ?_)))
      rw [idx m i (by omega) (by omega), rdn, rdn, wnat (n := m) (by omega) (by omega)]
      exact evT (by omega) (evT (by omega) (evB hv h))
    cases hm' : mo a (out.getD i 0) (sums.getD (m - i - 1) 0) with
    | none => rw [hm'] at st; exact st _ (evF (by simp) (evN rfl))
    | some r =>
      have := ih (i + 1) r (mo_small hm') (by omega)
      rw [hm', hr r hm'] at st
      show match innP out sums m d (i + 1) r with | some s => _ | none => _
      cases hq : innP out sums m d (i + 1) r with
      | none => rw [hq] at this; exact st _ (evT rfl this)
      | some s => rw [hq] at this; exact ⟨this.1, fun R h => st _ (evT rfl (this.2 R h))⟩
theorem ppImpl_i (out sums : List Int) (m : Nat) (hm : m ≤ sums.length) (hs : sums.length ≤ 24) (ho : out.length = m) (h1 : ∀ i, small (sums.getD i 0)) (h2 : ∀ i, small (out.getD i 0)) (d : Nat) : ∀ (i : Nat) (a : Int), small a → i + d = m →
    match innP out sums m d i a with
    | some s => small s ∧ ∀ R, Ev (fun k => impl_PolynomialOfSums.l1 k sums out m s true m) R → Ev (fun k => impl_PolynomialOfSums.l1 k sums out m a true i) R
    | none => Ev (fun k => impl_PolynomialOfSums.l1 k sums out m a true i) ([], 3) := by
  induction d with
  | zero => intro i a ha hi; obtain rfl : i = m := by omega
            exact ⟨ha, fun R h => h⟩
  | succ d ih =>
    intro i a ha hi
    unfold innP
    obtain ⟨v, hv, hr⟩ := implMore a (out.getD i 0) (sums.getD (m - i - 1) 0) ha (h2 _) (h1 _)
    have st : ∀ R, Ev (fun k => impl_PolynomialOfSums.l1 k sums out m v (mo a (out.getD i 0) (sums.getD (m - i - 1) 0)).isSome ((i + 1 : Nat) : Int)) R → Ev (fun k => impl_PolynomialOfSums.l1 k sums out m a true i) R := by
      intro R h
      refine Ev.step (fun _ => rfl) (evT (by omega) (evT rfl (evT (by omega) (evT (by omega) ?_))))
      rw [idx m i (by omega) (by omega), rdn, rdn, wnat (n := m) (by omega) (by omega)]
      exact evT (by omega) (evT (by omega) (Ev.bind hv h))
    cases hm' : mo a (out.getD i 0) (sums.getD (m - i - 1) 0) with
    | none =>
      rw [hm'] at st
      refine st _ (Ev.step (fun _ => rfl) ?_)
      by_cases hc : ((i + 1 : Nat) : Int) < (m : Int)
      · exact evT hc (evF (by simp) (Ev.step (fun _ => rfl) (evN rfl)))
      · exact evF hc (Ev.step (fun _ => rfl) (evN rfl))
    | some r =>
      have := ih (i + 1) r (mo_small hm') (by omega)
      rw [hm', hr r hm'] at st
      show match innP out sums m d (i + 1) r with | some s => _ | none => _
      cases hq : innP out sums m d (i + 1) r with
      | none => rw [hq] at this; exact st _ this
      | some s => rw [hq] at this; exact ⟨this.1, fun R h => st _ (this.2 R h)⟩
theorem pp_o (sums : List Int) (hs : sums.length ≤ 24) (h1 : ∀ i, small (sums.getD i 0)) (d : Nat) : ∀ (m : Nat) (out : List Int), m + d = sums.length + 1 → 0 < m → out.length = m → (∀ i, small (out.getD i 0)) →
    ∃ r, r.1.length ≤ 1000 ∧ Ev (fun k => spec_PolynomialOfSums.l0 k sums out m) r ∧ Ev (fun k => impl_PolynomialOfSums.l0 k sums out m) r := by
  induction d with
  | zero =>
    intro m out hm hp ho h2
    obtain ⟨r, hr, a, b⟩ := trimmed_both out (by omega)
    exact ⟨(r, 0), by show r.length ≤ 1000; omega, Ev.step (fun _ => rfl) (evF (by omega) (Ev.bind a (evN rfl))), Ev.step (fun _ => rfl) (evF (by omega) (Ev.bind b (evN rfl)))⟩
  | succ d ih =>
    intro m out hm hp ho h2
    have z : small 0 := by unfold small; omega
    have a := ppSpec_i out sums m (by omega) hs ho h1 h2 m 0 0 z (by omega)
    have b := ppImpl_i out sums m (by omega) hs ho h1 h2 m 0 0 z (by omega)
    cases hq : innP out sums m m 0 0 with
    | none =>
      rw [hq] at a b
      exact ⟨([], 3), by simp, Ev.step (fun _ => rfl) (evT (by omega) a), Ev.step (fun _ => rfl) (evT (by omega) b)⟩
    | some s =>
      rw [hq] at a b
      by_cases hmod : Int.tmod s (m : Int) = 0
      · obtain ⟨r, h0, ha, hb⟩ := ih (m + 1) (out ++ [wrap64 (Int.tdiv (wrap64 (-s)) (m : Int))]) (by omega) (by omega) (by simp [ho]) (getD_app_small h2 (divSmall m hp a.1))
        rw [← wnat (i := m) (n := m + 1) (by omega) (by omega)] at ha hb
        exact ⟨r, h0, Ev.step (fun _ => rfl) (evT (by omega) (a.2 _ (Ev.step (fun _ => rfl) (evF (by omega) (evF (by omega) (evT hmod (evT (by omega) ha))))))),
          Ev.step (fun _ => rfl) (evT (by omega) (b.2 _ (Ev.step (fun _ => rfl) (evF (by omega) (Ev.step (fun _ => rfl) (evF (by omega) (evT hmod (evT (by omega) hb))))))))⟩
      · exact ⟨([], 4), by simp, Ev.step (fun _ => rfl) (evT (by omega) (a.2 _ (Ev.step (fun _ => rfl) (evF (by omega) (evF (by omega) (evF hmod (evN rfl))))))),
          Ev.step (fun _ => rfl) (evT (by omega) (b.2 _ (Ev.step (fun _ => rfl) (evF (by omega) (Ev.step (fun _ => rfl) (evF (by omega) (evF hmod (evN rfl))))))))⟩
theorem pp_both (l : List Int) (hl : l.length ≤ 1048576) : ∃ r, r.1.length ≤ 1000 ∧ Ev (fun k => spec_PolynomialOfSums.f k l) r ∧ Ev (fun k => impl_PolynomialOfSums.f k l) r := by
  unfold spec_PolynomialOfSums.f impl_PolynomialOfSums.f
  have a := specSums l hl; have b := implSums l hl
  by_cases h : isSums l = true
  · rw [h] at a b
    obtain ⟨h1, h2⟩ := sums_small h
    obtain ⟨r, h0, ha, hb⟩ := pp_o l h1 (getD_small h2) l.length 1 [1] (by omega) (by omega) rfl one_small
    exact ⟨r, h0, Ev.bind a (evT rfl ha), Ev.bind b (evT rfl hb)⟩
  · rw [Bool.eq_false_iff.2 h] at a b
    exact ⟨([], 2), by simp, Ev.bind a (evF (by simp) (evN rfl)), Ev.bind b (evF (by simp) (evN rfl))⟩
end Go.Proofs.Ytgdojoiopfncmaa.Q
