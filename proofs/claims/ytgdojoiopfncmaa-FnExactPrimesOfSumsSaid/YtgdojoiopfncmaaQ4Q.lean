import Derived.Test.YtgdojoiopfncmaaQ4
import Derived.Test.YtgdojoiopfncmaaXspecPrimesOfSums
import Derived.Test.YtgdojoiopfncmaaXimplPrimesOfSums
/- The primes of sums: both sides come to the same. -/
namespace Go.Proofs.Ytgdojoiopfncmaa.Q
open Go.RowKit Go.Proofs.Ytgdojoiopfncmaa.X Go.Proofs.YtgdojoiopfncmaaW.PrintWords Go.Proofs.YtgdojoiopfncmaaW.PrintLast Go.Proofs.YtgdojoiopfncmaaW.PrintMore
set_option linter.unusedVariables false
set_option linter.unusedSimpArgs false
/-! ### the primes of sums -/
def innQ (sums : List Int) (m : Nat) : Nat → Nat → Int → Option Int
  | 0, i, a => some a
  | d + 1, i, a => if m % i = 0 then (mo a (moeb (m / i)) (sums.getD (i - 1) 0)).bind fun r => innQ sums m d (i + 1) r else innQ sums m d (i + 1) a
theorem tmodN (m i : Nat) : (Int.tmod (m : Int) (i : Int) = 0) ↔ m % i = 0 := by
  rw [← Int.ofNat_tmod]; omega
theorem tdivN (m i : Nat) (hm : m ≤ 1000) : wrap64 (Int.tdiv (m : Int) (i : Int)) = ((m / i : Nat) : Int) := by
  rw [← Int.ofNat_tdiv]
  have := Nat.div_le_self m i
  revert this; generalize m / i = y; intro this
  exact wid (by omega) (by omega)
theorem divPos {m i : Nat} (hm : 0 < m) (hi : 0 < i) (h : m % i = 0) : 1 ≤ m / i := by
  have : i ≤ m := Nat.le_of_dvd hm (Nat.dvd_of_mod_eq_zero h)
  exact Nat.div_pos this hi
theorem pqSpec_i (out sums : List Int) (m : Nat) (hp : 0 < m) (hm : m ≤ sums.length) (hs : sums.length ≤ 24) (h1 : ∀ i, small (sums.getD i 0)) (d : Nat) : ∀ (i : Nat) (a : Int), small a → 0 < i → i + d = m + 1 →
    match innQ sums m d i a with
    | some s => small s ∧ ∀ R, Ev (fun k => spec_PrimesOfSums.l1 k sums out m s ((m + 1 : Nat) : Int)) R → Ev (fun k => spec_PrimesOfSums.l1 k sums out m a i) R
    | none => Ev (fun k => spec_PrimesOfSums.l1 k sums out m a i) ([], 3) := by
  induction d with
  | zero => intro i a ha h0 hi; obtain rfl : i = m + 1 := by omega
            exact ⟨ha, fun R h => h⟩
  | succ d ih =>
    intro i a ha h0 hi
    unfold innQ
    by_cases hd : m % i = 0
    · rw [if_pos hd]
      obtain ⟨ms, e1, _⟩ := moeb_all (m / i) (divPos hp h0 hd) (by have := Nat.div_le_self m i; omega)
      obtain ⟨v, hv, hr⟩ := specMore a (moeb (m / i)) (sums.getD (i - 1) 0) ha ms (h1 _)
      have st : ∀ R, Ev (fun k => if (v, (mo a (moeb (m / i)) (sums.getD (i - 1) 0)).isSome).2 = true then spec_PrimesOfSums.l1 k sums out m v ((i + 1 : Nat) : Int) else some (([] : List Int), 3)) R → Ev (fun k => spec_PrimesOfSums.l1 k sums out m a i) R := by
        intro R h
        refine Ev.step (fun _ => rfl) (evT (by omega) (evF (by omega) (evT ((tmodN m i).2 hd) ?_)))
        rw [tdivN m i (by omega)]
        refine Ev.bind e1 ?_
        rw [wid (x := (i : Int) - 1) (by omega) (by omega), show ((i : Int) - 1) = ((i - 1 : Nat) : Int) by omega, rdn, wnat (n := m + 1) (by omega) (by omega)]
        exact evT (by omega) (evT (by omega) (evB hv h))
      cases hm' : mo a (moeb (m / i)) (sums.getD (i - 1) 0) with
      | none => rw [hm'] at st; exact st _ (evF (by simp) (evN rfl))
      | some r =>
        have := ih (i + 1) r (mo_small hm') (by omega) (by omega)
        rw [hm', hr r hm'] at st
        show match innQ sums m d (i + 1) r with | some s => _ | none => _
        cases hq : innQ sums m d (i + 1) r with
        | none => rw [hq] at this; exact st _ (evT rfl this)
        | some s => rw [hq] at this; exact ⟨this.1, fun R h => st _ (evT rfl (this.2 R h))⟩
    · rw [if_neg hd]
      have := ih (i + 1) a ha (by omega) (by omega)
      have st : ∀ R, Ev (fun k => spec_PrimesOfSums.l1 k sums out m a ((i + 1 : Nat) : Int)) R → Ev (fun k => spec_PrimesOfSums.l1 k sums out m a i) R := by
        intro R h
        refine Ev.step (fun _ => rfl) (evT (by omega) (evF (by omega) (evF (fun e => hd ((tmodN m i).1 e)) ?_)))
        rw [wnat (n := m + 1) (by omega) (by omega)]; exact h
      cases hq : innQ sums m d (i + 1) a with
      | none => rw [hq] at this; exact st _ this
      | some s => rw [hq] at this; exact ⟨this.1, fun R h => st _ (this.2 R h)⟩
theorem pqImpl_i (out sums : List Int) (m : Nat) (hp : 0 < m) (hm : m ≤ sums.length) (hs : sums.length ≤ 24) (h1 : ∀ i, small (sums.getD i 0)) (d : Nat) : ∀ (i : Nat) (a : Int), small a → 0 < i → i + d = m + 1 →
    match innQ sums m d i a with
    | some s => small s ∧ ∀ R, Ev (fun k => impl_PrimesOfSums.l1 k sums out m s true ((m + 1 : Nat) : Int)) R → Ev (fun k => impl_PrimesOfSums.l1 k sums out m a true i) R
    | none => Ev (fun k => impl_PrimesOfSums.l1 k sums out m a true i) ([], 3) := by
  induction d with
  | zero => intro i a ha h0 hi; obtain rfl : i = m + 1 := by omega
            exact ⟨ha, fun R h => h⟩
  | succ d ih =>
    intro i a ha h0 hi
    unfold innQ
    by_cases hd : m % i = 0
    · rw [if_pos hd]
      obtain ⟨ms, _, e1⟩ := moeb_all (m / i) (divPos hp h0 hd) (by have := Nat.div_le_self m i; omega)
      obtain ⟨v, hv, hr⟩ := implMore a (moeb (m / i)) (sums.getD (i - 1) 0) ha ms (h1 _)
      have st : ∀ R, Ev (fun k => impl_PrimesOfSums.l1 k sums out m v (mo a (moeb (m / i)) (sums.getD (i - 1) 0)).isSome ((i + 1 : Nat) : Int)) R → Ev (fun k => impl_PrimesOfSums.l1 k sums out m a true i) R := by
        intro R h
        refine Ev.step (fun _ => rfl) (evT (by omega) (Ev.step (fun _ => rfl) (evF (by omega) (evT ((tmodN m i).2 hd) ?_))))
        rw [tdivN m i (by omega)]
        refine Ev.bind e1 ?_
        rw [wid (x := (i : Int) - 1) (by omega) (by omega), show ((i : Int) - 1) = ((i - 1 : Nat) : Int) by omega, rdn, wnat (n := m + 1) (by omega) (by omega)]
        exact evT (by omega) (evT (by omega) (Ev.bind hv h))
      cases hm' : mo a (moeb (m / i)) (sums.getD (i - 1) 0) with
      | none =>
        rw [hm'] at st
        refine st _ (Ev.step (fun _ => rfl) ?_)
        by_cases hc : ((i + 1 : Nat) : Int) ≤ (m : Int)
        · exact evT hc (Ev.step (fun _ => rfl) (evN rfl))
        · exact evF hc (Ev.step (fun _ => rfl) (evN rfl))
      | some r =>
        have := ih (i + 1) r (mo_small hm') (by omega) (by omega)
        rw [hm', hr r hm'] at st
        show match innQ sums m d (i + 1) r with | some s => _ | none => _
        cases hq : innQ sums m d (i + 1) r with
        | none => rw [hq] at this; exact st _ this
        | some s => rw [hq] at this; exact ⟨this.1, fun R h => st _ (this.2 R h)⟩
    · rw [if_neg hd]
      have := ih (i + 1) a ha (by omega) (by omega)
      have st : ∀ R, Ev (fun k => impl_PrimesOfSums.l1 k sums out m a true ((i + 1 : Nat) : Int)) R → Ev (fun k => impl_PrimesOfSums.l1 k sums out m a true i) R := by
        intro R h
        refine Ev.step (fun _ => rfl) (evT (by omega) (Ev.step (fun _ => rfl) (evF (by omega) (evF (fun e => hd ((tmodN m i).1 e)) ?_))))
        rw [wnat (n := m + 1) (by omega) (by omega)]; exact h
      cases hq : innQ sums m d (i + 1) a with
      | none => rw [hq] at this; exact st _ this
      | some s => rw [hq] at this; exact ⟨this.1, fun R h => st _ (this.2 R h)⟩
theorem pq_o (sums : List Int) (hs : sums.length ≤ 24) (h1 : ∀ i, small (sums.getD i 0)) (d : Nat) : ∀ (m : Nat) (out : List Int), m + d = sums.length + 1 → 0 < m → out.length + 1 = m →
    ∃ r, r.1.length ≤ 1000 ∧ Ev (fun k => spec_PrimesOfSums.l0 k sums out m) r ∧ Ev (fun k => impl_PrimesOfSums.l0 k sums out m) r := by
  induction d with
  | zero =>
    intro m out hm hp ho
    exact ⟨(out, 0), by show out.length ≤ 1000; omega, Ev.step (fun _ => rfl) (evF (by omega) (evN rfl)), Ev.step (fun _ => rfl) (evF (by omega) (evN rfl))⟩
  | succ d ih =>
    intro m out hm hp ho
    have z : small 0 := by unfold small; omega
    have a := pqSpec_i out sums m hp (by omega) hs h1 m 1 0 z (by omega) (by omega)
    have b := pqImpl_i out sums m hp (by omega) hs h1 m 1 0 z (by omega) (by omega)
    cases hq : innQ sums m m 1 0 with
    | none =>
      rw [hq] at a b
      exact ⟨([], 3), by simp, Ev.step (fun _ => rfl) (evT (by omega) a), Ev.step (fun _ => rfl) (evT (by omega) b)⟩
    | some s =>
      rw [hq] at a b
      by_cases hmod : Int.tmod s (m : Int) = 0
      · obtain ⟨r, h0, ha, hb⟩ := ih (m + 1) (out ++ [wrap64 (Int.tdiv s (m : Int))]) (by omega) (by omega) (by simp [ho])
        rw [← wnat (i := m) (n := m + 1) (by omega) (by omega)] at ha hb
        exact ⟨r, h0, Ev.step (fun _ => rfl) (evT (by omega) (a.2 _ (Ev.step (fun _ => rfl) (evF (by omega) (evF (by omega) (evT hmod (evT (by omega) ha))))))),
          Ev.step (fun _ => rfl) (evT (by omega) (b.2 _ (Ev.step (fun _ => rfl) (evF (by omega) (Ev.step (fun _ => rfl) (evF (by omega) (evT hmod (evT (by omega) hb))))))))⟩
      · exact ⟨([], 4), by simp, Ev.step (fun _ => rfl) (evT (by omega) (a.2 _ (Ev.step (fun _ => rfl) (evF (by omega) (evF (by omega) (evF hmod (evN rfl))))))),
          Ev.step (fun _ => rfl) (evT (by omega) (b.2 _ (Ev.step (fun _ => rfl) (evF (by omega) (Ev.step (fun _ => rfl) (evF (by omega) (evF hmod (evN rfl))))))))⟩
theorem pq_both (l : List Int) (hl : l.length ≤ 1048576) : ∃ r, r.1.length ≤ 1000 ∧ Ev (fun k => spec_PrimesOfSums.f k l) r ∧ Ev (fun k => impl_PrimesOfSums.f k l) r := by
  unfold spec_PrimesOfSums.f impl_PrimesOfSums.f
  have a := specSums l hl; have b := implSums l hl
  by_cases h : isSums l = true
  · rw [h] at a b
    obtain ⟨h1, h2⟩ := sums_small h
    obtain ⟨r, h0, ha, hb⟩ := pq_o l h1 (getD_small h2) l.length 1 [] (by omega) (by omega) rfl
    exact ⟨r, h0, Ev.bind a (evT rfl ha), Ev.bind b (evT rfl hb)⟩
  · rw [Bool.eq_false_iff.2 h] at a b
    exact ⟨([], 2), by simp, Ev.bind a (evF (by simp) (evN rfl)), Ev.bind b (evF (by simp) (evN rfl))⟩
end Go.Proofs.Ytgdojoiopfncmaa.Q
