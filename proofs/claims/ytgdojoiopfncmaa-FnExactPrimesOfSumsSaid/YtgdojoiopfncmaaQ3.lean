import Derived.Test.YtgdojoiopfncmaaQ0
import Derived.Test.YtgdojoiopfncmaaXspecl01More
import Derived.Test.YtgdojoiopfncmaaXimplplusTimes
import Derived.Test.YtgdojoiopfncmaaXspecl01Poly
import Derived.Test.YtgdojoiopfncmaaXimplIsWhole
import Derived.Test.YtgdojoiopfncmaaXspecl09Sums
import Derived.Test.YtgdojoiopfncmaaXimplareSums
/- Sums of products under a bound, and both tests whether a list is a polynomial or a list of sums. -/
namespace Go.Proofs.Ytgdojoiopfncmaa.Q
open Go.RowKit Go.Proofs.Ytgdojoiopfncmaa.X Go.Proofs.YtgdojoiopfncmaaW.PrintWords Go.Proofs.YtgdojoiopfncmaaW.PrintLast Go.Proofs.YtgdojoiopfncmaaW.PrintMore
set_option linter.unusedVariables false
set_option linter.unusedSimpArgs false

def small (x : Int) : Prop := -1000000000000000 ≤ x ∧ x ≤ 1000000000000000
instance (x : Int) : Decidable (small x) := by unfold small; infer_instance
theorem absN {x : Int} (h : -9000000000000000000 ≤ x ∧ x ≤ 9000000000000000000) : mx x (wrap64 (-x)) = x.natAbs := by
  rw [wid (by omega) (by omega)]; unfold mx; split <;> omega
/-- a plus b times c, and whether all went below the bound. -/
def mo (a b c : Int) : Option Int := if (b * c).natAbs ≤ 1000000000000000 then (if small (a + b * c) then some (a + b * c) else none) else none
theorem mo_small {a b c r : Int} (h : mo a b c = some r) : small r := by
  unfold mo at h; split at h
  · split at h
    · rename_i h2; cases h; exact h2
    · cases h
  · cases h
theorem smIn (x : Int) : spec_l01In.f x (-1000000000000000) 1000000000000000 = some (decide (small x)) := by
  unfold spec_l01In.f
  by_cases h1 : x ≥ -1000000000000000
  · rw [if_pos h1]; exact congrArg some (decide_eq_decide.2 ⟨fun h => ⟨h1, h⟩, fun h => h.2⟩)
  · rw [if_neg h1]; exact congrArg some (decide_eq_false (fun h => h1 h.1)).symm
theorem smImpl (x : Int) : impl_isSmall.f x = some (decide (small x)) := by
  unfold impl_isSmall.f impl_within.f
  by_cases h1 : x ≥ -1000000000000000
  · rw [if_pos h1]; exact congrArg some (decide_eq_decide.2 ⟨fun h => ⟨h1, h⟩, fun h => h.2⟩)
  · rw [if_neg h1]; exact congrArg some (decide_eq_false (fun h => h1 h.1)).symm
theorem tdivB (q : Nat) (hq : 0 < q) : wrap64 (Int.tdiv (1000000000000000 : Int) (q : Int)) = ((1000000000000000 / q : Nat) : Int) := by
  have : Int.tdiv (1000000000000000 : Int) (q : Int) = ((1000000000000000 / q : Nat) : Int) := (Int.ofNat_tdiv 1000000000000000 q).symm
  rw [this]
  have : 1000000000000000 / q ≤ 1000000000000000 := Nat.div_le_self _ _
  revert this
  generalize 1000000000000000 / q = y
  intro this
  exact wid (by omega) (by omega)
theorem gtDiv (p q : Nat) (hq : 0 < q) : ((p : Int) > ((1000000000000000 / q : Nat) : Int)) ↔ ¬ (p * q ≤ 1000000000000000) := by
  rw [← Nat.le_div_iff_mul_le hq]; omega
theorem prodBound {b c : Int} (h : (b * c).natAbs ≤ 1000000000000000) : -1000000000000000 ≤ b * c ∧ b * c ≤ 1000000000000000 := by omega
/-- What the words for adding a product answer: the sum and true, or something and false. -/
theorem specMore (a b c : Int) (ha : small a) (hb : small b) (hc : small c) : ∃ v : Int, spec_l01More.f a b c = some (v, (mo a b c).isSome) ∧ (∀ r, mo a b c = some r → v = r) := by
  unfold small at ha hb hc
  unfold spec_l01More.f mo
  by_cases h0 : b = 0
  · subst h0
    rw [if_pos rfl, Int.zero_mul, wid (x := 0) (by omega) (by omega), wid (by omega) (by omega), smIn]
    have : small (a + 0) := by unfold small; omega
    refine ⟨a + 0, ?_, ?_⟩
    · simp only [Option.bind_some]; rw [if_pos (by simp), if_pos this, decide_eq_true this]; rfl
    · intro r; rw [if_pos (by simp), if_pos this]; intro h; cases h; rfl
  · rw [if_neg h0, absN (by omega), absN (by omega), if_neg (by omega), tdivB _ (by omega)]
    have ec : c.natAbs * b.natAbs = (b * c).natAbs := by rw [Int.natAbs_mul, Nat.mul_comm]
    by_cases h : (b * c).natAbs ≤ 1000000000000000
    · rw [if_neg (by rw [gtDiv _ _ (by omega), ec]; omega)]
      have := prodBound h
      rw [wid (x := b * c) (by omega) (by omega), wid (by omega) (by omega), smIn, if_pos h]
      refine ⟨a + b * c, ?_, ?_⟩
      · by_cases hs : small (a + b * c) <;> simp [hs]
      · intro r; split <;> simp
    · rw [if_pos (by rw [gtDiv _ _ (by omega), ec]; omega), if_neg h]
      exact ⟨0, rfl, fun r h => by cases h⟩
theorem implMore (a b c : Int) (ha : small a) (hb : small b) (hc : small c) : ∃ v : Int, Ev (fun k => impl_plusTimes.f k a b c) (v, (mo a b c).isSome) ∧ (∀ r, mo a b c = some r → v = r) := by
  unfold small at ha hb hc
  have z : ∀ x : Bool, x = true → (b = 0 ∨ c = 0) → ∃ v : Int, Ev (fun k => impl_plusTimes.j0 k a b c x) (v, (mo a b c).isSome) ∧ (∀ r, mo a b c = some r → v = r) := by
    intro x hx hz
    have e : b * c = 0 := by rcases hz with rfl | rfl <;> simp
    have : small (a + 0) := by unfold small; omega
    refine ⟨a, Ev.step (fun _ => rfl) (evT hx (evN ?_)), ?_⟩
    · unfold mo; rw [e, if_pos (by simp), if_pos this]; rfl
    · intro r; unfold mo; rw [e, if_pos (by simp), if_pos this]; intro h; cases h; omega
  unfold impl_plusTimes.f
  by_cases h0 : b = 0
  · obtain ⟨v, h1, h2⟩ := z true rfl (.inl h0)
    exact ⟨v, evT h0 h1, h2⟩
  · by_cases h0' : c = 0
    · obtain ⟨v, h1, h2⟩ := z (c == 0) (by simp [h0']) (.inr h0')
      exact ⟨v, evF h0 h1, h2⟩
    · unfold mo
      have A1 : impl_absolute.f b = some (b.natAbs : Int) := by unfold impl_absolute.f; rw [absN (by omega)]
      have A2 : impl_absolute.f c = some (c.natAbs : Int) := by unfold impl_absolute.f; rw [absN (by omega)]
      by_cases h : (b * c).natAbs ≤ 1000000000000000
      · have := prodBound h
        refine ⟨a + b * c, evF h0 (Ev.step (fun _ => rfl) (evF (by simp [h0']) (evB A1 (evB A2 (evF (by omega) (evF ?_ ?_)))))), ?_⟩
        · rw [tdivB _ (by omega), gtDiv _ _ (by omega), ← Int.natAbs_mul]; omega
        · rw [wid (x := b * c) (by omega) (by omega), wid (by omega) (by omega), smImpl, if_pos h]
          by_cases hs : small (a + b * c) <;> simp [hs] <;> exact evN rfl
        · rw [if_pos h]; intro r; split <;> simp
      · refine ⟨0, evF h0 (Ev.step (fun _ => rfl) (evF (by simp [h0']) (evB A1 (evB A2 (evF (by omega) (evT ?_ (evN ?_))))))), ?_⟩
        · rw [tdivB _ (by omega), gtDiv _ _ (by omega), ← Int.natAbs_mul]; omega
        · rw [if_neg h]; rfl
        · rw [if_neg h]; intro r hr; cases hr

/-! ### polynomials -/
def isPoly (l : List Int) : Bool := l.all (fun x => decide (small x)) && decide (l.length ≤ 40) && (l.length == 0 || l.getD (l.length - 1) 0 != 0)
theorem polyEnd (l : List Int) (hl : l.length ≤ 1048576) (h : l.all (fun x => decide (small x)) = true) : (if (l.length : Int) ≤ 40 then (if (l.length : Int) = 0 then (some true) else (if 0 ≤ (wrap64 ((l.length : Int) - 1)) then (if (wrap64 ((l.length : Int) - 1)) < (l.length : Int) then (some ((rd l (wrap64 ((l.length : Int) - 1))) != 0)) else (none)) else (none))) else (some false)) = some (isPoly l) := by
  unfold isPoly; rw [h]
  by_cases h1 : l.length ≤ 40
  · rw [if_pos (by omega)]
    by_cases h2 : l.length = 0
    · rw [if_pos (by omega)]; simp [h1, h2]
    · rw [if_neg (by omega), wid (by omega) (by omega), if_pos (by omega), if_pos (by omega), show ((l.length : Int) - 1) = ((l.length - 1 : Nat) : Int) by omega, rdn]
      simp [h1, h2]
  · rw [if_neg (by omega)]; simp [h1]
theorem all_at {l : List Int} {p : Int → Bool} {i : Nat} (h : i < l.length) (hp : p l[i] = false) : l.all p = false := by
  rw [List.all_eq_false]; exact ⟨l[i], List.getElem_mem _, by simp [hp]⟩
theorem specPoly_l (l : List Int) (hl : l.length ≤ 1048576) (d : Nat) : ∀ i : Nat, i + d = l.length → (l.take i).all (fun x => decide (small x)) = true → Ev (fun k => spec_l01Poly.l0 k l (i : Int)) (isPoly l) := by
  induction d with
  | zero =>
    intro i hi ht
    rw [List.take_of_length_le (by omega)] at ht
    exact Ev.step (fun _ => rfl) (evF (by omega) (evN (polyEnd l hl ht)))
  | succ d ih =>
    intro i hi ht
    refine Ev.step (fun _ => rfl) (evT (by omega) (evT (by omega) ?_))
    rw [rd_at _ _ (by omega)]
    refine evB (smIn _) ?_
    by_cases h : small l[i]
    · refine evT (by simp [h]) ?_
      rw [wnat (n := l.length) (by omega) (by omega)]
      exact ih (i + 1) (by omega) (by rw [List.take_succ_eq_append_getElem (by omega), List.all_append, ht]; simp [h])
    · refine evF (by simp [h]) (evN ?_)
      unfold isPoly; rw [all_at (i := i) (by omega) (by simp [h])]; simp
theorem specPoly (l : List Int) (hl : l.length ≤ 1048576) : Ev (fun k => spec_l01Poly.f k l) (isPoly l) := specPoly_l l hl l.length 0 (by omega) (by simp)
theorem implPoly_l (l : List Int) (hl : l.length ≤ 1048576) (d : Nat) : ∀ i : Nat, i + d = l.length → (l.take i).all (fun x => decide (small x)) = true → Ev (fun k => impl_IsWhole.l0 k l l (l.length : Int) (i : Int)) (isPoly l) := by
  induction d with
  | zero =>
    intro i hi ht
    rw [List.take_of_length_le (by omega)] at ht
    exact Ev.step (fun _ => rfl) (evF (by omega) (evN (polyEnd l hl ht)))
  | succ d ih =>
    intro i hi ht
    refine Ev.step (fun _ => rfl) (evT (by omega) (evT (by omega) (evT (by omega) ?_)))
    rw [rd_at _ _ (by omega)]
    refine evB (smImpl _) ?_
    by_cases h : small l[i]
    · refine evT (by simp [h]) ?_
      rw [wnat (n := l.length) (by omega) (by omega)]
      exact ih (i + 1) (by omega) (by rw [List.take_succ_eq_append_getElem (by omega), List.all_append, ht]; simp [h])
    · refine evF (by simp [h]) (evN ?_)
      unfold isPoly; rw [all_at (i := i) (by omega) (by simp [h])]; simp
theorem implPoly (l : List Int) (hl : l.length ≤ 1048576) : Ev (fun k => impl_IsWhole.f k l) (isPoly l) := implPoly_l l hl l.length 0 (by omega) (by simp)
/-! ### the law's frame for a list and a number -/
theorem eqSelf (l : List Int) (hl : l.length ≤ 1048576) : Ev (fun k => laws_eqInt64S.f k l l) true := by
  have := eqInt64S l l (by omega); simpa using this
/-! ### sums -/
def isSums (l : List Int) : Bool := l.all (fun x => decide (small x)) && decide (l.length ≤ 24)
theorem specSums_l (l : List Int) (hl : l.length ≤ 1048576) (d : Nat) : ∀ i : Nat, i + d = l.length → (l.take i).all (fun x => decide (small x)) = true → Ev (fun k => spec_l09Sums.l0 k l (i : Int)) (isSums l) := by
  induction d with
  | zero =>
    intro i hi ht
    rw [List.take_of_length_le (by omega)] at ht
    refine Ev.step (fun _ => rfl) (evF (by omega) (evN ?_))
    unfold isSums; rw [ht]; simp; omega
  | succ d ih =>
    intro i hi ht
    refine Ev.step (fun _ => rfl) (evT (by omega) (evT (by omega) ?_))
    rw [rd_at _ _ (by omega)]
    refine evB (smIn _) ?_
    by_cases h : small l[i]
    · refine evT (by simp [h]) ?_
      rw [wnat (n := l.length) (by omega) (by omega)]
      exact ih (i + 1) (by omega) (by rw [List.take_succ_eq_append_getElem (by omega), List.all_append, ht]; simp [h])
    · refine evF (by simp [h]) (evN ?_)
      unfold isSums; rw [all_at (i := i) (by omega) (by simp [h])]; simp
theorem specSums (l : List Int) (hl : l.length ≤ 1048576) : Ev (fun k => spec_l09Sums.f k l) (isSums l) := specSums_l l hl l.length 0 (by omega) (by simp)
theorem implSums_l (l : List Int) (hl : l.length ≤ 1048576) (d : Nat) : ∀ i : Nat, i + d = l.length → (l.take i).all (fun x => decide (small x)) = true → ∃ r : Int, Ev (fun k => slices_IndexFunc_int64_int64_of_areSums_1.l0 k l (l.length : Int) (i : Int)) r ∧ decide (r ≥ 0) = !l.all (fun x => decide (small x)) := by
  induction d with
  | zero =>
    intro i hi ht
    rw [List.take_of_length_le (by omega)] at ht
    exact ⟨-1, Ev.step (fun _ => rfl) (evF (by omega) (evN rfl)), by rw [ht]; rfl⟩
  | succ d ih =>
    intro i hi ht
    have hp : impl_areSums_1.f l[i] = some (!decide (small l[i])) := by unfold impl_areSums_1.f; rw [smImpl]; rfl
    by_cases h : small l[i]
    · obtain ⟨r, h1, h2⟩ := ih (i + 1) (by omega) (by rw [List.take_succ_eq_append_getElem (by omega), List.all_append, ht]; simp [h])
      refine ⟨r, Ev.step (fun _ => rfl) (evT (by omega) (evT (by omega) (evT (by omega) ?_))), h2⟩
      rw [rd_at _ _ (by omega)]
      refine evB hp (evF (by simp [h]) ?_)
      rw [wnat (n := l.length) (by omega) (by omega)]
      exact h1
    · refine ⟨i, Ev.step (fun _ => rfl) (evT (by omega) (evT (by omega) (evT (by omega) ?_))), ?_⟩
      · rw [rd_at _ _ (by omega)]
        exact evB hp (evT (by simp [h]) (evN rfl))
      · rw [all_at (i := i) (by omega) (by simp [h])]; simp
theorem implSums (l : List Int) (hl : l.length ≤ 1048576) : Ev (fun k => impl_areSums.f k l) (isSums l) := by
  unfold impl_areSums.f
  by_cases h : l.length ≤ 24
  · obtain ⟨r, h1, h2⟩ := implSums_l l hl l.length 0 (by omega) (by simp)
    refine evT (by omega) (Ev.bind (Ev.bind h1 (evN rfl)) (evN ?_))
    unfold isSums
    rw [h2]; simp [h]
  · refine evF (by omega) (evN ?_)
    unfold isSums; simp [h]
theorem sums_small {l : List Int} (h : isSums l = true) : l.length ≤ 24 ∧ ∀ (i : Nat) (hi : i < l.length), small l[i] := by
  unfold isSums at h; rw [Bool.and_eq_true, List.all_eq_true, decide_eq_true_eq] at h
  exact ⟨h.2, fun i hi => of_decide_eq_true (h.1 _ (List.getElem_mem hi))⟩
theorem poly_small {l : List Int} (h : isPoly l = true) : l.length ≤ 40 ∧ ∀ (i : Nat) (hi : i < l.length), small l[i] := by
  unfold isPoly at h; rw [Bool.and_eq_true, Bool.and_eq_true, List.all_eq_true, decide_eq_true_eq] at h
  exact ⟨h.1.2, fun i hi => of_decide_eq_true (h.1.1 _ (List.getElem_mem hi))⟩
end Go.Proofs.Ytgdojoiopfncmaa.Q
