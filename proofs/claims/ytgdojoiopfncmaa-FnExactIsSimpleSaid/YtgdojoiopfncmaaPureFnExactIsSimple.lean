import Derived.Test.YtgdojoiopfncmaaQ5
import Derived.Test.YtgdojoiopfncmaaXlawsFnExactIsSimple
/- Whether a graph is simple: both sides come to the same. -/
namespace Go.Proofs.Ytgdojoiopfncmaa.Q
open Go.RowKit Go.Proofs.Ytgdojoiopfncmaa.X Go.Proofs.YtgdojoiopfncmaaW.PrintWords Go.Proofs.YtgdojoiopfncmaaW.PrintLast Go.Proofs.YtgdojoiopfncmaaW.PrintMore
set_option linter.unusedVariables false
def low (f : Nat → Nat → Nat) (N : Nat) : Prop := ∀ i, i < N → ∀ j, j ≤ i → f i j ≤ 1
def lowAll (f : Nat → Nat → Nat) (N : Nat) : Prop := ∀ i, i < N → ∀ j, j < N → f i j ≤ 1 ∧ (i = j → f i j = 0)
theorem smSpec_j (N : Nat) (hN : N ≤ 8) (f : Nat → Nat → Nat) (i : Nat) (hi : i < N) (b : Bool) (hT : (∀ j, j ≤ i → f i j ≤ 1) → Ev (fun k => spec_l08Simple.l0 k (mat N f) ((i + 1 : Nat) : Int)) b) (hF : (¬ ∀ j, j ≤ i → f i j ≤ 1) → b = false) (d : Nat) : ∀ j : Nat, j + d = i + 1 → (∀ j', j' < j → f i j' ≤ 1) → Ev (fun k => spec_l08Simple.l1 k (mat N f) (i : Int) (j : Int)) b := by
  induction d with
  | zero =>
    intro j hj h
    refine Ev.step (fun _ => rfl) (evF (by omega) ?_)
    rw [wnat (n := N) (by omega) (by omega)]; exact hT (fun j' h' => h j' (by omega))
  | succ d ih =>
    intro j hj h
    refine Ev.step (fun _ => rfl) (evT (by omega) (evT (by omega) (evT (by rw [mat_length]; omega) (evT (by omega) ?_))))
    rw [mat_at N f i hi, row_at N _ j (by omega), row_length]
    refine evT (by omega) ?_
    by_cases h1 : f i j ≤ 1
    · refine evF (by omega) ?_
      rw [wnat (n := N) (by omega) (by omega)]
      exact ih (j + 1) (by omega) (fun j' h' => if e : j' = j then by rw [e]; exact h1 else h j' (by omega))
    · refine evT (by omega) (evN ?_)
      rw [hF (fun q => h1 (q j (by omega)))]
theorem smSpec_i (N : Nat) (hN : N ≤ 8) (f : Nat → Nat → Nat) (b : Bool) (hT : low f N → b = true) (hF : ¬ low f N → b = false) (d : Nat) : ∀ i : Nat, i + d = N → (∀ i', i' < i → ∀ j, j ≤ i' → f i' j ≤ 1) → Ev (fun k => spec_l08Simple.l0 k (mat N f) (i : Int)) b := by
  induction d with
  | zero =>
    intro i hi h
    refine Ev.step (fun _ => rfl) (evF (by rw [mat_length]; omega) (evN ?_))
    rw [hT (fun i' h' => h i' (by omega))]
  | succ d ih =>
    intro i hi h
    refine Ev.step (fun _ => rfl) (evT (by rw [mat_length]; omega) ?_)
    exact smSpec_j N hN f i (by omega) b (fun q => ih (i + 1) (by omega) (fun i' h' => if e : i' = i then by rw [e]; exact q else h i' (by omega))) (fun q => hF (fun z => q (z i (by omega)))) (i + 1) 0 (by omega) (fun j' h' => by omega)
theorem smImpl_j (N : Nat) (hN : N ≤ 8) (f : Nat → Nat → Nat) (i : Nat) (hi : i < N) (b : Bool) (hT : (∀ j, j < N → f i j ≤ 1 ∧ (i = j → f i j = 0)) → Ev (fun k => impl_Graph_simple.l0 k (mat N f) (N : Int) ((i + 1 : Nat) : Int)) b) (hF : (¬ ∀ j, j < N → f i j ≤ 1 ∧ (i = j → f i j = 0)) → b = false) (d : Nat) : ∀ j : Nat, j + d = N → (∀ j', j' < j → f i j' ≤ 1 ∧ (i = j' → f i j' = 0)) → Ev (fun k => impl_Graph_simple.l1 k (i : Int) (mat N f) (N : Int) (i : Int) (row N (f i)) (N : Int) (j : Int)) b := by
  induction d with
  | zero =>
    intro j hj h
    refine Ev.step (fun _ => rfl) (evF (by omega) ?_)
    rw [wnat (n := N) (by omega) (by omega)]; exact hT (fun j' h' => h j' (by omega))
  | succ d ih =>
    intro j hj h
    refine Ev.step (fun _ => rfl) (evT (by omega) (evT (by omega) (evT (by rw [row_length]; omega) ?_)))
    rw [row_at N _ j (by omega)]
    by_cases h1 : f i j ≤ 1
    · refine evF (by omega) ?_
      have nx : (i = j → f i j = 0) → Ev (fun k => impl_Graph_simple.l1 k (i : Int) (mat N f) (N : Int) (i : Int) (row N (f i)) (N : Int) (wrap64 ((j : Int) + 1))) b := by
        intro z
        rw [wnat (n := N) (by omega) (by omega)]
        exact ih (j + 1) (by omega) (fun j' h' => if e : j' = j then by rw [e]; exact ⟨h1, z⟩ else h j' (by omega))
      by_cases h2 : i = j
      · refine evT (by omega) ?_
        by_cases h3 : f i j = 0
        · exact evF (by omega) (nx (fun _ => h3))
        · refine evT (by omega) (evN ?_)
          rw [hF (fun q => h3 ((q j (by omega)).2 h2))]
      · exact evF (by omega) (nx (fun e => absurd e h2))
    · refine evT (by omega) (evN ?_)
      rw [hF (fun q => h1 (q j (by omega)).1)]
theorem smImpl_i (N : Nat) (hN : N ≤ 8) (f : Nat → Nat → Nat) (b : Bool) (hT : lowAll f N → b = true) (hF : ¬ lowAll f N → b = false) (d : Nat) : ∀ i : Nat, i + d = N → (∀ i', i' < i → ∀ j, j < N → f i' j ≤ 1 ∧ (i' = j → f i' j = 0)) → Ev (fun k => impl_Graph_simple.l0 k (mat N f) (N : Int) (i : Int)) b := by
  induction d with
  | zero =>
    intro i hi h
    refine Ev.step (fun _ => rfl) (evF (by omega) (evN ?_))
    rw [hT (fun i' h' => h i' (by omega))]
  | succ d ih =>
    intro i hi h
    refine Ev.step (fun _ => rfl) (evT (by omega) (evT (by omega) (evT (by rw [mat_length]; omega) ?_)))
    rw [mat_at N f i (by omega), row_length]
    exact smImpl_j N hN f i (by omega) b (fun q => ih (i + 1) (by omega) (fun i' h' => if e : i' = i then by rw [e]; exact q else h i' (by omega))) (fun q => hF (fun z => q (z i (by omega)))) N 0 (by omega) (fun j' h' => by omega)
theorem low_iff (P : List (Nat × Nat)) (N : Nat) : low (adj P) N ↔ lowAll (adj P) N := by
  have hs := adj_sym P (fun _ _ => 0) (fun _ _ => rfl)
  have he := adj_even P (fun _ _ => 0) (fun _ => rfl)
  constructor
  · intro h i hi j hj
    by_cases c : j ≤ i
    · refine ⟨h i hi j c, fun e => ?_⟩
      subst e
      have := h i hi i c; have := he i; unfold adj at *; omega
    · refine ⟨?_, fun e => absurd e (by omega)⟩
      have := h j hj i (by omega)
      have q := hs i j; unfold adj at *; omega
  · intro h i hi j hj; exact (h i hi j (by omega)).1
theorem sm_both (n : Int) (E : List (List Int)) (hE : E.length ≤ 1048576) : ∃ r, Ev (fun k => spec_IsSimple.f k n E) r ∧ Ev (fun k => impl_IsSimple.f k n E) r := by
  have h1 := isSpec n E hE; have h2 := isImpl n E hE
  unfold spec_IsSimple.f impl_IsSimple.f
  by_cases h : VG n E = true
  · rw [h] at h1 h2
    obtain ⟨N, P, rfl, rfl, g⟩ := VG_true h
    have h8 := g.hi
    obtain ⟨b, hT, hF⟩ : ∃ b : Bool, (low (adj P) N → b = true) ∧ (¬ low (adj P) N → b = false) := by
      by_cases c : low (adj P) N
      · exact ⟨true, fun _ => rfl, fun q => absurd c q⟩
      · exact ⟨false, fun q => absurd q c, fun _ => rfl⟩
    have s : Ev (fun k => spec_l08Simple.f k (N : Int) (edg P)) b := by
      unfold spec_l08Simple.f
      exact Ev.bind (adjSpec N P g) (smSpec_i N h8 (adj P) b hT hF N 0 (by omega) (fun _ h => by omega))
    have i : Ev (fun k => impl_Graph_simple.f k (N : Int) (edg P)) b := by
      unfold impl_Graph_simple.f
      refine Ev.bind (adjImpl N P g) ?_
      rw [mat_length]
      exact smImpl_i N h8 (adj P) b (fun q => hT ((low_iff P N).2 q)) (fun q => hF (fun z => q ((low_iff P N).1 z))) N 0 (by omega) (fun _ h => by omega)
    exact ⟨(b, 0), Ev.bind h1 (evT rfl (Ev.bind s (evN rfl))), Ev.bind h2 (evT rfl (Ev.bind i (evN rfl)))⟩
  · rw [Bool.eq_false_iff.2 h] at h1 h2
    exact ⟨(false, 1), Ev.bind h1 (evF (by simp) (evN rfl)), Ev.bind h2 (evF (by simp) (evN rfl))⟩
theorem FnExactIsSimple (n : Int) (E : List (List Int)) (hn : (Lit.int .i64 n).wf = true) (hE : E.length ≤ 9223372036854775807) (ha : ∀ l ∈ E, l.length ≤ 9223372036854775807 ∧ ∀ x ∈ l, (Lit.int .i64 x).wf = true) : ∃ k, laws_FnExactIsSimple.f k n E = some true := by
  apply Ev.rounds
  unfold laws_FnExactIsSimple.f
  obtain ⟨t, ht, hp⟩ := szGraph n E hE (fun l hl => (ha l hl).1)
  refine Ev.bind ht ?_
  rcases hp with hp | ⟨_, _, h1, h2⟩
  · exact evT hp (evN rfl)
  · refine evF (by omega) ?_
    have hG := toGraph n E h1 h2
    obtain ⟨r, hs, hi⟩ := sm_both n E h1
    refine Ev.bind hG (Ev.bind hs (Ev.bind hG (Ev.bind hi (evF (by simp) ?_))))
    refine Ev.step (fun _ => rfl) (evF (by simp) (Ev.bind hG (Ev.bind (eqGraph_self n E h1 h2) (evT rfl (evN rfl)))))
end Go.Proofs.Ytgdojoiopfncmaa.Q
