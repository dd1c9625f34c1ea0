import Derived.Test.YtgdojoiopfncmaaQ2
import Derived.Test.YtgdojoiopfncmaaXlawsFnExactRegularDegree
/- The one degree of a regular graph: both sides come to the same. -/
namespace Go.Proofs.Ytgdojoiopfncmaa.Q
open Go.RowKit Go.Proofs.Ytgdojoiopfncmaa.X Go.Proofs.YtgdojoiopfncmaaW.PrintWords Go.Proofs.YtgdojoiopfncmaaW.PrintLast Go.Proofs.YtgdojoiopfncmaaW.PrintMore
set_option linter.unusedVariables false
theorem mn_l (l : List Int) (hl : l.length ≤ 1048576) (d : Nat) : ∀ (i : Nat) (a : Int), i + d = l.length → a ∈ l → (∀ (j : Nat) (hj : j < l.length), j < i → a ≤ l[j]) → ∃ r, Ev (fun k => slices_Min_int64_int64.l0 k l a (i : Int)) r ∧ r ∈ l ∧ ∀ (j : Nat) (hj : j < l.length), r ≤ l[j] := by
  induction d with
  | zero => intro i a hi ha hb; exact ⟨a, Ev.step (fun _ => rfl) (evF (by omega) (evN rfl)), ha, fun j hj => hb j hj (by omega)⟩
  | succ d ih =>
    intro i a hi ha hb
    have hm : mn a l[i] ∈ l := by unfold mn; split <;> first | exact ha | exact List.getElem_mem _
    obtain ⟨r, h1, h2⟩ := ih (i + 1) (mn a l[i]) (by omega) hm (by
      intro j hj hji
      by_cases e : j = i
      · subst e; unfold mn; split <;> omega
      · have := hb j hj (by omega); unfold mn; split <;> omega)
    refine ⟨r, Ev.step (fun _ => rfl) (evT (by omega) (evT (by omega) ?_)), h2⟩
    rw [rd_at _ _ (by omega), wnat (n := l.length) (by omega) (by omega)]; exact h1
theorem mx_l (l : List Int) (hl : l.length ≤ 1048576) (d : Nat) : ∀ (i : Nat) (a : Int), i + d = l.length → a ∈ l → (∀ (j : Nat) (hj : j < l.length), j < i → l[j] ≤ a) → ∃ r, Ev (fun k => slices_Max_int64_int64.l0 k l a (i : Int)) r ∧ r ∈ l ∧ ∀ (j : Nat) (hj : j < l.length), l[j] ≤ r := by
  induction d with
  | zero => intro i a hi ha hb; exact ⟨a, Ev.step (fun _ => rfl) (evF (by omega) (evN rfl)), ha, fun j hj => hb j hj (by omega)⟩
  | succ d ih =>
    intro i a hi ha hb
    have hm : mx a l[i] ∈ l := by unfold mx; split <;> first | exact ha | exact List.getElem_mem _
    obtain ⟨r, h1, h2⟩ := ih (i + 1) (mx a l[i]) (by omega) hm (by
      intro j hj hji
      by_cases e : j = i
      · subst e; unfold mx; split <;> omega
      · have := hb j hj (by omega); unfold mx; split <;> omega)
    refine ⟨r, Ev.step (fun _ => rfl) (evT (by omega) (evT (by omega) ?_)), h2⟩
    rw [rd_at _ _ (by omega), wnat (n := l.length) (by omega) (by omega)]; exact h1
def allEq (l : List Int) : Prop := ∀ (j : Nat) (hj : j < l.length), l[j] = l.getD 0 0
theorem regImpl (N : Nat) (P : List (Nat × Nat)) (g : G8 N P) (r : Int) (h : (allEq (degs N P) ∧ r = degN P 0) ∨ (¬ allEq (degs N P) ∧ r = -1)) : Ev (fun k => impl_Graph_regular.f k (N : Int) (edg P)) r := by
  have h8 := g.hi; have h1 := g.lo
  have hL : (degs N P).length = N := degs_length N P
  have h0 : (degs N P).getD 0 0 = degN P 0 := by have := degs_at N P 0 (by omega); rw [rdn] at this; exact this
  unfold impl_Graph_regular.f
  have hz : rd (degs N P) 0 = (degs N P)[0]'(by omega) := rd_at _ 0 (by omega)
  have hz' : (degs N P)[0]'(by omega) = (degN P 0 : Int) := by rw [← hz]; exact degs_at N P 0 (by omega)
  obtain ⟨a, ha, ma, la⟩ := mn_l (degs N P) (by omega) (N - 1) 1 (rd (degs N P) 0) (by omega) (by rw [hz]; exact List.getElem_mem _) (fun j hj h => by cases j with | zero => omega | succ j => omega)
  obtain ⟨b, hb, mb, lb⟩ := mx_l (degs N P) (by omega) (N - 1) 1 (rd (degs N P) 0) (by omega) (by rw [hz]; exact List.getElem_mem _) (fun j hj h => by cases j with | zero => omega | succ j => omega)
  have A : Ev (fun k => slices_Min_int64_int64.f k (degs N P)) a := by unfold slices_Min_int64_int64.f; exact evF (by omega) (evT (by omega) ha)
  have B : Ev (fun k => slices_Max_int64_int64.f k (degs N P)) b := by unfold slices_Max_int64_int64.f; exact evF (by omega) (evT (by omega) hb)
  refine Ev.bind (degImpl P N g) (Ev.bind A (Ev.bind B ?_))
  rcases h with ⟨h, rfl⟩ | ⟨h, rfl⟩
  · obtain ⟨i, hi, rfl⟩ := List.mem_iff_getElem.1 ma
    obtain ⟨j, hj, rfl⟩ := List.mem_iff_getElem.1 mb
    refine evT ((h i hi).trans (h j hj).symm) (evT (by omega) (evN ?_))
    rw [hz, hz']
  · refine evF (fun e => h (fun j hj => ?_)) (evN rfl)
    have q1 := la j hj; have q2 := lb j hj; have q3 := la 0 (by omega); have q4 := lb 0 (by omega)
    rw [h0]; rw [hz'] at q3 q4; omega
theorem regSpec_l (N : Nat) (P : List (Nat × Nat)) (g : G8 N P) (d : Nat) : ∀ v : Nat, v + d = N → (∀ j, j < v → degN P j = degN P 0) →
    ((∀ j, j < N → degN P j = degN P 0) ∧ Ev (fun k => spec_l07Regular.l0 k (degN P 0 : Int) (v : Int) (N : Int) (edg P)) (degN P 0 : Int)) ∨ ((¬ ∀ j, j < N → degN P j = degN P 0) ∧ Ev (fun k => spec_l07Regular.l0 k (degN P 0 : Int) (v : Int) (N : Int) (edg P)) (-1)) := by
  have h8 := g.hi; have h10 := g.len
  induction d with
  | zero => intro v hv h; exact .inl ⟨fun j hj => h j (by omega), Ev.step (fun _ => rfl) (evF (by omega) (evN rfl))⟩
  | succ d ih =>
    intro v hv h
    have D := degSpec (N : Int) P (by omega) v
    by_cases e : degN P v = degN P 0
    · have st : ∀ R, Ev (fun k => spec_l07Regular.l0 k (degN P 0 : Int) ((v + 1 : Nat) : Int) (N : Int) (edg P)) R → Ev (fun k => spec_l07Regular.l0 k (degN P 0 : Int) (v : Int) (N : Int) (edg P)) R := by
        intro R hR
        refine Ev.step (fun _ => rfl) (evT (by omega) (Ev.bind D (evT (by omega) ?_)))
        rw [wnat (n := N) (by omega) (by omega)]; exact hR
      rcases ih (v + 1) (by omega) (fun j hj => if q : j = v then by rw [q, e] else h j (by omega)) with ⟨a, b⟩ | ⟨a, b⟩
      · exact .inl ⟨a, st _ b⟩
      · exact .inr ⟨a, st _ b⟩
    · exact .inr ⟨fun q => e (q v (by omega)), Ev.step (fun _ => rfl) (evT (by omega) (Ev.bind D (evF (by omega) (evN rfl))))⟩
theorem allEq_iff (N : Nat) (P : List (Nat × Nat)) (hN : 1 ≤ N) : allEq (degs N P) ↔ ∀ j, j < N → degN P j = degN P 0 := by
  unfold allEq degs
  simp only [List.length_map, List.length_range, List.getElem_map, List.getElem_range]
  have : ((List.range N).map fun v => (degN P v : Int)).getD 0 0 = degN P 0 := by
    simp [List.getD_eq_getElem?_getD, List.getElem?_range (show 0 < N by omega)]
  rw [this]
  exact ⟨fun h j hj => by have := h j hj; omega, fun h j hj => by rw [h j hj]⟩
theorem rg_both (n : Int) (E : List (List Int)) (hE : E.length ≤ 1048576) : ∃ r, Ev (fun k => spec_RegularDegree.f k n E) r ∧ Ev (fun k => impl_RegularDegree.f k n E) r := by
  have h1 := isSpec n E hE; have h2 := isImpl n E hE
  unfold spec_RegularDegree.f impl_RegularDegree.f
  by_cases h : VG n E = true
  · rw [h] at h1 h2
    obtain ⟨N, P, rfl, rfl, g⟩ := VG_true h
    have h8 := g.hi; have h10 := g.len; have hlo := g.lo
    have D := degSpec (N : Int) P (by omega) 0
    rcases regSpec_l N P g (N - 1) 1 (by omega) (fun j hj => by cases j with | zero => rfl | succ j => omega) with ⟨a, b⟩ | ⟨a, b⟩
    · have c := regImpl N P g (degN P 0) (.inl ⟨(allEq_iff N P hlo).2 a, rfl⟩)
      have s : Ev (fun k => spec_l07Regular.f k (N : Int) (edg P)) (degN P 0 : Int) := by unfold spec_l07Regular.f; exact Ev.bind D b
      exact ⟨(degN P 0, 0), Ev.bind h1 (evT rfl (Ev.bind s (evF (by omega) (evN rfl)))), Ev.bind h2 (evT rfl (Ev.bind c (evF (by omega) (evN rfl))))⟩
    · have c := regImpl N P g (-1) (.inr ⟨fun q => a ((allEq_iff N P hlo).1 q), rfl⟩)
      have s : Ev (fun k => spec_l07Regular.f k (N : Int) (edg P)) (-1) := by unfold spec_l07Regular.f; exact Ev.bind D b
      exact ⟨(0, 4), Ev.bind h1 (evT rfl (Ev.bind s (evT (by omega) (evN rfl)))), Ev.bind h2 (evT rfl (Ev.bind c (evT (by omega) (evN rfl))))⟩
  · rw [Bool.eq_false_iff.2 h] at h1 h2
    exact ⟨(0, 1), Ev.bind h1 (evF (by simp) (evN rfl)), Ev.bind h2 (evF (by simp) (evN rfl))⟩
theorem FnExactRegularDegree (n : Int) (E : List (List Int)) (hn : (Lit.int .i64 n).wf = true) (hE : E.length ≤ 9223372036854775807) (ha : ∀ l ∈ E, l.length ≤ 9223372036854775807 ∧ ∀ x ∈ l, (Lit.int .i64 x).wf = true) : ∃ k, laws_FnExactRegularDegree.f k n E = some true := by
  apply Ev.rounds
  unfold laws_FnExactRegularDegree.f
  obtain ⟨t, ht, hp⟩ := szGraph n E hE (fun l hl => (ha l hl).1)
  refine Ev.bind ht ?_
  rcases hp with hp | ⟨_, _, h1, h2⟩
  · exact evT hp (evN rfl)
  · refine evF (by omega) ?_
    have hG := toGraph n E h1 h2
    obtain ⟨r, hs, hi⟩ := rg_both n E h1
    refine Ev.bind hG (Ev.bind hs (Ev.bind hG (Ev.bind hi (evT rfl ?_))))
    refine Ev.step (fun _ => rfl) (evF (by simp) (Ev.bind hG (Ev.bind (eqGraph_self n E h1 h2) (evT rfl (evN rfl)))))
end Go.Proofs.Ytgdojoiopfncmaa.Q
