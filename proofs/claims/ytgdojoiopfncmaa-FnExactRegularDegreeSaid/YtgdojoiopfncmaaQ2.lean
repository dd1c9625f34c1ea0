import Derived.Test.YtgdojoiopfncmaaQ1
import Derived.Test.YtgdojoiopfncmaaXspecl01Degree
import Derived.Test.YtgdojoiopfncmaaXimplGraphdegrees
/- Degrees. -/
namespace Go.Proofs.Ytgdojoiopfncmaa.Q
open Go.RowKit Go.Proofs.Ytgdojoiopfncmaa.X Go.Proofs.YtgdojoiopfncmaaW.PrintWords Go.Proofs.YtgdojoiopfncmaaW.PrintLast Go.Proofs.YtgdojoiopfncmaaW.PrintMore
set_option linter.unusedVariables false

theorem w01 : wrap64 (0 + 1) = 1 := wid (by omega) (by omega)
theorem w12 : wrap64 (1 + 1) = 2 := wid (by omega) (by omega)
def hit (p : Nat × Nat) (v : Nat) : Nat := (if p.1 = v then 1 else 0) + (if p.2 = v then 1 else 0)
def degN (P : List (Nat × Nat)) (v : Nat) : Nat := (P.map fun p => hit p v).sum
theorem degN_cons (p : Nat × Nat) (P : List (Nat × Nat)) (v : Nat) : degN (p :: P) v = hit p v + degN P v := by simp [degN]
theorem hit_le (p : Nat × Nat) (v : Nat) : hit p v ≤ 2 := by unfold hit; split <;> split <;> omega
theorem degN_le (P : List (Nat × Nat)) (v : Nat) : degN P v ≤ 2 * P.length := by
  induction P with
  | nil => simp [degN]
  | cons p P ih => rw [degN_cons, List.length_cons]; have := hit_le p v; omega
theorem pair0 (a b : Int) : rd [a, b] 0 = a := rfl
theorem pair1 (a b : Int) : rd [a, b] 1 = b := rfl
theorem degSpec_l (n : Int) (P : List (Nat × Nat)) (hP : P.length ≤ 1048576) (v : Nat) (d : Nat) : ∀ (i acc : Nat), i + d = P.length → acc + 2 * d ≤ 4194304 →
    Ev (fun k => spec_l01Degree.l0 k (v : Int) (acc : Int) (i : Int) n (edg P)) ((acc + degN (P.drop i) v : Nat) : Int) := by
  induction d with
  | zero =>
    intro i acc hi ha
    refine Ev.step (fun _ => rfl) (evF (by rw [edg_length]; omega) (evN ?_))
    rw [List.drop_of_length_le (by omega)]; simp [degN]
  | succ d ih =>
    intro i acc hi ha
    have hi2 : i < P.length := by omega
    rw [List.drop_eq_getElem_cons hi2, degN_cons]
    generalize hp : P[i] = p
    have hr : rd_L1 (edg P) (i : Int) = [(p.1 : Int), (p.2 : Int)] := by rw [edg_at P i hi2, hp]
    have last : ∀ a2 : Nat, a2 ≤ acc + 2 → Ev (fun k => spec_l01Degree.l1 k (v : Int) (a2 : Int) (i : Int) 2 n (edg P)) ((a2 + degN (P.drop (i + 1)) v : Nat) : Int) := by
      intro a2 h2
      refine Ev.step (fun _ => rfl) (evF (by omega) ?_)
      rw [wnat (n := P.length) hi2 (by omega)]
      exact ih (i + 1) a2 (by omega) (by omega)
    have mid : ∀ a1 : Nat, a1 ≤ acc + 1 → Ev (fun k => spec_l01Degree.l1 k (v : Int) (a1 : Int) (i : Int) 1 n (edg P)) ((a1 + (if p.2 = v then 1 else 0) + degN (P.drop (i + 1)) v : Nat) : Int) := by
      intro a1 h1
      refine Ev.step (fun _ => rfl) (evT (by omega) (evT (by omega) (evT (by rw [edg_length]; omega) (evT (by omega) ?_))))
      rw [hr, pair1]
      refine evT (by simp) ?_
      by_cases h : p.2 = v
      · refine evT (by omega) ?_
        rw [if_pos h, wid (by omega) (by omega), show (a1 : Int) + 1 = ((a1 + 1 : Nat) : Int) by omega]
        rw [w12]; exact last (a1 + 1) (by omega)
      · refine evF (by omega) ?_
        rw [if_neg h, w12]
        exact last a1 (by omega)
    refine Ev.step (fun _ => rfl) (evT (by rw [edg_length]; omega) ?_)
    refine Ev.step (fun _ => rfl) (evT (by omega) (evT (by omega) (evT (by rw [edg_length]; omega) (evT (by omega) ?_))))
    rw [hr, pair0]
    refine evT (by simp) ?_
    by_cases h : p.1 = v
    · refine evT (by omega) ?_
      rw [wid (by omega) (by omega), show (acc : Int) + 1 = ((acc + 1 : Nat) : Int) by omega]
      have := mid (acc + 1) (by omega)
      unfold hit
      rw [if_pos h, w01]
      rwa [show acc + (1 + (if p.2 = v then 1 else 0) + degN (P.drop (i + 1)) v) = acc + 1 + (if p.2 = v then 1 else 0) + degN (P.drop (i + 1)) v by omega]
    · refine evF (by omega) ?_
      have := mid acc (by omega)
      unfold hit
      rw [if_neg h, w01]
      rwa [show acc + (0 + (if p.2 = v then 1 else 0) + degN (P.drop (i + 1)) v) = acc + (if p.2 = v then 1 else 0) + degN (P.drop (i + 1)) v by omega]
theorem degSpec (n : Int) (P : List (Nat × Nat)) (hP : P.length ≤ 1048576) (v : Nat) : Ev (fun k => spec_l01Degree.f k n (edg P) (v : Int)) (degN P v : Int) := by
  have := degSpec_l n P hP v P.length 0 0 (by omega) (by omega)
  rw [Nat.zero_add, List.drop_zero] at this
  exact this
/-! ### the list of all degrees -/
def bump (xs : List Int) (v : Nat) : List Int := xs.set v (xs.getD v 0 + 1)
def degFold (xs : List Int) (P : List (Nat × Nat)) : List Int := P.foldl (fun ys p => bump (bump ys p.1) p.2) xs
theorem bump_length (xs : List Int) (v : Nat) : (bump xs v).length = xs.length := by simp [bump]
theorem bump_at (xs : List Int) (v u : Nat) (hv : v < xs.length) : (bump xs v).getD u 0 = xs.getD u 0 + (if v = u then 1 else 0) := by
  unfold bump
  by_cases h : v = u
  · subst h; simp [List.getD_eq_getElem?_getD, hv]
  · simp [List.getD_eq_getElem?_getD, List.getElem?_set_ne h, h]
theorem degFold_length (P : List (Nat × Nat)) : ∀ xs : List Int, (degFold xs P).length = xs.length := by
  induction P with
  | nil => intro xs; rfl
  | cons p P ih => intro xs; show (degFold (bump (bump xs p.1) p.2) P).length = _; rw [ih, bump_length, bump_length]
theorem degFold_at (P : List (Nat × Nat)) : ∀ (xs : List Int) (u : Nat), (∀ p ∈ P, p.1 < xs.length ∧ p.2 < xs.length) → (degFold xs P).getD u 0 = xs.getD u 0 + (degN P u : Int) := by
  induction P with
  | nil => intro xs u _; simp [degFold, degN]
  | cons p P ih =>
    intro xs u h
    have hp := h p (List.mem_cons_self ..)
    show (degFold (bump (bump xs p.1) p.2) P).getD u 0 = _
    rw [ih _ u (by intro q hq; rw [bump_length, bump_length]; exact h q (List.mem_cons_of_mem _ hq)), bump_at _ _ _ (by rw [bump_length]; exact hp.2), bump_at _ _ _ hp.1, degN_cons]
    unfold hit
    split <;> split <;> simp <;> omega
def degs (N : Nat) (P : List (Nat × Nat)) : List Int := (List.range N).map fun v => (degN P v : Int)
theorem degFold_zero (N : Nat) (P : List (Nat × Nat)) (h : ∀ p ∈ P, p.1 < N ∧ p.2 < N) : degFold (List.replicate N 0) P = degs N P := by
  refine List.ext_getElem (by simp [degFold_length, degs]) fun u h1 h2 => ?_
  have := degFold_at P (List.replicate N 0) u (by simpa using h)
  rw [List.getD_eq_getElem?_getD, List.getElem?_eq_getElem h1] at this
  simp only [degFold_length, List.length_replicate] at h1
  simp [degs] at this ⊢
  simp [h1] at this
  exact this
theorem degImpl_l (P : List (Nat × Nat)) (hP : P.length ≤ 1048576) (N : Nat) (hN : N ≤ 1048576) (hb : ∀ p ∈ P, p.1 < N ∧ p.2 < N) (d : Nat) : ∀ (i : Nat) (xs : List Int), i + d = P.length → xs.length = N → (∀ u, 0 ≤ xs.getD u 0 ∧ xs.getD u 0 ≤ 2 * i) →
    Ev (fun k => impl_Graph_degrees.l0 k xs (edg P) (P.length : Int) (i : Int)) (degFold xs (P.drop i)) := by
  induction d with
  | zero =>
    intro i xs hi hx hs
    refine Ev.step (fun _ => rfl) (evF (by omega) (evN ?_))
    rw [List.drop_of_length_le (by omega)]; rfl
  | succ d ih =>
    intro i xs hi hx hs
    have hi2 : i < P.length := by omega
    rw [List.drop_eq_getElem_cons hi2]
    have hb2 := hb _ (List.getElem_mem hi2)
    generalize hp : P[i] = p at hb2 ⊢
    have hr : rd_L1 (edg P) (i : Int) = [(p.1 : Int), (p.2 : Int)] := by rw [edg_at P i hi2, hp]
    refine Ev.step (fun _ => rfl) (evT (by omega) (evT (by omega) (evT (by rw [edg_length]; omega) ?_)))
    rw [hr, pair0, pair1]
    refine evT (by simp) (evT (by omega) (evT (by omega) (evB rfl (evT (by simp) (evT (by omega) (evT (by simp; omega) ?_))))))
    have a1 : (xs.set (p.1 : Int).toNat (wrap64 (rd xs (p.1 : Int) + 1))) = bump xs p.1 := by
      rw [rdn, wid (by have := (hs p.1).1; omega) (by have := (hs p.1).2; omega)]; rfl
    rw [a1]
    have s1 : ∀ u, 0 ≤ (bump xs p.1).getD u 0 ∧ (bump xs p.1).getD u 0 ≤ 2 * i + 1 := by
      intro u; rw [bump_at _ _ _ (by omega)]; have := hs u; split <;> omega
    have a2 : ((bump xs p.1).set (p.2 : Int).toNat (wrap64 (rd (bump xs p.1) (p.2 : Int) + 1))) = bump (bump xs p.1) p.2 := by
      rw [rdn, wid (by have := (s1 p.2).1; omega) (by have := (s1 p.2).2; omega)]; rfl
    rw [a2, wnat (n := P.length) hi2 (by omega)]
    refine ih (i + 1) _ (by omega) (by rw [bump_length, bump_length]; exact hx) ?_
    intro u; rw [bump_at _ _ _ (by rw [bump_length]; omega)]; have := s1 u; split <;> omega
theorem degImpl (P : List (Nat × Nat)) (N : Nat) (g : G8 N P) : Ev (fun k => impl_Graph_degrees.f k (N : Int) (edg P)) (degs N P) := by
  have := degImpl_l P (by have := g.len; omega) N (by have := g.hi; omega) g.ends P.length 0 (List.replicate N 0) (by omega) (by simp) (by intro u; simp [List.getD_eq_getElem?_getD, List.getElem?_replicate]; split <;> simp)
  unfold impl_Graph_degrees.f
  have h8 := g.hi
  refine evT (by omega) (evT (by omega) ?_)
  rw [edg_length, ← degFold_zero N P g.ends]
  simpa using this
theorem degs_length (N : Nat) (P : List (Nat × Nat)) : (degs N P).length = N := by simp [degs]
theorem degs_at (N : Nat) (P : List (Nat × Nat)) (v : Nat) (h : v < N) : rd (degs N P) (v : Int) = (degN P v : Int) := by rw [rd_at _ _ (by rw [degs_length]; exact h)]; simp [degs]
end Go.Proofs.Ytgdojoiopfncmaa.Q
