/- Words, what the functions that FnExactEigenAbove reaches compute, and the plain laws on it; part 8. -/
import Derived.Deep.Matrix
import Derived.Lib.SmallJoins
import Derived.WalkKit
import Derived.ProofKit
import Derived.OpenShut
import Derived.ChangeOld
import Derived.Below
import Derived.SizedLaws
import Derived.Test.YtimdklhkhjpmbaaJFnExactEigenAbove7
section
namespace Go.Proofs.Ytimdklhkhjpmbaa.Q
open Go.RowKit Go.Proofs.Ytimdklhkhjpmbaa.X Go.Proofs.Ytimdklhkhjpmbaa.Dt Go.Proofs.YtimdklhkhjpmbaaW.PrintWords Go.Proofs.YtimdklhkhjpmbaaW.PrintLast Go.Proofs.YtimdklhkhjpmbaaW.PrintMore
set_option linter.unusedVariables false
set_option linter.unusedSectionVars false
theorem hor_last (F : Nat → Int) (c : Int) (m : Nat) (h : F (m - 1) = 1) (d : Nat) : hor F c m (d + 1) d = 1 := by
  induction d with
  | zero =>
    show (if 0 = 0 then 0 else _) + c * 0 + (if 0 = 0 then F (m - (0 + 1)) else 0) = 1
    rw [if_pos rfl, if_pos rfl, Int.mul_zero, Nat.zero_add, h]; rfl
  | succ d ih =>
    show (if d + 1 = 0 then 0 else hor F c m (d + 1) (d + 1 - 1)) + c * hor F c m (d + 1) (d + 1) + (if d + 1 = 0 then F (m - (d + 1 + 1)) else 0) = 1
    rw [if_neg (by omega), if_neg (by omega), Nat.add_sub_cancel, ih, hor_zero F c m (d + 1) (d + 1) (Nat.le_refl _), Int.mul_zero]; rfl
def lin (O : Nat → Int) (c : Int) (i q : Nat) : Int := (if q = 0 ∨ i < q then 0 else O (q - 1)) + (if q < i then c * O q else 0)
theorem lin_l0 (d : Nat) (hd : 1 ≤ d) (hd2 : d ≤ 20) (O : Nat → Int) (c : Int) (Z : List Int) (hZ : Ev (fun k => spec_l01Trim.f k (wrow (d + 1) (lin O c d))) Z) (e : Nat) : ∀ i : Nat, i + e = d →
    Ev (fun k => spec_l01Times.l0 k (wrow d O) [c, 1] (wrow (d + 1) (lin O c i)) (i : Int)) Z := by
  induction e with
  | zero =>
    intro i hi; obtain rfl : i = d := by omega
    exact Ev.step (fun _ => rfl) (evF (by rw [wrow_length]; omega) (Ev.bind hZ (evN rfl)))
  | succ e ih =>
    intro i hi
    have h := ih (i + 1) (by omega)
    have hw0 : wrap64 ((i : Int) + 0) = (i : Int) := by rw [wid (by omega) (by omega)]; omega
    have hw1 : wrap64 ((i : Int) + wrap64 (0 + 1)) = ((i + 1 : Nat) : Int) := by rw [show wrap64 (0 + 1) = 1 from w1, wid (by omega) (by omega)]; omega
    refine Ev.step (fun _ => rfl) (evT (by rw [wrow_length]; omega) ?_)
    refine Ev.step (fun _ => rfl) (evT (by simp) ?_)
    rw [hw0]
    refine evT (by omega) (evT (by rw [wrow_length]; omega) (evT (by omega) (evT (by rw [wrow_length]; omega) (evT (by omega) ?_))))
    refine Ev.step (fun _ => rfl) (evT (by rw [show wrap64 (0 + 1) = 1 from w1]; simp) ?_)
    rw [hw1]
    refine evT (by omega) (evT (by simp [wrow_length]; omega) (evT (by omega) (evT (by rw [wrow_length]; omega) (evT (by rw [show wrap64 (0 + 1) = 1 from w1]; omega) ?_))))
    refine Ev.step (fun _ => rfl) (evF (by rw [show wrap64 (0 + 1) = 1 from w1]; simp [wrap64]) ?_)
    have s1 : (wrow (d + 1) (lin O c i)).set ((i : Int)).toNat (wrap64 (rd (wrow (d + 1) (lin O c i)) (i : Int) + wrap64 (rd (wrow d O) (i : Int) * rd [c, 1] 0))) = wrow (d + 1) (fun q => if q = i then lin O c i i + O i * c else lin O c i q) := by
      rw [Int.toNat_natCast, wrow_at _ _ i (by omega), wrow_at _ _ i (by omega), show rd [c, 1] 0 = c from rfl, wr_mull, wr_add, wrow_set]
    rw [s1]
    have s2 : (wrow (d + 1) (fun q => if q = i then lin O c i i + O i * c else lin O c i q)).set (((i + 1 : Nat) : Int)).toNat (wrap64 (rd (wrow (d + 1) (fun q => if q = i then lin O c i i + O i * c else lin O c i q)) ((i + 1 : Nat) : Int) + wrap64 (rd (wrow d O) (i : Int) * rd [c, 1] (wrap64 (0 + 1))))) = wrow (d + 1) (lin O c (i + 1)) := by
      rw [Int.toNat_natCast, wrow_at _ _ (i + 1) (by omega), wrow_at _ _ i (by omega), show rd [c, 1] (wrap64 (0 + 1)) = 1 from by rw [show wrap64 (0 + 1) = 1 from w1]; rfl, wr_mull, wr_add, wrow_set]
      congr 1; funext q
      by_cases q1 : q = i + 1
      · subst q1
        rw [if_pos rfl, if_neg (by omega)]
        unfold lin
        rw [if_pos (by omega), if_neg (by omega), if_neg (by omega), if_neg (by omega), Nat.add_sub_cancel]; omega
      · rw [if_neg q1]
        by_cases q2 : q = i
        · subst q2
          rw [if_pos rfl]
          unfold lin
          rw [if_neg (by omega : ¬ q < q), if_pos (by omega : q < q + 1), Int.add_zero, Int.mul_comm]
          by_cases q3 : q = 0
          · rw [if_pos (by omega), if_pos (by omega)]
          · rw [if_neg (by omega), if_neg (by omega)]
        · rw [if_neg q2]
          unfold lin
          have c1 : (q = 0 ∨ i < q) ↔ (q = 0 ∨ i + 1 < q) := by omega
          have c2 : q < i ↔ q < i + 1 := by omega
          simp only [c1, c2]
    rw [s2, wnat (n := 40) (by omega) (by omega)]
    exact h
def nxt (O : Nat → Int) (c : Int) (q : Nat) : Int := (if q = 0 then 0 else O (q - 1)) + c * O q
theorem lin_times (d : Nat) (hd2 : d ≤ 20) (O : Nat → Int) (hO : ∀ q, d ≤ q → O q = 0) (c : Int) (h1 : 1 ≤ d → O (d - 1) = 1) : ∃ M, M ≤ d + 1 ∧ (d = 0 ∨ M = d + 1) ∧ Ev (fun k => spec_l01Times.f k (wrow d O) [c, 1]) (wrow M (nxt O c)) := by
  by_cases z : d = 0
  · subst z
    refine ⟨0, by omega, by omega, ?_⟩
    have st : ∀ b : Bool, b = true → Ev (fun k => spec_l01Times.j0 k ([] : List Int) [c, 1] b) (wrow 0 (nxt O c)) := fun b hb => Ev.step (fun _ => rfl) (evT hb (evN rfl))
    unfold spec_l01Times.f
    exact evT rfl (st true rfl)
  · refine ⟨d + 1, by omega, by omega, ?_⟩
    have e : wrow (d + 1) (lin O c d) = wrow (d + 1) (nxt O c) := by
      refine wrow_congr fun q hq => ?_
      congr 1
      unfold lin nxt
      by_cases q1 : q = 0
      · rw [if_pos (by omega), if_pos q1, if_pos (by omega)]
      · rw [if_neg (by omega), if_neg q1]
        by_cases q2 : q < d
        · rw [if_pos q2]
        · rw [if_neg q2, hO q (by omega), Int.mul_zero]
    have hl : rd (wrow (d + 1) (lin O c d)) (((wrow (d + 1) (lin O c d)).length - 1 : Nat) : Int) ≠ 0 := by
      rw [wrow_length, Nat.add_sub_cancel, wrow_at _ _ d (by omega)]
      unfold lin
      rw [if_neg (by omega), if_neg (by omega), h1 (by omega), Int.add_zero, w1]; omega
    have h := lin_l0 d (by omega) hd2 O c _ (trim_whole _ (by rw [wrow_length]; omega) (by rw [wrow_length]; omega) hl) d 0 (by omega)
    have e0 : wrow (d + 1) (lin O c 0) = List.replicate (d + 1) 0 := by
      rw [wrow_zero]
      refine wrow_congr fun q hq => ?_
      unfold lin
      rw [if_pos (by omega), if_neg (by omega)]; rfl
    rw [e0, e] at h
    unfold spec_l01Times.f
    refine evF (by rw [wrow_length]; omega) ?_
    have hw : wrap64 ((wrap64 (((wrow d O).length : Int) + (([c, 1] : List Int).length : Int))) - 1) = ((d + 1 : Nat) : Int) := by
      rw [wrow_length, show (([c, 1] : List Int).length : Int) = 2 from rfl, wid (x := (d : Int) + 2) (by omega) (by omega), wid (by omega) (by omega)]; omega
    have st : ∀ b : Bool, b = false → Ev (fun k => spec_l01Times.j0 k (wrow d O) [c, 1] b) (wrow (d + 1) (nxt O c)) := fun b hb => Ev.step (fun _ => rfl) (evF (by simp [hb]) (by
      rw [hw, Int.toNat_natCast]
      exact evT (by omega) (evT (by omega) h)))
    exact st _ (by simp)
theorem cop_l0 (M M1 : Nat) (hM : M ≤ M1) (h1 : M1 ≤ 30) (T : Nat → Int) (v : List Int) (c : Int) (Z : List Int) (hZ : Ev (fun k => spec_l01Add.l1 k v c (wrow M1 (fun q => if q < M then T q else 0)) 0) Z) (e : Nat) : ∀ i : Nat, i + e = M →
    Ev (fun k => spec_l01Add.l0 k (wrow M T) v c (wrow M1 (fun q => if q < i then T q else 0)) (i : Int)) Z := by
  induction e with
  | zero =>
    intro i hi; obtain rfl : i = M := by omega
    exact Ev.step (fun _ => rfl) (evF (by rw [wrow_length]; omega) hZ)
  | succ e ih =>
    intro i hi
    have h := ih (i + 1) (by omega)
    refine Ev.step (fun _ => rfl) (evT (by rw [wrow_length]; omega) (evT (by omega) (evT (by rw [wrow_length]; omega) ?_)))
    have s : (wrow M1 (fun q => if q < i then T q else 0)).set ((i : Int)).toNat (rd (wrow M T) (i : Int)) = wrow M1 (fun q => if q < i + 1 then T q else 0) := by
      rw [Int.toNat_natCast, wrow_at _ _ i (by omega), wrow_set]
      congr 1; funext q
      by_cases q1 : q = i
      · subst q1; rw [if_pos rfl, if_pos (by omega)]
      · rw [if_neg q1]
        by_cases q2 : q < i
        · rw [if_pos q2, if_pos (by omega)]
        · rw [if_neg q2, if_neg (by omega)]
    rw [s, wnat (n := 40) (by omega) (by omega)]
    exact h
theorem add_ (M M1 : Nat) (hM : M ≤ M1) (h0 : 1 ≤ M1) (h1 : M1 ≤ 30) (hM1 : M1 = 1 ∨ M = M1) (T : Nat → Int) (hT : ∀ q, M ≤ q → q < M1 → T q = 0) (v : Int) (hl : T (M1 - 1) + (if M1 - 1 = 0 then v else 0) = 1) : Ev (fun k => spec_l01Add.f k (wrow M T) [v] 1) (wrow M1 (fun q => T q + if q = 0 then v else 0)) := by
  have hmx : mx ((wrow M T).length : Int) (([v] : List Int).length : Int) = (M1 : Int) := by
    rw [wrow_length, show (([v] : List Int).length : Int) = 1 from rfl]
    unfold mx; split <;> omega
  unfold spec_l01Add.f
  rw [hmx, Int.toNat_natCast]
  refine evT (by omega) (evT (by omega) ?_)
  have e0 : List.replicate M1 (0 : Int) = wrow M1 (fun q => if q < 0 then T q else 0) := by
    rw [wrow_zero]; exact wrow_congr fun q _ => by rw [if_neg (by omega)]
  rw [e0]
  refine cop_l0 M M1 hM h1 T [v] 1 _ ?_ M 0 (by omega)
  refine Ev.step (fun _ => rfl) (evT (by simp) (evT (by omega) (evT (by rw [wrow_length]; omega) ?_)))
  have s : (wrow M1 (fun q => if q < M then T q else 0)).set ((0 : Int)).toNat (wrap64 (rd (wrow M1 (fun q => if q < M then T q else 0)) 0 + wrap64 (1 * rd [v] 0))) = wrow M1 (fun q => T q + if q = 0 then v else 0) := by
    have := wrow_at M1 (fun q => if q < M then T q else 0) 0 (by omega)
    rw [show ((0 : Nat) : Int) = 0 from rfl] at this
    rw [this, show rd [v] 0 = v from rfl, Int.one_mul, wr_add, show ((0 : Int)).toNat = 0 from rfl, wrow_set]
    refine wrow_congr fun q hq => ?_
    congr 1
    by_cases q1 : q = 0
    · subst q1
      rw [if_pos rfl, if_pos rfl]
      by_cases q2 : 0 < M
      · rw [if_pos q2]
      · rw [if_neg q2, hT 0 (by omega) hq]
    · rw [if_neg q1, if_neg q1, Int.add_zero]
      by_cases q2 : q < M
      · rw [if_pos q2]
      · rw [if_neg q2, hT q (by omega) hq]
  rw [s, show wrap64 (0 + 1) = 1 from w1]
  refine Ev.step (fun _ => rfl) (evF (by simp) (Ev.bind (trim_whole _ (by rw [wrow_length]; omega) (by rw [wrow_length]; omega) ?_) (evN rfl)))
  rw [wrow_length, wrow_at _ _ (M1 - 1) (by omega), hl, w1]; omega
section
variable (f : List Int) (m : Nat) (hf : f.length = m) (hm : 2 ≤ m) (hm2 : m ≤ 20) (hl : rd f ((m - 1 : Nat) : Int) = 1) (c : Int)
include hf hm hm2
theorem shift_l (hl : rd f ((m - 1 : Nat) : Int) = 1) (e : Nat) : ∀ d : Nat, d + e = m → Ev (fun k => spec_l07Shift.l0 k f c (wrow d (hor (fun k => rd f (k : Int)) c m d)) ((m : Int) - 1 - d)) (wrow m (hor (fun k => rd f (k : Int)) c m m)) := by
  induction e with
  | zero =>
    intro d hd; obtain rfl : d = m := by omega
    exact Ev.step (fun _ => rfl) (evF (by omega) (evN rfl))
  | succ e ih =>
    intro d hd
    have h := ih (d + 1) (by omega)
    have hi : (m : Int) - 1 - d = ((m - (d + 1) : Nat) : Int) := by omega
    obtain ⟨M, hM, hM2, ht⟩ := lin_times d (by omega) (hor (fun k => rd f (k : Int)) c m d) (hor_zero _ c m d) c (fun q => by
      obtain ⟨d', rfl⟩ : ∃ d', d = d' + 1 := ⟨d - 1, by omega⟩
      exact hor_last _ c m hl d')
    refine Ev.step (fun _ => rfl) (evT (by omega) (Ev.bind ht (evT (by omega) (evT (by omega) (Ev.bind (add_ M (d + 1) (by omega) (by omega) (by omega) (by omega) (nxt (hor (fun k => rd f (k : Int)) c m d) c) (fun q q1 q2 => ?_) (rd f ((m : Int) - 1 - d)) ?_) ?_)))))
    · rcases hM2 with z | z
      · subst z; obtain rfl : q = 0 := by omega
        unfold nxt; rw [if_pos rfl, hor_zero _ c m 0 0 (Nat.le_refl _), Int.mul_zero]; rfl
      · omega
    · rw [hi, Nat.add_sub_cancel]; exact hor_last (fun k => rd f (k : Int)) c m hl d
    · have e1 : (fun q => nxt (hor (fun k => rd f (k : Int)) c m d) c q + if q = 0 then rd f ((m : Int) - 1 - d) else 0) = hor (fun k => rd f (k : Int)) c m (d + 1) := by
        funext q; rw [hi]; rfl
      rw [e1, show wrap64 ((m : Int) - 1 - d - 1) = (m : Int) - 1 - ((d + 1 : Nat) : Int) by rw [wid (by omega) (by omega)]; omega]
      exact h
theorem shift_ (hl : rd f ((m - 1 : Nat) : Int) = 1) : Ev (fun k => spec_l07Shift.f k f c) (wrow m (hor (fun k => rd f (k : Int)) c m m)) := by
  have h := shift_l f m hf hm hm2 c hl m 0 (by omega)
  unfold spec_l07Shift.f
  rw [hf, wid (by omega) (by omega)]
  rw [show (m : Int) - 1 - ((0 : Nat) : Int) = (m : Int) - 1 by omega] at h
  exact h
theorem pass_l1 (i : Nat) (hi : i < m) (a : Nat → Int) (Z : Int × Int) (hZ : Ev (fun k => impl_roots.l0 k c (wrow m (dv c m i a (m - 1 - i))) (m : Int) ((i + 1 : Nat) : Int)) Z) (e : Nat) : ∀ D : Nat, D + e = m - 1 - i →
    Ev (fun k => impl_roots.l1 k c (wrow m (dv c m i a D)) (i : Int) ((m : Int) - 2 - D) (m : Int) (i : Int)) Z := by
  induction e with
  | zero =>
    intro D hD; obtain rfl : D = m - 1 - i := by omega
    refine Ev.step (fun _ => rfl) (evF (by omega) ?_)
    rw [wnat (n := 40) (by omega) (by omega)]; exact hZ
  | succ e ih =>
    intro D hD
    have h := ih (D + 1) (by omega)
    have hj : (m : Int) - 2 - D = ((m - 2 - D : Nat) : Int) := by omega
    rw [hj]
    have hw : wrap64 (((m - 2 - D : Nat) : Int) + 1) = ((m - 1 - D : Nat) : Int) := by rw [wid (by omega) (by omega)]; omega
    refine Ev.step (fun _ => rfl) (evT (by omega) (evT (by omega) (evT (by rw [wrow_length]; omega) ?_)))
    rw [hw]
    refine evT (by omega) (evT (by rw [wrow_length]; omega) ?_)
    have s : (wrow m (dv c m i a D)).set (((m - 2 - D : Nat) : Int)).toNat (wrap64 (rd (wrow m (dv c m i a D)) ((m - 2 - D : Nat) : Int) + wrap64 (c * rd (wrow m (dv c m i a D)) ((m - 1 - D : Nat) : Int)))) = wrow m (dv c m i a (D + 1)) := by
      rw [Int.toNat_natCast, wrow_at _ _ (m - 2 - D) (by omega), wrow_at _ _ (m - 1 - D) (by omega), wr_mulr, wr_add, wrow_set]
      rfl
    rw [s, show wrap64 (((m - 2 - D : Nat) : Int) - 1) = (m : Int) - 2 - ((D + 1 : Nat) : Int) by rw [wid (by omega) (by omega)]; omega]
    exact h
theorem pass_l0 (F : Nat → Int) (Z : Int × Int) (hZ : Ev (fun k => impl_roots.l2 k (wrow m (pas c m F m)) 0 0 0 (m : Int) 0) Z) (e : Nat) : ∀ i : Nat, i + e = m →
    Ev (fun k => impl_roots.l0 k c (wrow m (pas c m F i)) (m : Int) (i : Int)) Z := by
  induction e with
  | zero =>
    intro i hi; obtain rfl : i = m := by omega
    refine Ev.step (fun _ => rfl) (evF (by omega) ?_)
    rw [wrow_length]; exact hZ
  | succ e ih =>
    intro i hi
    have h := pass_l1 f m hf hm hm2 c i (by omega) (pas c m F i) Z (ih (i + 1) (by omega)) (m - 1 - i) 0 (by omega)
    refine Ev.step (fun _ => rfl) (evT (by omega) ?_)
    rw [wrow_length, wid (by omega) (by omega)]
    rw [show (m : Int) - 2 - ((0 : Nat) : Int) = (m : Int) - 2 by omega] at h
    exact h
end
theorem cnt_A (L : List Int) (hL : L.length ≤ 100) (e : Nat) : ∀ (i : Nat) (a last : Int), i + e = L.length → last ≠ 0 →
    ∃ a', Ev (fun k => spec_l07Changes.l0 k L a last (i : Int)) a' ∧ ∀ z, Ev (fun k => impl_roots.l2 k L a z last (L.length : Int) (i : Int)) (a', z) := by
  induction e with
  | zero => intro i a last hi hl; exact ⟨a, Ev.step (fun _ => rfl) (evF (by omega) (evN rfl)), fun z => Ev.step (fun _ => rfl) (evF (by omega) (evN rfl))⟩
  | succ e ih =>
    intro i a last hi hl
    have hw : wrap64 ((i : Int) + 1) = ((i + 1 : Nat) : Int) := wnat (n := 200) (by omega) (by omega)
    have j3 : ∀ (b : Bool) (a z x : Int) r, b = false → Ev (fun k => if x = 0 then (impl_roots.l2 k L a z last (L.length : Int) (wrap64 ((i : Int) + 1))) else (if last = 0 then (impl_roots.l2 k L a z x (L.length : Int) (wrap64 ((i : Int) + 1))) else (if ((decide (last < 0)) != (decide (x < 0))) = true then (impl_roots.l2 k L (wrap64 (a + 1)) z x (L.length : Int) (wrap64 ((i : Int) + 1))) else (impl_roots.l2 k L a z x (L.length : Int) (wrap64 ((i : Int) + 1)))))) r → Ev (fun k => impl_roots.j3 k L a z last x (L.length : Int) (i : Int) b) r :=
      fun b a z x r hb h => Ev.step (fun _ => rfl) (evF (by simp [hb]) h)
    by_cases x0 : rd L (i : Int) = 0
    · obtain ⟨a', s, t⟩ := ih (i + 1) a last (by omega) hl
      rw [← hw] at s t
      exact ⟨a', Ev.step (fun _ => rfl) (evT (by omega) (evT (by omega) (evT x0 s))), fun z => Ev.step (fun _ => rfl) (evT (by omega) (evT (by omega) (evT (by omega) (evT x0 (j3 _ a z _ _ (by simpa using hl) (evT x0 (t z)))))))⟩
    · by_cases sg : ((decide ((rd L (i : Int)) > 0)) != (decide (last > 0))) = true
      · have sg2 : ((decide (last < 0)) != (decide (rd L (i : Int) < 0))) = true := by
          by_cases p : rd L (i : Int) > 0 <;> by_cases q : last > 0 <;> simp [p, q] at sg ⊢ <;> omega
        obtain ⟨a', s, t⟩ := ih (i + 1) (wrap64 (a + 1)) (rd L (i : Int)) (by omega) x0
        rw [← hw] at s t
        exact ⟨a', Ev.step (fun _ => rfl) (evT (by omega) (evT (by omega) (evF x0 (evF hl (evT sg s))))), fun z => Ev.step (fun _ => rfl) (evT (by omega) (evT (by omega) (evT (by omega) (evF x0 (j3 false a z _ _ rfl (evF x0 (evF hl (evT sg2 (t z)))))))))⟩
      · have sg2 : ¬ ((decide (last < 0)) != (decide (rd L (i : Int) < 0))) = true := by
          by_cases p : rd L (i : Int) > 0 <;> by_cases q : last > 0 <;> simp [p, q] at sg ⊢ <;> omega
        obtain ⟨a', s, t⟩ := ih (i + 1) a (rd L (i : Int)) (by omega) x0
        rw [← hw] at s t
        exact ⟨a', Ev.step (fun _ => rfl) (evT (by omega) (evT (by omega) (evF x0 (evF hl (evF sg s))))), fun z => Ev.step (fun _ => rfl) (evT (by omega) (evT (by omega) (evT (by omega) (evF x0 (j3 false a z _ _ rfl (evF x0 (evF hl (evF sg2 (t z)))))))))⟩
theorem cnt_B (L : List Int) (hL : L.length ≤ 100) (e : Nat) : ∀ (i : Nat), i + e = L.length →
    ∃ a' z', Ev (fun k => spec_l07Changes.l0 k L 0 0 (i : Int)) a' ∧ Ev (fun k => spec_l07At.l0 k L (i : Int)) z' ∧ Ev (fun k => impl_roots.l2 k L 0 (i : Int) 0 (L.length : Int) (i : Int)) (a', z') := by
  induction e with
  | zero => intro i hi; exact ⟨0, i, Ev.step (fun _ => rfl) (evF (by omega) (evN rfl)), Ev.step (fun _ => rfl) (evF (by omega) (evN rfl)), Ev.step (fun _ => rfl) (evF (by omega) (evN rfl))⟩
  | succ e ih =>
    intro i hi
    have hw : wrap64 ((i : Int) + 1) = ((i + 1 : Nat) : Int) := wnat (n := 200) (by omega) (by omega)
    by_cases x0 : rd L (i : Int) = 0
    · obtain ⟨a', z', s, u, t⟩ := ih (i + 1) (by omega)
      rw [← hw] at s t u
      have j3 : ∀ (b : Bool), b = true → Ev (fun k => impl_roots.j3 k L 0 (i : Int) 0 (rd L (i : Int)) (L.length : Int) (i : Int) b) (a', z') := fun b hb => Ev.step (fun _ => rfl) (evT hb t)
      exact ⟨a', z', Ev.step (fun _ => rfl) (evT (by omega) (evT (by omega) (evT x0 s))), Ev.step (fun _ => rfl) (evT (by omega) (evT (by omega) (evT x0 u))), Ev.step (fun _ => rfl) (evT (by omega) (evT (by omega) (evT (by omega) (evT x0 (j3 _ rfl)))))⟩
    · obtain ⟨a', s, t⟩ := cnt_A L hL e (i + 1) 0 (rd L (i : Int)) (by omega) x0
      rw [← hw] at s t
      have j3 : ∀ (b : Bool), b = false → Ev (fun k => impl_roots.j3 k L 0 (i : Int) 0 (rd L (i : Int)) (L.length : Int) (i : Int) b) (a', (i : Int)) := fun b hb => Ev.step (fun _ => rfl) (evF (by simp [hb]) (evF x0 (evT rfl (t _))))
      exact ⟨a', i, Ev.step (fun _ => rfl) (evT (by omega) (evT (by omega) (evF x0 (evT rfl s)))), Ev.step (fun _ => rfl) (evT (by omega) (evT (by omega) (evF x0 (evN rfl)))), Ev.step (fun _ => rfl) (evT (by omega) (evT (by omega) (evT (by omega) (evF x0 (j3 false rfl)))))⟩
theorem roots_both (f : List Int) (m : Nat) (hf : f.length = m) (hm : 2 ≤ m) (hm2 : m ≤ 20) (hl : rd f ((m - 1 : Nat) : Int) = 1) (hw : ∀ x ∈ f, wrap64 x = x) (c : Int) :
    ∃ a z, Ev (fun k => spec_l07Above.f k f c) a ∧ Ev (fun k => spec_l07At.f k f c) z ∧ Ev (fun k => impl_roots.f k f c) (a, z) := by
  have sh := shift_ f m hf hm hm2 c hl
  have e1 : wrow m (hor (fun k => rd f (k : Int)) c m m) = wrow m (pas c m (fun k => rd f (k : Int)) m) := wrow_congr fun q hq => by rw [shift_same c m _ hm q hq]
  rw [e1] at sh
  have hlen := wrow_length m (pas c m (fun k => rd f (k : Int)) m)
  obtain ⟨a, z, s, u, t⟩ := cnt_B (wrow m (pas c m (fun k => rd f (k : Int)) m)) (by rw [hlen]; omega) m 0 (by rw [hlen]; omega)
  refine ⟨a, z, ?_, ?_, ?_⟩
  · unfold spec_l07Above.f; exact Ev.bind sh (Ev.bind s (evN rfl))
  · unfold spec_l07At.f; exact Ev.bind sh u
  · unfold impl_roots.f
    refine Ev.bind (evN (clone_ f (by omega))) ?_
    rw [hf]
    have e2 : f = wrow m (pas c m (fun k => rd f (k : Int)) 0) := by
      have := row_self f hw
      rw [hf] at this; exact this
    rw [hlen] at t
    have h := pass_l0 f m hf hm hm2 c (fun k => rd f (k : Int)) (a, z) t m 0 (by omega)
    rw [← e2] at h; exact h
end Go.Proofs.Ytimdklhkhjpmbaa.Q
end
section
namespace Go.Proofs.Ytimdklhkhjpmbaa.Q
open Go.RowKit Go.Proofs.Ytimdklhkhjpmbaa.X Go.Proofs.Ytimdklhkhjpmbaa.Dt Go.Proofs.YtimdklhkhjpmbaaW.PrintWords Go.Proofs.YtimdklhkhjpmbaaW.PrintLast Go.Proofs.YtimdklhkhjpmbaaW.PrintMore
set_option linter.unusedVariables false
theorem eig_both (N : Nat) (P : List (Nat × Nat)) (g : G8 N P) (c : Int) : ∃ A r a z, Ev (fun k => spec_l01Adjacency.f k (N : Int) (edg P)) A ∧ Ev (fun k => spec_l07Of.f k A) r ∧ Ev (fun k => impl_Graph_characteristic.f k (N : Int) (edg P)) r ∧ Ev (fun k => spec_l07Above.f k r c) a ∧ Ev (fun k => spec_l07At.f k r c) z ∧ Ev (fun k => impl_roots.f k r c) (a, z) := by
  have h8 := g.hi; have h1 := g.lo
  have sA := adjSpec N P g
  have iA := adjImpl N P g
  rw [adj_w N P g.len] at sA iA
  obtain ⟨r, hr, r1, hw, s, i⟩ := char_one N _ h8 (adj_sml N P g.len)
  obtain ⟨a, z, u, v, w⟩ := roots_both r (N + 1) hr (by omega) (by omega) (by rw [Nat.add_sub_cancel]; exact r1) hw c
  exact ⟨_, r, a, z, sA, s, by unfold impl_Graph_characteristic.f; exact Ev.bind iA (Ev.bind i (evN rfl)), u, v, w⟩
theorem wit_ (c : Int) : spec_l01In.f c (-30) 30 = some (decide (-30 ≤ c ∧ c ≤ 30)) ∧ impl_isValue.f c = some (decide (-30 ≤ c ∧ c ≤ 30)) := by
  unfold impl_isValue.f impl_within.f spec_l01In.f
  by_cases h : c ≥ -30
  · rw [if_pos h]
    have : (-30 ≤ c ∧ c ≤ 30) ↔ c ≤ 30 := by omega
    simp [this]
  · rw [if_neg h, decide_eq_false (by omega)]; exact ⟨rfl, rfl⟩
end Go.Proofs.Ytimdklhkhjpmbaa.Q
end
section
namespace Go.Proofs.Ytimdklhkhjpmbaa.Q
open Go.RowKit Go.Proofs.Ytimdklhkhjpmbaa.X Go.Proofs.Ytimdklhkhjpmbaa.Dt Go.Proofs.YtimdklhkhjpmbaaW.PrintWords Go.Proofs.YtimdklhkhjpmbaaW.PrintLast Go.Proofs.YtimdklhkhjpmbaaW.PrintMore
set_option linter.unusedVariables false
theorem both (n : Int) (E : List (List Int)) (hE : E.length ≤ 1048576) (c : Int) : ∃ r, Ev (fun k => spec_EigenAbove.f k n E c) r ∧ Ev (fun k => impl_EigenAbove.f k n E c) r := by
  have h1 := isSpec n E hE; have h2 := isImpl n E hE
  obtain ⟨w1, w2⟩ := wit_ c
  unfold spec_EigenAbove.f impl_EigenAbove.f spec_l07Code.f impl_graphCode_of_EigenAbove_1.f impl_EigenAbove_1_c.f
  by_cases h : VG n E = true
  · rw [h] at h1 h2
    obtain ⟨N, P, rfl, rfl, g⟩ := VG_true h
    by_cases hc : -30 ≤ c ∧ c ≤ 30
    · rw [decide_eq_true hc] at w1 w2
      obtain ⟨A, r, a, z, s1, s2, i1, u, v, w⟩ := eig_both N P g c
      exact ⟨(a, 0), Ev.bind (Ev.bind h1 (evT rfl (Ev.bind (evN w1) (evT rfl (evN rfl))))) (evT rfl (Ev.bind s1 (Ev.bind s2 (Ev.bind u (evN rfl))))), Ev.bind (Ev.bind h2 (evT rfl (Ev.bind (Ev.bind (evN w2) (evN rfl)) (evT rfl (evN rfl))))) (evT rfl (Ev.bind i1 (Ev.bind w (evN rfl))))⟩
    · rw [decide_eq_false hc] at w1 w2
      exact ⟨(0, 2), Ev.bind (Ev.bind h1 (evT rfl (Ev.bind (evN w1) (evF (by simp) (evN rfl))))) (evF (by omega) (evN rfl)), Ev.bind (Ev.bind h2 (evT rfl (Ev.bind (Ev.bind (evN w2) (evN rfl)) (evF (by simp) (evN rfl))))) (evF (by omega) (evN rfl))⟩
  · rw [Bool.eq_false_iff.2 h] at h1 h2
    exact ⟨(0, 1), Ev.bind (Ev.bind h1 (evF (by simp) (evN rfl))) (evF (by omega) (evN rfl)), Ev.bind (Ev.bind h2 (evF (by simp) (evN rfl))) (evF (by omega) (evN rfl))⟩
theorem FnExactEigenAbove (n : Int) (E : List (List Int)) (c : Int) (hn : (Lit.int .i64 n).wf = true) (hE : E.length ≤ 9223372036854775807) (ha : ∀ l ∈ E, l.length ≤ 9223372036854775807 ∧ ∀ x ∈ l, (Lit.int .i64 x).wf = true) (hc : (Lit.int .i64 c).wf = true) : ∃ k, laws_FnExactEigenAbove.f k n E c = some true := by
  apply Ev.rounds
  unfold laws_FnExactEigenAbove.f
  obtain ⟨t, ht, hp⟩ := szGraph n E hE (fun l hl => (ha l hl).1)
  refine Ev.bind ht ?_
  rcases hp with hp | ⟨_, _, h1, h2⟩
  · exact evT hp (evN rfl)
  · refine evF (by omega) ?_
    have hG := toGraph n E h1 h2
    obtain ⟨⟨b, d⟩, hs, hi⟩ := both n E h1 c
    refine Ev.bind hG (Ev.bind hs (Ev.bind hG (Ev.bind hi (evT rfl ?_))))
    refine Ev.step (fun _ => rfl) (evF (by simp) (Ev.bind hG (Ev.bind (eqGraph_self n E h1 h2) (evT rfl (evN rfl)))))
end Go.Proofs.Ytimdklhkhjpmbaa.Q
end
section
namespace Go.Proofs.Ytimdklhkhjpmbaa.Gr
open Go.ChangeShapes Go.WideShapes Go.ChangeAt Go.RowKit Go.Deep Go.Proofs.YtimdklhkhjpmbaaW.PrintWords
set_option linter.unusedVariables false
theorem rows_C {w : World} {a : Addr} {len cap : Nat} {A : Nat → Option Addr} {L C : Nat → Nat} {Z : Nat → List Int} (hl : len ≤ cap) (hm : cap ≤ maxLen)
    (h : ∀ r, r < cap → w.cell? (a.add r) = some (.slice (A r) (L r) (C r)) ∧ L r ≤ C r ∧ C r ≤ maxLen ∧ (Z r).length = C r ∧ (∀ n ∈ Z r, (Lit.int .i64 n).wf = true) ∧ (A r = none → C r = 0) ∧
        ∀ a', A r = some a' → 0 ≤ a'.block ∧ ∀ c, c < C r → w.cell? (a'.add c) = some (.int .i64 ((Z r).getD c 0))) :
    ∃ ls : List (List Int), ls.length = len ∧ Kd.C (Kd.slice 2 (Kd.int .i64)) w (some a) ls.length ls ∧ ∀ l ∈ ls, l.length ≤ maxLen ∧ ∀ n ∈ l, (Lit.int .i64 n).wf = true := by
  refine ⟨(List.range len).map fun r => (Z r).take (L r), by simp, ?_, ?_⟩
  · simp only [maxLen] at hm
    refine ⟨by simp, by simp; omega, fun _ => ⟨a, rfl, fun j p hj => ?_⟩⟩
    have hj1 : j < len := by
      have := (List.getElem?_eq_some_iff.1 hj).1
      simpa using this
    have hp : p = (Z j).take (L j) := by
      have : ((List.range len).map fun r => (Z r).take (L r))[j]? = some ((Z j).take (L j)) := by simp [hj1]
      rw [this] at hj
      exact (Option.some.inj hj).symm
    subst hp
    obtain ⟨h1, h2, h3, h4, h5, h6, h7⟩ := h j (by omega)
    have hl1 : ((Z j).take (L j)).length = L j := by rw [List.length_take]; omega
    refine ⟨[.slice (A j) (L j) (C j)], rfl, ?_, ?_⟩
    · refine ⟨A j, C j, by rw [hl1], by rw [hl1]; exact h2, ?_⟩
      simp only [maxLen] at h3
      refine ⟨rfl, by rw [hl1]; omega, fun hpos => ?_⟩
      rcases ha : A j with _ | a'
      · have := h6 ha; omega
      · refine ⟨a', rfl, fun i x hi => ⟨[.int .i64 x], rfl, rfl, fun q u hu => ?_⟩⟩
        have hi1 : i < L j := by have := (List.getElem?_eq_some_iff.1 hi).1; omega
        have hx : (Z j).getD i 0 = x := by
          rw [List.getElem?_take] at hi
          rw [if_pos hi1] at hi
          rw [List.getD_eq_getElem?_getD, hi]; rfl
        cases q with
        | zero =>
          simp only [List.getElem?_cons_zero, Option.some.injEq] at hu
          subst hu
          have := (h7 a' ha).2 i (by omega)
          rw [hx] at this
          simpa [show (Kd.int .i64).sz = 1 from rfl] using this
        | succ q => simp at hu
    · intro i u hu
      cases i with
      | zero =>
        simp only [List.getElem?_cons_zero, Option.some.injEq] at hu
        subst hu
        simpa [show (Kd.slice 2 (Kd.int .i64)).sz = 1 from rfl] using h1
      | succ i => simp at hu
  · intro l hl1
    simp only [List.mem_map, List.mem_range] at hl1
    obtain ⟨r, hr, rfl⟩ := hl1
    obtain ⟨h1, h2, h3, h4, h5, h6, h7⟩ := h r (by omega)
    exact ⟨by rw [List.length_take]; omega, fun n hn => h5 n (List.mem_of_mem_take hn)⟩
theorem open_rows {H : Type} {enc : TypeId × Value → H} {P : Program} {w : World} {held : Bool} {t e : TypeId} {fuel : Nat} {v : Value} {x : DataW H × List MemPlace} (ht : P.underlying t = some (.slice e)) (he : P.underlying e = some (.slice 2)) (hq : P.underlying 2 = some (.int .i64))
    (ce : P.cellsOf e = 1) (cq : P.cellsOf 2 = 1) (h : DataW.trod enc P w 0 (fun _ => true) held fuel t [v] = some x) :
    ∃ (A : Option Addr) (cap : Nat) (ls : List (List Int)), v = .slice A ls.length cap ∧ ls.length ≤ cap ∧ cap ≤ maxLen ∧ Kd.C (Kd.slice 2 (Kd.int .i64)) w A ls.length ls ∧ ∀ l ∈ ls, l.length ≤ maxLen ∧ ∀ n ∈ l, (Lit.int .i64 n).wf = true := by
  rcases open_int_rows ht he hq ce cq h with ⟨hcs, _⟩ | ⟨a, len, cap, A, L, C, Z, hcs, _, hl, hm, _, hr⟩
  · obtain rfl : v = .slice none 0 0 := by simpa using hcs
    exact ⟨none, 0, [], rfl, by simp, by simp, Kd.C_nil _ _, by simp⟩
  · obtain rfl : v = .slice (some a) len cap := by simpa using hcs
    obtain ⟨ls, rfl, hC, hall⟩ := rows_C hl hm hr
    exact ⟨some a, cap, ls, rfl, hl, hm, hC, hall⟩
theorem open_graph {H : Type} {enc : TypeId × Value → H} {P : Program} {w : World} {held : Bool} {r : Reach} {b0 : Nat} {t e q : TypeId} {f0 f1 : Field} {v : Value} {d : DataW H} {p : List MemPlace} (hs : P.underlying t = some (.struct #[f0, f1])) (h0 : f0.type = 2) (h1 : f1.type = e)
    (he : P.underlying e = some (.slice q)) (hq : P.underlying q = some (.slice 2)) (hi : P.underlying 2 = some (.int .i64)) (hone : oneCellFields P #[f0, f1] = true) (hC : P.cellsOf t = 2) (cq : P.cellsOf q = 1) (ci : P.cellsOf 2 = 1)
    (hv : Value.okWide P w r b0 t v) (h : DataW.Trod enc P w 0 (fun _ => true) held t v d p) :
    ∃ (n : Int) (A : Option Addr) (cap : Nat) (ls : List (List Int)), v = .agg #[.int .i64 n, .slice A ls.length cap] ∧ (Lit.int .i64 n).wf = true ∧ ls.length ≤ cap ∧ ls.length ≤ 9223372036854775807 ∧ Kd.C (Kd.slice 2 (Kd.int .i64)) w A ls.length ls ∧ ∀ l ∈ ls, l.length ≤ 9223372036854775807 ∧ ∀ n ∈ l, (Lit.int .i64 n).wf = true := by
  obtain ⟨v0, v1, y0, y1, n, rfl, rfl, rfl, t0, t1⟩ := Joins.open_agg2 hs hone hC hv h
  subst h1
  rw [h0] at t0
  obtain ⟨z, hz, _, hw⟩ := DataW.trod_int hi t0
  obtain rfl : v0 = .int .i64 z := by simpa using hz
  obtain ⟨A, cap, ls, rfl, hl, hm, hC1, hall⟩ := open_rows he hq hi cq ci t1
  simp only [maxLen] at hm hall
  exact ⟨z, A, cap, ls, rfl, hw, hl, by omega, hC1, hall⟩
end Go.Proofs.Ytimdklhkhjpmbaa.Gr
end
