/- Words, what the functions that FnSpectra reaches compute, and the plain laws on it; part 17. -/
import Derived.Test.YtoacolpbdbojeaaJFnSpectra16
section
namespace Go.Proofs.Ytoacolpbdbojeaa.Q
open Go.RowKit Go.Proofs.Ytoacolpbdbojeaa.X Go.Proofs.Ytoacolpbdbojeaa.Dt Go.Proofs.YtoacolpbdbojeaaW.PrintWords Go.Proofs.YtoacolpbdbojeaaW.PrintLast Go.Proofs.YtoacolpbdbojeaaW.PrintMore
set_option linter.unusedVariables false
set_option linter.unusedSectionVars false
theorem hor_last (F : Nat → Int) (c : Int) (m : Nat) (h : F (m - 1) = 1) (d : Nat) : hor F c m (d + 1) d = 1 := by
  induction d with
  | zero =>
    show (if 0 = 0 then 0 else _) + c * 0 + (if 0 = 0 then F (m - (0 + 1)) else 0) = 1
    rw [if_pos rfl, if_pos rfl, Int.mul_zero, Nat.zero_add, h]; rfl
  | succ d ih =>
    show (if d + 1 = 0 then 0 else hor F c m (d + 1) (d + 1 - 1)) + c * hor F c m (d + 1) (d + 1) + (if d + 1 = 0 then F (m - (d + 1 + 1)) else 0) = 1
    rw [if_neg (by omega), if_neg (by omega), Nat.add_sub_cancel, ih, hor_zero F c m (d + 1) (d + 1) (Nat.le_refl _), Int.mul_zero]; rfl
def lin (O : Nat → Int) (c : Int) (i q : Nat) : Int := (if q = 0 ∨ i < q then 0 else O (q - 1)) + (if q < i then c * O q else 0)
theorem lin_l0 (d : Nat) (hd : 1 ≤ d) (hd2 : d ≤ 20) (O : Nat → Int) (c : Int) (Z : List Int) (hZ : Ev (fun k => f72z.f k (wrow (d + 1) (lin O c d))) Z) (e : Nat) : ∀ i : Nat, i + e = d →
    Ev (fun k => f58z.l0 k (wrow d O) [c, 1] (wrow (d + 1) (lin O c i)) (i : Int)) Z := by
  induction e with
  | zero =>
    intro i hi; obtain rfl : i = d := by omega
    exact Ev.step (fun _ => rfl) (evF (by rw [wrow_length]; omega) (Ev.bind hZ (evN rfl)))
  | succ e ih =>
    intro i hi
    have h := ih (i + 1) (by omega)
    have hw0 : wrap64 ((i : Int) + 0) = (i : Int) := by rw [wid (by omega) (by omega)]; omega
    have hw1 : wrap64 ((i : Int) + wrap64 (0 + 1)) = ((i + 1 : Nat) : Int) := by rw [show wrap64 (0 + 1) = 1 from w1, wid (by omega) (by omega)]; omega
    refine Ev.step (fun _ => rfl) (evT (by rw [wrow_length]; omega) ?_)
    refine Ev.step (fun _ => rfl) (evT (by simp) ?_)
    rw [hw0]
    refine evT (by omega) (evT (by rw [wrow_length]; omega) (evT (by omega) (evT (by rw [wrow_length]; omega) (evT (by omega) ?_))))
    refine Ev.step (fun _ => rfl) (evT (by rw [show wrap64 (0 + 1) = 1 from w1]; simp) ?_)
    rw [hw1]
    refine evT (by omega) (evT (by simp [wrow_length]; omega) (evT (by omega) (evT (by rw [wrow_length]; omega) (evT (by rw [show wrap64 (0 + 1) = 1 from w1]; omega) ?_))))
    refine Ev.step (fun _ => rfl) (evF (by rw [show wrap64 (0 + 1) = 1 from w1]; simp [wrap64]) ?_)
    have s1 : (wrow (d + 1) (lin O c i)).set ((i : Int)).toNat (wrap64 (rd (wrow (d + 1) (lin O c i)) (i : Int) + wrap64 (rd (wrow d O) (i : Int) * rd [c, 1] 0))) = wrow (d + 1) (fun q => if q = i then lin O c i i + O i * c else lin O c i q) := by
      rw [Int.toNat_natCast, wrow_at _ _ i (by omega), wrow_at _ _ i (by omega), show rd [c, 1] 0 = c from rfl, wr_mull, wr_add, wrow_set]
    rw [s1]
    have s2 : (wrow (d + 1) (fun q => if q = i then lin O c i i + O i * c else lin O c i q)).set (((i + 1 : Nat) : Int)).toNat (wrap64 (rd (wrow (d + 1) (fun q => if q = i then lin O c i i + O i * c else lin O c i q)) ((i + 1 : Nat) : Int) + wrap64 (rd (wrow d O) (i : Int) * rd [c, 1] (wrap64 (0 + 1))))) = wrow (d + 1) (lin O c (i + 1)) := by
      rw [Int.toNat_natCast, wrow_at _ _ (i + 1) (by omega), wrow_at _ _ i (by omega), show rd [c, 1] (wrap64 (0 + 1)) = 1 from by rw [show wrap64 (0 + 1) = 1 from w1]; rfl, wr_mull, wr_add, wrow_set]
      congr 1; funext q
      by_cases q1 : q = i + 1
      · subst q1
        rw [if_pos rfl, if_neg (by omega)]
        unfold lin
        rw [if_pos (by omega), if_neg (by omega), if_neg (by omega), if_neg (by omega), Nat.add_sub_cancel]; omega
      · rw [if_neg q1]
        by_cases q2 : q = i
        · subst q2
          rw [if_pos rfl]
          unfold lin
          rw [if_neg (by omega : ¬ q < q), if_pos (by omega : q < q + 1), Int.add_zero, Int.mul_comm]
          by_cases q3 : q = 0
          · rw [if_pos (by omega), if_pos (by omega)]
          · rw [if_neg (by omega), if_neg (by omega)]
        · rw [if_neg q2]
          unfold lin
          have c1 : (q = 0 ∨ i < q) ↔ (q = 0 ∨ i + 1 < q) := by omega
          have c2 : q < i ↔ q < i + 1 := by omega
          simp only [c1, c2]
    rw [s2, wnat (n := 40) (by omega) (by omega)]
    exact h
def nxt (O : Nat → Int) (c : Int) (q : Nat) : Int := (if q = 0 then 0 else O (q - 1)) + c * O q
theorem lin_times (d : Nat) (hd2 : d ≤ 20) (O : Nat → Int) (hO : ∀ q, d ≤ q → O q = 0) (c : Int) (h1 : 1 ≤ d → O (d - 1) = 1) : ∃ M, M ≤ d + 1 ∧ (d = 0 ∨ M = d + 1) ∧ Ev (fun k => f58z.f k (wrow d O) [c, 1]) (wrow M (nxt O c)) := by
  by_cases z : d = 0
  · subst z
    refine ⟨0, by omega, by omega, ?_⟩
    have st : ∀ b : Bool, b = true → Ev (fun k => f58z.j0 k ([] : List Int) [c, 1] b) (wrow 0 (nxt O c)) := fun b hb => Ev.step (fun _ => rfl) (evT hb (evN rfl))
    unfold f58z.f
    exact evT rfl (st true rfl)
  · refine ⟨d + 1, by omega, by omega, ?_⟩
    have e : wrow (d + 1) (lin O c d) = wrow (d + 1) (nxt O c) := by
      refine wrow_congr fun q hq => ?_
      congr 1
      unfold lin nxt
      by_cases q1 : q = 0
      · rw [if_pos (by omega), if_pos q1, if_pos (by omega)]
      · rw [if_neg (by omega), if_neg q1]
        by_cases q2 : q < d
        · rw [if_pos q2]
        · rw [if_neg q2, hO q (by omega), Int.mul_zero]
    have hl : rd (wrow (d + 1) (lin O c d)) (((wrow (d + 1) (lin O c d)).length - 1 : Nat) : Int) ≠ 0 := by
      rw [wrow_length, Nat.add_sub_cancel, wrow_at _ _ d (by omega)]
      unfold lin
      rw [if_neg (by omega), if_neg (by omega), h1 (by omega), Int.add_zero, w1]; omega
    have h := lin_l0 d (by omega) hd2 O c _ (trim_whole _ (by rw [wrow_length]; omega) (by rw [wrow_length]; omega) hl) d 0 (by omega)
    have e0 : wrow (d + 1) (lin O c 0) = List.replicate (d + 1) 0 := by
      rw [wrow_zero]
      refine wrow_congr fun q hq => ?_
      unfold lin
      rw [if_pos (by omega), if_neg (by omega)]; rfl
    rw [e0, e] at h
    unfold f58z.f
    refine evF (by rw [wrow_length]; omega) ?_
    have hw : wrap64 ((wrap64 (((wrow d O).length : Int) + (([c, 1] : List Int).length : Int))) - 1) = ((d + 1 : Nat) : Int) := by
      rw [wrow_length, show (([c, 1] : List Int).length : Int) = 2 from rfl, wid (x := (d : Int) + 2) (by omega) (by omega), wid (by omega) (by omega)]; omega
    have st : ∀ b : Bool, b = false → Ev (fun k => f58z.j0 k (wrow d O) [c, 1] b) (wrow (d + 1) (nxt O c)) := fun b hb => Ev.step (fun _ => rfl) (evF (by simp [hb]) (by
      rw [hw, Int.toNat_natCast]
      exact evT (by omega) (evT (by omega) h)))
    exact st _ (by simp)
theorem cop_l0 (M M1 : Nat) (hM : M ≤ M1) (h1 : M1 ≤ 30) (T : Nat → Int) (v : List Int) (c : Int) (Z : List Int) (hZ : Ev (fun k => f82z.l1 k v c (wrow M1 (fun q => if q < M then T q else 0)) 0) Z) (e : Nat) : ∀ i : Nat, i + e = M →
    Ev (fun k => f82z.l0 k (wrow M T) v c (wrow M1 (fun q => if q < i then T q else 0)) (i : Int)) Z := by
  induction e with
  | zero =>
    intro i hi; obtain rfl : i = M := by omega
    exact Ev.step (fun _ => rfl) (evF (by rw [wrow_length]; omega) hZ)
  | succ e ih =>
    intro i hi
    have h := ih (i + 1) (by omega)
    refine Ev.step (fun _ => rfl) (evT (by rw [wrow_length]; omega) (evT (by omega) (evT (by rw [wrow_length]; omega) ?_)))
    have s : (wrow M1 (fun q => if q < i then T q else 0)).set ((i : Int)).toNat (rd (wrow M T) (i : Int)) = wrow M1 (fun q => if q < i + 1 then T q else 0) := by
      rw [Int.toNat_natCast, wrow_at _ _ i (by omega), wrow_set]
      congr 1; funext q
      by_cases q1 : q = i
      · subst q1; rw [if_pos rfl, if_pos (by omega)]
      · rw [if_neg q1]
        by_cases q2 : q < i
        · rw [if_pos q2, if_pos (by omega)]
        · rw [if_neg q2, if_neg (by omega)]
    rw [s, wnat (n := 40) (by omega) (by omega)]
    exact h
theorem add_ (M M1 : Nat) (hM : M ≤ M1) (h0 : 1 ≤ M1) (h1 : M1 ≤ 30) (hM1 : M1 = 1 ∨ M = M1) (T : Nat → Int) (hT : ∀ q, M ≤ q → q < M1 → T q = 0) (v : Int) (hl : T (M1 - 1) + (if M1 - 1 = 0 then v else 0) = 1) : Ev (fun k => f82z.f k (wrow M T) [v] 1) (wrow M1 (fun q => T q + if q = 0 then v else 0)) := by
  have hmx : mx ((wrow M T).length : Int) (([v] : List Int).length : Int) = (M1 : Int) := by
    rw [wrow_length, show (([v] : List Int).length : Int) = 1 from rfl]
    unfold mx; split <;> omega
  unfold f82z.f
  rw [hmx, Int.toNat_natCast]
  refine evT (by omega) (evT (by omega) ?_)
  have e0 : List.replicate M1 (0 : Int) = wrow M1 (fun q => if q < 0 then T q else 0) := by
    rw [wrow_zero]; exact wrow_congr fun q _ => by rw [if_neg (by omega)]
  rw [e0]
  refine cop_l0 M M1 hM h1 T [v] 1 _ ?_ M 0 (by omega)
  refine Ev.step (fun _ => rfl) (evT (by simp) (evT (by omega) (evT (by rw [wrow_length]; omega) ?_)))
  have s : (wrow M1 (fun q => if q < M then T q else 0)).set ((0 : Int)).toNat (wrap64 (rd (wrow M1 (fun q => if q < M then T q else 0)) 0 + wrap64 (1 * rd [v] 0))) = wrow M1 (fun q => T q + if q = 0 then v else 0) := by
    have := wrow_at M1 (fun q => if q < M then T q else 0) 0 (by omega)
    rw [show ((0 : Nat) : Int) = 0 from rfl] at this
    rw [this, show rd [v] 0 = v from rfl, Int.one_mul, wr_add, show ((0 : Int)).toNat = 0 from rfl, wrow_set]
    refine wrow_congr fun q hq => ?_
    congr 1
    by_cases q1 : q = 0
    · subst q1
      rw [if_pos rfl, if_pos rfl]
      by_cases q2 : 0 < M
      · rw [if_pos q2]
      · rw [if_neg q2, hT 0 (by omega) hq]
    · rw [if_neg q1, if_neg q1, Int.add_zero]
      by_cases q2 : q < M
      · rw [if_pos q2]
      · rw [if_neg q2, hT q (by omega) hq]
  rw [s, show wrap64 (0 + 1) = 1 from w1]
  refine Ev.step (fun _ => rfl) (evF (by simp) (Ev.bind (trim_whole _ (by rw [wrow_length]; omega) (by rw [wrow_length]; omega) ?_) (evN rfl)))
  rw [wrow_length, wrow_at _ _ (M1 - 1) (by omega), hl, w1]; omega
section
variable (f : List Int) (m : Nat) (hf : f.length = m) (hm : 2 ≤ m) (hm2 : m ≤ 20) (hl : rd f ((m - 1 : Nat) : Int) = 1) (c : Int)
include hf hm hm2
theorem shift_l (hl : rd f ((m - 1 : Nat) : Int) = 1) (e : Nat) : ∀ d : Nat, d + e = m → Ev (fun k => f57z.l0 k f c (wrow d (hor (fun k => rd f (k : Int)) c m d)) ((m : Int) - 1 - d)) (wrow m (hor (fun k => rd f (k : Int)) c m m)) := by
  induction e with
  | zero =>
    intro d hd; obtain rfl : d = m := by omega
    exact Ev.step (fun _ => rfl) (evF (by omega) (evN rfl))
  | succ e ih =>
    intro d hd
    have h := ih (d + 1) (by omega)
    have hi : (m : Int) - 1 - d = ((m - (d + 1) : Nat) : Int) := by omega
    obtain ⟨M, hM, hM2, ht⟩ := lin_times d (by omega) (hor (fun k => rd f (k : Int)) c m d) (hor_zero _ c m d) c (fun q => by
      obtain ⟨d', rfl⟩ : ∃ d', d = d' + 1 := ⟨d - 1, by omega⟩
      exact hor_last _ c m hl d')
    refine Ev.step (fun _ => rfl) (evT (by omega) (Ev.bind ht (evT (by omega) (evT (by omega) (Ev.bind (add_ M (d + 1) (by omega) (by omega) (by omega) (by omega) (nxt (hor (fun k => rd f (k : Int)) c m d) c) (fun q q1 q2 => ?_) (rd f ((m : Int) - 1 - d)) ?_) ?_)))))
    · rcases hM2 with z | z
      · subst z; obtain rfl : q = 0 := by omega
        unfold nxt; rw [if_pos rfl, hor_zero _ c m 0 0 (Nat.le_refl _), Int.mul_zero]; rfl
      · omega
    · rw [hi, Nat.add_sub_cancel]; exact hor_last (fun k => rd f (k : Int)) c m hl d
    · have e1 : (fun q => nxt (hor (fun k => rd f (k : Int)) c m d) c q + if q = 0 then rd f ((m : Int) - 1 - d) else 0) = hor (fun k => rd f (k : Int)) c m (d + 1) := by
        funext q; rw [hi]; rfl
      rw [e1, show wrap64 ((m : Int) - 1 - d - 1) = (m : Int) - 1 - ((d + 1 : Nat) : Int) by rw [wid (by omega) (by omega)]; omega]
      exact h
theorem shift_ (hl : rd f ((m - 1 : Nat) : Int) = 1) : Ev (fun k => f57z.f k f c) (wrow m (hor (fun k => rd f (k : Int)) c m m)) := by
  have h := shift_l f m hf hm hm2 c hl m 0 (by omega)
  unfold f57z.f
  rw [hf, wid (by omega) (by omega)]
  rw [show (m : Int) - 1 - ((0 : Nat) : Int) = (m : Int) - 1 by omega] at h
  exact h
theorem pass_l1 (i : Nat) (hi : i < m) (a : Nat → Int) (Z : Int × Int) (hZ : Ev (fun k => f90z.l0 k c (wrow m (dv c m i a (m - 1 - i))) (m : Int) ((i + 1 : Nat) : Int)) Z) (e : Nat) : ∀ D : Nat, D + e = m - 1 - i →
    Ev (fun k => f90z.l1 k c (wrow m (dv c m i a D)) (i : Int) ((m : Int) - 2 - D) (m : Int) (i : Int)) Z := by
  induction e with
  | zero =>
    intro D hD; obtain rfl : D = m - 1 - i := by omega
    refine Ev.step (fun _ => rfl) (evF (by omega) ?_)
    rw [wnat (n := 40) (by omega) (by omega)]; exact hZ
  | succ e ih =>
    intro D hD
    have h := ih (D + 1) (by omega)
    have hj : (m : Int) - 2 - D = ((m - 2 - D : Nat) : Int) := by omega
    rw [hj]
    have hw : wrap64 (((m - 2 - D : Nat) : Int) + 1) = ((m - 1 - D : Nat) : Int) := by rw [wid (by omega) (by omega)]; omega
    refine Ev.step (fun _ => rfl) (evT (by omega) (evT (by omega) (evT (by rw [wrow_length]; omega) ?_)))
    rw [hw]
    refine evT (by omega) (evT (by rw [wrow_length]; omega) ?_)
    have s : (wrow m (dv c m i a D)).set (((m - 2 - D : Nat) : Int)).toNat (wrap64 (rd (wrow m (dv c m i a D)) ((m - 2 - D : Nat) : Int) + wrap64 (c * rd (wrow m (dv c m i a D)) ((m - 1 - D : Nat) : Int)))) = wrow m (dv c m i a (D + 1)) := by
      rw [Int.toNat_natCast, wrow_at _ _ (m - 2 - D) (by omega), wrow_at _ _ (m - 1 - D) (by omega), wr_mulr, wr_add, wrow_set]
      rfl
    rw [s, show wrap64 (((m - 2 - D : Nat) : Int) - 1) = (m : Int) - 2 - ((D + 1 : Nat) : Int) by rw [wid (by omega) (by omega)]; omega]
    exact h
theorem pass_l0 (F : Nat → Int) (Z : Int × Int) (hZ : Ev (fun k => f90z.l2 k (wrow m (pas c m F m)) 0 0 0 (m : Int) 0) Z) (e : Nat) : ∀ i : Nat, i + e = m →
    Ev (fun k => f90z.l0 k c (wrow m (pas c m F i)) (m : Int) (i : Int)) Z := by
  induction e with
  | zero =>
    intro i hi; obtain rfl : i = m := by omega
    refine Ev.step (fun _ => rfl) (evF (by omega) ?_)
    rw [wrow_length]; exact hZ
  | succ e ih =>
    intro i hi
    have h := pass_l1 f m hf hm hm2 c i (by omega) (pas c m F i) Z (ih (i + 1) (by omega)) (m - 1 - i) 0 (by omega)
    refine Ev.step (fun _ => rfl) (evT (by omega) ?_)
    rw [wrow_length, wid (by omega) (by omega)]
    rw [show (m : Int) - 2 - ((0 : Nat) : Int) = (m : Int) - 2 by omega] at h
    exact h
end
theorem cnt_A (L : List Int) (hL : L.length ≤ 100) (e : Nat) : ∀ (i : Nat) (a last : Int), i + e = L.length → last ≠ 0 →
    ∃ a', Ev (fun k => f48z.l0 k L a last (i : Int)) a' ∧ ∀ z, Ev (fun k => f90z.l2 k L a z last (L.length : Int) (i : Int)) (a', z) := by
  induction e with
  | zero => intro i a last hi hl; exact ⟨a, Ev.step (fun _ => rfl) (evF (by omega) (evN rfl)), fun z => Ev.step (fun _ => rfl) (evF (by omega) (evN rfl))⟩
  | succ e ih =>
    intro i a last hi hl
    have hw : wrap64 ((i : Int) + 1) = ((i + 1 : Nat) : Int) := wnat (n := 200) (by omega) (by omega)
    have j3 : ∀ (b : Bool) (a z x : Int) r, b = false → Ev (fun k => if x = 0 then (f90z.l2 k L a z last (L.length : Int) (wrap64 ((i : Int) + 1))) else (if last = 0 then (f90z.l2 k L a z x (L.length : Int) (wrap64 ((i : Int) + 1))) else (if ((decide (last < 0)) != (decide (x < 0))) = true then (f90z.l2 k L (wrap64 (a + 1)) z x (L.length : Int) (wrap64 ((i : Int) + 1))) else (f90z.l2 k L a z x (L.length : Int) (wrap64 ((i : Int) + 1)))))) r → Ev (fun k => f90z.j3 k L a z last x (L.length : Int) (i : Int) b) r :=
      fun b a z x r hb h => Ev.step (fun _ => rfl) (evF (by simp [hb]) h)
    by_cases x0 : rd L (i : Int) = 0
    · obtain ⟨a', s, t⟩ := ih (i + 1) a last (by omega) hl
      rw [← hw] at s t
      exact ⟨a', Ev.step (fun _ => rfl) (evT (by omega) (evT (by omega) (evT x0 s))), fun z => Ev.step (fun _ => rfl) (evT (by omega) (evT (by omega) (evT (by omega) (evT x0 (j3 _ a z _ _ (by simpa using hl) (evT x0 (t z)))))))⟩
    · by_cases sg : ((decide ((rd L (i : Int)) > 0)) != (decide (last > 0))) = true
      · have sg2 : ((decide (last < 0)) != (decide (rd L (i : Int) < 0))) = true := by
          by_cases p : rd L (i : Int) > 0 <;> by_cases q : last > 0 <;> simp [p, q] at sg ⊢ <;> omega
        obtain ⟨a', s, t⟩ := ih (i + 1) (wrap64 (a + 1)) (rd L (i : Int)) (by omega) x0
        rw [← hw] at s t
        exact ⟨a', Ev.step (fun _ => rfl) (evT (by omega) (evT (by omega) (evF x0 (evF hl (evT sg s))))), fun z => Ev.step (fun _ => rfl) (evT (by omega) (evT (by omega) (evT (by omega) (evF x0 (j3 false a z _ _ rfl (evF x0 (evF hl (evT sg2 (t z)))))))))⟩
      · have sg2 : ¬ ((decide (last < 0)) != (decide (rd L (i : Int) < 0))) = true := by
          by_cases p : rd L (i : Int) > 0 <;> by_cases q : last > 0 <;> simp [p, q] at sg ⊢ <;> omega
        obtain ⟨a', s, t⟩ := ih (i + 1) a (rd L (i : Int)) (by omega) x0
        rw [← hw] at s t
        exact ⟨a', Ev.step (fun _ => rfl) (evT (by omega) (evT (by omega) (evF x0 (evF hl (evF sg s))))), fun z => Ev.step (fun _ => rfl) (evT (by omega) (evT (by omega) (evT (by omega) (evF x0 (j3 false a z _ _ rfl (evF x0 (evF hl (evF sg2 (t z)))))))))⟩
theorem cnt_B (L : List Int) (hL : L.length ≤ 100) (e : Nat) : ∀ (i : Nat), i + e = L.length →
    ∃ a' z', Ev (fun k => f48z.l0 k L 0 0 (i : Int)) a' ∧ Ev (fun k => f87z.l0 k L (i : Int)) z' ∧ Ev (fun k => f90z.l2 k L 0 (i : Int) 0 (L.length : Int) (i : Int)) (a', z') := by
  induction e with
  | zero => intro i hi; exact ⟨0, i, Ev.step (fun _ => rfl) (evF (by omega) (evN rfl)), Ev.step (fun _ => rfl) (evF (by omega) (evN rfl)), Ev.step (fun _ => rfl) (evF (by omega) (evN rfl))⟩
  | succ e ih =>
    intro i hi
    have hw : wrap64 ((i : Int) + 1) = ((i + 1 : Nat) : Int) := wnat (n := 200) (by omega) (by omega)
    by_cases x0 : rd L (i : Int) = 0
    · obtain ⟨a', z', s, u, t⟩ := ih (i + 1) (by omega)
      rw [← hw] at s t u
      have j3 : ∀ (b : Bool), b = true → Ev (fun k => f90z.j3 k L 0 (i : Int) 0 (rd L (i : Int)) (L.length : Int) (i : Int) b) (a', z') := fun b hb => Ev.step (fun _ => rfl) (evT hb t)
      exact ⟨a', z', Ev.step (fun _ => rfl) (evT (by omega) (evT (by omega) (evT x0 s))), Ev.step (fun _ => rfl) (evT (by omega) (evT (by omega) (evT x0 u))), Ev.step (fun _ => rfl) (evT (by omega) (evT (by omega) (evT (by omega) (evT x0 (j3 _ rfl)))))⟩
    · obtain ⟨a', s, t⟩ := cnt_A L hL e (i + 1) 0 (rd L (i : Int)) (by omega) x0
      rw [← hw] at s t
      have j3 : ∀ (b : Bool), b = false → Ev (fun k => f90z.j3 k L 0 (i : Int) 0 (rd L (i : Int)) (L.length : Int) (i : Int) b) (a', (i : Int)) := fun b hb => Ev.step (fun _ => rfl) (evF (by simp [hb]) (evF x0 (evT rfl (t _))))
      exact ⟨a', i, Ev.step (fun _ => rfl) (evT (by omega) (evT (by omega) (evF x0 (evT rfl s)))), Ev.step (fun _ => rfl) (evT (by omega) (evT (by omega) (evF x0 (evN rfl)))), Ev.step (fun _ => rfl) (evT (by omega) (evT (by omega) (evT (by omega) (evF x0 (j3 false rfl)))))⟩
theorem roots_both (f : List Int) (m : Nat) (hf : f.length = m) (hm : 2 ≤ m) (hm2 : m ≤ 20) (hl : rd f ((m - 1 : Nat) : Int) = 1) (hw : ∀ x ∈ f, wrap64 x = x) (c : Int) :
    ∃ a z, Ev (fun k => f56z.f k f c) a ∧ Ev (fun k => f87z.f k f c) z ∧ Ev (fun k => f90z.f k f c) (a, z) := by
  have sh := shift_ f m hf hm hm2 c hl
  have e1 : wrow m (hor (fun k => rd f (k : Int)) c m m) = wrow m (pas c m (fun k => rd f (k : Int)) m) := wrow_congr fun q hq => by rw [shift_same c m _ hm q hq]
  rw [e1] at sh
  have hlen := wrow_length m (pas c m (fun k => rd f (k : Int)) m)
  obtain ⟨a, z, s, u, t⟩ := cnt_B (wrow m (pas c m (fun k => rd f (k : Int)) m)) (by rw [hlen]; omega) m 0 (by rw [hlen]; omega)
  refine ⟨a, z, ?_, ?_, ?_⟩
  · unfold f56z.f; exact Ev.bind sh (Ev.bind s (evN rfl))
  · unfold f87z.f; exact Ev.bind sh u
  · unfold f90z.f
    refine Ev.bind (evN (clone_ f (by omega))) ?_
    rw [hf]
    have e2 : f = wrow m (pas c m (fun k => rd f (k : Int)) 0) := by
      have := row_self f hw
      rw [hf] at this; exact this
    rw [hlen] at t
    have h := pass_l0 f m hf hm hm2 c (fun k => rd f (k : Int)) (a, z) t m 0 (by omega)
    rw [← e2] at h; exact h
end Go.Proofs.Ytoacolpbdbojeaa.Q
end
section
namespace Go.Proofs.Ytoacolpbdbojeaa.Q
open Go.RowKit Go.Proofs.Ytoacolpbdbojeaa.X Go.Proofs.Ytoacolpbdbojeaa.Dt Go.Proofs.YtoacolpbdbojeaaW.PrintWords Go.Proofs.YtoacolpbdbojeaaW.PrintLast Go.Proofs.YtoacolpbdbojeaaW.PrintMore
set_option linter.unusedVariables false
theorem eig_both (N : Nat) (P : List (Nat × Nat)) (g : G8 N P) (c : Int) : ∃ A r a z, Ev (fun k => f32z.f k (N : Int) (edg P)) A ∧ Ev (fun k => f89z.f k A) r ∧ Ev (fun k => f8z.f k (N : Int) (edg P)) r ∧ Ev (fun k => f56z.f k r c) a ∧ Ev (fun k => f87z.f k r c) z ∧ Ev (fun k => f90z.f k r c) (a, z) := by
  have h8 := g.hi; have h1 := g.lo
  have sA := adjSpec N P g
  have iA := adjImpl N P g
  rw [adj_w N P g.len] at sA iA
  obtain ⟨r, hr, r1, hw, s, i⟩ := char_one N _ h8 (adj_sml N P g.len)
  obtain ⟨a, z, u, v, w⟩ := roots_both r (N + 1) hr (by omega) (by omega) (by rw [Nat.add_sub_cancel]; exact r1) hw c
  exact ⟨_, r, a, z, sA, s, by unfold f8z.f; exact Ev.bind iA (Ev.bind i (evN rfl)), u, v, w⟩
theorem wit_ (c : Int) : f88z.f c (-30) 30 = some (decide (-30 ≤ c ∧ c ≤ 30)) ∧ f62z.f c = some (decide (-30 ≤ c ∧ c ≤ 30)) := by
  unfold f62z.f f81z.f f88z.f
  by_cases h : c ≥ -30
  · rw [if_pos h]
    have : (-30 ≤ c ∧ c ≤ 30) ↔ c ≤ 30 := by omega
    simp [this]
  · rw [if_neg h, decide_eq_false (by omega)]; exact ⟨rfl, rfl⟩
end Go.Proofs.Ytoacolpbdbojeaa.Q
end
section
namespace Go.Proofs.Ytoacolpbdbojeaa.Q
open Go.RowKit Go.Proofs.Ytoacolpbdbojeaa.X Go.Proofs.Ytoacolpbdbojeaa.Dt Go.Proofs.YtoacolpbdbojeaaW.PrintWords Go.Proofs.YtoacolpbdbojeaaW.PrintLast Go.Proofs.YtoacolpbdbojeaaW.PrintMore
set_option linter.unusedVariables false
set_option linter.unusedSectionVars false
theorem tl_at (f : List Int) (d : Nat) : ∀ i, i < d → rd (tl f d) (i : Int) = vl f (d - 1 - i) := by
  induction d with
  | zero => intro i h; omega
  | succ d ih =>
    intro i h
    cases i with
    | zero => rfl
    | succ i =>
      rw [show tl f (d + 1) = (if (d : Int) < (f.length : Int) then rd f (d : Int) else 0) :: tl f d from rfl, rd_more _ _ i (by rw [tl_length]; omega), ih i (by omega), show d - 1 - i = d + 1 - 1 - (i + 1) by omega]
theorem char_full (n : Nat) (M : Nat → Nat → Int) (hn : n ≤ 8) (hM : Sml n M) : ∃ c N, Cp n M c N ∧ Ev (fun k => f89z.f k (wmat n M)) (wrow (n + 1) fun i => c (n - i)) ∧ Ev (fun k => f26z.f k (wmat n M)) (wrow (n + 1) fun i => c (n - i)) := by
  obtain ⟨c, N, hc, f, hf, hv, s, i⟩ := det_full n M hn hM
  obtain ⟨a, b⟩ := turn_t f (by omega) (n + 1) [] (by simp; omega)
  have e : ((n + 1 : Nat) : Int) - 1 = (n : Int) := by omega
  have e2 : tl f (n + 1) = wrow (n + 1) fun i => c (n - i) := by
    apply List.ext_getElem
    · rw [tl_length, wrow_length]
    · intro i h1 h2
      have h3 := tl_at f (n + 1) i (by rw [tl_length] at h1; exact h1)
      rw [rd_at _ _ h1] at h3
      rw [h3]
      simp only [wrow, List.getElem_map, List.getElem_range]
      rw [tl_length] at h1
      rw [hv (n + 1 - 1 - i) (by omega), Nat.add_sub_cancel]
  rw [e, List.nil_append, e2] at a b
  refine ⟨c, N, hc, ?_, ?_⟩
  · unfold f89z.f; rw [wmat_length]; exact Ev.bind s a
  · unfold f26z.f; rw [wmat_length]; exact Ev.bind i b
end Go.Proofs.Ytoacolpbdbojeaa.Q
end
section
namespace Go.Proofs.Ytoacolpbdbojeaa.Dt
set_option linter.unusedVariables false
theorem setc_self (M : Nat → Nat → Int) (j : Nat) : setc M j (fun a => M a j) = M := by
  funext a b; unfold setc; split
  · rename_i e; rw [e]
  · rfl
theorem setc_comm (M : Nat → Nat → Int) {j k : Nat} (h : j ≠ k) (v w : Nat → Int) : setc (setc M j v) k w = setc (setc M k w) j v := by
  funext a b; unfold setc
  by_cases q : b = k
  · rw [if_pos q, if_neg (by omega), if_pos q]
  · rw [if_neg q]
    by_cases q2 : b = j
    · rw [if_pos q2, if_pos q2]
    · rw [if_neg q2, if_neg q2, if_neg q]
theorem det_add2 {n : Nat} (M : Nat → Nat → Int) (j : Nat) (hj : j < n) (v w : Nat → Int) : det n (setc M j (fun a => v a + w a)) = det n (setc M j v) + det n (setc M j w) := by
  have := det_lin M j 1 1 v w hj
  simpa using this
theorem det_sub2 {n : Nat} (M : Nat → Nat → Int) (j : Nat) (hj : j < n) (v w : Nat → Int) : det n (setc M j (fun a => v a - w a)) = det n (setc M j v) - det n (setc M j w) := by
  have := det_lin M j 1 (-1) v w hj
  have e : (fun a => 1 * v a + -1 * w a) = fun a => v a - w a := by funext a; omega
  rw [e] at this; rw [this]; omega
theorem det_zcol {n : Nat} (M : Nat → Nat → Int) (j : Nat) (hj : j < n) : det n (setc M j (fun _ => 0)) = 0 := by
  have := det_lin M j 0 0 (fun _ => 0) (fun _ => 0) hj
  simpa using this
theorem det_two {n : Nat} (M : Nat → Nat → Int) {j k : Nat} (hj : j < n) (hk : k < n) (h : j ≠ k) (v : Nat → Int) : det n (setc (setc M j v) k v) = 0 :=
  det_eq_cols _ hj hk h (fun a => by rw [setc_ne _ _ _ h, setc_at, setc_at])
theorem det_turn {n : Nat} (M : Nat → Nat → Int) {j k : Nat} (hj : j < n) (hk : k < n) (h : j ≠ k) (v w : Nat → Int) : det n (setc (setc M j v) k w) = - det n (setc (setc M j w) k v) := by
  have h0 := det_two M hj hk h (fun a => v a + w a)
  rw [det_add2 _ k hk, setc_comm M h, setc_comm M h, det_add2 _ j hj, det_add2 _ j hj, ← setc_comm M h, ← setc_comm M h, ← setc_comm M h, ← setc_comm M h, det_two M hj hk h, det_two M hj hk h] at h0
  omega
theorem det_addcol {n : Nat} (M : Nat → Nat → Int) {j k : Nat} (hj : j < n) (hk : k < n) (h : j ≠ k) : det n (setc M j (fun a => M a j + M a k)) = det n M := by
  rw [det_add2 M j hj, setc_self, det_eq_cols (setc M j fun a => M a k) hj hk h (fun a => by rw [setc_at, setc_ne _ _ _ (fun q => h q.symm)])]; omega
theorem det_addcols {n : Nat} (M : Nat → Nat → Int) (k : Nat) (hk : k < n) (S : Nat → Prop) [DecidablePred S] (hS : ¬ S k) : det n (fun a b => if S b then M a b + M a k else M a b) = det n M := by
  have gen : ∀ t, t ≤ n → det n (fun a b => if b < t ∧ S b then M a b + M a k else M a b) = det n M := by
    intro t
    induction t with
    | zero => intro _; exact det_congr fun a b _ _ => by rw [if_neg (by omega)]
    | succ t ih =>
      intro ht
      by_cases s : S t
      · have hne : t ≠ k := fun q => hS (q ▸ s)
        have h := det_addcol (fun a b => if b < t ∧ S b then M a b + M a k else M a b) (j := t) (by omega) hk hne
        rw [ih (by omega)] at h
        rw [← h]
        refine det_congr fun a b _ _ => ?_
        unfold setc
        by_cases q : b = t
        · subst q
          rw [if_pos ⟨by omega, s⟩, if_pos rfl]
          dsimp only
          rw [if_neg (by omega), if_neg (fun z => hS z.2)]
        · rw [if_neg q]
          dsimp only
          by_cases q2 : b < t ∧ S b
          · rw [if_pos q2, if_pos ⟨by omega, q2.2⟩]
          · rw [if_neg q2, if_neg (fun z => q2 ⟨by omega, z.2⟩)]
      · rw [← ih (by omega)]
        refine det_congr fun a b _ _ => ?_
        by_cases q : b = t
        · subst q; rw [if_neg (fun z => s z.2), if_neg (by omega)]
        · by_cases q2 : b < t ∧ S b
          · rw [if_pos q2, if_pos ⟨by omega, q2.2⟩]
          · rw [if_neg q2, if_neg (fun z => q2 ⟨by omega, z.2⟩)]
  rw [← gen n (Nat.le_refl _)]
  refine det_congr fun a b _ hb => ?_
  by_cases s : S b
  · rw [if_pos s, if_pos ⟨hb, s⟩]
  · rw [if_neg s, if_neg (fun z => s z.2)]
def lapE (p : Nat × Nat) (a b : Nat) : Int := (ee p.1 a - ee p.2 a) * (ee p.1 b - ee p.2 b)
def lapL : List (Nat × Nat) → Nat → Nat → Int
  | [], _, _ => 0
  | p :: Q, a, b => lapE p a b + lapL Q a b
def mc (n : Nat) (c : Nat → Nat) (Q : List (Nat × Nat)) (j a : Nat) : Int := sm n fun u => if c u = j then lapL Q a u else 0
def mt (r : Nat) (c : Nat → Nat) (Q : List (Nat × Nat)) : Nat → Nat → Int := fun a j => if j = r then ee r a else if c j = j then mc (r + 1) c Q j a else ee j a - ee (c j) a
structure Top (r : Nat) (c : Nat → Nat) : Prop where
  le : ∀ v, v ≤ r → c v ≤ r
  up : ∀ v, v ≤ r → v ≤ c v
  idem : ∀ v, v ≤ r → c (c v) = c v
theorem Top.root {r : Nat} {c : Nat → Nat} (h : Top r c) : c r = r := by have := h.le r (Nat.le_refl _); have := h.up r (Nat.le_refl _); omega
theorem mc_cons (n : Nat) (c : Nat → Nat) (p : Nat × Nat) (Q : List (Nat × Nat)) (h1 : p.1 < n) (h2 : p.2 < n) (j a : Nat) : mc n c (p :: Q) j a = mc n c Q j a + (ee p.1 a - ee p.2 a) * (ee (c p.1) j - ee (c p.2) j) := by
  unfold mc
  have e1 : (sm n fun u => if c u = j then lapL (p :: Q) a u else 0) = (sm n fun u => if c u = j then lapL Q a u else 0) + sm n fun u => (ee p.1 a - ee p.2 a) * ((if c u = j then ee p.1 u else 0) - (if c u = j then ee p.2 u else 0)) := by
    rw [← sm_add]
    refine sm_congr fun u _ => ?_
    by_cases q : c u = j
    · rw [if_pos q, if_pos q, if_pos q, if_pos q]
      show lapE p a u + lapL Q a u = _
      unfold lapE; omega
    · rw [if_neg q, if_neg q, if_neg q, if_neg q]; simp
  rw [e1, sm_mul]
  have one : ∀ x, x < n → (sm n fun u => if c u = j then ee x u else 0) = ee (c x) j := by
    intro x hx
    rw [sm_one (j := x) hx (fun i _ hn => by unfold ee; rw [if_neg hn]; split <;> rfl)]
    unfold ee
    by_cases q : c x = j
    · rw [if_pos q, if_pos rfl, if_pos q.symm]
    · rw [if_neg q, if_neg (fun z => q z.symm)]
  have e2 : (sm n fun u => (if c u = j then ee p.1 u else 0) - (if c u = j then ee p.2 u else 0)) = ee (c p.1) j - ee (c p.2) j := by
    rw [← one p.1 h1, ← one p.2 h2]
    have := sm_add n (fun u => if c u = j then ee p.1 u else 0) (fun u => - (if c u = j then ee p.2 u else 0))
    rw [sm_neg] at this
    rw [show (fun u => (if c u = j then ee p.1 u else 0) - (if c u = j then ee p.2 u else 0)) = fun u => (if c u = j then ee p.1 u else 0) + - (if c u = j then ee p.2 u else 0) from funext fun u => by omega, this]
    omega
  rw [e2]
theorem mt_loop (r : Nat) (c : Nat → Nat) (p : Nat × Nat) (Q : List (Nat × Nat)) (h1 : p.1 ≤ r) (h2 : p.2 ≤ r) (h : c p.1 = c p.2) : mt r c (p :: Q) = mt r c Q := by
  funext a j
  unfold mt
  split
  · rfl
  · split
    · rw [mc_cons _ _ _ _ (by omega) (by omega), h, Int.sub_self, Int.mul_zero, Int.add_zero]
    · rfl
theorem mt_flip (r : Nat) (c : Nat → Nat) (x y : Nat) (Q : List (Nat × Nat)) : mt r c ((x, y) :: Q) = mt r c ((y, x) :: Q) := by
  have e : ∀ a u, lapL ((x, y) :: Q) a u = lapL ((y, x) :: Q) a u := by
    intro a u
    show lapE (x, y) a u + lapL Q a u = lapE (y, x) a u + lapL Q a u
    have : lapE (x, y) a u = lapE (y, x) a u := by
      show (ee x a - ee y a) * (ee x u - ee y u) = (ee y a - ee x a) * (ee y u - ee x u)
      grind
    rw [this]
  funext a j
  unfold mt mc
  simp only [e]
def mrg (c : Nat → Nat) (m M : Nat) : Nat → Nat := fun v => if c v = m then M else c v
theorem mrg_top {r : Nat} {c : Nat → Nat} (h : Top r c) {m M : Nat} (hm : c m = m) (hM : c M = M) (hlt : m < M) (hr : M ≤ r) : Top r (mrg c m M) := by
  refine ⟨fun v hv => ?_, fun v hv => ?_, fun v hv => ?_⟩
  · unfold mrg; split
    · exact hr
    · exact h.le v hv
  · unfold mrg; split
    · rename_i e; have := h.up v hv; omega
    · exact h.up v hv
  · show (if c (mrg c m M v) = m then M else c (mrg c m M v)) = mrg c m M v
    by_cases q : c v = m
    · have e : mrg c m M v = M := by unfold mrg; rw [if_pos q]
      rw [e, hM, if_neg (by omega)]
    · have e : mrg c m M v = c v := by unfold mrg; rw [if_neg q]
      rw [e, h.idem v hv, if_neg q]
theorem mt_step (r : Nat) (c : Nat → Nat) (hc : Top r c) (x y : Nat) (Q : List (Nat × Nat)) (hx : x ≤ r) (hy : y ≤ r) (hlt : c x < c y) : det (r + 1) (mt r c ((x, y) :: Q)) = det (r + 1) (mt r c Q) + det (r + 1) (mt r (mrg c (c x) (c y)) Q) := by
  obtain ⟨m, em⟩ : ∃ m, m = c x := ⟨_, rfl⟩
  obtain ⟨M, eM⟩ : ∃ M, M = c y := ⟨_, rfl⟩
  rw [← em, ← eM] at hlt ⊢
  have hMr : M ≤ r := by rw [eM]; exact hc.le y hy
  have cm : c m = m := by rw [em]; exact hc.idem x hx
  have cM : c M = M := by rw [eM]; exact hc.idem y hy
  have cr := hc.root
  have hne : m ≠ M := by omega
  have W : ∀ a j, mt r c Q a j = if j = r then ee r a else if c j = j then mc (r + 1) c Q j a else ee j a - ee (c j) a := fun _ _ => rfl
  have Wm : ∀ a, mt r c Q a m = mc (r + 1) c Q m a := fun a => by rw [W, if_neg (by omega), if_pos cm]
  have key : ∀ Y : Nat → Nat → Int, (∀ a j, j ≠ m → c j ≠ j → Y a j = mt r c Q a j) → (∀ a, Y a r = ee r a) →
      det (r + 1) (setc Y m (fun a => ee x a - ee y a)) = det (r + 1) (setc Y m (fun a => ee m a - ee M a)) := by
    intro Y hY hYr
    have z1 : det (r + 1) (setc Y m (fun a => ee x a - ee m a)) = 0 := by
      by_cases q : x = m
      · have e : (fun a => ee x a - ee m a) = fun _ => 0 := by funext a; rw [q]; omega
        rw [e]; exact det_zcol Y m (by omega)
      · refine det_eq_cols _ (j := m) (k := x) (by omega) (by omega) (fun z => q z.symm) (fun a => ?_)
        rw [setc_at, setc_ne _ _ _ q, hY a x q (by omega), W, if_neg (by intro z; rw [z, cr] at em; omega), if_neg (by omega), ← em]
    have z2 : det (r + 1) (setc Y m (fun a => ee y a - ee M a)) = 0 := by
      by_cases q : y = M
      · have e : (fun a => ee y a - ee M a) = fun _ => 0 := by funext a; rw [q]; omega
        rw [e]; exact det_zcol Y m (by omega)
      · have ym : y ≠ m := by intro z; rw [z, cm] at eM; omega
        refine det_eq_cols _ (j := m) (k := y) (by omega) (by omega) (fun z => ym z.symm) (fun a => ?_)
        rw [setc_at, setc_ne _ _ _ ym, hY a y ym (by omega), W, if_neg (by intro z; rw [z, cr] at eM; omega), if_neg (by omega), ← eM]
    have e : (fun a => ee x a - ee y a) = fun a => ((ee x a - ee m a) + (ee m a - ee M a)) - (ee y a - ee M a) := by funext a; omega
    rw [e, det_sub2 Y m (by omega), det_add2 Y m (by omega), z1, z2]; omega
  have fin : ∀ Y : Nat → Nat → Int, (∀ a j, j ≠ m → j ≠ M → Y a j = mt r c Q a j) → (∀ a, Y a M = mt r (mrg c m M) Q a M) → (∀ a, Y a m = ee m a - ee M a) → det (r + 1) Y = det (r + 1) (mt r (mrg c m M) Q) := by
    intro Y hY hYM hYm
    rw [← det_addcols Y m (by omega) (fun b => c b = m ∧ b ≠ m) (fun z => z.2 rfl)]
    refine det_congr fun a j _ hj => ?_
    have mg : ∀ v, mrg c m M v = if c v = m then M else c v := fun _ => rfl
    by_cases q1 : c j = m ∧ j ≠ m
    · rw [if_pos q1, hY a j q1.2 (by intro z; rw [z, cM] at q1; omega), hYm, W]
      show _ = if j = r then ee r a else if mrg c m M j = j then mc (r + 1) (mrg c m M) Q j a else ee j a - ee (mrg c m M j) a
      have jr : j ≠ r := by intro z; rw [z, cr] at q1; omega
      have jM : j ≠ M := by intro z; rw [z, cM] at q1; omega
      rw [if_neg jr, if_neg jr, if_neg (by omega), mg, if_pos q1.1, if_neg (fun z => jM z.symm), q1.1]; omega
    · rw [if_neg q1]
      by_cases q2 : j = m
      · subst q2
        rw [hYm]
        show _ = if j = r then ee r a else if mrg c j M j = j then mc (r + 1) (mrg c j M) Q j a else ee j a - ee (mrg c j M j) a
        rw [if_neg (by omega), mg, if_pos cm, if_neg (by omega)]
      · by_cases q3 : j = M
        · subst q3; exact hYM a
        · rw [hY a j q2 q3, W]
          show _ = if j = r then ee r a else if mrg c m M j = j then mc (r + 1) (mrg c m M) Q j a else ee j a - ee (mrg c m M j) a
          by_cases q4 : j = r
          · rw [if_pos q4, if_pos q4]
          · have cj : c j ≠ m := fun z => q1 ⟨z, q2⟩
            rw [if_neg q4, if_neg q4, mg, if_neg cj]
            by_cases q5 : c j = j
            · rw [if_pos q5, if_pos q5]
              unfold mc
              refine sm_congr fun u _ => ?_
              rw [mg]
              by_cases q6 : c u = m
              · rw [if_pos q6, if_neg (by omega), if_neg (fun z => q3 z.symm)]
              · rw [if_neg q6]
            · rw [if_neg q5, if_neg q5]
  have both : ∀ a, M ≠ r → mt r (mrg c m M) Q a M = mc (r + 1) c Q M a + mc (r + 1) c Q m a := by
    intro a hr
    show (if M = r then ee r a else if mrg c m M M = M then mc (r + 1) (mrg c m M) Q M a else ee M a - ee (mrg c m M M) a) = _
    have e : mrg c m M M = M := by unfold mrg; rw [cM, if_neg (by omega)]
    rw [if_neg hr, if_pos e]
    unfold mc
    rw [← sm_add]
    refine sm_congr fun u _ => ?_
    show (if (if c u = m then M else c u) = M then lapL Q a u else 0) = _
    by_cases q : c u = m
    · rw [if_pos q, if_pos rfl, if_neg (by omega), if_pos q]; omega
    · rw [if_neg q, if_neg q]; omega
  have Xc : ∀ a j, mt r c ((x, y) :: Q) a j = if j = r then ee r a else if c j = j then mc (r + 1) c Q j a + (ee x a - ee y a) * (ee m j - ee M j) else ee j a - ee (c j) a := by
    intro a j
    show (if j = r then ee r a else if c j = j then mc (r + 1) c ((x, y) :: Q) j a else ee j a - ee (c j) a) = _
    rw [mc_cons _ _ _ _ (by show x < r + 1; omega) (by show y < r + 1; omega)]
    show (if j = r then ee r a else if c j = j then mc (r + 1) c Q j a + (ee x a - ee y a) * (ee (c x) j - ee (c y) j) else ee j a - ee (c j) a) = _
    rw [← em, ← eM]
  have mM : ee m M = 0 := by unfold ee; rw [if_neg (by omega)]
  have Mm : ee M m = 0 := by unfold ee; rw [if_neg (by omega)]
  have mm : ee m m = 1 := by unfold ee; rw [if_pos rfl]
  have MM : ee M M = 1 := by unfold ee; rw [if_pos rfl]
  have oth : ∀ j, j ≠ m → j ≠ M → ee m j - ee M j = 0 := fun j h1 h2 => by unfold ee; rw [if_neg h1, if_neg h2]; rfl
  by_cases hr : M = r
  · have e : mt r c ((x, y) :: Q) = setc (mt r c Q) m (fun a => mt r c Q a m + (ee x a - ee y a)) := by
      funext a j
      rw [Xc]
      unfold setc
      by_cases q : j = m
      · subst q
        rw [if_neg (by omega), if_pos cm, if_pos rfl]; dsimp only; rw [Wm, mm, Mm]; omega
      · rw [if_neg q, W]
        by_cases q2 : j = r
        · rw [if_pos q2, if_pos q2]
        · rw [if_neg q2, if_neg q2, oth j q (by omega), Int.mul_zero, Int.add_zero]
    rw [e, det_add2 _ m (by omega), setc_self, key (mt r c Q) (fun _ _ _ _ => rfl) (fun a => by rw [W, if_pos rfl])]
    congr 1
    refine fin _ (fun a j h1 h2 => setc_ne _ _ _ h1) (fun a => ?_) (fun a => setc_at _ _ _ _)
    rw [setc_ne _ _ _ (fun z => hne z.symm), W, if_pos hr]
    show _ = if M = r then ee r a else _
    rw [if_pos hr]
  · have WM : ∀ a, mt r c Q a M = mc (r + 1) c Q M a := fun a => by rw [W, if_neg hr, if_pos cM]
    have e : mt r c ((x, y) :: Q) = setc (setc (mt r c Q) m (fun a => mt r c Q a m + (ee x a - ee y a))) M (fun a => mt r c Q a M - (ee x a - ee y a)) := by
      funext a j
      rw [Xc]
      unfold setc
      by_cases q : j = M
      · subst q
        rw [if_neg hr, if_pos cM, if_pos rfl]; dsimp only; rw [WM, mM, MM]; omega
      · rw [if_neg q]
        by_cases q1 : j = m
        · subst q1
          rw [if_neg (by omega), if_pos cm, if_pos rfl]; dsimp only; rw [Wm, mm, Mm]; omega
        · rw [if_neg q1, W]
          by_cases q2 : j = r
          · rw [if_pos q2, if_pos q2]
          · rw [if_neg q2, if_neg q2, oth j q1 q, Int.mul_zero, Int.add_zero]
    have s1 : setc (setc (mt r c Q) m (fun a => mt r c Q a m + (ee x a - ee y a))) M (fun a => mt r c Q a M) = setc (mt r c Q) m (fun a => mt r c Q a m + (ee x a - ee y a)) := by
      rw [setc_comm _ hne, setc_self]
    have s2 : det (r + 1) (setc (setc (mt r c Q) m (fun a => mt r c Q a m + (ee x a - ee y a))) M (fun a => ee x a - ee y a)) = - det (r + 1) (setc (setc (mt r c Q) m (fun a => ee x a - ee y a)) M (fun a => mt r c Q a m)) := by
      rw [setc_comm _ hne, det_add2 _ m (by omega), ← setc_comm _ hne, ← setc_comm _ hne, det_two _ (by omega) (by omega) hne, Int.add_zero, det_turn _ (by omega) (by omega) hne]
    have s3 : det (r + 1) (setc (setc (mt r c Q) m (fun a => ee x a - ee y a)) M (fun a => mt r c Q a M + mt r c Q a m)) = det (r + 1) (setc (mt r c Q) m (fun a => ee x a - ee y a)) + det (r + 1) (setc (setc (mt r c Q) m (fun a => ee x a - ee y a)) M (fun a => mt r c Q a m)) := by
      rw [det_add2 _ M (by omega)]
      congr 1
      rw [setc_comm _ hne, setc_self]
    rw [e, det_sub2 _ M (by omega), s1, s2, det_add2 _ m (by omega), setc_self]
    have s4 : det (r + 1) (setc (setc (mt r c Q) m (fun a => ee x a - ee y a)) M (fun a => mt r c Q a M + mt r c Q a m)) = det (r + 1) (mt r (mrg c m M) Q) := by
      rw [setc_comm _ hne, key _ (fun a j h1 h2 => by rw [setc_ne _ _ _ (fun z => h2 (by rw [z, cM]))]) (fun a => by rw [setc_ne _ _ _ (fun z => hr z.symm), W, if_pos rfl])]
      refine fin _ (fun a j h1 h2 => by rw [setc_ne _ _ _ h1, setc_ne _ _ _ h2]) (fun a => ?_) (fun a => setc_at _ _ _ _)
      rw [setc_ne _ _ _ (fun z => hne z.symm), setc_at, both a hr, WM, Wm]
    rw [← s4, s3]; omega
end Go.Proofs.Ytoacolpbdbojeaa.Dt
end
section
namespace Go.Proofs.Ytoacolpbdbojeaa.Dt
set_option linter.unusedVariables false
theorem det_id (n : Nat) : det n (fun a b => ee b a) = 1 := by
  induction n with
  | zero => rfl
  | succ n ih =>
    show (sm (n + 1) fun j => sg (n + j) * ee j n * det n (fun a b => ee (skip j b) a)) = 1
    rw [sm_one (j := n) (by omega) (fun i hi hn => by unfold ee; rw [if_neg (fun q => hn q.symm)]; simp)]
    have e : det n (fun a b => ee (skip n b) a) = 1 := by
      rw [← ih]
      exact det_congr fun a b _ hb => by unfold skip; rw [if_pos hb]
    rw [e, sg_two]; unfold ee; simp
def trc (r : Nat) : (Nat → Nat) → List (Nat × Nat) → Nat
  | c, [] => if ∀ v, v < r + 1 → c v = r then 1 else 0
  | c, p :: Q => trc r c Q + if c p.1 = c p.2 then 0 else if c p.1 < c p.2 then trc r (mrg c (c p.1) (c p.2)) Q else trc r (mrg c (c p.2) (c p.1)) Q
theorem mt_nil (r : Nat) (c : Nat → Nat) (hc : Top r c) : det (r + 1) (mt r c []) = ((trc r c [] : Nat) : Int) := by
  have cr := hc.root
  have zc : ∀ j a, mc (r + 1) c [] j a = 0 := by
    intro j a; unfold mc
    exact sm_zero' fun u _ => by split <;> rfl
  by_cases all : ∀ v, v < r + 1 → c v = r
  · show _ = ((if ∀ v, v < r + 1 → c v = r then 1 else 0 : Nat) : Int)
    rw [if_pos all, ← det_addcols (mt r c []) r (by omega) (fun b => b ≠ r) (fun z => z rfl)]
    refine (det_congr fun a b _ hb => ?_).trans (det_id (r + 1))
    have Wr : mt r c [] a r = ee r a := by unfold mt; rw [if_pos rfl]
    by_cases q : b ≠ r
    · rw [if_pos q, Wr]
      show (if b = r then ee r a else if c b = b then mc (r + 1) c [] b a else ee b a - ee (c b) a) + ee r a = _
      rw [if_neg q, if_neg (by rw [all b hb]; exact fun z => q z.symm), all b hb]; omega
    · rw [if_neg q]
      have : b = r := by omega
      rw [this, Wr]
  · show _ = ((if ∀ v, v < r + 1 → c v = r then 1 else 0 : Nat) : Int)
    rw [if_neg all]
    have ⟨v, hv⟩ : ∃ v, ¬ (v < r + 1 → c v = r) := Classical.not_forall.1 all
    have hv1 : v < r + 1 := Classical.byContradiction fun z => hv fun z2 => absurd z2 z
    have hv2 : c v ≠ r := fun z => hv fun _ => z
    have j1 := hc.le v (by omega)
    have j2 := hc.idem v (by omega)
    have e : det (r + 1) (mt r c []) = det (r + 1) (setc (mt r c []) (c v) (fun _ => 0)) := by
      refine det_congr fun a b _ _ => ?_
      unfold setc
      by_cases q : b = c v
      · rw [if_pos q, q]
        show (if c v = r then ee r a else if c (c v) = c v then mc (r + 1) c [] (c v) a else _) = _
        rw [if_neg hv2, if_pos j2, zc]
      · rw [if_neg q]
    rw [e, det_zcol _ _ (by omega)]; rfl
theorem det_trees (r : Nat) (Q : List (Nat × Nat)) : ∀ (c : Nat → Nat), Top r c → (∀ p ∈ Q, p.1 ≤ r ∧ p.2 ≤ r) → det (r + 1) (mt r c Q) = ((trc r c Q : Nat) : Int) := by
  induction Q with
  | nil => intro c hc _; exact mt_nil r c hc
  | cons p Q ih =>
    intro c hc hQ
    obtain ⟨x, y⟩ := p
    obtain ⟨hx, hy⟩ := hQ (x, y) (List.mem_cons_self ..)
    have hx' : x ≤ r := hx
    have hy' : y ≤ r := hy
    have hQ' : ∀ p ∈ Q, p.1 ≤ r ∧ p.2 ≤ r := fun p hp => hQ p (List.mem_cons_of_mem _ hp)
    show _ = ((trc r c Q + if c x = c y then 0 else if c x < c y then trc r (mrg c (c x) (c y)) Q else trc r (mrg c (c y) (c x)) Q : Nat) : Int)
    by_cases e : c x = c y
    · rw [if_pos e, mt_loop r c (x, y) Q hx hy e, ih c hc hQ']; rfl
    · rw [if_neg e]
      by_cases l : c x < c y
      · rw [if_pos l, mt_step r c hc x y Q hx' hy' l, ih c hc hQ', ih _ (mrg_top hc (hc.idem x hx') (hc.idem y hy') l (hc.le y hy')) hQ']; omega
      · rw [if_neg l, mt_flip, mt_step r c hc y x Q hy' hx' (by omega), ih c hc hQ', ih _ (mrg_top hc (hc.idem y hy') (hc.idem x hx') (by omega) (hc.le x hx')) hQ']; omega
theorem det_lead (n : Nat) : ∀ (A B : Nat → Nat → Int), ∃ c : Nat → Int, ∀ t : Int, det n (fun a b => A a b + t * B a b) = (sm n fun k => c k * t ^ k) + det n B * t ^ n := by
  induction n with
  | zero => intro A B; exact ⟨fun _ => 0, fun t => by show (1 : Int) = 0 + 1 * t ^ 0; simp⟩
  | succ n ih =>
    intro A B
    have ex : ∀ j, ∃ c : Nat → Int, ∀ t : Int, det n (fun a b => A a (skip j b) + t * B a (skip j b)) = (sm n fun k => c k * t ^ k) + det n (fun a b => B a (skip j b)) * t ^ n := fun j => ih (fun a b => A a (skip j b)) (fun a b => B a (skip j b))
    obtain ⟨C, hC⟩ : ∃ C : Nat → Nat → Int, ∀ j, ∀ t : Int, det n (fun a b => A a (skip j b) + t * B a (skip j b)) = (sm n fun k => C j k * t ^ k) + det n (fun a b => B a (skip j b)) * t ^ n := ⟨fun j => Classical.choose (ex j), fun j => Classical.choose_spec (ex j)⟩
    refine ⟨fun k => sm (n + 1) fun j => sg (n + j) * (A n j * (if k < n then C j k else det n (fun a b => B a (skip j b))) + B n j * (if k = 0 then 0 else C j (k - 1))), fun t => ?_⟩
    show (sm (n + 1) fun j => sg (n + j) * (A n j + t * B n j) * det n (fun a b => A a (skip j b) + t * B a (skip j b))) = _ + (sm (n + 1) fun j => sg (n + j) * B n j * det n (fun a b => B a (skip j b))) * t ^ (n + 1)
    have h1 : (sm (n + 1) fun k => (sm (n + 1) fun j => sg (n + j) * (A n j * (if k < n then C j k else det n (fun a b => B a (skip j b))) + B n j * (if k = 0 then 0 else C j (k - 1)))) * t ^ k) = sm (n + 1) fun j => sm (n + 1) fun k => sg (n + j) * (A n j * (if k < n then C j k else det n (fun a b => B a (skip j b))) + B n j * (if k = 0 then 0 else C j (k - 1))) * t ^ k := by
      rw [sm_comm]
      exact sm_congr fun k _ => by rw [← sm_mulr]
    rw [h1, ← sm_mulr, ← sm_add]
    refine sm_congr fun j _ => ?_
    rw [hC j t]
    have s1 : (sm (n + 1) fun k => (if k < n then C j k else det n (fun a b => B a (skip j b))) * t ^ k) = (sm n fun k => C j k * t ^ k) + det n (fun a b => B a (skip j b)) * t ^ n := by
      show (sm n fun k => (if k < n then C j k else det n (fun a b => B a (skip j b))) * t ^ k) + (if n < n then C j n else det n (fun a b => B a (skip j b))) * t ^ n = _
      rw [if_neg (by omega)]
      congr 1
      exact sm_congr fun k hk => by rw [if_pos hk]
    have s2 : (sm (n + 1) fun k => (if k = 0 then 0 else C j (k - 1)) * t ^ k) = t * sm n fun k => C j k * t ^ k := by
      rw [sm_front, ← sm_mul, if_pos rfl, Int.zero_mul, Int.zero_add]
      exact sm_congr fun k _ => by rw [if_neg (by omega), Nat.add_sub_cancel, Int.pow_succ]; grind
    have s3 : (sm (n + 1) fun k => sg (n + j) * (A n j * (if k < n then C j k else det n (fun a b => B a (skip j b))) + B n j * (if k = 0 then 0 else C j (k - 1))) * t ^ k) = sg (n + j) * (A n j * ((sm n fun k => C j k * t ^ k) + det n (fun a b => B a (skip j b)) * t ^ n) + B n j * (t * sm n fun k => C j k * t ^ k)) := by
      rw [← s1, ← s2, ← sm_mul, ← sm_mul, ← sm_add, ← sm_mul]
      exact sm_congr fun k _ => by grind
    rw [s3, Int.pow_succ]
    grind
def sgn (n : Nat) : Int := if n % 2 = 0 then 1 else -1
theorem sgn_succ (n : Nat) : sgn (n + 1) = - sgn n := by unfold sgn; split <;> split <;> first | rfl | omega
theorem sgn_sq (n : Nat) : sgn n * sgn n = 1 := by unfold sgn; split <;> rfl
theorem det_neg (n : Nat) : ∀ (M : Nat → Nat → Int), det n (fun a b => - M a b) = sgn n * det n M := by
  induction n with
  | zero => intro M; rfl
  | succ n ih =>
    intro M
    show (sm (n + 1) fun j => sg (n + j) * - M n j * det n (fun a b => - M a (skip j b))) = sgn (n + 1) * sm (n + 1) fun j => sg (n + j) * M n j * det n (fun a b => M a (skip j b))
    rw [← sm_mul]
    refine sm_congr fun j _ => ?_
    rw [ih (fun a b => M a (skip j b)), sgn_succ]; grind
theorem cp_last {n : Nat} {M : Nat → Nat → Int} {c : Nat → Int} {N : Nat → Nat → Nat → Int} (h : Cp n M c N) : c n = sgn n * det n M := by
  obtain ⟨d, hd⟩ := det_lead n (fun a b => ee b a) (fun a b => - M a b)
  have e : ∀ t : Int, det n (ut M t) = (sm n fun k => d k * t ^ k) + det n (fun a b => - M a b) * t ^ n := by
    intro t
    rw [← hd t]
    refine det_congr fun a b _ _ => ?_
    unfold ut; grind
  have u := coef_eq (m := n + 1) (c := c) (d := fun k => if k < n then d k else det n (fun a b => - M a b)) (fun t _ => by
    rw [← h.hD t, e t]
    show _ = (sm n fun k => (if k < n then d k else det n (fun a b => - M a b)) * t ^ k) + (if n < n then d n else det n (fun a b => - M a b)) * t ^ n
    rw [if_neg (by omega)]
    congr 1
    exact sm_congr fun k hk => by rw [if_pos hk]) n (by omega)
  rw [u, if_neg (by omega), det_neg]
end Go.Proofs.Ytoacolpbdbojeaa.Dt
end
section
namespace Go.Proofs.Ytoacolpbdbojeaa.Dt
set_option linter.unusedVariables false
def gr (m : Nat) (C : Nat → Nat → Int) (i j : Nat) : Int := sm m fun l => C l i * C l j
def pick (G : Nat → Nat → Int) (B : Nat → Bool) : Nat → Nat → Int := fun a b => if B b = true then G a b else ee b a
def flip (B : Nat → Bool) (k : Nat) (v : Bool) : Nat → Bool := fun b => if b = k then v else B b
theorem flip_at (B : Nat → Bool) (k : Nat) (v : Bool) : flip B k v k = v := if_pos rfl
theorem flip_ne (B : Nat → Bool) {k b : Nat} (v : Bool) (h : b ≠ k) : flip B k v b = B b := if_neg h
theorem sq_nonneg (x : Int) : 0 ≤ x * x := by
  rcases Int.le_total 0 x with h | h
  · exact Int.mul_nonneg h h
  · exact Int.mul_nonneg_of_nonpos_of_nonpos h h
theorem sq_none {m : Nat} {y : Nat → Int} (h : (sm m fun l => y l * y l) = 0) : ∀ l, l < m → y l = 0 := by
  induction m with
  | zero => intro l hl; omega
  | succ m ih =>
    have e : (sm m fun l => y l * y l) + y m * y m = 0 := h
    have a : 0 ≤ sm m fun l => y l * y l := sm_nonneg fun l _ => sq_nonneg _
    have b := sq_nonneg (y m)
    intro l hl
    by_cases q : l = m
    · rw [q]; rcases Int.mul_eq_zero.1 (show y m * y m = 0 by omega) with z | z <;> exact z
    · exact ih (by omega) l (by omega)
section
variable {n m : Nat} {C : Nat → Nat → Int}
theorem gram_step (B : Nat → Bool) (k : Nat) (hk : k < n) (hB : B k = true) : 0 ≤ det n (pick (gr m C) (flip B k false)) * det n (pick (gr m C) B) ∧ (det n (pick (gr m C) (flip B k false)) = 0 → det n (pick (gr m C) B) = 0) := by
  have am := fun c (hc : c < n) => adj_mul (pick (gr m C) B) k c hk hc
  have ak : adj n (pick (gr m C) B) k k = det n (pick (gr m C) (flip B k false)) := det_congr fun a b _ _ => by
    unfold setc pick
    by_cases e : b = k
    · rw [if_pos e, e, flip_at, if_neg (by simp)]
    · rw [if_neg e, flip_ne B _ e]
  generalize hα : adj n (pick (gr m C) B) k = α at am ak
  have z : ∀ c, c < n → B c = false → α c = 0 := fun c hc h => by
    have := am c hc
    rw [if_neg (fun e => by rw [← e, hB] at h; simp at h), sm_one hc (fun i _ hi => by unfold pick; rw [if_neg (by rw [h]; simp)]; unfold ee; rw [if_neg hi, Int.mul_zero])] at this
    unfold pick at this
    rw [if_neg (by rw [h]; simp)] at this
    unfold ee at this
    rw [if_pos rfl, Int.mul_one] at this
    exact this
  have o : ∀ c, c < n → B c = true → (sm n fun i => α i * gr m C i c) = if k = c then det n (pick (gr m C) B) else 0 := fun c hc h => by
    rw [← am c hc]
    exact sm_congr fun i _ => by unfold pick; rw [if_pos h]
  have fold : ∀ c, (sm n fun i => α i * gr m C i c) = sm m fun l => (sm n fun i => α i * C l i) * C l c := fun c => by
    rw [sm_congr (g := fun i => sm m fun l => α i * C l i * C l c) (fun i _ => by unfold gr; rw [← sm_mul]; exact sm_congr fun l _ => (Int.mul_assoc _ _ _).symm), sm_comm]
    exact sm_congr fun l _ => by rw [sm_mulr]
  have sq : (sm m fun l => (sm n fun i => α i * C l i) * (sm n fun i => α i * C l i)) = det n (pick (gr m C) (flip B k false)) * det n (pick (gr m C) B) := by
    rw [sm_congr (g := fun l => sm n fun c => α c * ((sm n fun i => α i * C l i) * C l c)) (fun l _ => by
      rw [← sm_mul]; exact sm_congr fun c _ => by rw [← Int.mul_assoc, Int.mul_comm (sm n _) (α c), Int.mul_assoc]), sm_comm]
    rw [sm_congr (g := fun c => α c * sm n fun i => α i * gr m C i c) (fun c _ => by rw [sm_mul, fold c])]
    rw [sm_one hk (fun c hc hne => by
      cases h : B c with
      | true => rw [o c hc h, if_neg (fun e => hne e.symm), Int.mul_zero]
      | false => rw [z c hc h, Int.zero_mul]), o k hk hB, if_pos rfl, ak]
  refine ⟨sq ▸ sm_nonneg fun l _ => sq_nonneg _, fun h => ?_⟩
  rw [h, Int.zero_mul] at sq
  have y := sq_none sq
  have := o k hk hB
  rw [if_pos rfl, fold k, sm_zero' (fun l hl => by rw [y l hl, Int.zero_mul])] at this
  exact this.symm
def cb (B : Nat → Bool) : Nat → Nat
  | 0 => 0
  | n + 1 => cb B n + if B n = true then 1 else 0
theorem cb_congr {B D : Nat → Bool} (n : Nat) (h : ∀ b, b < n → B b = D b) : cb B n = cb D n := by
  induction n with
  | zero => rfl
  | succ n ih => show cb B n + _ = cb D n + _; rw [ih (fun b hb => h b (by omega)), h n (by omega)]
theorem cb_flip (B : Nat → Bool) (k : Nat) (hB : B k = true) (n : Nat) : k < n → cb (flip B k false) n + 1 = cb B n := by
  induction n with
  | zero => intro h; omega
  | succ n ih =>
    intro h
    show cb (flip B k false) n + _ + 1 = cb B n + _
    by_cases e : n = k
    · rw [e, flip_at, hB, cb_congr (B := flip B k false) (D := B) k (fun b hb => flip_ne B _ (by omega))]; simp
    · rw [flip_ne B _ e]; have := ih (by omega); omega
theorem cb_some (B : Nat → Bool) (n : Nat) : 0 < cb B n → ∃ k, k < n ∧ B k = true := by
  induction n with
  | zero => intro h; exact absurd h (by show ¬ 0 < 0; omega)
  | succ n ih =>
    intro h
    by_cases e : B n = true
    · exact ⟨n, by omega, e⟩
    · have h2 : 0 < cb B n + if B n = true then 1 else 0 := h
      rw [if_neg e] at h2
      obtain ⟨k, a, b⟩ := ih h2
      exact ⟨k, by omega, b⟩
theorem cb_none (B : Nat → Bool) (n : Nat) (h : cb B n = 0) : ∀ k, k < n → B k = false := by
  induction n with
  | zero => intro k hk; omega
  | succ n ih =>
    have h2 : cb B n + (if B n = true then 1 else 0) = 0 := h
    intro k hk
    by_cases e : B n = true
    · rw [if_pos e] at h2; omega
    · by_cases q : k = n
      · rw [q]; exact Bool.eq_false_iff.2 e
      · exact ih (by omega) k (by omega)
theorem cb_le (B : Nat → Bool) (n : Nat) : cb B n ≤ n := by
  induction n with
  | zero => exact Nat.le_refl _
  | succ n ih => show cb B n + _ ≤ _; split <;> omega
theorem pick_none (B : Nat → Bool) (h : ∀ k, k < n → B k = false) : det n (pick (gr m C) B) = 1 := by
  rw [← det_id n]
  exact det_congr fun a b _ hb => by unfold pick; rw [if_neg (by rw [h b hb]; simp)]
theorem gram_pos (d : Nat) : ∀ B : Nat → Bool, cb B n = d → 0 ≤ det n (pick (gr m C) B) := by
  induction d with
  | zero => intro B hB; rw [pick_none B (cb_none B n hB)]; decide
  | succ d ih =>
    intro B hB
    obtain ⟨k, hk, h⟩ := cb_some B n (by omega)
    obtain ⟨a, b⟩ := gram_step (m := m) (C := C) B k hk h
    have c := ih (flip B k false) (by have := cb_flip B k h n hk; omega)
    by_cases z : det n (pick (gr m C) (flip B k false)) = 0
    · rw [b z]; exact Int.le_refl _
    · refine Int.le_of_not_gt fun w => ?_
      have := Int.mul_neg_of_pos_of_neg (show 0 < det n (pick (gr m C) (flip B k false)) by omega) w
      omega
def half (G : Nat → Nat → Int) (j : Nat) (B : Nat → Bool) (t : Int) : Nat → Nat → Int := fun a b => if b < j then ee b a + t * G a b else pick G B a b
theorem half_step (G : Nat → Nat → Int) (j : Nat) (hj : j < n) (B : Nat → Bool) (t : Int) : det n (half G (j + 1) B t) = det n (half G j (flip B j false) t) + t * det n (half G j (flip B j true) t) := by
  have e0 : half G (j + 1) B t = setc (half G j B t) j (fun a => 1 * ee j a + t * G a j) := by
    funext a b
    unfold setc half
    by_cases e : b = j
    · rw [if_pos e, if_pos (by omega), e]; show _ = 1 * ee j a + t * G a j; omega
    · rw [if_neg e]
      by_cases q : b < j
      · rw [if_pos q, if_pos (by omega)]
      · rw [if_neg q, if_neg (by omega)]
  have e1 : setc (half G j B t) j (ee j) = half G j (flip B j false) t := by
    funext a b
    unfold setc half pick
    by_cases e : b = j
    · rw [if_pos e, if_neg (by omega), e, flip_at, if_neg (by simp)]
    · rw [if_neg e, flip_ne B _ e]
  have e2 : setc (half G j B t) j (fun a => G a j) = half G j (flip B j true) t := by
    funext a b
    unfold setc half pick
    by_cases e : b = j
    · rw [if_pos e, if_neg (by omega), e, flip_at, if_pos rfl]
    · rw [if_neg e, flip_ne B _ e]
  rw [e0, det_lin (half G j B t) j 1 t (ee j) (fun a => G a j) hj, e1, e2]; omega
theorem half_poly (j : Nat) : j ≤ n → ∀ B : Nat → Bool, ∃ c : Nat → Int, (∀ t, det n (half (gr m C) j B t) = sm (j + 1) fun k => c k * t ^ k) ∧ (∀ k, 0 ≤ c k) ∧ ∀ k, c k = 0 ↔ ∀ D : Nat → Bool, (∀ b, j ≤ b → D b = B b) → cb D j = k → det n (pick (gr m C) D) = 0 := by
  induction j with
  | zero =>
    intro _ B
    have p := gram_pos (n := n) (m := m) (C := C) _ B rfl
    refine ⟨fun k => if k = 0 then det n (pick (gr m C) B) else 0, fun t => ?_, fun k => ?_, fun k => ?_⟩
    · show det n (half (gr m C) 0 B t) = 0 + (if 0 = 0 then det n (pick (gr m C) B) else 0) * t ^ 0
      rw [if_pos rfl, Int.pow_zero, Int.mul_one, Int.zero_add]
      exact det_congr fun a b _ _ => by unfold half; rw [if_neg (by omega)]
    · dsimp only
      by_cases e : k = 0
      · rw [if_pos e]; exact p
      · rw [if_neg e]; exact Int.le_refl _
    · dsimp only
      by_cases e : k = 0
      · rw [if_pos e]
        refine ⟨fun h D hD _ => ?_, fun h => h B (fun _ _ => rfl) e.symm⟩
        have : D = B := funext fun b => hD b (by omega)
        rw [this]; exact h
      · rw [if_neg e]; exact ⟨fun _ D _ h => absurd h.symm e, fun _ => rfl⟩
  | succ j ih =>
    intro hj B
    obtain ⟨c, c1, c2, c3⟩ := ih (by omega) (flip B j false)
    obtain ⟨d, d1, d2, d3⟩ := ih (by omega) (flip B j true)
    have top : c (j + 1) = 0 := (c3 (j + 1)).2 fun D _ h => absurd h (by have := cb_le D j; omega)
    refine ⟨fun k => c k + if k = 0 then 0 else d (k - 1), fun t => ?_, fun k => ?_, fun k => ?_⟩
    · rw [half_step _ j (by omega), c1, d1]
      have e : (sm (j + 1 + 1) fun k => (c k + if k = 0 then 0 else d (k - 1)) * t ^ k) = (sm (j + 1 + 1) fun k => c k * t ^ k) + sm (j + 1 + 1) fun k => (if k = 0 then 0 else d (k - 1)) * t ^ k := by
        rw [← sm_add]; exact sm_congr fun k _ => Int.add_mul _ _ _
      rw [e, sm_front (j + 1) (fun k => (if k = 0 then 0 else d (k - 1)) * t ^ k)]
      have e2 : (sm (j + 1) fun k => (if k + 1 = 0 then 0 else d (k + 1 - 1)) * t ^ (k + 1)) = t * sm (j + 1) fun k => d k * t ^ k := by
        rw [← sm_mul]; exact sm_congr fun k _ => by rw [if_neg (by omega), Nat.add_sub_cancel, Int.pow_succ]; grind
      rw [e2, if_pos rfl, Int.zero_mul, Int.zero_add]
      show _ = (sm (j + 1) (fun k => c k * t ^ k) + c (j + 1) * t ^ (j + 1)) + _
      rw [top, Int.zero_mul, Int.add_zero]
    · have a := c2 k
      have b := d2 (k - 1)
      dsimp only
      by_cases e : k = 0
      · rw [if_pos e]; omega
      · rw [if_neg e]; omega
    · have a := c2 k
      have b := d2 (k - 1)
      have key : (c k + if k = 0 then 0 else d (k - 1)) = 0 ↔ c k = 0 ∧ (k ≠ 0 → d (k - 1) = 0) := by
        by_cases e : k = 0
        · rw [if_pos e]; exact ⟨fun h => ⟨by omega, fun h => absurd e h⟩, fun h => by omega⟩
        · rw [if_neg e]; exact ⟨fun h => ⟨by omega, fun _ => by omega⟩, fun h => by have := h.2 e; omega⟩
      dsimp only
      rw [key, c3, d3]
      refine ⟨fun h D hD hc => ?_, fun h => ⟨fun D hD hc => ?_, fun k0 D hD hc => ?_⟩⟩
      · have hc2 : cb D j + (if D j = true then 1 else 0) = k := hc
        by_cases e : D j = true
        · rw [if_pos e] at hc2
          exact h.2 (by omega) D (fun b hb => by
            by_cases q : b = j
            · rw [q, flip_at, e]
            · rw [flip_ne B _ q]; exact hD b (by omega)) (by omega)
        · rw [if_neg e] at hc2
          exact h.1 D (fun b hb => by
            by_cases q : b = j
            · rw [q, flip_at]; exact Bool.eq_false_iff.2 e
            · rw [flip_ne B _ q]; exact hD b (by omega)) (by omega)
      · have e : D j = false := by rw [hD j (Nat.le_refl _), flip_at]
        exact h D (fun b hb => by rw [hD b (by omega), flip_ne B _ (by omega)]) (by show cb D j + (if D j = true then 1 else 0) = k; rw [e, if_neg (by simp)]; omega)
      · have e : D j = true := by rw [hD j (Nat.le_refl _), flip_at]
        exact h D (fun b hb => by rw [hD b (by omega), flip_ne B _ (by omega)]) (by show cb D j + (if D j = true then 1 else 0) = k; rw [e, if_pos rfl]; omega)
end
theorem psd (n m : Nat) (C : Nat → Nat → Int) : ∃ e : Nat → Int, (∀ t, det n (fun a b => ee b a + t * gr m C a b) = sm (n + 1) fun k => e k * t ^ k) ∧ (∀ k, 0 ≤ e k) ∧ e 0 = 1 ∧ (∀ k, e k = 0 → e (k + 1) = 0) ∧ ∀ k, e k = 0 ↔ ∀ D : Nat → Bool, (∀ b, n ≤ b → D b = false) → cb D n = k → det n (pick (gr m C) D) = 0 := by
  obtain ⟨e, e1, e2, e3⟩ := half_poly (n := n) (m := m) (C := C) n (Nat.le_refl _) (fun _ => false)
  refine ⟨e, fun t => ?_, e2, ?_, fun k h => ?_, e3⟩
  · rw [← e1 t]; exact det_congr fun a b _ hb => by unfold half; rw [if_pos hb]
  · have := e1 0
    rw [sm_front n (fun k => e k * 0 ^ k), sm_zero' (fun k _ => by rw [Int.pow_succ, Int.mul_zero, Int.mul_zero]), Int.pow_zero] at this
    rw [show det n (half (gr m C) n (fun _ => false) 0) = 1 from by
      rw [← det_id n]; exact det_congr fun a b _ hb => by unfold half; rw [if_pos hb]; omega] at this
    omega
  · refine (e3 (k + 1)).2 fun D hD hc => ?_
    obtain ⟨b, hb, h1⟩ := cb_some D n (by omega)
    have := (e3 k).1 h (flip D b false) (fun c hc => by rw [flip_ne D _ (by omega)]; exact hD c hc) (by have := cb_flip D b h1 n hb; omega)
    exact (gram_step D b hb h1).2 this
theorem psd_cp {n m : Nat} {C : Nat → Nat → Int} {c : Nat → Int} {N : Nat → Nat → Nat → Int} (h : Cp n (gr m C) c N) : (∀ k, k ≤ n → 0 ≤ sgn k * c k) ∧ (∀ k, k < n → c k = 0 → c (k + 1) = 0) ∧ ∀ k, k ≤ n → (c k = 0 ↔ ∀ D : Nat → Bool, (∀ b, n ≤ b → D b = false) → cb D n = k → det n (pick (gr m C) D) = 0) := by
  obtain ⟨e, e1, e2, e3, e4, e5⟩ := psd n m C
  have pm : ∀ (t : Int) (k : Nat), (-t) ^ k = sgn k * t ^ k := by
    intro t k
    induction k with
    | zero => rw [Int.pow_zero, Int.pow_zero]; rfl
    | succ k ih => rw [Int.pow_succ, ih, sgn_succ, Int.pow_succ]; grind
  have q : ∀ k, k < n + 1 → c k = sgn k * e k := coef_eq fun t _ => by
    rw [← h.hD t, show det n (ut (gr m C) t) = det n (fun a b => ee b a + (-t) * gr m C a b) from det_congr fun a b _ _ => by unfold ut; rw [Int.mul_neg, Int.neg_mul], e1]
    exact sm_congr fun k _ => by rw [pm]; grind
  have z : ∀ k, k ≤ n → (c k = 0 ↔ e k = 0) := fun k hk => by
    rw [q k (by omega)]
    refine ⟨fun w => ?_, fun w => by rw [w, Int.mul_zero]⟩
    have := congrArg (fun x => sgn k * x) w
    simp only [Int.mul_zero] at this
    rw [← Int.mul_assoc, sgn_sq, Int.one_mul] at this; exact this
  refine ⟨fun k hk => ?_, fun k hk w => (z (k + 1) (by omega)).2 (e4 k ((z k (by omega)).1 w)), fun k hk => (z k hk).trans (e5 k)⟩
  rw [q k (by omega), ← Int.mul_assoc, sgn_sq, Int.one_mul]; exact e2 k
end Go.Proofs.Ytoacolpbdbojeaa.Dt
end
section
namespace Go.Proofs.Ytoacolpbdbojeaa.Dt
set_option linter.unusedVariables false
theorem sm_two (k : Nat) (f : Nat → Int) : sm (2 * k) f = sm k fun q => f (2 * q) + f (2 * q + 1) := by
  induction k with
  | zero => rfl
  | succ k ih =>
    rw [show 2 * (k + 1) = 2 * k + 1 + 1 by omega]
    show sm (2 * k) f + f (2 * k) + f (2 * k + 1) = sm k _ + (f (2 * k) + f (2 * k + 1))
    rw [ih]; omega
section
variable {n : Nat} {A : Nat → Nat → Int} {b : Nat → Bool} (hb : ∀ i j, i < n → j < n → b i = b j → A i j = 0) (sy : ∀ i j, A i j = A j i)
theorem pw_colour (hb : ∀ i j, i < n → j < n → b i = b j → A i j = 0) (s : Nat) : ∀ i j, i < n → j < n → (b i = b j ↔ s % 2 = 1) → pw n A s i j = 0 := by
  induction s with
  | zero =>
    intro i j hi hj h
    show ee j i = 0
    unfold ee
    rw [if_neg (fun e => absurd (h.1 (by rw [e])) (by omega))]
  | succ s ih =>
    intro i j hi hj h
    refine sm_zero' fun l hl => ?_
    by_cases e : b l = b j
    · rw [hb l j hl hj e, Int.mul_zero]
    · rw [ih i l hi hl ?_, Int.zero_mul]
      cases h1 : b i <;> cases h2 : b j <;> cases h3 : b l <;> rw [h1, h2] at h <;> rw [h2, h3] at e <;> simp at h e ⊢ <;> omega
def half2 (b : Nat → Bool) (A : Nat → Nat → Int) (l i : Nat) : Int := if b i = true then A l i else 0
theorem gr_half (sy : ∀ i j, A i j = A j i) (i j : Nat) : gr n (half2 b A) i j = if b i = true ∧ b j = true then sm n (fun l => A i l * A l j) else 0 := by
  unfold gr half2
  by_cases h : b i = true ∧ b j = true
  · rw [if_pos h]; exact sm_congr fun l _ => by rw [if_pos h.1, if_pos h.2, sy l i]
  · rw [if_neg h]
    refine sm_zero' fun l _ => ?_
    by_cases e : b i = true
    · rw [if_neg (fun z => h ⟨e, z⟩), Int.mul_zero]
    · rw [if_neg e, Int.zero_mul]
theorem pw_two (n : Nat) (A : Nat → Nat → Int) (s i j : Nat) : pw n A (s + 2) i j = sm n fun l => pw n A s i l * sm n fun a => A l a * A a j := by
  show (sm n fun a => (sm n fun l => pw n A s i l * A l a) * A a j) = _
  rw [sm_congr (g := fun a => sm n fun l => pw n A s i l * (A l a * A a j)) (fun a _ => by rw [← sm_mulr]; exact sm_congr fun l _ => Int.mul_assoc _ _ _), sm_comm]
  exact sm_congr fun l _ => by rw [sm_mul]
include hb sy in
theorem pw_half (k : Nat) : ∀ i j, i < n → j < n → pw n (gr n (half2 b A)) (k + 1) i j = if b i = true ∧ b j = true then pw n A (2 * (k + 1)) i j else 0 := by
  induction k with
  | zero =>
    intro i j hi hj
    have e : ∀ X : Nat → Int, (sm n fun l => ee l i * X l) = X i := fun X => by
      rw [sm_one hi (fun l _ hl => by unfold ee; rw [if_neg (fun q => hl q.symm), Int.zero_mul])]
      unfold ee; rw [if_pos rfl, Int.one_mul]
    show (sm n fun l => ee l i * gr n (half2 b A) l j) = _
    rw [e, gr_half sy]
    by_cases h : b i = true ∧ b j = true
    · rw [if_pos h, if_pos h, show 2 * (0 + 1) = 0 + 2 from rfl, pw_two]
      exact (e (fun l => sm n fun a => A l a * A a j)).symm
    · rw [if_neg h, if_neg h]
  | succ k ih =>
    intro i j hi hj
    show (sm n fun l => pw n (gr n (half2 b A)) (k + 1) i l * gr n (half2 b A) l j) = _
    by_cases h : b i = true ∧ b j = true
    · rw [if_pos h, show 2 * (k + 1 + 1) = 2 * (k + 1) + 2 by omega, pw_two]
      refine sm_congr fun l hl => ?_
      rw [ih i l hi hl, gr_half sy]
      by_cases e : b l = true
      · rw [if_pos ⟨h.1, e⟩, if_pos ⟨e, h.2⟩]
      · rw [if_neg (fun z => e z.2), pw_colour hb _ i l hi hl ⟨fun z => absurd (z.symm.trans h.1) e, fun z => by omega⟩, Int.zero_mul, Int.zero_mul]
    · rw [if_neg h]
      refine sm_zero' fun l hl => ?_
      rw [ih i l hi hl, gr_half sy]
      by_cases e : b i = true
      · rw [if_neg (c := b l = true ∧ b j = true) (fun z => h ⟨e, z.2⟩), Int.mul_zero]
      · rw [if_neg (fun z => e z.1), Int.zero_mul]
include hb in
theorem tr_odd (k : Nat) (hk : k % 2 = 1) : (sm n fun i => pw n A k i i) = 0 := sm_zero' fun i hi => pw_colour hb k i i hi hi ⟨fun _ => hk, fun _ => rfl⟩
include hb sy in
theorem tr_even (k : Nat) : (sm n fun i => pw n A (2 * (k + 1)) i i) = 2 * sm n fun i => pw n (gr n (half2 b A)) (k + 1) i i := by
  have s : (sm n fun i => if b i = true then pw n A (2 * (k + 1)) i i else 0) = sm n fun i => if b i = true then 0 else pw n A (2 * (k + 1)) i i := by
    have e1 : ∀ i, i < n → (if b i = true then pw n A (2 * (k + 1)) i i else 0) = sm n fun l => if b i = true then pw n A (2 * k + 1) i l * A l i else 0 := fun i _ => by
      by_cases h : b i = true
      · rw [if_pos h]; exact sm_congr fun l _ => by rw [if_pos h]; rfl
      · rw [if_neg h, sm_zero' (fun l _ => by rw [if_neg h])]
    have e2 : ∀ l, l < n → (if b l = true then 0 else pw n A (2 * (k + 1)) l l) = sm n fun i => if b l = true then 0 else A l i * pw n A (2 * k + 1) i l := fun l hl => by
      by_cases h : b l = true
      · rw [if_pos h, sm_zero' (fun i _ => by rw [if_pos h])]
      · rw [if_neg h, show 2 * (k + 1) = 2 * k + 1 + 1 by omega, ← pw_left n A (2 * k + 1) l l hl hl]; exact sm_congr fun i _ => by rw [if_neg h]
    rw [sm_congr e1, sm_congr e2, sm_comm]
    refine sm_congr fun l hl => sm_congr fun i hi => ?_
    by_cases h : b i = true
    · rw [if_pos h]
      by_cases h2 : b l = true
      · rw [if_pos h2, hb l i hl hi (by rw [h, h2]), Int.mul_zero]
      · rw [if_neg h2, Int.mul_comm]
    · rw [if_neg h]
      by_cases h2 : b l = true
      · rw [if_pos h2]
      · rw [if_neg h2, hb l i hl hi (by rw [Bool.eq_false_iff.2 h, Bool.eq_false_iff.2 h2]), Int.zero_mul]
  have t : (sm n fun i => pw n A (2 * (k + 1)) i i) = (sm n fun i => if b i = true then pw n A (2 * (k + 1)) i i else 0) + sm n fun i => if b i = true then 0 else pw n A (2 * (k + 1)) i i := by
    rw [← sm_add]
    exact sm_congr fun i _ => by by_cases h : b i = true; rw [if_pos h, if_pos h]; omega; rw [if_neg h, if_neg h]; omega
  rw [t, ← s, sm_congr (g := fun i => if b i = true then pw n A (2 * (k + 1)) i i else 0) (f := fun i => pw n (gr n (half2 b A)) (k + 1) i i) (fun i hi => by
    rw [pw_half hb sy k i i hi hi]
    by_cases h : b i = true
    · rw [if_pos ⟨h, h⟩, if_pos h]
    · rw [if_neg (fun z => h z.1), if_neg h])]
  omega
variable {c d : Nat → Int} {N N' : Nat → Nat → Nat → Int} (h : Cp n A c N) (h' : Cp n (gr n (half2 b A)) d N')
include hb h in
theorem bip_odd (k : Nat) : k ≤ n → k % 2 = 1 → c k = 0 := by
  induction k using Nat.strongRecOn with
  | _ k ih =>
    intro hk ho
    have a := newton h k hk
    rw [sm_zero' (fun p hp => by
      by_cases q : p % 2 = 1
      · rw [ih p hp (by omega) q, Int.zero_mul]
      · rw [tr_odd hb (k - p) (by omega), Int.mul_zero])] at a
    have := Int.mul_eq_zero.1 (show (k : Int) * c k = 0 by omega)
    omega
include hb sy h h' in
theorem bip_even (k : Nat) : 2 * k ≤ n → c (2 * k) = d k := by
  induction k using Nat.strongRecOn with
  | _ k ih =>
    intro hk
    by_cases k0 : k = 0
    · rw [k0, h.one, h'.one]
    · have a := newton h (2 * k) hk
      have b' := newton h' k (by omega)
      rw [sm_two, sm_congr (g := fun q => 2 * (d q * sm n fun j => pw n (gr n (half2 b A)) (k - q) j j)) (fun q hq => by
        rw [bip_odd hb h (2 * q + 1) (by omega) (by omega), Int.zero_mul, Int.add_zero, ih q hq (by omega), show 2 * k - 2 * q = 2 * (k - q - 1 + 1) by omega, tr_even hb sy, show k - q - 1 + 1 = k - q by omega]
        grind), sm_mul, b'] at a
      have e : (k : Int) * c (2 * k) = (k : Int) * d k := by
        have : ((2 * k : Nat) : Int) = 2 * (k : Int) := by omega
        rw [this, Int.mul_assoc] at a; omega
      exact Int.eq_of_mul_eq_mul_left (by omega) e
end
theorem bip {n : Nat} {A : Nat → Nat → Int} {b : Nat → Bool} (hb : ∀ i j, i < n → j < n → b i = b j → A i j = 0) (sy : ∀ i j, A i j = A j i) {c : Nat → Int} {N : Nat → Nat → Nat → Int} (h : Cp n A c N) :
    (∀ k, k ≤ n → k % 2 = 1 → c k = 0) ∧ (∀ k, 2 * k ≤ n → 0 ≤ sgn k * c (2 * k)) ∧ ∀ k, 2 * (k + 1) ≤ n → c (2 * k) = 0 → c (2 * (k + 1)) = 0 := by
  obtain ⟨d, N', h', _⟩ := cp_exists n (gr n (half2 b A)) (sm n fun a => sm n fun b' => ((ee b' a).natAbs : Int) + ((gr n (half2 b A) a b').natAbs : Int)) (sm_nonneg fun a _ => sm_nonneg fun b' _ => by omega) (fun a ha => by
    have : ∀ (m : Nat) (f : Nat → Int), (∀ i, 0 ≤ f i) → ∀ i, i < m → f i ≤ sm m f := by
      intro m f hf
      induction m with
      | zero => intro i hi; omega
      | succ m ih =>
        intro i hi
        have s : 0 ≤ sm m f := sm_nonneg fun i _ => hf i
        have := hf m
        show f i ≤ sm m f + f m
        by_cases q : i = m
        · rw [q]; omega
        · have := ih i (by omega); omega
    exact this n (fun a => sm n fun b' => ((ee b' a).natAbs : Int) + ((gr n (half2 b A) a b').natAbs : Int)) (fun a => sm_nonneg fun b' _ => by omega) a ha)
  obtain ⟨p1, p2, _⟩ := psd_cp h'
  refine ⟨bip_odd hb h, fun k hk => ?_, fun k hk z => ?_⟩
  · rw [bip_even hb sy h h' k hk]; exact p1 k (by omega)
  · rw [bip_even hb sy h h' k (by omega)] at z
    rw [bip_even hb sy h h' (k + 1) hk]; exact p2 k (by omega) z
end Go.Proofs.Ytoacolpbdbojeaa.Dt
end
section
namespace Go.Proofs.Ytoacolpbdbojeaa.Dt
set_option linter.unusedVariables false
def df (a b : Int) : Nat := if a ≠ 0 ∧ b ≠ 0 ∧ ¬ (0 < a ↔ 0 < b) then 1 else 0
def fnz : List Int → Int
  | [] => 0
  | x :: l => if x = 0 then fnz l else x
def Vc : List Int → Nat
  | [] => 0
  | x :: l => df x (fnz l) + Vc l
def lz : List Int → Nat
  | [] => 0
  | x :: l => if x = 0 then lz l + 1 else 0
def lst : List Int → Int
  | [] => 0
  | [x] => x
  | _ :: y :: l => lst (y :: l)
theorem df_zero (b : Int) : df 0 b = 0 := if_neg (fun h => h.1 rfl)
theorem df_zero' (a : Int) : df a 0 = 0 := if_neg (fun h => h.2.1 rfl)
theorem df_le (a b : Int) : df a b ≤ 1 := by unfold df; split <;> omega
theorem df_self (a : Int) : df a a = 0 := if_neg (fun h => h.2.2 Iff.rfl)
theorem df_three {a b c : Int} (ha : a ≠ 0) (hb : b ≠ 0) (hc : c ≠ 0) : (df a b + df b c + df a c) % 2 = 0 := by
  unfold df
  by_cases h1 : 0 < a <;> by_cases h2 : 0 < b <;> by_cases h3 : 0 < c <;> simp [h1, h2, h3, ha, hb, hc]
theorem df_one {a b : Int} (h : df a b = 1) : a ≠ 0 ∧ b ≠ 0 ∧ ((0 < a ∧ b < 0) ∨ (a < 0 ∧ 0 < b)) := by
  unfold df at h
  split at h
  · rename_i k; refine ⟨k.1, k.2.1, ?_⟩
    by_cases h1 : 0 < a
    · exact .inl ⟨h1, by have := k.2.1; have : ¬ 0 < b := fun z => k.2.2 ⟨fun _ => z, fun _ => h1⟩; omega⟩
    · exact .inr ⟨by have := k.1; omega, by
        by_cases h2 : 0 < b
        · exact h2
        · exact absurd ⟨fun z => absurd z h1, fun z => absurd z h2⟩ k.2.2⟩
  · omega
theorem df_pos {a b : Int} (h : (0 < a ∧ b < 0) ∨ (a < 0 ∧ 0 < b)) : df a b = 1 := by
  unfold df; rw [if_pos]
  rcases h with h | h <;> refine ⟨by omega, by omega, ?_⟩ <;> rintro ⟨h1, h2⟩
  · have := h1 h.1; omega
  · have := h2 h.2; omega
theorem lst_cons (x : Int) {l : List Int} (h : l ≠ []) : lst (x :: l) = lst l := by
  cases l with
  | nil => exact absurd rfl h
  | cons y l => rfl
theorem fnz_ne {l : List Int} (h : lst l ≠ 0) : fnz l ≠ 0 := by
  induction l with
  | nil => exact absurd rfl h
  | cons x l ih =>
    show (if x = 0 then fnz l else x) ≠ 0
    by_cases e : x = 0
    · rw [if_pos e]
      cases l with
      | nil => exact absurd e h
      | cons y l => exact ih h
    · rw [if_neg e]; exact e
theorem V_par {l : List Int} (h : lst l ≠ 0) : (Vc l + df (fnz l) (lst l)) % 2 = 0 := by
  induction l with
  | nil => exact absurd rfl h
  | cons x l ih =>
    by_cases n : l = []
    · subst n
      show (df x 0 + 0 + df (if x = 0 then 0 else x) x) % 2 = 0
      have hx : x ≠ 0 := h
      rw [if_neg hx, df_zero', df_self]
    · rw [lst_cons x n] at h ⊢
      have i := ih h
      have f := fnz_ne h
      show (df x (fnz l) + Vc l + df (if x = 0 then fnz l else x) (lst l)) % 2 = 0
      by_cases e : x = 0
      · rw [if_pos e, e, df_zero]; omega
      · rw [if_neg e]
        have := df_three e f h
        omega
def hd0 : List Int → Int
  | [] => 0
  | x :: _ => x
def suf : List Int → List Int
  | [] => []
  | x :: l => (x + hd0 (suf l)) :: suf l
theorem suf_length (l : List Int) : (suf l).length = l.length := by
  induction l with
  | nil => rfl
  | cons x l ih => show (suf l).length + 1 = _; rw [ih]; rfl
theorem suf_ne {l : List Int} (h : l ≠ []) : suf l ≠ [] := fun e => h (List.length_eq_zero_iff.1 (by rw [← suf_length, e]; rfl))
theorem suf_lst (l : List Int) : lst (suf l) = lst l := by
  induction l with
  | nil => rfl
  | cons x l ih =>
    by_cases n : l = []
    · subst n; show x + 0 = x; omega
    · show lst ((x + hd0 (suf l)) :: suf l) = _
      rw [lst_cons _ (suf_ne n), lst_cons _ n, ih]
theorem V_head {l : List Int} (h : hd0 l ≠ 0) : fnz l = hd0 l := by
  cases l with
  | nil => exact absurd rfl h
  | cons x l => exact if_neg h
theorem suf_V {F : List Int} (h : lst F ≠ 0) : Vc (suf F) + (if hd0 (suf F) = 0 then 1 else 0) ≤ Vc F := by
  induction F with
  | nil => exact absurd rfl h
  | cons a l ih =>
    by_cases n : l = []
    · subst n
      have ha : a ≠ 0 := h
      show df (a + 0) 0 + 0 + (if a + 0 = 0 then 1 else 0) ≤ df a 0 + 0
      rw [df_zero', df_zero', if_neg (by omega)]; omega
    · rw [lst_cons a n] at h
      have i := ih h
      have p1 := V_par h
      have hs : lst (suf l) ≠ 0 := by rw [suf_lst]; exact h
      have p2 := V_par hs
      rw [suf_lst] at p2
      have f1 := fnz_ne h
      have f2 := fnz_ne hs
      show df (a + hd0 (suf l)) (fnz (suf l)) + Vc (suf l) + (if a + hd0 (suf l) = 0 then 1 else 0) ≤ df a (fnz l) + Vc l
      by_cases t0 : hd0 (suf l) = 0
      · rw [if_pos t0] at i
        rw [t0, Int.add_zero]
        have := df_le a (fnz (suf l))
        by_cases a0 : a = 0
        · rw [if_pos a0, a0, df_zero]; omega
        · rw [if_neg a0]; omega
      · rw [if_neg t0] at i
        have e := V_head t0
        rw [e] at p2 f2 ⊢
        generalize hd0 (suf l) = t at *
        have d3 := df_three f2 f1 h
        have key : ¬ (df t (fnz l) = 1 ∧ Vc (suf l) = Vc l) := by rintro ⟨k1, k2⟩; rw [k2] at p2; omega
        have dl := df_le t (fnz l)
        by_cases a0 : a = 0
        · rw [a0, Int.zero_add, df_self, df_zero, if_neg t0]; omega
        · have d4 := df_three f2 a0 f1
          have dl2 := df_le t a
          have dl3 := df_le a (fnz l)
          by_cases s0 : a + t = 0
          · have : df t a = 1 := df_pos (by omega)
            rw [if_pos s0, s0, df_zero]; omega
          · rw [if_neg s0]
            have dl4 := df_le (a + t) t
            by_cases z : df (a + t) t = 1
            · have q := df_one z
              have : df t a = 1 := df_pos (by omega)
              omega
            · omega
def sh : Nat → List Int → List Int
  | 0, _ => []
  | d + 1, F => match suf F with
    | [] => []
    | s :: Q => s :: sh d Q
theorem sh_length (d : Nat) : ∀ F : List Int, F.length = d → (sh d F).length = d := by
  induction d with
  | zero => intro F _; rfl
  | succ d ih =>
    intro F h
    have l := suf_length F
    show (match suf F with | [] => [] | s :: Q => s :: sh d Q).length = d + 1
    cases e : suf F with
    | nil => rw [e] at l; simp at l; omega
    | cons s Q => rw [e] at l; show (sh d Q).length + 1 = d + 1; rw [ih Q (by simp at l; omega)]
theorem sh_V (d : Nat) : ∀ F : List Int, F.length = d → lst F ≠ 0 → Vc (sh d F) + lz (sh d F) ≤ Vc F ∧ lst (sh d F) = lst F := by
  induction d with
  | zero => intro F h k; rw [List.length_eq_zero_iff.1 h] at k; exact absurd rfl k
  | succ d ih =>
    intro F h k
    have l := suf_length F
    have ls := suf_lst F
    have sv := suf_V k
    show Vc (match suf F with | [] => [] | s :: Q => s :: sh d Q) + lz (match suf F with | [] => [] | s :: Q => s :: sh d Q) ≤ _ ∧ lst (match suf F with | [] => [] | s :: Q => s :: sh d Q) = _
    cases e : suf F with
    | nil => rw [e] at l; simp at l; omega
    | cons s Q =>
      rw [e] at l ls sv
      have hQ : Q.length = d := by simp at l; omega
      show df s (fnz (sh d Q)) + Vc (sh d Q) + (if s = 0 then lz (sh d Q) + 1 else 0) ≤ Vc F ∧ lst (s :: sh d Q) = lst F
      have sv2 : df s (fnz Q) + Vc Q + (if s = 0 then 1 else 0) ≤ Vc F := sv
      by_cases n : Q = []
      · subst n
        have d0 : d = 0 := by simpa using hQ.symm
        subst d0
        have hs : s = lst F := ls
        refine ⟨?_, hs⟩
        rw [if_neg (fun z => k (hs ▸ z))]
        show df s 0 + 0 + 0 ≤ _
        rw [df_zero']; omega
      · rw [lst_cons s n] at ls
        have kQ : lst Q ≠ 0 := ls ▸ k
        obtain ⟨i1, i2⟩ := ih Q hQ kQ
        have nQ : sh d Q ≠ [] := fun z => by
          have := sh_length d Q hQ
          rw [z] at this
          exact n (List.length_eq_zero_iff.1 (by rw [hQ, ← this]; rfl))
        refine ⟨?_, by rw [lst_cons s nQ, i2, ls]⟩
        have p1 := V_par kQ
        have p2 := V_par (l := sh d Q) (by rw [i2]; exact kQ)
        rw [i2] at p2
        have f1 := fnz_ne kQ
        have f2 := fnz_ne (l := sh d Q) (by rw [i2]; exact kQ)
        by_cases s0 : s = 0
        · rw [if_pos s0] at sv2 ⊢
          rw [s0, df_zero] at sv2 ⊢
          omega
        · rw [if_neg s0] at sv2 ⊢
          have d1 := df_three s0 f1 kQ
          have d2 := df_three s0 f2 kQ
          have l1 := df_le s (fnz Q)
          have l2 := df_le s (fnz (sh d Q))
          by_cases z : Vc (sh d Q) = Vc Q
          · rw [z] at p2 ⊢; omega
          · omega
def evl : List Int → Int → Int
  | [], _ => 0
  | a :: l, y => a + y * evl l y
theorem suf_ev (F : List Int) (y : Int) : evl F y = hd0 (suf F) + (y - 1) * evl (suf F).tail y := by
  induction F with
  | nil => show (0 : Int) = 0 + (y - 1) * 0; omega
  | cons a l ih =>
    show a + y * evl l y = a + hd0 (suf l) + (y - 1) * evl (suf l) y
    have e : evl (suf l) y = hd0 (suf l) + y * evl (suf l).tail y := by
      cases suf l with
      | nil => show (0 : Int) = 0 + y * 0; omega
      | cons s Q => rfl
    rw [e, ih]; grind
theorem sh_ev (d : Nat) : ∀ F : List Int, F.length = d → ∀ y, evl (sh d F) y = evl F (y + 1) := by
  induction d with
  | zero => intro F h y; rw [List.length_eq_zero_iff.1 h]; rfl
  | succ d ih =>
    intro F h y
    have l := suf_length F
    rw [suf_ev F (y + 1)]
    show evl (match suf F with | [] => [] | s :: Q => s :: sh d Q) y = _
    cases e : suf F with
    | nil => rw [e] at l; simp at l; omega
    | cons s Q =>
      rw [e] at l
      show s + y * evl (sh d Q) y = s + (y + 1 - 1) * evl Q (y + 1)
      rw [ih Q (by simp at l; omega), show y + 1 - 1 = y by omega]
def lis (m : Nat) (f : Nat → Int) : List Int := (List.range m).map f
theorem lis_succ (m : Nat) (f : Nat → Int) : lis (m + 1) f = f 0 :: lis m (fun k => f (k + 1)) := by
  unfold lis; rw [List.range_succ_eq_map, List.map_cons, List.map_map]; rfl
theorem lis_ev (m : Nat) : ∀ (f : Nat → Int) (y : Int), evl (lis m f) y = ev m f y := by
  induction m with
  | zero => intro f y; rfl
  | succ m ih => intro f y; rw [lis_succ, ev_front]; show f 0 + y * evl _ y = _; rw [ih]
theorem lis_of (L : List Int) : ∃ g : Nat → Int, L = lis L.length g := by
  induction L with
  | nil => exact ⟨fun _ => 0, rfl⟩
  | cons x L ih =>
    obtain ⟨g, h⟩ := ih
    exact ⟨fun k => if k = 0 then x else g (k - 1), by
      rw [List.length_cons, lis_succ, if_pos rfl]
      have e : (fun k : Nat => if k + 1 = 0 then x else g (k + 1 - 1)) = g := funext fun k => by rw [if_neg (by omega), Nat.add_sub_cancel]
      rw [e, ← h]⟩
theorem sh_of {m : Nat} {f g : Nat → Int} (h : ∀ y : Int, 1 ≤ y → ev m g y = ev m f (y + 1)) : sh m (lis m f) = lis m g := by
  have l : (lis m f).length = m := by simp [lis]
  obtain ⟨w, hw⟩ := lis_of (sh m (lis m f))
  rw [sh_length m _ l] at hw
  rw [hw]
  have := uniq (m := m) (f := w) (g := g) fun y hy => by rw [← lis_ev, ← hw, sh_ev m _ l, lis_ev, h y hy]
  unfold lis
  exact List.map_congr_left fun k hk => this k (List.mem_range.1 hk)
theorem sh_less {m : Nat} {f g : Nat → Int} (h : ∀ y : Int, 1 ≤ y → ev m g y = ev m f (y + 1)) (hl : lst (lis m f) ≠ 0) : Vc (lis m g) + lz (lis m g) ≤ Vc (lis m f) := by
  rw [← sh_of h]; exact (sh_V m _ (by simp [lis]) hl).1
end Go.Proofs.Ytoacolpbdbojeaa.Dt
end
