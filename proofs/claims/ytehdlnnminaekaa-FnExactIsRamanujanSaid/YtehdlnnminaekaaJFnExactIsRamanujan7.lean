/- Words, what the functions that FnExactIsRamanujan reaches compute, and the plain laws on it; part 7. -/
import Derived.Deep.Matrix
import Derived.Lib.SmallJoins
import Derived.WalkKit
import Derived.ProofKit
import Derived.OpenShut
import Derived.ChangeOld
import Derived.Below
import Derived.SizedLaws
import Derived.Test.YtehdlnnminaekaaJFnExactIsRamanujan6
section
namespace Go.Proofs.Ytehdlnnminaekaa.Q
open Go.RowKit Go.Proofs.Ytehdlnnminaekaa.X Go.Proofs.Ytehdlnnminaekaa.Dt Go.Proofs.YtehdlnnminaekaaW.PrintWords Go.Proofs.YtehdlnnminaekaaW.PrintLast Go.Proofs.YtehdlnnminaekaaW.PrintMore
set_option linter.unusedVariables false
theorem wrow_succ (m : Nat) (R : Nat → Int) : wrow m R ++ [wrap64 (R m)] = wrow (m + 1) R := by unfold wrow; rw [List.range_succ]; simp
theorem wrow_zero (m : Nat) : List.replicate m (0 : Int) = wrow m (fun _ => 0) := by
  apply List.ext_getElem
  · simp [wrow]
  · intro i _ _; simp [wrow]; exact w0.symm
theorem w1 : wrap64 1 = 1 := by unfold wrap64; omega
def Sml (n : Nat) (M : Nat → Nat → Int) : Prop := ∀ a, a < n → (sm n fun b => ((ee b a).natAbs : Int) + ((M a b).natAbs : Int)) ≤ 21
theorem sm_more {f : Nat → Int} (h : ∀ i, 0 ≤ f i) (r d : Nat) : sm r f ≤ sm (r + d) f := by
  induction d with
  | zero => exact Int.le_refl _
  | succ d ih => show sm r f ≤ sm (r + d) f + f (r + d); have := h (r + d); omega
theorem coefs (n : Nat) (M : Nat → Nat → Int) (h : Sml n M) : ∃ C : Nat → Nat → Int, ∀ r, r ≤ n → ∃ N, Cp r M (C r) N ∧ (sm (r + 1) fun k => ((C r k).natAbs : Int)) ≤ 21 ^ r := by
  have ex : ∀ r, ∃ c : Nat → Int, r ≤ n → ∃ N, Cp r M c N ∧ (sm (r + 1) fun k => ((c k).natAbs : Int)) ≤ 21 ^ r := by
    intro r
    by_cases hr : r ≤ n
    · obtain ⟨c, N, h1, h2⟩ := cp_exists r M 21 (by omega) (fun a ha => by
        have h3 := h a (by omega)
        have h4 := sm_more (f := fun b => ((ee b a).natAbs : Int) + ((M a b).natAbs : Int)) (fun i => by omega) r (n - r)
        rw [show r + (n - r) = n by omega] at h4
        omega)
      exact ⟨c, fun _ => ⟨N, h1, h2⟩⟩
    · exact ⟨fun _ => 0, fun q => absurd q hr⟩
  exact ⟨fun r => Classical.choose (ex r), fun r hr => Classical.choose_spec (ex r) hr⟩
theorem small_coef {n : Nat} (hn : n ≤ 8) {c : Nat → Int} (h : (sm (n + 1) fun k => ((c k).natAbs : Int)) ≤ 21 ^ n) (k : Nat) (hk : k ≤ n) : (c k).natAbs ≤ 37822859361 := by
  have h2 : (21 : Int) ^ n ≤ 21 ^ 8 := by
    have : (21 : Nat) ^ n ≤ 21 ^ 8 := Nat.pow_le_pow_right (by omega) hn
    exact_mod_cast this
  have h3 := sm_le (n := n + 1) (f := fun i => if i = k then ((c k).natAbs : Int) else 0) (g := fun i => ((c i).natAbs : Int)) (fun i _ => by
    by_cases q : i = k
    · subst q; rw [if_pos rfl]; exact Int.le_refl _
    · rw [if_neg q]; omega)
  rw [sm_one (j := k) (by omega) (fun i _ hn => by rw [if_neg hn]), if_pos rfl] at h3
  have e : (21 : Int) ^ 8 = 37822859361 := by decide
  omega
section
variable (n : Nat) (M : Nat → Nat → Int)
theorem bk_l4 (hn : n ≤ 8) (r : Nat) (hr : r < n) (now tl : List Int) (s i : Nat) (hi : i < r) (col : Nat → Int) (x9 : Int) (nx : Nat → Int) (hnx : nx i = sm r fun j => M i j * col j) (Z : List Int)
    (hZ : Ev (fun k => spec_l01Berkowitz.l3 k (wmat n M) now (r : Int) tl (wrow r col) (s : Int) x9 (wrow (i + 1) nx) ((i + 1 : Nat) : Int)) Z) (d : Nat) : ∀ j : Nat, j + d = r →
    Ev (fun k => spec_l01Berkowitz.l4 k (wmat n M) now (r : Int) tl (wrow r col) (s : Int) x9 (wrow i nx) (i : Int) (wrap64 (sm j fun j => M i j * col j)) (j : Int)) Z := by
  induction d with
  | zero =>
    intro j hj; obtain rfl : j = r := by omega
    refine Ev.step (fun _ => rfl) (evF (by omega) (evT (by rw [wrow_length]; omega) ?_))
    rw [← hnx, wrow_succ, wnat (n := n) (by omega) (by omega)]; exact hZ
  | succ d ih =>
    intro j hj
    refine Ev.step (fun _ => rfl) (evT (by omega) (evT (by omega) (evT (by rw [wmat_length]; omega) (evT (by omega) (evT (by rw [wmat_at n M i (by omega), wrow_length]; omega) (evT (by rw [wrow_length]; omega) ?_))))))
    rw [wmat_at n M i (by omega), wrow_at n _ j (by omega), wrow_at r _ j (by omega), wr_mul, wr_add, wnat (n := n) (by omega) (by omega)]
    exact ih (j + 1) (by omega)
theorem bk_l3 (hn : n ≤ 8) (r : Nat) (hr : r < n) (now tl : List Int) (s : Nat) (hs : s < 8) (htl : tl.length ≤ 100) (col nx : Nat → Int) (hnx : ∀ i, i < r → nx i = sm r fun j => M i j * col j) (Z : List Int)
    (hZ : Ev (fun k => spec_l01Berkowitz.l2 k (wmat n M) now (r : Int) (tl ++ [wrap64 (- sm r fun i => M r i * col i)]) (wrow r nx) ((s + 1 : Nat) : Int)) Z) (d : Nat) : ∀ i : Nat, i + d = r →
    Ev (fun k => spec_l01Berkowitz.l3 k (wmat n M) now (r : Int) tl (wrow r col) (s : Int) (wrap64 (sm i fun i => M r i * col i)) (wrow i nx) (i : Int)) Z := by
  induction d with
  | zero =>
    intro i hi; obtain rfl : i = r := by omega
    refine Ev.step (fun _ => rfl) (evF (by omega) (evT (by omega) ?_))
    rw [wr_neg, wnat (i := s) (n := 8) (by omega) (by omega)]; exact hZ
  | succ d ih =>
    intro i hi
    refine Ev.step (fun _ => rfl) (evT (by omega) (evT (by omega) (evT (by rw [wmat_length]; omega) (evT (by omega) (evT (by rw [wmat_at n M r hr, wrow_length]; omega) (evT (by rw [wrow_length]; omega) ?_))))))
    rw [wmat_at n M r hr, wrow_at n _ i (by omega), wrow_at r _ i (by omega), wr_mul, wr_add]
    have h := bk_l4 n M hn r hr now tl s i (by omega) col (wrap64 (sm (i + 1) fun i => M r i * col i)) nx (hnx i (by omega)) Z (ih (i + 1) (by omega)) r 0 (by omega)
    rw [show sm 0 (fun j => M i j * col j) = 0 from rfl, w0] at h
    exact h
theorem bk_l2 (hn : n ≤ 8) (r : Nat) (hr : r < n) (now : List Int) (Z : List Int)
    (hZ : Ev (fun k => spec_l01Berkowitz.l5 k (wmat n M) now (r : Int) (wrow (r + 2) (turn r M)) (wrow (r + 2) (fun _ => 0)) 0) Z) (d : Nat) : ∀ s : Nat, s + d = r →
    Ev (fun k => spec_l01Berkowitz.l2 k (wmat n M) now (r : Int) (wrow (s + 2) (turn r M)) (wrow r (colI r M (fun a => M a r) s)) (s : Int)) Z := by
  induction d with
  | zero =>
    intro s hs; obtain rfl : s = r := by omega
    have hw : wrap64 ((s : Int) + 2) = ((s + 2 : Nat) : Int) := by rw [wid (by omega) (by omega)]; omega
    refine Ev.step (fun _ => rfl) (evF (by omega) ?_)
    rw [hw, Int.toNat_natCast, wrow_zero]
    exact evT (by omega) (evT (by omega) hZ)
  | succ d ih =>
    intro s hs
    have h := ih (s + 1) (by omega)
    refine Ev.step (fun _ => rfl) (evT (by omega) ?_)
    have h3 := bk_l3 n M hn r hr now (wrow (s + 2) (turn r M)) s (by omega) (by rw [wrow_length]; omega) (colI r M (fun a => M a r) s) (colI r M (fun a => M a r) (s + 1)) (fun i _ => rfl) Z (by
      have e : wrow (s + 2) (turn r M) ++ [wrap64 (- sm r fun i => M r i * colI r M (fun a => M a r) s i)] = wrow (s + 1 + 2) (turn r M) := wrow_succ (s + 2) (turn r M)
      rw [e]; exact h) r 0 (by omega)
    rw [show sm 0 (fun i => M r i * colI r M (fun a => M a r) s i) = 0 from rfl, w0] at h3
    exact h3
theorem bk_l1 (hn : n ≤ 8) (r : Nat) (hr : r < n) (now tl : List Int) (Z : List Int)
    (hZ : Ev (fun k => spec_l01Berkowitz.l2 k (wmat n M) now (r : Int) tl (wrow r (fun a => M a r)) 0) Z) (d : Nat) : ∀ i : Nat, i + d = r →
    Ev (fun k => spec_l01Berkowitz.l1 k (wmat n M) now (r : Int) tl (wrow i (fun a => M a r)) (i : Int)) Z := by
  induction d with
  | zero =>
    intro i hi; obtain rfl : i = r := by omega
    exact Ev.step (fun _ => rfl) (evF (by omega) hZ)
  | succ d ih =>
    intro i hi
    refine Ev.step (fun _ => rfl) (evT (by omega) (evT (by omega) (evT (by rw [wmat_length]; omega) (evT (by omega) (evT (by rw [wmat_at n M i (by omega), wrow_length]; omega) (evT (by rw [wrow_length]; omega) ?_))))))
    have e : wrow i (fun a => M a r) ++ [rd (rd_L1 (wmat n M) (i : Int)) (r : Int)] = wrow (i + 1) (fun a => M a r) := by
      rw [wmat_at n M i (by omega), wrow_at n _ r hr]; exact wrow_succ i (fun a => M a r)
    rw [e, wnat (n := n) (by omega) (by omega)]
    exact ih (i + 1) (by omega)
theorem bk_l6 (hn : n ≤ 8) (r : Nat) (hr : r < n) (c D : Nat → Int) (i : Nat) (hi : i < r + 2) (hD : D i = sm (r + 1) fun p => if p ≤ i then turn r M (i - p) * c p else 0) (Z : List Int)
    (hZ : Ev (fun k => spec_l01Berkowitz.l5 k (wmat n M) (wrow (r + 1) c) (r : Int) (wrow (r + 2) (turn r M)) (wrow (r + 2) (fun q => if q < i + 1 then D q else 0)) ((i + 1 : Nat) : Int)) Z) (d : Nat) : ∀ j : Nat, j + d = r + 1 →
    (sm j fun p => if p ≤ i then turn r M (i - p) * c p else 0) = (sm j fun p => if p ≤ i then turn r M (i - p) * c p else 0) →
    Ev (fun k => spec_l01Berkowitz.l6 k (wmat n M) (wrow (r + 1) c) (r : Int) (wrow (r + 2) (turn r M)) (wrow (r + 2) (fun q => if q < i then D q else if q = i then (sm j fun p => if p ≤ i then turn r M (i - p) * c p else 0) else 0)) (i : Int) (j : Int)) Z := by
  have fin : ∀ v, v = D i → wrow (r + 2) (fun q => if q < i then D q else if q = i then v else 0) = wrow (r + 2) (fun q => if q < i + 1 then D q else 0) := by
    intro v hv
    refine wrow_congr fun q _ => ?_
    by_cases q1 : q < i
    · rw [if_pos q1, if_pos (by omega)]
    · rw [if_neg q1]
      by_cases q2 : q = i
      · rw [if_pos q2, if_pos (by omega), hv, q2]
      · rw [if_neg q2, if_neg (by omega)]
  induction d with
  | zero =>
    intro j hj _; obtain rfl : j = r + 1 := by omega
    refine Ev.step (fun _ => rfl) (evF (by rw [wrow_length]; omega) ?_)
    rw [fin _ hD.symm, wnat (n := r + 2) (by omega) (by omega)]; exact hZ
  | succ d ih =>
    intro j hj _
    refine Ev.step (fun _ => rfl) (evT (by rw [wrow_length]; omega) ?_)
    by_cases c1 : j ≤ i
    · have h := ih (j + 1) (by omega) rfl
      have hij : wrap64 ((i : Int) - (j : Int)) = ((i - j : Nat) : Int) := by rw [wid (by omega) (by omega)]; omega
      refine evT (by omega) (evT (by omega) (evT (by rw [wrow_length]; omega) ?_))
      rw [hij]
      refine evT (by omega) (evT (by rw [wrow_length]; omega) (evT (by omega) ?_))
      rw [wrow_at (r + 2) _ i hi, wrow_at (r + 2) _ (i - j) (by omega), wrow_at (r + 1) _ j (by omega), wr_mul, wr_add, Int.toNat_natCast, wrow_set, wnat (n := r + 2) (by omega) (by omega)]
      have e : wrow (r + 2) (fun q => if q = i then (if i < i then D i else if i = i then (sm j fun p => if p ≤ i then turn r M (i - p) * c p else 0) else 0) + turn r M (i - j) * c j else if q < i then D q else if q = i then (sm j fun p => if p ≤ i then turn r M (i - p) * c p else 0) else 0) = wrow (r + 2) (fun q => if q < i then D q else if q = i then (sm (j + 1) fun p => if p ≤ i then turn r M (i - p) * c p else 0) else 0) := by
        refine wrow_congr fun q _ => ?_
        by_cases q2 : q = i
        · subst q2
          rw [if_pos rfl, if_neg (by omega), if_pos rfl, if_neg (by omega), if_pos rfl]
          show _ = wrap64 ((sm j fun p => if p ≤ q then turn r M (q - p) * c p else 0) + if j ≤ q then turn r M (q - j) * c j else 0)
          rw [if_pos c1]
        · rw [if_neg q2]
          by_cases q3 : q < i
          · rw [if_pos q3, if_pos q3]
          · rw [if_neg q3, if_neg q2, if_neg q3, if_neg q2]
      rw [e]; exact h
    · refine evF (by omega) ?_
      have tail : ∀ m, (sm (j + m) fun p => if p ≤ i then turn r M (i - p) * c p else 0) = sm j fun p => if p ≤ i then turn r M (i - p) * c p else 0 := by
        intro m
        induction m with
        | zero => rfl
        | succ m im =>
          show (sm (j + m) fun p => if p ≤ i then turn r M (i - p) * c p else 0) + (if j + m ≤ i then turn r M (i - (j + m)) * c (j + m) else 0) = _
          rw [im, if_neg (by omega), Int.add_zero]
      have := tail (d + 1)
      rw [hj] at this
      rw [fin _ (by rw [hD, this]), wnat (n := r + 2) (by omega) (by omega)]; exact hZ
theorem bk_l5 (hn : n ≤ 8) (r : Nat) (hr : r < n) (c D : Nat → Int) (hD : ∀ i, i < r + 2 → D i = sm (r + 1) fun p => if p ≤ i then turn r M (i - p) * c p else 0) (Z : List Int)
    (hZ : Ev (fun k => spec_l01Berkowitz.l0 k (wmat n M) (wrow (r + 2) D) ((r + 1 : Nat) : Int)) Z) (d : Nat) : ∀ i : Nat, i + d = r + 2 →
    Ev (fun k => spec_l01Berkowitz.l5 k (wmat n M) (wrow (r + 1) c) (r : Int) (wrow (r + 2) (turn r M)) (wrow (r + 2) (fun q => if q < i then D q else 0)) (i : Int)) Z := by
  induction d with
  | zero =>
    intro i hi; obtain rfl : i = r + 2 := by omega
    refine Ev.step (fun _ => rfl) (evF (by rw [wrow_length]; omega) ?_)
    rw [wnat (n := n) (by omega) (by omega), wrow_congr (R' := D) (fun q hq => by rw [if_pos hq])]; exact hZ
  | succ d ih =>
    intro i hi
    refine Ev.step (fun _ => rfl) (evT (by rw [wrow_length]; omega) ?_)
    have h := bk_l6 n M hn r hr c D i (by omega) (hD i (by omega)) Z (ih (i + 1) (by omega)) (r + 1) 0 (by omega) rfl
    have e : wrow (r + 2) (fun q => if q < i then D q else if q = i then (sm 0 fun p => if p ≤ i then turn r M (i - p) * c p else 0) else 0) = wrow (r + 2) (fun q => if q < i then D q else 0) := by
      refine wrow_congr fun q _ => ?_
      by_cases q1 : q < i
      · rw [if_pos q1, if_pos q1]
      · rw [if_neg q1, if_neg q1]
        by_cases q2 : q = i
        · rw [if_pos q2]; rfl
        · rw [if_neg q2]
    rw [e] at h; exact h
theorem bk_l0 (hn : n ≤ 8) (C : Nat → Nat → Int) (hC : ∀ r, r ≤ n → ∃ N, Cp r M (C r) N ∧ (sm (r + 1) fun k => ((C r k).natAbs : Int)) ≤ 21 ^ r) (Z : List Int) (hZ : Ev (fun k => spec_l01Trim.f k (wrow (n + 1) (C n))) Z) (d : Nat) : ∀ r : Nat, r + d = n →
    Ev (fun k => spec_l01Berkowitz.l0 k (wmat n M) (wrow (r + 1) (C r)) (r : Int)) Z := by
  induction d with
  | zero =>
    intro r hr; obtain rfl : r = n := by omega
    exact Ev.step (fun _ => rfl) (evF (by rw [wmat_length]; omega) (Ev.bind hZ (evN rfl)))
  | succ d ih =>
    intro r hr
    have h := ih (r + 1) (by omega)
    obtain ⟨N1, c1, _⟩ := hC r (by omega)
    obtain ⟨N2, c2, _⟩ := hC (r + 1) (by omega)
    refine Ev.step (fun _ => rfl) (evT (by rw [wmat_length]; omega) (evT (by omega) (evT (by rw [wmat_at n M r (by omega), wrow_length]; omega) ?_)))
    have e : ([1, wrap64 (-(rd (rd_L1 (wmat n M) (r : Int)) (r : Int)))] : List Int) = wrow 2 (turn r M) := by
      rw [wmat_at n M r (by omega), wrow_at n _ r (by omega), wr_neg]
      show _ = [wrap64 1, wrap64 (- M r r)]
      rw [w1]
    rw [e]
    have s5 := bk_l5 n M hn r (by omega) (C r) (C (r + 1)) (fun i hi => berkowitz c1 c2 i (by omega)) Z h (r + 2) 0 (by omega)
    have e0 : wrow (r + 2) (fun q => if q < 0 then C (r + 1) q else 0) = wrow (r + 2) (fun _ => 0) := wrow_congr fun q _ => by rw [if_neg (by omega)]
    rw [e0] at s5
    have s2 := bk_l2 n M hn r (by omega) (wrow (r + 1) (C r)) Z s5 r 0 (by omega)
    exact bk_l1 n M hn r (by omega) (wrow (r + 1) (C r)) (wrow 2 (turn r M)) Z s2 r 0 (by omega)
theorem fl_l1 (hn : n ≤ 8) (c : Nat → Int) (k : Nat) (hk : 1 ≤ k) (hkn : k ≤ n) (H : Nat → Nat → Int) (Z : List Int)
    (hZ : Ev (fun q => (impl_rowsTimes.f q (wmat n M) (wmat n (fun a b => H a b + c (k - 1) * ee b a))).bind fun t119 => ((impl_trace.f q t119).bind fun t122 => (if (k : Int) = 0 then (none) else (if (wrow k c).length < 17592186044416 then (impl_determinant.l0 q (wmat n M) (wrow k c ++ [wrap64 (Int.tdiv (wrap64 (-t122)) (k : Int))]) (wmat n (fun a b => H a b + c (k - 1) * ee b a)) (wrap64 ((k : Int) + 1))) else (none))))) Z) (d : Nat) : ∀ i : Nat, i + d = n →
    Ev (fun q => impl_determinant.l1 q (wmat n M) (wrow k c) (wmat n (fun a b => if a < i ∧ b = a then H a b + c (k - 1) else H a b)) (k : Int) (n : Int) (i : Int)) Z := by
  induction d with
  | zero =>
    intro i hi; obtain rfl : i = n := by omega
    have e : wmat i (fun a b => if a < i ∧ b = a then H a b + c (k - 1) else H a b) = wmat i (fun a b => H a b + c (k - 1) * ee b a) := by
      refine wmat_congr fun a b ha _ => ?_
      unfold ee
      by_cases q : b = a
      · rw [if_pos ⟨ha, q⟩, if_pos q.symm, Int.mul_one]
      · rw [if_neg (fun z => q z.2), if_neg (fun z => q z.symm), Int.mul_zero, Int.add_zero]
    rw [e]
    exact Ev.step (fun _ => rfl) (evF (by omega) hZ)
  | succ d ih =>
    intro i hi
    have hw : wrap64 ((k : Int) - 1) = ((k - 1 : Nat) : Int) := by rw [wid (by omega) (by omega)]; omega
    refine Ev.step (fun _ => rfl) (evT (by omega) (evT (by omega) (evT (by rw [wmat_length]; omega) (evT (by rw [wmat_at n _ i (by omega), wrow_length]; omega) ?_))))
    rw [hw]
    refine evT (by omega) (evT (by rw [wrow_length]; omega) ?_)
    have e1 : wrap64 (rd (rd_L1 (wmat n (fun a b => if a < i ∧ b = a then H a b + c (k - 1) else H a b)) (i : Int)) (i : Int) + rd (wrow k c) ((k - 1 : Nat) : Int)) = wrap64 (H i i + c (k - 1)) := by
      rw [wmat_at n _ i (by omega), wrow_at n _ i (by omega), wrow_at k _ (k - 1) (by omega), wr_add, if_neg (by omega)]
    rw [e1, Int.toNat_natCast, wmat_put n _ i i _ (by omega), wnat (n := n) (by omega) (by omega)]
    have e2 : wmat n (fun a b => if a = i ∧ b = i then H i i + c (k - 1) else if a < i ∧ b = a then H a b + c (k - 1) else H a b) = wmat n (fun a b => if a < i + 1 ∧ b = a then H a b + c (k - 1) else H a b) := by
      refine wmat_congr fun a b _ _ => ?_
      by_cases q : a = i ∧ b = i
      · rw [if_pos q, if_pos ⟨by omega, by rw [q.1, q.2]⟩, q.1, q.2]
      · rw [if_neg q]
        by_cases q2 : a < i ∧ b = a
        · rw [if_pos q2, if_pos ⟨by omega, q2.2⟩]
        · rw [if_neg q2, if_neg (fun z => by
            by_cases q3 : a = i
            · exact q ⟨q3, by rw [z.2, q3]⟩
            · exact q2 ⟨by omega, z.2⟩)]
    rw [e2]; exact ih (i + 1) (by omega)
theorem fl_l0 (hn : n ≤ 8) (c : Nat → Int) (N : Nat → Nat → Nat → Int) (hc : Cp n M c N) (hs : (sm (n + 1) fun k => ((c k).natAbs : Int)) ≤ 21 ^ n) (Z : List Int) (hZ : Ev (fun k => impl_trimmed.f k (wrow (n + 1) c)) Z) (d : Nat) : ∀ k : Nat, k + d = n + 1 → 1 ≤ k →
    Ev (fun q => impl_determinant.l0 q (wmat n M) (wrow k c) (wmat n (nw n M c (k - 1))) (k : Int)) Z := by
  induction d with
  | zero =>
    intro k hk _; obtain rfl : k = n + 1 := by omega
    exact Ev.step (fun _ => rfl) (evF (by rw [wmat_length]; omega) (Ev.bind hZ (evN rfl)))
  | succ d ih =>
    intro k hk h1
    have h := ih (k + 1) (by omega) (by omega)
    rw [Nat.add_sub_cancel] at h
    have hb := small_coef hn hs k (by omega)
    have hlv := leverrier hc k (by omega)
    refine Ev.step (fun _ => rfl) (evT (by rw [wmat_length]; omega) (Ev.bind (rowsTimes_ n (by omega) M (nw n M c (k - 1))) ?_))
    rw [wmat_length]
    have enw : (fun a b => mul n M (nw n M c (k - 1)) a b + c (k - 1) * ee b a) = nw n M c k := by
      obtain ⟨m, rfl⟩ : ∃ m, k = m + 1 := ⟨k - 1, by omega⟩
      funext a b; rw [Nat.add_sub_cancel]; rfl
    have l1 := fl_l1 n M hn c k h1 (by omega) (mul n M (nw n M c (k - 1))) Z ?_ n 0 (by omega)
    · have e : wmat n (fun a b => if a < 0 ∧ b = a then mul n M (nw n M c (k - 1)) a b + c (k - 1) else mul n M (nw n M c (k - 1)) a b) = wmat n (mul n M (nw n M c (k - 1))) := wmat_congr fun a b _ _ => by rw [if_neg (fun z => by omega)]
      rw [e] at l1; exact l1
    · rw [enw]
      refine Ev.bind (rowsTimes_ n (by omega) M (nw n M c k)) (Ev.bind (trace_ n (by omega) _) (evF (by omega) (evT (by rw [wrow_length]; omega) ?_)))
      have et : (sm n fun l => mul n M (nw n M c k) l l) = - ((k : Int) * c k) := hlv
      have ev1 : wrap64 (Int.tdiv (wrap64 (- wrap64 (sm n fun l => mul n M (nw n M c k) l l))) (k : Int)) = wrap64 (c k) := by
        have hk8 : (k : Int) ≤ 8 := by omega
        have b1 : (k : Int) * c k ≤ 8 * 37822859361 ∧ -(8 * 37822859361) ≤ (k : Int) * c k := by
          have : ((k : Int) * c k).natAbs ≤ 8 * 37822859361 := by
            rw [Int.natAbs_mul]
            exact Nat.mul_le_mul (by omega) hb
          omega
        rw [wr_neg, et, Int.neg_neg, wid (x := (k : Int) * c k) (by omega) (by omega), Int.mul_tdiv_cancel_left _ (by omega)]
      rw [ev1, wrow_succ, wnat (i := k) (n := n + 1) (by omega) (by omega)]
      exact h
end
end Go.Proofs.Ytehdlnnminaekaa.Q
end
section
namespace Go.Proofs.Ytehdlnnminaekaa.Q
open Go.RowKit Go.Proofs.Ytehdlnnminaekaa.X Go.Proofs.YtehdlnnminaekaaW.PrintWords Go.Proofs.YtehdlnnminaekaaW.PrintLast Go.Proofs.YtehdlnnminaekaaW.PrintMore
set_option linter.unusedVariables false
theorem tmod2 (m : Nat) : Int.tmod (m : Int) 2 = ((m % 2 : Nat) : Int) := (Int.ofNat_tmod m 2).symm
theorem tdiv2 (m : Nat) (hm : m ≤ 1048576) : wrap64 (Int.tdiv (m : Int) 2) = ((m / 2 : Nat) : Int) := by
  have : Int.tdiv (m : Int) 2 = ((m / 2 : Nat) : Int) := (Int.ofNat_tdiv m 2).symm
  rw [this]; exact wid (by omega) (by omega)
theorem ends0 (n : Int) (P : List (Nat × Nat)) (hP : P.length ≤ 1000) (i : Nat) (h : i < P.length) : spec_l01Ends.f n (edg P) ((2 * i : Nat) : Int) = some ((P[i].1 : Int), (P[i].2 : Int)) := by
  unfold spec_l01Ends.f
  rw [tdiv2 _ (by omega), tmod2, show 2 * i / 2 = i by omega, show 2 * i % 2 = 0 by omega, if_pos (by omega), if_pos (by rw [edg_length]; omega), if_neg (by omega), edg_at P i h, if_pos (by simp), if_pos (by simp)]
  rfl
theorem ends1 (n : Int) (P : List (Nat × Nat)) (hP : P.length ≤ 1000) (i : Nat) (h : i < P.length) : spec_l01Ends.f n (edg P) ((2 * i + 1 : Nat) : Int) = some ((P[i].2 : Int), (P[i].1 : Int)) := by
  unfold spec_l01Ends.f
  rw [tdiv2 _ (by omega), tmod2, show (2 * i + 1) / 2 = i by omega, show (2 * i + 1) % 2 = 1 by omega, if_pos (by omega), if_pos (by rw [edg_length]; omega), if_pos (by omega), edg_at P i h, if_pos (by simp), if_pos (by simp)]
  rfl
end Go.Proofs.Ytehdlnnminaekaa.Q
end
section
namespace Go.Proofs.Ytehdlnnminaekaa.Q
open Go.RowKit Go.Proofs.Ytehdlnnminaekaa.X Go.Proofs.YtehdlnnminaekaaW.PrintWords Go.Proofs.YtehdlnnminaekaaW.PrintLast Go.Proofs.YtehdlnnminaekaaW.PrintMore
set_option linter.unusedVariables false
set_option linter.unusedSimpArgs false
def row (N : Nat) (g : Nat → Nat) : List Int := (List.range N).map fun j => (g j : Int)
def mat (N : Nat) (f : Nat → Nat → Nat) : List (List Int) := (List.range N).map fun i => row N (f i)
theorem row_length (N : Nat) (g : Nat → Nat) : (row N g).length = N := by simp [row]
theorem mat_length (N : Nat) (f : Nat → Nat → Nat) : (mat N f).length = N := by simp [mat]
theorem row_at (N : Nat) (g : Nat → Nat) (j : Nat) (h : j < N) : rd (row N g) (j : Int) = (g j : Int) := by rw [rd_at _ _ (by rw [row_length]; exact h)]; simp [row]
theorem mat_at (N : Nat) (f : Nat → Nat → Nat) (i : Nat) (h : i < N) : rd_L1 (mat N f) (i : Int) = row N (f i) := by rw [rdL _ _ (by rw [mat_length]; exact h)]; simp [mat]
theorem row_set (N : Nat) (g : Nat → Nat) (b x : Nat) : (row N g).set b (x : Int) = row N (fun j => if j = b then x else g j) := by
  apply List.ext_getElem
  · simp [row]
  · intro j h1 h2
    simp only [row, List.getElem_set, List.getElem_map, List.getElem_range]
    split <;> (split <;> first | rfl | omega)
theorem mat_set (N : Nat) (f : Nat → Nat → Nat) (a : Nat) (g : Nat → Nat) : (mat N f).set a (row N g) = mat N (fun i => if i = a then g else f i) := by
  apply List.ext_getElem
  · simp [mat]
  · intro j h1 h2
    simp only [mat, List.getElem_set, List.getElem_map, List.getElem_range]
    split <;> (split <;> first | rfl | omega)
theorem mat_zero (N : Nat) : List.replicate N (List.replicate N (0 : Int)) = mat N (fun _ _ => 0) := by
  apply List.ext_getElem
  · simp [mat]
  · intro j h1 h2
    simp only [mat, row, List.getElem_replicate, List.getElem_map, List.getElem_range]
    apply List.ext_getElem
    · simp
    · intro i h3 h4; simp
def bmp (f : Nat → Nat → Nat) (a b : Nat) : Nat → Nat → Nat := fun i j => f i j + (if i = a ∧ j = b then 1 else 0)
def dbl (f : Nat → Nat → Nat) (p : Nat × Nat) : Nat → Nat → Nat := bmp (bmp f p.1 p.2) p.2 p.1
def adj (P : List (Nat × Nat)) : Nat → Nat → Nat := P.foldl dbl (fun _ _ => 0)
theorem bmp_mat (N : Nat) (f : Nat → Nat → Nat) (a b : Nat) (ha : a < N) (hb : b < N) (hf : f a b ≤ 1048576) :
    (mat N f).set ((a : Int)).toNat ((rd_L1 (mat N f) (a : Int)).set ((b : Int)).toNat (wrap64 (rd (rd_L1 (mat N f) (a : Int)) (b : Int) + 1))) = mat N (bmp f a b) := by
  rw [mat_at N f a ha, row_at N _ b hb, wid (by omega) (by omega), Int.toNat_natCast, Int.toNat_natCast, show ((f a b : Int) + 1) = ((f a b + 1 : Nat) : Int) by omega, row_set, mat_set]
  congr 1
  funext i
  split
  · rename_i h; subst h
    funext j; unfold bmp
    split
    · rename_i h; subst h; simp
    · rename_i h; simp [h]
  · rename_i h; funext j; unfold bmp; simp [h]
theorem bmp_le (f : Nat → Nat → Nat) (a b i j : Nat) : bmp f a b i j ≤ f i j + 1 := by unfold bmp; split <;> omega
theorem dbl_le (f : Nat → Nat → Nat) (p : Nat × Nat) (i j : Nat) : dbl f p i j ≤ f i j + 2 := by
  unfold dbl; have := bmp_le (bmp f p.1 p.2) p.2 p.1 i j; have := bmp_le f p.1 p.2 i j; omega
theorem adjImpl_l (N : Nat) (P : List (Nat × Nat)) (g : G8 N P) (d : Nat) : ∀ (i : Nat) (f : Nat → Nat → Nat), i + d = P.length → (∀ a b, f a b ≤ 2 * i) → Ev (fun k => impl_Graph_adjacency.l0 k (mat N f) (edg P) (P.length : Int) (i : Int)) (mat N ((P.drop i).foldl dbl f)) := by
  have h8 := g.hi; have h10 := g.len
  induction d with
  | zero =>
    intro i f hi hf
    refine Ev.step (fun _ => rfl) (evF (by omega) (evN ?_))
    rw [List.drop_of_length_le (by omega)]; rfl
  | succ d ih =>
    intro i f hi hf
    have hi2 : i < P.length := by omega
    rw [List.drop_eq_getElem_cons hi2]
    have hb2 := g.ends _ (List.getElem_mem hi2)
    generalize hp : P[i] = p at hb2 ⊢
    have hr : rd_L1 (edg P) (i : Int) = [(p.1 : Int), (p.2 : Int)] := by rw [edg_at P i hi2, hp]
    refine Ev.step (fun _ => rfl) (evT (by omega) (evT (by omega) (evT (by rw [edg_length]; omega) ?_)))
    rw [hr, show ∀ a b : Int, rd [a, b] 0 = a from fun _ _ => rfl, show ∀ a b : Int, rd [a, b] 1 = b from fun _ _ => rfl]
    refine evT (by simp) (evT (by omega) (evT (by rw [mat_length]; omega) (evT (by simp) (evT (by omega) (evT (by rw [mat_at _ _ _ hb2.1, row_length]; omega) ?_)))))
    rw [bmp_mat N f p.1 p.2 hb2.1 hb2.2 (by have := hf p.1 p.2; omega)]
    refine evB rfl (evT (by rw [mat_length]; omega) (evT (by rw [mat_at _ _ _ hb2.2, row_length]; omega) ?_))
    rw [bmp_mat N (bmp f p.1 p.2) p.2 p.1 hb2.2 hb2.1 (by have := hf p.2 p.1; have := bmp_le f p.1 p.2 p.2 p.1; omega), wnat (n := P.length) hi2 (by omega)]
    exact ih (i + 1) (dbl f p) (by omega) (fun a b => by have := dbl_le f p a b; have := hf a b; omega)
theorem sqImpl_l (N : Nat) (hN : N ≤ 8) (d : Nat) : ∀ i : Nat, i + d = N → Ev (fun k => impl_square.l0 k (N : Int) (List.replicate i (List.replicate N 0)) (N : Int) (i : Int)) (List.replicate N (List.replicate N 0)) := by
  induction d with
  | zero => intro i hi; obtain rfl : i = N := by omega
            exact Ev.step (fun _ => rfl) (evF (by omega) (evN rfl))
  | succ d ih =>
    intro i hi
    refine Ev.step (fun _ => rfl) (evT (by omega) (evT (by omega) (evT (by omega) (evT (by simp; omega) ?_))))
    rw [wnat (n := N) (by omega) (by omega), Int.toNat_natCast, ← List.replicate_succ']
    exact ih (i + 1) (by omega)
theorem adjImpl (N : Nat) (P : List (Nat × Nat)) (g : G8 N P) : Ev (fun k => impl_Graph_adjacency.f k (N : Int) (edg P)) (mat N (adj P)) := by
  have h8 := g.hi
  unfold impl_Graph_adjacency.f impl_square.f
  refine Ev.bind (sqImpl_l N h8 N 0 (by omega)) ?_
  rw [mat_zero, edg_length]
  exact adjImpl_l N P g P.length 0 _ (by omega) (fun _ _ => by omega)
theorem adjSpec_l (N : Nat) (P : List (Nat × Nat)) (g : G8 N P) (d : Nat) : ∀ (i : Nat) (f : Nat → Nat → Nat), i + d = P.length → (∀ a b, f a b ≤ 2 * i) → Ev (fun k => spec_l01Adjacency.l1 k (mat N f) ((2 * i : Nat) : Int) (N : Int) (edg P)) (mat N ((P.drop i).foldl dbl f)) := by
  have h8 := g.hi; have h10 := g.len
  have hw : wrap64 (2 * ((edg P).length : Int)) = ((2 * P.length : Nat) : Int) := by rw [edg_length, wid (by omega) (by omega)]; omega
  induction d with
  | zero =>
    intro i f hi hf
    refine Ev.step (fun _ => rfl) (evF (by rw [hw]; omega) (evN ?_))
    rw [List.drop_of_length_le (by omega)]; rfl
  | succ d ih =>
    intro i f hi hf
    have hi2 : i < P.length := by omega
    rw [List.drop_eq_getElem_cons hi2]
    have hb2 := g.ends _ (List.getElem_mem hi2)
    have e0 := ends0 (N : Int) P (by omega) i hi2
    have e1 := ends1 (N : Int) P (by omega) i hi2
    generalize hp : P[i] = p at hb2 e0 e1 ⊢
    refine Ev.step (fun _ => rfl) (evT (by rw [hw]; omega) (evB e0 ?_))
    refine evT (by show (0 : Int) ≤ (p.1 : Int); omega) (evT (by show (p.1 : Int) < _; rw [mat_length]; omega) (evT (by show (0 : Int) ≤ (p.2 : Int); omega) (evT (by show (p.2 : Int) < _; rw [mat_at _ _ _ hb2.1, row_length]; omega) ?_)))
    rw [bmp_mat N f p.1 p.2 hb2.1 hb2.2 (by have := hf p.1 p.2; omega), wnat (n := 2 * P.length) (by omega) (by omega)]
    refine Ev.step (fun _ => rfl) (evT (by rw [hw]; omega) (evB e1 ?_))
    refine evT (by show (0 : Int) ≤ (p.2 : Int); omega) (evT (by show (p.2 : Int) < _; rw [mat_length]; omega) (evT (by show (0 : Int) ≤ (p.1 : Int); omega) (evT (by show (p.1 : Int) < _; rw [mat_at _ _ _ hb2.2, row_length]; omega) ?_)))
    rw [bmp_mat N (bmp f p.1 p.2) p.2 p.1 hb2.2 hb2.1 (by have := hf p.2 p.1; have := bmp_le f p.1 p.2 p.2 p.1; omega), wnat (n := 2 * P.length) (by omega) (by omega)]
    exact ih (i + 1) (dbl f p) (by omega) (fun a b => by have := dbl_le f p a b; have := hf a b; omega)
theorem sqSpec_l (N : Nat) (hN : N ≤ 8) (E : List (List Int)) (R : List (List Int)) (hR : Ev (fun k => spec_l01Adjacency.l1 k (List.replicate N (List.replicate N 0)) 0 (N : Int) E) R) (d : Nat) : ∀ i : Nat, i + d = N → Ev (fun k => spec_l01Adjacency.l0 k (List.replicate i (List.replicate N 0)) (i : Int) (N : Int) E) R := by
  induction d with
  | zero => intro i hi; obtain rfl : i = N := by omega
            exact Ev.step (fun _ => rfl) (evF (by omega) hR)
  | succ d ih =>
    intro i hi
    refine Ev.step (fun _ => rfl) (evT (by omega) (evT (by omega) (evT (by omega) (evT (by simp; omega) ?_))))
    rw [wnat (n := N) (by omega) (by omega), Int.toNat_natCast, ← List.replicate_succ']
    exact ih (i + 1) (by omega)
theorem adjSpec (N : Nat) (P : List (Nat × Nat)) (g : G8 N P) : Ev (fun k => spec_l01Adjacency.f k (N : Int) (edg P)) (mat N (adj P)) := by
  have h8 := g.hi
  unfold spec_l01Adjacency.f
  refine sqSpec_l N h8 _ _ ?_ N 0 (by omega)
  rw [mat_zero]
  exact adjSpec_l N P g P.length 0 _ (by omega) (fun _ _ => by omega)
end Go.Proofs.Ytehdlnnminaekaa.Q
end
section
namespace Go.Proofs.Ytehdlnnminaekaa.Q
open Go.RowKit Go.Proofs.Ytehdlnnminaekaa.X Go.Proofs.Ytehdlnnminaekaa.Dt Go.Proofs.YtehdlnnminaekaaW.PrintWords Go.Proofs.YtehdlnnminaekaaW.PrintLast Go.Proofs.YtehdlnnminaekaaW.PrintMore
set_option linter.unusedVariables false
theorem sm_ee (n a : Nat) : (sm n fun b => ((ee b a).natAbs : Int)) ≤ 1 := by
  by_cases h : a < n
  · rw [sm_one h (fun i _ hn => by unfold ee; rw [if_neg (fun q => hn q.symm)]; rfl)]; unfold ee; simp
  · rw [sm_zero' (fun i hi => by unfold ee; rw [if_neg (fun q => h (by omega))]; rfl)]; omega
theorem sm_bump (n : Nat) (f g : Nat → Int) (j : Nat) (v : Int) (hv : 0 ≤ v) (h : ∀ b, g b ≤ f b + if b = j then v else 0) : sm n g ≤ sm n f + v := by
  have h1 := sm_le (n := n) (f := g) (g := fun b => f b + if b = j then v else 0) (fun b _ => h b)
  rw [sm_add] at h1
  have h2 : (sm n fun b => if b = j then v else 0) ≤ v := by
    by_cases q : j < n
    · rw [sm_one q (fun i _ hn => by rw [if_neg hn]), if_pos rfl]; exact Int.le_refl _
    · rw [sm_zero' (fun i hi => by rw [if_neg (fun z => q (by omega))])]; exact hv
  omega
theorem adj_row (n : Nat) (Q : List (Nat × Nat)) : ∀ (f : Nat → Nat → Nat) (B : Int), (∀ a, (sm n fun b => ((f a b : Nat) : Int)) ≤ B) → ∀ a, (sm n fun b => ((Q.foldl dbl f a b : Nat) : Int)) ≤ B + 2 * (Q.length : Int) := by
  induction Q with
  | nil => intro f B h a; have := h a; show (sm n fun b => ((f a b : Nat) : Int)) ≤ B + 2 * ((0 : Nat) : Int); omega
  | cons p Q ih =>
    intro f B h a
    have step : ∀ a, (sm n fun b => ((dbl f p a b : Nat) : Int)) ≤ B + 2 := by
      intro a
      have h1 := sm_bump n (fun b => ((f a b : Nat) : Int)) (fun b => ((bmp f p.1 p.2 a b : Nat) : Int)) p.2 1 (by omega) (fun b => by
        unfold bmp
        by_cases q : b = p.2
        · rw [if_pos q]; split <;> omega
        · rw [if_neg q, if_neg (fun z => q z.2)]; omega)
      have h2 := sm_bump n (fun b => ((bmp f p.1 p.2 a b : Nat) : Int)) (fun b => ((dbl f p a b : Nat) : Int)) p.1 1 (by omega) (fun b => by
        unfold dbl
        show ((bmp (bmp f p.1 p.2) p.2 p.1 a b : Nat) : Int) ≤ _
        generalize hg : bmp f p.1 p.2 = f2
        unfold bmp
        by_cases q : b = p.1
        · rw [if_pos q]; split <;> omega
        · rw [if_neg q, if_neg (fun z => q z.2)]; omega)
      have := h a
      omega
    have := ih (dbl f p) (B + 2) step a
    show (sm n fun b => ((Q.foldl dbl (dbl f p) a b : Nat) : Int)) ≤ B + 2 * (((Q.length + 1 : Nat)) : Int)
    omega
theorem adj_sml (n : Nat) (P : List (Nat × Nat)) (hP : P.length ≤ 10) : Sml n (fun i j => (Q.adj P i j : Int)) := by
  intro a _
  rw [sm_add]
  have h1 := sm_ee n a
  have h2 := adj_row n P (fun _ _ => 0) 0 (fun a => Int.le_of_eq (sm_zero n)) a
  have e : (sm n fun b => (((Q.adj P a b : Int)).natAbs : Int)) = sm n fun b => ((P.foldl dbl (fun _ _ => 0) a b : Nat) : Int) := sm_congr fun b _ => by show (((Q.adj P a b : Int)).natAbs : Int) = ((Q.adj P a b : Nat) : Int); omega
  rw [e]; omega
theorem mat_w (N : Nat) (f : Nat → Nat → Nat) (h : ∀ i j, f i j ≤ 1000000) : mat N f = wmat N (fun i j => (f i j : Int)) := by
  unfold mat wmat row wrow
  refine List.map_congr_left fun i _ => List.map_congr_left fun j _ => ?_
  have := h i j
  exact (wid (x := (f i j : Int)) (by omega) (by omega)).symm
theorem adj_small (P : List (Nat × Nat)) (hP : P.length ≤ 10) (i j : Nat) : Q.adj P i j ≤ 20 := by
  have gen : ∀ (Q : List (Nat × Nat)) (f : Nat → Nat → Nat) (b : Nat), (∀ i j, f i j ≤ b) → ∀ i j, Q.foldl dbl f i j ≤ b + 2 * Q.length := by
    intro Q
    induction Q with
    | nil => intro f b h i j; exact h i j
    | cons q Q ih =>
      intro f b h i j
      have := ih (dbl f q) (b + 2) (fun i j => by have := dbl_le f q i j; have := h i j; omega) i j
      show Q.foldl dbl (dbl f q) i j ≤ b + 2 * (Q.length + 1)
      omega
  have := gen P (fun _ _ => 0) 0 (fun _ _ => by omega) i j
  show P.foldl dbl (fun _ _ => 0) i j ≤ 20
  omega
theorem adj_w (N : Nat) (P : List (Nat × Nat)) (hP : P.length ≤ 10) : mat N (Q.adj P) = wmat N (fun i j => (Q.adj P i j : Int)) := mat_w N _ (fun i j => by have := adj_small P hP i j; omega)
end Go.Proofs.Ytehdlnnminaekaa.Q
end
section
namespace Go.Proofs.Ytehdlnnminaekaa.Q
open Go.RowKit Go.Proofs.Ytehdlnnminaekaa.X Go.Proofs.Ytehdlnnminaekaa.Dt Go.Proofs.YtehdlnnminaekaaW.PrintWords Go.Proofs.YtehdlnnminaekaaW.PrintLast Go.Proofs.YtehdlnnminaekaaW.PrintMore
set_option linter.unusedVariables false
end Go.Proofs.Ytehdlnnminaekaa.Q
end
section
namespace Go.Proofs.Ytehdlnnminaekaa.Q
open Go.RowKit Go.Proofs.Ytehdlnnminaekaa.X Go.Proofs.Ytehdlnnminaekaa.Dt Go.Proofs.YtehdlnnminaekaaW.PrintWords Go.Proofs.YtehdlnnminaekaaW.PrintLast Go.Proofs.YtehdlnnminaekaaW.PrintMore
set_option linter.unusedVariables false
theorem wr_mulr (x y : Int) : wrap64 (x * wrap64 y) = wrap64 (x * y) := by
  obtain ⟨q, h⟩ := wr_form y
  rw [h, Int.mul_add, show x * (18446744073709551616 * q) = 18446744073709551616 * (x * q) by ac_rfl, wr_far]
theorem wr_mull (x y : Int) : wrap64 (wrap64 x * y) = wrap64 (x * y) := by rw [Int.mul_comm, wr_mulr, Int.mul_comm]
theorem wrow_mem {m : Nat} {R : Nat → Int} {x : Int} (h : x ∈ wrow m R) : wrap64 x = x := by
  unfold wrow at h
  obtain ⟨j, _, rfl⟩ := List.mem_map.1 h
  exact wr_wr _
theorem trim_head (l : List Int) (hl : l.length ≤ 1048576) (h0 : 0 < l.length) (h1 : l[0] = 1) (i : Nat) (hi : i ≤ l.length) (hp : 0 < i) : ∃ r : List Int, r.length ≤ i ∧ 0 < r.length ∧ rd r 0 = 1 ∧ (∀ x ∈ r, x ∈ l) ∧ Ev (fun k => spec_l01Trim.l0 k l (i : Int)) r ∧ Ev (fun k => impl_trimmed.l0 k (l.take i)) r := by
  have hd : ∀ i : Nat, i ≤ l.length → ((l.take i).length : Int) = i := fun i hi => by rw [List.length_take]; omega
  induction i with
  | zero => omega
  | succ i ih =>
    have hw : wrap64 (((i + 1 : Nat) : Int) - 1) = (i : Int) := by rw [wid (by omega) (by omega)]; omega
    have hr : rd (l.take (i + 1)) (i : Int) = l[i] := by rw [rd_at _ _ (by simp; omega)]; simp
    by_cases h : l[i] = 0
    · have hi0 : 0 < i := by
        by_cases q : i = 0
        · subst q; rw [h1] at h; omega
        · omega
      obtain ⟨r, a0, a1, a2, a5, a3, a4⟩ := ih (by omega) hi0
      refine ⟨r, by omega, a1, a2, a5, Ev.step (fun _ => rfl) (evT (by omega) ?_), Ev.step (fun _ => rfl) (evT (by rw [hd _ hi]; omega) ?_)⟩
      · rw [hw]; exact evT (by omega) (evT (by omega) (evT (by rw [rd_at _ _ (by omega)]; exact h) a3))
      · rw [hd (i + 1) hi, hw]
        refine evT (by omega) (evT (by omega) (evT (by rw [hr]; exact h) (evT (by omega) ?_)))
        rw [Int.toNat_natCast, List.take_take, Nat.min_eq_left (by omega)]; exact a4
    · refine ⟨l.take (i + 1), by simp; omega, by simp; omega, ?_, fun x hx => List.mem_of_mem_take hx, Ev.step (fun _ => rfl) (evT (by omega) ?_), Ev.step (fun _ => rfl) (evT (by rw [hd _ hi]; omega) ?_)⟩
      · have := rd_at (l.take (i + 1)) 0 (by simp; omega)
        rw [show ((0 : Nat) : Int) = 0 from rfl] at this
        rw [this]; simpa using h1
      · rw [hw, Int.toNat_natCast, own_ _ (by simp; omega)]; exact evT (by omega) (evT (by omega) (evF (by rw [rd_at _ _ (by omega)]; exact h) (evT (by omega) (evT (by omega) (evN rfl)))))
      · rw [hd (i + 1) hi, hw, clone_ _ (by simp; omega)]
        exact evT (by omega) (evT (by omega) (evF (by rw [hr]; exact h) (evN rfl)))
theorem det_one (n : Nat) (M : Nat → Nat → Int) (hn : n ≤ 8) (hM : Sml n M) : ∃ r : List Int, r.length ≤ n + 1 ∧ 0 < r.length ∧ rd r 0 = 1 ∧ (∀ x ∈ r, wrap64 x = x) ∧ Ev (fun k => spec_l01Berkowitz.f k (wmat n M)) r ∧ Ev (fun k => impl_determinant.f k (wmat n M)) r := by
  obtain ⟨C, hC⟩ := coefs n M hM
  obtain ⟨N0, c0, _⟩ := hC 0 (by omega)
  obtain ⟨N, cn, hs⟩ := hC n (Nat.le_refl _)
  have o0 := c0.one
  have on := cn.one
  have hl := wrow_length (n + 1) (C n)
  obtain ⟨r, hr, hp, h1, hm, t1, t2⟩ := trim_head (wrow (n + 1) (C n)) (by rw [hl]; omega) (by rw [hl]; omega) (by simp [wrow]; rw [on, w1]) (wrow (n + 1) (C n)).length (Nat.le_refl _) (by rw [hl]; omega)
  rw [List.take_of_length_le (Nat.le_refl _)] at t2
  rw [hl] at hr
  have e0 : ([1] : List Int) = wrow (0 + 1) (C 0) := by show [1] = [wrap64 (C 0 0)]; rw [o0, w1]
  have e1 : ([1] : List Int) = wrow 1 (C n) := by show [1] = [wrap64 (C n 0)]; rw [on, w1]
  refine ⟨r, hr, hp, h1, fun x hx => wrow_mem (hm x hx), ?_, ?_⟩
  · unfold spec_l01Berkowitz.f
    rw [e0]
    exact bk_l0 n M hn C hC r t1 n 0 (by omega)
  · unfold impl_determinant.f
    rw [wmat_length, e1]
    refine Ev.bind (square_ n (by omega)) ?_
    exact fl_l0 n M hn (C n) N cn hs r t2 n 1 (by omega) (Nat.le_refl _)
def tl (f : List Int) : Nat → List Int
  | 0 => []
  | d + 1 => (if (d : Int) < (f.length : Int) then rd f (d : Int) else 0) :: tl f d
theorem tl_length (f : List Int) (d : Nat) : (tl f d).length = d := by
  induction d with
  | zero => rfl
  | succ d ih => simp [tl, ih]
theorem rd_more (a : Int) (l : List Int) (d : Nat) (h : d < l.length) : rd (a :: l) ((d + 1 : Nat) : Int) = rd l (d : Int) := by
  rw [rd_at _ _ (by simp; omega), rd_at _ _ h]; rfl
theorem tl_last (f : List Int) (d : Nat) (hf : 0 < f.length) : rd (tl f (d + 1)) (d : Int) = rd f 0 := by
  induction d with
  | zero =>
    rw [show tl f (0 + 1) = [rd f 0] by rw [tl, if_pos (by omega)]; rfl]; rfl
  | succ d ih =>
    rw [← ih]; exact rd_more _ (tl f (d + 1)) d (by rw [tl_length]; omega)
theorem rd_mem (l : List Int) (d : Nat) (h : d < l.length) : rd l (d : Int) ∈ l := by rw [rd_at _ _ h]; exact List.getElem_mem h
theorem tl_mem (f : List Int) (hf : ∀ x ∈ f, wrap64 x = x) (d : Nat) : ∀ x ∈ tl f d, wrap64 x = x := by
  induction d with
  | zero => intro x hx; simp [tl] at hx
  | succ d ih =>
    intro x hx
    rw [tl] at hx
    rcases List.mem_cons.1 hx with h | h
    · rw [h]
      by_cases c : (d : Int) < (f.length : Int)
      · rw [if_pos c]; exact hf _ (rd_mem f d (by omega))
      · rw [if_neg c]; exact w0
    · exact ih x h
theorem row_self (l : List Int) (h : ∀ x ∈ l, wrap64 x = x) : l = wrow l.length fun j => rd l (j : Int) := by
  apply List.ext_getElem
  · rw [wrow_length]
  · intro i h1 h2
    simp only [wrow, List.getElem_map, List.getElem_range]
    rw [rd_at _ _ h1, h _ (List.getElem_mem h1)]
theorem turn_t (f : List Int) (hf : f.length ≤ 100) (d : Nat) : ∀ (x : List Int), x.length + d ≤ 100 → Ev (fun k => spec_l07Of.l0 k f x ((d : Int) - 1)) (x ++ tl f d) ∧ Ev (fun k => impl_characteristic.l0 k x f ((d : Int) - 1)) (x ++ tl f d) := by
  induction d with
  | zero => intro x _; rw [show tl f 0 = [] from rfl, List.append_nil]; exact ⟨Ev.step (fun _ => rfl) (evF (by omega) (evN rfl)), Ev.step (fun _ => rfl) (evF (by omega) (evN rfl))⟩
  | succ d ih =>
    intro x hx
    have e : ((d + 1 : Nat) : Int) - 1 = (d : Int) := by omega
    rw [e]
    by_cases c : (d : Int) < (f.length : Int)
    · obtain ⟨a, b⟩ := ih (x ++ [rd f (d : Int)]) (by simp; omega)
      rw [← wid (x := (d : Int) - 1) (by omega) (by omega)] at a b
      have e2 : x ++ tl f (d + 1) = x ++ [rd f (d : Int)] ++ tl f d := by rw [tl, if_pos c]; simp
      rw [e2]
      refine ⟨Ev.step (fun _ => rfl) (evT (by omega) (evT c (evT (by omega) (evT (by omega) a)))), Ev.step (fun _ => rfl) (evT (by omega) (evB (a := rd f (d : Int)) ?_ (evT (by omega) b)))⟩
      unfold impl_at.f; rw [if_pos c, if_pos (by omega)]
    · obtain ⟨a, b⟩ := ih (x ++ [0]) (by simp; omega)
      rw [← wid (x := (d : Int) - 1) (by omega) (by omega)] at a b
      have e2 : x ++ tl f (d + 1) = x ++ [0] ++ tl f d := by rw [tl, if_neg c]; simp
      rw [e2]
      refine ⟨Ev.step (fun _ => rfl) (evT (by omega) (evF c (evT (by omega) a))), Ev.step (fun _ => rfl) (evT (by omega) (evB (a := 0) ?_ (evT (by omega) b)))⟩
      unfold impl_at.f; rw [if_neg c]
theorem char_one (n : Nat) (M : Nat → Nat → Int) (hn : n ≤ 8) (hM : Sml n M) : ∃ r : List Int, r.length = n + 1 ∧ rd r (n : Int) = 1 ∧ (∀ x ∈ r, wrap64 x = x) ∧ Ev (fun k => spec_l07Of.f k (wmat n M)) r ∧ Ev (fun k => impl_characteristic.f k (wmat n M)) r := by
  obtain ⟨f, hf, hp, h1, hw, s, i⟩ := det_one n M hn hM
  obtain ⟨a, b⟩ := turn_t f (by omega) (n + 1) [] (by simp; omega)
  have e : ((n + 1 : Nat) : Int) - 1 = (n : Int) := by omega
  rw [e, List.nil_append] at a b
  refine ⟨tl f (n + 1), tl_length _ _, by rw [tl_last f n hp, h1], tl_mem f hw _, ?_, ?_⟩
  · unfold spec_l07Of.f; rw [wmat_length]; exact Ev.bind s a
  · unfold impl_characteristic.f; rw [wmat_length]; exact Ev.bind i b
def sg (m j : Nat) : Int := if (m - 1 + j) % 2 = 0 then 1 else -1
def TT (f : List Int) (m : Nat) (S : Nat → Int) (i q : Nat) : Int := sm i fun p => if p ≤ q ∧ q < p + m then rd f (p : Int) * S (q - p) else 0
theorem sg_spec (m j : Nat) (h : 1 ≤ m) (hm : m ≤ 20) (hj : j ≤ 20) : wrap64 (1 - (wrap64 (2 * (Int.tmod (wrap64 ((wrap64 ((j : Int) + (m : Int))) - 1)) 2)))) = sg m j := by
  rw [wid (x := (j : Int) + m) (by omega) (by omega), wid (x := (j : Int) + m - 1) (by omega) (by omega), show (j : Int) + m - 1 = ((m - 1 + j : Nat) : Int) by omega, tmod2]
  unfold sg
  rcases Nat.mod_two_eq_zero_or_one (m - 1 + j) with h | h <;> rw [h] <;> simp [wrap64]
theorem sg_impl (m j : Nat) (h : 1 ≤ m) (hm : m ≤ 20) (hj : j ≤ 20) : wrap64 (1 - (wrap64 (2 * (Int.tmod (wrap64 ((wrap64 ((m : Int) - 1)) + (j : Int))) 2)))) = sg m j := by
  rw [← sg_spec m j h hm hj, wid (x := (m : Int) - 1) (by omega) (by omega), wid (x := (j : Int) + m) (by omega) (by omega), show (j : Int) + m - 1 = (m : Int) - 1 + j by omega]
section
variable (f : List Int) (m : Nat) (hf : f.length = m) (h1 : 1 ≤ m) (hm : m ≤ 20) (S : Nat → Int)
include hf h1 hm
theorem tm_l1 (T : Nat → Int) (i : Nat) (hi : i < m) (Z : List Int)
    (hZ : Ev (fun k => spec_l01Times.l0 k f (wrow m S) (wrow (2 * m - 1) (fun q => T q + if i ≤ q ∧ q < i + m then rd f (i : Int) * S (q - i) else 0)) ((i + 1 : Nat) : Int)) Z) (d : Nat) : ∀ j : Nat, j + d = m →
    Ev (fun k => spec_l01Times.l1 k f (wrow m S) (wrow (2 * m - 1) (fun q => T q + if i ≤ q ∧ q < i + j then rd f (i : Int) * S (q - i) else 0)) (i : Int) (j : Int)) Z := by
  induction d with
  | zero =>
    intro j hj; obtain rfl : j = m := by omega
    refine Ev.step (fun _ => rfl) (evF (by rw [wrow_length]; omega) ?_)
    rw [wnat (n := 40) (by omega) (by omega)]; exact hZ
  | succ d ih =>
    intro j hj
    have h := ih (j + 1) (by omega)
    have hw : wrap64 ((i : Int) + (j : Int)) = ((i + j : Nat) : Int) := by rw [wid (by omega) (by omega)]; omega
    refine Ev.step (fun _ => rfl) (evT (by rw [wrow_length]; omega) ?_)
    rw [hw]
    refine evT (by omega) (evT (by rw [wrow_length]; omega) (evT (by omega) (evT (by omega) (evT (by omega) ?_))))
    have e : (wrow (2 * m - 1) (fun q => T q + if i ≤ q ∧ q < i + j then rd f (i : Int) * S (q - i) else 0)).set (((i + j : Nat) : Int)).toNat (wrap64 ((rd (wrow (2 * m - 1) (fun q => T q + if i ≤ q ∧ q < i + j then rd f (i : Int) * S (q - i) else 0)) ((i + j : Nat) : Int)) + wrap64 (rd f (i : Int) * rd (wrow m S) (j : Int)))) = wrow (2 * m - 1) (fun q => T q + if i ≤ q ∧ q < i + (j + 1) then rd f (i : Int) * S (q - i) else 0) := by
      rw [Int.toNat_natCast, wrow_at _ _ (i + j) (by omega), wrow_at m _ j (by omega), wr_mulr, wr_add, wrow_set]
      congr 1; funext q
      by_cases c : q = i + j
      · subst c; rw [if_pos rfl, if_neg (by omega), if_pos (by omega), Int.add_zero, show i + j - i = j by omega]
      · rw [if_neg c]
        by_cases c2 : i ≤ q ∧ q < i + j
        · rw [if_pos c2, if_pos (by omega)]
        · rw [if_neg c2, if_neg (by omega)]
    rw [e, wnat (n := 40) (by omega) (by omega)]
    exact h
theorem tm_l0 (Z : List Int) (hZ : Ev (fun k => spec_l01Trim.f k (wrow (2 * m - 1) (TT f m S m))) Z) (d : Nat) : ∀ i : Nat, i + d = m →
    Ev (fun k => spec_l01Times.l0 k f (wrow m S) (wrow (2 * m - 1) (TT f m S i)) (i : Int)) Z := by
  induction d with
  | zero =>
    intro i hi; obtain rfl : i = m := by omega
    exact Ev.step (fun _ => rfl) (evF (by omega) (Ev.bind hZ (evN rfl)))
  | succ d ih =>
    intro i hi
    refine Ev.step (fun _ => rfl) (evT (by omega) ?_)
    have h := tm_l1 f m hf h1 hm S (TT f m S i) i (by omega) Z (ih (i + 1) (by omega)) m 0 (by omega)
    have e : (fun q => TT f m S i q + if i ≤ q ∧ q < i + 0 then rd f (i : Int) * S (q - i) else 0) = TT f m S i := by
      funext q; rw [if_neg (by omega), Int.add_zero]
    rw [e] at h; exact h
theorem times_ (Z : List Int) (hZ : Ev (fun k => spec_l01Trim.f k (wrow (2 * m - 1) (TT f m S m))) Z) : Ev (fun k => spec_l01Times.f k f (wrow m S)) Z := by
  have h := tm_l0 f m hf h1 hm S Z hZ m 0 (by omega)
  have e : wrow (2 * m - 1) (TT f m S 0) = List.replicate (2 * m - 1) 0 := (wrow_zero _).symm
  rw [e] at h
  unfold spec_l01Times.f
  refine evF (by omega) ?_
  have hw : wrap64 ((wrap64 ((f.length : Int) + ((wrow m S).length : Int))) - 1) = ((2 * m - 1 : Nat) : Int) := by
    rw [wrow_length, hf, wid (x := (m : Int) + m) (by omega) (by omega), wid (by omega) (by omega)]; omega
  refine Ev.step (fun _ => rfl) (evF (by rw [wrow_length]; simp; omega) ?_)
  rw [hw, Int.toNat_natCast]
  exact evT (by omega) (evT (by omega) h)
omit hf h1 hm in
theorem trim_whole (l : List Int) (hl : l.length ≤ 1048576) (h0 : 0 < l.length) (h : rd l ((l.length - 1 : Nat) : Int) ≠ 0) : Ev (fun k => spec_l01Trim.f k l) l := by
  unfold spec_l01Trim.f
  have hw : wrap64 ((l.length : Int) - 1) = ((l.length - 1 : Nat) : Int) := by rw [wid (by omega) (by omega)]; omega
  refine Ev.step (fun _ => rfl) (evT (by omega) ?_)
  rw [hw]
  refine evT (by omega) (evT (by omega) (evF h (evT (by omega) (evT (by omega) (evN ?_)))))
  rw [Int.toNat_natCast, List.take_of_length_le (Nat.le_refl _), own_ _ hl]; rfl
theorem sec_l (U : Nat → Int) (d : Nat) : ∀ (q : Nat), q + d = m → Ev (fun k => spec_l07Square.l1 k (wrow (2 * m - 1) U) (wrow q (fun q => U (2 * q))) ((2 * q : Nat) : Int)) (wrow m (fun q => U (2 * q))) := by
  induction d with
  | zero => intro q hq; obtain rfl : q = m := by omega
            exact Ev.step (fun _ => rfl) (evF (by rw [wrow_length]; omega) (evN rfl))
  | succ d ih =>
    intro q hq
    have h := ih (q + 1) (by omega)
    refine Ev.step (fun _ => rfl) (evT (by rw [wrow_length]; omega) (evT (by omega) (evT (by rw [wrow_length]; omega) ?_)))
    rw [wrow_at _ _ (2 * q) (by omega), wrow_succ q (fun q => U (2 * q)), show wrap64 (((2 * q : Nat) : Int) + 2) = ((2 * (q + 1) : Nat) : Int) by rw [wid (by omega) (by omega)]; omega]
    exact h
theorem oth_l (Z : List Int) (hZ : Ev (fun k => (spec_l01Times.f k f (wrow m (fun j => rd f (j : Int) * sg m j))).bind fun t115 => spec_l07Square.l1 k t115 (([] : List Int)) 0) Z) (d : Nat) : ∀ (j : Nat), j + d = m → Ev (fun k => spec_l07Square.l0 k f (wrow j (fun j => rd f (j : Int) * sg m j)) (j : Int)) Z := by
  induction d with
  | zero => intro j hj; obtain rfl : j = m := by omega
            exact Ev.step (fun _ => rfl) (evF (by omega) hZ)
  | succ d ih =>
    intro j hj
    have h := ih (j + 1) (by omega)
    refine Ev.step (fun _ => rfl) (evT (by omega) (evT (by omega) (evT (by rw [wrow_length]; omega) ?_)))
    rw [hf, sg_spec m j h1 hm (by omega), wrow_succ j (fun j => rd f (j : Int) * sg m j), wnat (n := 40) (by omega) (by omega)]
    exact h
theorem sq_l1 (T : Nat → Int) (i : Nat) (hi : i < m) (Z : List Int)
    (hZ : Ev (fun k => impl_Graph_squares.l0 k f (wrow m (fun q => T (2 * q) + if i ≤ 2 * q ∧ 2 * q < i + m then rd f (i : Int) * (rd f ((2 * q - i : Nat) : Int) * sg m (2 * q - i)) else 0)) (m : Int) ((i + 1 : Nat) : Int)) Z) (d : Nat) : ∀ j : Nat, j + d = m →
    Ev (fun k => impl_Graph_squares.l1 k f (wrow m (fun q => T (2 * q) + if i ≤ 2 * q ∧ 2 * q < i + j then rd f (i : Int) * (rd f ((2 * q - i : Nat) : Int) * sg m (2 * q - i)) else 0)) (i : Int) (rd f (i : Int)) (m : Int) (i : Int) (f.length : Int) (j : Int)) Z := by
  induction d with
  | zero =>
    intro j hj; obtain rfl : j = m := by omega
    refine Ev.step (fun _ => rfl) (evF (by omega) ?_)
    rw [wnat (n := 40) (by omega) (by omega)]; exact hZ
  | succ d ih =>
    intro j hj
    have h := ih (j + 1) (by omega)
    have hw : wrap64 ((i : Int) + (j : Int)) = ((i + j : Nat) : Int) := by rw [wid (by omega) (by omega)]; omega
    refine Ev.step (fun _ => rfl) (evT (by omega) (evT (by omega) (evT (by omega) ?_)))
    rw [hw, wnat (i := j) (n := 40) (by omega) (by omega)]
    by_cases c : (i + j) % 2 = 1
    · refine evT (by rw [tmod2]; omega) ?_
      have e : wrow m (fun q => T (2 * q) + if i ≤ 2 * q ∧ 2 * q < i + j then rd f (i : Int) * (rd f ((2 * q - i : Nat) : Int) * sg m (2 * q - i)) else 0) = wrow m (fun q => T (2 * q) + if i ≤ 2 * q ∧ 2 * q < i + (j + 1) then rd f (i : Int) * (rd f ((2 * q - i : Nat) : Int) * sg m (2 * q - i)) else 0) := by
        congr 1; funext q
        by_cases c2 : i ≤ 2 * q ∧ 2 * q < i + j
        · rw [if_pos c2, if_pos (by omega)]
        · rw [if_neg c2, if_neg (by omega)]
      rw [e]; exact h
    · refine evF (by rw [tmod2]; omega) ?_
      have hq : wrap64 (Int.tdiv ((i + j : Nat) : Int) 2) = (((i + j) / 2 : Nat) : Int) := by
        exact tdiv2 _ (by omega)
      rw [hq]
      refine evT (by omega) (evT (by rw [wrow_length]; omega) ?_)
      have e : (wrow m (fun q => T (2 * q) + if i ≤ 2 * q ∧ 2 * q < i + j then rd f (i : Int) * (rd f ((2 * q - i : Nat) : Int) * sg m (2 * q - i)) else 0)).set ((((i + j) / 2 : Nat) : Int)).toNat (wrap64 ((rd (wrow m (fun q => T (2 * q) + if i ≤ 2 * q ∧ 2 * q < i + j then rd f (i : Int) * (rd f ((2 * q - i : Nat) : Int) * sg m (2 * q - i)) else 0)) (((i + j) / 2 : Nat) : Int)) + (wrap64 ((wrap64 ((wrap64 (1 - (wrap64 (2 * (Int.tmod (wrap64 ((wrap64 ((f.length : Int) - 1)) + (j : Int))) 2))))) * (rd f (i : Int)))) * (rd f (j : Int)))))) = wrow m (fun q => T (2 * q) + if i ≤ 2 * q ∧ 2 * q < i + (j + 1) then rd f (i : Int) * (rd f ((2 * q - i : Nat) : Int) * sg m (2 * q - i)) else 0) := by
        rw [hf, sg_impl m j h1 hm (by omega), Int.toNat_natCast, wrow_at m _ ((i + j) / 2) (by omega), wr_mull, wr_add, wrow_set]
        congr 1; funext q
        by_cases c3 : q = (i + j) / 2
        · subst c3
          have e2 : 2 * ((i + j) / 2) = i + j := by omega
          rw [if_pos rfl, e2, if_neg (by omega), if_pos (by omega), Int.add_zero, show i + j - i = j by omega]
          congr 1
          rw [Int.mul_comm (sg m j) (rd f (i : Int)), Int.mul_assoc, Int.mul_comm (sg m j)]
        · rw [if_neg c3]
          by_cases c2 : i ≤ 2 * q ∧ 2 * q < i + j
          · rw [if_pos c2, if_pos (by omega)]
          · rw [if_neg c2, if_neg (by omega)]
      rw [e]; exact h
theorem sq_l0 (d : Nat) : ∀ i : Nat, i + d = m →
    Ev (fun k => impl_Graph_squares.l0 k f (wrow m (fun q => TT f m (fun j => rd f (j : Int) * sg m j) i (2 * q))) (m : Int) (i : Int)) (wrow m (fun q => TT f m (fun j => rd f (j : Int) * sg m j) m (2 * q))) := by
  induction d with
  | zero =>
    intro i hi; obtain rfl : i = m := by omega
    exact Ev.step (fun _ => rfl) (evF (by omega) (evN rfl))
  | succ d ih =>
    intro i hi
    refine Ev.step (fun _ => rfl) (evT (by omega) (evT (by omega) (evT (by omega) ?_)))
    have h := sq_l1 f m hf h1 hm (TT f m (fun j => rd f (j : Int) * sg m j) i) i (by omega) _ (ih (i + 1) (by omega)) m 0 (by omega)
    have e : (fun q => TT f m (fun j => rd f (j : Int) * sg m j) i (2 * q) + if i ≤ 2 * q ∧ 2 * q < i + 0 then rd f (i : Int) * (rd f ((2 * q - i : Nat) : Int) * sg m (2 * q - i)) else 0) = fun q => TT f m (fun j => rd f (j : Int) * sg m j) i (2 * q) := by
      funext q; rw [if_neg (by omega), Int.add_zero]
    rw [e] at h; exact h
theorem square_one (hl : rd f ((m - 1 : Nat) : Int) = 1) : ∃ r : List Int, r.length = m ∧ rd r ((m - 1 : Nat) : Int) = 1 ∧ (∀ x ∈ r, wrap64 x = x) ∧ Ev (fun k => spec_l07Square.l0 k f [] 0) r ∧ Ev (fun k => (if 0 ≤ (f.length : Int) then (if ((f.length : Int) : Int).toNat ≤ 35184372088832 then (impl_Graph_squares.l0 k f (List.replicate ((f.length : Int) : Int).toNat 0) (f.length : Int) 0) else (none)) else (none))) r := by
  have hv : TT f m (fun j => rd f (j : Int) * sg m j) m (2 * m - 1 - 1) = 1 := by
    unfold TT
    rw [sm_one (j := m - 1) (by omega) (fun i hi hn => by rw [if_neg (by omega)]), if_pos (by omega), show 2 * m - 1 - 1 - (m - 1) = m - 1 by omega, hl]
    show 1 * (rd f ((m - 1 : Nat) : Int) * sg m (m - 1)) = 1
    rw [hl]; unfold sg; rw [if_pos (by omega)]; rfl
  refine ⟨wrow m (fun q => TT f m (fun j => rd f (j : Int) * sg m j) m (2 * q)), wrow_length _ _, by rw [wrow_at _ _ _ (by omega), show 2 * (m - 1) = 2 * m - 1 - 1 by omega, hv, w1], fun x hx => wrow_mem hx, ?_, ?_⟩
  · refine oth_l f m hf h1 hm _ (Ev.bind (times_ f m hf h1 hm _ _ (trim_whole _ (by rw [wrow_length]; omega) (by rw [wrow_length]; omega) ?_)) (sec_l f m hf h1 hm _ m 0 (by omega))) m 0 (by omega)
    rw [wrow_length, wrow_at _ _ _ (by omega), hv, w1]; omega
  · refine evT (by omega) (evT (by omega) ?_)
    rw [hf, Int.toNat_natCast, wrow_zero]
    exact sq_l0 f m hf h1 hm m 0 (by omega)
end
end Go.Proofs.Ytehdlnnminaekaa.Q
end
section
namespace Go.Proofs.Ytehdlnnminaekaa.Q
open Go.RowKit Go.Proofs.Ytehdlnnminaekaa.X Go.Proofs.Ytehdlnnminaekaa.Dt Go.Proofs.YtehdlnnminaekaaW.PrintWords Go.Proofs.YtehdlnnminaekaaW.PrintLast Go.Proofs.YtehdlnnminaekaaW.PrintMore
set_option linter.unusedVariables false
set_option linter.unusedSectionVars false
theorem hor_last (F : Nat → Int) (c : Int) (m : Nat) (h : F (m - 1) = 1) (d : Nat) : hor F c m (d + 1) d = 1 := by
  induction d with
  | zero =>
    show (if 0 = 0 then 0 else _) + c * 0 + (if 0 = 0 then F (m - (0 + 1)) else 0) = 1
    rw [if_pos rfl, if_pos rfl, Int.mul_zero, Nat.zero_add, h]; rfl
  | succ d ih =>
    show (if d + 1 = 0 then 0 else hor F c m (d + 1) (d + 1 - 1)) + c * hor F c m (d + 1) (d + 1) + (if d + 1 = 0 then F (m - (d + 1 + 1)) else 0) = 1
    rw [if_neg (by omega), if_neg (by omega), Nat.add_sub_cancel, ih, hor_zero F c m (d + 1) (d + 1) (Nat.le_refl _), Int.mul_zero]; rfl
def lin (O : Nat → Int) (c : Int) (i q : Nat) : Int := (if q = 0 ∨ i < q then 0 else O (q - 1)) + (if q < i then c * O q else 0)
theorem lin_l0 (d : Nat) (hd : 1 ≤ d) (hd2 : d ≤ 20) (O : Nat → Int) (c : Int) (Z : List Int) (hZ : Ev (fun k => spec_l01Trim.f k (wrow (d + 1) (lin O c d))) Z) (e : Nat) : ∀ i : Nat, i + e = d →
    Ev (fun k => spec_l01Times.l0 k (wrow d O) [c, 1] (wrow (d + 1) (lin O c i)) (i : Int)) Z := by
  induction e with
  | zero =>
    intro i hi; obtain rfl : i = d := by omega
    exact Ev.step (fun _ => rfl) (evF (by rw [wrow_length]; omega) (Ev.bind hZ (evN rfl)))
  | succ e ih =>
    intro i hi
    have h := ih (i + 1) (by omega)
    have hw0 : wrap64 ((i : Int) + 0) = (i : Int) := by rw [wid (by omega) (by omega)]; omega
    have hw1 : wrap64 ((i : Int) + wrap64 (0 + 1)) = ((i + 1 : Nat) : Int) := by rw [show wrap64 (0 + 1) = 1 from w1, wid (by omega) (by omega)]; omega
    refine Ev.step (fun _ => rfl) (evT (by rw [wrow_length]; omega) ?_)
    refine Ev.step (fun _ => rfl) (evT (by simp) ?_)
    rw [hw0]
    refine evT (by omega) (evT (by rw [wrow_length]; omega) (evT (by omega) (evT (by rw [wrow_length]; omega) (evT (by omega) ?_))))
    refine Ev.step (fun _ => rfl) (evT (by rw [show wrap64 (0 + 1) = 1 from w1]; simp) ?_)
    rw [hw1]
    refine evT (by omega) (evT (by simp [wrow_length]; omega) (evT (by omega) (evT (by rw [wrow_length]; omega) (evT (by rw [show wrap64 (0 + 1) = 1 from w1]; omega) ?_))))
    refine Ev.step (fun _ => rfl) (evF (by rw [show wrap64 (0 + 1) = 1 from w1]; simp [wrap64]) ?_)
    have s1 : (wrow (d + 1) (lin O c i)).set ((i : Int)).toNat (wrap64 (rd (wrow (d + 1) (lin O c i)) (i : Int) + wrap64 (rd (wrow d O) (i : Int) * rd [c, 1] 0))) = wrow (d + 1) (fun q => if q = i then lin O c i i + O i * c else lin O c i q) := by
      rw [Int.toNat_natCast, wrow_at _ _ i (by omega), wrow_at _ _ i (by omega), show rd [c, 1] 0 = c from rfl, wr_mull, wr_add, wrow_set]
    rw [s1]
    have s2 : (wrow (d + 1) (fun q => if q = i then lin O c i i + O i * c else lin O c i q)).set (((i + 1 : Nat) : Int)).toNat (wrap64 (rd (wrow (d + 1) (fun q => if q = i then lin O c i i + O i * c else lin O c i q)) ((i + 1 : Nat) : Int) + wrap64 (rd (wrow d O) (i : Int) * rd [c, 1] (wrap64 (0 + 1))))) = wrow (d + 1) (lin O c (i + 1)) := by
      rw [Int.toNat_natCast, wrow_at _ _ (i + 1) (by omega), wrow_at _ _ i (by omega), show rd [c, 1] (wrap64 (0 + 1)) = 1 from by rw [show wrap64 (0 + 1) = 1 from w1]; rfl, wr_mull, wr_add, wrow_set]
      congr 1; funext q
      by_cases q1 : q = i + 1
      · subst q1
        rw [if_pos rfl, if_neg (by omega)]
        unfold lin
        rw [if_pos (by omega), if_neg (by omega), if_neg (by omega), if_neg (by omega), Nat.add_sub_cancel]; omega
      · rw [if_neg q1]
        by_cases q2 : q = i
        · subst q2
          rw [if_pos rfl]
          unfold lin
          rw [if_neg (by omega : ¬ q < q), if_pos (by omega : q < q + 1), Int.add_zero, Int.mul_comm]
          by_cases q3 : q = 0
          · rw [if_pos (by omega), if_pos (by omega)]
          · rw [if_neg (by omega), if_neg (by omega)]
        · rw [if_neg q2]
          unfold lin
          have c1 : (q = 0 ∨ i < q) ↔ (q = 0 ∨ i + 1 < q) := by omega
          have c2 : q < i ↔ q < i + 1 := by omega
          simp only [c1, c2]
    rw [s2, wnat (n := 40) (by omega) (by omega)]
    exact h
def nxt (O : Nat → Int) (c : Int) (q : Nat) : Int := (if q = 0 then 0 else O (q - 1)) + c * O q
theorem lin_times (d : Nat) (hd2 : d ≤ 20) (O : Nat → Int) (hO : ∀ q, d ≤ q → O q = 0) (c : Int) (h1 : 1 ≤ d → O (d - 1) = 1) : ∃ M, M ≤ d + 1 ∧ (d = 0 ∨ M = d + 1) ∧ Ev (fun k => spec_l01Times.f k (wrow d O) [c, 1]) (wrow M (nxt O c)) := by
  by_cases z : d = 0
  · subst z
    refine ⟨0, by omega, by omega, ?_⟩
    have st : ∀ b : Bool, b = true → Ev (fun k => spec_l01Times.j0 k ([] : List Int) [c, 1] b) (wrow 0 (nxt O c)) := fun b hb => Ev.step (fun _ => rfl) (evT hb (evN rfl))
    unfold spec_l01Times.f
    exact evT rfl (st true rfl)
  · refine ⟨d + 1, by omega, by omega, ?_⟩
    have e : wrow (d + 1) (lin O c d) = wrow (d + 1) (nxt O c) := by
      refine wrow_congr fun q hq => ?_
      congr 1
      unfold lin nxt
      by_cases q1 : q = 0
      · rw [if_pos (by omega), if_pos q1, if_pos (by omega)]
      · rw [if_neg (by omega), if_neg q1]
        by_cases q2 : q < d
        · rw [if_pos q2]
        · rw [if_neg q2, hO q (by omega), Int.mul_zero]
    have hl : rd (wrow (d + 1) (lin O c d)) (((wrow (d + 1) (lin O c d)).length - 1 : Nat) : Int) ≠ 0 := by
      rw [wrow_length, Nat.add_sub_cancel, wrow_at _ _ d (by omega)]
      unfold lin
      rw [if_neg (by omega), if_neg (by omega), h1 (by omega), Int.add_zero, w1]; omega
    have h := lin_l0 d (by omega) hd2 O c _ (trim_whole _ (by rw [wrow_length]; omega) (by rw [wrow_length]; omega) hl) d 0 (by omega)
    have e0 : wrow (d + 1) (lin O c 0) = List.replicate (d + 1) 0 := by
      rw [wrow_zero]
      refine wrow_congr fun q hq => ?_
      unfold lin
      rw [if_pos (by omega), if_neg (by omega)]; rfl
    rw [e0, e] at h
    unfold spec_l01Times.f
    refine evF (by rw [wrow_length]; omega) ?_
    have hw : wrap64 ((wrap64 (((wrow d O).length : Int) + (([c, 1] : List Int).length : Int))) - 1) = ((d + 1 : Nat) : Int) := by
      rw [wrow_length, show (([c, 1] : List Int).length : Int) = 2 from rfl, wid (x := (d : Int) + 2) (by omega) (by omega), wid (by omega) (by omega)]; omega
    have st : ∀ b : Bool, b = false → Ev (fun k => spec_l01Times.j0 k (wrow d O) [c, 1] b) (wrow (d + 1) (nxt O c)) := fun b hb => Ev.step (fun _ => rfl) (evF (by simp [hb]) (by
      rw [hw, Int.toNat_natCast]
      exact evT (by omega) (evT (by omega) h)))
    exact st _ (by simp)
theorem cop_l0 (M M1 : Nat) (hM : M ≤ M1) (h1 : M1 ≤ 30) (T : Nat → Int) (v : List Int) (c : Int) (Z : List Int) (hZ : Ev (fun k => spec_l01Add.l1 k v c (wrow M1 (fun q => if q < M then T q else 0)) 0) Z) (e : Nat) : ∀ i : Nat, i + e = M →
    Ev (fun k => spec_l01Add.l0 k (wrow M T) v c (wrow M1 (fun q => if q < i then T q else 0)) (i : Int)) Z := by
  induction e with
  | zero =>
    intro i hi; obtain rfl : i = M := by omega
    exact Ev.step (fun _ => rfl) (evF (by rw [wrow_length]; omega) hZ)
  | succ e ih =>
    intro i hi
    have h := ih (i + 1) (by omega)
    refine Ev.step (fun _ => rfl) (evT (by rw [wrow_length]; omega) (evT (by omega) (evT (by rw [wrow_length]; omega) ?_)))
    have s : (wrow M1 (fun q => if q < i then T q else 0)).set ((i : Int)).toNat (rd (wrow M T) (i : Int)) = wrow M1 (fun q => if q < i + 1 then T q else 0) := by
      rw [Int.toNat_natCast, wrow_at _ _ i (by omega), wrow_set]
      congr 1; funext q
      by_cases q1 : q = i
      · subst q1; rw [if_pos rfl, if_pos (by omega)]
      · rw [if_neg q1]
        by_cases q2 : q < i
        · rw [if_pos q2, if_pos (by omega)]
        · rw [if_neg q2, if_neg (by omega)]
    rw [s, wnat (n := 40) (by omega) (by omega)]
    exact h
theorem add_ (M M1 : Nat) (hM : M ≤ M1) (h0 : 1 ≤ M1) (h1 : M1 ≤ 30) (hM1 : M1 = 1 ∨ M = M1) (T : Nat → Int) (hT : ∀ q, M ≤ q → q < M1 → T q = 0) (v : Int) (hl : T (M1 - 1) + (if M1 - 1 = 0 then v else 0) = 1) : Ev (fun k => spec_l01Add.f k (wrow M T) [v] 1) (wrow M1 (fun q => T q + if q = 0 then v else 0)) := by
  have hmx : mx ((wrow M T).length : Int) (([v] : List Int).length : Int) = (M1 : Int) := by
    rw [wrow_length, show (([v] : List Int).length : Int) = 1 from rfl]
    unfold mx; split <;> omega
  unfold spec_l01Add.f
  rw [hmx, Int.toNat_natCast]
  refine evT (by omega) (evT (by omega) ?_)
  have e0 : List.replicate M1 (0 : Int) = wrow M1 (fun q => if q < 0 then T q else 0) := by
    rw [wrow_zero]; exact wrow_congr fun q _ => by rw [if_neg (by omega)]
  rw [e0]
  refine cop_l0 M M1 hM h1 T [v] 1 _ ?_ M 0 (by omega)
  refine Ev.step (fun _ => rfl) (evT (by simp) (evT (by omega) (evT (by rw [wrow_length]; omega) ?_)))
  have s : (wrow M1 (fun q => if q < M then T q else 0)).set ((0 : Int)).toNat (wrap64 (rd (wrow M1 (fun q => if q < M then T q else 0)) 0 + wrap64 (1 * rd [v] 0))) = wrow M1 (fun q => T q + if q = 0 then v else 0) := by
    have := wrow_at M1 (fun q => if q < M then T q else 0) 0 (by omega)
    rw [show ((0 : Nat) : Int) = 0 from rfl] at this
    rw [this, show rd [v] 0 = v from rfl, Int.one_mul, wr_add, show ((0 : Int)).toNat = 0 from rfl, wrow_set]
    refine wrow_congr fun q hq => ?_
    congr 1
    by_cases q1 : q = 0
    · subst q1
      rw [if_pos rfl, if_pos rfl]
      by_cases q2 : 0 < M
      · rw [if_pos q2]
      · rw [if_neg q2, hT 0 (by omega) hq]
    · rw [if_neg q1, if_neg q1, Int.add_zero]
      by_cases q2 : q < M
      · rw [if_pos q2]
      · rw [if_neg q2, hT q (by omega) hq]
  rw [s, show wrap64 (0 + 1) = 1 from w1]
  refine Ev.step (fun _ => rfl) (evF (by simp) (Ev.bind (trim_whole _ (by rw [wrow_length]; omega) (by rw [wrow_length]; omega) ?_) (evN rfl)))
  rw [wrow_length, wrow_at _ _ (M1 - 1) (by omega), hl, w1]; omega
section
variable (f : List Int) (m : Nat) (hf : f.length = m) (hm : 2 ≤ m) (hm2 : m ≤ 20) (hl : rd f ((m - 1 : Nat) : Int) = 1) (c : Int)
include hf hm hm2
theorem shift_l (hl : rd f ((m - 1 : Nat) : Int) = 1) (e : Nat) : ∀ d : Nat, d + e = m → Ev (fun k => spec_l07Shift.l0 k f c (wrow d (hor (fun k => rd f (k : Int)) c m d)) ((m : Int) - 1 - d)) (wrow m (hor (fun k => rd f (k : Int)) c m m)) := by
  induction e with
  | zero =>
    intro d hd; obtain rfl : d = m := by omega
    exact Ev.step (fun _ => rfl) (evF (by omega) (evN rfl))
  | succ e ih =>
    intro d hd
    have h := ih (d + 1) (by omega)
    have hi : (m : Int) - 1 - d = ((m - (d + 1) : Nat) : Int) := by omega
    obtain ⟨M, hM, hM2, ht⟩ := lin_times d (by omega) (hor (fun k => rd f (k : Int)) c m d) (hor_zero _ c m d) c (fun q => by
      obtain ⟨d', rfl⟩ : ∃ d', d = d' + 1 := ⟨d - 1, by omega⟩
      exact hor_last _ c m hl d')
    refine Ev.step (fun _ => rfl) (evT (by omega) (Ev.bind ht (evT (by omega) (evT (by omega) (Ev.bind (add_ M (d + 1) (by omega) (by omega) (by omega) (by omega) (nxt (hor (fun k => rd f (k : Int)) c m d) c) (fun q q1 q2 => ?_) (rd f ((m : Int) - 1 - d)) ?_) ?_)))))
    · rcases hM2 with z | z
      · subst z; obtain rfl : q = 0 := by omega
        unfold nxt; rw [if_pos rfl, hor_zero _ c m 0 0 (Nat.le_refl _), Int.mul_zero]; rfl
      · omega
    · rw [hi, Nat.add_sub_cancel]; exact hor_last (fun k => rd f (k : Int)) c m hl d
    · have e1 : (fun q => nxt (hor (fun k => rd f (k : Int)) c m d) c q + if q = 0 then rd f ((m : Int) - 1 - d) else 0) = hor (fun k => rd f (k : Int)) c m (d + 1) := by
        funext q; rw [hi]; rfl
      rw [e1, show wrap64 ((m : Int) - 1 - d - 1) = (m : Int) - 1 - ((d + 1 : Nat) : Int) by rw [wid (by omega) (by omega)]; omega]
      exact h
theorem shift_ (hl : rd f ((m - 1 : Nat) : Int) = 1) : Ev (fun k => spec_l07Shift.f k f c) (wrow m (hor (fun k => rd f (k : Int)) c m m)) := by
  have h := shift_l f m hf hm hm2 c hl m 0 (by omega)
  unfold spec_l07Shift.f
  rw [hf, wid (by omega) (by omega)]
  rw [show (m : Int) - 1 - ((0 : Nat) : Int) = (m : Int) - 1 by omega] at h
  exact h
theorem pass_l1 (i : Nat) (hi : i < m) (a : Nat → Int) (Z : Int × Int) (hZ : Ev (fun k => impl_roots.l0 k c (wrow m (dv c m i a (m - 1 - i))) (m : Int) ((i + 1 : Nat) : Int)) Z) (e : Nat) : ∀ D : Nat, D + e = m - 1 - i →
    Ev (fun k => impl_roots.l1 k c (wrow m (dv c m i a D)) (i : Int) ((m : Int) - 2 - D) (m : Int) (i : Int)) Z := by
  induction e with
  | zero =>
    intro D hD; obtain rfl : D = m - 1 - i := by omega
    refine Ev.step (fun _ => rfl) (evF (by omega) ?_)
    rw [wnat (n := 40) (by omega) (by omega)]; exact hZ
  | succ e ih =>
    intro D hD
    have h := ih (D + 1) (by omega)
    have hj : (m : Int) - 2 - D = ((m - 2 - D : Nat) : Int) := by omega
    rw [hj]
    have hw : wrap64 (((m - 2 - D : Nat) : Int) + 1) = ((m - 1 - D : Nat) : Int) := by rw [wid (by omega) (by omega)]; omega
    refine Ev.step (fun _ => rfl) (evT (by omega) (evT (by omega) (evT (by rw [wrow_length]; omega) ?_)))
    rw [hw]
    refine evT (by omega) (evT (by rw [wrow_length]; omega) ?_)
    have s : (wrow m (dv c m i a D)).set (((m - 2 - D : Nat) : Int)).toNat (wrap64 (rd (wrow m (dv c m i a D)) ((m - 2 - D : Nat) : Int) + wrap64 (c * rd (wrow m (dv c m i a D)) ((m - 1 - D : Nat) : Int)))) = wrow m (dv c m i a (D + 1)) := by
      rw [Int.toNat_natCast, wrow_at _ _ (m - 2 - D) (by omega), wrow_at _ _ (m - 1 - D) (by omega), wr_mulr, wr_add, wrow_set]
      rfl
    rw [s, show wrap64 (((m - 2 - D : Nat) : Int) - 1) = (m : Int) - 2 - ((D + 1 : Nat) : Int) by rw [wid (by omega) (by omega)]; omega]
    exact h
theorem pass_l0 (F : Nat → Int) (Z : Int × Int) (hZ : Ev (fun k => impl_roots.l2 k (wrow m (pas c m F m)) 0 0 0 (m : Int) 0) Z) (e : Nat) : ∀ i : Nat, i + e = m →
    Ev (fun k => impl_roots.l0 k c (wrow m (pas c m F i)) (m : Int) (i : Int)) Z := by
  induction e with
  | zero =>
    intro i hi; obtain rfl : i = m := by omega
    refine Ev.step (fun _ => rfl) (evF (by omega) ?_)
    rw [wrow_length]; exact hZ
  | succ e ih =>
    intro i hi
    have h := pass_l1 f m hf hm hm2 c i (by omega) (pas c m F i) Z (ih (i + 1) (by omega)) (m - 1 - i) 0 (by omega)
    refine Ev.step (fun _ => rfl) (evT (by omega) ?_)
    rw [wrow_length, wid (by omega) (by omega)]
    rw [show (m : Int) - 2 - ((0 : Nat) : Int) = (m : Int) - 2 by omega] at h
    exact h
end
theorem cnt_A (L : List Int) (hL : L.length ≤ 100) (e : Nat) : ∀ (i : Nat) (a last : Int), i + e = L.length → last ≠ 0 →
    ∃ a', Ev (fun k => spec_l07Changes.l0 k L a last (i : Int)) a' ∧ ∀ z, Ev (fun k => impl_roots.l2 k L a z last (L.length : Int) (i : Int)) (a', z) := by
  induction e with
  | zero => intro i a last hi hl; exact ⟨a, Ev.step (fun _ => rfl) (evF (by omega) (evN rfl)), fun z => Ev.step (fun _ => rfl) (evF (by omega) (evN rfl))⟩
  | succ e ih =>
    intro i a last hi hl
    have hw : wrap64 ((i : Int) + 1) = ((i + 1 : Nat) : Int) := wnat (n := 200) (by omega) (by omega)
    have j3 : ∀ (b : Bool) (a z x : Int) r, b = false → Ev (fun k => if x = 0 then (impl_roots.l2 k L a z last (L.length : Int) (wrap64 ((i : Int) + 1))) else (if last = 0 then (impl_roots.l2 k L a z x (L.length : Int) (wrap64 ((i : Int) + 1))) else (if ((decide (last < 0)) != (decide (x < 0))) = true then (impl_roots.l2 k L (wrap64 (a + 1)) z x (L.length : Int) (wrap64 ((i : Int) + 1))) else (impl_roots.l2 k L a z x (L.length : Int) (wrap64 ((i : Int) + 1)))))) r → Ev (fun k => impl_roots.j3 k L a z last x (L.length : Int) (i : Int) b) r :=
      fun b a z x r hb h => Ev.step (fun _ => rfl) (evF (by simp [hb]) h)
    by_cases x0 : rd L (i : Int) = 0
    · obtain ⟨a', s, t⟩ := ih (i + 1) a last (by omega) hl
      rw [← hw] at s t
      exact ⟨a', Ev.step (fun _ => rfl) (evT (by omega) (evT (by omega) (evT x0 s))), fun z => Ev.step (fun _ => rfl) (evT (by omega) (evT (by omega) (evT (by omega) (evT x0 (j3 _ a z _ _ (by simpa using hl) (evT x0 (t z)))))))⟩
    · by_cases sg : ((decide ((rd L (i : Int)) > 0)) != (decide (last > 0))) = true
      · have sg2 : ((decide (last < 0)) != (decide (rd L (i : Int) < 0))) = true := by
          by_cases p : rd L (i : Int) > 0 <;> by_cases q : last > 0 <;> simp [p, q] at sg ⊢ <;> omega
        obtain ⟨a', s, t⟩ := ih (i + 1) (wrap64 (a + 1)) (rd L (i : Int)) (by omega) x0
        rw [← hw] at s t
        exact ⟨a', Ev.step (fun _ => rfl) (evT (by omega) (evT (by omega) (evF x0 (evF hl (evT sg s))))), fun z => Ev.step (fun _ => rfl) (evT (by omega) (evT (by omega) (evT (by omega) (evF x0 (j3 false a z _ _ rfl (evF x0 (evF hl (evT sg2 (t z)))))))))⟩
      · have sg2 : ¬ ((decide (last < 0)) != (decide (rd L (i : Int) < 0))) = true := by
          by_cases p : rd L (i : Int) > 0 <;> by_cases q : last > 0 <;> simp [p, q] at sg ⊢ <;> omega
        obtain ⟨a', s, t⟩ := ih (i + 1) a (rd L (i : Int)) (by omega) x0
        rw [← hw] at s t
        exact ⟨a', Ev.step (fun _ => rfl) (evT (by omega) (evT (by omega) (evF x0 (evF hl (evF sg s))))), fun z => Ev.step (fun _ => rfl) (evT (by omega) (evT (by omega) (evT (by omega) (evF x0 (j3 false a z _ _ rfl (evF x0 (evF hl (evF sg2 (t z)))))))))⟩
theorem cnt_B (L : List Int) (hL : L.length ≤ 100) (e : Nat) : ∀ (i : Nat), i + e = L.length →
    ∃ a' z', Ev (fun k => spec_l07Changes.l0 k L 0 0 (i : Int)) a' ∧ Ev (fun k => spec_l07At.l0 k L (i : Int)) z' ∧ Ev (fun k => impl_roots.l2 k L 0 (i : Int) 0 (L.length : Int) (i : Int)) (a', z') := by
  induction e with
  | zero => intro i hi; exact ⟨0, i, Ev.step (fun _ => rfl) (evF (by omega) (evN rfl)), Ev.step (fun _ => rfl) (evF (by omega) (evN rfl)), Ev.step (fun _ => rfl) (evF (by omega) (evN rfl))⟩
  | succ e ih =>
    intro i hi
    have hw : wrap64 ((i : Int) + 1) = ((i + 1 : Nat) : Int) := wnat (n := 200) (by omega) (by omega)
    by_cases x0 : rd L (i : Int) = 0
    · obtain ⟨a', z', s, u, t⟩ := ih (i + 1) (by omega)
      rw [← hw] at s t u
      have j3 : ∀ (b : Bool), b = true → Ev (fun k => impl_roots.j3 k L 0 (i : Int) 0 (rd L (i : Int)) (L.length : Int) (i : Int) b) (a', z') := fun b hb => Ev.step (fun _ => rfl) (evT hb t)
      exact ⟨a', z', Ev.step (fun _ => rfl) (evT (by omega) (evT (by omega) (evT x0 s))), Ev.step (fun _ => rfl) (evT (by omega) (evT (by omega) (evT x0 u))), Ev.step (fun _ => rfl) (evT (by omega) (evT (by omega) (evT (by omega) (evT x0 (j3 _ rfl)))))⟩
    · obtain ⟨a', s, t⟩ := cnt_A L hL e (i + 1) 0 (rd L (i : Int)) (by omega) x0
      rw [← hw] at s t
      have j3 : ∀ (b : Bool), b = false → Ev (fun k => impl_roots.j3 k L 0 (i : Int) 0 (rd L (i : Int)) (L.length : Int) (i : Int) b) (a', (i : Int)) := fun b hb => Ev.step (fun _ => rfl) (evF (by simp [hb]) (evF x0 (evT rfl (t _))))
      exact ⟨a', i, Ev.step (fun _ => rfl) (evT (by omega) (evT (by omega) (evF x0 (evT rfl s)))), Ev.step (fun _ => rfl) (evT (by omega) (evT (by omega) (evF x0 (evN rfl)))), Ev.step (fun _ => rfl) (evT (by omega) (evT (by omega) (evT (by omega) (evF x0 (j3 false rfl)))))⟩
theorem roots_both (f : List Int) (m : Nat) (hf : f.length = m) (hm : 2 ≤ m) (hm2 : m ≤ 20) (hl : rd f ((m - 1 : Nat) : Int) = 1) (hw : ∀ x ∈ f, wrap64 x = x) (c : Int) :
    ∃ a z, Ev (fun k => spec_l07Above.f k f c) a ∧ Ev (fun k => spec_l07At.f k f c) z ∧ Ev (fun k => impl_roots.f k f c) (a, z) := by
  have sh := shift_ f m hf hm hm2 c hl
  have e1 : wrow m (hor (fun k => rd f (k : Int)) c m m) = wrow m (pas c m (fun k => rd f (k : Int)) m) := wrow_congr fun q hq => by rw [shift_same c m _ hm q hq]
  rw [e1] at sh
  have hlen := wrow_length m (pas c m (fun k => rd f (k : Int)) m)
  obtain ⟨a, z, s, u, t⟩ := cnt_B (wrow m (pas c m (fun k => rd f (k : Int)) m)) (by rw [hlen]; omega) m 0 (by rw [hlen]; omega)
  refine ⟨a, z, ?_, ?_, ?_⟩
  · unfold spec_l07Above.f; exact Ev.bind sh (Ev.bind s (evN rfl))
  · unfold spec_l07At.f; exact Ev.bind sh u
  · unfold impl_roots.f
    refine Ev.bind (evN (clone_ f (by omega))) ?_
    rw [hf]
    have e2 : f = wrow m (pas c m (fun k => rd f (k : Int)) 0) := by
      have := row_self f hw
      rw [hf] at this; exact this
    rw [hlen] at t
    have h := pass_l0 f m hf hm hm2 c (fun k => rd f (k : Int)) (a, z) t m 0 (by omega)
    rw [← e2] at h; exact h
end Go.Proofs.Ytehdlnnminaekaa.Q
end
section
namespace Go.Proofs.Ytehdlnnminaekaa.Q
open Go.RowKit Go.Proofs.Ytehdlnnminaekaa.X Go.Proofs.Ytehdlnnminaekaa.Dt Go.Proofs.YtehdlnnminaekaaW.PrintWords Go.Proofs.YtehdlnnminaekaaW.PrintLast Go.Proofs.YtehdlnnminaekaaW.PrintMore
set_option linter.unusedVariables false
set_option linter.unusedSectionVars false
def vl (r : List Int) (j : Nat) : Int := if (j : Int) < (r.length : Int) then rd r (j : Int) else 0
theorem chg_b (L : List Int) (hL2 : L.length ≤ 100) (e : Nat) : ∀ (i : Nat) (a : Nat) (last : Int), i + e = L.length → a ≤ i →
    ∃ a' : Nat, Ev (fun k => spec_l07Changes.l0 k L (a : Int) last (i : Int)) (a' : Int) ∧ a' ≤ L.length := by
  induction e with
  | zero => intro i a last hi ha; exact ⟨a, Ev.step (fun _ => rfl) (evF (by omega) (evN rfl)), by omega⟩
  | succ e ih =>
    intro i a last hi ha
    have hw : wrap64 ((i : Int) + 1) = ((i + 1 : Nat) : Int) := wnat (n := 200) (by omega) (by omega)
    have hwa : wrap64 ((a : Int) + 1) = ((a + 1 : Nat) : Int) := wnat (n := 200) (by omega) (by omega)
    by_cases x0 : rd L (i : Int) = 0
    · obtain ⟨a', s, b1⟩ := ih (i + 1) a last (by omega) (by omega)
      rw [← hw] at s
      exact ⟨a', Ev.step (fun _ => rfl) (evT (by omega) (evT (by omega) (evT x0 s))), b1⟩
    · by_cases l0 : last = 0
      · obtain ⟨a', s, b1⟩ := ih (i + 1) a (rd L (i : Int)) (by omega) (by omega)
        rw [← hw] at s
        exact ⟨a', Ev.step (fun _ => rfl) (evT (by omega) (evT (by omega) (evF x0 (evT l0 s)))), b1⟩
      · by_cases sg : ((decide ((rd L (i : Int)) > 0)) != (decide (last > 0))) = true
        · obtain ⟨a', s, b1⟩ := ih (i + 1) (a + 1) (rd L (i : Int)) (by omega) (by omega)
          rw [← hw, ← hwa] at s
          exact ⟨a', Ev.step (fun _ => rfl) (evT (by omega) (evT (by omega) (evF x0 (evF l0 (evT sg s))))), b1⟩
        · obtain ⟨a', s, b1⟩ := ih (i + 1) a (rd L (i : Int)) (by omega) (by omega)
          rw [← hw] at s
          exact ⟨a', Ev.step (fun _ => rfl) (evT (by omega) (evT (by omega) (evF x0 (evF l0 (evF sg s))))), b1⟩
theorem at_b (L : List Int) (hL2 : L.length ≤ 100) (e : Nat) : ∀ (i : Nat), i + e = L.length →
    ∃ z : Nat, Ev (fun k => spec_l07At.l0 k L (i : Int)) (z : Int) ∧ z ≤ L.length := by
  induction e with
  | zero => intro i hi; exact ⟨i, Ev.step (fun _ => rfl) (evF (by omega) (evN rfl)), by omega⟩
  | succ e ih =>
    intro i hi
    have hw : wrap64 ((i : Int) + 1) = ((i + 1 : Nat) : Int) := wnat (n := 200) (by omega) (by omega)
    by_cases x0 : rd L (i : Int) = 0
    · obtain ⟨z, s, b⟩ := ih (i + 1) (by omega)
      rw [← hw] at s
      exact ⟨z, Ev.step (fun _ => rfl) (evT (by omega) (evT (by omega) (evT x0 s))), b⟩
    · exact ⟨i, Ev.step (fun _ => rfl) (evT (by omega) (evT (by omega) (evF x0 (evN rfl)))), by omega⟩
theorem ev_uniq {α : Type} {f : Nat → Option α} {a b : α} (h1 : Ev f a) (h2 : Ev f b) : a = b := by
  obtain ⟨K1, k1⟩ := h1
  obtain ⟨K2, k2⟩ := h2
  have a1 := k1 (K1 + K2) (by omega)
  have a2 := k2 (K1 + K2) (by omega)
  rw [a1] at a2
  exact Option.some.inj a2
theorem roots_small (f : List Int) (m : Nat) (hf : f.length = m) (hm : 2 ≤ m) (hm2 : m ≤ 20) (hl : rd f ((m - 1 : Nat) : Int) = 1) (hw : ∀ x ∈ f, wrap64 x = x) (c : Int) :
    ∃ a z : Nat, a ≤ m ∧ z ≤ m ∧ Ev (fun k => spec_l07Above.f k f c) (a : Int) ∧ Ev (fun k => spec_l07At.f k f c) (z : Int) ∧ Ev (fun k => impl_roots.f k f c) ((a : Int), (z : Int)) := by
  obtain ⟨a, z, s, u, t⟩ := roots_both f m hf hm hm2 hl hw c
  have sh := shift_ f m hf hm hm2 c hl
  have hlen := wrow_length m (hor (fun k => rd f (k : Int)) c m m)
  obtain ⟨a', s', b1⟩ := chg_b (wrow m (hor (fun k => rd f (k : Int)) c m m)) (by rw [hlen]; omega) m 0 0 0 (by rw [hlen]; omega) (by omega)
  obtain ⟨z', u', b2⟩ := at_b (wrow m (hor (fun k => rd f (k : Int)) c m m)) (by rw [hlen]; omega) m 0 (by rw [hlen]; omega)
  rw [hlen] at b1 b2
  have s2 : Ev (fun k => spec_l07Above.f k f c) (a' : Int) := by unfold spec_l07Above.f; exact Ev.bind sh (Ev.bind s' (evN rfl))
  have u2 : Ev (fun k => spec_l07At.f k f c) (z' : Int) := by unfold spec_l07At.f; exact Ev.bind sh u'
  obtain rfl := ev_uniq s s2
  obtain rfl := ev_uniq u u2
  exact ⟨a', z', b1, b2, s, u, t⟩
end Go.Proofs.Ytehdlnnminaekaa.Q
end
section
namespace Go.Proofs.Ytehdlnnminaekaa.Q
open Go.RowKit Go.Proofs.Ytehdlnnminaekaa.X Go.Proofs.YtehdlnnminaekaaW.PrintWords Go.Proofs.YtehdlnnminaekaaW.PrintLast Go.Proofs.YtehdlnnminaekaaW.PrintMore
set_option linter.unusedVariables false
theorem w01 : wrap64 (0 + 1) = 1 := wid (by omega) (by omega)
theorem w12 : wrap64 (1 + 1) = 2 := wid (by omega) (by omega)
def hit (p : Nat × Nat) (v : Nat) : Nat := (if p.1 = v then 1 else 0) + (if p.2 = v then 1 else 0)
def degN (P : List (Nat × Nat)) (v : Nat) : Nat := (P.map fun p => hit p v).sum
theorem degN_cons (p : Nat × Nat) (P : List (Nat × Nat)) (v : Nat) : degN (p :: P) v = hit p v + degN P v := by simp [degN]
theorem hit_le (p : Nat × Nat) (v : Nat) : hit p v ≤ 2 := by unfold hit; split <;> split <;> omega
theorem degN_le (P : List (Nat × Nat)) (v : Nat) : degN P v ≤ 2 * P.length := by
  induction P with
  | nil => simp [degN]
  | cons p P ih => rw [degN_cons, List.length_cons]; have := hit_le p v; omega
theorem pair0 (a b : Int) : rd [a, b] 0 = a := rfl
theorem pair1 (a b : Int) : rd [a, b] 1 = b := rfl
theorem degSpec_l (n : Int) (P : List (Nat × Nat)) (hP : P.length ≤ 1048576) (v : Nat) (d : Nat) : ∀ (i acc : Nat), i + d = P.length → acc + 2 * d ≤ 4194304 →
    Ev (fun k => spec_l01Degree.l0 k (v : Int) (acc : Int) (i : Int) n (edg P)) ((acc + degN (P.drop i) v : Nat) : Int) := by
  induction d with
  | zero =>
    intro i acc hi ha
    refine Ev.step (fun _ => rfl) (evF (by rw [edg_length]; omega) (evN ?_))
    rw [List.drop_of_length_le (by omega)]; simp [degN]
  | succ d ih =>
    intro i acc hi ha
    have hi2 : i < P.length := by omega
    rw [List.drop_eq_getElem_cons hi2, degN_cons]
    generalize hp : P[i] = p
    have hr : rd_L1 (edg P) (i : Int) = [(p.1 : Int), (p.2 : Int)] := by rw [edg_at P i hi2, hp]
    have last : ∀ a2 : Nat, a2 ≤ acc + 2 → Ev (fun k => spec_l01Degree.l1 k (v : Int) (a2 : Int) (i : Int) 2 n (edg P)) ((a2 + degN (P.drop (i + 1)) v : Nat) : Int) := by
      intro a2 h2
      refine Ev.step (fun _ => rfl) (evF (by omega) ?_)
      rw [wnat (n := P.length) hi2 (by omega)]
      exact ih (i + 1) a2 (by omega) (by omega)
    have mid : ∀ a1 : Nat, a1 ≤ acc + 1 → Ev (fun k => spec_l01Degree.l1 k (v : Int) (a1 : Int) (i : Int) 1 n (edg P)) ((a1 + (if p.2 = v then 1 else 0) + degN (P.drop (i + 1)) v : Nat) : Int) := by
      intro a1 h1
      refine Ev.step (fun _ => rfl) (evT (by omega) (evT (by omega) (evT (by rw [edg_length]; omega) (evT (by omega) ?_))))
      rw [hr, pair1]
      refine evT (by simp) ?_
      by_cases h : p.2 = v
      · refine evT (by omega) ?_
        rw [if_pos h, wid (by omega) (by omega), show (a1 : Int) + 1 = ((a1 + 1 : Nat) : Int) by omega]
        rw [w12]; exact last (a1 + 1) (by omega)
      · refine evF (by omega) ?_
        rw [if_neg h, w12]
        exact last a1 (by omega)
    refine Ev.step (fun _ => rfl) (evT (by rw [edg_length]; omega) ?_)
    refine Ev.step (fun _ => rfl) (evT (by omega) (evT (by omega) (evT (by rw [edg_length]; omega) (evT (by omega) ?_))))
    rw [hr, pair0]
    refine evT (by simp) ?_
    by_cases h : p.1 = v
    · refine evT (by omega) ?_
      rw [wid (by omega) (by omega), show (acc : Int) + 1 = ((acc + 1 : Nat) : Int) by omega]
      have := mid (acc + 1) (by omega)
      unfold hit
      rw [if_pos h, w01]
      rwa [show acc + (1 + (if p.2 = v then 1 else 0) + degN (P.drop (i + 1)) v) = acc + 1 + (if p.2 = v then 1 else 0) + degN (P.drop (i + 1)) v by omega]
    · refine evF (by omega) ?_
      have := mid acc (by omega)
      unfold hit
      rw [if_neg h, w01]
      rwa [show acc + (0 + (if p.2 = v then 1 else 0) + degN (P.drop (i + 1)) v) = acc + (if p.2 = v then 1 else 0) + degN (P.drop (i + 1)) v by omega]
theorem degSpec (n : Int) (P : List (Nat × Nat)) (hP : P.length ≤ 1048576) (v : Nat) : Ev (fun k => spec_l01Degree.f k n (edg P) (v : Int)) (degN P v : Int) := by
  have := degSpec_l n P hP v P.length 0 0 (by omega) (by omega)
  rw [Nat.zero_add, List.drop_zero] at this
  exact this
def bump (xs : List Int) (v : Nat) : List Int := xs.set v (xs.getD v 0 + 1)
def degFold (xs : List Int) (P : List (Nat × Nat)) : List Int := P.foldl (fun ys p => bump (bump ys p.1) p.2) xs
theorem bump_length (xs : List Int) (v : Nat) : (bump xs v).length = xs.length := by simp [bump]
theorem bump_at (xs : List Int) (v u : Nat) (hv : v < xs.length) : (bump xs v).getD u 0 = xs.getD u 0 + (if v = u then 1 else 0) := by
  unfold bump
  by_cases h : v = u
  · subst h; simp [List.getD_eq_getElem?_getD, hv]
  · simp [List.getD_eq_getElem?_getD, List.getElem?_set_ne h, h]
theorem degFold_length (P : List (Nat × Nat)) : ∀ xs : List Int, (degFold xs P).length = xs.length := by
  induction P with
  | nil => intro xs; rfl
  | cons p P ih => intro xs; show (degFold (bump (bump xs p.1) p.2) P).length = _; rw [ih, bump_length, bump_length]
theorem degFold_at (P : List (Nat × Nat)) : ∀ (xs : List Int) (u : Nat), (∀ p ∈ P, p.1 < xs.length ∧ p.2 < xs.length) → (degFold xs P).getD u 0 = xs.getD u 0 + (degN P u : Int) := by
  induction P with
  | nil => intro xs u _; simp [degFold, degN]
  | cons p P ih =>
    intro xs u h
    have hp := h p (List.mem_cons_self ..)
    show (degFold (bump (bump xs p.1) p.2) P).getD u 0 = _
    rw [ih _ u (by intro q hq; rw [bump_length, bump_length]; exact h q (List.mem_cons_of_mem _ hq)), bump_at _ _ _ (by rw [bump_length]; exact hp.2), bump_at _ _ _ hp.1, degN_cons]
    unfold hit
    split <;> split <;> simp <;> omega
def degs (N : Nat) (P : List (Nat × Nat)) : List Int := (List.range N).map fun v => (degN P v : Int)
theorem degFold_zero (N : Nat) (P : List (Nat × Nat)) (h : ∀ p ∈ P, p.1 < N ∧ p.2 < N) : degFold (List.replicate N 0) P = degs N P := by
  refine List.ext_getElem (by simp [degFold_length, degs]) fun u h1 h2 => ?_
  have := degFold_at P (List.replicate N 0) u (by simpa using h)
  rw [List.getD_eq_getElem?_getD, List.getElem?_eq_getElem h1] at this
  simp only [degFold_length, List.length_replicate] at h1
  simp [degs] at this ⊢
  simp [h1] at this
  exact this
theorem degImpl_l (P : List (Nat × Nat)) (hP : P.length ≤ 1048576) (N : Nat) (hN : N ≤ 1048576) (hb : ∀ p ∈ P, p.1 < N ∧ p.2 < N) (d : Nat) : ∀ (i : Nat) (xs : List Int), i + d = P.length → xs.length = N → (∀ u, 0 ≤ xs.getD u 0 ∧ xs.getD u 0 ≤ 2 * i) →
    Ev (fun k => impl_Graph_degrees.l0 k xs (edg P) (P.length : Int) (i : Int)) (degFold xs (P.drop i)) := by
  induction d with
  | zero =>
    intro i xs hi hx hs
    refine Ev.step (fun _ => rfl) (evF (by omega) (evN ?_))
    rw [List.drop_of_length_le (by omega)]; rfl
  | succ d ih =>
    intro i xs hi hx hs
    have hi2 : i < P.length := by omega
    rw [List.drop_eq_getElem_cons hi2]
    have hb2 := hb _ (List.getElem_mem hi2)
    generalize hp : P[i] = p at hb2 ⊢
    have hr : rd_L1 (edg P) (i : Int) = [(p.1 : Int), (p.2 : Int)] := by rw [edg_at P i hi2, hp]
    refine Ev.step (fun _ => rfl) (evT (by omega) (evT (by omega) (evT (by rw [edg_length]; omega) ?_)))
    rw [hr, pair0, pair1]
    refine evT (by simp) (evT (by omega) (evT (by omega) (evB rfl (evT (by simp) (evT (by omega) (evT (by simp; omega) ?_))))))
    have a1 : (xs.set (p.1 : Int).toNat (wrap64 (rd xs (p.1 : Int) + 1))) = bump xs p.1 := by
      rw [rdn, wid (by have := (hs p.1).1; omega) (by have := (hs p.1).2; omega)]; rfl
    rw [a1]
    have s1 : ∀ u, 0 ≤ (bump xs p.1).getD u 0 ∧ (bump xs p.1).getD u 0 ≤ 2 * i + 1 := by
      intro u; rw [bump_at _ _ _ (by omega)]; have := hs u; split <;> omega
    have a2 : ((bump xs p.1).set (p.2 : Int).toNat (wrap64 (rd (bump xs p.1) (p.2 : Int) + 1))) = bump (bump xs p.1) p.2 := by
      rw [rdn, wid (by have := (s1 p.2).1; omega) (by have := (s1 p.2).2; omega)]; rfl
    rw [a2, wnat (n := P.length) hi2 (by omega)]
    refine ih (i + 1) _ (by omega) (by rw [bump_length, bump_length]; exact hx) ?_
    intro u; rw [bump_at _ _ _ (by rw [bump_length]; omega)]; have := s1 u; split <;> omega
theorem degImpl (P : List (Nat × Nat)) (N : Nat) (g : G8 N P) : Ev (fun k => impl_Graph_degrees.f k (N : Int) (edg P)) (degs N P) := by
  have := degImpl_l P (by have := g.len; omega) N (by have := g.hi; omega) g.ends P.length 0 (List.replicate N 0) (by omega) (by simp) (by intro u; simp [List.getD_eq_getElem?_getD, List.getElem?_replicate]; split <;> simp)
  unfold impl_Graph_degrees.f
  have h8 := g.hi
  refine evT (by omega) (evT (by omega) ?_)
  rw [edg_length, ← degFold_zero N P g.ends]
  simpa using this
theorem degs_length (N : Nat) (P : List (Nat × Nat)) : (degs N P).length = N := by simp [degs]
theorem degs_at (N : Nat) (P : List (Nat × Nat)) (v : Nat) (h : v < N) : rd (degs N P) (v : Int) = (degN P v : Int) := by rw [rd_at _ _ (by rw [degs_length]; exact h)]; simp [degs]
end Go.Proofs.Ytehdlnnminaekaa.Q
end
section
namespace Go.Proofs.Ytehdlnnminaekaa.Q
open Go.RowKit Go.Proofs.Ytehdlnnminaekaa.X Go.Proofs.YtehdlnnminaekaaW.PrintWords Go.Proofs.YtehdlnnminaekaaW.PrintLast Go.Proofs.YtehdlnnminaekaaW.PrintMore
set_option linter.unusedVariables false
theorem mn_l (l : List Int) (hl : l.length ≤ 1048576) (d : Nat) : ∀ (i : Nat) (a : Int), i + d = l.length → a ∈ l → (∀ (j : Nat) (hj : j < l.length), j < i → a ≤ l[j]) → ∃ r, Ev (fun k => slices_Min_int64_int64.l0 k l a (i : Int)) r ∧ r ∈ l ∧ ∀ (j : Nat) (hj : j < l.length), r ≤ l[j] := by
  induction d with
  | zero => intro i a hi ha hb; exact ⟨a, Ev.step (fun _ => rfl) (evF (by omega) (evN rfl)), ha, fun j hj => hb j hj (by omega)⟩
  | succ d ih =>
    intro i a hi ha hb
    have hm : mn a l[i] ∈ l := by unfold mn; split <;> first | exact ha | exact List.getElem_mem _
    obtain ⟨r, h1, h2⟩ := ih (i + 1) (mn a l[i]) (by omega) hm (by
      intro j hj hji
      by_cases e : j = i
      · subst e; unfold mn; split <;> omega
      · have := hb j hj (by omega); unfold mn; split <;> omega)
    refine ⟨r, Ev.step (fun _ => rfl) (evT (by omega) (evT (by omega) ?_)), h2⟩
    rw [rd_at _ _ (by omega), wnat (n := l.length) (by omega) (by omega)]; exact h1
theorem mx_l (l : List Int) (hl : l.length ≤ 1048576) (d : Nat) : ∀ (i : Nat) (a : Int), i + d = l.length → a ∈ l → (∀ (j : Nat) (hj : j < l.length), j < i → l[j] ≤ a) → ∃ r, Ev (fun k => slices_Max_int64_int64.l0 k l a (i : Int)) r ∧ r ∈ l ∧ ∀ (j : Nat) (hj : j < l.length), l[j] ≤ r := by
  induction d with
  | zero => intro i a hi ha hb; exact ⟨a, Ev.step (fun _ => rfl) (evF (by omega) (evN rfl)), ha, fun j hj => hb j hj (by omega)⟩
  | succ d ih =>
    intro i a hi ha hb
    have hm : mx a l[i] ∈ l := by unfold mx; split <;> first | exact ha | exact List.getElem_mem _
    obtain ⟨r, h1, h2⟩ := ih (i + 1) (mx a l[i]) (by omega) hm (by
      intro j hj hji
      by_cases e : j = i
      · subst e; unfold mx; split <;> omega
      · have := hb j hj (by omega); unfold mx; split <;> omega)
    refine ⟨r, Ev.step (fun _ => rfl) (evT (by omega) (evT (by omega) ?_)), h2⟩
    rw [rd_at _ _ (by omega), wnat (n := l.length) (by omega) (by omega)]; exact h1
def allEq (l : List Int) : Prop := ∀ (j : Nat) (hj : j < l.length), l[j] = l.getD 0 0
theorem regImpl (N : Nat) (P : List (Nat × Nat)) (g : G8 N P) (r : Int) (h : (allEq (degs N P) ∧ r = degN P 0) ∨ (¬ allEq (degs N P) ∧ r = -1)) : Ev (fun k => impl_Graph_regular.f k (N : Int) (edg P)) r := by
  have h8 := g.hi; have h1 := g.lo
  have hL : (degs N P).length = N := degs_length N P
  have h0 : (degs N P).getD 0 0 = degN P 0 := by have := degs_at N P 0 (by omega); rw [rdn] at this; exact this
  unfold impl_Graph_regular.f
  have hz : rd (degs N P) 0 = (degs N P)[0]'(by omega) := rd_at _ 0 (by omega)
  have hz' : (degs N P)[0]'(by omega) = (degN P 0 : Int) := by rw [← hz]; exact degs_at N P 0 (by omega)
  obtain ⟨a, ha, ma, la⟩ := mn_l (degs N P) (by omega) (N - 1) 1 (rd (degs N P) 0) (by omega) (by rw [hz]; exact List.getElem_mem _) (fun j hj h => by cases j with | zero => omega | succ j => omega)
  obtain ⟨b, hb, mb, lb⟩ := mx_l (degs N P) (by omega) (N - 1) 1 (rd (degs N P) 0) (by omega) (by rw [hz]; exact List.getElem_mem _) (fun j hj h => by cases j with | zero => omega | succ j => omega)
  have A : Ev (fun k => slices_Min_int64_int64.f k (degs N P)) a := by unfold slices_Min_int64_int64.f; exact evF (by omega) (evT (by omega) ha)
  have B : Ev (fun k => slices_Max_int64_int64.f k (degs N P)) b := by unfold slices_Max_int64_int64.f; exact evF (by omega) (evT (by omega) hb)
  refine Ev.bind (degImpl P N g) (Ev.bind A (Ev.bind B ?_))
  rcases h with ⟨h, rfl⟩ | ⟨h, rfl⟩
  · obtain ⟨i, hi, rfl⟩ := List.mem_iff_getElem.1 ma
    obtain ⟨j, hj, rfl⟩ := List.mem_iff_getElem.1 mb
    refine evT ((h i hi).trans (h j hj).symm) (evT (by omega) (evN ?_))
    rw [hz, hz']
  · refine evF (fun e => h (fun j hj => ?_)) (evN rfl)
    have q1 := la j hj; have q2 := lb j hj; have q3 := la 0 (by omega); have q4 := lb 0 (by omega)
    rw [h0]; rw [hz'] at q3 q4; omega
theorem regSpec_l (N : Nat) (P : List (Nat × Nat)) (g : G8 N P) (d : Nat) : ∀ v : Nat, v + d = N → (∀ j, j < v → degN P j = degN P 0) →
    ((∀ j, j < N → degN P j = degN P 0) ∧ Ev (fun k => spec_l07Regular.l0 k (degN P 0 : Int) (v : Int) (N : Int) (edg P)) (degN P 0 : Int)) ∨ ((¬ ∀ j, j < N → degN P j = degN P 0) ∧ Ev (fun k => spec_l07Regular.l0 k (degN P 0 : Int) (v : Int) (N : Int) (edg P)) (-1)) := by
  have h8 := g.hi; have h10 := g.len
  induction d with
  | zero => intro v hv h; exact .inl ⟨fun j hj => h j (by omega), Ev.step (fun _ => rfl) (evF (by omega) (evN rfl))⟩
  | succ d ih =>
    intro v hv h
    have D := degSpec (N : Int) P (by omega) v
    by_cases e : degN P v = degN P 0
    · have st : ∀ R, Ev (fun k => spec_l07Regular.l0 k (degN P 0 : Int) ((v + 1 : Nat) : Int) (N : Int) (edg P)) R → Ev (fun k => spec_l07Regular.l0 k (degN P 0 : Int) (v : Int) (N : Int) (edg P)) R := by
        intro R hR
        refine Ev.step (fun _ => rfl) (evT (by omega) (Ev.bind D (evT (by omega) ?_)))
        rw [wnat (n := N) (by omega) (by omega)]; exact hR
      rcases ih (v + 1) (by omega) (fun j hj => if q : j = v then by rw [q, e] else h j (by omega)) with ⟨a, b⟩ | ⟨a, b⟩
      · exact .inl ⟨a, st _ b⟩
      · exact .inr ⟨a, st _ b⟩
    · exact .inr ⟨fun q => e (q v (by omega)), Ev.step (fun _ => rfl) (evT (by omega) (Ev.bind D (evF (by omega) (evN rfl))))⟩
theorem allEq_iff (N : Nat) (P : List (Nat × Nat)) (hN : 1 ≤ N) : allEq (degs N P) ↔ ∀ j, j < N → degN P j = degN P 0 := by
  unfold allEq degs
  simp only [List.length_map, List.length_range, List.getElem_map, List.getElem_range]
  have : ((List.range N).map fun v => (degN P v : Int)).getD 0 0 = degN P 0 := by
    simp [List.getD_eq_getElem?_getD, List.getElem?_range (show 0 < N by omega)]
  rw [this]
  exact ⟨fun h j hj => by have := h j hj; omega, fun h j hj => by rw [h j hj]⟩
theorem reg_both (N : Nat) (P : List (Nat × Nat)) (g : G8 N P) : ∃ r : Int, (r = -1 ∨ ∃ d : Nat, r = (d : Int) ∧ d ≤ 20) ∧ Ev (fun k => spec_l07Regular.f k (N : Int) (edg P)) r ∧ Ev (fun k => impl_Graph_regular.f k (N : Int) (edg P)) r := by
  have h8 := g.hi; have h10 := g.len; have hlo := g.lo
  have D := degSpec (N : Int) P (by omega) 0
  rcases regSpec_l N P g (N - 1) 1 (by omega) (fun j hj => by cases j with | zero => rfl | succ j => omega) with ⟨a, b⟩ | ⟨a, b⟩
  · have c := regImpl N P g (degN P 0) (.inl ⟨(allEq_iff N P hlo).2 a, rfl⟩)
    have s : Ev (fun k => spec_l07Regular.f k (N : Int) (edg P)) (degN P 0 : Int) := by unfold spec_l07Regular.f; exact Ev.bind D b
    exact ⟨degN P 0, .inr ⟨degN P 0, rfl, by have := degN_le P 0; omega⟩, s, c⟩
  · have c := regImpl N P g (-1) (.inr ⟨fun q => a ((allEq_iff N P hlo).1 q), rfl⟩)
    have s : Ev (fun k => spec_l07Regular.f k (N : Int) (edg P)) (-1) := by unfold spec_l07Regular.f; exact Ev.bind D b
    exact ⟨-1, .inl rfl, s, c⟩
end Go.Proofs.Ytehdlnnminaekaa.Q
end
section
namespace Go.Proofs.Ytehdlnnminaekaa.X
open Go.RowKit Go.Proofs.YtehdlnnminaekaaW.PrintWords Go.Proofs.YtehdlnnminaekaaW.PrintLast Go.Proofs.YtehdlnnminaekaaW.PrintMore
attribute [local go_sem] w10z w12z w14z w13z w7z w8z w11z w9z
set_option linter.unusedVariables false
set_option linter.unusedSimpArgs false
end Go.Proofs.Ytehdlnnminaekaa.X
end
section
namespace Go.Proofs.Ytehdlnnminaekaa.X
open Go.RowKit Go.Proofs.YtehdlnnminaekaaW.PrintWords Go.Proofs.YtehdlnnminaekaaW.PrintLast Go.Proofs.YtehdlnnminaekaaW.PrintMore
attribute [local go_sem] w10z w12z w14z w13z w7z w8z w11z w9z
set_option linter.unusedVariables false
set_option linter.unusedSimpArgs false
end Go.Proofs.Ytehdlnnminaekaa.X
end
section
namespace Go.Proofs.Ytehdlnnminaekaa.X
open Go.RowKit Go.Proofs.YtehdlnnminaekaaW.PrintWords Go.Proofs.YtehdlnnminaekaaW.PrintLast Go.Proofs.YtehdlnnminaekaaW.PrintMore
attribute [local go_sem] w10z w12z w14z w13z w7z w8z w11z w9z
set_option linter.unusedVariables false
set_option linter.unusedSimpArgs false
end Go.Proofs.Ytehdlnnminaekaa.X
end
section
namespace Go.Proofs.Ytehdlnnminaekaa.X
open Go.RowKit Go.Proofs.YtehdlnnminaekaaW.PrintWords Go.Proofs.YtehdlnnminaekaaW.PrintLast Go.Proofs.YtehdlnnminaekaaW.PrintMore
attribute [local go_sem] w10z w12z w14z w13z w7z w8z w11z w9z
set_option linter.unusedVariables false
set_option linter.unusedSimpArgs false
end Go.Proofs.Ytehdlnnminaekaa.X
end
section
namespace Go.Proofs.Ytehdlnnminaekaa.X
open Go.RowKit Go.Proofs.YtehdlnnminaekaaW.PrintWords Go.Proofs.YtehdlnnminaekaaW.PrintLast Go.Proofs.YtehdlnnminaekaaW.PrintMore
attribute [local go_sem] w10z w12z w14z w13z w7z w8z w11z w9z
set_option linter.unusedVariables false
set_option linter.unusedSimpArgs false
end Go.Proofs.Ytehdlnnminaekaa.X
end
section
namespace Go.Proofs.Ytehdlnnminaekaa.X
open Go.RowKit Go.Proofs.YtehdlnnminaekaaW.PrintWords Go.Proofs.YtehdlnnminaekaaW.PrintLast Go.Proofs.YtehdlnnminaekaaW.PrintMore
attribute [local go_sem] w10z w12z w14z w13z w7z w8z w11z w9z
set_option linter.unusedVariables false
set_option linter.unusedSimpArgs false
end Go.Proofs.Ytehdlnnminaekaa.X
end
section
namespace Go.Proofs.Ytehdlnnminaekaa.Q
open Go.RowKit Go.Proofs.Ytehdlnnminaekaa.X Go.Proofs.YtehdlnnminaekaaW.PrintWords Go.Proofs.YtehdlnnminaekaaW.PrintLast Go.Proofs.YtehdlnnminaekaaW.PrintMore
set_option linter.unusedVariables false
def hasB (c k : Nat) : Prop := Go.bits .and .i64 (shr .i64 (c : Int) (k : Int)) 1 = 1
instance (c k : Nat) : Decidable (hasB c k) := by unfold hasB; infer_instance
def rl (a b : Int) (x : List Int) : List Int := x.map fun c => if c = mx a b then mn a b else c
def stepP (x : List Int) (p : Nat × Nat) : List Int := rl (rd x (p.1 : Int)) (rd x (p.2 : Int)) x
def selF (c : Nat) : Nat → List (Nat × Nat) → List (Nat × Nat)
  | _, [] => []
  | i, p :: P => if hasB c i then p :: selF c (i + 1) P else selF c (i + 1) P
theorem rl_length (a b : Int) (x : List Int) : (rl a b x).length = x.length := by simp [rl]
theorem rl_step (a b : Int) (x : List Int) (i : Nat) (h : i < x.length) : (x.set i (if x[i] = mx a b then mn a b else x[i])).take (i + 1) ++ rl a b ((x.set i (if x[i] = mx a b then mn a b else x[i])).drop (i + 1)) = x.take i ++ rl a b (x.drop i) := by
  rw [List.take_succ_eq_append_getElem (by simpa using h), List.drop_set_of_lt (by omega), List.take_set_of_le (by omega), List.drop_eq_getElem_cons h, List.getElem_set_self, List.append_assoc]
  rfl
theorem prtSpec_v (n : Int) (E : List (List Int)) (a b : Int) (e : Nat) (r : List Int) (N : Nat) (hN : N ≤ 1048576) (d : Nat) : ∀ (i : Nat) (x : List Int), x.length = N → i + d = N →
    Ev (fun k => spec_l01Parts.l1 k (x.take i ++ rl a b (x.drop i)) (wrap64 ((e : Int) + 1)) n E) r → Ev (fun k => spec_l01Parts.l2 k x (e : Int) a b (i : Int) n E) r := by
  induction d with
  | zero =>
    intro i x hx hi h
    rw [List.drop_of_length_le (by omega), List.take_of_length_le (by omega)] at h
    simp only [rl, List.map_nil, List.append_nil] at h
    exact Ev.step (fun _ => rfl) (evF (by omega) h)
  | succ d ih =>
    intro i x hx hi h
    refine Ev.step (fun _ => rfl) (evT (by omega) (evT (by omega) ?_))
    rw [rd_at x i (by omega), wnat (n := N) (by omega) (by omega), Int.toNat_natCast]
    rw [← rl_step a b x i (by omega)] at h
    by_cases c : x[i]'(by omega) = mx a b
    · rw [if_pos c] at h
      exact evT c (ih (i + 1) _ (by simpa using hx) (by omega) h)
    · rw [if_neg c, List.set_getElem_self] at h
      exact evF c (ih (i + 1) x hx (by omega) h)
theorem prtSpec_e (N : Nat) (hN : N ≤ 8) (P : List (Nat × Nat)) (hP : P.length ≤ 1000) (hb : ∀ p ∈ P, p.1 < N ∧ p.2 < N) (d : Nat) : ∀ (i : Nat) (x : List Int), x.length = N → i + d = P.length → Ev (fun k => spec_l01Parts.l1 k x (i : Int) (N : Int) (edg P)) ((P.drop i).foldl stepP x) := by
  induction d with
  | zero =>
    intro i x hx hi
    refine Ev.step (fun _ => rfl) (evF (by rw [edg_length]; omega) (evN ?_))
    rw [List.drop_of_length_le (by omega)]; rfl
  | succ d ih =>
    intro i x hx hi
    have hi2 : i < P.length := by omega
    rw [List.drop_eq_getElem_cons hi2, List.foldl_cons]
    have hb2 := hb _ (List.getElem_mem hi2)
    have hr : rd_L1 (edg P) (i : Int) = [((P[i]).1 : Int), ((P[i]).2 : Int)] := edg_at P i hi2
    refine Ev.step (fun _ => rfl) (evT (by rw [edg_length]; omega) (evT (by omega) ?_))
    rw [hr, show ∀ a b : Int, rd [a, b] 0 = a from fun _ _ => rfl, show ∀ a b : Int, rd [a, b] 1 = b from fun _ _ => rfl]
    refine evT (by simp) (evT (by omega) (evT (by omega) (evT (by simp) (evT (by omega) (evT (by omega) ?_)))))
    refine prtSpec_v (N : Int) (edg P) _ _ i _ N (by omega) N 0 x hx (by omega) ?_
    rw [wnat (n := P.length) hi2 (by omega), List.take_zero, List.drop_zero, List.nil_append]
    exact ih (i + 1) (stepP x P[i]) (by unfold stepP; rw [rl_length]; exact hx) (by omega)
def idn (N : Nat) : List Int := (List.range N).map fun (v : Nat) => (v : Int)
theorem idn_succ (N : Nat) : idn (N + 1) = idn N ++ [(N : Int)] := by simp [idn, List.range_succ]
theorem idn_length (N : Nat) : (idn N).length = N := by simp [idn]
theorem prtSpec (N : Nat) (hN : N ≤ 8) (P : List (Nat × Nat)) (hP : P.length ≤ 1000) (hb : ∀ p ∈ P, p.1 < N ∧ p.2 < N) : Ev (fun k => spec_l01Parts.f k (N : Int) (edg P)) (P.foldl stepP (idn N)) := by
  have L : ∀ (d i : Nat), i + d = N → Ev (fun k => spec_l01Parts.l0 k (idn i) (i : Int) (N : Int) (edg P)) (P.foldl stepP (idn N)) := by
    intro d
    induction d with
    | zero =>
      intro i hi
      obtain rfl : i = N := by omega
      exact Ev.step (fun _ => rfl) (evF (by omega) (prtSpec_e i hN P hP hb P.length 0 (idn i) (idn_length i) (by omega)))
    | succ d ih =>
      intro i hi
      refine Ev.step (fun _ => rfl) (evT (by omega) (evT (by rw [idn_length]; omega) ?_))
      rw [← idn_succ, wnat (n := N) (by omega) (by omega)]
      exact ih (i + 1) (by omega)
  exact L N 0 (by omega)
end Go.Proofs.Ytehdlnnminaekaa.Q
end
section
namespace Go.Proofs.Ytehdlnnminaekaa.Q
open Go.RowKit Go.Proofs.Ytehdlnnminaekaa.X Go.Proofs.YtehdlnnminaekaaW.PrintWords Go.Proofs.YtehdlnnminaekaaW.PrintLast Go.Proofs.YtehdlnnminaekaaW.PrintMore
set_option linter.unusedVariables false
def stp (c : Nat → Nat) (p : Nat × Nat) : Nat → Nat := fun v => if c v = max (c p.1) (c p.2) then min (c p.1) (c p.2) else c v
def Good (c : Nat → Nat) : Prop := ∀ v, c v ≤ v ∧ c (c v) = c v
def cl (Q : List (Nat × Nat)) : Nat → Nat := Q.foldl stp (fun v => v)
def fx : Nat → (Nat → Nat) → Nat
  | 0, _ => 0
  | n + 1, c => fx n c + if c n = n then 1 else 0
theorem fx_le (n : Nat) (c : Nat → Nat) : fx n c ≤ n := by
  induction n with
  | zero => exact Nat.le_refl _
  | succ n ih => show fx n c + _ ≤ n + 1; split <;> omega
def lst (N : Nat) (c : Nat → Nat) : List Int := (List.range N).map fun v => ((c v : Nat) : Int)
theorem lst_length (N : Nat) (c : Nat → Nat) : (lst N c).length = N := by simp [lst]
theorem lst_at (N : Nat) (c : Nat → Nat) (v : Nat) (h : v < N) : rd (lst N c) (v : Int) = (c v : Int) := by rw [rd_at _ _ (by rw [lst_length]; exact h)]; simp [lst]
theorem lst_stp (N : Nat) (c : Nat → Nat) (p : Nat × Nat) (h1 : p.1 < N) (h2 : p.2 < N) : stepP (lst N c) p = lst N (stp c p) := by
  unfold stepP rl
  rw [lst_at N c _ h1, lst_at N c _ h2]
  unfold lst
  rw [List.map_map]
  refine List.map_congr_left fun v _ => ?_
  show (if ((c v : Nat) : Int) = mx (c p.1 : Int) (c p.2 : Int) then mn (c p.1 : Int) (c p.2 : Int) else ((c v : Nat) : Int)) = ((stp c p v : Nat) : Int)
  have e1 : mx (c p.1 : Int) (c p.2 : Int) = ((max (c p.1) (c p.2) : Nat) : Int) := by unfold mx; split <;> omega
  have e2 : mn (c p.1 : Int) (c p.2 : Int) = ((min (c p.1) (c p.2) : Nat) : Int) := by unfold mn; split <;> omega
  rw [e1, e2]; unfold stp
  by_cases q : c v = max (c p.1) (c p.2)
  · rw [if_pos q, if_pos (by omega)]
  · rw [if_neg q, if_neg (by omega)]
theorem lst_fold (N : Nat) (Q : List (Nat × Nat)) : ∀ c, (∀ p ∈ Q, p.1 < N ∧ p.2 < N) → Q.foldl stepP (lst N c) = lst N (Q.foldl stp c) := by
  induction Q with
  | nil => intro c _; rfl
  | cons p Q ih =>
    intro c h
    have hp := h p (List.mem_cons_self ..)
    rw [List.foldl_cons, List.foldl_cons, lst_stp N c p hp.1 hp.2]
    exact ih _ (fun q hq => h q (List.mem_cons_of_mem _ hq))
theorem idn_lst (N : Nat) : idn N = lst N (fun v => v) := rfl
theorem cnt_fx (N : Nat) (hN : N ≤ 1048576) (c : Nat → Nat) (d : Nat) : ∀ i : Nat, i + d = N → Ev (fun k => spec_l01Count.l0 k (lst N c) (fx i c : Int) (i : Int)) ((fx N c : Nat) : Int) ∧ Ev (fun k => impl_countParts.l0 k (fx i c : Int) (lst N c) (N : Int) (i : Int)) ((fx N c : Nat) : Int) := by
  induction d with
  | zero => intro i hi; obtain rfl : i = N := by omega
            exact ⟨Ev.step (fun _ => rfl) (evF (by rw [lst_length]; omega) (evN rfl)), Ev.step (fun _ => rfl) (evF (by omega) (evN rfl))⟩
  | succ d ih =>
    intro i hi
    have hf := fx_le i c
    obtain ⟨a, b⟩ := ih (i + 1) (by omega)
    have ef : fx (i + 1) c = fx i c + if c i = i then 1 else 0 := rfl
    rw [ef] at a b
    by_cases q : c i = i
    · rw [if_pos q, ← wnat (i := fx i c) (n := N) (by omega) (by omega), ← wnat (i := i) (n := N) (by omega) (by omega)] at a b
      refine ⟨Ev.step (fun _ => rfl) (evT (by rw [lst_length]; omega) (evT (by omega) (evT (by rw [lst_at N c i (by omega)]; omega) a))), Ev.step (fun _ => rfl) (evT (by omega) (evT (by omega) (evT (by rw [lst_length]; omega) (evT (by rw [lst_at N c i (by omega)]; omega) b))))⟩
    · rw [if_neg q, Nat.add_zero, ← wnat (i := i) (n := N) (by omega) (by omega)] at a b
      refine ⟨Ev.step (fun _ => rfl) (evT (by rw [lst_length]; omega) (evT (by omega) (evF (by rw [lst_at N c i (by omega)]; omega) a))), Ev.step (fun _ => rfl) (evT (by omega) (evT (by omega) (evT (by rw [lst_length]; omega) (evF (by rw [lst_at N c i (by omega)]; omega) b))))⟩
end Go.Proofs.Ytehdlnnminaekaa.Q
end
section
namespace Go.Proofs.Ytehdlnnminaekaa.Q
open Go.RowKit Go.Proofs.Ytehdlnnminaekaa.X Go.Proofs.YtehdlnnminaekaaW.PrintWords Go.Proofs.YtehdlnnminaekaaW.PrintLast Go.Proofs.YtehdlnnminaekaaW.PrintMore
set_option linter.unusedVariables false
theorem evy_v (E : List (List Int)) (m : Int) (a b : Int) (e : Nat) (r : List Int) (N : Nat) (hN : N ≤ 1048576) (d : Nat) : ∀ (i : Nat) (x : List Int), x.length = N → i + d = N →
    Ev (fun k => impl_Graph_classes_of_every.l1 k (x.take i ++ rl a b (x.drop i)) E m (wrap64 ((e : Int) + 1))) r → Ev (fun k => impl_Graph_classes_of_every.l2 k x a b E m (e : Int) (N : Int) (i : Int)) r := by
  induction d with
  | zero =>
    intro i x hx hi h
    rw [List.drop_of_length_le (by omega), List.take_of_length_le (by omega)] at h
    simp only [rl, List.map_nil, List.append_nil] at h
    exact Ev.step (fun _ => rfl) (evF (by omega) h)
  | succ d ih =>
    intro i x hx hi h
    refine Ev.step (fun _ => rfl) (evT (by omega) (evT (by omega) (evT (by omega) ?_)))
    rw [rd_at x i (by omega), wnat (n := N) (by omega) (by omega), Int.toNat_natCast]
    rw [← rl_step a b x i (by omega)] at h
    by_cases c : x[i]'(by omega) = mx a b
    · rw [if_pos c] at h
      exact evT c (ih (i + 1) _ (by simpa using hx) (by omega) h)
    · rw [if_neg c, List.set_getElem_self] at h
      exact evF c (ih (i + 1) x hx (by omega) h)
theorem evy_e (N : Nat) (hN : N ≤ 8) (P : List (Nat × Nat)) (hP : P.length ≤ 1000) (hb : ∀ p ∈ P, p.1 < N ∧ p.2 < N) (d : Nat) : ∀ (i : Nat) (x : List Int), x.length = N → i + d = P.length → Ev (fun k => impl_Graph_classes_of_every.l1 k x (edg P) (P.length : Int) (i : Int)) ((P.drop i).foldl stepP x) := by
  induction d with
  | zero =>
    intro i x hx hi
    refine Ev.step (fun _ => rfl) (evF (by omega) (evN ?_))
    rw [List.drop_of_length_le (by omega)]; rfl
  | succ d ih =>
    intro i x hx hi
    have hi2 : i < P.length := by omega
    rw [List.drop_eq_getElem_cons hi2]
    have hb2 := hb _ (List.getElem_mem hi2)
    have hr : rd_L1 (edg P) (i : Int) = [((P[i]).1 : Int), ((P[i]).2 : Int)] := edg_at P i hi2
    have he : ∀ b : Bool, b = true → impl_every.f (i : Int) = some b := fun b hb => by rw [hb]; rfl
    refine Ev.step (fun _ => rfl) (evT (by omega) (evT (by omega) (evT (by rw [edg_length]; omega) ?_)))
    rw [List.foldl_cons]
    obtain ⟨b, hbt⟩ : ∃ b : Bool, b = true := ⟨_, rfl⟩
    refine evB (he b hbt) (evT hbt ?_)
    rw [hr, show ∀ a b : Int, rd [a, b] 0 = a from fun _ _ => rfl, show ∀ a b : Int, rd [a, b] 1 = b from fun _ _ => rfl]
    refine evT (by simp) (evT (by omega) (evT (by omega) (evT (by simp) (evT (by omega) (evT (by omega) ?_)))))
    rw [hx]
    refine evy_v (edg P) _ _ _ i _ N (by omega) N 0 x hx (by omega) ?_
    rw [wnat (n := P.length) hi2 (by omega), List.take_zero, List.drop_zero, List.nil_append]
    exact ih (i + 1) (stepP x P[i]) (by unfold stepP; rw [rl_length]; exact hx) (by omega)
theorem evyImpl (N : Nat) (hN : N ≤ 8) (P : List (Nat × Nat)) (hP : P.length ≤ 1000) (hb : ∀ p ∈ P, p.1 < N ∧ p.2 < N) : Ev (fun k => impl_Graph_classes_of_every.f k (N : Int) (edg P)) (P.foldl stepP (idn N)) := by
  have L : ∀ (d i : Nat), i + d = N → Ev (fun k => impl_Graph_classes_of_every.l0 k (idn i) (N : Int) (i : Int) (N : Int) (edg P)) (P.foldl stepP (idn N)) := by
    intro d
    induction d with
    | zero =>
      intro i hi
      obtain rfl : i = N := by omega
      have := evy_e i hN P hP hb P.length 0 (idn i) (idn_length i) (by omega)
      rw [List.drop_zero] at this
      exact Ev.step (fun _ => rfl) (evF (by omega) (by rw [edg_length]; exact this))
    | succ d ih =>
      intro i hi
      refine Ev.step (fun _ => rfl) (evT (by omega) (evT (by rw [idn_length]; omega) ?_))
      rw [← idn_succ, wnat (n := N) (by omega) (by omega)]
      exact ih (i + 1) (by omega)
  exact L N 0 (by omega)
theorem partsAll (N : Nat) (P : List (Nat × Nat)) (g : G8 N P) : Ev (fun k => impl_Graph_parts.f k (N : Int) (edg P)) ((fx N (cl P) : Nat) : Int) := by
  have h8 := g.hi; have h10 := g.len
  have I := evyImpl N h8 P (by omega) g.ends
  rw [idn_lst, lst_fold N _ _ g.ends] at I
  obtain ⟨_, h2⟩ := cnt_fx N (by omega) (cl P) N 0 (by omega)
  unfold impl_Graph_parts.f
  refine Ev.bind I (Ev.bind (a := ((fx N (cl P) : Nat) : Int)) ?_ (evN rfl))
  unfold impl_countParts.f
  rw [lst_length]
  exact h2
theorem con_both (N : Nat) (P : List (Nat × Nat)) (g : G8 N P) : Ev (fun k => spec_l01Count.f k (N : Int) (edg P)) ((fx N (cl P) : Nat) : Int) := by
  have h8 := g.hi; have h10 := g.len
  have S := prtSpec N h8 P (by omega) g.ends
  rw [idn_lst, lst_fold N _ _ g.ends] at S
  obtain ⟨h1, h2⟩ := cnt_fx N (by omega) (cl P) N 0 (by omega)
  unfold spec_l01Count.f
  exact Ev.bind S h1
end Go.Proofs.Ytehdlnnminaekaa.Q
end
section
namespace Go.Proofs.Ytehdlnnminaekaa.Q
open Go.RowKit Go.Proofs.Ytehdlnnminaekaa.X Go.Proofs.Ytehdlnnminaekaa.Dt Go.Proofs.YtehdlnnminaekaaW.PrintWords Go.Proofs.YtehdlnnminaekaaW.PrintLast Go.Proofs.YtehdlnnminaekaaW.PrintMore
set_option linter.unusedVariables false
theorem sq_both (N : Nat) (P : List (Nat × Nat)) (g : G8 N P) : ∃ y : List Int, y.length = N + 1 ∧ rd y (N : Int) = 1 ∧ (∀ x ∈ y, wrap64 x = x) ∧ Ev (fun k => spec_l07Square.f k (N : Int) (edg P)) y ∧ Ev (fun k => impl_Graph_squares.f k (N : Int) (edg P)) y := by
  have h8 := g.hi
  have sA := adjSpec N P g
  have iA := adjImpl N P g
  rw [adj_w N P g.len] at sA iA
  obtain ⟨r, hr, r1, hw, s, i⟩ := char_one N _ h8 (adj_sml N P g.len)
  obtain ⟨y, hy, y1, yw, a, b⟩ := square_one r (N + 1) hr (by omega) (by omega) (by rw [Nat.add_sub_cancel]; exact r1)
  rw [Nat.add_sub_cancel] at y1
  refine ⟨y, hy, y1, yw, ?_, ?_⟩
  · unfold spec_l07Square.f; exact Ev.bind sA (Ev.bind s a)
  · unfold impl_Graph_squares.f impl_Graph_characteristic.f; exact Ev.bind (Ev.bind iA (Ev.bind i (evN rfl))) b
theorem ram_both (n : Int) (E : List (List Int)) (hE : E.length ≤ 1048576) : ∃ r, Ev (fun k => spec_IsRamanujan.f k n E) r ∧ Ev (fun k => impl_IsRamanujan.f k n E) r := by
  have h1 := isSpec n E hE; have h2 := isImpl n E hE
  unfold spec_IsRamanujan.f impl_IsRamanujan.f
  by_cases h : VG n E = true
  · rw [h] at h1 h2
    obtain ⟨N, P, rfl, rfl, g⟩ := VG_true h
    have h8 := g.hi; have h0 := g.lo
    obtain ⟨d, hd, rs, ri⟩ := reg_both N P g
    have sj : ∀ b : Bool, b = true → Ev (fun k => spec_IsRamanujan.j0 k d b (N : Int) (edg P)) (false, 5) := fun b hb => Ev.step (fun _ => rfl) (evT hb (evN rfl))
    have ij : ∀ b : Bool, b = true → Ev (fun k => impl_IsRamanujan.j0 k d b (N : Int) (edg P)) (false, 5) := fun b hb => Ev.step (fun _ => rfl) (evT hb (evN rfl))
    by_cases d1 : d < 1
    · exact ⟨(false, 5), Ev.bind h1 (evT rfl (Ev.bind rs (evT d1 (sj true rfl)))), Ev.bind h2 (evT rfl (Ev.bind ri (evT d1 (ij true rfl))))⟩
    · have hp := partsAll N P g
      have hc : Ev (fun k => spec_l01Connected.f k (N : Int) (edg P)) (((fx N (cl P) : Nat) : Int) == 1) := by unfold spec_l01Connected.f; exact Ev.bind (con_both N P g) (evN rfl)
      by_cases c1 : ((fx N (cl P) : Nat) : Int) = 1
      · obtain ⟨y, hy, y1, yw, a, b⟩ := sq_both N P g
        obtain ⟨n0, rfl, hn0⟩ : ∃ d' : Nat, d = (d' : Int) ∧ d' ≤ 20 := by rcases hd with z | z; omega; exact z
        have h2n : 1 ≤ n0 := by omega
        have e1 : wrap64 (4 * wrap64 ((n0 : Int) - 1)) = 4 * ((n0 : Int) - 1) := by rw [wid (x := (n0 : Int) - 1) (by omega) (by omega), wid (by omega) (by omega)]
        have hsq : n0 * n0 ≤ 400 := Nat.mul_le_mul hn0 hn0
        have e2 : wrap64 ((n0 : Int) * (n0 : Int)) = ((n0 * n0 : Nat) : Int) := by
          rw [← Int.natCast_mul, wid (by omega) (by omega)]
        obtain ⟨A, Z, hA, hZ, sA, sZ, iR⟩ := roots_small y (N + 1) hy (by omega) (by omega) (by rw [Nat.add_sub_cancel]; exact y1) yw (4 * ((n0 : Int) - 1))
        obtain ⟨A2, Z2, hA2, hZ2, sA2, sZ2, iR2⟩ := roots_small y (N + 1) hy (by omega) (by omega) (by rw [Nat.add_sub_cancel]; exact y1) yw ((n0 * n0 : Nat) : Int)
        have sk : ∀ (b : Bool) r, b = false → Ev (fun k => (spec_l07Square.f k (N : Int) (edg P)).bind fun t105 => ((spec_l07Above.f k t105 (wrap64 (4 * (wrap64 ((n0 : Int) - 1))))).bind fun t108 => (if (wrap64 ((n0 : Int) * (n0 : Int))) > (wrap64 (4 * (wrap64 ((n0 : Int) - 1)))) then ((spec_l07At.f k t105 (wrap64 ((n0 : Int) * (n0 : Int)))).bind fun t109 => (some (((wrap64 (t108 - t109)) == 0), (0 : Int)))) else (some ((t108 == 0), 0))))) r → Ev (fun k => spec_IsRamanujan.j0 k (n0 : Int) b (N : Int) (edg P)) r := fun b r hb h => Ev.step (fun _ => rfl) (evF (by simp [hb]) h)
        have ik : ∀ (b : Bool) r, b = false → Ev (fun k => (impl_Graph_squares.f k (N : Int) (edg P)).bind fun t105 => ((impl_roots.f k t105 (wrap64 (4 * (wrap64 ((n0 : Int) - 1))))).bind fun bt108 => (if (n0 : Int) = 2 then (some ((bt108.1 == 0), (0 : Int))) else ((impl_roots.f k t105 (wrap64 ((n0 : Int) * (n0 : Int)))).bind fun bt110 => (some ((bt108.1 == bt110.2), 0)))))) r → Ev (fun k => impl_IsRamanujan.j0 k (n0 : Int) b (N : Int) (edg P)) r := fun b r hb h => Ev.step (fun _ => rfl) (evF (by simp [hb]) h)
        by_cases q : n0 = 2
        · have u1 : ¬ (((n0 * n0 : Nat) : Int) > 4 * ((n0 : Int) - 1)) := by rw [q]; omega
          refine ⟨(((A : Int) == 0), 0), Ev.bind h1 (evT rfl (Ev.bind rs (evF d1 (Ev.bind hc (sk _ _ (by simp [c1]) ?_))))), Ev.bind h2 (evT rfl (Ev.bind ri (evF d1 (Ev.bind hp (ik _ _ (by simp [c1]) ?_)))))⟩
          · rw [e1, e2]; exact Ev.bind a (Ev.bind sA (evF u1 (evN rfl)))
          · rw [e1, e2]; exact Ev.bind b (Ev.bind iR (evT (by omega) (evN rfl)))
        · have u1 : ((n0 * n0 : Nat) : Int) > 4 * ((n0 : Int) - 1) := by
            have key : ∀ m : Fin 21, m.val ≠ 2 → ((m.val * m.val : Nat) : Int) > 4 * ((m.val : Int) - 1) := by decide
            exact key ⟨n0, by omega⟩ q
          have e3 : (wrap64 ((A : Int) - (Z2 : Int)) == 0) = ((A : Int) == (Z2 : Int)) := by
            rw [wid (by omega) (by omega)]
            by_cases z : A = Z2
            · subst z; simp
            · have z1 : ¬ ((A : Int) - (Z2 : Int) = 0) := by omega
              have z2 : ¬ ((A : Int) = (Z2 : Int)) := by omega
              rw [beq_eq_false_iff_ne.2 z1, beq_eq_false_iff_ne.2 z2]
          refine ⟨(((A : Int) == (Z2 : Int)), 0), Ev.bind h1 (evT rfl (Ev.bind rs (evF d1 (Ev.bind hc (sk _ _ (by simp [c1]) ?_))))), Ev.bind h2 (evT rfl (Ev.bind ri (evF d1 (Ev.bind hp (ik _ _ (by simp [c1]) ?_)))))⟩
          · rw [e1, e2]; exact Ev.bind a (Ev.bind sA (evT u1 (Ev.bind sZ2 (evN (by rw [e3])))))
          · rw [e1, e2]; exact Ev.bind b (Ev.bind iR (evF (by omega) (Ev.bind iR2 (evN rfl))))
      · exact ⟨(false, 5), Ev.bind h1 (evT rfl (Ev.bind rs (evF d1 (Ev.bind hc (sj _ (by simp [c1])))))), Ev.bind h2 (evT rfl (Ev.bind ri (evF d1 (Ev.bind hp (ij _ (by simp [c1]))))))⟩
  · rw [Bool.eq_false_iff.2 h] at h1 h2
    exact ⟨(false, 1), Ev.bind h1 (evF (by simp) (evN rfl)), Ev.bind h2 (evF (by simp) (evN rfl))⟩
theorem FnExactIsRamanujan (n : Int) (E : List (List Int)) (hn : (Lit.int .i64 n).wf = true) (hE : E.length ≤ 9223372036854775807) (ha : ∀ l ∈ E, l.length ≤ 9223372036854775807 ∧ ∀ x ∈ l, (Lit.int .i64 x).wf = true) : ∃ k, laws_FnExactIsRamanujan.f k n E = some true := by
  apply Ev.rounds
  unfold laws_FnExactIsRamanujan.f
  obtain ⟨t, ht, hp⟩ := szGraph n E hE (fun l hl => (ha l hl).1)
  refine Ev.bind ht ?_
  rcases hp with hp | ⟨_, _, h1, h2⟩
  · exact evT hp (evN rfl)
  · refine evF (by omega) ?_
    have hG := toGraph n E h1 h2
    obtain ⟨⟨b, c⟩, hs, hi⟩ := ram_both n E h1
    refine Ev.bind hG (Ev.bind hs (Ev.bind hG (Ev.bind hi (evF (by simp) ?_))))
    refine Ev.step (fun _ => rfl) (evF (by simp) (Ev.bind hG (Ev.bind (eqGraph_self n E h1 h2) (evT rfl (evN rfl)))))
end Go.Proofs.Ytehdlnnminaekaa.Q
end
section
namespace Go.Proofs.Ytehdlnnminaekaa.Gr
open Go.ChangeShapes Go.WideShapes Go.ChangeAt Go.RowKit Go.Deep Go.Proofs.YtehdlnnminaekaaW.PrintWords
set_option linter.unusedVariables false
theorem rows_C {w : World} {a : Addr} {len cap : Nat} {A : Nat → Option Addr} {L C : Nat → Nat} {Z : Nat → List Int} (hl : len ≤ cap) (hm : cap ≤ maxLen)
    (h : ∀ r, r < cap → w.cell? (a.add r) = some (.slice (A r) (L r) (C r)) ∧ L r ≤ C r ∧ C r ≤ maxLen ∧ (Z r).length = C r ∧ (∀ n ∈ Z r, (Lit.int .i64 n).wf = true) ∧ (A r = none → C r = 0) ∧
        ∀ a', A r = some a' → 0 ≤ a'.block ∧ ∀ c, c < C r → w.cell? (a'.add c) = some (.int .i64 ((Z r).getD c 0))) :
    ∃ ls : List (List Int), ls.length = len ∧ Kd.C (Kd.slice 2 (Kd.int .i64)) w (some a) ls.length ls ∧ ∀ l ∈ ls, l.length ≤ maxLen ∧ ∀ n ∈ l, (Lit.int .i64 n).wf = true := by
  refine ⟨(List.range len).map fun r => (Z r).take (L r), by simp, ?_, ?_⟩
  · simp only [maxLen] at hm
    refine ⟨by simp, by simp; omega, fun _ => ⟨a, rfl, fun j p hj => ?_⟩⟩
    have hj1 : j < len := by
      have := (List.getElem?_eq_some_iff.1 hj).1
      simpa using this
    have hp : p = (Z j).take (L j) := by
      have : ((List.range len).map fun r => (Z r).take (L r))[j]? = some ((Z j).take (L j)) := by simp [hj1]
      rw [this] at hj
      exact (Option.some.inj hj).symm
    subst hp
    obtain ⟨h1, h2, h3, h4, h5, h6, h7⟩ := h j (by omega)
    have hl1 : ((Z j).take (L j)).length = L j := by rw [List.length_take]; omega
    refine ⟨[.slice (A j) (L j) (C j)], rfl, ?_, ?_⟩
    · refine ⟨A j, C j, by rw [hl1], by rw [hl1]; exact h2, ?_⟩
      simp only [maxLen] at h3
      refine ⟨rfl, by rw [hl1]; omega, fun hpos => ?_⟩
      rcases ha : A j with _ | a'
      · have := h6 ha; omega
      · refine ⟨a', rfl, fun i x hi => ⟨[.int .i64 x], rfl, rfl, fun q u hu => ?_⟩⟩
        have hi1 : i < L j := by have := (List.getElem?_eq_some_iff.1 hi).1; omega
        have hx : (Z j).getD i 0 = x := by
          rw [List.getElem?_take] at hi
          rw [if_pos hi1] at hi
          rw [List.getD_eq_getElem?_getD, hi]; rfl
        cases q with
        | zero =>
          simp only [List.getElem?_cons_zero, Option.some.injEq] at hu
          subst hu
          have := (h7 a' ha).2 i (by omega)
          rw [hx] at this
          simpa [show (Kd.int .i64).sz = 1 from rfl] using this
        | succ q => simp at hu
    · intro i u hu
      cases i with
      | zero =>
        simp only [List.getElem?_cons_zero, Option.some.injEq] at hu
        subst hu
        simpa [show (Kd.slice 2 (Kd.int .i64)).sz = 1 from rfl] using h1
      | succ i => simp at hu
  · intro l hl1
    simp only [List.mem_map, List.mem_range] at hl1
    obtain ⟨r, hr, rfl⟩ := hl1
    obtain ⟨h1, h2, h3, h4, h5, h6, h7⟩ := h r (by omega)
    exact ⟨by rw [List.length_take]; omega, fun n hn => h5 n (List.mem_of_mem_take hn)⟩
theorem open_rows {H : Type} {enc : TypeId × Value → H} {P : Program} {w : World} {held : Bool} {t e : TypeId} {fuel : Nat} {v : Value} {x : DataW H × List MemPlace} (ht : P.underlying t = some (.slice e)) (he : P.underlying e = some (.slice 2)) (hq : P.underlying 2 = some (.int .i64))
    (ce : P.cellsOf e = 1) (cq : P.cellsOf 2 = 1) (h : DataW.trod enc P w 0 (fun _ => true) held fuel t [v] = some x) :
    ∃ (A : Option Addr) (cap : Nat) (ls : List (List Int)), v = .slice A ls.length cap ∧ ls.length ≤ cap ∧ cap ≤ maxLen ∧ Kd.C (Kd.slice 2 (Kd.int .i64)) w A ls.length ls ∧ ∀ l ∈ ls, l.length ≤ maxLen ∧ ∀ n ∈ l, (Lit.int .i64 n).wf = true := by
  rcases open_int_rows ht he hq ce cq h with ⟨hcs, _⟩ | ⟨a, len, cap, A, L, C, Z, hcs, _, hl, hm, _, hr⟩
  · obtain rfl : v = .slice none 0 0 := by simpa using hcs
    exact ⟨none, 0, [], rfl, by simp, by simp, Kd.C_nil _ _, by simp⟩
  · obtain rfl : v = .slice (some a) len cap := by simpa using hcs
    obtain ⟨ls, rfl, hC, hall⟩ := rows_C hl hm hr
    exact ⟨some a, cap, ls, rfl, hl, hm, hC, hall⟩
theorem open_graph {H : Type} {enc : TypeId × Value → H} {P : Program} {w : World} {held : Bool} {r : Reach} {b0 : Nat} {t e q : TypeId} {f0 f1 : Field} {v : Value} {d : DataW H} {p : List MemPlace} (hs : P.underlying t = some (.struct #[f0, f1])) (h0 : f0.type = 2) (h1 : f1.type = e)
    (he : P.underlying e = some (.slice q)) (hq : P.underlying q = some (.slice 2)) (hi : P.underlying 2 = some (.int .i64)) (hone : oneCellFields P #[f0, f1] = true) (hC : P.cellsOf t = 2) (cq : P.cellsOf q = 1) (ci : P.cellsOf 2 = 1)
    (hv : Value.okWide P w r b0 t v) (h : DataW.Trod enc P w 0 (fun _ => true) held t v d p) :
    ∃ (n : Int) (A : Option Addr) (cap : Nat) (ls : List (List Int)), v = .agg #[.int .i64 n, .slice A ls.length cap] ∧ (Lit.int .i64 n).wf = true ∧ ls.length ≤ cap ∧ ls.length ≤ 9223372036854775807 ∧ Kd.C (Kd.slice 2 (Kd.int .i64)) w A ls.length ls ∧ ∀ l ∈ ls, l.length ≤ 9223372036854775807 ∧ ∀ n ∈ l, (Lit.int .i64 n).wf = true := by
  obtain ⟨v0, v1, y0, y1, n, rfl, rfl, rfl, t0, t1⟩ := Joins.open_agg2 hs hone hC hv h
  subst h1
  rw [h0] at t0
  obtain ⟨z, hz, _, hw⟩ := DataW.trod_int hi t0
  obtain rfl : v0 = .int .i64 z := by simpa using hz
  obtain ⟨A, cap, ls, rfl, hl, hm, hC1, hall⟩ := open_rows he hq hi cq ci t1
  simp only [maxLen] at hm hall
  exact ⟨z, A, cap, ls, rfl, hw, hl, by omega, hC1, hall⟩
end Go.Proofs.Ytehdlnnminaekaa.Gr
end
