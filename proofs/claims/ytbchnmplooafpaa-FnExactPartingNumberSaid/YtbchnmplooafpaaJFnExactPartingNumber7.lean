/- Words, what the functions that FnExactPartingNumber reaches compute, and the plain laws on it; part 7. -/
import Derived.Deep.Matrix
import Derived.Lib.SmallJoins
import Derived.WalkKit
import Derived.ProofKit
import Derived.OpenShut
import Derived.ChangeOld
import Derived.Below
import Derived.SizedLaws
import Derived.Test.YtbchnmplooafpaaJFnExactPartingNumber6
section
namespace Go.Proofs.Ytbchnmplooafpaa.Q
open Go.RowKit Go.Proofs.Ytbchnmplooafpaa.X Go.Proofs.Ytbchnmplooafpaa.Dt Go.Proofs.YtbchnmplooafpaaW.PrintWords Go.Proofs.YtbchnmplooafpaaW.PrintLast Go.Proofs.YtbchnmplooafpaaW.PrintMore
set_option linter.unusedVariables false
theorem wrow_succ (m : Nat) (R : Nat → Int) : wrow m R ++ [wrap64 (R m)] = wrow (m + 1) R := by unfold wrow; rw [List.range_succ]; simp
theorem wrow_zero (m : Nat) : List.replicate m (0 : Int) = wrow m (fun _ => 0) := by
  apply List.ext_getElem
  · simp [wrow]
  · intro i _ _; simp [wrow]; exact w0.symm
theorem w1 : wrap64 1 = 1 := by unfold wrap64; omega
def Sml (n : Nat) (M : Nat → Nat → Int) : Prop := ∀ a, a < n → (sm n fun b => ((ee b a).natAbs : Int) + ((M a b).natAbs : Int)) ≤ 21
theorem sm_more {f : Nat → Int} (h : ∀ i, 0 ≤ f i) (r d : Nat) : sm r f ≤ sm (r + d) f := by
  induction d with
  | zero => exact Int.le_refl _
  | succ d ih => show sm r f ≤ sm (r + d) f + f (r + d); have := h (r + d); omega
theorem coefs (n : Nat) (M : Nat → Nat → Int) (h : Sml n M) : ∃ C : Nat → Nat → Int, ∀ r, r ≤ n → ∃ N, Cp r M (C r) N ∧ (sm (r + 1) fun k => ((C r k).natAbs : Int)) ≤ 21 ^ r := by
  have ex : ∀ r, ∃ c : Nat → Int, r ≤ n → ∃ N, Cp r M c N ∧ (sm (r + 1) fun k => ((c k).natAbs : Int)) ≤ 21 ^ r := by
    intro r
    by_cases hr : r ≤ n
    · obtain ⟨c, N, h1, h2⟩ := cp_exists r M 21 (by omega) (fun a ha => by
        have h3 := h a (by omega)
        have h4 := sm_more (f := fun b => ((ee b a).natAbs : Int) + ((M a b).natAbs : Int)) (fun i => by omega) r (n - r)
        rw [show r + (n - r) = n by omega] at h4
        omega)
      exact ⟨c, fun _ => ⟨N, h1, h2⟩⟩
    · exact ⟨fun _ => 0, fun q => absurd q hr⟩
  exact ⟨fun r => Classical.choose (ex r), fun r hr => Classical.choose_spec (ex r) hr⟩
theorem small_coef {n : Nat} (hn : n ≤ 8) {c : Nat → Int} (h : (sm (n + 1) fun k => ((c k).natAbs : Int)) ≤ 21 ^ n) (k : Nat) (hk : k ≤ n) : (c k).natAbs ≤ 37822859361 := by
  have h2 : (21 : Int) ^ n ≤ 21 ^ 8 := by
    have : (21 : Nat) ^ n ≤ 21 ^ 8 := Nat.pow_le_pow_right (by omega) hn
    exact_mod_cast this
  have h3 := sm_le (n := n + 1) (f := fun i => if i = k then ((c k).natAbs : Int) else 0) (g := fun i => ((c i).natAbs : Int)) (fun i _ => by
    by_cases q : i = k
    · subst q; rw [if_pos rfl]; exact Int.le_refl _
    · rw [if_neg q]; omega)
  rw [sm_one (j := k) (by omega) (fun i _ hn => by rw [if_neg hn]), if_pos rfl] at h3
  have e : (21 : Int) ^ 8 = 37822859361 := by decide
  omega
section
variable (n : Nat) (M : Nat → Nat → Int)
theorem bk_l4 (hn : n ≤ 8) (r : Nat) (hr : r < n) (now tl : List Int) (s i : Nat) (hi : i < r) (col : Nat → Int) (x9 : Int) (nx : Nat → Int) (hnx : nx i = sm r fun j => M i j * col j) (Z : List Int)
    (hZ : Ev (fun k => spec_l01Berkowitz.l3 k (wmat n M) now (r : Int) tl (wrow r col) (s : Int) x9 (wrow (i + 1) nx) ((i + 1 : Nat) : Int)) Z) (d : Nat) : ∀ j : Nat, j + d = r →
    Ev (fun k => spec_l01Berkowitz.l4 k (wmat n M) now (r : Int) tl (wrow r col) (s : Int) x9 (wrow i nx) (i : Int) (wrap64 (sm j fun j => M i j * col j)) (j : Int)) Z := by
  induction d with
  | zero =>
    intro j hj; obtain rfl : j = r := by omega
    refine Ev.step (fun _ => rfl) (evF (by omega) (evT (by rw [wrow_length]; omega) ?_))
    rw [← hnx, wrow_succ, wnat (n := n) (by omega) (by omega)]; exact hZ
  | succ d ih =>
    intro j hj
    refine Ev.step (fun _ => rfl) (evT (by omega) (evT (by omega) (evT (by rw [wmat_length]; omega) (evT (by omega) (evT (by rw [wmat_at n M i (by omega), wrow_length]; omega) (evT (by rw [wrow_length]; omega) ?_))))))
    rw [wmat_at n M i (by omega), wrow_at n _ j (by omega), wrow_at r _ j (by omega), wr_mul, wr_add, wnat (n := n) (by omega) (by omega)]
    exact ih (j + 1) (by omega)
theorem bk_l3 (hn : n ≤ 8) (r : Nat) (hr : r < n) (now tl : List Int) (s : Nat) (hs : s < 8) (htl : tl.length ≤ 100) (col nx : Nat → Int) (hnx : ∀ i, i < r → nx i = sm r fun j => M i j * col j) (Z : List Int)
    (hZ : Ev (fun k => spec_l01Berkowitz.l2 k (wmat n M) now (r : Int) (tl ++ [wrap64 (- sm r fun i => M r i * col i)]) (wrow r nx) ((s + 1 : Nat) : Int)) Z) (d : Nat) : ∀ i : Nat, i + d = r →
    Ev (fun k => spec_l01Berkowitz.l3 k (wmat n M) now (r : Int) tl (wrow r col) (s : Int) (wrap64 (sm i fun i => M r i * col i)) (wrow i nx) (i : Int)) Z := by
  induction d with
  | zero =>
    intro i hi; obtain rfl : i = r := by omega
    refine Ev.step (fun _ => rfl) (evF (by omega) (evT (by omega) ?_))
    rw [wr_neg, wnat (i := s) (n := 8) (by omega) (by omega)]; exact hZ
  | succ d ih =>
    intro i hi
    refine Ev.step (fun _ => rfl) (evT (by omega) (evT (by omega) (evT (by rw [wmat_length]; omega) (evT (by omega) (evT (by rw [wmat_at n M r hr, wrow_length]; omega) (evT (by rw [wrow_length]; omega) ?_))))))
    rw [wmat_at n M r hr, wrow_at n _ i (by omega), wrow_at r _ i (by omega), wr_mul, wr_add]
    have h := bk_l4 n M hn r hr now tl s i (by omega) col (wrap64 (sm (i + 1) fun i => M r i * col i)) nx (hnx i (by omega)) Z (ih (i + 1) (by omega)) r 0 (by omega)
    rw [show sm 0 (fun j => M i j * col j) = 0 from rfl, w0] at h
    exact h
theorem bk_l2 (hn : n ≤ 8) (r : Nat) (hr : r < n) (now : List Int) (Z : List Int)
    (hZ : Ev (fun k => spec_l01Berkowitz.l5 k (wmat n M) now (r : Int) (wrow (r + 2) (turn r M)) (wrow (r + 2) (fun _ => 0)) 0) Z) (d : Nat) : ∀ s : Nat, s + d = r →
    Ev (fun k => spec_l01Berkowitz.l2 k (wmat n M) now (r : Int) (wrow (s + 2) (turn r M)) (wrow r (colI r M (fun a => M a r) s)) (s : Int)) Z := by
  induction d with
  | zero =>
    intro s hs; obtain rfl : s = r := by omega
    have hw : wrap64 ((s : Int) + 2) = ((s + 2 : Nat) : Int) := by rw [wid (by omega) (by omega)]; omega
    refine Ev.step (fun _ => rfl) (evF (by omega) ?_)
    rw [hw, Int.toNat_natCast, wrow_zero]
    exact evT (by omega) (evT (by omega) hZ)
  | succ d ih =>
    intro s hs
    have h := ih (s + 1) (by omega)
    refine Ev.step (fun _ => rfl) (evT (by omega) ?_)
    have h3 := bk_l3 n M hn r hr now (wrow (s + 2) (turn r M)) s (by omega) (by rw [wrow_length]; omega) (colI r M (fun a => M a r) s) (colI r M (fun a => M a r) (s + 1)) (fun i _ => rfl) Z (by
      have e : wrow (s + 2) (turn r M) ++ [wrap64 (- sm r fun i => M r i * colI r M (fun a => M a r) s i)] = wrow (s + 1 + 2) (turn r M) := wrow_succ (s + 2) (turn r M)
      rw [e]; exact h) r 0 (by omega)
    rw [show sm 0 (fun i => M r i * colI r M (fun a => M a r) s i) = 0 from rfl, w0] at h3
    exact h3
theorem bk_l1 (hn : n ≤ 8) (r : Nat) (hr : r < n) (now tl : List Int) (Z : List Int)
    (hZ : Ev (fun k => spec_l01Berkowitz.l2 k (wmat n M) now (r : Int) tl (wrow r (fun a => M a r)) 0) Z) (d : Nat) : ∀ i : Nat, i + d = r →
    Ev (fun k => spec_l01Berkowitz.l1 k (wmat n M) now (r : Int) tl (wrow i (fun a => M a r)) (i : Int)) Z := by
  induction d with
  | zero =>
    intro i hi; obtain rfl : i = r := by omega
    exact Ev.step (fun _ => rfl) (evF (by omega) hZ)
  | succ d ih =>
    intro i hi
    refine Ev.step (fun _ => rfl) (evT (by omega) (evT (by omega) (evT (by rw [wmat_length]; omega) (evT (by omega) (evT (by rw [wmat_at n M i (by omega), wrow_length]; omega) (evT (by rw [wrow_length]; omega) ?_))))))
    have e : wrow i (fun a => M a r) ++ [rd (rd_L1 (wmat n M) (i : Int)) (r : Int)] = wrow (i + 1) (fun a => M a r) := by
      rw [wmat_at n M i (by omega), wrow_at n _ r hr]; exact wrow_succ i (fun a => M a r)
    rw [e, wnat (n := n) (by omega) (by omega)]
    exact ih (i + 1) (by omega)
theorem bk_l6 (hn : n ≤ 8) (r : Nat) (hr : r < n) (c D : Nat → Int) (i : Nat) (hi : i < r + 2) (hD : D i = sm (r + 1) fun p => if p ≤ i then turn r M (i - p) * c p else 0) (Z : List Int)
    (hZ : Ev (fun k => spec_l01Berkowitz.l5 k (wmat n M) (wrow (r + 1) c) (r : Int) (wrow (r + 2) (turn r M)) (wrow (r + 2) (fun q => if q < i + 1 then D q else 0)) ((i + 1 : Nat) : Int)) Z) (d : Nat) : ∀ j : Nat, j + d = r + 1 →
    (sm j fun p => if p ≤ i then turn r M (i - p) * c p else 0) = (sm j fun p => if p ≤ i then turn r M (i - p) * c p else 0) →
    Ev (fun k => spec_l01Berkowitz.l6 k (wmat n M) (wrow (r + 1) c) (r : Int) (wrow (r + 2) (turn r M)) (wrow (r + 2) (fun q => if q < i then D q else if q = i then (sm j fun p => if p ≤ i then turn r M (i - p) * c p else 0) else 0)) (i : Int) (j : Int)) Z := by
  have fin : ∀ v, v = D i → wrow (r + 2) (fun q => if q < i then D q else if q = i then v else 0) = wrow (r + 2) (fun q => if q < i + 1 then D q else 0) := by
    intro v hv
    refine wrow_congr fun q _ => ?_
    by_cases q1 : q < i
    · rw [if_pos q1, if_pos (by omega)]
    · rw [if_neg q1]
      by_cases q2 : q = i
      · rw [if_pos q2, if_pos (by omega), hv, q2]
      · rw [if_neg q2, if_neg (by omega)]
  induction d with
  | zero =>
    intro j hj _; obtain rfl : j = r + 1 := by omega
    refine Ev.step (fun _ => rfl) (evF (by rw [wrow_length]; omega) ?_)
    rw [fin _ hD.symm, wnat (n := r + 2) (by omega) (by omega)]; exact hZ
  | succ d ih =>
    intro j hj _
    refine Ev.step (fun _ => rfl) (evT (by rw [wrow_length]; omega) ?_)
    by_cases c1 : j ≤ i
    · have h := ih (j + 1) (by omega) rfl
      have hij : wrap64 ((i : Int) - (j : Int)) = ((i - j : Nat) : Int) := by rw [wid (by omega) (by omega)]; omega
      refine evT (by omega) (evT (by omega) (evT (by rw [wrow_length]; omega) ?_))
      rw [hij]
      refine evT (by omega) (evT (by rw [wrow_length]; omega) (evT (by omega) ?_))
      rw [wrow_at (r + 2) _ i hi, wrow_at (r + 2) _ (i - j) (by omega), wrow_at (r + 1) _ j (by omega), wr_mul, wr_add, Int.toNat_natCast, wrow_set, wnat (n := r + 2) (by omega) (by omega)]
      have e : wrow (r + 2) (fun q => if q = i then (if i < i then D i else if i = i then (sm j fun p => if p ≤ i then turn r M (i - p) * c p else 0) else 0) + turn r M (i - j) * c j else if q < i then D q else if q = i then (sm j fun p => if p ≤ i then turn r M (i - p) * c p else 0) else 0) = wrow (r + 2) (fun q => if q < i then D q else if q = i then (sm (j + 1) fun p => if p ≤ i then turn r M (i - p) * c p else 0) else 0) := by
        refine wrow_congr fun q _ => ?_
        by_cases q2 : q = i
        · subst q2
          rw [if_pos rfl, if_neg (by omega), if_pos rfl, if_neg (by omega), if_pos rfl]
          show _ = wrap64 ((sm j fun p => if p ≤ q then turn r M (q - p) * c p else 0) + if j ≤ q then turn r M (q - j) * c j else 0)
          rw [if_pos c1]
        · rw [if_neg q2]
          by_cases q3 : q < i
          · rw [if_pos q3, if_pos q3]
          · rw [if_neg q3, if_neg q2, if_neg q3, if_neg q2]
      rw [e]; exact h
    · refine evF (by omega) ?_
      have tail : ∀ m, (sm (j + m) fun p => if p ≤ i then turn r M (i - p) * c p else 0) = sm j fun p => if p ≤ i then turn r M (i - p) * c p else 0 := by
        intro m
        induction m with
        | zero => rfl
        | succ m im =>
          show (sm (j + m) fun p => if p ≤ i then turn r M (i - p) * c p else 0) + (if j + m ≤ i then turn r M (i - (j + m)) * c (j + m) else 0) = _
          rw [im, if_neg (by omega), Int.add_zero]
      have := tail (d + 1)
      rw [hj] at this
      rw [fin _ (by rw [hD, this]), wnat (n := r + 2) (by omega) (by omega)]; exact hZ
theorem bk_l5 (hn : n ≤ 8) (r : Nat) (hr : r < n) (c D : Nat → Int) (hD : ∀ i, i < r + 2 → D i = sm (r + 1) fun p => if p ≤ i then turn r M (i - p) * c p else 0) (Z : List Int)
    (hZ : Ev (fun k => spec_l01Berkowitz.l0 k (wmat n M) (wrow (r + 2) D) ((r + 1 : Nat) : Int)) Z) (d : Nat) : ∀ i : Nat, i + d = r + 2 →
    Ev (fun k => spec_l01Berkowitz.l5 k (wmat n M) (wrow (r + 1) c) (r : Int) (wrow (r + 2) (turn r M)) (wrow (r + 2) (fun q => if q < i then D q else 0)) (i : Int)) Z := by
  induction d with
  | zero =>
    intro i hi; obtain rfl : i = r + 2 := by omega
    refine Ev.step (fun _ => rfl) (evF (by rw [wrow_length]; omega) ?_)
    rw [wnat (n := n) (by omega) (by omega), wrow_congr (R' := D) (fun q hq => by rw [if_pos hq])]; exact hZ
  | succ d ih =>
    intro i hi
    refine Ev.step (fun _ => rfl) (evT (by rw [wrow_length]; omega) ?_)
    have h := bk_l6 n M hn r hr c D i (by omega) (hD i (by omega)) Z (ih (i + 1) (by omega)) (r + 1) 0 (by omega) rfl
    have e : wrow (r + 2) (fun q => if q < i then D q else if q = i then (sm 0 fun p => if p ≤ i then turn r M (i - p) * c p else 0) else 0) = wrow (r + 2) (fun q => if q < i then D q else 0) := by
      refine wrow_congr fun q _ => ?_
      by_cases q1 : q < i
      · rw [if_pos q1, if_pos q1]
      · rw [if_neg q1, if_neg q1]
        by_cases q2 : q = i
        · rw [if_pos q2]; rfl
        · rw [if_neg q2]
    rw [e] at h; exact h
theorem bk_l0 (hn : n ≤ 8) (C : Nat → Nat → Int) (hC : ∀ r, r ≤ n → ∃ N, Cp r M (C r) N ∧ (sm (r + 1) fun k => ((C r k).natAbs : Int)) ≤ 21 ^ r) (Z : List Int) (hZ : Ev (fun k => spec_l01Trim.f k (wrow (n + 1) (C n))) Z) (d : Nat) : ∀ r : Nat, r + d = n →
    Ev (fun k => spec_l01Berkowitz.l0 k (wmat n M) (wrow (r + 1) (C r)) (r : Int)) Z := by
  induction d with
  | zero =>
    intro r hr; obtain rfl : r = n := by omega
    exact Ev.step (fun _ => rfl) (evF (by rw [wmat_length]; omega) (Ev.bind hZ (evN rfl)))
  | succ d ih =>
    intro r hr
    have h := ih (r + 1) (by omega)
    obtain ⟨N1, c1, _⟩ := hC r (by omega)
    obtain ⟨N2, c2, _⟩ := hC (r + 1) (by omega)
    refine Ev.step (fun _ => rfl) (evT (by rw [wmat_length]; omega) (evT (by omega) (evT (by rw [wmat_at n M r (by omega), wrow_length]; omega) ?_)))
    have e : ([1, wrap64 (-(rd (rd_L1 (wmat n M) (r : Int)) (r : Int)))] : List Int) = wrow 2 (turn r M) := by
      rw [wmat_at n M r (by omega), wrow_at n _ r (by omega), wr_neg]
      show _ = [wrap64 1, wrap64 (- M r r)]
      rw [w1]
    rw [e]
    have s5 := bk_l5 n M hn r (by omega) (C r) (C (r + 1)) (fun i hi => berkowitz c1 c2 i (by omega)) Z h (r + 2) 0 (by omega)
    have e0 : wrow (r + 2) (fun q => if q < 0 then C (r + 1) q else 0) = wrow (r + 2) (fun _ => 0) := wrow_congr fun q _ => by rw [if_neg (by omega)]
    rw [e0] at s5
    have s2 := bk_l2 n M hn r (by omega) (wrow (r + 1) (C r)) Z s5 r 0 (by omega)
    exact bk_l1 n M hn r (by omega) (wrow (r + 1) (C r)) (wrow 2 (turn r M)) Z s2 r 0 (by omega)
theorem fl_l1 (hn : n ≤ 8) (c : Nat → Int) (k : Nat) (hk : 1 ≤ k) (hkn : k ≤ n) (H : Nat → Nat → Int) (Z : List Int)
    (hZ : Ev (fun q => (impl_rowsTimes.f q (wmat n M) (wmat n (fun a b => H a b + c (k - 1) * ee b a))).bind fun t119 => ((impl_trace.f q t119).bind fun t122 => (if (k : Int) = 0 then (none) else (if (wrow k c).length < 17592186044416 then (impl_determinant.l0 q (wmat n M) (wrow k c ++ [wrap64 (Int.tdiv (wrap64 (-t122)) (k : Int))]) (wmat n (fun a b => H a b + c (k - 1) * ee b a)) (wrap64 ((k : Int) + 1))) else (none))))) Z) (d : Nat) : ∀ i : Nat, i + d = n →
    Ev (fun q => impl_determinant.l1 q (wmat n M) (wrow k c) (wmat n (fun a b => if a < i ∧ b = a then H a b + c (k - 1) else H a b)) (k : Int) (n : Int) (i : Int)) Z := by
  induction d with
  | zero =>
    intro i hi; obtain rfl : i = n := by omega
    have e : wmat i (fun a b => if a < i ∧ b = a then H a b + c (k - 1) else H a b) = wmat i (fun a b => H a b + c (k - 1) * ee b a) := by
      refine wmat_congr fun a b ha _ => ?_
      unfold ee
      by_cases q : b = a
      · rw [if_pos ⟨ha, q⟩, if_pos q.symm, Int.mul_one]
      · rw [if_neg (fun z => q z.2), if_neg (fun z => q z.symm), Int.mul_zero, Int.add_zero]
    rw [e]
    exact Ev.step (fun _ => rfl) (evF (by omega) hZ)
  | succ d ih =>
    intro i hi
    have hw : wrap64 ((k : Int) - 1) = ((k - 1 : Nat) : Int) := by rw [wid (by omega) (by omega)]; omega
    refine Ev.step (fun _ => rfl) (evT (by omega) (evT (by omega) (evT (by rw [wmat_length]; omega) (evT (by rw [wmat_at n _ i (by omega), wrow_length]; omega) ?_))))
    rw [hw]
    refine evT (by omega) (evT (by rw [wrow_length]; omega) ?_)
    have e1 : wrap64 (rd (rd_L1 (wmat n (fun a b => if a < i ∧ b = a then H a b + c (k - 1) else H a b)) (i : Int)) (i : Int) + rd (wrow k c) ((k - 1 : Nat) : Int)) = wrap64 (H i i + c (k - 1)) := by
      rw [wmat_at n _ i (by omega), wrow_at n _ i (by omega), wrow_at k _ (k - 1) (by omega), wr_add, if_neg (by omega)]
    rw [e1, Int.toNat_natCast, wmat_put n _ i i _ (by omega), wnat (n := n) (by omega) (by omega)]
    have e2 : wmat n (fun a b => if a = i ∧ b = i then H i i + c (k - 1) else if a < i ∧ b = a then H a b + c (k - 1) else H a b) = wmat n (fun a b => if a < i + 1 ∧ b = a then H a b + c (k - 1) else H a b) := by
      refine wmat_congr fun a b _ _ => ?_
      by_cases q : a = i ∧ b = i
      · rw [if_pos q, if_pos ⟨by omega, by rw [q.1, q.2]⟩, q.1, q.2]
      · rw [if_neg q]
        by_cases q2 : a < i ∧ b = a
        · rw [if_pos q2, if_pos ⟨by omega, q2.2⟩]
        · rw [if_neg q2, if_neg (fun z => by
            by_cases q3 : a = i
            · exact q ⟨q3, by rw [z.2, q3]⟩
            · exact q2 ⟨by omega, z.2⟩)]
    rw [e2]; exact ih (i + 1) (by omega)
theorem fl_l0 (hn : n ≤ 8) (c : Nat → Int) (N : Nat → Nat → Nat → Int) (hc : Cp n M c N) (hs : (sm (n + 1) fun k => ((c k).natAbs : Int)) ≤ 21 ^ n) (Z : List Int) (hZ : Ev (fun k => impl_trimmed.f k (wrow (n + 1) c)) Z) (d : Nat) : ∀ k : Nat, k + d = n + 1 → 1 ≤ k →
    Ev (fun q => impl_determinant.l0 q (wmat n M) (wrow k c) (wmat n (nw n M c (k - 1))) (k : Int)) Z := by
  induction d with
  | zero =>
    intro k hk _; obtain rfl : k = n + 1 := by omega
    exact Ev.step (fun _ => rfl) (evF (by rw [wmat_length]; omega) (Ev.bind hZ (evN rfl)))
  | succ d ih =>
    intro k hk h1
    have h := ih (k + 1) (by omega) (by omega)
    rw [Nat.add_sub_cancel] at h
    have hb := small_coef hn hs k (by omega)
    have hlv := leverrier hc k (by omega)
    refine Ev.step (fun _ => rfl) (evT (by rw [wmat_length]; omega) (Ev.bind (rowsTimes_ n (by omega) M (nw n M c (k - 1))) ?_))
    rw [wmat_length]
    have enw : (fun a b => mul n M (nw n M c (k - 1)) a b + c (k - 1) * ee b a) = nw n M c k := by
      obtain ⟨m, rfl⟩ : ∃ m, k = m + 1 := ⟨k - 1, by omega⟩
      funext a b; rw [Nat.add_sub_cancel]; rfl
    have l1 := fl_l1 n M hn c k h1 (by omega) (mul n M (nw n M c (k - 1))) Z ?_ n 0 (by omega)
    · have e : wmat n (fun a b => if a < 0 ∧ b = a then mul n M (nw n M c (k - 1)) a b + c (k - 1) else mul n M (nw n M c (k - 1)) a b) = wmat n (mul n M (nw n M c (k - 1))) := wmat_congr fun a b _ _ => by rw [if_neg (fun z => by omega)]
      rw [e] at l1; exact l1
    · rw [enw]
      refine Ev.bind (rowsTimes_ n (by omega) M (nw n M c k)) (Ev.bind (trace_ n (by omega) _) (evF (by omega) (evT (by rw [wrow_length]; omega) ?_)))
      have et : (sm n fun l => mul n M (nw n M c k) l l) = - ((k : Int) * c k) := hlv
      have ev1 : wrap64 (Int.tdiv (wrap64 (- wrap64 (sm n fun l => mul n M (nw n M c k) l l))) (k : Int)) = wrap64 (c k) := by
        have hk8 : (k : Int) ≤ 8 := by omega
        have b1 : (k : Int) * c k ≤ 8 * 37822859361 ∧ -(8 * 37822859361) ≤ (k : Int) * c k := by
          have : ((k : Int) * c k).natAbs ≤ 8 * 37822859361 := by
            rw [Int.natAbs_mul]
            exact Nat.mul_le_mul (by omega) hb
          omega
        rw [wr_neg, et, Int.neg_neg, wid (x := (k : Int) * c k) (by omega) (by omega), Int.mul_tdiv_cancel_left _ (by omega)]
      rw [ev1, wrow_succ, wnat (i := k) (n := n + 1) (by omega) (by omega)]
      exact h
end
end Go.Proofs.Ytbchnmplooafpaa.Q
end
section
namespace Go.Proofs.Ytbchnmplooafpaa.X
open Go.RowKit Go.Proofs.YtbchnmplooafpaaW.PrintWords Go.Proofs.YtbchnmplooafpaaW.PrintLast Go.Proofs.YtbchnmplooafpaaW.PrintMore
attribute [local go_sem] w13z w15z max_two min_two w11z w12z w14z w16z
set_option linter.unusedVariables false
set_option linter.unusedSimpArgs false
end Go.Proofs.Ytbchnmplooafpaa.X
end
section
namespace Go.Proofs.Ytbchnmplooafpaa.Q
open Go.RowKit Go.Proofs.Ytbchnmplooafpaa.X Go.Proofs.YtbchnmplooafpaaW.PrintWords Go.Proofs.YtbchnmplooafpaaW.PrintLast Go.Proofs.YtbchnmplooafpaaW.PrintMore
set_option linter.unusedVariables false
theorem tmod2 (m : Nat) : Int.tmod (m : Int) 2 = ((m % 2 : Nat) : Int) := (Int.ofNat_tmod m 2).symm
end Go.Proofs.Ytbchnmplooafpaa.Q
end
section
namespace Go.Proofs.Ytbchnmplooafpaa.X
open Go.RowKit Go.Proofs.YtbchnmplooafpaaW.PrintWords Go.Proofs.YtbchnmplooafpaaW.PrintLast Go.Proofs.YtbchnmplooafpaaW.PrintMore
attribute [local go_sem] w13z w15z max_two min_two w11z w12z w14z w16z
set_option linter.unusedVariables false
set_option linter.unusedSimpArgs false
end Go.Proofs.Ytbchnmplooafpaa.X
end
section
namespace Go.Proofs.Ytbchnmplooafpaa.X
open Go.RowKit Go.Proofs.YtbchnmplooafpaaW.PrintWords Go.Proofs.YtbchnmplooafpaaW.PrintLast Go.Proofs.YtbchnmplooafpaaW.PrintMore
attribute [local go_sem] w13z w15z max_two min_two w11z w12z w14z w16z
set_option linter.unusedVariables false
set_option linter.unusedSimpArgs false
end Go.Proofs.Ytbchnmplooafpaa.X
end
section
namespace Go.Proofs.Ytbchnmplooafpaa.Q
open Go.RowKit Go.Proofs.Ytbchnmplooafpaa.X Go.Proofs.YtbchnmplooafpaaW.PrintWords Go.Proofs.YtbchnmplooafpaaW.PrintLast Go.Proofs.YtbchnmplooafpaaW.PrintMore
set_option linter.unusedVariables false
set_option linter.unusedSimpArgs false
def row (N : Nat) (g : Nat → Nat) : List Int := (List.range N).map fun j => (g j : Int)
def mat (N : Nat) (f : Nat → Nat → Nat) : List (List Int) := (List.range N).map fun i => row N (f i)
def bmp (f : Nat → Nat → Nat) (a b : Nat) : Nat → Nat → Nat := fun i j => f i j + (if i = a ∧ j = b then 1 else 0)
def dbl (f : Nat → Nat → Nat) (p : Nat × Nat) : Nat → Nat → Nat := bmp (bmp f p.1 p.2) p.2 p.1
def adj (P : List (Nat × Nat)) : Nat → Nat → Nat := P.foldl dbl (fun _ _ => 0)
end Go.Proofs.Ytbchnmplooafpaa.Q
end
section
namespace Go.Proofs.Ytbchnmplooafpaa.Q
open Go.RowKit Go.Proofs.Ytbchnmplooafpaa.X Go.Proofs.Ytbchnmplooafpaa.Dt Go.Proofs.YtbchnmplooafpaaW.PrintWords Go.Proofs.YtbchnmplooafpaaW.PrintLast Go.Proofs.YtbchnmplooafpaaW.PrintMore
set_option linter.unusedVariables false
theorem sm_ee (n a : Nat) : (sm n fun b => ((ee b a).natAbs : Int)) ≤ 1 := by
  by_cases h : a < n
  · rw [sm_one h (fun i _ hn => by unfold ee; rw [if_neg (fun q => hn q.symm)]; rfl)]; unfold ee; simp
  · rw [sm_zero' (fun i hi => by unfold ee; rw [if_neg (fun q => h (by omega))]; rfl)]; omega
theorem sm_bump (n : Nat) (f g : Nat → Int) (j : Nat) (v : Int) (hv : 0 ≤ v) (h : ∀ b, g b ≤ f b + if b = j then v else 0) : sm n g ≤ sm n f + v := by
  have h1 := sm_le (n := n) (f := g) (g := fun b => f b + if b = j then v else 0) (fun b _ => h b)
  rw [sm_add] at h1
  have h2 : (sm n fun b => if b = j then v else 0) ≤ v := by
    by_cases q : j < n
    · rw [sm_one q (fun i _ hn => by rw [if_neg hn]), if_pos rfl]; exact Int.le_refl _
    · rw [sm_zero' (fun i hi => by rw [if_neg (fun z => q (by omega))])]; exact hv
  omega
end Go.Proofs.Ytbchnmplooafpaa.Q
end
section
namespace Go.Proofs.Ytbchnmplooafpaa.Q
open Go.RowKit Go.Proofs.Ytbchnmplooafpaa.X Go.Proofs.Ytbchnmplooafpaa.Dt Go.Proofs.YtbchnmplooafpaaW.PrintWords Go.Proofs.YtbchnmplooafpaaW.PrintLast Go.Proofs.YtbchnmplooafpaaW.PrintMore
set_option linter.unusedVariables false
set_option linter.unusedSectionVars false
theorem wr_mulr (x y : Int) : wrap64 (x * wrap64 y) = wrap64 (x * y) := by
  obtain ⟨q, h⟩ := wr_form y
  rw [h, Int.mul_add, show x * (18446744073709551616 * q) = 18446744073709551616 * (x * q) by ac_rfl, wr_far]
theorem wr_mull (x y : Int) : wrap64 (wrap64 x * y) = wrap64 (x * y) := by rw [Int.mul_comm, wr_mulr, Int.mul_comm]
def vl (r : List Int) (j : Nat) : Int := if (j : Int) < (r.length : Int) then rd r (j : Int) else 0
theorem trim_full (l : List Int) (hl : l.length ≤ 1048576) (i : Nat) (hi : i ≤ l.length) : ∃ r : List Int, r.length ≤ i ∧ (∀ j : Nat, j < i → vl r j = rd l (j : Int)) ∧ Ev (fun k => spec_l01Trim.l0 k l (i : Int)) r ∧ Ev (fun k => impl_trimmed.l0 k (l.take i)) r := by
  have hd : ∀ i : Nat, i ≤ l.length → ((l.take i).length : Int) = i := fun i hi => by rw [List.length_take]; omega
  induction i with
  | zero =>
    refine ⟨[], by simp, fun j h => by omega, Ev.step (fun _ => rfl) (evF (by omega) (evT (by omega) (evT (by omega) (evN ?_)))), Ev.step (fun _ => rfl) (evF (by simp) (evN ?_))⟩
    · rw [show l.take ((0 : Nat) : Int).toNat = [] from rfl, own_ _ (by simp)]; rfl
    · rw [show l.take 0 = [] from rfl, clone_ _ (by simp)]; rfl
  | succ i ih =>
    have hw : wrap64 (((i + 1 : Nat) : Int) - 1) = (i : Int) := by rw [wid (by omega) (by omega)]; omega
    have hr : rd (l.take (i + 1)) (i : Int) = l[i] := by rw [rd_at _ _ (by simp; omega)]; simp
    by_cases h : l[i] = 0
    · obtain ⟨r, a0, a1, a3, a4⟩ := ih (by omega)
      refine ⟨r, by omega, fun j hj => ?_, Ev.step (fun _ => rfl) (evT (by omega) ?_), Ev.step (fun _ => rfl) (evT (by rw [hd _ hi]; omega) ?_)⟩
      · by_cases q : j = i
        · subst q
          unfold vl
          rw [if_neg (by omega), rd_at _ _ (by omega), h]
        · exact a1 j (by omega)
      · rw [hw]; exact evT (by omega) (evT (by omega) (evT (by rw [rd_at _ _ (by omega)]; exact h) a3))
      · rw [hd (i + 1) hi, hw]
        refine evT (by omega) (evT (by omega) (evT (by rw [hr]; exact h) (evT (by omega) ?_)))
        rw [Int.toNat_natCast, List.take_take, Nat.min_eq_left (by omega)]; exact a4
    · refine ⟨l.take (i + 1), by simp; omega, fun j hj => ?_, Ev.step (fun _ => rfl) (evT (by omega) ?_), Ev.step (fun _ => rfl) (evT (by rw [hd _ hi]; omega) ?_)⟩
      · unfold vl
        rw [if_pos (by rw [List.length_take]; omega), rd_at _ _ (by rw [List.length_take]; omega), rd_at _ _ (by omega)]; simp
      · rw [hw, Int.toNat_natCast, own_ _ (by simp; omega)]; exact evT (by omega) (evT (by omega) (evF (by rw [rd_at _ _ (by omega)]; exact h) (evT (by omega) (evT (by omega) (evN rfl)))))
      · rw [hd (i + 1) hi, hw, clone_ _ (by simp; omega)]
        exact evT (by omega) (evT (by omega) (evF (by rw [hr]; exact h) (evN rfl)))
theorem det_full (n : Nat) (M : Nat → Nat → Int) (hn : n ≤ 8) (hM : Sml n M) : ∃ c N, Cp n M c N ∧ ∃ r : List Int, r.length ≤ n + 1 ∧ (∀ j, j < n + 1 → vl r j = wrap64 (c j)) ∧ Ev (fun k => spec_l01Berkowitz.f k (wmat n M)) r ∧ Ev (fun k => impl_determinant.f k (wmat n M)) r := by
  obtain ⟨C, hC⟩ := coefs n M hM
  obtain ⟨N0, c0, _⟩ := hC 0 (by omega)
  obtain ⟨N, cn, hs⟩ := hC n (Nat.le_refl _)
  have o0 := c0.one
  have on := cn.one
  have hl := wrow_length (n + 1) (C n)
  obtain ⟨r, hr, hv, t1, t2⟩ := trim_full (wrow (n + 1) (C n)) (by rw [hl]; omega) (wrow (n + 1) (C n)).length (Nat.le_refl _)
  rw [List.take_of_length_le (Nat.le_refl _)] at t2
  rw [hl] at hr hv
  have e0 : ([1] : List Int) = wrow (0 + 1) (C 0) := by show [1] = [wrap64 (C 0 0)]; rw [o0, w1]
  have e1 : ([1] : List Int) = wrow 1 (C n) := by show [1] = [wrap64 (C n 0)]; rw [on, w1]
  refine ⟨C n, N, cn, r, hr, fun j hj => by rw [hv j hj, wrow_at _ _ j hj], ?_, ?_⟩
  · unfold spec_l01Berkowitz.f
    rw [e0]
    exact bk_l0 n M hn C hC r t1 n 0 (by omega)
  · unfold impl_determinant.f
    rw [wmat_length, e1]
    refine Ev.bind (square_ n (by omega)) ?_
    exact fl_l0 n M hn (C n) N cn hs r t2 n 1 (by omega) (Nat.le_refl _)
end Go.Proofs.Ytbchnmplooafpaa.Q
end
section
namespace Go.Proofs.Ytbchnmplooafpaa.Q
open Go.RowKit Go.Proofs.Ytbchnmplooafpaa.X Go.Proofs.Ytbchnmplooafpaa.Dt Go.Proofs.YtbchnmplooafpaaW.PrintWords Go.Proofs.YtbchnmplooafpaaW.PrintLast Go.Proofs.YtbchnmplooafpaaW.PrintMore
set_option linter.unusedVariables false
def ad1 (H : Nat → Nat → Int) (i j : Nat) (v : Int) : Nat → Nat → Int := fun x y => if x = i ∧ y = j then H i j + v else H x y
def lap1 (H : Nat → Nat → Int) (p : Nat × Nat) : Nat → Nat → Int := if p.1 = p.2 then H else ad1 (ad1 (ad1 (ad1 H p.1 p.1 1) p.1 p.2 (-1)) p.2 p.2 1) p.2 p.1 (-1)
def lapM (P : List (Nat × Nat)) : Nat → Nat → Int := P.foldl lap1 (fun _ _ => 0)
theorem put_ad (n : Nat) (H : Nat → Nat → Int) (i j : Nat) (v : Int) (hi : i < n) (hj : j < n) : (wmat n H).set i ((rd_L1 (wmat n H) (i : Int)).set j (wrap64 (rd (rd_L1 (wmat n H) (i : Int)) (j : Int) + v))) = wmat n (ad1 H i j v) := by
  have e : wrap64 (rd (rd_L1 (wmat n H) (i : Int)) (j : Int) + v) = wrap64 (H i j + v) := by rw [wmat_at n H i hi, wrow_at n _ j hj, wr_addl]
  rw [e, wmat_put n H i j _ hi]; rfl
theorem putX (n : Nat) (H : Nat → Nat → Int) (i j : Nat) (v : Int) (hi : i < n) (hj : j < n) : put (wmat n H) (i : Int) (j : Int) (wrap64 (rd (rd_L1 (wmat n H) (i : Int)) (j : Int) + v)) = wmat n (ad1 H i j v) := by
  unfold put; rw [Int.toNat_natCast, Int.toNat_natCast]; exact put_ad n H i j v hi hj
theorem lapStep_ (n : Nat) (H : Nat → Nat → Int) (p : Nat × Nat) (h1 : p.1 < n) (h2 : p.2 < n) (hne : p.1 ≠ p.2) : lapStep (wmat n H) (p.1 : Int) (p.2 : Int) = some (wmat n (lap1 H p)) := by
  unfold lapStep
  have l1 : (rd_L1 (wmat n H) (p.1 : Int)).length = n := by rw [wmat_at n H _ h1, wrow_length]
  have l2 : (rd_L1 (wmat n H) (p.2 : Int)).length = n := by rw [wmat_at n H _ h2, wrow_length]
  rw [if_pos (by rw [wmat_length, l1, l2]; omega)]
  have s : ∀ x y : Int, x - 1 = x + (-1) := fun x y => by omega
  dsimp only
  rw [putX n H _ _ 1 h1 h1, Int.sub_eq_add_neg, putX n _ _ _ (-1) h1 h2, putX n _ _ _ 1 h2 h2, Int.sub_eq_add_neg, putX n _ _ _ (-1) h2 h1]
  unfold lap1
  rw [if_neg hne]
theorem lapS_l1 (N : Nat) (P : List (Nat × Nat)) (g : G8 N P) (d : Nat) : ∀ (i : Nat) (H : Nat → Nat → Int), i + d = P.length → Ev (fun k => spec_l05Laplacian.l1 k (wmat N H) (i : Int) (N : Int) (edg P)) (wmat N ((P.drop i).foldl lap1 H)) := by
  have h10 := g.len
  induction d with
  | zero =>
    intro i H hi
    rw [List.drop_of_length_le (by omega)]
    exact Ev.step (fun _ => rfl) (evF (by rw [edg_length]; omega) (evN rfl))
  | succ d ih =>
    intro i H hi
    have hi2 : i < P.length := by omega
    have hb := g.ends _ (List.getElem_mem hi2)
    have ri := edg_at P i hi2
    rw [List.drop_eq_getElem_cons hi2]
    generalize P[i] = p at hb ri
    refine Ev.step (fun _ => rfl) (evT (by rw [edg_length]; omega) (evT (by omega) ?_))
    rw [ri, show ∀ a b : Int, rd [a, b] 0 = a from fun _ _ => rfl, show ∀ a b : Int, rd [a, b] 1 = b from fun _ _ => rfl]
    refine evT (by simp) (evT (by simp) ?_)
    have h := ih (i + 1) (lap1 H p) (by omega)
    rw [← wnat (n := P.length) (by omega) (by omega)] at h
    by_cases e : p.1 = p.2
    · refine evT (by omega) ?_
      have e2 : lap1 H p = H := by unfold lap1; rw [if_pos e]
      rw [List.foldl_cons]; rw [e2] at h ⊢; exact h
    · exact evF (by omega) (evB (lapStep_ N H p hb.1 hb.2 e) h)
theorem lapS_l0 (N : Nat) (hN : N ≤ 8) (E : List (List Int)) (R : List (List Int)) (hR : Ev (fun k => spec_l05Laplacian.l1 k (List.replicate N (List.replicate N 0)) 0 (N : Int) E) R) (d : Nat) : ∀ i : Nat, i + d = N → Ev (fun k => spec_l05Laplacian.l0 k (List.replicate i (List.replicate N 0)) (i : Int) (N : Int) E) R := by
  induction d with
  | zero => intro i hi; obtain rfl : i = N := by omega
            exact Ev.step (fun _ => rfl) (evF (by omega) hR)
  | succ d ih =>
    intro i hi
    refine Ev.step (fun _ => rfl) (evT (by omega) (evT (by omega) (evT (by omega) (evT (by simp; omega) ?_))))
    rw [wnat (n := N) (by omega) (by omega), Int.toNat_natCast, ← List.replicate_succ']
    exact ih (i + 1) (by omega)
theorem lapS (N : Nat) (P : List (Nat × Nat)) (g : G8 N P) : Ev (fun k => spec_l05Laplacian.f k (N : Int) (edg P)) (wmat N (lapM P)) := by
  have h8 := g.hi
  unfold spec_l05Laplacian.f
  refine lapS_l0 N h8 _ _ ?_ N 0 (by omega)
  rw [wmat_zero]
  exact lapS_l1 N P g P.length 0 _ (by omega)
end Go.Proofs.Ytbchnmplooafpaa.Q
end
section
namespace Go.Proofs.Ytbchnmplooafpaa.Q
open Go.RowKit Go.Proofs.Ytbchnmplooafpaa.X Go.Proofs.Ytbchnmplooafpaa.Dt Go.Proofs.YtbchnmplooafpaaW.PrintWords Go.Proofs.YtbchnmplooafpaaW.PrintLast Go.Proofs.YtbchnmplooafpaaW.PrintMore
set_option linter.unusedVariables false
theorem ad1_row (n : Nat) (H : Nat → Nat → Int) (i j : Nat) (v : Int) (a : Nat) : (sm n fun b => ((ad1 H i j v a b).natAbs : Int)) ≤ (sm n fun b => ((H a b).natAbs : Int)) + if a = i then (v.natAbs : Int) else 0 := by
  by_cases q : a = i
  · rw [if_pos q]
    refine sm_bump n _ _ j _ (by omega) (fun b => ?_)
    unfold ad1
    by_cases q2 : b = j
    · rw [if_pos ⟨q, q2⟩, if_pos q2, q, q2]; omega
    · rw [if_neg (fun z => q2 z.2), if_neg q2]; omega
  · rw [if_neg q, Int.add_zero]
    refine sm_le fun b _ => ?_
    unfold ad1; rw [if_neg (fun z => q z.1)]; exact Int.le_refl _
theorem lap_row (n : Nat) (Q : List (Nat × Nat)) : ∀ (H : Nat → Nat → Int) (B : Int), (∀ a, (sm n fun b => ((H a b).natAbs : Int)) ≤ B) → ∀ a, (sm n fun b => ((Q.foldl lap1 H a b).natAbs : Int)) ≤ B + 2 * (Q.length : Int) := by
  induction Q with
  | nil => intro H B h a; have := h a; show (sm n fun b => ((H a b).natAbs : Int)) ≤ B + 2 * ((0 : Nat) : Int); omega
  | cons p Q ih =>
    intro H B h a
    have step : ∀ a, (sm n fun b => ((lap1 H p a b).natAbs : Int)) ≤ B + 2 := by
      intro a
      have h0 := h a
      by_cases e : p.1 = p.2
      · have e2 : lap1 H p = H := by unfold lap1; rw [if_pos e]
        rw [e2]; omega
      · have e2 : lap1 H p = ad1 (ad1 (ad1 (ad1 H p.1 p.1 1) p.1 p.2 (-1)) p.2 p.2 1) p.2 p.1 (-1) := by unfold lap1; rw [if_neg e]
        rw [e2]
        have a1 := ad1_row n H p.1 p.1 1 a
        have a2 := ad1_row n (ad1 H p.1 p.1 1) p.1 p.2 (-1) a
        have a3 := ad1_row n (ad1 (ad1 H p.1 p.1 1) p.1 p.2 (-1)) p.2 p.2 1 a
        have a4 := ad1_row n (ad1 (ad1 (ad1 H p.1 p.1 1) p.1 p.2 (-1)) p.2 p.2 1) p.2 p.1 (-1) a
        have c1 : ((1 : Int).natAbs : Int) = 1 := rfl
        have c2 : (((-1) : Int).natAbs : Int) = 1 := rfl
        rw [c1] at a1 a3
        rw [c2] at a2 a4
        by_cases q1 : a = p.1
        · rw [if_pos q1] at a1 a2
          rw [if_neg (fun z => e (by omega))] at a3 a4
          omega
        · rw [if_neg q1] at a1 a2
          by_cases q2 : a = p.2
          · rw [if_pos q2] at a3 a4; omega
          · rw [if_neg q2] at a3 a4; omega
    have := ih (lap1 H p) (B + 2) step a
    show (sm n fun b => ((Q.foldl lap1 (lap1 H p) a b).natAbs : Int)) ≤ B + 2 * (((Q.length + 1 : Nat)) : Int)
    omega
theorem lap_sml (n : Nat) (P : List (Nat × Nat)) (hP : P.length ≤ 10) : Sml n (lapM P) := by
  intro a _
  rw [sm_add]
  have h1 := sm_ee n a
  have h2 := lap_row n P (fun _ _ => 0) 0 (fun a => Int.le_of_eq (sm_zero n)) a
  show _ + (sm n fun b => ((P.foldl lap1 (fun _ _ => 0) a b).natAbs : Int)) ≤ 21
  omega
end Go.Proofs.Ytbchnmplooafpaa.Q
end
section
namespace Go.Proofs.Ytbchnmplooafpaa.X
open Go.RowKit Go.Proofs.YtbchnmplooafpaaW.PrintWords Go.Proofs.YtbchnmplooafpaaW.PrintLast Go.Proofs.YtbchnmplooafpaaW.PrintMore
attribute [local go_sem] w13z w15z max_two min_two w11z w12z w14z w16z
set_option linter.unusedVariables false
set_option linter.unusedSimpArgs false
end Go.Proofs.Ytbchnmplooafpaa.X
end
section
namespace Go.Proofs.Ytbchnmplooafpaa.Q
open Go.RowKit Go.Proofs.Ytbchnmplooafpaa.X Go.Proofs.Ytbchnmplooafpaa.Dt Go.Proofs.YtbchnmplooafpaaW.PrintWords Go.Proofs.YtbchnmplooafpaaW.PrintLast Go.Proofs.YtbchnmplooafpaaW.PrintMore
set_option linter.unusedVariables false
set_option linter.unusedSimpArgs false
def cntF (c : Nat) : Nat → Nat → Nat
  | 0, _ => 0
  | d + 1, i => (if hasB c i then 1 else 0) + cntF c d (i + 1)
theorem list_l (c : Nat) (d : Nat) : ∀ (i : Nat) (x : List Int), i + d = 10 → x.length ≤ i → ∃ y : List Int, y.length = x.length + cntF c d i ∧ Ev (fun k => impl_subset_list.l0 k (c : Int) x (i : Int)) y := by
  induction d with
  | zero => intro i x hi hx; exact ⟨x, by unfold cntF; omega, Ev.step (fun _ => rfl) (evF (by omega) (evN rfl))⟩
  | succ d ih =>
    intro i x hi hx
    by_cases q : hasB c i
    · obtain ⟨y, hy, h⟩ := ih (i + 1) (x ++ [(i : Int)]) (by omega) (by simp; omega)
      refine ⟨y, by unfold cntF; rw [if_pos q, hy]; simp; omega, Ev.step (fun _ => rfl) (evT (by omega) (evB (has_ c i) (evT (by simp [q]) (evT (by omega) ?_))))⟩
      rw [wnat (n := 10) (by omega) (by omega)]; exact h
    · obtain ⟨y, hy, h⟩ := ih (i + 1) x (by omega) (by omega)
      refine ⟨y, by unfold cntF; rw [if_neg q, hy]; omega, Ev.step (fun _ => rfl) (evT (by omega) (evB (has_ c i) (evF (by simp [q]) ?_)))⟩
      rw [wnat (n := 10) (by omega) (by omega)]; exact h
theorem sel_cnt (c : Nat) (P : List (Nat × Nat)) : ∀ i, (selF c i P).length = cntF c P.length i := by
  induction P with
  | nil => intro i; rfl
  | cons q P ih =>
    intro i
    have := ih (i + 1)
    unfold selF
    show _ = (if hasB c i then 1 else 0) + cntF c P.length (i + 1)
    split
    · show (selF c (i + 1) P).length + 1 = _; omega
    · omega
theorem hbit : ∀ c : Fin 1024, ∀ k : Fin 10, hasB c.val k.val ↔ (c.val / 2 ^ k.val) % 2 = 1 := by decide +kernel
theorem cntF_add (c : Nat) (a : Nat) : ∀ b i, cntF c (a + b) i = cntF c a i + cntF c b (i + a) := by
  induction a with
  | zero => intro b i; rw [Nat.zero_add]; show _ = 0 + _; rw [Nat.zero_add]; rfl
  | succ a ih =>
    intro b i
    rw [show a + 1 + b = (a + b) + 1 by omega]
    show (if hasB c i then 1 else 0) + cntF c (a + b) (i + 1) = (if hasB c i then 1 else 0) + cntF c a (i + 1) + _
    rw [ih b (i + 1), show i + 1 + a = i + (a + 1) by omega]; omega
theorem cntF_hi (c : Nat) (hc : c < 1024) (d : Nat) : ∀ i, c < 2 ^ i → i + d ≤ 10 → cntF c d i = 0 := by
  induction d with
  | zero => intro i _ _; rfl
  | succ d ih =>
    intro i h hi
    show (if hasB c i then 1 else 0) + cntF c d (i + 1) = 0
    have nb : ¬ hasB c i := by
      rw [hbit ⟨c, hc⟩ ⟨i, by omega⟩]
      show ¬ (c / 2 ^ i) % 2 = 1
      rw [Nat.div_eq_of_lt h]; omega
    rw [if_neg nb, ih (i + 1) (Nat.lt_of_lt_of_le h (Nat.pow_le_pow_right (by omega) (by omega))) (by omega)]
theorem cnt_exact (P : List (Nat × Nat)) (hP : P.length ≤ 10) (c : Nat) (hc : c < 2 ^ P.length) : Ev (fun k => impl_subset_count.f k (c : Int)) ((selF c 0 P).length : Int) := by
  have h2 : 2 ^ P.length ≤ 2 ^ 10 := Nat.pow_le_pow_right (by omega) hP
  have hc2 : c < 1024 := by omega
  have e1 : cntF c 10 0 = (selF c 0 P).length := by
    rw [sel_cnt]
    have := cntF_add c P.length (10 - P.length) 0
    rw [show P.length + (10 - P.length) = 10 by omega, Nat.zero_add, cntF_hi c hc2 (10 - P.length) P.length hc (by omega)] at this
    omega
  obtain ⟨y, hy, b⟩ := list_l c 10 0 [] (by omega) (by simp)
  unfold impl_subset_count.f impl_subset_list.f
  refine Ev.bind b (evN ?_)
  rw [hy, e1]; simp
def Tre (N : Nat) (c : Nat → Nat) (S : List (Nat × Nat)) : Prop := fx N (S.foldl stp c) = 1 ∧ fx N c = 1 + S.length
instance (N : Nat) (c : Nat → Nat) (S : List (Nat × Nat)) : Decidable (Tre N c S) := by unfold Tre; infer_instance
theorem fx_one {c d : Nat → Nat} (M : Nat) (h1 : c M = M) (h2 : d M ≠ M) (n : Nat) (h : ∀ v, v < n → v ≠ M → (d v = v ↔ c v = v)) : fx n c = fx n d + if M < n then 1 else 0 := by
  induction n with
  | zero => rfl
  | succ n ih =>
    have := ih (fun v hv => h v (by omega))
    show fx n c + (if c n = n then 1 else 0) = fx n d + (if d n = n then 1 else 0) + _
    by_cases q : n = M
    · subst q
      rw [if_pos h1, if_neg h2, if_pos (by omega)]
      rw [if_neg (by omega)] at this; omega
    · have hq := h n (by omega) q
      by_cases e : c n = n
      · rw [if_pos e, if_pos (hq.2 e)]
        by_cases z : M < n
        · rw [if_pos z] at this; rw [if_pos (by omega)]; omega
        · rw [if_neg z] at this; rw [if_neg (by omega)]; omega
      · rw [if_neg e, if_neg (fun z => e (hq.1 z))]
        by_cases z : M < n
        · rw [if_pos z] at this; rw [if_pos (by omega)]; omega
        · rw [if_neg z] at this; rw [if_neg (by omega)]; omega
theorem stp_at (c : Nat → Nat) (p : Nat × Nat) (v : Nat) : stp c p v = if c v = max (c p.1) (c p.2) then min (c p.1) (c p.2) else c v := rfl
theorem fx_join (n : Nat) (c : Nat → Nat) (hc : Good c) (p : Nat × Nat) (h1 : p.1 < n) (h2 : p.2 < n) (hne : c p.1 ≠ c p.2) : fx n c = fx n (stp c p) + 1 := by
  have a1 := hc p.1; have a2 := hc p.2
  have hM : c (max (c p.1) (c p.2)) = max (c p.1) (c p.2) := by
    rcases Nat.le_total (c p.1) (c p.2) with q | q
    · rw [Nat.max_eq_right q]; exact a2.2
    · rw [Nat.max_eq_left q]; exact a1.2
  have := fx_one (c := c) (d := stp c p) (max (c p.1) (c p.2)) hM (by rw [stp_at, hM, if_pos rfl]; omega) n (fun v _ hv => by
    rw [stp_at]
    by_cases e : c v = max (c p.1) (c p.2)
    · rw [if_pos e, e]
      constructor
      · intro z; exfalso
        have hm : c (min (c p.1) (c p.2)) = min (c p.1) (c p.2) := by
          rcases Nat.le_total (c p.1) (c p.2) with q | q
          · rw [Nat.min_eq_left q]; exact a1.2
          · rw [Nat.min_eq_right q]; exact a2.2
        rw [z] at hm; omega
      · intro z; omega
    · rw [if_neg e])
  rw [this, if_pos (by omega)]
theorem stp_same (c : Nat → Nat) (p : Nat × Nat) (h : c p.1 = c p.2) : stp c p = c := by
  funext v; rw [stp_at]; split
  · omega
  · rfl
theorem tre_cons (N : Nat) (c : Nat → Nat) (hc : Good c) (p : Nat × Nat) (S : List (Nat × Nat)) (h1 : p.1 < N) (h2 : p.2 < N) : Tre N c (p :: S) ↔ c p.1 ≠ c p.2 ∧ Tre N (stp c p) S := by
  unfold Tre
  show fx N (S.foldl stp (stp c p)) = 1 ∧ fx N c = 1 + (S.length + 1) ↔ _
  by_cases e : c p.1 = c p.2
  · rw [stp_same c p e]
    have := fx_fold N S c
    constructor
    · intro z; omega
    · intro z; exact absurd e z.1
  · have := fx_join N c hc p h1 h2 e
    constructor
    · intro z; exact ⟨e, z.1, by omega⟩
    · intro z; exact ⟨z.2.1, by omega⟩
def cntN : Nat → (Nat → Bool) → Nat
  | 0, _ => 0
  | n + 1, f => cntN n f + if f n = true then 1 else 0
theorem cntN_congr {f g : Nat → Bool} (n : Nat) (h : ∀ q, q < n → f q = g q) : cntN n f = cntN n g := by
  induction n with
  | zero => rfl
  | succ n ih => show cntN n f + _ = cntN n g + _; rw [ih (fun q hq => h q (by omega)), h n (by omega)]
theorem cntN_no {f : Nat → Bool} (n : Nat) (h : ∀ q, q < n → f q = false) : cntN n f = 0 := by
  induction n with
  | zero => rfl
  | succ n ih => show cntN n f + _ = 0; rw [ih (fun q hq => h q (by omega)), h n (by omega)]; simp
theorem cntN_two (f : Nat → Bool) (M : Nat) : cntN (2 * M) f = cntN M (fun q => f (2 * q)) + cntN M (fun q => f (2 * q + 1)) := by
  induction M with
  | zero => rfl
  | succ M ih =>
    show cntN (2 * M) f + (if f (2 * M) = true then 1 else 0) + (if f (2 * M + 1) = true then 1 else 0) = cntN M _ + (if f (2 * M) = true then 1 else 0) + (cntN M _ + (if f (2 * M + 1) = true then 1 else 0))
    rw [ih]; omega
theorem cntN_le (f : Nat → Bool) (n : Nat) : cntN n f ≤ n := by
  induction n with
  | zero => exact Nat.le_refl _
  | succ n ih => show cntN n f + _ ≤ n + 1; split <;> omega
theorem sel_shift (q b : Nat) (hb : b < 2) (P : List (Nat × Nat)) : ∀ i, 2 * q + b < 1024 → i + P.length ≤ 9 → selF (2 * q + b) (i + 1) P = selF q i P := by
  induction P with
  | nil => intro i _ _; rfl
  | cons p P ih =>
    intro i h hi
    have hi2 : i + (P.length + 1) ≤ 9 := hi
    have e := ih (i + 1) h (by omega)
    have e2 : hasB (2 * q + b) (i + 1) ↔ hasB q i := by
      rw [hbit ⟨2 * q + b, h⟩ ⟨i + 1, by omega⟩, hbit ⟨q, by omega⟩ ⟨i, by omega⟩]
      show (2 * q + b) / 2 ^ (i + 1) % 2 = 1 ↔ q / 2 ^ i % 2 = 1
      rw [Nat.pow_succ, Nat.mul_comm (2 ^ i) 2, ← Nat.div_div_eq_div_mul, show (2 * q + b) / 2 = q by omega]
    unfold selF
    by_cases z : hasB q i
    · rw [if_pos z, if_pos (e2.2 z), e]
    · rw [if_neg z, if_neg (fun w => z (e2.1 w)), e]
theorem sel_low (q b : Nat) (hb : b < 2) (h : 2 * q + b < 1024) (p : Nat × Nat) (P : List (Nat × Nat)) (hP : P.length ≤ 9) : selF (2 * q + b) 0 (p :: P) = if b = 1 then p :: selF q 0 P else selF q 0 P := by
  have e : hasB (2 * q + b) 0 ↔ b = 1 := by
    rw [hbit ⟨2 * q + b, h⟩ ⟨0, by omega⟩]
    show (2 * q + b) / 2 ^ 0 % 2 = 1 ↔ b = 1
    rw [Nat.pow_zero, Nat.div_one]; omega
  have e2 := sel_shift q b hb P 0 h (by omega)
  rw [show selF (2 * q + b) 0 (p :: P) = if hasB (2 * q + b) 0 then p :: selF (2 * q + b) (0 + 1) P else selF (2 * q + b) (0 + 1) P from rfl, e2]
  by_cases z : b = 1
  · rw [if_pos z, if_pos (e.2 z)]
  · rw [if_neg z, if_neg (fun w => z (e.1 w))]
theorem fx_all0 (c : Nat → Nat) (n : Nat) (h : ∀ v, v < n + 1 → c v = 0) : fx (n + 1) c = 1 := by
  induction n with
  | zero => show 0 + (if c 0 = 0 then 1 else 0) = 1; rw [if_pos (h 0 (by omega))]
  | succ n ih =>
    show fx (n + 1) c + (if c (n + 1) = n + 1 then 1 else 0) = 1
    rw [ih (fun v hv => h v (by omega)), if_neg (by rw [h (n + 1) (by omega)]; omega)]
theorem fx_two (c : Nat → Nat) (b : Nat) (h0 : c 0 = 0) (hb : c b = b) (hb0 : 0 < b) (n : Nat) : b < n → 2 ≤ fx n c := by
  have one : ∀ n, 1 ≤ fx (n + 1) c := by
    intro n
    induction n with
    | zero => show 1 ≤ 0 + (if c 0 = 0 then 1 else 0); rw [if_pos h0]; omega
    | succ n ih => show 1 ≤ fx (n + 1) c + _; omega
  induction n with
  | zero => intro h; omega
  | succ n ih =>
    intro h
    show 2 ≤ fx n c + (if c n = n then 1 else 0)
    by_cases e : b = n
    · rw [if_pos (by rw [← e]; exact hb)]
      obtain ⟨n', rfl⟩ : ∃ n', n = n' + 1 := ⟨n - 1, by omega⟩
      have := one n'; omega
    · have := ih (by omega); omega
theorem ker_stp (c : Nat → Nat) (p : Nat × Nat) (u v : Nat) : stp c p u = stp c p v ↔ (c u = c v ∨ ((c u = c p.1 ∨ c u = c p.2) ∧ (c v = c p.1 ∨ c v = c p.2))) := by
  rw [stp_at, stp_at]
  generalize c u = x; generalize c v = y; generalize c p.1 = a; generalize c p.2 = b
  by_cases h : x = max a b <;> by_cases h2 : y = max a b
  · rw [if_pos h, if_pos h2]; omega
  · rw [if_pos h, if_neg h2]; omega
  · rw [if_neg h, if_pos h2]; omega
  · rw [if_neg h, if_neg h2]; omega
theorem ker_mrg (c : Nat → Nat) (m M u v : Nat) : mrg c m M u = mrg c m M v ↔ (c u = c v ∨ ((c u = m ∨ c u = M) ∧ (c v = m ∨ c v = M))) := by
  show (if c u = m then M else c u) = (if c v = m then M else c v) ↔ _
  generalize c u = x; generalize c v = y
  by_cases h : x = m <;> by_cases h2 : y = m
  · rw [if_pos h, if_pos h2]; omega
  · rw [if_pos h, if_neg h2]; omega
  · rw [if_neg h, if_pos h2]; omega
  · rw [if_neg h, if_neg h2]; omega
theorem cnt_trc (r : Nat) (P : List (Nat × Nat)) : ∀ (c c' : Nat → Nat), Good c → Top r c' → (∀ u v, u ≤ r → v ≤ r → (c u = c v ↔ c' u = c' v)) → (∀ p ∈ P, p.1 < r + 1 ∧ p.2 < r + 1) → P.length ≤ 10 → cntN (2 ^ P.length) (fun s => decide (Tre (r + 1) c (selF s 0 P))) = trc r c' P := by
  induction P with
  | nil =>
    intro c c' hc hc' hk _ _
    show cntN 0 _ + (if decide (Tre (r + 1) c []) = true then 1 else 0) = if ∀ v, v < r + 1 → c' v = r then 1 else 0
    have c0 : c 0 = 0 := by have := (hc 0).1; omega
    have cr := hc'.root
    have e : Tre (r + 1) c [] ↔ ∀ v, v < r + 1 → c' v = r := by
      constructor
      · intro h v hv
        have h1 : fx (r + 1) c = 1 := h.1
        have z : ∀ w, w ≤ r → c w = 0 := by
          intro w hw
          by_cases q : c w = 0
          · exact q
          · have := fx_two c (c w) c0 (hc w).2 (by omega) (r + 1) (by have := (hc w).1; omega)
            omega
        have := (hk v r (by omega) (Nat.le_refl _)).1 (by rw [z v (by omega), z r (Nat.le_refl _)])
        rw [this, cr]
      · intro h
        have z : ∀ v, v < r + 1 → c v = 0 := by
          intro v hv
          have := (hk v 0 (by omega) (Nat.zero_le _)).2 (by rw [h v hv, h 0 (by omega)])
          rw [this, c0]
        have h1 := fx_all0 c r z
        exact ⟨h1, h1⟩
    by_cases q : ∀ v, v < r + 1 → c' v = r
    · rw [if_pos q, if_pos (by simpa using e.2 q)]; rfl
    · rw [if_neg q, if_neg (by simpa using fun z => q (e.1 z))]; rfl
  | cons p P ih =>
    intro c c' hc hc' hk hP hl
    have hl2 : P.length + 1 ≤ 10 := hl
    obtain ⟨h1, h2⟩ := hP p (List.mem_cons_self ..)
    have hP' : ∀ p ∈ P, p.1 < r + 1 ∧ p.2 < r + 1 := fun q hq => hP q (List.mem_cons_of_mem _ hq)
    have h512 : 2 ^ P.length ≤ 2 ^ 9 := Nat.pow_le_pow_right (by omega) (by omega)
    rw [show 2 ^ (p :: P).length = 2 * 2 ^ P.length from by show 2 ^ (P.length + 1) = _; rw [Nat.pow_succ, Nat.mul_comm], cntN_two]
    have ev : cntN (2 ^ P.length) (fun q => decide (Tre (r + 1) c (selF (2 * q) 0 (p :: P)))) = trc r c' P := by
      rw [← ih c c' hc hc' hk hP' (by omega)]
      refine cntN_congr _ fun q hq => ?_
      have := sel_low q 0 (by omega) (by omega) p P (by omega)
      rw [Nat.add_zero] at this
      rw [this, if_neg (by omega)]
    rw [ev]
    show _ = trc r c' P + if c' p.1 = c' p.2 then 0 else if c' p.1 < c' p.2 then trc r (mrg c' (c' p.1) (c' p.2)) P else trc r (mrg c' (c' p.2) (c' p.1)) P
    congr 1
    have od : ∀ q, q < 2 ^ P.length → selF (2 * q + 1) 0 (p :: P) = p :: selF q 0 P := by
      intro q hq
      rw [sel_low q 1 (by omega) (by omega) p P (by omega), if_pos rfl]
    have hkp := hk p.1 p.2 (by omega) (by omega)
    by_cases e : c' p.1 = c' p.2
    · rw [if_pos e]
      refine cntN_no _ fun q hq => ?_
      rw [od q hq]
      exact decide_eq_false (fun z => ((tre_cons (r + 1) c hc p _ h1 h2).1 z).1 (hkp.2 e))
    · rw [if_neg e]
      have ne : c p.1 ≠ c p.2 := fun z => e (hkp.1 z)
      have main : ∀ m M, ((m = c' p.1 ∧ M = c' p.2) ∨ (m = c' p.2 ∧ M = c' p.1)) → m < M → cntN (2 ^ P.length) (fun q => decide (Tre (r + 1) c (selF (2 * q + 1) 0 (p :: P)))) = trc r (mrg c' m M) P := by
        intro m M hm hlt
        have i1 := hc'.idem p.1 (by omega); have i2 := hc'.idem p.2 (by omega)
        have l1 := hc'.le p.1 (by omega); have l2 := hc'.le p.2 (by omega)
        rw [← ih (stp c p) (mrg c' m M) (good_stp hc p) (mrg_top hc' (by rcases hm with z | z <;> rw [z.1] <;> assumption) (by rcases hm with z | z <;> rw [z.2] <;> assumption) hlt (by rcases hm with z | z <;> rw [z.2] <;> assumption)) (fun u v hu hv => ?_) hP' (by omega)]
        · refine cntN_congr _ fun q hq => ?_
          rw [od q hq]
          exact decide_eq_decide.2 ((tre_cons (r + 1) c hc p _ h1 h2).trans ⟨fun z => z.2, fun z => ⟨ne, z⟩⟩)
        · have k0 := hk u v hu hv
          have k1 := hk u p.1 hu (by omega); have k2 := hk u p.2 hu (by omega)
          have k3 := hk v p.1 hv (by omega); have k4 := hk v p.2 hv (by omega)
          have s1 := ker_stp c p u v
          have s2 : mrg c' m M u = mrg c' m M v ↔ (c' u = c' v ∨ ((c' u = c' p.1 ∨ c' u = c' p.2) ∧ (c' v = c' p.1 ∨ c' v = c' p.2))) := by
            rw [ker_mrg]
            rcases hm with z | z
            · rw [z.1, z.2]
            · rw [z.1, z.2, Or.comm (a := c' u = c' p.2), Or.comm (a := c' v = c' p.2)]
          rw [s1, s2, k0, k1, k2, k3, k4]
      by_cases l : c' p.1 < c' p.2
      · rw [if_pos l]; exact main _ _ (.inl ⟨rfl, rfl⟩) l
      · rw [if_neg l]; exact main _ _ (.inr ⟨rfl, rfl⟩) (by omega)
theorem lap_step (H : Nat → Nat → Int) (p : Nat × Nat) (a b : Nat) : lap1 H p a b = H a b + lapE p a b := by
  unfold lap1 lapE
  by_cases e : p.1 = p.2
  · rw [if_pos e, e, Int.sub_self, Int.zero_mul, Int.add_zero]
  · rw [if_neg e]
    unfold ad1 ee
    by_cases a1 : a = p.1 <;> by_cases a2 : a = p.2 <;> by_cases b1 : b = p.1 <;> by_cases b2 : b = p.2 <;> simp [a1, a2, b1, b2] <;> (try omega) <;> (repeat' split) <;> omega
theorem lap_fold (Q : List (Nat × Nat)) : ∀ (H : Nat → Nat → Int) (a b : Nat), Q.foldl lap1 H a b = H a b + lapL Q a b := by
  induction Q with
  | nil => intro H a b; show H a b = H a b + 0; omega
  | cons p Q ih =>
    intro H a b
    show Q.foldl lap1 (lap1 H p) a b = H a b + (lapE p a b + lapL Q a b)
    rw [ih, lap_step]; omega
theorem lap_eq (P : List (Nat × Nat)) (a b : Nat) : lapM P a b = lapL P a b := by
  show P.foldl lap1 (fun _ _ => 0) a b = _
  rw [lap_fold]; omega
theorem det_spec_l (r : Nat) (hr : r ≤ 8) (L : Nat → Nat → Int) (Z : Int) (hZ : Ev (fun k => (spec_l01Berkowitz.f k (wmat r L)).bind fun t112 => (if (t112.length : Int) ≤ (r : Int) then (some 0) else (if 0 ≤ (r : Int) then (if (r : Int) < (t112.length : Int) then (some (wrap64 ((rd t112 (r : Int)) * (wrap64 (1 - (wrap64 (2 * (Int.tmod (r : Int) 2)))))))) else (none)) else (none)))) Z) (d : Nat) : ∀ i : Nat, i + d = r → Ev (fun k => spec_l05Det.l0 k (wmat (r + 1) L) (r : Int) ((List.range i).map fun a => wrow r (L a)) (i : Int)) Z := by
  induction d with
  | zero => intro i hi; obtain rfl : i = r := by omega
            exact Ev.step (fun _ => rfl) (evF (by omega) hZ)
  | succ d ih =>
    intro i hi
    have h := ih (i + 1) (by omega)
    have e : (wrow (r + 1) (L i)).take r = wrow r (L i) := by
      apply List.ext_getElem
      · rw [List.length_take, wrow_length, wrow_length]; omega
      · intro j h1 h2; simp [wrow]
    refine Ev.step (fun _ => rfl) (evT (by omega) (evT (by omega) (evT (by rw [wmat_length]; omega) (evT (by omega) (evT (by rw [wmat_at _ L i (by omega), wrow_length]; omega) (evB (a := wrow r (L i)) ?_ (evT (by simp; omega) ?_)))))))
    · rw [wmat_at _ L i (by omega), Int.toNat_natCast, e]; exact own_ _ (by rw [wrow_length]; omega)
    · rw [wnat (n := 20) (by omega) (by omega)]
      rw [List.range_succ, List.map_append] at h
      exact h
theorem sml_less {r : Nat} {L : Nat → Nat → Int} (h : Sml (r + 1) L) : Sml r L := by
  intro a ha
  have := h a (by omega)
  have m := sm_more (f := fun b => ((ee b a).natAbs : Int) + ((L a b).natAbs : Int)) (fun i => by omega) r 1
  omega
theorem det_spec (r : Nat) (hr : r + 1 ≤ 8) (L : Nat → Nat → Int) (hL : Sml (r + 1) L) : Ev (fun k => spec_l05Det.f k (wmat (r + 1) L)) (wrap64 (det r L)) := by
  obtain ⟨c, M, hc, f, hf, hv, s, i⟩ := det_full r L (by omega) (sml_less hL)
  have last := cp_last hc
  have hvr := hv r (by omega)
  have dt : det r L = sgn r * c r := by rw [last, ← Int.mul_assoc, sgn_sq, Int.one_mul]
  have sg : wrap64 (1 - wrap64 (2 * (Int.tmod (r : Int) 2))) = sgn r := by
    rw [tmod2]; unfold sgn
    rcases Nat.mod_two_eq_zero_or_one r with h | h <;> rw [h] <;> simp [wrap64]
  unfold spec_l05Det.f
  rw [wmat_length, wid (x := ((r + 1 : Nat) : Int) - 1) (by omega) (by omega), show ((r + 1 : Nat) : Int) - 1 = (r : Int) by omega]
  refine det_spec_l r (by omega) L _ (Ev.bind s ?_) r 0 (by omega)
  unfold vl at hvr
  by_cases q : (f.length : Int) ≤ (r : Int)
  · refine evT q (evN ?_)
    rw [if_neg (by omega)] at hvr
    rw [dt, ← wr_mulr, ← hvr, Int.mul_zero, w0]
  · refine evF q (evT (by omega) (evT (by omega) (evN ?_)))
    rw [if_pos (by omega)] at hvr
    rw [sg, hvr, wr_mull, dt, Int.mul_comm]
def trees (N : Nat) (P : List (Nat × Nat)) : Nat := cntN (2 ^ P.length) (fun s => decide (Tre N (fun v => v) (selF s 0 P)))
theorem trees_spec (N : Nat) (P : List (Nat × Nat)) (g : G8 N P) : Ev (fun k => spec_l05Trees.f k (N : Int) (edg P)) ((trees N P : Nat) : Int) := by
  have h8 := g.hi; have h0 := g.lo; have h10 := g.len
  obtain ⟨r, rfl⟩ : ∃ r, N = r + 1 := ⟨N - 1, by omega⟩
  have e1 : trees (r + 1) P = trc r (fun v => v) P := cnt_trc r P (fun v => v) (fun v => v) good_id ⟨fun v h => h, fun v _ => Nat.le_refl _, fun v _ => rfl⟩ (fun u v _ _ => Iff.rfl) g.ends g.len
  have e2 := matrix_tree r P (fun p hp => by have := g.ends p hp; omega)
  have le := cntN_le (fun s => decide (Tre (r + 1) (fun v => v) (selF s 0 P))) (2 ^ P.length)
  have h2 : 2 ^ P.length ≤ 2 ^ 10 := Nat.pow_le_pow_right (by omega) h10
  have e3 : det r (lapM P) = ((trees (r + 1) P : Nat) : Int) := by
    rw [e1, ← e2]; exact det_congr fun a b _ _ => lap_eq P a b
  have D := det_spec r h8 (lapM P) (lap_sml (r + 1) P h10)
  rw [e3, wid (by unfold trees; omega) (by unfold trees; omega)] at D
  unfold spec_l05Trees.f
  exact Ev.bind (lapS (r + 1) P g) (Ev.bind D (evN rfl))
end Go.Proofs.Ytbchnmplooafpaa.Q
end
section
namespace Go.Proofs.Ytbchnmplooafpaa.Q
open Go.RowKit Go.Proofs.Ytbchnmplooafpaa.X Go.Proofs.Ytbchnmplooafpaa.Dt Go.Proofs.YtbchnmplooafpaaW.PrintWords Go.Proofs.YtbchnmplooafpaaW.PrintLast Go.Proofs.YtbchnmplooafpaaW.PrintMore
set_option linter.unusedVariables false
theorem good_eq {c d : Nat → Nat} (hc : Good c) (hd : Good d) (h1 : ∀ v, d (c v) = d v) (h2 : ∀ v, c (d v) = c v) : c = d := by
  funext v
  have a := (hd (c v)).1
  have b := (hc (d v)).1
  rw [h1] at a; rw [h2] at b
  omega
theorem cl_cons (p : Nat × Nat) (S : List (Nat × Nat)) : cl (p :: S) = stp (cl S) p := by
  have g1 : Good (cl (p :: S)) := fold_good _ _ good_id
  have g2 : Good (stp (cl S) p) := good_stp (fold_good _ _ good_id) p
  refine good_eq g1 g2 ?_ ?_
  · exact fold_resp (stp (cl S) p) (p :: S) (fun v => v) (fun _ => rfl) (fun q hq => by
      rcases List.mem_cons.1 hq with rfl | hq
      · exact stp_joins _ _
      · exact stp_keeps _ _ (fold_joins S _ q hq))
  · exact stp_resp (fold_resp (cl (p :: S)) S (fun v => v) (fun _ => rfl) (fun q hq => fold_joins (p :: S) _ q (List.mem_cons_of_mem _ hq))) (fold_joins (p :: S) _ p (List.mem_cons_self ..))
theorem fx_one_iff (r : Nat) (c : Nat → Nat) (hc : Good c) : fx (r + 1) c = 1 ↔ ∀ v, v < r + 1 → c v = 0 := by
  have c0 : c 0 = 0 := by have := (hc 0).1; omega
  constructor
  · intro h v hv
    by_cases q : c v = 0
    · exact q
    · have := fx_two c (c v) c0 (hc v).2 (by omega) (r + 1) (by have := (hc v).1; omega)
      omega
  · intro h; exact fx_all0 c r h
def phi (a b v : Nat) : Nat := if v = b then a else if b < v then v - 1 else v
def phP (a b : Nat) (P : List (Nat × Nat)) : List (Nat × Nat) := P.map fun p => (phi a b p.1, phi a b p.2)
theorem phP_length (a b : Nat) (P : List (Nat × Nat)) : (phP a b P).length = P.length := by simp [phP]
theorem phi_lt {a b v r : Nat} (hab : a < b) (hb : b < r + 2) (hv : v < r + 2) : phi a b v < r + 1 := by
  unfold phi
  split
  · omega
  · split <;> omega
theorem phi_rel (N a b : Nat) (S : List (Nat × Nat)) : ∀ c d : Nat → Nat, (∀ p ∈ S, p.1 < N ∧ p.2 < N) → (∀ u v, u < N → v < N → (c u = c v ↔ d (phi a b u) = d (phi a b v))) → ∀ u v, u < N → v < N → (S.foldl stp c u = S.foldl stp c v ↔ (phP a b S).foldl stp d (phi a b u) = (phP a b S).foldl stp d (phi a b v)) := by
  induction S with
  | nil => intro c d _ h; exact h
  | cons p S ih =>
    intro c d hS h
    obtain ⟨h1, h2⟩ := hS p (List.mem_cons_self ..)
    refine ih (stp c p) (stp d (phi a b p.1, phi a b p.2)) (fun q hq => hS q (List.mem_cons_of_mem _ hq)) ?_
    intro u v hu hv
    rw [ker_stp, ker_stp, h u v hu hv, h u p.1 hu h1, h u p.2 hu h2, h v p.1 hv h1, h v p.2 hv h2]
theorem part_iff (r a b : Nat) (hab : a < b) (hb : b < r + 2) (S : List (Nat × Nat)) (hS : ∀ p ∈ S, p.1 < r + 2 ∧ p.2 < r + 2) : Tre (r + 1) (fun v => v) (phP a b S) ↔ cl S a ≠ cl S b ∧ fx (r + 2) (cl S) = 2 ∧ r + 2 = 2 + S.length := by
  have g1 : Good (cl ((a, b) :: S)) := fold_good _ _ good_id
  have g2 : Good (cl (phP a b S)) := fold_good _ _ good_id
  have g3 : Good (cl S) := fold_good _ _ good_id
  have rel := phi_rel (r + 2) a b S (stp (fun v => v) (a, b)) (fun v => v) hS (fun u v hu hv => by
    show (if u = max a b then min a b else u) = (if v = max a b then min a b else v) ↔ phi a b u = phi a b v
    rw [Nat.max_eq_right (by omega), Nat.min_eq_left (by omega)]
    unfold phi
    split <;> split <;> (repeat' split) <;> omega)
  have rel' : ∀ u v, u < r + 2 → v < r + 2 → (cl ((a, b) :: S) u = cl ((a, b) :: S) v ↔ cl (phP a b S) (phi a b u) = cl (phP a b S) (phi a b v)) := rel
  have c0 : cl ((a, b) :: S) 0 = 0 := by have := (g1 0).1; omega
  have d0 : cl (phP a b S) 0 = 0 := by have := (g2 0).1; omega
  have p0 : phi a b 0 = 0 := by unfold phi; rw [if_neg (by omega), if_neg (by omega)]
  have AB : fx (r + 1) (cl (phP a b S)) = 1 ↔ fx (r + 2) (cl ((a, b) :: S)) = 1 := by
    rw [fx_one_iff r _ g2, fx_one_iff (r + 1) _ g1]
    constructor
    · intro h u hu
      have := (rel' u 0 hu (by omega)).2 (by rw [h _ (phi_lt hab hb hu), p0, d0])
      rw [this, c0]
    · intro h v hv
      by_cases q : v < b
      · have e : phi a b v = v := by unfold phi; rw [if_neg (by omega), if_neg (by omega)]
        have := (rel' v 0 (by omega) (by omega)).1 (by rw [h v (by omega), c0])
        rw [e, p0, d0] at this; exact this
      · have e : phi a b (v + 1) = v := by unfold phi; rw [if_neg (by omega), if_pos (by omega)]; omega
        have := (rel' (v + 1) 0 (by omega) (by omega)).1 (by rw [h (v + 1) (by omega), c0])
        rw [e, p0, d0] at this; exact this
  have T : Tre (r + 1) (fun v => v) (phP a b S) ↔ fx (r + 1) (cl (phP a b S)) = 1 ∧ r + 1 = 1 + S.length := by
    unfold Tre; rw [fx_id, phP_length]; rfl
  rw [T, AB, cl_cons]
  have sz := parts_size (r + 2) S
  by_cases e : cl S a = cl S b
  · rw [stp_same _ _ e]
    constructor
    · intro z; omega
    · intro z; exact absurd e z.1
  · have j := fx_join (r + 2) (cl S) g3 (a, b) (by show a < _; omega) hb e
    constructor
    · intro z; exact ⟨e, by omega, by omega⟩
    · intro z; exact ⟨by omega, by omega⟩
theorem sel_phP (s a b : Nat) (P : List (Nat × Nat)) : ∀ i, selF s i (phP a b P) = phP a b (selF s i P) := by
  induction P with
  | nil => intro i; rfl
  | cons p P ih =>
    intro i
    show selF s i ((phi a b p.1, phi a b p.2) :: phP a b P) = phP a b (selF s i (p :: P))
    unfold selF
    rw [ih (i + 1)]
    split <;> rfl
def Prt (N a b : Nat) (S : List (Nat × Nat)) : Prop := cl S a ≠ cl S b ∧ fx N (cl S) = 2 ∧ N = 2 + S.length
instance (N a b : Nat) (S : List (Nat × Nat)) : Decidable (Prt N a b S) := by unfold Prt; infer_instance
theorem g8_phP {r a b : Nat} {P : List (Nat × Nat)} (g : G8 (r + 2) P) (hab : a < b) (hb : b < r + 2) : G8 (r + 1) (phP a b P) := by
  refine ⟨by omega, by have := g.hi; omega, by rw [phP_length]; exact g.len, fun p hp => ?_⟩
  obtain ⟨q, hq, rfl⟩ := List.mem_map.1 hp
  have := g.ends q hq
  exact ⟨phi_lt hab hb this.1, phi_lt hab hb this.2⟩
theorem trees_phP {r a b : Nat} {P : List (Nat × Nat)} (g : G8 (r + 2) P) (hab : a < b) (hb : b < r + 2) : trees (r + 1) (phP a b P) = cntN (2 ^ P.length) (fun s => decide (Prt (r + 2) a b (selF s 0 P))) := by
  unfold trees
  rw [phP_length]
  refine cntN_congr _ fun s _ => ?_
  rw [sel_phP]
  exact decide_eq_decide.2 (part_iff r a b hab hb _ (fun p hp => g.ends p (selF_mem s P 0 p hp)))
theorem prt_flip (N a b : Nat) (S : List (Nat × Nat)) : Prt N a b S ↔ Prt N b a S := by
  unfold Prt
  exact ⟨fun h => ⟨fun e => h.1 e.symm, h.2⟩, fun h => ⟨fun e => h.1 e.symm, h.2⟩⟩
end Go.Proofs.Ytbchnmplooafpaa.Q
end
section
namespace Go.Proofs.Ytbchnmplooafpaa.Q
open Go.RowKit Go.Proofs.Ytbchnmplooafpaa.X Go.Proofs.Ytbchnmplooafpaa.Dt Go.Proofs.YtbchnmplooafpaaW.PrintWords Go.Proofs.YtbchnmplooafpaaW.PrintLast Go.Proofs.YtbchnmplooafpaaW.PrintMore
set_option linter.unusedVariables false
theorem shlP (i : Nat) (h : i ≤ 10) : shl .i64 1 (i : Int) = ((2 ^ i : Nat) : Int) := by
  have : i = 0 ∨ i = 1 ∨ i = 2 ∨ i = 3 ∨ i = 4 ∨ i = 5 ∨ i = 6 ∨ i = 7 ∨ i = 8 ∨ i = 9 ∨ i = 10 := by omega
  rcases this with rfl | rfl | rfl | rfl | rfl | rfl | rfl | rfl | rfl | rfl | rfl <;> decide +kernel
theorem inP (a b c : Int) : spec_l01In.f a b c = some (decide (b ≤ a ∧ a ≤ c)) ∧ impl_within.f a b c = some (decide (b ≤ a ∧ a ≤ c)) := by
  unfold spec_l01In.f impl_within.f
  by_cases h : a ≥ b
  · rw [if_pos h]
    have : (b ≤ a ∧ a ≤ c) ↔ a ≤ c := by omega
    simp [this]
  · rw [if_neg h, decide_eq_false (by omega)]; exact ⟨rfl, rfl⟩
theorem edgP_append (A B : List (Nat × Nat)) : edg (A ++ B) = edg A ++ edg B := by simp [edg]
theorem cop_l (N : Nat) (P : List (Nat × Nat)) (hP : P.length ≤ 11) (d : Nat) : ∀ i : Nat, i + d = P.length → Ev (fun k => spec_l01Copy.l0 k (i : Int) (N : Int) (edg P) (N : Int) (edg (P.take i))) ((N : Int), edg P) := by
  induction d with
  | zero =>
    intro i hi
    rw [List.take_of_length_le (by omega)]
    exact Ev.step (fun _ => rfl) (evF (by rw [edg_length]; omega) (evN rfl))
  | succ d ih =>
    intro i hi
    have h := ih (i + 1) (by omega)
    rw [List.take_succ_eq_append_getElem (by omega), edgP_append] at h
    refine Ev.step (fun _ => rfl) (evT (by rw [edg_length]; omega) (evT (by omega) (evB (a := [((P[i]'(by omega)).1 : Int), ((P[i]'(by omega)).2 : Int)]) ?_ (evT (by rw [edg_length]; simp; omega) ?_))))
    · rw [edg_at P i (by omega)]; exact own_ _ (by simp)
    · rw [wnat (n := 20) (by omega) (by omega)]; exact h
theorem cop_ (N : Nat) (P : List (Nat × Nat)) (hP : P.length ≤ 11) : Ev (fun k => spec_l01Copy.f k (N : Int) (edg P)) ((N : Int), edg P) := by
  have h := cop_l N P hP P.length 0 (by omega)
  unfold spec_l01Copy.f
  exact h
theorem dlt_l (N : Nat) (P : List (Nat × Nat)) (p : Nat × Nat) (hP : P.length ≤ 10) (d : Nat) : ∀ i : Nat, i + d = P.length + 1 → Ev (fun k => spec_l01Delete.l0 k (P.length : Int) (i : Int) (N : Int) (edg (P ++ [p])) (N : Int) (edg (P.take i))) ((N : Int), edg P) := by
  have hl : (edg (P ++ [p])).length = P.length + 1 := by rw [edg_length]; simp
  induction d with
  | zero =>
    intro i hi
    rw [List.take_of_length_le (by omega)]
    exact Ev.step (fun _ => rfl) (evF (by rw [hl]; omega) (evN rfl))
  | succ d ih =>
    intro i hi
    have h := ih (i + 1) (by omega)
    by_cases c : i = P.length
    · subst c
      rw [List.take_of_length_le (by omega)] at h
      rw [List.take_of_length_le (by omega)]
      refine Ev.step (fun _ => rfl) (evT (by rw [hl]; omega) (evT rfl ?_))
      rw [wnat (n := 20) (by omega) (by omega)]; exact h
    · rw [List.take_succ_eq_append_getElem (by omega), edgP_append (P.take i)] at h
      have hg : (P ++ [p])[i]'(by simp; omega) = P[i]'(by omega) := List.getElem_append_left (by omega)
      refine Ev.step (fun _ => rfl) (evT (by rw [hl]; omega) (evF (by omega) (evT (by omega) (evB (a := [((P[i]'(by omega)).1 : Int), ((P[i]'(by omega)).2 : Int)]) ?_ (evT (by rw [edg_length]; simp; omega) ?_)))))
      · rw [edg_at (P ++ [p]) i (by simp; omega), hg]; exact own_ _ (by simp)
      · rw [wnat (n := 20) (by omega) (by omega)]; exact h
theorem mnN (x y : Nat) : mn (x : Int) (y : Int) = ((min x y : Nat) : Int) := by unfold mn; split <;> omega
theorem mxN (x y : Nat) : mx (x : Int) (y : Int) = ((max x y : Nat) : Int) := by unfold mx; split <;> omega
theorem put2_ (P Q : List (Nat × Nat)) (p : Nat × Nat) (l : List Int) : (edg P ++ l :: edg Q).set (P.length : Int).toNat [(p.1 : Int), (p.2 : Int)] = edg (P ++ p :: Q) := by
  rw [Int.toNat_natCast, List.set_append_right _ _ (by rw [edg_length]; omega), edg_length, Nat.sub_self, List.set_cons_zero, edgP_append]; rfl
theorem rdMid (P Q : List (Nat × Nat)) (l : List Int) : rd_L1 (edg P ++ l :: edg Q) (P.length : Int) = l := by
  rw [rdL _ _ (by simp [edg_length]), List.getElem_append_right (by rw [edg_length]; omega)]
  simp [edg_length]
theorem con_j (a b s : Nat) (hb : b ≤ 8) (hab : a < b) (P Q : List (Nat × Nat)) (hl : P.length + Q.length ≤ 20) (x y : Nat) (hx : x ≤ 8) (hy : y ≤ 8) (R : Int × List (List Int))
    (hR : Ev (fun k => spec_l01Contract.l0 k (a : Int) (b : Int) ((P.length + 1 : Nat) : Int) (s : Int) (edg (P ++ (phi a b x, phi a b y) :: Q))) R) :
    Ev (fun k => spec_l01Contract.l1 k (a : Int) (b : Int) (P.length : Int) 0 (s : Int) (edg (P ++ (x, y) :: Q))) R := by
  have E0 : ∀ u v : Nat, edg (P ++ (u, v) :: Q) = edg P ++ [(u : Int), (v : Int)] :: edg Q := fun u v => by rw [edgP_append]; rfl
  have L0 : ∀ u v : Nat, (P.length : Int) < ((edg (P ++ (u, v) :: Q)).length : Int) := fun u v => by rw [edg_length]; simp; omega
  have G0 : ∀ u v : Nat, rd_L1 (edg (P ++ (u, v) :: Q)) (P.length : Int) = [(u : Int), (v : Int)] := fun u v => by rw [E0]; exact rdMid _ _ _
  have S0 : ∀ u v u' v' : Nat, (edg (P ++ (u, v) :: Q)).set (P.length : Int).toNat [(u' : Int), (v' : Int)] = edg (P ++ (u', v') :: Q) := fun u v u' v' => by rw [E0]; exact put2_ P Q (u', v') _
  have last : ∀ u v : Nat, Ev (fun k => spec_l01Contract.l0 k (a : Int) (b : Int) ((P.length + 1 : Nat) : Int) (s : Int) (edg (P ++ (u, v) :: Q))) R → Ev (fun k => spec_l01Contract.l1 k (a : Int) (b : Int) (P.length : Int) 2 (s : Int) (edg (P ++ (u, v) :: Q))) R := by
    intro u v h
    refine Ev.step (fun _ => rfl) (evF (by omega) ?_)
    rw [wnat (n := 40) (by omega) (by omega)]; exact h
  have w0 : wrap64 ((0 : Int) + 1) = 1 := by unfold wrap64; omega
  have w1 : wrap64 ((1 : Int) + 1) = 2 := by unfold wrap64; omega
  have one : ∀ u : Nat, u ≤ 8 → Ev (fun k => spec_l01Contract.l1 k (a : Int) (b : Int) (P.length : Int) 2 (s : Int) (edg (P ++ (u, phi a b y) :: Q))) R → Ev (fun k => spec_l01Contract.l1 k (a : Int) (b : Int) (P.length : Int) 1 (s : Int) (edg (P ++ (u, y) :: Q))) R := by
    intro u hu h
    refine Ev.step (fun _ => rfl) (evT (by omega) (evT (by omega) (evT (L0 u y) (evT (by omega) (evT (by rw [G0]; simp) ?_)))))
    rw [w1]
    have r1 : rd (rd_L1 (edg (P ++ (u, y) :: Q)) (P.length : Int)) 1 = (y : Int) := by rw [G0]; rfl
    rw [r1]
    by_cases c : y = b
    · refine evT (by omega) ?_
      rw [G0, show ([(u : Int), (y : Int)]).set (1 : Int).toNat (a : Int) = [(u : Int), (a : Int)] from rfl, S0]
      have e : phi a b y = a := by unfold phi; rw [if_pos c]
      rw [e] at h; exact h
    · refine evF (by omega) ?_
      by_cases c2 : b < y
      · refine evT (by omega) ?_
        have e : phi a b y = y - 1 := by unfold phi; rw [if_neg c, if_pos c2]
        rw [wid (by omega) (by omega), G0, show ([(u : Int), (y : Int)]).set (1 : Int).toNat ((y : Int) - 1) = [(u : Int), ((y - 1 : Nat) : Int)] from by show [(u : Int), (y : Int) - 1] = _; rw [show ((y - 1 : Nat) : Int) = (y : Int) - 1 by omega], S0]
        rw [e] at h; exact h
      · refine evF (by omega) ?_
        have e : phi a b y = y := by unfold phi; rw [if_neg c, if_neg c2]
        rw [e] at h; exact h
  have fin := fun (u : Nat) (hu : u ≤ 8) h => one u hu (last u (phi a b y) h)
  have px : phi a b x ≤ 8 := by unfold phi; split <;> (try split) <;> omega
  have H := fin (phi a b x) px hR
  refine Ev.step (fun _ => rfl) (evT (by omega) (evT (by omega) (evT (L0 x y) (evT (by omega) (evT (by rw [G0]; simp) ?_)))))
  rw [w0]
  have r0 : rd (rd_L1 (edg (P ++ (x, y) :: Q)) (P.length : Int)) 0 = (x : Int) := by rw [G0]; rfl
  rw [r0]
  by_cases c : x = b
  · refine evT (by omega) ?_
    rw [G0, show ([(x : Int), (y : Int)]).set (0 : Int).toNat (a : Int) = [(a : Int), (y : Int)] from rfl, S0]
    have e : phi a b x = a := by unfold phi; rw [if_pos c]
    rw [e] at H; exact H
  · refine evF (by omega) ?_
    by_cases c2 : b < x
    · refine evT (by omega) ?_
      have e : phi a b x = x - 1 := by unfold phi; rw [if_neg c, if_pos c2]
      rw [wid (by omega) (by omega), G0, show ([(x : Int), (y : Int)]).set (0 : Int).toNat ((x : Int) - 1) = [((x - 1 : Nat) : Int), (y : Int)] from by show [(x : Int) - 1, (y : Int)] = _; rw [show ((x - 1 : Nat) : Int) = (x : Int) - 1 by omega], S0]
      rw [e] at H; exact H
    · refine evF (by omega) ?_
      have e : phi a b x = x := by unfold phi; rw [if_neg c, if_neg c2]
      rw [e] at H; exact H
theorem con_l (a b s : Nat) (hb : b ≤ 8) (hab : a < b) (Q : List (Nat × Nat)) : ∀ P : List (Nat × Nat), P.length + Q.length ≤ 20 → (∀ p ∈ Q, p.1 ≤ 8 ∧ p.2 ≤ 8) → Ev (fun k => spec_l01Contract.l0 k (a : Int) (b : Int) (P.length : Int) (s : Int) (edg (P ++ Q))) ((s : Int), edg (P ++ phP a b Q)) := by
  induction Q with
  | nil =>
    intro P _ _
    exact Ev.step (fun _ => rfl) (evF (by rw [edg_length]; simp) (evN rfl))
  | cons q Q ih =>
    intro P hl hq
    have hl2 : P.length + (Q.length + 1) ≤ 20 := hl
    obtain ⟨h1, h2⟩ := hq q (List.mem_cons_self ..)
    have h := ih (P ++ [(phi a b q.1, phi a b q.2)]) (by simp; omega) (fun p hp => hq p (List.mem_cons_of_mem _ hp))
    rw [List.append_assoc, List.append_assoc, List.length_append] at h
    refine Ev.step (fun _ => rfl) (evT (by rw [edg_length]; simp; omega) (evT (by omega) ?_))
    exact con_j a b s hb hab P Q (by omega) q.1 q.2 h1 h2 _ h
theorem con_ (N : Nat) (hN : 2 ≤ N) (hN8 : N ≤ 8) (P : List (Nat × Nat)) (g : G8 N P) (x y : Nat) (hx : x < N) (hy : y < N) (hne : x ≠ y) :
    Ev (fun k => spec_l01Contract.f k (N : Int) (edg P ++ [[(x : Int), (y : Int)]]) ((edg P).length : Int)) (((N - 1 : Nat) : Int), edg (phP (min x y) (max x y) P)) := by
  have h10 := g.len
  have e1 : edg P ++ [[(x : Int), (y : Int)]] = edg (P ++ [(x, y)]) := by rw [edgP_append]; rfl
  have hl : (edg (P ++ [(x, y)])).length = P.length + 1 := by rw [edg_length]; simp
  have hr : rd_L1 (edg (P ++ [(x, y)])) (P.length : Int) = [(x : Int), (y : Int)] := by
    rw [edg_at _ _ (by simp)]; simp
  have D := dlt_l N P (x, y) h10 (P.length + 1) 0 (by omega)
  have C := con_l (min x y) (max x y) (N - 1) (by omega) (by omega) P [] (by simp; omega) (fun p hp => by have := g.ends p hp; omega)
  rw [e1, edg_length]
  unfold spec_l01Contract.f
  refine evT (by omega) (evT (by rw [hl]; omega) (evT (by rw [hr]; simp) (evT (by rw [hr]; simp) ?_)))
  rw [hr, show rd [(x : Int), (y : Int)] 0 = (x : Int) from rfl, show rd [(x : Int), (y : Int)] 1 = (y : Int) from rfl, mnN, mxN]
  refine Ev.bind (a := ((N : Int), edg P)) (by unfold spec_l01Delete.f; exact D) ?_
  rw [wid (by omega) (by omega), show (N : Int) - 1 = ((N - 1 : Nat) : Int) by omega]
  exact C
theorem part_spec (N : Nat) (hN : 2 ≤ N) (P : List (Nat × Nat)) (g : G8 N P) (x y : Nat) (hx : x < N) (hy : y < N) (hne : x ≠ y) :
    Ev (fun k => spec_l05Parting.f k (N : Int) (edg P) (x : Int) (y : Int)) ((cntN (2 ^ P.length) (fun s => decide (Prt N x y (selF s 0 P))) : Nat) : Int) := by
  have h8 := g.hi; have h10 := g.len
  obtain ⟨r, rfl⟩ : ∃ r, N = r + 2 := ⟨N - 2, by omega⟩
  have T := trees_spec (r + 1) (phP (min x y) (max x y) P) (g8_phP g (by omega) (by omega))
  have e := trees_phP g (a := min x y) (b := max x y) (by omega) (by omega)
  have e2 : cntN (2 ^ P.length) (fun s => decide (Prt (r + 2) (min x y) (max x y) (selF s 0 P))) = cntN (2 ^ P.length) (fun s => decide (Prt (r + 2) x y (selF s 0 P))) := by
    rcases Nat.le_total x y with h | h
    · rw [Nat.min_eq_left h, Nat.max_eq_right h]
    · rw [Nat.min_eq_right h, Nat.max_eq_left h]
      exact cntN_congr _ fun s _ => decide_eq_decide.2 (prt_flip _ _ _ _)
  rw [e, e2] at T
  unfold spec_l05Parting.f
  refine Ev.bind (cop_ (r + 2) P (by omega)) (evT (by rw [edg_length]; omega) (Ev.bind (con_ (r + 2) hN h8 P g x y hx hy hne) (Ev.bind T (evN rfl))))
theorem part_c (N : Nat) (P : List (Nat × Nat)) (g : G8 N P) (x y : Nat) (hx : x < N) (hy : y < N) (s : Nat) (hs : s < 2 ^ P.length) : Ev (fun k => impl_PartingNumber_1_c.f k (s : Int) (N : Int) (edg P) (x : Int) (y : Int)) (decide (Prt N x y (selF s 0 P))) := by
  have h8 := g.hi; have h10 := g.len
  have hc := clsImpl N h8 P (by omega) g.ends s
  have hcl : (selF s 0 P).foldl stepP (idn N) = lst N (cl (selF s 0 P)) := by
    rw [idn_lst]; exact lst_fold N _ _ (fun p hp => g.ends p (selF_mem s P 0 p hp))
  rw [hcl] at hc
  obtain ⟨_, I⟩ := parts_exact N P g s
  have C := cnt_exact P g.len s hs
  have hf := fx_le N (cl (selF s 0 P))
  have hl := selF_length s P 0
  have F : Ev (fun k => impl_Graph_isForest.f k (N : Int) (edg P) (s : Int)) (((N : Int) - (fx N (cl (selF s 0 P)) : Int)) == ((selF s 0 P).length : Int)) := by
    unfold impl_Graph_isForest.f impl_Graph_rankWith.f
    refine Ev.bind (Ev.bind I (evN rfl)) (Ev.bind C (evN ?_))
    rw [wid (by omega) (by omega)]
  obtain ⟨_, K⟩ := cnt_fx N (by omega) (cl (selF s 0 P)) N 0 (by omega)
  have K2 : Ev (fun k => impl_countParts.f k (lst N (cl (selF s 0 P)))) ((fx N (cl (selF s 0 P)) : Nat) : Int) := by
    unfold impl_countParts.f
    rw [lst_length]; exact K
  unfold impl_PartingNumber_1_c.f
  refine Ev.bind hc (Ev.bind F ?_)
  by_cases q : (N : Int) - (fx N (cl (selF s 0 P)) : Int) = ((selF s 0 P).length : Int)
  · refine evT (by simpa using q) (Ev.bind K2 ?_)
    by_cases q2 : fx N (cl (selF s 0 P)) = 2
    · refine evT (by omega) (evT (by omega) (evT (by rw [lst_length]; omega) (evT (by omega) (evT (by rw [lst_length]; omega) (evN ?_)))))
      rw [lst_at N _ x hx, lst_at N _ y hy]
      by_cases e : cl (selF s 0 P) x = cl (selF s 0 P) y
      · rw [e, decide_eq_false (fun z => z.1 e)]; simp
      · rw [decide_eq_true ⟨e, q2, by omega⟩]
        simp; omega
    · refine evF (by omega) (evN ?_)
      rw [decide_eq_false (fun z => q2 z.2.1)]
  · refine evF (by simpa using q) (evN ?_)
    rw [decide_eq_false (fun z => q (by have := z.2.1; have := z.2.2; omega))]
theorem pn_l (N : Nat) (P : List (Nat × Nat)) (g : G8 N P) (x y : Nat) (hx : x < N) (hy : y < N) (d : Nat) : ∀ (i : Nat) (l : List Int), i + d = 2 ^ P.length → l.length = cntN i (fun s => decide (Prt N x y (selF s 0 P))) → ∃ z : List Int, z.length = cntN (2 ^ P.length) (fun s => decide (Prt N x y (selF s 0 P))) ∧ Ev (fun k => impl_Graph_subsets_of_PartingNumber_1.l0 k l ((2 ^ P.length : Nat) : Int) (i : Int) (N : Int) (edg P) (x : Int) (y : Int)) z := by
  have h10 := g.len
  have hp : 2 ^ P.length ≤ 2 ^ 10 := Nat.pow_le_pow_right (by omega) h10
  induction d with
  | zero =>
    intro i l hi hl
    exact ⟨l, by rw [hl, show i = 2 ^ P.length by omega], Ev.step (fun _ => rfl) (evF (by omega) (evN rfl))⟩
  | succ d ih =>
    intro i l hi hl
    have C := part_c N P g x y hx hy i (by omega)
    have le := cntN_le (fun s => decide (Prt N x y (selF s 0 P))) i
    have st : cntN (i + 1) (fun s => decide (Prt N x y (selF s 0 P))) = cntN i (fun s => decide (Prt N x y (selF s 0 P))) + if decide (Prt N x y (selF i 0 P)) = true then 1 else 0 := rfl
    by_cases c : decide (Prt N x y (selF i 0 P)) = true
    · obtain ⟨z, hz, h⟩ := ih (i + 1) (l ++ [(i : Int)]) (by omega) (by rw [st, if_pos c, List.length_append, hl]; rfl)
      refine ⟨z, hz, Ev.step (fun _ => rfl) (evT (by omega) (Ev.bind C (evT c (evT (by omega) ?_))))⟩
      rw [wnat (n := 2048) (by omega) (by omega)]; exact h
    · obtain ⟨z, hz, h⟩ := ih (i + 1) l (by omega) (by rw [st, if_neg c, hl]; rfl)
      refine ⟨z, hz, Ev.step (fun _ => rfl) (evT (by omega) (Ev.bind C (evF c ?_)))⟩
      rw [wnat (n := 2048) (by omega) (by omega)]; exact h
theorem part_impl (N : Nat) (P : List (Nat × Nat)) (g : G8 N P) (x y : Nat) (hx : x < N) (hy : y < N) : Ev (fun k => impl_counted_of_PartingNumber_1.f k (N : Int) (edg P) (N : Int) (edg P) (x : Int) (y : Int)) (((cntN (2 ^ P.length) (fun s => decide (Prt N x y (selF s 0 P))) : Nat) : Int), (0 : Int)) := by
  have h2 := isImpl (N : Int) (edg P) (by rw [edg_length]; have := g.len; omega)
  have h10 := g.len
  obtain ⟨z, hz, I⟩ := pn_l N P g x y hx hy (2 ^ P.length) 0 [] (by omega) rfl
  have S : Ev (fun k => impl_Graph_subsets_of_PartingNumber_1.f k (N : Int) (edg P) (N : Int) (edg P) (x : Int) (y : Int)) z := by
    unfold impl_Graph_subsets_of_PartingNumber_1.f
    refine evB (a := (P.length : Int)) (by unfold impl_Graph_size.f; rw [edg_length]) (evT (by omega) ?_)
    rw [shlP _ h10]; exact I
  unfold impl_counted_of_PartingNumber_1.f
  refine Ev.bind h2 ?_
  have v : VG (N : Int) (edg P) = true := by
    unfold VG
    have a1 := g.lo; have a2 := g.hi
    rw [decide_eq_true (by omega : (1 : Int) ≤ (N : Int)), decide_eq_true (by omega : (N : Int) ≤ 8), edg_length, decide_eq_true h10]
    simp only [Bool.and_self, Bool.true_and, List.all_eq_true]
    intro e he
    obtain ⟨p, hp, rfl⟩ := List.mem_map.1 he
    have := g.ends p hp
    unfold okE
    simp; omega
  rw [v]
  exact evT rfl (Ev.bind S (evN (by rw [hz])))
theorem pcode (n : Int) (E : List (List Int)) (hE : E.length ≤ 1048576) (hn : (Lit.int .i64 n).wf = true) (a b : Int) : ∃ c : Int, Ev (fun k => spec_l05Two.f k n E a b) c ∧ Ev (fun k => impl_pairCode.f k n E a b) c ∧
    (c = 0 → ∃ N P x y, n = ((N : Nat) : Int) ∧ E = edg P ∧ G8 N P ∧ a = ((x : Nat) : Int) ∧ b = ((y : Nat) : Int) ∧ x < N ∧ y < N ∧ x ≠ y) := by
  have h1 := isSpec n E hE; have h2 := isImpl n E hE
  unfold spec_l05Two.f impl_pairCode.f impl_graphCode_of_pairCode_1.f impl_pairCode_1_c.f
  by_cases h : VG n E = true
  · rw [h] at h1 h2
    obtain ⟨N, P, rfl, rfl, g⟩ := VG_true h
    have lo := g.lo; have hi := g.hi
    have hw : wrap64 ((N : Int) - 1) = (N : Int) - 1 := wid (by omega) (by omega)
    obtain ⟨a1, a2⟩ := inP a 0 (wrap64 ((N : Int) - 1))
    obtain ⟨b1, b2⟩ := inP b 0 (wrap64 ((N : Int) - 1))
    rw [hw] at a1 a2 b1 b2
    rw [hw]
    by_cases ca : 0 ≤ a ∧ a ≤ (N : Int) - 1
    · rw [decide_eq_true ca] at a1 a2
      by_cases cb : 0 ≤ b ∧ b ≤ (N : Int) - 1
      · rw [decide_eq_true cb] at b1 b2
        by_cases e : a = b
        · exact ⟨2, Ev.bind h1 (evT rfl (Ev.bind (evN a1) (evT rfl (Ev.bind (evN b1) (evT rfl (evT e (evN rfl))))))), Ev.bind (Ev.bind h2 (evT rfl (Ev.bind (evT e (evN rfl)) (evF (by simp) (evN rfl))))) (evN rfl), fun z => absurd z (by omega)⟩
        · exact ⟨0, Ev.bind h1 (evT rfl (Ev.bind (evN a1) (evT rfl (Ev.bind (evN b1) (evT rfl (evF e (evN rfl))))))), Ev.bind (Ev.bind h2 (evT rfl (Ev.bind (evF e (Ev.bind (evN a2) (evT rfl (Ev.bind (evN b2) (evN rfl))))) (evT rfl (evN rfl))))) (evN rfl), fun _ => ⟨N, P, a.toNat, b.toNat, rfl, rfl, g, by omega, by omega, by omega, by omega, by omega⟩⟩
      · rw [decide_eq_false cb] at b1 b2
        refine ⟨2, Ev.bind h1 (evT rfl (Ev.bind (evN a1) (evT rfl (Ev.bind (evN b1) (evF (by simp) (evN rfl)))))), ?_, fun z => absurd z (by omega)⟩
        exact Ev.bind (Ev.bind h2 (evT rfl (Ev.bind (evF (fun e => cb (e ▸ ca)) (Ev.bind (evN a2) (evT rfl (Ev.bind (evN b2) (evN rfl))))) (evF (by simp) (evN rfl))))) (evN rfl)
    · rw [decide_eq_false ca] at a1 a2
      refine ⟨2, Ev.bind h1 (evT rfl (Ev.bind (evN a1) (evF (by simp) (evN rfl)))), ?_, fun z => absurd z (by omega)⟩
      by_cases e : a = b
      · exact Ev.bind (Ev.bind h2 (evT rfl (Ev.bind (evT e (evN rfl)) (evF (by simp) (evN rfl))))) (evN rfl)
      · exact Ev.bind (Ev.bind h2 (evT rfl (Ev.bind (evF e (Ev.bind (evN a2) (evF (by simp) (evN rfl)))) (evF (by simp) (evN rfl))))) (evN rfl)
  · rw [Bool.eq_false_iff.2 h] at h1 h2
    exact ⟨1, Ev.bind h1 (evF (by simp) (evN rfl)), Ev.bind (Ev.bind h2 (evF (by simp) (evN rfl))) (evN rfl), fun z => absurd z (by omega)⟩
theorem part_both (n : Int) (E : List (List Int)) (hE : E.length ≤ 1048576) (hn : (Lit.int .i64 n).wf = true) (a b : Int) : ∃ r, Ev (fun k => spec_PartingNumber.f k n E a b) r ∧ Ev (fun k => impl_PartingNumber.f k n E a b) r := by
  obtain ⟨c, s, i, h⟩ := pcode n E hE hn a b
  unfold spec_PartingNumber.f impl_PartingNumber.f
  by_cases z : c = 0
  · obtain ⟨N, P, x, y, rfl, rfl, g, rfl, rfl, hx, hy, hne⟩ := h z
    subst z
    exact ⟨_, Ev.bind s (evT rfl (Ev.bind (part_spec N (by omega) P g x y hx hy hne) (evN rfl))), Ev.bind i (evT rfl (Ev.bind (part_impl N P g x y hx hy) (evN rfl)))⟩
  · exact ⟨(0, c), Ev.bind s (evF z (evN rfl)), Ev.bind i (evF z (evN rfl))⟩
end Go.Proofs.Ytbchnmplooafpaa.Q
end
section
namespace Go.Proofs.Ytbchnmplooafpaa.Q
open Go.RowKit Go.Proofs.Ytbchnmplooafpaa.X Go.Proofs.Ytbchnmplooafpaa.Dt Go.Proofs.YtbchnmplooafpaaW.PrintWords Go.Proofs.YtbchnmplooafpaaW.PrintLast Go.Proofs.YtbchnmplooafpaaW.PrintMore
set_option linter.unusedVariables false
theorem FnExactPartingNumber (n : Int) (E : List (List Int)) (a b : Int) (hn : (Lit.int .i64 n).wf = true) (hE : E.length ≤ 9223372036854775807) (ha : ∀ l ∈ E, l.length ≤ 9223372036854775807 ∧ ∀ x ∈ l, (Lit.int .i64 x).wf = true) (hq : (Lit.int .i64 a).wf = true) (hq2 : (Lit.int .i64 b).wf = true) : ∃ k, laws_FnExactPartingNumber.f k n E a b = some true := by
  apply Ev.rounds
  unfold laws_FnExactPartingNumber.f
  obtain ⟨t, ht, hp⟩ := szGraph n E hE (fun l hl => (ha l hl).1)
  refine Ev.bind ht ?_
  rcases hp with hp | ⟨_, _, h1, h2⟩
  · exact evT hp (evN rfl)
  · refine evF (by omega) ?_
    have hG := toGraph n E h1 h2
    obtain ⟨⟨b, c⟩, hs, hi⟩ := part_both n E h1 hn a b
    refine Ev.bind hG (Ev.bind hs (Ev.bind hG (Ev.bind hi (evT rfl ?_))))
    refine Ev.step (fun _ => rfl) (evF (by simp) (Ev.bind hG (Ev.bind (eqGraph_self n E h1 h2) (evT rfl (evN rfl)))))
end Go.Proofs.Ytbchnmplooafpaa.Q
end
section
namespace Go.Proofs.Ytbchnmplooafpaa.Gr
open Go.ChangeShapes Go.WideShapes Go.ChangeAt Go.RowKit Go.Deep Go.Proofs.YtbchnmplooafpaaW.PrintWords
set_option linter.unusedVariables false
theorem rows_C {w : World} {a : Addr} {len cap : Nat} {A : Nat → Option Addr} {L C : Nat → Nat} {Z : Nat → List Int} (hl : len ≤ cap) (hm : cap ≤ maxLen)
    (h : ∀ r, r < cap → w.cell? (a.add r) = some (.slice (A r) (L r) (C r)) ∧ L r ≤ C r ∧ C r ≤ maxLen ∧ (Z r).length = C r ∧ (∀ n ∈ Z r, (Lit.int .i64 n).wf = true) ∧ (A r = none → C r = 0) ∧
        ∀ a', A r = some a' → 0 ≤ a'.block ∧ ∀ c, c < C r → w.cell? (a'.add c) = some (.int .i64 ((Z r).getD c 0))) :
    ∃ ls : List (List Int), ls.length = len ∧ Kd.C (Kd.slice 2 (Kd.int .i64)) w (some a) ls.length ls ∧ ∀ l ∈ ls, l.length ≤ maxLen ∧ ∀ n ∈ l, (Lit.int .i64 n).wf = true := by
  refine ⟨(List.range len).map fun r => (Z r).take (L r), by simp, ?_, ?_⟩
  · simp only [maxLen] at hm
    refine ⟨by simp, by simp; omega, fun _ => ⟨a, rfl, fun j p hj => ?_⟩⟩
    have hj1 : j < len := by
      have := (List.getElem?_eq_some_iff.1 hj).1
      simpa using this
    have hp : p = (Z j).take (L j) := by
      have : ((List.range len).map fun r => (Z r).take (L r))[j]? = some ((Z j).take (L j)) := by simp [hj1]
      rw [this] at hj
      exact (Option.some.inj hj).symm
    subst hp
    obtain ⟨h1, h2, h3, h4, h5, h6, h7⟩ := h j (by omega)
    have hl1 : ((Z j).take (L j)).length = L j := by rw [List.length_take]; omega
    refine ⟨[.slice (A j) (L j) (C j)], rfl, ?_, ?_⟩
    · refine ⟨A j, C j, by rw [hl1], by rw [hl1]; exact h2, ?_⟩
      simp only [maxLen] at h3
      refine ⟨rfl, by rw [hl1]; omega, fun hpos => ?_⟩
      rcases ha : A j with _ | a'
      · have := h6 ha; omega
      · refine ⟨a', rfl, fun i x hi => ⟨[.int .i64 x], rfl, rfl, fun q u hu => ?_⟩⟩
        have hi1 : i < L j := by have := (List.getElem?_eq_some_iff.1 hi).1; omega
        have hx : (Z j).getD i 0 = x := by
          rw [List.getElem?_take] at hi
          rw [if_pos hi1] at hi
          rw [List.getD_eq_getElem?_getD, hi]; rfl
        cases q with
        | zero =>
          simp only [List.getElem?_cons_zero, Option.some.injEq] at hu
          subst hu
          have := (h7 a' ha).2 i (by omega)
          rw [hx] at this
          simpa [show (Kd.int .i64).sz = 1 from rfl] using this
        | succ q => simp at hu
    · intro i u hu
      cases i with
      | zero =>
        simp only [List.getElem?_cons_zero, Option.some.injEq] at hu
        subst hu
        simpa [show (Kd.slice 2 (Kd.int .i64)).sz = 1 from rfl] using h1
      | succ i => simp at hu
  · intro l hl1
    simp only [List.mem_map, List.mem_range] at hl1
    obtain ⟨r, hr, rfl⟩ := hl1
    obtain ⟨h1, h2, h3, h4, h5, h6, h7⟩ := h r (by omega)
    exact ⟨by rw [List.length_take]; omega, fun n hn => h5 n (List.mem_of_mem_take hn)⟩
theorem open_rows {H : Type} {enc : TypeId × Value → H} {P : Program} {w : World} {held : Bool} {t e : TypeId} {fuel : Nat} {v : Value} {x : DataW H × List MemPlace} (ht : P.underlying t = some (.slice e)) (he : P.underlying e = some (.slice 2)) (hq : P.underlying 2 = some (.int .i64))
    (ce : P.cellsOf e = 1) (cq : P.cellsOf 2 = 1) (h : DataW.trod enc P w 0 (fun _ => true) held fuel t [v] = some x) :
    ∃ (A : Option Addr) (cap : Nat) (ls : List (List Int)), v = .slice A ls.length cap ∧ ls.length ≤ cap ∧ cap ≤ maxLen ∧ Kd.C (Kd.slice 2 (Kd.int .i64)) w A ls.length ls ∧ ∀ l ∈ ls, l.length ≤ maxLen ∧ ∀ n ∈ l, (Lit.int .i64 n).wf = true := by
  rcases open_int_rows ht he hq ce cq h with ⟨hcs, _⟩ | ⟨a, len, cap, A, L, C, Z, hcs, _, hl, hm, _, hr⟩
  · obtain rfl : v = .slice none 0 0 := by simpa using hcs
    exact ⟨none, 0, [], rfl, by simp, by simp, Kd.C_nil _ _, by simp⟩
  · obtain rfl : v = .slice (some a) len cap := by simpa using hcs
    obtain ⟨ls, rfl, hC, hall⟩ := rows_C hl hm hr
    exact ⟨some a, cap, ls, rfl, hl, hm, hC, hall⟩
theorem open_graph {H : Type} {enc : TypeId × Value → H} {P : Program} {w : World} {held : Bool} {r : Reach} {b0 : Nat} {t e q : TypeId} {f0 f1 : Field} {v : Value} {d : DataW H} {p : List MemPlace} (hs : P.underlying t = some (.struct #[f0, f1])) (h0 : f0.type = 2) (h1 : f1.type = e)
    (he : P.underlying e = some (.slice q)) (hq : P.underlying q = some (.slice 2)) (hi : P.underlying 2 = some (.int .i64)) (hone : oneCellFields P #[f0, f1] = true) (hC : P.cellsOf t = 2) (cq : P.cellsOf q = 1) (ci : P.cellsOf 2 = 1)
    (hv : Value.okWide P w r b0 t v) (h : DataW.Trod enc P w 0 (fun _ => true) held t v d p) :
    ∃ (n : Int) (A : Option Addr) (cap : Nat) (ls : List (List Int)), v = .agg #[.int .i64 n, .slice A ls.length cap] ∧ (Lit.int .i64 n).wf = true ∧ ls.length ≤ cap ∧ ls.length ≤ 9223372036854775807 ∧ Kd.C (Kd.slice 2 (Kd.int .i64)) w A ls.length ls ∧ ∀ l ∈ ls, l.length ≤ 9223372036854775807 ∧ ∀ n ∈ l, (Lit.int .i64 n).wf = true := by
  obtain ⟨v0, v1, y0, y1, n, rfl, rfl, rfl, t0, t1⟩ := Joins.open_agg2 hs hone hC hv h
  subst h1
  rw [h0] at t0
  obtain ⟨z, hz, _, hw⟩ := DataW.trod_int hi t0
  obtain rfl : v0 = .int .i64 z := by simpa using hz
  obtain ⟨A, cap, ls, rfl, hl, hm, hC1, hall⟩ := open_rows he hq hi cq ci t1
  simp only [maxLen] at hm hall
  exact ⟨z, A, cap, ls, rfl, hw, hl, by omega, hC1, hall⟩
end Go.Proofs.Ytbchnmplooafpaa.Gr
end
