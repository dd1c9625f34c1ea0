/- Words, what the functions that FnExactTreesWith reaches compute, and the plain laws on it; part 6. -/
import Derived.Deep.Matrix
import Derived.Lib.SmallJoins
import Derived.WalkKit
import Derived.ProofKit
import Derived.OpenShut
import Derived.ChangeOld
import Derived.Below
import Derived.SizedLaws
import Derived.Test.YtbchnmplooafpaaJFnExactTreesWith5
section
namespace Go.Proofs.Ytbchnmplooafpaa.Q
open Go.RowKit Go.Proofs.Ytbchnmplooafpaa.X Go.Proofs.Ytbchnmplooafpaa.Dt Go.Proofs.YtbchnmplooafpaaW.PrintWords Go.Proofs.YtbchnmplooafpaaW.PrintLast Go.Proofs.YtbchnmplooafpaaW.PrintMore
set_option linter.unusedVariables false
theorem wr_far (x q : Int) : wrap64 (x + 18446744073709551616 * q) = wrap64 x := by unfold wrap64; omega
theorem wr_form (x : Int) : ∃ q, wrap64 x = x + 18446744073709551616 * q := by
  refine ⟨(wrap64 x - x) / 18446744073709551616, ?_⟩
  unfold wrap64; omega
theorem w0 : wrap64 0 = 0 := by unfold wrap64; omega
theorem wr_add (x y : Int) : wrap64 (wrap64 x + wrap64 y) = wrap64 (x + y) := by unfold wrap64; omega
theorem wr_addl (x y : Int) : wrap64 (wrap64 x + y) = wrap64 (x + y) := by unfold wrap64; omega
theorem wr_neg (x : Int) : wrap64 (- wrap64 x) = wrap64 (- x) := by unfold wrap64; omega
theorem wr_mul (x y : Int) : wrap64 (wrap64 x * wrap64 y) = wrap64 (x * y) := by
  obtain ⟨q, hq⟩ := wr_form x; obtain ⟨p, hp⟩ := wr_form y
  rw [hq, hp, show (x + 18446744073709551616 * q) * (y + 18446744073709551616 * p) = x * y + 18446744073709551616 * (x * p + q * y + 18446744073709551616 * (q * p)) by grind, wr_far]
theorem wr_zero {x : Int} (h : wrap64 x = 0) (y z : Int) : wrap64 (z + x * y) = wrap64 z := by
  obtain ⟨q, hq⟩ := wr_form x
  have : x * y = 18446744073709551616 * (- q * y) := by
    have e : x = 18446744073709551616 * (- q) := by omega
    rw [e]; grind
  rw [this, wr_far]
def wrow (n : Nat) (R : Nat → Int) : List Int := (List.range n).map fun j => wrap64 (R j)
def wmat (n : Nat) (F : Nat → Nat → Int) : List (List Int) := (List.range n).map fun i => wrow n (F i)
theorem wrow_length (n : Nat) (R : Nat → Int) : (wrow n R).length = n := by simp [wrow]
theorem wmat_length (n : Nat) (F : Nat → Nat → Int) : (wmat n F).length = n := by simp [wmat]
theorem wrow_at (n : Nat) (R : Nat → Int) (j : Nat) (h : j < n) : rd (wrow n R) (j : Int) = wrap64 (R j) := by rw [rd_at _ _ (by rw [wrow_length]; exact h)]; simp [wrow]
theorem wmat_at (n : Nat) (F : Nat → Nat → Int) (i : Nat) (h : i < n) : rd_L1 (wmat n F) (i : Int) = wrow n (F i) := by rw [rdL _ _ (by rw [wmat_length]; exact h)]; simp [wmat]
theorem wrow_congr {n : Nat} {R R' : Nat → Int} (h : ∀ j, j < n → wrap64 (R j) = wrap64 (R' j)) : wrow n R = wrow n R' := by
  unfold wrow; exact List.map_congr_left fun j hj => h j (List.mem_range.1 hj)
theorem wmat_congr {n : Nat} {F F' : Nat → Nat → Int} (h : ∀ i j, i < n → j < n → wrap64 (F i j) = wrap64 (F' i j)) : wmat n F = wmat n F' := by
  unfold wmat; exact List.map_congr_left fun i hi => wrow_congr fun j hj => h i j (List.mem_range.1 hi) hj
theorem wrow_set (n : Nat) (R : Nat → Int) (b : Nat) (v : Int) : (wrow n R).set b (wrap64 v) = wrow n (fun j => if j = b then v else R j) := by
  apply List.ext_getElem
  · simp [wrow]
  · intro j h1 h2
    simp only [wrow, List.getElem_set, List.getElem_map, List.getElem_range]
    split <;> (split <;> first | rfl | omega)
theorem wmat_set (n : Nat) (F : Nat → Nat → Int) (a : Nat) (R : Nat → Int) : (wmat n F).set a (wrow n R) = wmat n (fun i => if i = a then R else F i) := by
  apply List.ext_getElem
  · simp [wmat]
  · intro j h1 h2
    simp only [wmat, List.getElem_set, List.getElem_map, List.getElem_range]
    split <;> (split <;> first | rfl | omega)
theorem wmat_put (n : Nat) (F : Nat → Nat → Int) (a b : Nat) (v : Int) (ha : a < n) : (wmat n F).set a ((rd_L1 (wmat n F) (a : Int)).set b (wrap64 v)) = wmat n (fun i j => if i = a ∧ j = b then v else F i j) := by
  rw [wmat_at n F a ha, wrow_set, wmat_set]
  congr 1; funext i
  split
  · rename_i h; subst h; funext j; simp
  · rename_i h; funext j; simp [h]
theorem wmat_zero (n : Nat) : List.replicate n (List.replicate n (0 : Int)) = wmat n (fun _ _ => 0) := by
  apply List.ext_getElem
  · simp [wmat]
  · intro j h1 h2
    simp only [wmat, wrow, List.getElem_replicate, List.getElem_map]
    apply List.ext_getElem
    · simp
    · intro i h3 h4; simp; exact w0.symm
def mul (n : Nat) (F G : Nat → Nat → Int) : Nat → Nat → Int := fun i j => sm n fun l => F i l * G l j
theorem sq_l (N : Nat) (hN : N ≤ 20) (d : Nat) : ∀ i : Nat, i + d = N → Ev (fun k => impl_square.l0 k (N : Int) (List.replicate i (List.replicate N 0)) (N : Int) (i : Int)) (List.replicate N (List.replicate N 0)) := by
  induction d with
  | zero => intro i hi; obtain rfl : i = N := by omega
            exact Ev.step (fun _ => rfl) (evF (by omega) (evN rfl))
  | succ d ih =>
    intro i hi
    refine Ev.step (fun _ => rfl) (evT (by omega) (evT (by omega) (evT (by omega) (evT (by simp; omega) ?_))))
    rw [wnat (n := N) (by omega) (by omega), Int.toNat_natCast, ← List.replicate_succ']
    exact ih (i + 1) (by omega)
theorem square_ (N : Nat) (hN : N ≤ 20) : Ev (fun k => impl_square.f k (N : Int)) (wmat N (fun _ _ => 0)) := by
  rw [← wmat_zero]; unfold impl_square.f; exact sq_l N hN N 0 (by omega)
theorem times_l2 (n : Nat) (hn : n ≤ 20) (F G : Nat → Nat → Int) (i l : Nat) (hi : i < n) (hl : l < n) (H : Nat → Nat → Int) (r : List (List Int))
    (hr : Ev (fun k => impl_rowsTimes.l1 k (wmat n G) (wmat n (fun a b => if a = i ∧ b < n then H a b + F i l * G l b else H a b)) (i : Int) (wmat n F) (n : Int) (i : Int) (wrow n (F i)) (n : Int) ((l + 1 : Nat) : Int)) r) (d : Nat) : ∀ j : Nat, j + d = n →
    Ev (fun k => impl_rowsTimes.l2 k (wmat n G) (wmat n (fun a b => if a = i ∧ b < j then H a b + F i l * G l b else H a b)) (i : Int) (wrap64 (F i l)) (wmat n F) (n : Int) (i : Int) (wrow n (F i)) (n : Int) (l : Int) (wrow n (G l)) (n : Int) (j : Int)) r := by
  induction d with
  | zero =>
    intro j hj; obtain rfl : j = n := by omega
    refine Ev.step (fun _ => rfl) (evF (by omega) ?_)
    rw [wnat (n := j) (i := l) (by omega) (by omega)]; exact hr
  | succ d ih =>
    intro j hj
    refine Ev.step (fun _ => rfl) (evT (by omega) (evT (by omega) (evT (by rw [wrow_length]; omega) (evT (by omega) (evT (by rw [wmat_length]; omega) (evT (by rw [wmat_at n _ i hi, wrow_length]; omega) ?_))))))
    have h := ih (j + 1) (by omega)
    have e : (wmat n (fun a b => if a = i ∧ b < j then H a b + F i l * G l b else H a b)).set ((i : Int)).toNat ((rd_L1 (wmat n (fun a b => if a = i ∧ b < j then H a b + F i l * G l b else H a b)) (i : Int)).set ((j : Int)).toNat (wrap64 (rd (rd_L1 (wmat n (fun a b => if a = i ∧ b < j then H a b + F i l * G l b else H a b)) (i : Int)) (j : Int) + wrap64 (wrap64 (F i l) * rd (wrow n (G l)) (j : Int))))) = wmat n (fun a b => if a = i ∧ b < j + 1 then H a b + F i l * G l b else H a b) := by
      rw [Int.toNat_natCast, Int.toNat_natCast]
      have e1 : wrap64 (rd (rd_L1 (wmat n (fun a b => if a = i ∧ b < j then H a b + F i l * G l b else H a b)) (i : Int)) (j : Int) + wrap64 (wrap64 (F i l) * rd (wrow n (G l)) (j : Int))) = wrap64 (H i j + F i l * G l j) := by
        rw [wmat_at n _ i hi, wrow_at n _ j (by omega), wrow_at n _ j (by omega), wr_mul, wr_add, if_neg (by omega)]
      rw [e1, wmat_put n _ i j _ hi]
      congr 1; funext a b
      by_cases q : a = i ∧ b = j
      · rw [if_pos q, if_pos ⟨q.1, by omega⟩, q.1, q.2]
      · rw [if_neg q]
        by_cases q2 : a = i ∧ b < j
        · rw [if_pos q2, if_pos ⟨q2.1, by omega⟩]
        · rw [if_neg q2, if_neg (by omega)]
    rw [e, wnat (n := n) (by omega) (by omega)]
    exact h
theorem times_l1 (n : Nat) (hn : n ≤ 20) (F G : Nat → Nat → Int) (i : Nat) (hi : i < n) (H : Nat → Nat → Int) (r : List (List Int))
    (hr : Ev (fun k => impl_rowsTimes.l0 k (wmat n G) (wmat n (fun a b => if a = i then H a b + sm n (fun l => F i l * G l b) else H a b)) (wmat n F) (n : Int) ((i + 1 : Nat) : Int)) r) (d : Nat) : ∀ l : Nat, l + d = n →
    Ev (fun k => impl_rowsTimes.l1 k (wmat n G) (wmat n (fun a b => if a = i then H a b + sm l (fun l => F i l * G l b) else H a b)) (i : Int) (wmat n F) (n : Int) (i : Int) (wrow n (F i)) (n : Int) (l : Int)) r := by
  induction d with
  | zero =>
    intro l hl; obtain rfl : l = n := by omega
    refine Ev.step (fun _ => rfl) (evF (by omega) ?_)
    rw [wnat (n := l) (i := i) (by omega) (by omega)]; exact hr
  | succ d ih =>
    intro l hl
    have h := ih (l + 1) (by omega)
    refine Ev.step (fun _ => rfl) (evT (by omega) (evT (by omega) (evT (by rw [wrow_length]; omega) ?_)))
    rw [wrow_at n _ l (by omega)]
    by_cases hz : wrap64 (F i l) = 0
    · refine evT hz ?_
      rw [wnat (n := n) (by omega) (by omega)]
      have e : wmat n (fun a b => if a = i then H a b + sm l (fun l => F i l * G l b) else H a b) = wmat n (fun a b => if a = i then H a b + sm (l + 1) (fun l => F i l * G l b) else H a b) := by
        refine wmat_congr fun a b _ _ => ?_
        by_cases q : a = i
        · rw [if_pos q, if_pos q]
          show _ = wrap64 (H a b + (sm l (fun l => F i l * G l b) + F i l * G l b))
          rw [← Int.add_assoc, wr_zero hz]
        · rw [if_neg q, if_neg q]
      rw [e]; exact h
    · refine evF hz (evT (by rw [wmat_length]; omega) ?_)
      rw [wmat_at n G l (by omega), wrow_length]
      have h2 := times_l2 n hn F G i l hi (by omega) (fun a b => if a = i then H a b + sm l (fun l => F i l * G l b) else H a b) r ?_ n 0 (by omega)
      · have e : wmat n (fun a b => if a = i ∧ b < 0 then (if a = i then H a b + sm l (fun l => F i l * G l b) else H a b) + F i l * G l b else if a = i then H a b + sm l (fun l => F i l * G l b) else H a b) = wmat n (fun a b => if a = i then H a b + sm l (fun l => F i l * G l b) else H a b) := by
          congr 1; funext a b; rw [if_neg (by omega)]
        rw [e] at h2; exact h2
      · have e : wmat n (fun a b => if a = i ∧ b < n then (if a = i then H a b + sm l (fun l => F i l * G l b) else H a b) + F i l * G l b else if a = i then H a b + sm l (fun l => F i l * G l b) else H a b) = wmat n (fun a b => if a = i then H a b + sm (l + 1) (fun l => F i l * G l b) else H a b) := by
          refine wmat_congr fun a b _ hb => ?_
          by_cases q : a = i
          · rw [if_pos ⟨q, hb⟩, if_pos q, if_pos q, Int.add_assoc]; rfl
          · rw [if_neg (fun z => q z.1), if_neg q, if_neg q]
        rw [e]; exact h
theorem times_l0 (n : Nat) (hn : n ≤ 20) (F G : Nat → Nat → Int) (d : Nat) : ∀ i : Nat, i + d = n →
    Ev (fun k => impl_rowsTimes.l0 k (wmat n G) (wmat n (fun a b => if a < i then mul n F G a b else 0)) (wmat n F) (n : Int) (i : Int)) (wmat n (mul n F G)) := by
  induction d with
  | zero =>
    intro i hi; obtain rfl : i = n := by omega
    refine Ev.step (fun _ => rfl) (evF (by omega) (evN ?_))
    congr 1
    exact wmat_congr fun a b ha _ => by rw [if_pos ha]
  | succ d ih =>
    intro i hi
    refine Ev.step (fun _ => rfl) (evT (by omega) (evT (by omega) (evT (by rw [wmat_length]; omega) ?_)))
    rw [wmat_at n F i (by omega), wrow_length]
    have h := times_l1 n hn F G i (by omega) (fun a b => if a < i then mul n F G a b else 0) (wmat n (mul n F G)) ?_ n 0 (by omega)
    · have e : wmat n (fun a b => if a = i then (if a < i then mul n F G a b else 0) + sm 0 (fun l => F i l * G l b) else if a < i then mul n F G a b else 0) = wmat n (fun a b => if a < i then mul n F G a b else 0) := by
        refine wmat_congr fun a b _ _ => ?_
        by_cases q : a = i
        · rw [if_pos q]; show wrap64 (_ + 0) = _; rw [Int.add_zero]
        · rw [if_neg q]
      rw [e] at h; exact h
    · have e : wmat n (fun a b => if a = i then (if a < i then mul n F G a b else 0) + sm n (fun l => F i l * G l b) else if a < i then mul n F G a b else 0) = wmat n (fun a b => if a < i + 1 then mul n F G a b else 0) := by
        refine wmat_congr fun a b _ _ => ?_
        by_cases q : a = i
        · subst q; rw [if_pos rfl, if_neg (by omega), if_pos (by omega), Int.zero_add]; rfl
        · rw [if_neg q]
          by_cases q2 : a < i
          · rw [if_pos q2, if_pos (by omega)]
          · rw [if_neg q2, if_neg (by omega)]
      rw [e]; exact ih (i + 1) (by omega)
theorem rowsTimes_ (n : Nat) (hn : n ≤ 20) (F G : Nat → Nat → Int) : Ev (fun k => impl_rowsTimes.f k (wmat n F) (wmat n G)) (wmat n (mul n F G)) := by
  unfold impl_rowsTimes.f
  rw [wmat_length]
  refine Ev.bind (square_ n hn) ?_
  have h := times_l0 n hn F G n 0 (by omega)
  have e : wmat n (fun a b => if a < 0 then mul n F G a b else 0) = wmat n (fun _ _ => 0) := by
    congr 1
  rw [e] at h; exact h
theorem trace_l (n : Nat) (hn : n ≤ 20) (F : Nat → Nat → Int) (d : Nat) : ∀ i : Nat, i + d = n → Ev (fun k => impl_trace.l0 k (wrap64 (sm i fun l => F l l)) (wmat n F) (n : Int) (i : Int)) (wrap64 (sm n fun l => F l l)) := by
  induction d with
  | zero => intro i hi; obtain rfl : i = n := by omega
            exact Ev.step (fun _ => rfl) (evF (by omega) (evN rfl))
  | succ d ih =>
    intro i hi
    refine Ev.step (fun _ => rfl) (evT (by omega) (evT (by omega) (evT (by rw [wmat_length]; omega) (evT (by rw [wmat_at n F i (by omega), wrow_length]; omega) ?_))))
    rw [wmat_at n F i (by omega), wrow_at n _ i (by omega), wr_add, wnat (n := n) (by omega) (by omega)]
    exact ih (i + 1) (by omega)
theorem trace_ (n : Nat) (hn : n ≤ 20) (F : Nat → Nat → Int) : Ev (fun k => impl_trace.f k (wmat n F)) (wrap64 (sm n fun l => F l l)) := by
  unfold impl_trace.f
  rw [wmat_length]
  have h := trace_l n hn F n 0 (by omega)
  rw [show sm 0 (fun l => F l l) = 0 from rfl, w0] at h
  exact h
end Go.Proofs.Ytbchnmplooafpaa.Q
end
section
namespace Go.Proofs.Ytbchnmplooafpaa.X
open Go.RowKit Go.Proofs.YtbchnmplooafpaaW.PrintWords Go.Proofs.YtbchnmplooafpaaW.PrintLast Go.Proofs.YtbchnmplooafpaaW.PrintMore
attribute [local go_sem] w13z w9z max_two min_two w7z w6z w10z w12z
set_option linter.unusedVariables false
set_option linter.unusedSimpArgs false
def slices_Clone_int64_int64.f (l0 : List Int) : Option (List Int) := (some (([] : List Int) : List Int)).bind fun y101 => (if y101.length + l0.length < 17592186044416 then (some (y101 ++ l0)) else (none))
end Go.Proofs.Ytbchnmplooafpaa.X
end
section
namespace Go.Proofs.Ytbchnmplooafpaa.X
open Go.RowKit Go.Proofs.YtbchnmplooafpaaW.PrintWords Go.Proofs.YtbchnmplooafpaaW.PrintLast Go.Proofs.YtbchnmplooafpaaW.PrintMore
attribute [local go_sem] w13z w9z max_two min_two w7z w6z w10z w12z
set_option linter.unusedVariables false
set_option linter.unusedSimpArgs false
def impl_trimmed.l0 : Nat → List Int → Option (List Int)
 | 0, _ => none
 | k + 1, x0 => if (x0.length : Int) > 0 then (if 0 ≤ (wrap64 ((x0.length : Int) - 1)) then (if (wrap64 ((x0.length : Int) - 1)) < (x0.length : Int) then (if (rd x0 (wrap64 ((x0.length : Int) - 1))) = 0 then (if (wrap64 ((x0.length : Int) - 1)) ≤ (x0.length : Int) then (impl_trimmed.l0 k (x0.take ((wrap64 ((x0.length : Int) - 1)) : Int).toNat)) else (none)) else ((slices_Clone_int64_int64.f x0).bind fun t107 => (some t107))) else (none)) else (none)) else ((slices_Clone_int64_int64.f x0).bind fun t110 => (some t110))
def impl_trimmed.f (k : Nat) (l0 : List Int) : Option (List Int) := impl_trimmed.l0 k l0
end Go.Proofs.Ytbchnmplooafpaa.X
end
section
namespace Go.Proofs.Ytbchnmplooafpaa.Q
open Go.RowKit Go.Proofs.Ytbchnmplooafpaa.X Go.Proofs.YtbchnmplooafpaaW.PrintWords Go.Proofs.YtbchnmplooafpaaW.PrintLast Go.Proofs.YtbchnmplooafpaaW.PrintMore
set_option linter.unusedVariables false
set_option linter.unusedSimpArgs false
theorem own_ (l : List Int) (h : l.length ≤ 1048576) : spec_l01Own.f l = some l := by
  unfold spec_l01Own.f; simp; try omega
theorem clone_ (l : List Int) (h : l.length ≤ 1048576) : slices_Clone_int64_int64.f l = some l := by
  unfold slices_Clone_int64_int64.f; simp; try omega
end Go.Proofs.Ytbchnmplooafpaa.Q
end
section
namespace Go.Proofs.Ytbchnmplooafpaa.X
open Go.RowKit Go.Proofs.YtbchnmplooafpaaW.PrintWords Go.Proofs.YtbchnmplooafpaaW.PrintLast Go.Proofs.YtbchnmplooafpaaW.PrintMore
attribute [local go_sem] w13z w9z max_two min_two w7z w6z w10z w12z
set_option linter.unusedVariables false
set_option linter.unusedSimpArgs false
mutual
def impl_determinant.l0 : Nat → List (List Int) → List Int → List (List Int) → Int → Option (List Int)
 | 0, _, _, _, _ => none
 | k + 1, x0, x3, x4, x5 => if x5 ≤ (x0.length : Int) then ((impl_rowsTimes.f k x0 x4).bind fun t110 => (impl_determinant.l1 k x0 x3 t110 x5 (t110.length : Int) 0)) else ((impl_trimmed.f k x3).bind fun t107 => (some t107))
def impl_determinant.l1 : Nat → List (List Int) → List Int → List (List Int) → Int → Int → Int → Option (List Int)
 | 0, _, _, _, _, _, _ => none
 | k + 1, x0, x3, x4, x5, x21, x22 => if x22 < x21 then (if 0 ≤ x22 then (if x22 < (x4.length : Int) then (if x22 < ((rd_L1 x4 x22).length : Int) then (if 0 ≤ (wrap64 (x5 - 1)) then (if (wrap64 (x5 - 1)) < (x3.length : Int) then (impl_determinant.l1 k x0 x3 (x4.set (x22 : Int).toNat ((rd_L1 x4 x22).set (x22 : Int).toNat (wrap64 ((rd (rd_L1 x4 x22) x22) + (rd x3 (wrap64 (x5 - 1))))))) x5 x21 (wrap64 (x22 + 1))) else (none)) else (none)) else (none)) else (none)) else (none)) else ((impl_rowsTimes.f k x0 x4).bind fun t119 => ((impl_trace.f k t119).bind fun t122 => (if x5 = 0 then (none) else (if x3.length < 17592186044416 then (impl_determinant.l0 k x0 (x3 ++ [wrap64 (Int.tdiv (wrap64 (-t122)) x5)]) x4 (wrap64 (x5 + 1))) else (none)))))
end
def impl_determinant.f (k : Nat) (l0 : List (List Int)) : Option (List Int) := (impl_square.f k (l0.length : Int)).bind fun t104 => (impl_determinant.l0 k l0 (([1] : List Int)) t104 1)
end Go.Proofs.Ytbchnmplooafpaa.X
end
section
namespace Go.Proofs.Ytbchnmplooafpaa.Q
open Go.RowKit Go.Proofs.Ytbchnmplooafpaa.X Go.Proofs.Ytbchnmplooafpaa.Dt Go.Proofs.YtbchnmplooafpaaW.PrintWords Go.Proofs.YtbchnmplooafpaaW.PrintLast Go.Proofs.YtbchnmplooafpaaW.PrintMore
set_option linter.unusedVariables false
theorem wrow_succ (m : Nat) (R : Nat → Int) : wrow m R ++ [wrap64 (R m)] = wrow (m + 1) R := by unfold wrow; rw [List.range_succ]; simp
theorem wrow_zero (m : Nat) : List.replicate m (0 : Int) = wrow m (fun _ => 0) := by
  apply List.ext_getElem
  · simp [wrow]
  · intro i _ _; simp [wrow]; exact w0.symm
theorem w1 : wrap64 1 = 1 := by unfold wrap64; omega
def Sml (n : Nat) (M : Nat → Nat → Int) : Prop := ∀ a, a < n → (sm n fun b => ((ee b a).natAbs : Int) + ((M a b).natAbs : Int)) ≤ 21
theorem sm_more {f : Nat → Int} (h : ∀ i, 0 ≤ f i) (r d : Nat) : sm r f ≤ sm (r + d) f := by
  induction d with
  | zero => exact Int.le_refl _
  | succ d ih => show sm r f ≤ sm (r + d) f + f (r + d); have := h (r + d); omega
theorem coefs (n : Nat) (M : Nat → Nat → Int) (h : Sml n M) : ∃ C : Nat → Nat → Int, ∀ r, r ≤ n → ∃ N, Cp r M (C r) N ∧ (sm (r + 1) fun k => ((C r k).natAbs : Int)) ≤ 21 ^ r := by
  have ex : ∀ r, ∃ c : Nat → Int, r ≤ n → ∃ N, Cp r M c N ∧ (sm (r + 1) fun k => ((c k).natAbs : Int)) ≤ 21 ^ r := by
    intro r
    by_cases hr : r ≤ n
    · obtain ⟨c, N, h1, h2⟩ := cp_exists r M 21 (by omega) (fun a ha => by
        have h3 := h a (by omega)
        have h4 := sm_more (f := fun b => ((ee b a).natAbs : Int) + ((M a b).natAbs : Int)) (fun i => by omega) r (n - r)
        rw [show r + (n - r) = n by omega] at h4
        omega)
      exact ⟨c, fun _ => ⟨N, h1, h2⟩⟩
    · exact ⟨fun _ => 0, fun q => absurd q hr⟩
  exact ⟨fun r => Classical.choose (ex r), fun r hr => Classical.choose_spec (ex r) hr⟩
theorem small_coef {n : Nat} (hn : n ≤ 8) {c : Nat → Int} (h : (sm (n + 1) fun k => ((c k).natAbs : Int)) ≤ 21 ^ n) (k : Nat) (hk : k ≤ n) : (c k).natAbs ≤ 37822859361 := by
  have h2 : (21 : Int) ^ n ≤ 21 ^ 8 := by
    have : (21 : Nat) ^ n ≤ 21 ^ 8 := Nat.pow_le_pow_right (by omega) hn
    exact_mod_cast this
  have h3 := sm_le (n := n + 1) (f := fun i => if i = k then ((c k).natAbs : Int) else 0) (g := fun i => ((c i).natAbs : Int)) (fun i _ => by
    by_cases q : i = k
    · subst q; rw [if_pos rfl]; exact Int.le_refl _
    · rw [if_neg q]; omega)
  rw [sm_one (j := k) (by omega) (fun i _ hn => by rw [if_neg hn]), if_pos rfl] at h3
  have e : (21 : Int) ^ 8 = 37822859361 := by decide
  omega
section
variable (n : Nat) (M : Nat → Nat → Int)
theorem bk_l4 (hn : n ≤ 8) (r : Nat) (hr : r < n) (now tl : List Int) (s i : Nat) (hi : i < r) (col : Nat → Int) (x9 : Int) (nx : Nat → Int) (hnx : nx i = sm r fun j => M i j * col j) (Z : List Int)
    (hZ : Ev (fun k => spec_l01Berkowitz.l3 k (wmat n M) now (r : Int) tl (wrow r col) (s : Int) x9 (wrow (i + 1) nx) ((i + 1 : Nat) : Int)) Z) (d : Nat) : ∀ j : Nat, j + d = r →
    Ev (fun k => spec_l01Berkowitz.l4 k (wmat n M) now (r : Int) tl (wrow r col) (s : Int) x9 (wrow i nx) (i : Int) (wrap64 (sm j fun j => M i j * col j)) (j : Int)) Z := by
  induction d with
  | zero =>
    intro j hj; obtain rfl : j = r := by omega
    refine Ev.step (fun _ => rfl) (evF (by omega) (evT (by rw [wrow_length]; omega) ?_))
    rw [← hnx, wrow_succ, wnat (n := n) (by omega) (by omega)]; exact hZ
  | succ d ih =>
    intro j hj
    refine Ev.step (fun _ => rfl) (evT (by omega) (evT (by omega) (evT (by rw [wmat_length]; omega) (evT (by omega) (evT (by rw [wmat_at n M i (by omega), wrow_length]; omega) (evT (by rw [wrow_length]; omega) ?_))))))
    rw [wmat_at n M i (by omega), wrow_at n _ j (by omega), wrow_at r _ j (by omega), wr_mul, wr_add, wnat (n := n) (by omega) (by omega)]
    exact ih (j + 1) (by omega)
theorem bk_l3 (hn : n ≤ 8) (r : Nat) (hr : r < n) (now tl : List Int) (s : Nat) (hs : s < 8) (htl : tl.length ≤ 100) (col nx : Nat → Int) (hnx : ∀ i, i < r → nx i = sm r fun j => M i j * col j) (Z : List Int)
    (hZ : Ev (fun k => spec_l01Berkowitz.l2 k (wmat n M) now (r : Int) (tl ++ [wrap64 (- sm r fun i => M r i * col i)]) (wrow r nx) ((s + 1 : Nat) : Int)) Z) (d : Nat) : ∀ i : Nat, i + d = r →
    Ev (fun k => spec_l01Berkowitz.l3 k (wmat n M) now (r : Int) tl (wrow r col) (s : Int) (wrap64 (sm i fun i => M r i * col i)) (wrow i nx) (i : Int)) Z := by
  induction d with
  | zero =>
    intro i hi; obtain rfl : i = r := by omega
    refine Ev.step (fun _ => rfl) (evF (by omega) (evT (by omega) ?_))
    rw [wr_neg, wnat (i := s) (n := 8) (by omega) (by omega)]; exact hZ
  | succ d ih =>
    intro i hi
    refine Ev.step (fun _ => rfl) (evT (by omega) (evT (by omega) (evT (by rw [wmat_length]; omega) (evT (by omega) (evT (by rw [wmat_at n M r hr, wrow_length]; omega) (evT (by rw [wrow_length]; omega) ?_))))))
    rw [wmat_at n M r hr, wrow_at n _ i (by omega), wrow_at r _ i (by omega), wr_mul, wr_add]
    have h := bk_l4 n M hn r hr now tl s i (by omega) col (wrap64 (sm (i + 1) fun i => M r i * col i)) nx (hnx i (by omega)) Z (ih (i + 1) (by omega)) r 0 (by omega)
    rw [show sm 0 (fun j => M i j * col j) = 0 from rfl, w0] at h
    exact h
theorem bk_l2 (hn : n ≤ 8) (r : Nat) (hr : r < n) (now : List Int) (Z : List Int)
    (hZ : Ev (fun k => spec_l01Berkowitz.l5 k (wmat n M) now (r : Int) (wrow (r + 2) (turn r M)) (wrow (r + 2) (fun _ => 0)) 0) Z) (d : Nat) : ∀ s : Nat, s + d = r →
    Ev (fun k => spec_l01Berkowitz.l2 k (wmat n M) now (r : Int) (wrow (s + 2) (turn r M)) (wrow r (colI r M (fun a => M a r) s)) (s : Int)) Z := by
  induction d with
  | zero =>
    intro s hs; obtain rfl : s = r := by omega
    have hw : wrap64 ((s : Int) + 2) = ((s + 2 : Nat) : Int) := by rw [wid (by omega) (by omega)]; omega
    refine Ev.step (fun _ => rfl) (evF (by omega) ?_)
    rw [hw, Int.toNat_natCast, wrow_zero]
    exact evT (by omega) (evT (by omega) hZ)
  | succ d ih =>
    intro s hs
    have h := ih (s + 1) (by omega)
    refine Ev.step (fun _ => rfl) (evT (by omega) ?_)
    have h3 := bk_l3 n M hn r hr now (wrow (s + 2) (turn r M)) s (by omega) (by rw [wrow_length]; omega) (colI r M (fun a => M a r) s) (colI r M (fun a => M a r) (s + 1)) (fun i _ => rfl) Z (by
      have e : wrow (s + 2) (turn r M) ++ [wrap64 (- sm r fun i => M r i * colI r M (fun a => M a r) s i)] = wrow (s + 1 + 2) (turn r M) := wrow_succ (s + 2) (turn r M)
      rw [e]; exact h) r 0 (by omega)
    rw [show sm 0 (fun i => M r i * colI r M (fun a => M a r) s i) = 0 from rfl, w0] at h3
    exact h3
theorem bk_l1 (hn : n ≤ 8) (r : Nat) (hr : r < n) (now tl : List Int) (Z : List Int)
    (hZ : Ev (fun k => spec_l01Berkowitz.l2 k (wmat n M) now (r : Int) tl (wrow r (fun a => M a r)) 0) Z) (d : Nat) : ∀ i : Nat, i + d = r →
    Ev (fun k => spec_l01Berkowitz.l1 k (wmat n M) now (r : Int) tl (wrow i (fun a => M a r)) (i : Int)) Z := by
  induction d with
  | zero =>
    intro i hi; obtain rfl : i = r := by omega
    exact Ev.step (fun _ => rfl) (evF (by omega) hZ)
  | succ d ih =>
    intro i hi
    refine Ev.step (fun _ => rfl) (evT (by omega) (evT (by omega) (evT (by rw [wmat_length]; omega) (evT (by omega) (evT (by rw [wmat_at n M i (by omega), wrow_length]; omega) (evT (by rw [wrow_length]; omega) ?_))))))
    have e : wrow i (fun a => M a r) ++ [rd (rd_L1 (wmat n M) (i : Int)) (r : Int)] = wrow (i + 1) (fun a => M a r) := by
      rw [wmat_at n M i (by omega), wrow_at n _ r hr]; exact wrow_succ i (fun a => M a r)
    rw [e, wnat (n := n) (by omega) (by omega)]
    exact ih (i + 1) (by omega)
theorem bk_l6 (hn : n ≤ 8) (r : Nat) (hr : r < n) (c D : Nat → Int) (i : Nat) (hi : i < r + 2) (hD : D i = sm (r + 1) fun p => if p ≤ i then turn r M (i - p) * c p else 0) (Z : List Int)
    (hZ : Ev (fun k => spec_l01Berkowitz.l5 k (wmat n M) (wrow (r + 1) c) (r : Int) (wrow (r + 2) (turn r M)) (wrow (r + 2) (fun q => if q < i + 1 then D q else 0)) ((i + 1 : Nat) : Int)) Z) (d : Nat) : ∀ j : Nat, j + d = r + 1 →
    (sm j fun p => if p ≤ i then turn r M (i - p) * c p else 0) = (sm j fun p => if p ≤ i then turn r M (i - p) * c p else 0) →
    Ev (fun k => spec_l01Berkowitz.l6 k (wmat n M) (wrow (r + 1) c) (r : Int) (wrow (r + 2) (turn r M)) (wrow (r + 2) (fun q => if q < i then D q else if q = i then (sm j fun p => if p ≤ i then turn r M (i - p) * c p else 0) else 0)) (i : Int) (j : Int)) Z := by
  have fin : ∀ v, v = D i → wrow (r + 2) (fun q => if q < i then D q else if q = i then v else 0) = wrow (r + 2) (fun q => if q < i + 1 then D q else 0) := by
    intro v hv
    refine wrow_congr fun q _ => ?_
    by_cases q1 : q < i
    · rw [if_pos q1, if_pos (by omega)]
    · rw [if_neg q1]
      by_cases q2 : q = i
      · rw [if_pos q2, if_pos (by omega), hv, q2]
      · rw [if_neg q2, if_neg (by omega)]
  induction d with
  | zero =>
    intro j hj _; obtain rfl : j = r + 1 := by omega
    refine Ev.step (fun _ => rfl) (evF (by rw [wrow_length]; omega) ?_)
    rw [fin _ hD.symm, wnat (n := r + 2) (by omega) (by omega)]; exact hZ
  | succ d ih =>
    intro j hj _
    refine Ev.step (fun _ => rfl) (evT (by rw [wrow_length]; omega) ?_)
    by_cases c1 : j ≤ i
    · have h := ih (j + 1) (by omega) rfl
      have hij : wrap64 ((i : Int) - (j : Int)) = ((i - j : Nat) : Int) := by rw [wid (by omega) (by omega)]; omega
      refine evT (by omega) (evT (by omega) (evT (by rw [wrow_length]; omega) ?_))
      rw [hij]
      refine evT (by omega) (evT (by rw [wrow_length]; omega) (evT (by omega) ?_))
      rw [wrow_at (r + 2) _ i hi, wrow_at (r + 2) _ (i - j) (by omega), wrow_at (r + 1) _ j (by omega), wr_mul, wr_add, Int.toNat_natCast, wrow_set, wnat (n := r + 2) (by omega) (by omega)]
      have e : wrow (r + 2) (fun q => if q = i then (if i < i then D i else if i = i then (sm j fun p => if p ≤ i then turn r M (i - p) * c p else 0) else 0) + turn r M (i - j) * c j else if q < i then D q else if q = i then (sm j fun p => if p ≤ i then turn r M (i - p) * c p else 0) else 0) = wrow (r + 2) (fun q => if q < i then D q else if q = i then (sm (j + 1) fun p => if p ≤ i then turn r M (i - p) * c p else 0) else 0) := by
        refine wrow_congr fun q _ => ?_
        by_cases q2 : q = i
        · subst q2
          rw [if_pos rfl, if_neg (by omega), if_pos rfl, if_neg (by omega), if_pos rfl]
          show _ = wrap64 ((sm j fun p => if p ≤ q then turn r M (q - p) * c p else 0) + if j ≤ q then turn r M (q - j) * c j else 0)
          rw [if_pos c1]
        · rw [if_neg q2]
          by_cases q3 : q < i
          · rw [if_pos q3, if_pos q3]
          · rw [if_neg q3, if_neg q2, if_neg q3, if_neg q2]
      rw [e]; exact h
    · refine evF (by omega) ?_
      have tail : ∀ m, (sm (j + m) fun p => if p ≤ i then turn r M (i - p) * c p else 0) = sm j fun p => if p ≤ i then turn r M (i - p) * c p else 0 := by
        intro m
        induction m with
        | zero => rfl
        | succ m im =>
          show (sm (j + m) fun p => if p ≤ i then turn r M (i - p) * c p else 0) + (if j + m ≤ i then turn r M (i - (j + m)) * c (j + m) else 0) = _
          rw [im, if_neg (by omega), Int.add_zero]
      have := tail (d + 1)
      rw [hj] at this
      rw [fin _ (by rw [hD, this]), wnat (n := r + 2) (by omega) (by omega)]; exact hZ
theorem bk_l5 (hn : n ≤ 8) (r : Nat) (hr : r < n) (c D : Nat → Int) (hD : ∀ i, i < r + 2 → D i = sm (r + 1) fun p => if p ≤ i then turn r M (i - p) * c p else 0) (Z : List Int)
    (hZ : Ev (fun k => spec_l01Berkowitz.l0 k (wmat n M) (wrow (r + 2) D) ((r + 1 : Nat) : Int)) Z) (d : Nat) : ∀ i : Nat, i + d = r + 2 →
    Ev (fun k => spec_l01Berkowitz.l5 k (wmat n M) (wrow (r + 1) c) (r : Int) (wrow (r + 2) (turn r M)) (wrow (r + 2) (fun q => if q < i then D q else 0)) (i : Int)) Z := by
  induction d with
  | zero =>
    intro i hi; obtain rfl : i = r + 2 := by omega
    refine Ev.step (fun _ => rfl) (evF (by rw [wrow_length]; omega) ?_)
    rw [wnat (n := n) (by omega) (by omega), wrow_congr (R' := D) (fun q hq => by rw [if_pos hq])]; exact hZ
  | succ d ih =>
    intro i hi
    refine Ev.step (fun _ => rfl) (evT (by rw [wrow_length]; omega) ?_)
    have h := bk_l6 n M hn r hr c D i (by omega) (hD i (by omega)) Z (ih (i + 1) (by omega)) (r + 1) 0 (by omega) rfl
    have e : wrow (r + 2) (fun q => if q < i then D q else if q = i then (sm 0 fun p => if p ≤ i then turn r M (i - p) * c p else 0) else 0) = wrow (r + 2) (fun q => if q < i then D q else 0) := by
      refine wrow_congr fun q _ => ?_
      by_cases q1 : q < i
      · rw [if_pos q1, if_pos q1]
      · rw [if_neg q1, if_neg q1]
        by_cases q2 : q = i
        · rw [if_pos q2]; rfl
        · rw [if_neg q2]
    rw [e] at h; exact h
theorem bk_l0 (hn : n ≤ 8) (C : Nat → Nat → Int) (hC : ∀ r, r ≤ n → ∃ N, Cp r M (C r) N ∧ (sm (r + 1) fun k => ((C r k).natAbs : Int)) ≤ 21 ^ r) (Z : List Int) (hZ : Ev (fun k => spec_l01Trim.f k (wrow (n + 1) (C n))) Z) (d : Nat) : ∀ r : Nat, r + d = n →
    Ev (fun k => spec_l01Berkowitz.l0 k (wmat n M) (wrow (r + 1) (C r)) (r : Int)) Z := by
  induction d with
  | zero =>
    intro r hr; obtain rfl : r = n := by omega
    exact Ev.step (fun _ => rfl) (evF (by rw [wmat_length]; omega) (Ev.bind hZ (evN rfl)))
  | succ d ih =>
    intro r hr
    have h := ih (r + 1) (by omega)
    obtain ⟨N1, c1, _⟩ := hC r (by omega)
    obtain ⟨N2, c2, _⟩ := hC (r + 1) (by omega)
    refine Ev.step (fun _ => rfl) (evT (by rw [wmat_length]; omega) (evT (by omega) (evT (by rw [wmat_at n M r (by omega), wrow_length]; omega) ?_)))
    have e : ([1, wrap64 (-(rd (rd_L1 (wmat n M) (r : Int)) (r : Int)))] : List Int) = wrow 2 (turn r M) := by
      rw [wmat_at n M r (by omega), wrow_at n _ r (by omega), wr_neg]
      show _ = [wrap64 1, wrap64 (- M r r)]
      rw [w1]
    rw [e]
    have s5 := bk_l5 n M hn r (by omega) (C r) (C (r + 1)) (fun i hi => berkowitz c1 c2 i (by omega)) Z h (r + 2) 0 (by omega)
    have e0 : wrow (r + 2) (fun q => if q < 0 then C (r + 1) q else 0) = wrow (r + 2) (fun _ => 0) := wrow_congr fun q _ => by rw [if_neg (by omega)]
    rw [e0] at s5
    have s2 := bk_l2 n M hn r (by omega) (wrow (r + 1) (C r)) Z s5 r 0 (by omega)
    exact bk_l1 n M hn r (by omega) (wrow (r + 1) (C r)) (wrow 2 (turn r M)) Z s2 r 0 (by omega)
theorem fl_l1 (hn : n ≤ 8) (c : Nat → Int) (k : Nat) (hk : 1 ≤ k) (hkn : k ≤ n) (H : Nat → Nat → Int) (Z : List Int)
    (hZ : Ev (fun q => (impl_rowsTimes.f q (wmat n M) (wmat n (fun a b => H a b + c (k - 1) * ee b a))).bind fun t119 => ((impl_trace.f q t119).bind fun t122 => (if (k : Int) = 0 then (none) else (if (wrow k c).length < 17592186044416 then (impl_determinant.l0 q (wmat n M) (wrow k c ++ [wrap64 (Int.tdiv (wrap64 (-t122)) (k : Int))]) (wmat n (fun a b => H a b + c (k - 1) * ee b a)) (wrap64 ((k : Int) + 1))) else (none))))) Z) (d : Nat) : ∀ i : Nat, i + d = n →
    Ev (fun q => impl_determinant.l1 q (wmat n M) (wrow k c) (wmat n (fun a b => if a < i ∧ b = a then H a b + c (k - 1) else H a b)) (k : Int) (n : Int) (i : Int)) Z := by
  induction d with
  | zero =>
    intro i hi; obtain rfl : i = n := by omega
    have e : wmat i (fun a b => if a < i ∧ b = a then H a b + c (k - 1) else H a b) = wmat i (fun a b => H a b + c (k - 1) * ee b a) := by
      refine wmat_congr fun a b ha _ => ?_
      unfold ee
      by_cases q : b = a
      · rw [if_pos ⟨ha, q⟩, if_pos q.symm, Int.mul_one]
      · rw [if_neg (fun z => q z.2), if_neg (fun z => q z.symm), Int.mul_zero, Int.add_zero]
    rw [e]
    exact Ev.step (fun _ => rfl) (evF (by omega) hZ)
  | succ d ih =>
    intro i hi
    have hw : wrap64 ((k : Int) - 1) = ((k - 1 : Nat) : Int) := by rw [wid (by omega) (by omega)]; omega
    refine Ev.step (fun _ => rfl) (evT (by omega) (evT (by omega) (evT (by rw [wmat_length]; omega) (evT (by rw [wmat_at n _ i (by omega), wrow_length]; omega) ?_))))
    rw [hw]
    refine evT (by omega) (evT (by rw [wrow_length]; omega) ?_)
    have e1 : wrap64 (rd (rd_L1 (wmat n (fun a b => if a < i ∧ b = a then H a b + c (k - 1) else H a b)) (i : Int)) (i : Int) + rd (wrow k c) ((k - 1 : Nat) : Int)) = wrap64 (H i i + c (k - 1)) := by
      rw [wmat_at n _ i (by omega), wrow_at n _ i (by omega), wrow_at k _ (k - 1) (by omega), wr_add, if_neg (by omega)]
    rw [e1, Int.toNat_natCast, wmat_put n _ i i _ (by omega), wnat (n := n) (by omega) (by omega)]
    have e2 : wmat n (fun a b => if a = i ∧ b = i then H i i + c (k - 1) else if a < i ∧ b = a then H a b + c (k - 1) else H a b) = wmat n (fun a b => if a < i + 1 ∧ b = a then H a b + c (k - 1) else H a b) := by
      refine wmat_congr fun a b _ _ => ?_
      by_cases q : a = i ∧ b = i
      · rw [if_pos q, if_pos ⟨by omega, by rw [q.1, q.2]⟩, q.1, q.2]
      · rw [if_neg q]
        by_cases q2 : a < i ∧ b = a
        · rw [if_pos q2, if_pos ⟨by omega, q2.2⟩]
        · rw [if_neg q2, if_neg (fun z => by
            by_cases q3 : a = i
            · exact q ⟨q3, by rw [z.2, q3]⟩
            · exact q2 ⟨by omega, z.2⟩)]
    rw [e2]; exact ih (i + 1) (by omega)
theorem fl_l0 (hn : n ≤ 8) (c : Nat → Int) (N : Nat → Nat → Nat → Int) (hc : Cp n M c N) (hs : (sm (n + 1) fun k => ((c k).natAbs : Int)) ≤ 21 ^ n) (Z : List Int) (hZ : Ev (fun k => impl_trimmed.f k (wrow (n + 1) c)) Z) (d : Nat) : ∀ k : Nat, k + d = n + 1 → 1 ≤ k →
    Ev (fun q => impl_determinant.l0 q (wmat n M) (wrow k c) (wmat n (nw n M c (k - 1))) (k : Int)) Z := by
  induction d with
  | zero =>
    intro k hk _; obtain rfl : k = n + 1 := by omega
    exact Ev.step (fun _ => rfl) (evF (by rw [wmat_length]; omega) (Ev.bind hZ (evN rfl)))
  | succ d ih =>
    intro k hk h1
    have h := ih (k + 1) (by omega) (by omega)
    rw [Nat.add_sub_cancel] at h
    have hb := small_coef hn hs k (by omega)
    have hlv := leverrier hc k (by omega)
    refine Ev.step (fun _ => rfl) (evT (by rw [wmat_length]; omega) (Ev.bind (rowsTimes_ n (by omega) M (nw n M c (k - 1))) ?_))
    rw [wmat_length]
    have enw : (fun a b => mul n M (nw n M c (k - 1)) a b + c (k - 1) * ee b a) = nw n M c k := by
      obtain ⟨m, rfl⟩ : ∃ m, k = m + 1 := ⟨k - 1, by omega⟩
      funext a b; rw [Nat.add_sub_cancel]; rfl
    have l1 := fl_l1 n M hn c k h1 (by omega) (mul n M (nw n M c (k - 1))) Z ?_ n 0 (by omega)
    · have e : wmat n (fun a b => if a < 0 ∧ b = a then mul n M (nw n M c (k - 1)) a b + c (k - 1) else mul n M (nw n M c (k - 1)) a b) = wmat n (mul n M (nw n M c (k - 1))) := wmat_congr fun a b _ _ => by rw [if_neg (fun z => by omega)]
      rw [e] at l1; exact l1
    · rw [enw]
      refine Ev.bind (rowsTimes_ n (by omega) M (nw n M c k)) (Ev.bind (trace_ n (by omega) _) (evF (by omega) (evT (by rw [wrow_length]; omega) ?_)))
      have et : (sm n fun l => mul n M (nw n M c k) l l) = - ((k : Int) * c k) := hlv
      have ev1 : wrap64 (Int.tdiv (wrap64 (- wrap64 (sm n fun l => mul n M (nw n M c k) l l))) (k : Int)) = wrap64 (c k) := by
        have hk8 : (k : Int) ≤ 8 := by omega
        have b1 : (k : Int) * c k ≤ 8 * 37822859361 ∧ -(8 * 37822859361) ≤ (k : Int) * c k := by
          have : ((k : Int) * c k).natAbs ≤ 8 * 37822859361 := by
            rw [Int.natAbs_mul]
            exact Nat.mul_le_mul (by omega) hb
          omega
        rw [wr_neg, et, Int.neg_neg, wid (x := (k : Int) * c k) (by omega) (by omega), Int.mul_tdiv_cancel_left _ (by omega)]
      rw [ev1, wrow_succ, wnat (i := k) (n := n + 1) (by omega) (by omega)]
      exact h
end
end Go.Proofs.Ytbchnmplooafpaa.Q
end
section
namespace Go.Proofs.Ytbchnmplooafpaa.X
open Go.RowKit Go.Proofs.YtbchnmplooafpaaW.PrintWords Go.Proofs.YtbchnmplooafpaaW.PrintLast Go.Proofs.YtbchnmplooafpaaW.PrintMore
attribute [local go_sem] w13z w9z max_two min_two w7z w6z w10z w12z
set_option linter.unusedVariables false
set_option linter.unusedSimpArgs false
end Go.Proofs.Ytbchnmplooafpaa.X
end
section
namespace Go.Proofs.Ytbchnmplooafpaa.Q
open Go.RowKit Go.Proofs.Ytbchnmplooafpaa.X Go.Proofs.YtbchnmplooafpaaW.PrintWords Go.Proofs.YtbchnmplooafpaaW.PrintLast Go.Proofs.YtbchnmplooafpaaW.PrintMore
set_option linter.unusedVariables false
theorem tmod2 (m : Nat) : Int.tmod (m : Int) 2 = ((m % 2 : Nat) : Int) := (Int.ofNat_tmod m 2).symm
end Go.Proofs.Ytbchnmplooafpaa.Q
end
section
namespace Go.Proofs.Ytbchnmplooafpaa.X
open Go.RowKit Go.Proofs.YtbchnmplooafpaaW.PrintWords Go.Proofs.YtbchnmplooafpaaW.PrintLast Go.Proofs.YtbchnmplooafpaaW.PrintMore
attribute [local go_sem] w13z w9z max_two min_two w7z w6z w10z w12z
set_option linter.unusedVariables false
set_option linter.unusedSimpArgs false
end Go.Proofs.Ytbchnmplooafpaa.X
end
section
namespace Go.Proofs.Ytbchnmplooafpaa.X
open Go.RowKit Go.Proofs.YtbchnmplooafpaaW.PrintWords Go.Proofs.YtbchnmplooafpaaW.PrintLast Go.Proofs.YtbchnmplooafpaaW.PrintMore
attribute [local go_sem] w13z w9z max_two min_two w7z w6z w10z w12z
set_option linter.unusedVariables false
set_option linter.unusedSimpArgs false
end Go.Proofs.Ytbchnmplooafpaa.X
end
section
namespace Go.Proofs.Ytbchnmplooafpaa.Q
open Go.RowKit Go.Proofs.Ytbchnmplooafpaa.X Go.Proofs.YtbchnmplooafpaaW.PrintWords Go.Proofs.YtbchnmplooafpaaW.PrintLast Go.Proofs.YtbchnmplooafpaaW.PrintMore
set_option linter.unusedVariables false
set_option linter.unusedSimpArgs false
def row (N : Nat) (g : Nat → Nat) : List Int := (List.range N).map fun j => (g j : Int)
def mat (N : Nat) (f : Nat → Nat → Nat) : List (List Int) := (List.range N).map fun i => row N (f i)
def bmp (f : Nat → Nat → Nat) (a b : Nat) : Nat → Nat → Nat := fun i j => f i j + (if i = a ∧ j = b then 1 else 0)
def dbl (f : Nat → Nat → Nat) (p : Nat × Nat) : Nat → Nat → Nat := bmp (bmp f p.1 p.2) p.2 p.1
def adj (P : List (Nat × Nat)) : Nat → Nat → Nat := P.foldl dbl (fun _ _ => 0)
end Go.Proofs.Ytbchnmplooafpaa.Q
end
section
namespace Go.Proofs.Ytbchnmplooafpaa.Q
open Go.RowKit Go.Proofs.Ytbchnmplooafpaa.X Go.Proofs.Ytbchnmplooafpaa.Dt Go.Proofs.YtbchnmplooafpaaW.PrintWords Go.Proofs.YtbchnmplooafpaaW.PrintLast Go.Proofs.YtbchnmplooafpaaW.PrintMore
set_option linter.unusedVariables false
theorem sm_ee (n a : Nat) : (sm n fun b => ((ee b a).natAbs : Int)) ≤ 1 := by
  by_cases h : a < n
  · rw [sm_one h (fun i _ hn => by unfold ee; rw [if_neg (fun q => hn q.symm)]; rfl)]; unfold ee; simp
  · rw [sm_zero' (fun i hi => by unfold ee; rw [if_neg (fun q => h (by omega))]; rfl)]; omega
theorem sm_bump (n : Nat) (f g : Nat → Int) (j : Nat) (v : Int) (hv : 0 ≤ v) (h : ∀ b, g b ≤ f b + if b = j then v else 0) : sm n g ≤ sm n f + v := by
  have h1 := sm_le (n := n) (f := g) (g := fun b => f b + if b = j then v else 0) (fun b _ => h b)
  rw [sm_add] at h1
  have h2 : (sm n fun b => if b = j then v else 0) ≤ v := by
    by_cases q : j < n
    · rw [sm_one q (fun i _ hn => by rw [if_neg hn]), if_pos rfl]; exact Int.le_refl _
    · rw [sm_zero' (fun i hi => by rw [if_neg (fun z => q (by omega))])]; exact hv
  omega
end Go.Proofs.Ytbchnmplooafpaa.Q
end
section
namespace Go.Proofs.Ytbchnmplooafpaa.Q
open Go.RowKit Go.Proofs.Ytbchnmplooafpaa.X Go.Proofs.Ytbchnmplooafpaa.Dt Go.Proofs.YtbchnmplooafpaaW.PrintWords Go.Proofs.YtbchnmplooafpaaW.PrintLast Go.Proofs.YtbchnmplooafpaaW.PrintMore
set_option linter.unusedVariables false
set_option linter.unusedSectionVars false
theorem wr_mulr (x y : Int) : wrap64 (x * wrap64 y) = wrap64 (x * y) := by
  obtain ⟨q, h⟩ := wr_form y
  rw [h, Int.mul_add, show x * (18446744073709551616 * q) = 18446744073709551616 * (x * q) by ac_rfl, wr_far]
theorem wr_mull (x y : Int) : wrap64 (wrap64 x * y) = wrap64 (x * y) := by rw [Int.mul_comm, wr_mulr, Int.mul_comm]
def vl (r : List Int) (j : Nat) : Int := if (j : Int) < (r.length : Int) then rd r (j : Int) else 0
theorem trim_full (l : List Int) (hl : l.length ≤ 1048576) (i : Nat) (hi : i ≤ l.length) : ∃ r : List Int, r.length ≤ i ∧ (∀ j : Nat, j < i → vl r j = rd l (j : Int)) ∧ Ev (fun k => spec_l01Trim.l0 k l (i : Int)) r ∧ Ev (fun k => impl_trimmed.l0 k (l.take i)) r := by
  have hd : ∀ i : Nat, i ≤ l.length → ((l.take i).length : Int) = i := fun i hi => by rw [List.length_take]; omega
  induction i with
  | zero =>
    refine ⟨[], by simp, fun j h => by omega, Ev.step (fun _ => rfl) (evF (by omega) (evT (by omega) (evT (by omega) (evN ?_)))), Ev.step (fun _ => rfl) (evF (by simp) (evN ?_))⟩
    · rw [show l.take ((0 : Nat) : Int).toNat = [] from rfl, own_ _ (by simp)]; rfl
    · rw [show l.take 0 = [] from rfl, clone_ _ (by simp)]; rfl
  | succ i ih =>
    have hw : wrap64 (((i + 1 : Nat) : Int) - 1) = (i : Int) := by rw [wid (by omega) (by omega)]; omega
    have hr : rd (l.take (i + 1)) (i : Int) = l[i] := by rw [rd_at _ _ (by simp; omega)]; simp
    by_cases h : l[i] = 0
    · obtain ⟨r, a0, a1, a3, a4⟩ := ih (by omega)
      refine ⟨r, by omega, fun j hj => ?_, Ev.step (fun _ => rfl) (evT (by omega) ?_), Ev.step (fun _ => rfl) (evT (by rw [hd _ hi]; omega) ?_)⟩
      · by_cases q : j = i
        · subst q
          unfold vl
          rw [if_neg (by omega), rd_at _ _ (by omega), h]
        · exact a1 j (by omega)
      · rw [hw]; exact evT (by omega) (evT (by omega) (evT (by rw [rd_at _ _ (by omega)]; exact h) a3))
      · rw [hd (i + 1) hi, hw]
        refine evT (by omega) (evT (by omega) (evT (by rw [hr]; exact h) (evT (by omega) ?_)))
        rw [Int.toNat_natCast, List.take_take, Nat.min_eq_left (by omega)]; exact a4
    · refine ⟨l.take (i + 1), by simp; omega, fun j hj => ?_, Ev.step (fun _ => rfl) (evT (by omega) ?_), Ev.step (fun _ => rfl) (evT (by rw [hd _ hi]; omega) ?_)⟩
      · unfold vl
        rw [if_pos (by rw [List.length_take]; omega), rd_at _ _ (by rw [List.length_take]; omega), rd_at _ _ (by omega)]; simp
      · rw [hw, Int.toNat_natCast, own_ _ (by simp; omega)]; exact evT (by omega) (evT (by omega) (evF (by rw [rd_at _ _ (by omega)]; exact h) (evT (by omega) (evT (by omega) (evN rfl)))))
      · rw [hd (i + 1) hi, hw, clone_ _ (by simp; omega)]
        exact evT (by omega) (evT (by omega) (evF (by rw [hr]; exact h) (evN rfl)))
theorem det_full (n : Nat) (M : Nat → Nat → Int) (hn : n ≤ 8) (hM : Sml n M) : ∃ c N, Cp n M c N ∧ ∃ r : List Int, r.length ≤ n + 1 ∧ (∀ j, j < n + 1 → vl r j = wrap64 (c j)) ∧ Ev (fun k => spec_l01Berkowitz.f k (wmat n M)) r ∧ Ev (fun k => impl_determinant.f k (wmat n M)) r := by
  obtain ⟨C, hC⟩ := coefs n M hM
  obtain ⟨N0, c0, _⟩ := hC 0 (by omega)
  obtain ⟨N, cn, hs⟩ := hC n (Nat.le_refl _)
  have o0 := c0.one
  have on := cn.one
  have hl := wrow_length (n + 1) (C n)
  obtain ⟨r, hr, hv, t1, t2⟩ := trim_full (wrow (n + 1) (C n)) (by rw [hl]; omega) (wrow (n + 1) (C n)).length (Nat.le_refl _)
  rw [List.take_of_length_le (Nat.le_refl _)] at t2
  rw [hl] at hr hv
  have e0 : ([1] : List Int) = wrow (0 + 1) (C 0) := by show [1] = [wrap64 (C 0 0)]; rw [o0, w1]
  have e1 : ([1] : List Int) = wrow 1 (C n) := by show [1] = [wrap64 (C n 0)]; rw [on, w1]
  refine ⟨C n, N, cn, r, hr, fun j hj => by rw [hv j hj, wrow_at _ _ j hj], ?_, ?_⟩
  · unfold spec_l01Berkowitz.f
    rw [e0]
    exact bk_l0 n M hn C hC r t1 n 0 (by omega)
  · unfold impl_determinant.f
    rw [wmat_length, e1]
    refine Ev.bind (square_ n (by omega)) ?_
    exact fl_l0 n M hn (C n) N cn hs r t2 n 1 (by omega) (Nat.le_refl _)
end Go.Proofs.Ytbchnmplooafpaa.Q
end
section
namespace Go.Proofs.Ytbchnmplooafpaa.Q
open Go.RowKit Go.Proofs.Ytbchnmplooafpaa.X Go.Proofs.Ytbchnmplooafpaa.Dt Go.Proofs.YtbchnmplooafpaaW.PrintWords Go.Proofs.YtbchnmplooafpaaW.PrintLast Go.Proofs.YtbchnmplooafpaaW.PrintMore
set_option linter.unusedVariables false
def ad1 (H : Nat → Nat → Int) (i j : Nat) (v : Int) : Nat → Nat → Int := fun x y => if x = i ∧ y = j then H i j + v else H x y
def lap1 (H : Nat → Nat → Int) (p : Nat × Nat) : Nat → Nat → Int := if p.1 = p.2 then H else ad1 (ad1 (ad1 (ad1 H p.1 p.1 1) p.1 p.2 (-1)) p.2 p.2 1) p.2 p.1 (-1)
def lapM (P : List (Nat × Nat)) : Nat → Nat → Int := P.foldl lap1 (fun _ _ => 0)
theorem put_ad (n : Nat) (H : Nat → Nat → Int) (i j : Nat) (v : Int) (hi : i < n) (hj : j < n) : (wmat n H).set i ((rd_L1 (wmat n H) (i : Int)).set j (wrap64 (rd (rd_L1 (wmat n H) (i : Int)) (j : Int) + v))) = wmat n (ad1 H i j v) := by
  have e : wrap64 (rd (rd_L1 (wmat n H) (i : Int)) (j : Int) + v) = wrap64 (H i j + v) := by rw [wmat_at n H i hi, wrow_at n _ j hj, wr_addl]
  rw [e, wmat_put n H i j _ hi]; rfl
theorem putX (n : Nat) (H : Nat → Nat → Int) (i j : Nat) (v : Int) (hi : i < n) (hj : j < n) : put (wmat n H) (i : Int) (j : Int) (wrap64 (rd (rd_L1 (wmat n H) (i : Int)) (j : Int) + v)) = wmat n (ad1 H i j v) := by
  unfold put; rw [Int.toNat_natCast, Int.toNat_natCast]; exact put_ad n H i j v hi hj
theorem lapStep_ (n : Nat) (H : Nat → Nat → Int) (p : Nat × Nat) (h1 : p.1 < n) (h2 : p.2 < n) (hne : p.1 ≠ p.2) : lapStep (wmat n H) (p.1 : Int) (p.2 : Int) = some (wmat n (lap1 H p)) := by
  unfold lapStep
  have l1 : (rd_L1 (wmat n H) (p.1 : Int)).length = n := by rw [wmat_at n H _ h1, wrow_length]
  have l2 : (rd_L1 (wmat n H) (p.2 : Int)).length = n := by rw [wmat_at n H _ h2, wrow_length]
  rw [if_pos (by rw [wmat_length, l1, l2]; omega)]
  have s : ∀ x y : Int, x - 1 = x + (-1) := fun x y => by omega
  dsimp only
  rw [putX n H _ _ 1 h1 h1, Int.sub_eq_add_neg, putX n _ _ _ (-1) h1 h2, putX n _ _ _ 1 h2 h2, Int.sub_eq_add_neg, putX n _ _ _ (-1) h2 h1]
  unfold lap1
  rw [if_neg hne]
theorem lapS_l1 (N : Nat) (P : List (Nat × Nat)) (g : G8 N P) (d : Nat) : ∀ (i : Nat) (H : Nat → Nat → Int), i + d = P.length → Ev (fun k => spec_l05Laplacian.l1 k (wmat N H) (i : Int) (N : Int) (edg P)) (wmat N ((P.drop i).foldl lap1 H)) := by
  have h10 := g.len
  induction d with
  | zero =>
    intro i H hi
    rw [List.drop_of_length_le (by omega)]
    exact Ev.step (fun _ => rfl) (evF (by rw [edg_length]; omega) (evN rfl))
  | succ d ih =>
    intro i H hi
    have hi2 : i < P.length := by omega
    have hb := g.ends _ (List.getElem_mem hi2)
    have ri := edg_at P i hi2
    rw [List.drop_eq_getElem_cons hi2]
    generalize P[i] = p at hb ri
    refine Ev.step (fun _ => rfl) (evT (by rw [edg_length]; omega) (evT (by omega) ?_))
    rw [ri, show ∀ a b : Int, rd [a, b] 0 = a from fun _ _ => rfl, show ∀ a b : Int, rd [a, b] 1 = b from fun _ _ => rfl]
    refine evT (by simp) (evT (by simp) ?_)
    have h := ih (i + 1) (lap1 H p) (by omega)
    rw [← wnat (n := P.length) (by omega) (by omega)] at h
    by_cases e : p.1 = p.2
    · refine evT (by omega) ?_
      have e2 : lap1 H p = H := by unfold lap1; rw [if_pos e]
      rw [List.foldl_cons]; rw [e2] at h ⊢; exact h
    · exact evF (by omega) (evB (lapStep_ N H p hb.1 hb.2 e) h)
theorem lapS_l0 (N : Nat) (hN : N ≤ 8) (E : List (List Int)) (R : List (List Int)) (hR : Ev (fun k => spec_l05Laplacian.l1 k (List.replicate N (List.replicate N 0)) 0 (N : Int) E) R) (d : Nat) : ∀ i : Nat, i + d = N → Ev (fun k => spec_l05Laplacian.l0 k (List.replicate i (List.replicate N 0)) (i : Int) (N : Int) E) R := by
  induction d with
  | zero => intro i hi; obtain rfl : i = N := by omega
            exact Ev.step (fun _ => rfl) (evF (by omega) hR)
  | succ d ih =>
    intro i hi
    refine Ev.step (fun _ => rfl) (evT (by omega) (evT (by omega) (evT (by omega) (evT (by simp; omega) ?_))))
    rw [wnat (n := N) (by omega) (by omega), Int.toNat_natCast, ← List.replicate_succ']
    exact ih (i + 1) (by omega)
theorem lapS (N : Nat) (P : List (Nat × Nat)) (g : G8 N P) : Ev (fun k => spec_l05Laplacian.f k (N : Int) (edg P)) (wmat N (lapM P)) := by
  have h8 := g.hi
  unfold spec_l05Laplacian.f
  refine lapS_l0 N h8 _ _ ?_ N 0 (by omega)
  rw [wmat_zero]
  exact lapS_l1 N P g P.length 0 _ (by omega)
end Go.Proofs.Ytbchnmplooafpaa.Q
end
section
namespace Go.Proofs.Ytbchnmplooafpaa.Q
open Go.RowKit Go.Proofs.Ytbchnmplooafpaa.X Go.Proofs.Ytbchnmplooafpaa.Dt Go.Proofs.YtbchnmplooafpaaW.PrintWords Go.Proofs.YtbchnmplooafpaaW.PrintLast Go.Proofs.YtbchnmplooafpaaW.PrintMore
set_option linter.unusedVariables false
theorem ad1_row (n : Nat) (H : Nat → Nat → Int) (i j : Nat) (v : Int) (a : Nat) : (sm n fun b => ((ad1 H i j v a b).natAbs : Int)) ≤ (sm n fun b => ((H a b).natAbs : Int)) + if a = i then (v.natAbs : Int) else 0 := by
  by_cases q : a = i
  · rw [if_pos q]
    refine sm_bump n _ _ j _ (by omega) (fun b => ?_)
    unfold ad1
    by_cases q2 : b = j
    · rw [if_pos ⟨q, q2⟩, if_pos q2, q, q2]; omega
    · rw [if_neg (fun z => q2 z.2), if_neg q2]; omega
  · rw [if_neg q, Int.add_zero]
    refine sm_le fun b _ => ?_
    unfold ad1; rw [if_neg (fun z => q z.1)]; exact Int.le_refl _
theorem lap_row (n : Nat) (Q : List (Nat × Nat)) : ∀ (H : Nat → Nat → Int) (B : Int), (∀ a, (sm n fun b => ((H a b).natAbs : Int)) ≤ B) → ∀ a, (sm n fun b => ((Q.foldl lap1 H a b).natAbs : Int)) ≤ B + 2 * (Q.length : Int) := by
  induction Q with
  | nil => intro H B h a; have := h a; show (sm n fun b => ((H a b).natAbs : Int)) ≤ B + 2 * ((0 : Nat) : Int); omega
  | cons p Q ih =>
    intro H B h a
    have step : ∀ a, (sm n fun b => ((lap1 H p a b).natAbs : Int)) ≤ B + 2 := by
      intro a
      have h0 := h a
      by_cases e : p.1 = p.2
      · have e2 : lap1 H p = H := by unfold lap1; rw [if_pos e]
        rw [e2]; omega
      · have e2 : lap1 H p = ad1 (ad1 (ad1 (ad1 H p.1 p.1 1) p.1 p.2 (-1)) p.2 p.2 1) p.2 p.1 (-1) := by unfold lap1; rw [if_neg e]
        rw [e2]
        have a1 := ad1_row n H p.1 p.1 1 a
        have a2 := ad1_row n (ad1 H p.1 p.1 1) p.1 p.2 (-1) a
        have a3 := ad1_row n (ad1 (ad1 H p.1 p.1 1) p.1 p.2 (-1)) p.2 p.2 1 a
        have a4 := ad1_row n (ad1 (ad1 (ad1 H p.1 p.1 1) p.1 p.2 (-1)) p.2 p.2 1) p.2 p.1 (-1) a
        have c1 : ((1 : Int).natAbs : Int) = 1 := rfl
        have c2 : (((-1) : Int).natAbs : Int) = 1 := rfl
        rw [c1] at a1 a3
        rw [c2] at a2 a4
        by_cases q1 : a = p.1
        · rw [if_pos q1] at a1 a2
          rw [if_neg (fun z => e (by omega))] at a3 a4
          omega
        · rw [if_neg q1] at a1 a2
          by_cases q2 : a = p.2
          · rw [if_pos q2] at a3 a4; omega
          · rw [if_neg q2] at a3 a4; omega
    have := ih (lap1 H p) (B + 2) step a
    show (sm n fun b => ((Q.foldl lap1 (lap1 H p) a b).natAbs : Int)) ≤ B + 2 * (((Q.length + 1 : Nat)) : Int)
    omega
theorem lap_sml (n : Nat) (P : List (Nat × Nat)) (hP : P.length ≤ 10) : Sml n (lapM P) := by
  intro a _
  rw [sm_add]
  have h1 := sm_ee n a
  have h2 := lap_row n P (fun _ _ => 0) 0 (fun a => Int.le_of_eq (sm_zero n)) a
  show _ + (sm n fun b => ((P.foldl lap1 (fun _ _ => 0) a b).natAbs : Int)) ≤ 21
  omega
end Go.Proofs.Ytbchnmplooafpaa.Q
end
section
namespace Go.Proofs.Ytbchnmplooafpaa.Q
open Go.RowKit Go.Proofs.Ytbchnmplooafpaa.X Go.Proofs.Ytbchnmplooafpaa.Dt Go.Proofs.YtbchnmplooafpaaW.PrintWords Go.Proofs.YtbchnmplooafpaaW.PrintLast Go.Proofs.YtbchnmplooafpaaW.PrintMore
set_option linter.unusedVariables false
set_option linter.unusedSimpArgs false
def cntF (c : Nat) : Nat → Nat → Nat
  | 0, _ => 0
  | d + 1, i => (if hasB c i then 1 else 0) + cntF c d (i + 1)
theorem list_l (c : Nat) (d : Nat) : ∀ (i : Nat) (x : List Int), i + d = 10 → x.length ≤ i → ∃ y : List Int, y.length = x.length + cntF c d i ∧ Ev (fun k => impl_subset_list.l0 k (c : Int) x (i : Int)) y := by
  induction d with
  | zero => intro i x hi hx; exact ⟨x, by unfold cntF; omega, Ev.step (fun _ => rfl) (evF (by omega) (evN rfl))⟩
  | succ d ih =>
    intro i x hi hx
    by_cases q : hasB c i
    · obtain ⟨y, hy, h⟩ := ih (i + 1) (x ++ [(i : Int)]) (by omega) (by simp; omega)
      refine ⟨y, by unfold cntF; rw [if_pos q, hy]; simp; omega, Ev.step (fun _ => rfl) (evT (by omega) (evB (has_ c i) (evT (by simp [q]) (evT (by omega) ?_))))⟩
      rw [wnat (n := 10) (by omega) (by omega)]; exact h
    · obtain ⟨y, hy, h⟩ := ih (i + 1) x (by omega) (by omega)
      refine ⟨y, by unfold cntF; rw [if_neg q, hy]; omega, Ev.step (fun _ => rfl) (evT (by omega) (evB (has_ c i) (evF (by simp [q]) ?_)))⟩
      rw [wnat (n := 10) (by omega) (by omega)]; exact h
theorem sel_cnt (c : Nat) (P : List (Nat × Nat)) : ∀ i, (selF c i P).length = cntF c P.length i := by
  induction P with
  | nil => intro i; rfl
  | cons q P ih =>
    intro i
    have := ih (i + 1)
    unfold selF
    show _ = (if hasB c i then 1 else 0) + cntF c P.length (i + 1)
    split
    · show (selF c (i + 1) P).length + 1 = _; omega
    · omega
theorem hbit : ∀ c : Fin 1024, ∀ k : Fin 10, hasB c.val k.val ↔ (c.val / 2 ^ k.val) % 2 = 1 := by decide +kernel
theorem cntF_add (c : Nat) (a : Nat) : ∀ b i, cntF c (a + b) i = cntF c a i + cntF c b (i + a) := by
  induction a with
  | zero => intro b i; rw [Nat.zero_add]; show _ = 0 + _; rw [Nat.zero_add]; rfl
  | succ a ih =>
    intro b i
    rw [show a + 1 + b = (a + b) + 1 by omega]
    show (if hasB c i then 1 else 0) + cntF c (a + b) (i + 1) = (if hasB c i then 1 else 0) + cntF c a (i + 1) + _
    rw [ih b (i + 1), show i + 1 + a = i + (a + 1) by omega]; omega
theorem cntF_hi (c : Nat) (hc : c < 1024) (d : Nat) : ∀ i, c < 2 ^ i → i + d ≤ 10 → cntF c d i = 0 := by
  induction d with
  | zero => intro i _ _; rfl
  | succ d ih =>
    intro i h hi
    show (if hasB c i then 1 else 0) + cntF c d (i + 1) = 0
    have nb : ¬ hasB c i := by
      rw [hbit ⟨c, hc⟩ ⟨i, by omega⟩]
      show ¬ (c / 2 ^ i) % 2 = 1
      rw [Nat.div_eq_of_lt h]; omega
    rw [if_neg nb, ih (i + 1) (Nat.lt_of_lt_of_le h (Nat.pow_le_pow_right (by omega) (by omega))) (by omega)]
theorem cnt_exact (P : List (Nat × Nat)) (hP : P.length ≤ 10) (c : Nat) (hc : c < 2 ^ P.length) : Ev (fun k => impl_subset_count.f k (c : Int)) ((selF c 0 P).length : Int) := by
  have h2 : 2 ^ P.length ≤ 2 ^ 10 := Nat.pow_le_pow_right (by omega) hP
  have hc2 : c < 1024 := by omega
  have e1 : cntF c 10 0 = (selF c 0 P).length := by
    rw [sel_cnt]
    have := cntF_add c P.length (10 - P.length) 0
    rw [show P.length + (10 - P.length) = 10 by omega, Nat.zero_add, cntF_hi c hc2 (10 - P.length) P.length hc (by omega)] at this
    omega
  obtain ⟨y, hy, b⟩ := list_l c 10 0 [] (by omega) (by simp)
  unfold impl_subset_count.f impl_subset_list.f
  refine Ev.bind b (evN ?_)
  rw [hy, e1]; simp
def Tre (N : Nat) (c : Nat → Nat) (S : List (Nat × Nat)) : Prop := fx N (S.foldl stp c) = 1 ∧ fx N c = 1 + S.length
instance (N : Nat) (c : Nat → Nat) (S : List (Nat × Nat)) : Decidable (Tre N c S) := by unfold Tre; infer_instance
theorem fx_one {c d : Nat → Nat} (M : Nat) (h1 : c M = M) (h2 : d M ≠ M) (n : Nat) (h : ∀ v, v < n → v ≠ M → (d v = v ↔ c v = v)) : fx n c = fx n d + if M < n then 1 else 0 := by
  induction n with
  | zero => rfl
  | succ n ih =>
    have := ih (fun v hv => h v (by omega))
    show fx n c + (if c n = n then 1 else 0) = fx n d + (if d n = n then 1 else 0) + _
    by_cases q : n = M
    · subst q
      rw [if_pos h1, if_neg h2, if_pos (by omega)]
      rw [if_neg (by omega)] at this; omega
    · have hq := h n (by omega) q
      by_cases e : c n = n
      · rw [if_pos e, if_pos (hq.2 e)]
        by_cases z : M < n
        · rw [if_pos z] at this; rw [if_pos (by omega)]; omega
        · rw [if_neg z] at this; rw [if_neg (by omega)]; omega
      · rw [if_neg e, if_neg (fun z => e (hq.1 z))]
        by_cases z : M < n
        · rw [if_pos z] at this; rw [if_pos (by omega)]; omega
        · rw [if_neg z] at this; rw [if_neg (by omega)]; omega
theorem stp_at (c : Nat → Nat) (p : Nat × Nat) (v : Nat) : stp c p v = if c v = max (c p.1) (c p.2) then min (c p.1) (c p.2) else c v := rfl
theorem fx_join (n : Nat) (c : Nat → Nat) (hc : Good c) (p : Nat × Nat) (h1 : p.1 < n) (h2 : p.2 < n) (hne : c p.1 ≠ c p.2) : fx n c = fx n (stp c p) + 1 := by
  have a1 := hc p.1; have a2 := hc p.2
  have hM : c (max (c p.1) (c p.2)) = max (c p.1) (c p.2) := by
    rcases Nat.le_total (c p.1) (c p.2) with q | q
    · rw [Nat.max_eq_right q]; exact a2.2
    · rw [Nat.max_eq_left q]; exact a1.2
  have := fx_one (c := c) (d := stp c p) (max (c p.1) (c p.2)) hM (by rw [stp_at, hM, if_pos rfl]; omega) n (fun v _ hv => by
    rw [stp_at]
    by_cases e : c v = max (c p.1) (c p.2)
    · rw [if_pos e, e]
      constructor
      · intro z; exfalso
        have hm : c (min (c p.1) (c p.2)) = min (c p.1) (c p.2) := by
          rcases Nat.le_total (c p.1) (c p.2) with q | q
          · rw [Nat.min_eq_left q]; exact a1.2
          · rw [Nat.min_eq_right q]; exact a2.2
        rw [z] at hm; omega
      · intro z; omega
    · rw [if_neg e])
  rw [this, if_pos (by omega)]
theorem stp_same (c : Nat → Nat) (p : Nat × Nat) (h : c p.1 = c p.2) : stp c p = c := by
  funext v; rw [stp_at]; split
  · omega
  · rfl
theorem tre_cons (N : Nat) (c : Nat → Nat) (hc : Good c) (p : Nat × Nat) (S : List (Nat × Nat)) (h1 : p.1 < N) (h2 : p.2 < N) : Tre N c (p :: S) ↔ c p.1 ≠ c p.2 ∧ Tre N (stp c p) S := by
  unfold Tre
  show fx N (S.foldl stp (stp c p)) = 1 ∧ fx N c = 1 + (S.length + 1) ↔ _
  by_cases e : c p.1 = c p.2
  · rw [stp_same c p e]
    have := fx_fold N S c
    constructor
    · intro z; omega
    · intro z; exact absurd e z.1
  · have := fx_join N c hc p h1 h2 e
    constructor
    · intro z; exact ⟨e, z.1, by omega⟩
    · intro z; exact ⟨z.2.1, by omega⟩
def cntN : Nat → (Nat → Bool) → Nat
  | 0, _ => 0
  | n + 1, f => cntN n f + if f n = true then 1 else 0
theorem cntN_congr {f g : Nat → Bool} (n : Nat) (h : ∀ q, q < n → f q = g q) : cntN n f = cntN n g := by
  induction n with
  | zero => rfl
  | succ n ih => show cntN n f + _ = cntN n g + _; rw [ih (fun q hq => h q (by omega)), h n (by omega)]
theorem cntN_no {f : Nat → Bool} (n : Nat) (h : ∀ q, q < n → f q = false) : cntN n f = 0 := by
  induction n with
  | zero => rfl
  | succ n ih => show cntN n f + _ = 0; rw [ih (fun q hq => h q (by omega)), h n (by omega)]; simp
theorem cntN_two (f : Nat → Bool) (M : Nat) : cntN (2 * M) f = cntN M (fun q => f (2 * q)) + cntN M (fun q => f (2 * q + 1)) := by
  induction M with
  | zero => rfl
  | succ M ih =>
    show cntN (2 * M) f + (if f (2 * M) = true then 1 else 0) + (if f (2 * M + 1) = true then 1 else 0) = cntN M _ + (if f (2 * M) = true then 1 else 0) + (cntN M _ + (if f (2 * M + 1) = true then 1 else 0))
    rw [ih]; omega
theorem cntN_le (f : Nat → Bool) (n : Nat) : cntN n f ≤ n := by
  induction n with
  | zero => exact Nat.le_refl _
  | succ n ih => show cntN n f + _ ≤ n + 1; split <;> omega
theorem sel_shift (q b : Nat) (hb : b < 2) (P : List (Nat × Nat)) : ∀ i, 2 * q + b < 1024 → i + P.length ≤ 9 → selF (2 * q + b) (i + 1) P = selF q i P := by
  induction P with
  | nil => intro i _ _; rfl
  | cons p P ih =>
    intro i h hi
    have hi2 : i + (P.length + 1) ≤ 9 := hi
    have e := ih (i + 1) h (by omega)
    have e2 : hasB (2 * q + b) (i + 1) ↔ hasB q i := by
      rw [hbit ⟨2 * q + b, h⟩ ⟨i + 1, by omega⟩, hbit ⟨q, by omega⟩ ⟨i, by omega⟩]
      show (2 * q + b) / 2 ^ (i + 1) % 2 = 1 ↔ q / 2 ^ i % 2 = 1
      rw [Nat.pow_succ, Nat.mul_comm (2 ^ i) 2, ← Nat.div_div_eq_div_mul, show (2 * q + b) / 2 = q by omega]
    unfold selF
    by_cases z : hasB q i
    · rw [if_pos z, if_pos (e2.2 z), e]
    · rw [if_neg z, if_neg (fun w => z (e2.1 w)), e]
theorem sel_low (q b : Nat) (hb : b < 2) (h : 2 * q + b < 1024) (p : Nat × Nat) (P : List (Nat × Nat)) (hP : P.length ≤ 9) : selF (2 * q + b) 0 (p :: P) = if b = 1 then p :: selF q 0 P else selF q 0 P := by
  have e : hasB (2 * q + b) 0 ↔ b = 1 := by
    rw [hbit ⟨2 * q + b, h⟩ ⟨0, by omega⟩]
    show (2 * q + b) / 2 ^ 0 % 2 = 1 ↔ b = 1
    rw [Nat.pow_zero, Nat.div_one]; omega
  have e2 := sel_shift q b hb P 0 h (by omega)
  rw [show selF (2 * q + b) 0 (p :: P) = if hasB (2 * q + b) 0 then p :: selF (2 * q + b) (0 + 1) P else selF (2 * q + b) (0 + 1) P from rfl, e2]
  by_cases z : b = 1
  · rw [if_pos z, if_pos (e.2 z)]
  · rw [if_neg z, if_neg (fun w => z (e.1 w))]
theorem fx_all0 (c : Nat → Nat) (n : Nat) (h : ∀ v, v < n + 1 → c v = 0) : fx (n + 1) c = 1 := by
  induction n with
  | zero => show 0 + (if c 0 = 0 then 1 else 0) = 1; rw [if_pos (h 0 (by omega))]
  | succ n ih =>
    show fx (n + 1) c + (if c (n + 1) = n + 1 then 1 else 0) = 1
    rw [ih (fun v hv => h v (by omega)), if_neg (by rw [h (n + 1) (by omega)]; omega)]
theorem fx_two (c : Nat → Nat) (b : Nat) (h0 : c 0 = 0) (hb : c b = b) (hb0 : 0 < b) (n : Nat) : b < n → 2 ≤ fx n c := by
  have one : ∀ n, 1 ≤ fx (n + 1) c := by
    intro n
    induction n with
    | zero => show 1 ≤ 0 + (if c 0 = 0 then 1 else 0); rw [if_pos h0]; omega
    | succ n ih => show 1 ≤ fx (n + 1) c + _; omega
  induction n with
  | zero => intro h; omega
  | succ n ih =>
    intro h
    show 2 ≤ fx n c + (if c n = n then 1 else 0)
    by_cases e : b = n
    · rw [if_pos (by rw [← e]; exact hb)]
      obtain ⟨n', rfl⟩ : ∃ n', n = n' + 1 := ⟨n - 1, by omega⟩
      have := one n'; omega
    · have := ih (by omega); omega
theorem ker_stp (c : Nat → Nat) (p : Nat × Nat) (u v : Nat) : stp c p u = stp c p v ↔ (c u = c v ∨ ((c u = c p.1 ∨ c u = c p.2) ∧ (c v = c p.1 ∨ c v = c p.2))) := by
  rw [stp_at, stp_at]
  generalize c u = x; generalize c v = y; generalize c p.1 = a; generalize c p.2 = b
  by_cases h : x = max a b <;> by_cases h2 : y = max a b
  · rw [if_pos h, if_pos h2]; omega
  · rw [if_pos h, if_neg h2]; omega
  · rw [if_neg h, if_pos h2]; omega
  · rw [if_neg h, if_neg h2]; omega
theorem ker_mrg (c : Nat → Nat) (m M u v : Nat) : mrg c m M u = mrg c m M v ↔ (c u = c v ∨ ((c u = m ∨ c u = M) ∧ (c v = m ∨ c v = M))) := by
  show (if c u = m then M else c u) = (if c v = m then M else c v) ↔ _
  generalize c u = x; generalize c v = y
  by_cases h : x = m <;> by_cases h2 : y = m
  · rw [if_pos h, if_pos h2]; omega
  · rw [if_pos h, if_neg h2]; omega
  · rw [if_neg h, if_pos h2]; omega
  · rw [if_neg h, if_neg h2]; omega
theorem cnt_trc (r : Nat) (P : List (Nat × Nat)) : ∀ (c c' : Nat → Nat), Good c → Top r c' → (∀ u v, u ≤ r → v ≤ r → (c u = c v ↔ c' u = c' v)) → (∀ p ∈ P, p.1 < r + 1 ∧ p.2 < r + 1) → P.length ≤ 10 → cntN (2 ^ P.length) (fun s => decide (Tre (r + 1) c (selF s 0 P))) = trc r c' P := by
  induction P with
  | nil =>
    intro c c' hc hc' hk _ _
    show cntN 0 _ + (if decide (Tre (r + 1) c []) = true then 1 else 0) = if ∀ v, v < r + 1 → c' v = r then 1 else 0
    have c0 : c 0 = 0 := by have := (hc 0).1; omega
    have cr := hc'.root
    have e : Tre (r + 1) c [] ↔ ∀ v, v < r + 1 → c' v = r := by
      constructor
      · intro h v hv
        have h1 : fx (r + 1) c = 1 := h.1
        have z : ∀ w, w ≤ r → c w = 0 := by
          intro w hw
          by_cases q : c w = 0
          · exact q
          · have := fx_two c (c w) c0 (hc w).2 (by omega) (r + 1) (by have := (hc w).1; omega)
            omega
        have := (hk v r (by omega) (Nat.le_refl _)).1 (by rw [z v (by omega), z r (Nat.le_refl _)])
        rw [this, cr]
      · intro h
        have z : ∀ v, v < r + 1 → c v = 0 := by
          intro v hv
          have := (hk v 0 (by omega) (Nat.zero_le _)).2 (by rw [h v hv, h 0 (by omega)])
          rw [this, c0]
        have h1 := fx_all0 c r z
        exact ⟨h1, h1⟩
    by_cases q : ∀ v, v < r + 1 → c' v = r
    · rw [if_pos q, if_pos (by simpa using e.2 q)]; rfl
    · rw [if_neg q, if_neg (by simpa using fun z => q (e.1 z))]; rfl
  | cons p P ih =>
    intro c c' hc hc' hk hP hl
    have hl2 : P.length + 1 ≤ 10 := hl
    obtain ⟨h1, h2⟩ := hP p (List.mem_cons_self ..)
    have hP' : ∀ p ∈ P, p.1 < r + 1 ∧ p.2 < r + 1 := fun q hq => hP q (List.mem_cons_of_mem _ hq)
    have h512 : 2 ^ P.length ≤ 2 ^ 9 := Nat.pow_le_pow_right (by omega) (by omega)
    rw [show 2 ^ (p :: P).length = 2 * 2 ^ P.length from by show 2 ^ (P.length + 1) = _; rw [Nat.pow_succ, Nat.mul_comm], cntN_two]
    have ev : cntN (2 ^ P.length) (fun q => decide (Tre (r + 1) c (selF (2 * q) 0 (p :: P)))) = trc r c' P := by
      rw [← ih c c' hc hc' hk hP' (by omega)]
      refine cntN_congr _ fun q hq => ?_
      have := sel_low q 0 (by omega) (by omega) p P (by omega)
      rw [Nat.add_zero] at this
      rw [this, if_neg (by omega)]
    rw [ev]
    show _ = trc r c' P + if c' p.1 = c' p.2 then 0 else if c' p.1 < c' p.2 then trc r (mrg c' (c' p.1) (c' p.2)) P else trc r (mrg c' (c' p.2) (c' p.1)) P
    congr 1
    have od : ∀ q, q < 2 ^ P.length → selF (2 * q + 1) 0 (p :: P) = p :: selF q 0 P := by
      intro q hq
      rw [sel_low q 1 (by omega) (by omega) p P (by omega), if_pos rfl]
    have hkp := hk p.1 p.2 (by omega) (by omega)
    by_cases e : c' p.1 = c' p.2
    · rw [if_pos e]
      refine cntN_no _ fun q hq => ?_
      rw [od q hq]
      exact decide_eq_false (fun z => ((tre_cons (r + 1) c hc p _ h1 h2).1 z).1 (hkp.2 e))
    · rw [if_neg e]
      have ne : c p.1 ≠ c p.2 := fun z => e (hkp.1 z)
      have main : ∀ m M, ((m = c' p.1 ∧ M = c' p.2) ∨ (m = c' p.2 ∧ M = c' p.1)) → m < M → cntN (2 ^ P.length) (fun q => decide (Tre (r + 1) c (selF (2 * q + 1) 0 (p :: P)))) = trc r (mrg c' m M) P := by
        intro m M hm hlt
        have i1 := hc'.idem p.1 (by omega); have i2 := hc'.idem p.2 (by omega)
        have l1 := hc'.le p.1 (by omega); have l2 := hc'.le p.2 (by omega)
        rw [← ih (stp c p) (mrg c' m M) (good_stp hc p) (mrg_top hc' (by rcases hm with z | z <;> rw [z.1] <;> assumption) (by rcases hm with z | z <;> rw [z.2] <;> assumption) hlt (by rcases hm with z | z <;> rw [z.2] <;> assumption)) (fun u v hu hv => ?_) hP' (by omega)]
        · refine cntN_congr _ fun q hq => ?_
          rw [od q hq]
          exact decide_eq_decide.2 ((tre_cons (r + 1) c hc p _ h1 h2).trans ⟨fun z => z.2, fun z => ⟨ne, z⟩⟩)
        · have k0 := hk u v hu hv
          have k1 := hk u p.1 hu (by omega); have k2 := hk u p.2 hu (by omega)
          have k3 := hk v p.1 hv (by omega); have k4 := hk v p.2 hv (by omega)
          have s1 := ker_stp c p u v
          have s2 : mrg c' m M u = mrg c' m M v ↔ (c' u = c' v ∨ ((c' u = c' p.1 ∨ c' u = c' p.2) ∧ (c' v = c' p.1 ∨ c' v = c' p.2))) := by
            rw [ker_mrg]
            rcases hm with z | z
            · rw [z.1, z.2]
            · rw [z.1, z.2, Or.comm (a := c' u = c' p.2), Or.comm (a := c' v = c' p.2)]
          rw [s1, s2, k0, k1, k2, k3, k4]
      by_cases l : c' p.1 < c' p.2
      · rw [if_pos l]; exact main _ _ (.inl ⟨rfl, rfl⟩) l
      · rw [if_neg l]; exact main _ _ (.inr ⟨rfl, rfl⟩) (by omega)
theorem lap_step (H : Nat → Nat → Int) (p : Nat × Nat) (a b : Nat) : lap1 H p a b = H a b + lapE p a b := by
  unfold lap1 lapE
  by_cases e : p.1 = p.2
  · rw [if_pos e, e, Int.sub_self, Int.zero_mul, Int.add_zero]
  · rw [if_neg e]
    unfold ad1 ee
    by_cases a1 : a = p.1 <;> by_cases a2 : a = p.2 <;> by_cases b1 : b = p.1 <;> by_cases b2 : b = p.2 <;> simp [a1, a2, b1, b2] <;> (try omega) <;> (repeat' split) <;> omega
theorem lap_fold (Q : List (Nat × Nat)) : ∀ (H : Nat → Nat → Int) (a b : Nat), Q.foldl lap1 H a b = H a b + lapL Q a b := by
  induction Q with
  | nil => intro H a b; show H a b = H a b + 0; omega
  | cons p Q ih =>
    intro H a b
    show Q.foldl lap1 (lap1 H p) a b = H a b + (lapE p a b + lapL Q a b)
    rw [ih, lap_step]; omega
theorem lap_eq (P : List (Nat × Nat)) (a b : Nat) : lapM P a b = lapL P a b := by
  show P.foldl lap1 (fun _ _ => 0) a b = _
  rw [lap_fold]; omega
theorem det_spec_l (r : Nat) (hr : r ≤ 8) (L : Nat → Nat → Int) (Z : Int) (hZ : Ev (fun k => (spec_l01Berkowitz.f k (wmat r L)).bind fun t112 => (if (t112.length : Int) ≤ (r : Int) then (some 0) else (if 0 ≤ (r : Int) then (if (r : Int) < (t112.length : Int) then (some (wrap64 ((rd t112 (r : Int)) * (wrap64 (1 - (wrap64 (2 * (Int.tmod (r : Int) 2)))))))) else (none)) else (none)))) Z) (d : Nat) : ∀ i : Nat, i + d = r → Ev (fun k => spec_l05Det.l0 k (wmat (r + 1) L) (r : Int) ((List.range i).map fun a => wrow r (L a)) (i : Int)) Z := by
  induction d with
  | zero => intro i hi; obtain rfl : i = r := by omega
            exact Ev.step (fun _ => rfl) (evF (by omega) hZ)
  | succ d ih =>
    intro i hi
    have h := ih (i + 1) (by omega)
    have e : (wrow (r + 1) (L i)).take r = wrow r (L i) := by
      apply List.ext_getElem
      · rw [List.length_take, wrow_length, wrow_length]; omega
      · intro j h1 h2; simp [wrow]
    refine Ev.step (fun _ => rfl) (evT (by omega) (evT (by omega) (evT (by rw [wmat_length]; omega) (evT (by omega) (evT (by rw [wmat_at _ L i (by omega), wrow_length]; omega) (evB (a := wrow r (L i)) ?_ (evT (by simp; omega) ?_)))))))
    · rw [wmat_at _ L i (by omega), Int.toNat_natCast, e]; exact own_ _ (by rw [wrow_length]; omega)
    · rw [wnat (n := 20) (by omega) (by omega)]
      rw [List.range_succ, List.map_append] at h
      exact h
theorem sml_less {r : Nat} {L : Nat → Nat → Int} (h : Sml (r + 1) L) : Sml r L := by
  intro a ha
  have := h a (by omega)
  have m := sm_more (f := fun b => ((ee b a).natAbs : Int) + ((L a b).natAbs : Int)) (fun i => by omega) r 1
  omega
theorem det_spec (r : Nat) (hr : r + 1 ≤ 8) (L : Nat → Nat → Int) (hL : Sml (r + 1) L) : Ev (fun k => spec_l05Det.f k (wmat (r + 1) L)) (wrap64 (det r L)) := by
  obtain ⟨c, M, hc, f, hf, hv, s, i⟩ := det_full r L (by omega) (sml_less hL)
  have last := cp_last hc
  have hvr := hv r (by omega)
  have dt : det r L = sgn r * c r := by rw [last, ← Int.mul_assoc, sgn_sq, Int.one_mul]
  have sg : wrap64 (1 - wrap64 (2 * (Int.tmod (r : Int) 2))) = sgn r := by
    rw [tmod2]; unfold sgn
    rcases Nat.mod_two_eq_zero_or_one r with h | h <;> rw [h] <;> simp [wrap64]
  unfold spec_l05Det.f
  rw [wmat_length, wid (x := ((r + 1 : Nat) : Int) - 1) (by omega) (by omega), show ((r + 1 : Nat) : Int) - 1 = (r : Int) by omega]
  refine det_spec_l r (by omega) L _ (Ev.bind s ?_) r 0 (by omega)
  unfold vl at hvr
  by_cases q : (f.length : Int) ≤ (r : Int)
  · refine evT q (evN ?_)
    rw [if_neg (by omega)] at hvr
    rw [dt, ← wr_mulr, ← hvr, Int.mul_zero, w0]
  · refine evF q (evT (by omega) (evT (by omega) (evN ?_)))
    rw [if_pos (by omega)] at hvr
    rw [sg, hvr, wr_mull, dt, Int.mul_comm]
def trees (N : Nat) (P : List (Nat × Nat)) : Nat := cntN (2 ^ P.length) (fun s => decide (Tre N (fun v => v) (selF s 0 P)))
theorem trees_spec (N : Nat) (P : List (Nat × Nat)) (g : G8 N P) : Ev (fun k => spec_l05Trees.f k (N : Int) (edg P)) ((trees N P : Nat) : Int) := by
  have h8 := g.hi; have h0 := g.lo; have h10 := g.len
  obtain ⟨r, rfl⟩ : ∃ r, N = r + 1 := ⟨N - 1, by omega⟩
  have e1 : trees (r + 1) P = trc r (fun v => v) P := cnt_trc r P (fun v => v) (fun v => v) good_id ⟨fun v h => h, fun v _ => Nat.le_refl _, fun v _ => rfl⟩ (fun u v _ _ => Iff.rfl) g.ends g.len
  have e2 := matrix_tree r P (fun p hp => by have := g.ends p hp; omega)
  have le := cntN_le (fun s => decide (Tre (r + 1) (fun v => v) (selF s 0 P))) (2 ^ P.length)
  have h2 : 2 ^ P.length ≤ 2 ^ 10 := Nat.pow_le_pow_right (by omega) h10
  have e3 : det r (lapM P) = ((trees (r + 1) P : Nat) : Int) := by
    rw [e1, ← e2]; exact det_congr fun a b _ _ => lap_eq P a b
  have D := det_spec r h8 (lapM P) (lap_sml (r + 1) P h10)
  rw [e3, wid (by unfold trees; omega) (by unfold trees; omega)] at D
  unfold spec_l05Trees.f
  exact Ev.bind (lapS (r + 1) P g) (Ev.bind D (evN rfl))
theorem tree_impl (N : Nat) (P : List (Nat × Nat)) (g : G8 N P) (s : Nat) (hs : s < 2 ^ P.length) : Ev (fun k => impl_Graph_isTree.f k (N : Int) (edg P) (s : Int)) (decide (Tre N (fun v => v) (selF s 0 P))) := by
  have h8 := g.hi; have h10 := g.len
  obtain ⟨_, I⟩ := parts_exact N P g s
  have C := cnt_exact P g.len s hs
  have hf := fx_le N (cl (selF s 0 P))
  have hl := selF_length s P 0
  have id := fx_id N
  unfold impl_Graph_isTree.f impl_Graph_isForest.f impl_Graph_rankWith.f
  refine Ev.bind (a := (((N : Int) - (fx N (cl (selF s 0 P)) : Int)) == ((selF s 0 P).length : Int))) (Ev.bind (Ev.bind I (evN rfl)) (Ev.bind C (evN ?_))) ?_
  · rw [wid (by omega) (by omega)]
  · have T : Tre N (fun v => v) (selF s 0 P) ↔ fx N (cl (selF s 0 P)) = 1 ∧ N = 1 + (selF s 0 P).length := by unfold Tre; rw [id]; rfl
    by_cases q : (N : Int) - (fx N (cl (selF s 0 P)) : Int) = ((selF s 0 P).length : Int)
    · refine evT (by simpa using q) (Ev.bind I (evN ?_))
      by_cases z : fx N (cl (selF s 0 P)) = 1
      · rw [decide_eq_true (T.2 ⟨z, by omega⟩), z]; rfl
      · rw [decide_eq_false (fun w => z (T.1 w).1)]
        have : ¬ ((fx N (cl (selF s 0 P)) : Int) = 1) := by omega
        simp [this]
    · refine evF (by simpa using q) (evN ?_)
      rw [decide_eq_false (fun w => q (by have := T.1 w; omega))]
end Go.Proofs.Ytbchnmplooafpaa.Q
end
section
namespace Go.Proofs.Ytbchnmplooafpaa.Q
open Go.RowKit Go.Proofs.Ytbchnmplooafpaa.X Go.Proofs.Ytbchnmplooafpaa.Dt Go.Proofs.YtbchnmplooafpaaW.PrintWords Go.Proofs.YtbchnmplooafpaaW.PrintLast Go.Proofs.YtbchnmplooafpaaW.PrintMore
set_option linter.unusedVariables false
theorem shlE (i : Nat) (h : i ≤ 10) : shl .i64 1 (i : Int) = ((2 ^ i : Nat) : Int) := by
  have : i = 0 ∨ i = 1 ∨ i = 2 ∨ i = 3 ∨ i = 4 ∨ i = 5 ∨ i = 6 ∨ i = 7 ∨ i = 8 ∨ i = 9 ∨ i = 10 := by omega
  rcases this with rfl | rfl | rfl | rfl | rfl | rfl | rfl | rfl | rfl | rfl | rfl <;> decide +kernel
theorem in_ (a b c : Int) : spec_l01In.f a b c = some (decide (b ≤ a ∧ a ≤ c)) ∧ impl_within.f a b c = some (decide (b ≤ a ∧ a ≤ c)) := by
  unfold spec_l01In.f impl_within.f
  by_cases h : a ≥ b
  · rw [if_pos h]
    have : (b ≤ a ∧ a ≤ c) ↔ a ≤ c := by omega
    simp [this]
  · rw [if_neg h, decide_eq_false (by omega)]; exact ⟨rfl, rfl⟩
theorem cnt_less (F : List (Nat × Nat) → Bool) (P : List (Nat × Nat)) : ∀ (F : List (Nat × Nat) → Bool) (k : Nat), k < P.length → P.length ≤ 10 → cntN (2 ^ P.length) (fun s => !decide (hasB s k) && F (selF s 0 P)) = cntN (2 ^ (P.eraseIdx k).length) (fun s => F (selF s 0 (P.eraseIdx k))) := by
  induction P with
  | nil => intro F k h _; simp at h
  | cons p P ih =>
    intro F k hk hl
    have hl2 : P.length + 1 ≤ 10 := hl
    have hk2 : k < P.length + 1 := hk
    have h512 : 2 ^ P.length ≤ 2 ^ 9 := Nat.pow_le_pow_right (by omega) (by omega)
    have lo : ∀ q, q < 2 ^ P.length → selF (2 * q) 0 (p :: P) = selF q 0 P := by
      intro q hq
      have := sel_low q 0 (by omega) (by omega) p P (by omega)
      rw [Nat.add_zero] at this
      rw [this, if_neg (by omega)]
    have hi : ∀ q, q < 2 ^ P.length → selF (2 * q + 1) 0 (p :: P) = p :: selF q 0 P := by
      intro q hq
      rw [sel_low q 1 (by omega) (by omega) p P (by omega), if_pos rfl]
    have bt : ∀ q b, b < 2 → 2 * q + b < 1024 → ∀ j, j < 9 → (hasB (2 * q + b) (j + 1) ↔ hasB q j) := by
      intro q b hb h j hj
      rw [hbit ⟨2 * q + b, h⟩ ⟨j + 1, by omega⟩, hbit ⟨q, by omega⟩ ⟨j, by omega⟩]
      show (2 * q + b) / 2 ^ (j + 1) % 2 = 1 ↔ q / 2 ^ j % 2 = 1
      rw [Nat.pow_succ, Nat.mul_comm (2 ^ j) 2, ← Nat.div_div_eq_div_mul, show (2 * q + b) / 2 = q by omega]
    have b0 : ∀ q b, b < 2 → 2 * q + b < 1024 → (hasB (2 * q + b) 0 ↔ b = 1) := by
      intro q b hb h
      rw [hbit ⟨2 * q + b, h⟩ ⟨0, by omega⟩]
      show (2 * q + b) / 2 ^ 0 % 2 = 1 ↔ b = 1
      rw [Nat.pow_zero, Nat.div_one]; omega
    rw [show 2 ^ (p :: P).length = 2 * 2 ^ P.length from by show 2 ^ (P.length + 1) = _; rw [Nat.pow_succ, Nat.mul_comm], cntN_two]
    cases k with
    | zero =>
      rw [show (p :: P).eraseIdx 0 = P from rfl]
      have z : cntN (2 ^ P.length) (fun q => !decide (hasB (2 * q + 1) 0) && F (selF (2 * q + 1) 0 (p :: P))) = 0 := by
        refine cntN_no _ fun q hq => ?_
        rw [decide_eq_true ((b0 q 1 (by omega) (by omega)).2 rfl)]; rfl
      rw [z, Nat.add_zero]
      refine cntN_congr _ fun q hq => ?_
      have := b0 q 0 (by omega) (by omega)
      rw [Nat.add_zero] at this
      rw [lo q hq, decide_eq_false (fun w => by have := this.1 w; omega)]; rfl
    | succ k =>
      rw [show (p :: P).eraseIdx (k + 1) = p :: P.eraseIdx k from rfl]
      have e1 : cntN (2 ^ P.length) (fun q => !decide (hasB (2 * q) (k + 1)) && F (selF (2 * q) 0 (p :: P))) = cntN (2 ^ (P.eraseIdx k).length) (fun s => F (selF s 0 (P.eraseIdx k))) := by
        rw [← ih F k (by omega) (by omega)]
        refine cntN_congr _ fun q hq => ?_
        have := bt q 0 (by omega) (by omega) k (by omega)
        rw [Nat.add_zero] at this
        rw [lo q hq, decide_eq_decide.2 this]
      have e2 : cntN (2 ^ P.length) (fun q => !decide (hasB (2 * q + 1) (k + 1)) && F (selF (2 * q + 1) 0 (p :: P))) = cntN (2 ^ (P.eraseIdx k).length) (fun s => F (p :: selF s 0 (P.eraseIdx k))) := by
        rw [← ih (fun S => F (p :: S)) k (by omega) (by omega)]
        refine cntN_congr _ fun q hq => ?_
        rw [hi q hq, decide_eq_decide.2 (bt q 1 (by omega) (by omega) k (by omega))]
      have hle : (P.eraseIdx k).length ≤ P.length := List.length_eraseIdx_le P k
      have h512' : 2 ^ (P.eraseIdx k).length ≤ 2 ^ 9 := Nat.pow_le_pow_right (by omega) (by omega)
      rw [e1, e2, show 2 ^ (p :: P.eraseIdx k).length = 2 * 2 ^ (P.eraseIdx k).length from by show 2 ^ ((P.eraseIdx k).length + 1) = _; rw [Nat.pow_succ, Nat.mul_comm], cntN_two]
      congr 1
      · refine cntN_congr _ fun q hq => ?_
        have := sel_low q 0 (by omega) (by omega) p (P.eraseIdx k) (by omega)
        rw [Nat.add_zero] at this
        rw [this, if_neg (by omega)]
      · refine cntN_congr _ fun q hq => ?_
        rw [sel_low q 1 (by omega) (by omega) p (P.eraseIdx k) (by omega), if_pos rfl]
theorem cnt_split (h f : Nat → Bool) (n : Nat) : cntN n (fun s => h s && f s) + cntN n (fun s => !h s && f s) = cntN n f := by
  induction n with
  | zero => rfl
  | succ n ih =>
    show cntN n _ + (if (h n && f n) = true then 1 else 0) + (cntN n _ + (if (!h n && f n) = true then 1 else 0)) = cntN n f + (if f n = true then 1 else 0)
    rw [← ih]
    cases h n <;> cases f n <;> simp <;> omega
theorem g8_less {N : Nat} {P : List (Nat × Nat)} (g : G8 N P) (k : Nat) : G8 N (P.eraseIdx k) :=
  ⟨g.lo, g.hi, Nat.le_trans (List.length_eraseIdx_le P k) g.len, fun p hp => g.ends p (List.mem_of_mem_eraseIdx hp)⟩
theorem edg_append (A B : List (Nat × Nat)) : edg (A ++ B) = edg A ++ edg B := by simp [edg]
theorem del_l (N : Nat) (P : List (Nat × Nat)) (hP : P.length ≤ 10) (q : Nat) (d : Nat) : ∀ (i : Nat) (acc : List (Nat × Nat)), i + d = P.length → acc.length ≤ i → Ev (fun k => spec_l01Delete.l0 k (q : Int) (i : Int) (N : Int) (edg P) (N : Int) (edg acc)) ((N : Int), edg (acc ++ (if i ≤ q then (P.drop i).eraseIdx (q - i) else P.drop i))) := by
  induction d with
  | zero =>
    intro i acc hi ha
    have e : (if i ≤ q then (P.drop i).eraseIdx (q - i) else P.drop i) = [] := by
      rw [List.drop_of_length_le (by omega)]; split <;> rfl
    rw [e, List.append_nil]
    exact Ev.step (fun _ => rfl) (evF (by rw [edg_length]; omega) (evN rfl))
  | succ d ih =>
    intro i acc hi ha
    have hi2 : i < P.length := by omega
    have hd : P.drop i = P[i] :: P.drop (i + 1) := List.drop_eq_getElem_cons hi2
    by_cases c : i = q
    · subst c
      have h := ih (i + 1) acc (by omega) (by omega)
      rw [if_neg (by omega)] at h
      rw [if_pos (Nat.le_refl _), Nat.sub_self, hd]
      refine Ev.step (fun _ => rfl) (evT (by rw [edg_length]; omega) (evT rfl ?_))
      rw [wnat (n := 20) (by omega) (by omega)]; exact h
    · have h := ih (i + 1) (acc ++ [P[i]]) (by omega) (by simp; omega)
      have e : acc ++ [P[i]] ++ (if i + 1 ≤ q then (P.drop (i + 1)).eraseIdx (q - (i + 1)) else P.drop (i + 1)) = acc ++ (if i ≤ q then (P.drop i).eraseIdx (q - i) else P.drop i) := by
        by_cases l : i ≤ q
        · rw [if_pos (by omega), if_pos l, hd, show q - i = q - (i + 1) + 1 by omega, List.eraseIdx_cons_succ, List.append_assoc]; rfl
        · rw [if_neg (by omega), if_neg l, hd, List.append_assoc]; rfl
      rw [e, edg_append] at h
      refine Ev.step (fun _ => rfl) (evT (by rw [edg_length]; omega) (evF (by omega) (evT (by omega) (evB (a := [((P[i]).1 : Int), ((P[i]).2 : Int)]) ?_ (evT (by rw [edg_length]; omega) ?_)))))
      · rw [edg_at P i hi2]; exact own_ _ (by simp)
      · rw [wnat (n := 20) (by omega) (by omega)]; exact h
theorem del_ (N : Nat) (P : List (Nat × Nat)) (hP : P.length ≤ 10) (q : Nat) : Ev (fun k => spec_l01Delete.f k (N : Int) (edg P) (q : Int)) ((N : Int), edg (P.eraseIdx q)) := by
  have h := del_l N P hP q P.length 0 [] (by omega) (by simp)
  rw [if_pos (Nat.zero_le _), List.drop_zero, List.nil_append, Nat.sub_zero] at h
  unfold spec_l01Delete.f
  exact h
theorem tw_l (N : Nat) (P : List (Nat × Nat)) (g : G8 N P) (q : Nat) (hq : q < P.length) (d : Nat) : ∀ (i : Nat) (x : List Int), i + d = 2 ^ P.length → x.length = cntN i (fun s => decide (hasB s q) && decide (Tre N (fun v => v) (selF s 0 P))) → ∃ y : List Int, y.length = cntN (2 ^ P.length) (fun s => decide (hasB s q) && decide (Tre N (fun v => v) (selF s 0 P))) ∧ Ev (fun k => impl_Graph_subsets_of_TreesWith_2.l0 k x ((2 ^ P.length : Nat) : Int) (i : Int) (q : Int) (N : Int) (edg P)) y := by
  have h10 := g.len
  have hp : 2 ^ P.length ≤ 2 ^ 10 := Nat.pow_le_pow_right (by omega) h10
  induction d with
  | zero =>
    intro i x hi hx
    exact ⟨x, by rw [hx, show i = 2 ^ P.length by omega], Ev.step (fun _ => rfl) (evF (by omega) (evN rfl))⟩
  | succ d ih =>
    intro i x hi hx
    have T := tree_impl N P g i (by omega)
    have le := cntN_le (fun s => decide (hasB s q) && decide (Tre N (fun v => v) (selF s 0 P))) i
    have st : cntN (i + 1) (fun s => decide (hasB s q) && decide (Tre N (fun v => v) (selF s 0 P))) = cntN i (fun s => decide (hasB s q) && decide (Tre N (fun v => v) (selF s 0 P))) + if (decide (hasB i q) && decide (Tre N (fun v => v) (selF i 0 P))) = true then 1 else 0 := rfl
    have C : Ev (fun k => impl_TreesWith_2_c.f k (i : Int) (q : Int) (N : Int) (edg P)) (decide (hasB i q) && decide (Tre N (fun v => v) (selF i 0 P))) := by
      unfold impl_TreesWith_2_c.f
      by_cases b : hasB i q
      · refine evB (has_ i q) (evT (by simp [b]) (Ev.bind T (evN ?_)))
        rw [decide_eq_true b]; rfl
      · refine evB (has_ i q) (evF (by simp [b]) (evN ?_))
        rw [decide_eq_false b]; rfl
    by_cases c : (decide (hasB i q) && decide (Tre N (fun v => v) (selF i 0 P))) = true
    · obtain ⟨y, hy, h⟩ := ih (i + 1) (x ++ [(i : Int)]) (by omega) (by rw [st, if_pos c, List.length_append, hx]; rfl)
      refine ⟨y, hy, Ev.step (fun _ => rfl) (evT (by omega) (Ev.bind C (evT c (evT (by omega) ?_))))⟩
      rw [wnat (n := 2048) (by omega) (by omega)]; exact h
    · obtain ⟨y, hy, h⟩ := ih (i + 1) x (by omega) (by rw [st, if_neg c, hx]; rfl)
      refine ⟨y, hy, Ev.step (fun _ => rfl) (evT (by omega) (Ev.bind C (evF c ?_)))⟩
      rw [wnat (n := 2048) (by omega) (by omega)]; exact h
theorem tw_both (n : Int) (E : List (List Int)) (hE : E.length ≤ 1048576) (q : Int) : ∃ r, Ev (fun k => spec_TreesWith.f k n E q) r ∧ Ev (fun k => impl_TreesWith.f k n E q) r := by
  have h1 := isSpec n E hE; have h2 := isImpl n E hE
  unfold spec_TreesWith.f impl_TreesWith.f spec_l01Edge.f impl_graphCode_of_TreesWith_1.f impl_TreesWith_1_c.f impl_Graph_isEdge.f impl_Graph_size.f
  by_cases h : VG n E = true
  · rw [h] at h1 h2
    obtain ⟨N, P, rfl, rfl, g⟩ := VG_true h
    have h10 := g.len
    obtain ⟨i1, i2⟩ := in_ q 0 (wrap64 (((edg P).length : Int) - 1))
    have hw : wrap64 (((edg P).length : Int) - 1) = (P.length : Int) - 1 := by rw [edg_length, wid (by omega) (by omega)]
    by_cases c : 0 ≤ q ∧ q ≤ wrap64 (((edg P).length : Int) - 1)
    · rw [decide_eq_true c] at i1 i2
      rw [hw] at c
      obtain ⟨m, rfl⟩ : ∃ m : Nat, q = (m : Int) := ⟨q.toNat, by omega⟩
      have hm : m < P.length := by omega
      have t1 := trees_spec N P g
      have t2 := trees_spec N (P.eraseIdx m) (g8_less g m)
      obtain ⟨y, hy, I⟩ := tw_l N P g m hm (2 ^ P.length) 0 [] (by omega) rfl
      have e := cnt_split (fun s => decide (hasB s m)) (fun s => decide (Tre N (fun v => v) (selF s 0 P))) (2 ^ P.length)
      have e2 := cnt_less (fun _ => true) P (fun S => decide (Tre N (fun v => v) S)) m hm h10
      have e3 : y.length + trees N (P.eraseIdx m) = trees N P := by
        unfold trees
        rw [← e, ← e2, hy]
      have le := cntN_le (fun s => decide (Tre N (fun v => v) (selF s 0 P))) (2 ^ P.length)
      have hp : 2 ^ P.length ≤ 2 ^ 10 := Nat.pow_le_pow_right (by omega) h10
      have le2 : trees N P ≤ 1024 := by unfold trees; omega
      have S : Ev (fun k => impl_Graph_subsets_of_TreesWith_2.f k (N : Int) (edg P) (m : Int) (N : Int) (edg P)) y := by
        unfold impl_Graph_subsets_of_TreesWith_2.f
        refine evB (a := (P.length : Int)) (by unfold impl_Graph_size.f; rw [edg_length]) (evT (by omega) ?_)
        rw [shlE _ h10]; exact I
      refine ⟨((y.length : Int), 0), Ev.bind (Ev.bind h1 (evT rfl (Ev.bind (evN i1) (evT rfl (evN rfl))))) (evT rfl (Ev.bind t1 (Ev.bind (del_ N P h10 m) (Ev.bind t2 (evN ?_))))), Ev.bind (Ev.bind h2 (evT rfl (Ev.bind (Ev.bind (evB rfl (Ev.bind (evN i2) (evN rfl))) (evN rfl)) (evT rfl (evN rfl))))) (evT rfl (Ev.bind (a := ((y.length : Int), (0 : Int))) ?_ (evN rfl)))⟩
      · rw [wid (by omega) (by omega)]; congr 2; omega
      · unfold impl_counted_of_TreesWith_2.f
        exact Ev.bind h2 (evT rfl (Ev.bind S (evN rfl)))
    · rw [decide_eq_false c] at i1 i2
      exact ⟨(0, 2), Ev.bind (Ev.bind h1 (evT rfl (Ev.bind (evN i1) (evF (by simp) (evN rfl))))) (evF (by omega) (evN rfl)), Ev.bind (Ev.bind h2 (evT rfl (Ev.bind (Ev.bind (evB rfl (Ev.bind (evN i2) (evN rfl))) (evN rfl)) (evF (by simp) (evN rfl))))) (evF (by omega) (evN rfl))⟩
  · rw [Bool.eq_false_iff.2 h] at h1 h2
    exact ⟨(0, 1), Ev.bind (Ev.bind h1 (evF (by simp) (evN rfl))) (evF (by omega) (evN rfl)), Ev.bind (Ev.bind h2 (evF (by simp) (evN rfl))) (evF (by omega) (evN rfl))⟩
theorem FnExactTreesWith (n : Int) (E : List (List Int)) (q : Int) (hn : (Lit.int .i64 n).wf = true) (hE : E.length ≤ 9223372036854775807) (ha : ∀ l ∈ E, l.length ≤ 9223372036854775807 ∧ ∀ x ∈ l, (Lit.int .i64 x).wf = true) (hq : (Lit.int .i64 q).wf = true) : ∃ k, laws_FnExactTreesWith.f k n E q = some true := by
  apply Ev.rounds
  unfold laws_FnExactTreesWith.f
  obtain ⟨t, ht, hp⟩ := szGraph n E hE (fun l hl => (ha l hl).1)
  refine Ev.bind ht ?_
  rcases hp with hp | ⟨_, _, h1, h2⟩
  · exact evT hp (evN rfl)
  · refine evF (by omega) ?_
    have hG := toGraph n E h1 h2
    obtain ⟨⟨b, c⟩, hs, hi⟩ := tw_both n E h1 q
    refine Ev.bind hG (Ev.bind hs (Ev.bind hG (Ev.bind hi (evT rfl ?_))))
    refine Ev.step (fun _ => rfl) (evF (by simp) (Ev.bind hG (Ev.bind (eqGraph_self n E h1 h2) (evT rfl (evN rfl)))))
end Go.Proofs.Ytbchnmplooafpaa.Q
end
section
namespace Go.Proofs.Ytbchnmplooafpaa.Gr
open Go.ChangeShapes Go.WideShapes Go.ChangeAt Go.RowKit Go.Deep Go.Proofs.YtbchnmplooafpaaW.PrintWords
set_option linter.unusedVariables false
theorem rows_C {w : World} {a : Addr} {len cap : Nat} {A : Nat → Option Addr} {L C : Nat → Nat} {Z : Nat → List Int} (hl : len ≤ cap) (hm : cap ≤ maxLen)
    (h : ∀ r, r < cap → w.cell? (a.add r) = some (.slice (A r) (L r) (C r)) ∧ L r ≤ C r ∧ C r ≤ maxLen ∧ (Z r).length = C r ∧ (∀ n ∈ Z r, (Lit.int .i64 n).wf = true) ∧ (A r = none → C r = 0) ∧
        ∀ a', A r = some a' → 0 ≤ a'.block ∧ ∀ c, c < C r → w.cell? (a'.add c) = some (.int .i64 ((Z r).getD c 0))) :
    ∃ ls : List (List Int), ls.length = len ∧ Kd.C (Kd.slice 2 (Kd.int .i64)) w (some a) ls.length ls ∧ ∀ l ∈ ls, l.length ≤ maxLen ∧ ∀ n ∈ l, (Lit.int .i64 n).wf = true := by
  refine ⟨(List.range len).map fun r => (Z r).take (L r), by simp, ?_, ?_⟩
  · simp only [maxLen] at hm
    refine ⟨by simp, by simp; omega, fun _ => ⟨a, rfl, fun j p hj => ?_⟩⟩
    have hj1 : j < len := by
      have := (List.getElem?_eq_some_iff.1 hj).1
      simpa using this
    have hp : p = (Z j).take (L j) := by
      have : ((List.range len).map fun r => (Z r).take (L r))[j]? = some ((Z j).take (L j)) := by simp [hj1]
      rw [this] at hj
      exact (Option.some.inj hj).symm
    subst hp
    obtain ⟨h1, h2, h3, h4, h5, h6, h7⟩ := h j (by omega)
    have hl1 : ((Z j).take (L j)).length = L j := by rw [List.length_take]; omega
    refine ⟨[.slice (A j) (L j) (C j)], rfl, ?_, ?_⟩
    · refine ⟨A j, C j, by rw [hl1], by rw [hl1]; exact h2, ?_⟩
      simp only [maxLen] at h3
      refine ⟨rfl, by rw [hl1]; omega, fun hpos => ?_⟩
      rcases ha : A j with _ | a'
      · have := h6 ha; omega
      · refine ⟨a', rfl, fun i x hi => ⟨[.int .i64 x], rfl, rfl, fun q u hu => ?_⟩⟩
        have hi1 : i < L j := by have := (List.getElem?_eq_some_iff.1 hi).1; omega
        have hx : (Z j).getD i 0 = x := by
          rw [List.getElem?_take] at hi
          rw [if_pos hi1] at hi
          rw [List.getD_eq_getElem?_getD, hi]; rfl
        cases q with
        | zero =>
          simp only [List.getElem?_cons_zero, Option.some.injEq] at hu
          subst hu
          have := (h7 a' ha).2 i (by omega)
          rw [hx] at this
          simpa [show (Kd.int .i64).sz = 1 from rfl] using this
        | succ q => simp at hu
    · intro i u hu
      cases i with
      | zero =>
        simp only [List.getElem?_cons_zero, Option.some.injEq] at hu
        subst hu
        simpa [show (Kd.slice 2 (Kd.int .i64)).sz = 1 from rfl] using h1
      | succ i => simp at hu
  · intro l hl1
    simp only [List.mem_map, List.mem_range] at hl1
    obtain ⟨r, hr, rfl⟩ := hl1
    obtain ⟨h1, h2, h3, h4, h5, h6, h7⟩ := h r (by omega)
    exact ⟨by rw [List.length_take]; omega, fun n hn => h5 n (List.mem_of_mem_take hn)⟩
theorem open_rows {H : Type} {enc : TypeId × Value → H} {P : Program} {w : World} {held : Bool} {t e : TypeId} {fuel : Nat} {v : Value} {x : DataW H × List MemPlace} (ht : P.underlying t = some (.slice e)) (he : P.underlying e = some (.slice 2)) (hq : P.underlying 2 = some (.int .i64))
    (ce : P.cellsOf e = 1) (cq : P.cellsOf 2 = 1) (h : DataW.trod enc P w 0 (fun _ => true) held fuel t [v] = some x) :
    ∃ (A : Option Addr) (cap : Nat) (ls : List (List Int)), v = .slice A ls.length cap ∧ ls.length ≤ cap ∧ cap ≤ maxLen ∧ Kd.C (Kd.slice 2 (Kd.int .i64)) w A ls.length ls ∧ ∀ l ∈ ls, l.length ≤ maxLen ∧ ∀ n ∈ l, (Lit.int .i64 n).wf = true := by
  rcases open_int_rows ht he hq ce cq h with ⟨hcs, _⟩ | ⟨a, len, cap, A, L, C, Z, hcs, _, hl, hm, _, hr⟩
  · obtain rfl : v = .slice none 0 0 := by simpa using hcs
    exact ⟨none, 0, [], rfl, by simp, by simp, Kd.C_nil _ _, by simp⟩
  · obtain rfl : v = .slice (some a) len cap := by simpa using hcs
    obtain ⟨ls, rfl, hC, hall⟩ := rows_C hl hm hr
    exact ⟨some a, cap, ls, rfl, hl, hm, hC, hall⟩
theorem open_graph {H : Type} {enc : TypeId × Value → H} {P : Program} {w : World} {held : Bool} {r : Reach} {b0 : Nat} {t e q : TypeId} {f0 f1 : Field} {v : Value} {d : DataW H} {p : List MemPlace} (hs : P.underlying t = some (.struct #[f0, f1])) (h0 : f0.type = 2) (h1 : f1.type = e)
    (he : P.underlying e = some (.slice q)) (hq : P.underlying q = some (.slice 2)) (hi : P.underlying 2 = some (.int .i64)) (hone : oneCellFields P #[f0, f1] = true) (hC : P.cellsOf t = 2) (cq : P.cellsOf q = 1) (ci : P.cellsOf 2 = 1)
    (hv : Value.okWide P w r b0 t v) (h : DataW.Trod enc P w 0 (fun _ => true) held t v d p) :
    ∃ (n : Int) (A : Option Addr) (cap : Nat) (ls : List (List Int)), v = .agg #[.int .i64 n, .slice A ls.length cap] ∧ (Lit.int .i64 n).wf = true ∧ ls.length ≤ cap ∧ ls.length ≤ 9223372036854775807 ∧ Kd.C (Kd.slice 2 (Kd.int .i64)) w A ls.length ls ∧ ∀ l ∈ ls, l.length ≤ 9223372036854775807 ∧ ∀ n ∈ l, (Lit.int .i64 n).wf = true := by
  obtain ⟨v0, v1, y0, y1, n, rfl, rfl, rfl, t0, t1⟩ := Joins.open_agg2 hs hone hC hv h
  subst h1
  rw [h0] at t0
  obtain ⟨z, hz, _, hw⟩ := DataW.trod_int hi t0
  obtain rfl : v0 = .int .i64 z := by simpa using hz
  obtain ⟨A, cap, ls, rfl, hl, hm, hC1, hall⟩ := open_rows he hq hi cq ci t1
  simp only [maxLen] at hm hall
  exact ⟨z, A, cap, ls, rfl, hw, hl, by omega, hC1, hall⟩
end Go.Proofs.Ytbchnmplooafpaa.Gr
end
