/- Words, what the functions that FnExactSignsOfSpectrum reaches compute, and the plain laws on it; part 7. -/
import Derived.Deep.Matrix
import Derived.Lib.SmallJoins
import Derived.WalkKit
import Derived.ProofKit
import Derived.OpenShut
import Derived.ChangeOld
import Derived.Below
import Derived.SizedLaws
import Derived.Test.YtimdklhkhjpmbaaJFnExactSignsOfSpectrum6
section
namespace Go.Proofs.Ytimdklhkhjpmbaa.Dt
set_option linter.unusedVariables false
def Pn (m : Nat) (X : Int) (f : Int → Int) : Prop := ∃ c : Nat → Int, (∀ t, f t = sm m fun k => c k * t ^ k) ∧ (sm m fun k => ((c k).natAbs : Int)) ≤ X
theorem sm_le {n : Nat} {f g : Nat → Int} (h : ∀ i, i < n → f i ≤ g i) : sm n f ≤ sm n g := by
  induction n with
  | zero => exact Int.le_refl _
  | succ n ih => show sm n f + f n ≤ sm n g + g n; have := ih (fun i hi => h i (by omega)); have := h n (by omega); omega
theorem sm_nonneg {n : Nat} {f : Nat → Int} (h : ∀ i, i < n → 0 ≤ f i) : 0 ≤ sm n f := by
  have := sm_le (f := fun _ => 0) h; rwa [sm_zero] at this
theorem Pn.congr {m : Nat} {X : Int} {f g : Int → Int} (h : Pn m X f) (e : ∀ t, g t = f t) : Pn m X g := by
  obtain ⟨c, h1, h2⟩ := h; exact ⟨c, fun t => (e t).trans (h1 t), h2⟩
theorem Pn.le {m : Nat} {X Y : Int} {f : Int → Int} (h : Pn m X f) (e : X ≤ Y) : Pn m Y f := by
  obtain ⟨c, h1, h2⟩ := h; exact ⟨c, h1, Int.le_trans h2 e⟩
theorem Pn.zero (m : Nat) : Pn m 0 (fun _ => 0) := ⟨fun _ => 0, fun t => (sm_zero' (fun _ _ => Int.zero_mul _)).symm, by rw [sm_zero' (f := fun _ => (((0 : Int)).natAbs : Int)) (fun _ _ => rfl)]; exact Int.le_refl _⟩
theorem Pn.add {m : Nat} {X Y : Int} {f g : Int → Int} (h : Pn m X f) (k : Pn m Y g) : Pn m (X + Y) (fun t => f t + g t) := by
  obtain ⟨c, h1, h2⟩ := h; obtain ⟨d, k1, k2⟩ := k
  refine ⟨fun i => c i + d i, fun t => ?_, ?_⟩
  · (try dsimp only); rw [h1, k1, ← sm_add]; exact sm_congr fun i _ => by rw [Int.add_mul]
  · refine Int.le_trans (sm_le (g := fun i => ((c i).natAbs : Int) + ((d i).natAbs : Int)) (fun i _ => by dsimp only; omega)) ?_
    rw [sm_add]; omega
theorem Pn.mul {m : Nat} {X : Int} {f : Int → Int} (h : Pn m X f) (x : Int) : Pn m (x.natAbs * X) (fun t => x * f t) := by
  obtain ⟨c, h1, h2⟩ := h
  refine ⟨fun i => x * c i, fun t => ?_, ?_⟩
  · (try dsimp only); rw [h1, ← sm_mul]; exact sm_congr fun i _ => by rw [Int.mul_assoc]
  · (try dsimp only); rw [sm_congr (g := fun i => (x.natAbs : Int) * ((c i).natAbs : Int)) (fun i _ => by rw [Int.natAbs_mul]; exact Int.natCast_mul _ _), sm_mul]
    exact Int.mul_le_mul_of_nonneg_left h2 (by omega)
theorem Pn.one_more {m : Nat} {X : Int} {f : Int → Int} (h : Pn m X f) : Pn (m + 1) X f := by
  obtain ⟨c, h1, h2⟩ := h
  refine ⟨fun i => if i < m then c i else 0, fun t => ?_, ?_⟩
  · show f t = sm m (fun k => (if k < m then c k else 0) * t ^ k) + (if m < m then c m else 0) * t ^ m
    rw [if_neg (by omega), Int.zero_mul, Int.add_zero, h1]
    exact sm_congr fun i hi => by rw [if_pos hi]
  · show sm m (fun k => (((if k < m then c k else 0 : Int)).natAbs : Int)) + (((if m < m then c m else 0 : Int)).natAbs : Int) ≤ X
    rw [if_neg (by omega)]
    rw [sm_congr (g := fun i => ((c i).natAbs : Int)) (fun i hi => by rw [if_pos hi])]
    simpa using h2
theorem Pn.shift {m : Nat} {X : Int} {f : Int → Int} (h : Pn m X f) : Pn (m + 1) X (fun t => t * f t) := by
  obtain ⟨c, h1, h2⟩ := h
  refine ⟨fun i => if i = 0 then 0 else c (i - 1), fun t => ?_, ?_⟩
  · (try dsimp only); rw [sm_front, h1, ← sm_mul]
    simp only [if_true, Int.zero_mul, Int.zero_add]
    exact sm_congr fun i _ => by rw [if_neg (by omega), Nat.add_sub_cancel, Int.pow_succ]; grind
  · (try dsimp only); rw [sm_front]
    have e : (sm m fun i => (((if i + 1 = 0 then 0 else c (i + 1 - 1) : Int)).natAbs : Int)) = sm m fun i => ((c i).natAbs : Int) := sm_congr fun i _ => by rw [if_neg (by omega), Nat.add_sub_cancel]
    rw [e]; simpa using h2
theorem Pn.affine {m : Nat} {X : Int} {f : Int → Int} (h : Pn m X f) (x y : Int) : Pn (m + 1) (((x.natAbs : Int) + (y.natAbs : Int)) * X) (fun t => (x + t * y) * f t) := by
  have a := (h.one_more.mul x).add (h.shift.mul y)
  refine (a.congr (fun t => by grind)).le ?_
  rw [Int.add_mul]; exact Int.le_refl _
theorem Pn.sum {m : Nat} (l : Nat) {Y : Nat → Int} {f : Nat → Int → Int} (h : ∀ j, j < l → Pn m (Y j) (f j)) : Pn m (sm l Y) (fun t => sm l fun j => f j t) := by
  induction l with
  | zero => exact Pn.zero m
  | succ l ih => exact (ih (fun j hj => h j (by omega))).add (h l (by omega))
theorem sm_skip (n j : Nat) (hj : j ≤ n) (g : Nat → Int) : sm n (fun b => g (skip j b)) + g j = sm (n + 1) g := by
  induction n with
  | zero => obtain rfl : j = 0 := by omega
            rfl
  | succ n ih =>
    by_cases e : j = n + 1
    · subst e
      show _ = sm (n + 1) g + g (n + 1)
      rw [sm_congr (g := g) (fun i hi => by unfold skip; rw [if_pos hi])]
    · show sm n (fun b => g (skip j b)) + g (skip j n) + g j = sm (n + 1) g + g (n + 1)
      rw [← ih (by omega)]
      have : skip j n = n + 1 := by unfold skip; rw [if_neg (by omega)]
      rw [this]; omega
theorem sg_abs (k : Nat) : (sg k).natAbs = 1 := by
  induction k with
  | zero => rfl
  | succ k ih => show (- sg k).natAbs = 1; omega
theorem det_poly (n : Nat) : ∀ (x y : Nat → Nat → Int) (X : Int), 0 ≤ X → (∀ a, a < n → (sm n fun b => ((x a b).natAbs : Int) + ((y a b).natAbs : Int)) ≤ X) → Pn (n + 1) (X ^ n) (fun t => det n (fun a b => x a b + t * y a b)) := by
  induction n with
  | zero => intro x y X _ _; exact ⟨fun _ => 1, fun t => by simp [sm, det], by simp [sm]⟩
  | succ n ih =>
    intro x y X hX h
    have hm : ∀ j, j < n + 1 → Pn (n + 2) ((((x n j).natAbs : Int) + ((y n j).natAbs : Int)) * X ^ n) (fun t => sg (n + j) * (x n j + t * y n j) * det n (fun a b => x a (skip j b) + t * y a (skip j b))) := by
      intro j hj
      have h1 := ih (fun a b => x a (skip j b)) (fun a b => y a (skip j b)) X hX (fun a ha => by
        have h2 := h a (by omega)
        have h3 := sm_skip n j (by omega) (fun b => ((x a b).natAbs : Int) + ((y a b).natAbs : Int))
        have h4 : 0 ≤ ((x a j).natAbs : Int) + ((y a j).natAbs : Int) := by omega
        omega)
      have h2 := (h1.affine (x n j) (y n j)).mul (sg (n + j))
      rw [sg_abs] at h2
      refine (h2.congr (fun t => by grind)).le (by simp)
    have hs := Pn.sum (n + 1) hm
    rw [sm_mulr] at hs
    refine hs.le ?_
    rw [Int.pow_succ, Int.mul_comm]
    exact Int.mul_le_mul_of_nonneg_left (h n (by omega)) (Int.pow_nonneg hX)
theorem det_polyc (n : Nat) : ∀ (x y : Nat → Nat → Int) (j : Nat), j < n → (∀ a, y a j = 0) → ∃ X, Pn n X (fun t => det n (fun a b => x a b + t * y a b)) := by
  induction n with
  | zero => intro x y j h; omega
  | succ n ih =>
    intro x y j hj hy
    have hm : ∀ l, ∃ Y, l < n + 1 → Pn (n + 1) Y (fun t => sg (n + l) * (x n l + t * y n l) * det n (fun a b => x a (skip l b) + t * y a (skip l b))) := by
      intro l
      by_cases hl : l < n + 1
      · by_cases e : l = j
        · subst e
          have h1 := det_poly n (fun a b => x a (skip l b)) (fun a b => y a (skip l b)) (sm n fun a => sm n fun b => ((x a (skip l b)).natAbs : Int) + ((y a (skip l b)).natAbs : Int)) (sm_nonneg fun a _ => sm_nonneg fun b _ => by omega) (fun a ha => by
            have h3 := sm_le (n := n) (f := fun i => if i = a then sm n fun b => ((x a (skip l b)).natAbs : Int) + ((y a (skip l b)).natAbs : Int) else 0) (g := fun a => sm n fun b => ((x a (skip l b)).natAbs : Int) + ((y a (skip l b)).natAbs : Int)) (fun i _ => by
              by_cases q : i = a
              · subst q; rw [if_pos rfl]; exact Int.le_refl _
              · rw [if_neg q]; exact sm_nonneg fun b _ => by omega)
            rw [sm_one ha (fun i _ hn => by rw [if_neg hn]), if_pos rfl] at h3
            exact h3)
          exact ⟨_, fun _ => (h1.mul (sg (n + l) * x n l)).congr (fun t => by rw [hy n]; grind)⟩
        · obtain ⟨Y, h1⟩ := ih (fun a b => x a (skip l b)) (fun a b => y a (skip l b)) (drop l j) (by unfold drop; split <;> omega) (fun a => by
            have : skip l (drop l j) = j := by unfold skip drop; (repeat' split) <;> omega
            show y a (skip l (drop l j)) = 0
            rw [this]; exact hy a)
          exact ⟨_, fun _ => ((h1.affine (x n l) (y n l)).mul (sg (n + l))).congr (fun t => by grind)⟩
      · exact ⟨0, fun h => absurd h hl⟩
    exact ⟨_, Pn.sum (n + 1) (fun l hl => (Classical.choose_spec (hm l)) hl)⟩
theorem div_all {x : Int} (h : ∀ t : Int, 1 ≤ t → t ∣ x) : x = 0 := by
  obtain ⟨q, hq⟩ := h ((x.natAbs : Int) + 1) (by omega)
  rcases Int.lt_trichotomy q 0 with h1 | h1 | h1
  · exfalso
    have : (((x.natAbs : Int) + 1) * (-q)) ≥ ((x.natAbs : Int) + 1) * 1 := Int.mul_le_mul_of_nonneg_left (by omega) (by omega)
    rw [Int.mul_neg] at this; omega
  · subst h1; simpa using hq
  · exfalso
    have : (((x.natAbs : Int) + 1) * q) ≥ ((x.natAbs : Int) + 1) * 1 := Int.mul_le_mul_of_nonneg_left (by omega) (by omega)
    omega
theorem coef_zero (m : Nat) : ∀ (c : Nat → Int), (∀ t : Int, 1 ≤ t → (sm m fun k => c k * t ^ k) = 0) → ∀ k, k < m → c k = 0 := by
  induction m with
  | zero => intro c h k hk; omega
  | succ m ih =>
    intro c h
    have e : ∀ t : Int, (sm (m + 1) fun k => c k * t ^ k) = c 0 + t * sm m (fun k => c (k + 1) * t ^ k) := by
      intro t
      rw [sm_front, ← sm_mul]
      simp only [Int.pow_zero, Int.mul_one]
      congr 1
      exact sm_congr fun i _ => by rw [Int.pow_succ]; grind
    have h0 : c 0 = 0 := div_all fun t ht => ⟨- sm m (fun k => c (k + 1) * t ^ k), by have := h t ht; rw [e] at this; rw [Int.mul_neg]; omega⟩
    have h1 := ih (fun k => c (k + 1)) (fun t ht => by
      have := h t ht
      rw [e, h0] at this
      rcases Int.mul_eq_zero.1 (show t * sm m (fun k => c (k + 1) * t ^ k) = 0 by omega) with q | q
      · omega
      · exact q)
    intro k hk
    cases k with
    | zero => exact h0
    | succ k => exact h1 k (by omega)
theorem coef_eq {m : Nat} {c d : Nat → Int} (h : ∀ t : Int, 1 ≤ t → (sm m fun k => c k * t ^ k) = sm m fun k => d k * t ^ k) : ∀ k, k < m → c k = d k := by
  intro k hk
  have := coef_zero m (fun k => c k - d k) (fun t ht => by
    have := h t ht
    rw [sm_congr (g := fun k => c k * t ^ k + - (d k * t ^ k)) (fun i _ => by grind), sm_add, sm_neg]; omega) k hk
  omega
def ut (M : Nat → Nat → Int) (t : Int) : Nat → Nat → Int := fun a b => ee b a + t * (- M a b)
structure Cp (n : Nat) (M : Nat → Nat → Int) (c : Nat → Int) (N : Nat → Nat → Nat → Int) : Prop where
  hD : ∀ t, det n (ut M t) = sm (n + 1) fun k => c k * t ^ k
  hN : ∀ j i, j < n → ∀ t, adj n (ut M t) j i = sm n fun k => N k j i * t ^ k
  h0 : ∀ k j i, n ≤ k → N k j i = 0
theorem cp_exists (n : Nat) (M : Nat → Nat → Int) (X : Int) (hX : 0 ≤ X) (hM : ∀ a, a < n → (sm n fun b => ((ee b a).natAbs : Int) + ((M a b).natAbs : Int)) ≤ X) : ∃ c N, Cp n M c N ∧ (sm (n + 1) fun k => ((c k).natAbs : Int)) ≤ X ^ n := by
  obtain ⟨c, h1, h2⟩ := det_poly n (fun a b => ee b a) (fun a b => - M a b) X hX (fun a ha => by
    refine Int.le_trans (sm_le fun b _ => ?_) (hM a ha); rw [Int.natAbs_neg]; exact Int.le_refl _)
  have h3 : ∀ j i, ∃ d : Nat → Int, j < n → ∀ t, adj n (ut M t) j i = sm n fun k => d k * t ^ k := by
    intro j i
    by_cases hj : j < n
    · obtain ⟨Y, d, h4, _⟩ := det_polyc n (setc (fun a b => ee b a) j (ee i)) (setc (fun a b => - M a b) j (fun _ => 0)) j hj (fun a => setc_at _ _ _ _)
      refine ⟨d, fun _ t => ?_⟩
      rw [← h4]
      refine det_congr fun a b _ _ => ?_
      show setc (ut M t) j (ee i) a b = setc (fun a b => ee b a) j (ee i) a b + t * setc (fun a b => - M a b) j (fun _ => 0) a b
      unfold setc ut
      split
      · simp
      · rfl
    · exact ⟨fun _ => 0, fun h => absurd h hj⟩
  refine ⟨c, fun k j i => if k < n then Classical.choose (h3 j i) k else 0, ⟨h1, fun j i hj t => ?_, fun k j i h => by rw [if_neg (by omega)]⟩, h2⟩
  rw [Classical.choose_spec (h3 j i) hj t]
  exact sm_congr fun k hk => by rw [if_pos hk]
theorem ut_col (n : Nat) (M : Nat → Nat → Int) (t : Int) (x : Nat → Int) (k : Nat) (hk : k < n) : (sm n fun i => x i * ut M t i k) = x k - t * sm n (fun i => x i * M i k) := by
  unfold ut
  rw [sm_congr (g := fun i => x i * ee k i + (- t) * (x i * M i k)) (fun i _ => by grind), sm_add, sm_mul, sm_one hk (fun i _ hn => by unfold ee; rw [if_neg hn, Int.mul_zero])]
  unfold ee
  rw [if_pos rfl, Int.mul_one, Int.neg_mul]; omega
theorem Cp.rec_ {n : Nat} {M : Nat → Nat → Int} {c : Nat → Int} {N : Nat → Nat → Nat → Int} (h : Cp n M c N) (j k : Nat) (hj : j < n) (hk : k < n) (q : Nat) (hq : q ≤ n) :
    N q j k = (if q = 0 then 0 else sm n fun i => N (q - 1) j i * M i k) + (if j = k then c q else 0) := by
  refine coef_eq (m := n + 1) (c := fun q => N q j k) (d := fun q => (if q = 0 then 0 else sm n fun i => N (q - 1) j i * M i k) + (if j = k then c q else 0)) (fun t _ => ?_) q (by omega)
  have h1 := adj_mul (ut M t) j k hj hk
  rw [ut_col n M t _ k hk, h.hN j k hj t, h.hD t] at h1
  show sm n (fun q => N q j k * t ^ q) + N n j k * t ^ n = _
  rw [h.h0 n j k (Nat.le_refl _), Int.zero_mul, Int.add_zero]
  rw [sm_congr (n := n + 1) (g := fun q => (if q = 0 then 0 else sm n fun i => N (q - 1) j i * M i k) * t ^ q + (if j = k then c q else 0) * t ^ q) (fun i _ => by rw [Int.add_mul]), sm_add, sm_front]
  simp only [if_true, Int.zero_mul, Int.zero_add]
  have e1 : (sm n fun q => (if q + 1 = 0 then 0 else sm n fun i => N (q + 1 - 1) j i * M i k) * t ^ (q + 1)) = t * sm n (fun i => adj n (ut M t) j i * M i k) := by
    have e0 : (sm n fun i => adj n (ut M t) j i * M i k) = sm n fun i => (sm n fun q => N q j i * t ^ q) * M i k := sm_congr fun i _ => by rw [h.hN j i hj t]
    rw [e0]
    rw [sm_congr (g := fun q => sm n fun i => N q j i * M i k * t ^ (q + 1)) (fun q _ => by rw [if_neg (by omega), Nat.add_sub_cancel, sm_mulr]), sm_comm, ← sm_mul]
    refine sm_congr fun i _ => ?_
    rw [← sm_mulr, ← sm_mul]
    exact sm_congr fun q _ => by rw [Int.pow_succ]; grind
  rw [e1]
  by_cases e : j = k
  · subst e
    rw [if_pos rfl] at h1
    simp only [if_true]; omega
  · rw [if_neg e] at h1
    simp only [if_neg e, Int.zero_mul, sm_zero]; omega
def pw (n : Nat) (M : Nat → Nat → Int) : Nat → Nat → Nat → Int
  | 0 => fun j k => ee k j
  | s + 1 => fun j k => sm n fun i => pw n M s j i * M i k
theorem Cp.adj_pw {n : Nat} {M : Nat → Nat → Int} {c : Nat → Int} {N : Nat → Nat → Nat → Int} (h : Cp n M c N) (j : Nat) (hj : j < n) (q : Nat) : ∀ k, k < n → q ≤ n → N q j k = sm (q + 1) fun p => c p * pw n M (q - p) j k := by
  induction q with
  | zero =>
    intro k hk _
    rw [h.rec_ j k hj hk 0 (by omega), if_pos rfl]
    show _ = 0 + c 0 * ee k j
    unfold ee
    split <;> simp
  | succ q ih =>
    intro k hk hq
    rw [h.rec_ j k hj hk (q + 1) hq, if_neg (by omega), Nat.add_sub_cancel]
    show _ = sm (q + 1) (fun p => c p * pw n M (q + 1 - p) j k) + c (q + 1) * pw n M (q + 1 - (q + 1)) j k
    rw [Nat.sub_self]
    have e1 : (if j = k then c (q + 1) else 0) = c (q + 1) * pw n M 0 j k := by
      show _ = c (q + 1) * ee k j
      unfold ee; split <;> simp
    rw [e1]
    congr 1
    rw [sm_congr (g := fun i => sm (q + 1) fun p => c p * (pw n M (q - p) j i * M i k)) (fun i hi => by rw [ih i hi (by omega), ← sm_mulr]; exact sm_congr fun p _ => by rw [Int.mul_assoc]), sm_comm]
    refine sm_congr fun p hp => ?_
    rw [sm_mul, show q + 1 - p = q - p + 1 by omega]; rfl
theorem Cp.one {n : Nat} {M : Nat → Nat → Int} {c : Nat → Int} {N : Nat → Nat → Nat → Int} (h : Cp n M c N) : c 0 = 1 := by
  have h1 := h.hD 0
  rw [sm_front, sm_zero' (fun i _ => by rw [Int.pow_succ]; simp)] at h1
  have h2 : ∀ n, det n (ut M 0) = 1 := by
    intro n
    induction n with
    | zero => rfl
    | succ n ih =>
      show (sm n fun j => sg (n + j) * ut M 0 n j * det n (fun a b => ut M 0 a (skip j b))) + sg (n + n) * ut M 0 n n * det n (fun a b => ut M 0 a (skip n b)) = 1
      rw [sg_two, det_congr (n := n) (M := fun a b => ut M 0 a (skip n b)) (M' := ut M 0) (fun a b _ hb => by unfold skip; rw [if_pos hb]), ih, sm_zero' (fun i hi => by unfold ut ee; rw [if_neg (by omega)]; simp)]
      unfold ut ee; simp
  rw [h2] at h1
  simp at h1; omega
def rowI (n : Nat) (M : Nat → Nat → Int) (R : Nat → Int) : Nat → Nat → Int
  | 0 => R
  | s + 1 => fun k => sm n fun i => rowI n M R s i * M i k
theorem rowI_pw (n : Nat) (M : Nat → Nat → Int) (R : Nat → Int) (s : Nat) : ∀ k, k < n → (sm n fun j => R j * pw n M s j k) = rowI n M R s k := by
  induction s with
  | zero => intro k hk; show (sm n fun j => R j * ee k j) = R k
            rw [sm_one hk (fun i _ hn => by unfold ee; rw [if_neg hn, Int.mul_zero])]; unfold ee; simp
  | succ s ih =>
    intro k hk
    show (sm n fun j => R j * sm n (fun i => pw n M s j i * M i k)) = sm n fun i => rowI n M R s i * M i k
    rw [sm_congr (g := fun j => sm n fun i => R j * pw n M s j i * M i k) (fun j _ => by rw [← sm_mul]; exact sm_congr fun i _ => by rw [Int.mul_assoc]), sm_comm]
    exact sm_congr fun i hi => by rw [sm_mulr, ih i hi]
def colI (n : Nat) (M : Nat → Nat → Int) (C : Nat → Int) : Nat → Nat → Int
  | 0 => C
  | s + 1 => fun i => sm n fun j => M i j * colI n M C s j
theorem row_col (n : Nat) (M : Nat → Nat → Int) (R C : Nat → Int) (s : Nat) : ∀ t, (sm n fun k => rowI n M R s k * colI n M C t k) = sm n fun k => R k * colI n M C (s + t) k := by
  induction s with
  | zero => intro t; rw [Nat.zero_add]; rfl
  | succ s ih =>
    intro t
    rw [show s + 1 + t = s + (t + 1) by omega, ← ih (t + 1)]
    show (sm n fun k => (sm n fun i => rowI n M R s i * M i k) * colI n M C t k) = sm n fun i => rowI n M R s i * sm n fun j => M i j * colI n M C t j
    rw [sm_congr (g := fun k => sm n fun i => rowI n M R s i * (M i k * colI n M C t k)) (fun k _ => by rw [← sm_mulr]; exact sm_congr fun i _ => by rw [Int.mul_assoc]), sm_comm]
    exact sm_congr fun i _ => by rw [sm_mul]
def turn (r : Nat) (B : Nat → Nat → Int) : Nat → Int
  | 0 => 1
  | 1 => - B r r
  | s + 2 => - sm r fun i => B r i * colI r B (fun a => B a r) s i
theorem berkowitz {r : Nat} {B : Nat → Nat → Int} {c d : Nat → Int} {N N' : Nat → Nat → Nat → Int} (h : Cp r B c N) (h' : Cp (r + 1) B d N') (q : Nat) (hq : q ≤ r + 1) :
    d q = sm (r + 1) fun p => if p ≤ q then turn r B (q - p) * c p else 0 := by
  have key : ∀ q, q < r + 2 → d q = (if q < r + 1 then c q else 0) + (if q = 0 then 0 else (- B r r) * c (q - 1)) + (if q < 2 then 0 else - sm r fun j => sm r fun i => B r j * B i r * N (q - 2) j i) := by
    refine coef_eq (m := r + 2) (c := d) (fun t _ => ?_)
    rw [← h'.hD t, det_block r (ut B t)]
    have e1 : (sm r fun j => ut B t r j * det r (setc (ut B t) j fun a => ut B t a r)) = t ^ 2 * sm r fun j => sm r fun i => B r j * B i r * (sm r fun k => N k j i * t ^ k) := by
      rw [← sm_mul]
      refine sm_congr fun j hj => ?_
      rw [det_col _ j hj, ← sm_mul, ← sm_mul]
      refine sm_congr fun i hi => ?_
      rw [h.hN j i hj t]
      unfold ut ee
      rw [if_neg (by omega), if_neg (by omega)]
      generalize (sm r fun k => N k j i * t ^ k) = z
      grind
    rw [e1, h.hD t]
    rw [sm_congr (n := r + 2) (g := fun q => ((if q < r + 1 then c q else 0) * t ^ q + (if q = 0 then 0 else (- B r r) * c (q - 1)) * t ^ q) + (if q < 2 then 0 else - sm r fun j => sm r fun i => B r j * B i r * N (q - 2) j i) * t ^ q) (fun q _ => by rw [Int.add_mul, Int.add_mul]), sm_add, sm_add]
    have e2 : (sm (r + 2) fun q => (if q < r + 1 then c q else 0) * t ^ q) = sm (r + 1) fun k => c k * t ^ k := by
      show (sm (r + 1) fun q => (if q < r + 1 then c q else 0) * t ^ q) + (if r + 1 < r + 1 then c (r + 1) else 0) * t ^ (r + 1) = _
      rw [if_neg (by omega), Int.zero_mul, Int.add_zero]
      exact sm_congr fun i hi => by rw [if_pos hi]
    have e3 : (sm (r + 2) fun q => (if q = 0 then 0 else (- B r r) * c (q - 1)) * t ^ q) = (t * (- B r r)) * sm (r + 1) fun k => c k * t ^ k := by
      rw [sm_front, ← sm_mul]
      simp only [if_true, Int.zero_mul, Int.zero_add]
      exact sm_congr fun i _ => by rw [if_neg (by omega), Nat.add_sub_cancel, Int.pow_succ]; grind
    have e4 : (sm (r + 2) fun q => (if q < 2 then 0 else - sm r fun j => sm r fun i => B r j * B i r * N (q - 2) j i) * t ^ q) = - (t ^ 2 * sm r fun j => sm r fun i => B r j * B i r * (sm r fun k => N k j i * t ^ k)) := by
      rw [show r + 2 = r + 1 + 1 from rfl, sm_front, sm_front]
      simp only [show (0 : Nat) < 2 by omega, show (0 + 1 : Nat) < 2 by omega, if_true, Int.zero_mul, Int.zero_add]
      rw [sm_congr (g := fun q => - (t ^ 2 * sm r fun j => sm r fun i => B r j * B i r * (N q j i * t ^ q))) (fun q _ => by
        rw [if_neg (by omega), show q + 1 + 1 - 2 = q by omega, Int.pow_succ, Int.pow_succ, Int.neg_mul, ← sm_mulr, ← sm_mul]
        congr 1
        refine sm_congr fun j _ => ?_
        rw [← sm_mulr, ← sm_mul]
        exact sm_congr fun i _ => by grind), sm_neg, sm_mul, sm_comm]
      congr 2
      refine sm_congr fun j _ => ?_
      rw [sm_comm]
      exact sm_congr fun i _ => by rw [← sm_mul]
    rw [e2, e3, e4]
    unfold ut ee
    rw [if_pos rfl]
    grind
  rw [key q (by omega)]
  have hT : ∀ s, s < r → (sm r fun j => sm r fun i => B r j * B i r * N s j i) = sm (s + 1) fun p => (sm r fun i => B r i * colI r B (fun a => B a r) (s - p) i) * c p := by
    intro s hs
    rw [sm_congr (g := fun j => sm r fun i => sm (s + 1) fun p => c p * (B r j * pw r B (s - p) j i * B i r)) (fun j hj => sm_congr fun i hi => by
      rw [h.adj_pw j hj s i hi (by omega), ← sm_mul]; exact sm_congr fun p _ => by grind)]
    rw [sm_congr (g := fun j => sm (s + 1) fun p => sm r fun i => c p * (B r j * pw r B (s - p) j i * B i r)) (fun j _ => by rw [sm_comm]), sm_comm]
    refine sm_congr fun p _ => ?_
    have h1 := row_col r B (B r) (fun a => B a r) (s - p) 0
    rw [Nat.add_zero] at h1
    rw [← h1, ← sm_mulr, sm_comm]
    refine sm_congr fun i hi => ?_
    rw [← rowI_pw r B (B r) (s - p) i hi]
    show _ = (sm r fun j => B r j * pw r B (s - p) j i) * B i r * c p
    rw [← sm_mulr, ← sm_mulr]
    exact sm_congr fun j _ => by grind
  rcases Nat.lt_or_ge q 2 with h2 | h2
  · rw [if_pos h2]
    rcases Nat.lt_or_ge q 1 with h1 | h1
    · obtain rfl : q = 0 := by omega
      rw [if_pos (by omega), if_pos rfl, sm_one (j := 0) (by omega) (fun i _ hn => by rw [if_neg (by omega)])]
      simp [turn]
    · obtain rfl : q = 1 := by omega
      rw [if_neg (show ¬ ((1 : Nat) = 0) by omega)]
      rcases Nat.eq_zero_or_pos r with h3 | h3
      · subst h3
        rw [if_neg (show ¬ (1 < 0 + 1) by omega)]
        show _ = 0 + if 0 ≤ 1 then turn 0 B (1 - 0) * c 0 else 0
        simp [turn]
      · obtain ⟨r', rfl⟩ : ∃ m, r = m + 1 := ⟨r - 1, by omega⟩
        rw [if_pos (show 1 < r' + 1 + 1 by omega), sm_front, sm_front, sm_zero' (fun i _ => by rw [if_neg (by omega)])]
        simp [turn]; omega
  · obtain ⟨s, rfl⟩ : ∃ s, q = s + 2 := ⟨q - 2, by omega⟩
    rw [if_neg (show ¬ (s + 2 = 0) by omega), if_neg (show ¬ (s + 2 < 2) by omega), show s + 2 - 1 = s + 1 by omega, show s + 2 - 2 = s by omega, hT s (by omega)]
    have split3 : ∀ m (g : Nat → Int), m ≤ s + 1 → (sm (m) fun p => if p ≤ s + 2 then g p else 0) = sm m g := fun m g hm => sm_congr fun i hi => by rw [if_pos (by omega)]
    have hlow : (sm (s + 1) fun p => turn r B (s + 2 - p) * c p) = - sm (s + 1) fun p => (sm r fun i => B r i * colI r B (fun a => B a r) (s - p) i) * c p := by
      rw [← sm_neg]
      refine sm_congr fun p hp => ?_
      rw [show s + 2 - p = s - p + 2 by omega]
      show (- _) * _ = _
      rw [Int.neg_mul]
    by_cases h3 : s + 2 < r + 1
    · rw [if_pos h3]
      obtain ⟨m, rfl⟩ : ∃ m, r = s + 2 + m := ⟨r - (s + 2), by omega⟩
      have tail : ∀ m, (sm (s + 2 + m + 1) fun p => if p ≤ s + 2 then turn (s + 2 + m) B (s + 2 - p) * c p else 0) = (sm (s + 3) fun p => if p ≤ s + 2 then turn (s + 2 + m) B (s + 2 - p) * c p else 0) := by
        intro m
        have gen : ∀ (f : Nat → Int) (m : Nat), (∀ i, s + 3 ≤ i → f i = 0) → sm (s + 3 + m) f = sm (s + 3) f := by
          intro f m hf
          induction m with
          | zero => rfl
          | succ m ih => show sm (s + 3 + m) f + f (s + 3 + m) = _; rw [ih, hf _ (by omega)]; omega
        rw [show s + 2 + m + 1 = s + 3 + m by omega]
        exact gen _ m (fun i hi => by rw [if_neg (by omega)])
      rw [tail]
      show _ = (sm (s + 1) fun p => if p ≤ s + 2 then turn (s + 2 + m) B (s + 2 - p) * c p else 0) + (if s + 1 ≤ s + 2 then turn (s + 2 + m) B (s + 2 - (s + 1)) * c (s + 1) else 0) + (if s + 2 ≤ s + 2 then turn (s + 2 + m) B (s + 2 - (s + 2)) * c (s + 2) else 0)
      rw [split3 _ _ (by omega), hlow, if_pos (by omega), if_pos (by omega), show s + 2 - (s + 1) = 1 by omega, Nat.sub_self]
      show _ = _ + (- B _ _) * c (s + 1) + 1 * c (s + 2)
      omega
    · rw [if_neg h3]
      obtain rfl : r = s + 1 := by omega
      show _ = (sm (s + 1) fun p => if p ≤ s + 2 then turn (s + 1) B (s + 2 - p) * c p else 0) + (if s + 1 ≤ s + 2 then turn (s + 1) B (s + 2 - (s + 1)) * c (s + 1) else 0)
      rw [split3 _ _ (by omega), hlow, if_pos (by omega), show s + 2 - (s + 1) = 1 by omega]
      show _ = _ + (- B _ _) * c (s + 1)
      omega
end Go.Proofs.Ytimdklhkhjpmbaa.Dt
end
section
namespace Go.Proofs.Ytimdklhkhjpmbaa.Dt
set_option linter.unusedVariables false
def ev (m : Nat) (f : Nat → Int) (x : Int) : Int := sm m fun k => f k * x ^ k
theorem ev_front (m : Nat) (f : Nat → Int) (x : Int) : ev (m + 1) f x = f 0 + x * ev m (fun k => f (k + 1)) x := by
  unfold ev
  rw [sm_front, ← sm_mul]
  simp only [Int.pow_zero, Int.mul_one]
  congr 1
  exact sm_congr fun i _ => by rw [Int.pow_succ]; grind
def hor (f : Nat → Int) (c : Int) (m : Nat) : Nat → Nat → Int
  | 0 => fun _ => 0
  | d + 1 => fun k => (if k = 0 then 0 else hor f c m d (k - 1)) + c * hor f c m d k + (if k = 0 then f (m - (d + 1)) else 0)
theorem hor_zero (f : Nat → Int) (c : Int) (m : Nat) (d : Nat) : ∀ k, d ≤ k → hor f c m d k = 0 := by
  induction d with
  | zero => intro k _; rfl
  | succ d ih =>
    intro k hk
    show (if k = 0 then 0 else hor f c m d (k - 1)) + c * hor f c m d k + (if k = 0 then f (m - (d + 1)) else 0) = 0
    rw [if_neg (by omega), if_neg (by omega), ih (k - 1) (by omega), ih k (by omega)]; simp
theorem ev_more {m : Nat} {f : Nat → Int} (h : f m = 0) (x : Int) : ev (m + 1) f x = ev m f x := by
  show sm m (fun k => f k * x ^ k) + f m * x ^ m = _
  rw [h, Int.zero_mul, Int.add_zero]; rfl
theorem hor_ev (f : Nat → Int) (c : Int) (m : Nat) (d : Nat) : d ≤ m → ∀ x, ev d (hor f c m d) x = ev d (fun k => f (m - d + k)) (x + c) := by
  induction d with
  | zero => intro _ x; rfl
  | succ d ih =>
    intro hd x
    have h := ih (by omega) x
    have e1 : ev (d + 1) (hor f c m (d + 1)) x = f (m - (d + 1)) + (x + c) * ev d (hor f c m d) x := by
      have s1 : ev (d + 1) (hor f c m (d + 1)) x = ev (d + 1) (fun k => if k = 0 then 0 else hor f c m d (k - 1)) x + c * ev (d + 1) (hor f c m d) x + ev (d + 1) (fun k => if k = 0 then f (m - (d + 1)) else 0) x := by
        unfold ev
        rw [← sm_mul, ← sm_add, ← sm_add]
        refine sm_congr fun k _ => ?_
        show ((if k = 0 then 0 else hor f c m d (k - 1)) + c * hor f c m d k + (if k = 0 then f (m - (d + 1)) else 0)) * x ^ k = _
        rw [Int.add_mul, Int.add_mul, Int.mul_assoc]
      rw [s1, ev_more (hor_zero f c m d d (Nat.le_refl _)), ev_front, ev_front]
      have s2 : ev d (fun k => if k + 1 = 0 then f (m - (d + 1)) else 0) x = 0 := by
        unfold ev; exact sm_zero' fun k _ => by dsimp only; rw [if_neg (by omega), Int.zero_mul]
      have s3 : ev d (fun k => if k + 1 = 0 then 0 else hor f c m d (k + 1 - 1)) x = ev d (hor f c m d) x := by
        unfold ev; exact sm_congr fun k _ => by dsimp only; rw [if_neg (by omega), Nat.add_sub_cancel]
      rw [s2, s3]
      simp only [if_true]
      rw [Int.add_mul]; omega
    rw [e1, h, ev_front]
    have e2 : ev d (fun k => f (m - (d + 1) + (k + 1))) (x + c) = ev d (fun k => f (m - d + k)) (x + c) := by
      unfold ev; exact sm_congr fun k _ => by dsimp only; rw [show m - (d + 1) + (k + 1) = m - d + k by omega]
    rw [e2]; rfl
def dv (c : Int) (m : Nat) (i : Nat) (a : Nat → Int) : Nat → Nat → Int
  | 0 => a
  | d + 1 => fun k => if k = m - 2 - d then dv c m i a d (m - 2 - d) + c * dv c m i a d (m - 1 - d) else dv c m i a d k
theorem uniq {m : Nat} {f g : Nat → Int} (h : ∀ x : Int, 1 ≤ x → ev m f x = ev m g x) : ∀ k, k < m → f k = g k := coef_eq h
theorem dv_far (c : Int) (m i : Nat) (a : Nat → Int) (d : Nat) : ∀ k, k + 1 + d < m → dv c m i a d k = a k := by
  induction d with
  | zero => intro k _; rfl
  | succ d ih =>
    intro k hk
    show (if k = m - 2 - d then _ else dv c m i a d k) = a k
    rw [if_neg (by omega), ih k (by omega)]
theorem dv_last (c : Int) (m i : Nat) (a : Nat → Int) (d : Nat) : ∀ k, m ≤ k + 1 → 2 ≤ m → d + 1 ≤ m → dv c m i a d k = a k := by
  induction d with
  | zero => intro k _ _ _; rfl
  | succ d ih =>
    intro k hk hm hd
    show (if k = m - 2 - d then _ else dv c m i a d k) = a k
    rw [if_neg (by omega), ih k hk hm (by omega)]
theorem dv_rec (c : Int) (m i : Nat) (a : Nat → Int) (D : Nat) (hm : 2 ≤ m) (hD : D + 1 ≤ m) : ∀ k, m - 1 - D ≤ k → k + 1 < m → dv c m i a D k = a k + c * dv c m i a D (k + 1) := by
  induction D with
  | zero => intro k h1 h2; omega
  | succ D ih =>
    intro k h1 h2
    show (if k = m - 2 - D then dv c m i a D (m - 2 - D) + c * dv c m i a D (m - 1 - D) else dv c m i a D k) = a k + c * (if k + 1 = m - 2 - D then _ else dv c m i a D (k + 1))
    by_cases e : k = m - 2 - D
    · rw [if_pos e, if_neg (by omega), dv_far c m i a D (m - 2 - D) (by omega), ← e, show m - 1 - D = k + 1 by omega]
    · rw [if_neg e, if_neg (by omega)]
      exact ih (by omega) k (by omega) h2
def pas (c : Int) (m : Nat) (f : Nat → Int) : Nat → Nat → Int
  | 0 => f
  | i + 1 => dv c m i (pas c m f i) (m - 1 - i)
theorem pas_ev (c : Int) (m : Nat) (f : Nat → Int) (hm : 2 ≤ m) (i : Nat) : i ≤ m → ∀ x, ev m f x = sm i (fun k => pas c m f i k * (x - c) ^ k) + (x - c) ^ i * ev (m - i) (fun k => pas c m f i (i + k)) x := by
  induction i with
  | zero =>
    intro _ x
    show _ = 0 + (x - c) ^ 0 * ev (m - 0) (fun k => f (0 + k)) x
    rw [Int.pow_zero, Int.one_mul, Int.zero_add, Nat.sub_zero]
    unfold ev; exact sm_congr fun k _ => by dsimp only; rw [Nat.zero_add]
  | succ i ih =>
    intro hi x
    rw [ih (by omega) x]
    generalize hb : pas c m f i = b
    have hb2 : pas c m f (i + 1) = dv c m i b (m - 1 - i) := by rw [← hb]; rfl
    have low : sm i (fun k => pas c m f (i + 1) k * (x - c) ^ k) = sm i (fun k => b k * (x - c) ^ k) := sm_congr fun k hk => by rw [hb2, dv_far c m i b _ k (by omega)]
    show sm i (fun k => b k * (x - c) ^ k) + (x - c) ^ i * ev (m - i) (fun k => b (i + k)) x = sm i (fun k => pas c m f (i + 1) k * (x - c) ^ k) + pas c m f (i + 1) i * (x - c) ^ i + (x - c) ^ (i + 1) * ev (m - (i + 1)) (fun k => pas c m f (i + 1) (i + 1 + k)) x
    rw [low, hb2]
    have key : ∀ n, ∀ j, j + n + 1 = m → i ≤ j → ev (n + 1) (fun k => b (j + k)) x = dv c m i b (m - 1 - i) j + (x - c) * ev n (fun k => dv c m i b (m - 1 - i) (j + 1 + k)) x := by
      intro n
      induction n with
      | zero =>
        intro j hj hij
        show 0 + b (j + 0) * x ^ 0 = _ + (x - c) * 0
        rw [dv_last c m i b _ j (by omega) hm (by omega)]; simp
      | succ n ihn =>
        intro j hj hij
        have f1 := ev_front (n + 1) (fun k => b (j + k)) x
        have f2 := ev_front n (fun k => dv c m i b (m - 1 - i) (j + 1 + k)) x
        (try dsimp only at f1); (try dsimp only at f2)
        have h1 := ihn (j + 1) (by omega) (by omega)
        have e1 : ev (n + 1) (fun k => b (j + (k + 1))) x = ev (n + 1) (fun k => b (j + 1 + k)) x := by
          unfold ev; exact sm_congr fun k _ => by dsimp only; rw [show j + (k + 1) = j + 1 + k by omega]
        have e2 : ev n (fun k => dv c m i b (m - 1 - i) (j + 1 + (k + 1))) x = ev n (fun k => dv c m i b (m - 1 - i) (j + 1 + 1 + k)) x := by
          unfold ev; exact sm_congr fun k _ => by dsimp only; rw [show j + 1 + (k + 1) = j + 1 + 1 + k by omega]
        rw [f1, f2, e1, h1, e2, Nat.add_zero, Nat.add_zero, dv_rec c m i b (m - 1 - i) hm (by omega) j (by omega) (by omega)]
        grind
    have h2 := key (m - (i + 1)) i (by omega) (Nat.le_refl _)
    rw [show m - (i + 1) + 1 = m - i by omega] at h2
    rw [h2, Int.pow_succ]
    grind
theorem shift_same (c : Int) (m : Nat) (f : Nat → Int) (hm : 2 ≤ m) : ∀ k, k < m → pas c m f m k = hor f c m m k := by
  refine uniq fun y _ => ?_
  have h1 := pas_ev c m f hm m (Nat.le_refl _) (y + c)
  have h2 := hor_ev f c m m (Nat.le_refl _) y
  rw [Nat.sub_self] at h1 h2
  have e1 : ev m (fun k => f (0 + k)) (y + c) = ev m f (y + c) := by unfold ev; exact sm_congr fun k _ => by dsimp only; rw [Nat.zero_add]
  rw [h2, e1, h1, show y + c - c = y by omega]
  show _ = _ + y ^ m * 0
  rw [Int.mul_zero, Int.add_zero]; rfl
end Go.Proofs.Ytimdklhkhjpmbaa.Dt
end
section
namespace Go.Proofs.Ytimdklhkhjpmbaa.Q
open Go.RowKit Go.Proofs.Ytimdklhkhjpmbaa.X Go.Proofs.Ytimdklhkhjpmbaa.Dt Go.Proofs.YtimdklhkhjpmbaaW.PrintWords Go.Proofs.YtimdklhkhjpmbaaW.PrintLast Go.Proofs.YtimdklhkhjpmbaaW.PrintMore
set_option linter.unusedVariables false
theorem wr_far (x q : Int) : wrap64 (x + 18446744073709551616 * q) = wrap64 x := by unfold wrap64; omega
theorem wr_form (x : Int) : ∃ q, wrap64 x = x + 18446744073709551616 * q := by
  refine ⟨(wrap64 x - x) / 18446744073709551616, ?_⟩
  unfold wrap64; omega
theorem w0 : wrap64 0 = 0 := by unfold wrap64; omega
theorem wr_wr (x : Int) : wrap64 (wrap64 x) = wrap64 x := by unfold wrap64; omega
theorem wr_add (x y : Int) : wrap64 (wrap64 x + wrap64 y) = wrap64 (x + y) := by unfold wrap64; omega
theorem wr_neg (x : Int) : wrap64 (- wrap64 x) = wrap64 (- x) := by unfold wrap64; omega
theorem wr_mul (x y : Int) : wrap64 (wrap64 x * wrap64 y) = wrap64 (x * y) := by
  obtain ⟨q, hq⟩ := wr_form x; obtain ⟨p, hp⟩ := wr_form y
  rw [hq, hp, show (x + 18446744073709551616 * q) * (y + 18446744073709551616 * p) = x * y + 18446744073709551616 * (x * p + q * y + 18446744073709551616 * (q * p)) by grind, wr_far]
theorem wr_zero {x : Int} (h : wrap64 x = 0) (y z : Int) : wrap64 (z + x * y) = wrap64 z := by
  obtain ⟨q, hq⟩ := wr_form x
  have : x * y = 18446744073709551616 * (- q * y) := by
    have e : x = 18446744073709551616 * (- q) := by omega
    rw [e]; grind
  rw [this, wr_far]
def wrow (n : Nat) (R : Nat → Int) : List Int := (List.range n).map fun j => wrap64 (R j)
def wmat (n : Nat) (F : Nat → Nat → Int) : List (List Int) := (List.range n).map fun i => wrow n (F i)
theorem wrow_length (n : Nat) (R : Nat → Int) : (wrow n R).length = n := by simp [wrow]
theorem wmat_length (n : Nat) (F : Nat → Nat → Int) : (wmat n F).length = n := by simp [wmat]
theorem wrow_at (n : Nat) (R : Nat → Int) (j : Nat) (h : j < n) : rd (wrow n R) (j : Int) = wrap64 (R j) := by rw [rd_at _ _ (by rw [wrow_length]; exact h)]; simp [wrow]
theorem wmat_at (n : Nat) (F : Nat → Nat → Int) (i : Nat) (h : i < n) : rd_L1 (wmat n F) (i : Int) = wrow n (F i) := by rw [rdL _ _ (by rw [wmat_length]; exact h)]; simp [wmat]
theorem wrow_congr {n : Nat} {R R' : Nat → Int} (h : ∀ j, j < n → wrap64 (R j) = wrap64 (R' j)) : wrow n R = wrow n R' := by
  unfold wrow; exact List.map_congr_left fun j hj => h j (List.mem_range.1 hj)
theorem wmat_congr {n : Nat} {F F' : Nat → Nat → Int} (h : ∀ i j, i < n → j < n → wrap64 (F i j) = wrap64 (F' i j)) : wmat n F = wmat n F' := by
  unfold wmat; exact List.map_congr_left fun i hi => wrow_congr fun j hj => h i j (List.mem_range.1 hi) hj
theorem wrow_set (n : Nat) (R : Nat → Int) (b : Nat) (v : Int) : (wrow n R).set b (wrap64 v) = wrow n (fun j => if j = b then v else R j) := by
  apply List.ext_getElem
  · simp [wrow]
  · intro j h1 h2
    simp only [wrow, List.getElem_set, List.getElem_map, List.getElem_range]
    split <;> (split <;> first | rfl | omega)
theorem wmat_set (n : Nat) (F : Nat → Nat → Int) (a : Nat) (R : Nat → Int) : (wmat n F).set a (wrow n R) = wmat n (fun i => if i = a then R else F i) := by
  apply List.ext_getElem
  · simp [wmat]
  · intro j h1 h2
    simp only [wmat, List.getElem_set, List.getElem_map, List.getElem_range]
    split <;> (split <;> first | rfl | omega)
theorem wmat_put (n : Nat) (F : Nat → Nat → Int) (a b : Nat) (v : Int) (ha : a < n) : (wmat n F).set a ((rd_L1 (wmat n F) (a : Int)).set b (wrap64 v)) = wmat n (fun i j => if i = a ∧ j = b then v else F i j) := by
  rw [wmat_at n F a ha, wrow_set, wmat_set]
  congr 1; funext i
  split
  · rename_i h; subst h; funext j; simp
  · rename_i h; funext j; simp [h]
theorem wmat_zero (n : Nat) : List.replicate n (List.replicate n (0 : Int)) = wmat n (fun _ _ => 0) := by
  apply List.ext_getElem
  · simp [wmat]
  · intro j h1 h2
    simp only [wmat, wrow, List.getElem_replicate, List.getElem_map]
    apply List.ext_getElem
    · simp
    · intro i h3 h4; simp; exact w0.symm
def mul (n : Nat) (F G : Nat → Nat → Int) : Nat → Nat → Int := fun i j => sm n fun l => F i l * G l j
theorem sq_l (N : Nat) (hN : N ≤ 20) (d : Nat) : ∀ i : Nat, i + d = N → Ev (fun k => impl_square.l0 k (N : Int) (List.replicate i (List.replicate N 0)) (N : Int) (i : Int)) (List.replicate N (List.replicate N 0)) := by
  induction d with
  | zero => intro i hi; obtain rfl : i = N := by omega
            exact Ev.step (fun _ => rfl) (evF (by omega) (evN rfl))
  | succ d ih =>
    intro i hi
    refine Ev.step (fun _ => rfl) (evT (by omega) (evT (by omega) (evT (by omega) (evT (by simp; omega) ?_))))
    rw [wnat (n := N) (by omega) (by omega), Int.toNat_natCast, ← List.replicate_succ']
    exact ih (i + 1) (by omega)
theorem square_ (N : Nat) (hN : N ≤ 20) : Ev (fun k => impl_square.f k (N : Int)) (wmat N (fun _ _ => 0)) := by
  rw [← wmat_zero]; unfold impl_square.f; exact sq_l N hN N 0 (by omega)
theorem times_l2 (n : Nat) (hn : n ≤ 20) (F G : Nat → Nat → Int) (i l : Nat) (hi : i < n) (hl : l < n) (H : Nat → Nat → Int) (r : List (List Int))
    (hr : Ev (fun k => impl_rowsTimes.l1 k (wmat n G) (wmat n (fun a b => if a = i ∧ b < n then H a b + F i l * G l b else H a b)) (i : Int) (wmat n F) (n : Int) (i : Int) (wrow n (F i)) (n : Int) ((l + 1 : Nat) : Int)) r) (d : Nat) : ∀ j : Nat, j + d = n →
    Ev (fun k => impl_rowsTimes.l2 k (wmat n G) (wmat n (fun a b => if a = i ∧ b < j then H a b + F i l * G l b else H a b)) (i : Int) (wrap64 (F i l)) (wmat n F) (n : Int) (i : Int) (wrow n (F i)) (n : Int) (l : Int) (wrow n (G l)) (n : Int) (j : Int)) r := by
  induction d with
  | zero =>
    intro j hj; obtain rfl : j = n := by omega
    refine Ev.step (fun _ => rfl) (evF (by omega) ?_)
    rw [wnat (n := j) (i := l) (by omega) (by omega)]; exact hr
  | succ d ih =>
    intro j hj
    refine Ev.step (fun _ => rfl) (evT (by omega) (evT (by omega) (evT (by rw [wrow_length]; omega) (evT (by omega) (evT (by rw [wmat_length]; omega) (evT (by rw [wmat_at n _ i hi, wrow_length]; omega) ?_))))))
    have h := ih (j + 1) (by omega)
    have e : (wmat n (fun a b => if a = i ∧ b < j then H a b + F i l * G l b else H a b)).set ((i : Int)).toNat ((rd_L1 (wmat n (fun a b => if a = i ∧ b < j then H a b + F i l * G l b else H a b)) (i : Int)).set ((j : Int)).toNat (wrap64 (rd (rd_L1 (wmat n (fun a b => if a = i ∧ b < j then H a b + F i l * G l b else H a b)) (i : Int)) (j : Int) + wrap64 (wrap64 (F i l) * rd (wrow n (G l)) (j : Int))))) = wmat n (fun a b => if a = i ∧ b < j + 1 then H a b + F i l * G l b else H a b) := by
      rw [Int.toNat_natCast, Int.toNat_natCast]
      have e1 : wrap64 (rd (rd_L1 (wmat n (fun a b => if a = i ∧ b < j then H a b + F i l * G l b else H a b)) (i : Int)) (j : Int) + wrap64 (wrap64 (F i l) * rd (wrow n (G l)) (j : Int))) = wrap64 (H i j + F i l * G l j) := by
        rw [wmat_at n _ i hi, wrow_at n _ j (by omega), wrow_at n _ j (by omega), wr_mul, wr_add, if_neg (by omega)]
      rw [e1, wmat_put n _ i j _ hi]
      congr 1; funext a b
      by_cases q : a = i ∧ b = j
      · rw [if_pos q, if_pos ⟨q.1, by omega⟩, q.1, q.2]
      · rw [if_neg q]
        by_cases q2 : a = i ∧ b < j
        · rw [if_pos q2, if_pos ⟨q2.1, by omega⟩]
        · rw [if_neg q2, if_neg (by omega)]
    rw [e, wnat (n := n) (by omega) (by omega)]
    exact h
theorem times_l1 (n : Nat) (hn : n ≤ 20) (F G : Nat → Nat → Int) (i : Nat) (hi : i < n) (H : Nat → Nat → Int) (r : List (List Int))
    (hr : Ev (fun k => impl_rowsTimes.l0 k (wmat n G) (wmat n (fun a b => if a = i then H a b + sm n (fun l => F i l * G l b) else H a b)) (wmat n F) (n : Int) ((i + 1 : Nat) : Int)) r) (d : Nat) : ∀ l : Nat, l + d = n →
    Ev (fun k => impl_rowsTimes.l1 k (wmat n G) (wmat n (fun a b => if a = i then H a b + sm l (fun l => F i l * G l b) else H a b)) (i : Int) (wmat n F) (n : Int) (i : Int) (wrow n (F i)) (n : Int) (l : Int)) r := by
  induction d with
  | zero =>
    intro l hl; obtain rfl : l = n := by omega
    refine Ev.step (fun _ => rfl) (evF (by omega) ?_)
    rw [wnat (n := l) (i := i) (by omega) (by omega)]; exact hr
  | succ d ih =>
    intro l hl
    have h := ih (l + 1) (by omega)
    refine Ev.step (fun _ => rfl) (evT (by omega) (evT (by omega) (evT (by rw [wrow_length]; omega) ?_)))
    rw [wrow_at n _ l (by omega)]
    by_cases hz : wrap64 (F i l) = 0
    · refine evT hz ?_
      rw [wnat (n := n) (by omega) (by omega)]
      have e : wmat n (fun a b => if a = i then H a b + sm l (fun l => F i l * G l b) else H a b) = wmat n (fun a b => if a = i then H a b + sm (l + 1) (fun l => F i l * G l b) else H a b) := by
        refine wmat_congr fun a b _ _ => ?_
        by_cases q : a = i
        · rw [if_pos q, if_pos q]
          show _ = wrap64 (H a b + (sm l (fun l => F i l * G l b) + F i l * G l b))
          rw [← Int.add_assoc, wr_zero hz]
        · rw [if_neg q, if_neg q]
      rw [e]; exact h
    · refine evF hz (evT (by rw [wmat_length]; omega) ?_)
      rw [wmat_at n G l (by omega), wrow_length]
      have h2 := times_l2 n hn F G i l hi (by omega) (fun a b => if a = i then H a b + sm l (fun l => F i l * G l b) else H a b) r ?_ n 0 (by omega)
      · have e : wmat n (fun a b => if a = i ∧ b < 0 then (if a = i then H a b + sm l (fun l => F i l * G l b) else H a b) + F i l * G l b else if a = i then H a b + sm l (fun l => F i l * G l b) else H a b) = wmat n (fun a b => if a = i then H a b + sm l (fun l => F i l * G l b) else H a b) := by
          congr 1; funext a b; rw [if_neg (by omega)]
        rw [e] at h2; exact h2
      · have e : wmat n (fun a b => if a = i ∧ b < n then (if a = i then H a b + sm l (fun l => F i l * G l b) else H a b) + F i l * G l b else if a = i then H a b + sm l (fun l => F i l * G l b) else H a b) = wmat n (fun a b => if a = i then H a b + sm (l + 1) (fun l => F i l * G l b) else H a b) := by
          refine wmat_congr fun a b _ hb => ?_
          by_cases q : a = i
          · rw [if_pos ⟨q, hb⟩, if_pos q, if_pos q, Int.add_assoc]; rfl
          · rw [if_neg (fun z => q z.1), if_neg q, if_neg q]
        rw [e]; exact h
theorem times_l0 (n : Nat) (hn : n ≤ 20) (F G : Nat → Nat → Int) (d : Nat) : ∀ i : Nat, i + d = n →
    Ev (fun k => impl_rowsTimes.l0 k (wmat n G) (wmat n (fun a b => if a < i then mul n F G a b else 0)) (wmat n F) (n : Int) (i : Int)) (wmat n (mul n F G)) := by
  induction d with
  | zero =>
    intro i hi; obtain rfl : i = n := by omega
    refine Ev.step (fun _ => rfl) (evF (by omega) (evN ?_))
    congr 1
    exact wmat_congr fun a b ha _ => by rw [if_pos ha]
  | succ d ih =>
    intro i hi
    refine Ev.step (fun _ => rfl) (evT (by omega) (evT (by omega) (evT (by rw [wmat_length]; omega) ?_)))
    rw [wmat_at n F i (by omega), wrow_length]
    have h := times_l1 n hn F G i (by omega) (fun a b => if a < i then mul n F G a b else 0) (wmat n (mul n F G)) ?_ n 0 (by omega)
    · have e : wmat n (fun a b => if a = i then (if a < i then mul n F G a b else 0) + sm 0 (fun l => F i l * G l b) else if a < i then mul n F G a b else 0) = wmat n (fun a b => if a < i then mul n F G a b else 0) := by
        refine wmat_congr fun a b _ _ => ?_
        by_cases q : a = i
        · rw [if_pos q]; show wrap64 (_ + 0) = _; rw [Int.add_zero]
        · rw [if_neg q]
      rw [e] at h; exact h
    · have e : wmat n (fun a b => if a = i then (if a < i then mul n F G a b else 0) + sm n (fun l => F i l * G l b) else if a < i then mul n F G a b else 0) = wmat n (fun a b => if a < i + 1 then mul n F G a b else 0) := by
        refine wmat_congr fun a b _ _ => ?_
        by_cases q : a = i
        · subst q; rw [if_pos rfl, if_neg (by omega), if_pos (by omega), Int.zero_add]; rfl
        · rw [if_neg q]
          by_cases q2 : a < i
          · rw [if_pos q2, if_pos (by omega)]
          · rw [if_neg q2, if_neg (by omega)]
      rw [e]; exact ih (i + 1) (by omega)
theorem rowsTimes_ (n : Nat) (hn : n ≤ 20) (F G : Nat → Nat → Int) : Ev (fun k => impl_rowsTimes.f k (wmat n F) (wmat n G)) (wmat n (mul n F G)) := by
  unfold impl_rowsTimes.f
  rw [wmat_length]
  refine Ev.bind (square_ n hn) ?_
  have h := times_l0 n hn F G n 0 (by omega)
  have e : wmat n (fun a b => if a < 0 then mul n F G a b else 0) = wmat n (fun _ _ => 0) := by
    congr 1
  rw [e] at h; exact h
theorem trace_l (n : Nat) (hn : n ≤ 20) (F : Nat → Nat → Int) (d : Nat) : ∀ i : Nat, i + d = n → Ev (fun k => impl_trace.l0 k (wrap64 (sm i fun l => F l l)) (wmat n F) (n : Int) (i : Int)) (wrap64 (sm n fun l => F l l)) := by
  induction d with
  | zero => intro i hi; obtain rfl : i = n := by omega
            exact Ev.step (fun _ => rfl) (evF (by omega) (evN rfl))
  | succ d ih =>
    intro i hi
    refine Ev.step (fun _ => rfl) (evT (by omega) (evT (by omega) (evT (by rw [wmat_length]; omega) (evT (by rw [wmat_at n F i (by omega), wrow_length]; omega) ?_))))
    rw [wmat_at n F i (by omega), wrow_at n _ i (by omega), wr_add, wnat (n := n) (by omega) (by omega)]
    exact ih (i + 1) (by omega)
theorem trace_ (n : Nat) (hn : n ≤ 20) (F : Nat → Nat → Int) : Ev (fun k => impl_trace.f k (wmat n F)) (wrap64 (sm n fun l => F l l)) := by
  unfold impl_trace.f
  rw [wmat_length]
  have h := trace_l n hn F n 0 (by omega)
  rw [show sm 0 (fun l => F l l) = 0 from rfl, w0] at h
  exact h
end Go.Proofs.Ytimdklhkhjpmbaa.Q
end
section
namespace Go.Proofs.Ytimdklhkhjpmbaa.Dt
set_option linter.unusedVariables false
theorem sm_dvd {n : Nat} {f : Nat → Int} {h : Int} (k : ∀ i, i < n → h ∣ f i) : h ∣ sm n f := by
  induction n with
  | zero => exact ⟨0, by simp [sm]⟩
  | succ n ih =>
    obtain ⟨x, hx⟩ := ih (fun i hi => k i (by omega))
    obtain ⟨y, hy⟩ := k n (by omega)
    exact ⟨x + y, by show sm n f + f n = _; rw [hx, hy, Int.mul_add]⟩
theorem sm_sub (n : Nat) (f g : Nat → Int) : sm n (fun i => f i - g i) = sm n f - sm n g := by
  induction n with
  | zero => rfl
  | succ n ih => show sm n (fun i => f i - g i) + (f n - g n) = sm n f + f n - (sm n g + g n); rw [ih]; omega
theorem det_mod (n : Nat) (h : Int) : ∀ (M M' : Nat → Nat → Int), (∀ a b, a < n → b < n → h ∣ M' a b - M a b) → h ∣ det n M' - det n M := by
  induction n with
  | zero => intro M M' _; exact ⟨0, by simp [det]⟩
  | succ n ih =>
    intro M M' k
    unfold det
    have e : (sm (n + 1) fun j => sg (n + j) * M' n j * det n fun a b => M' a (skip j b)) - (sm (n + 1) fun j => sg (n + j) * M n j * det n fun a b => M a (skip j b)) = sm (n + 1) fun j => sg (n + j) * M' n j * (det n fun a b => M' a (skip j b)) - sg (n + j) * M n j * (det n fun a b => M a (skip j b)) := by
      exact (sm_sub (n + 1) (fun j => sg (n + j) * M' n j * (det n fun a b => M' a (skip j b))) (fun j => sg (n + j) * M n j * (det n fun a b => M a (skip j b)))).symm
    rw [e]
    refine sm_dvd fun j hj => ?_
    obtain ⟨x, hx⟩ := k n j (by omega) hj
    obtain ⟨y, hy⟩ := ih (fun a b => M a (skip j b)) (fun a b => M' a (skip j b)) (fun a b ha hb => k a _ (by omega) (by unfold skip; split <;> omega))
    refine ⟨sg (n + j) * (M' n j * y + x * det n (fun a b => M a (skip j b))), ?_⟩
    generalize (det n fun a b => M' a (skip j b)) = u at hy ⊢
    generalize (det n fun a b => M a (skip j b)) = v at hy ⊢
    have h1 : u = v + h * y := by omega
    have h2 : M' n j = M n j + h * x := by omega
    rw [h1, h2]; grind
theorem det_hom (n : Nat) (x : Int) : ∀ (M : Nat → Nat → Int), det n (fun a b => x * M a b) = x ^ n * det n M := by
  induction n with
  | zero => intro M; simp [det]
  | succ n ih =>
    intro M
    unfold det
    rw [← sm_mul]
    refine sm_congr fun j _ => ?_
    rw [ih (fun a b => M a (skip j b)), Int.pow_succ]; grind
theorem perturb (n : Nat) (M : Nat → Nat → Int) (t h : Int) (l : Nat) : l ≤ n → ∃ q, det n (fun a b => ut M t a b + if b < l then h * ee b a else 0) = det n (ut M t) + h * sm l (fun j => adj n (ut M t) j j) + h * (h * q) := by
  induction l with
  | zero =>
    intro _
    refine ⟨0, ?_⟩
    rw [det_congr (n := n) (M' := ut M t) (fun a b _ _ => by rw [if_neg (by omega)]; omega)]
    simp [sm]
  | succ l ih =>
    intro hl
    obtain ⟨q, hq⟩ := ih (by omega)
    have h1 := det_lin (n := n) (fun a b => ut M t a b + if b < l then h * ee b a else 0) l 1 h (fun a => ut M t a l) (ee l) (by omega)
    have h2 : det n (setc (fun a b => ut M t a b + if b < l then h * ee b a else 0) l (fun a => ut M t a l)) = det n (fun a b => ut M t a b + if b < l then h * ee b a else 0) := by
      refine det_congr fun a b _ _ => ?_
      unfold setc; split
      · rename_i e; subst e; rw [if_neg (by omega)]; exact (Int.add_zero _).symm
      · rfl
    obtain ⟨z, hz⟩ := det_mod n h (setc (ut M t) l (ee l)) (setc (fun a b => ut M t a b + if b < l then h * ee b a else 0) l (ee l)) (fun a b _ _ => by
      unfold setc
      by_cases q1 : b = l
      · rw [if_pos q1, if_pos q1]; exact ⟨0, by omega⟩
      · rw [if_neg q1, if_neg q1]
        by_cases q2 : b < l
        · exact ⟨ee b a, by dsimp only; rw [if_pos q2]; omega⟩
        · exact ⟨0, by dsimp only; rw [if_neg q2]; omega⟩)
    refine ⟨q + z, ?_⟩
    have h3 : det n (fun a b => ut M t a b + if b < l + 1 then h * ee b a else 0) = det n (setc (fun a b => ut M t a b + if b < l then h * ee b a else 0) l (fun a => 1 * ut M t a l + h * ee l a)) := by
      refine det_congr fun a b _ _ => ?_
      unfold setc
      by_cases q0 : b = l
      · subst q0
        dsimp only
        rw [if_pos rfl, if_pos (show b < b + 1 by omega)]; omega
      · rw [if_neg q0]
        dsimp only
        by_cases q1 : b < l
        · rw [if_pos q1, if_pos (show b < l + 1 by omega)]
        · rw [if_neg q1, if_neg (show ¬ b < l + 1 by omega)]
    rw [h3, h1, h2, hq]
    show _ = det n (ut M t) + h * (sm l (fun j => adj n (ut M t) j j) + adj n (ut M t) l l) + _
    unfold adj
    generalize det n (setc (ut M t) l (ee l)) = u at hz ⊢
    generalize det n (setc (fun a b => ut M t a b + if b < l then h * ee b a else 0) l (ee l)) = v at hz ⊢
    have : v = u + h * z := by omega
    rw [this]; grind
theorem pow1 (h : Int) (m : Nat) : ∃ r, (1 + h) ^ m = 1 + (m : Int) * h + h * (h * r) := by
  induction m with
  | zero => exact ⟨0, by simp⟩
  | succ m ih =>
    obtain ⟨r, hr⟩ := ih
    refine ⟨(m : Int) + r + h * r, ?_⟩
    rw [Int.pow_succ, hr, Int.natCast_add]; grind
theorem Cp.scaled {n : Nat} {M : Nat → Nat → Int} {c : Nat → Int} {N : Nat → Nat → Nat → Int} (h : Cp n M c N) (x : Int) (hx : 1 ≤ x) (t : Int) : det n (fun a b => x * ee b a + t * (- M a b)) = sm (n + 1) fun k => x ^ (n - k) * c k * t ^ k := by
  obtain ⟨a, h1, _⟩ := det_poly n (fun a b => x * ee b a) (fun a b => - M a b) (sm n fun a => sm n fun b => ((x * ee b a).natAbs : Int) + ((- M a b).natAbs : Int)) (sm_nonneg fun a _ => sm_nonneg fun b _ => by omega) (fun a ha => by
    have h3 := sm_le (n := n) (f := fun i => if i = a then sm n fun b => ((x * ee b a).natAbs : Int) + ((- M a b).natAbs : Int) else 0) (g := fun a => sm n fun b => ((x * ee b a).natAbs : Int) + ((- M a b).natAbs : Int)) (fun i _ => by
      by_cases q : i = a
      · subst q; rw [if_pos rfl]; exact Int.le_refl _
      · rw [if_neg q]; exact sm_nonneg fun b _ => by omega)
    rw [sm_one ha (fun i _ hn => by rw [if_neg hn]), if_pos rfl] at h3
    exact h3)
  have e : ∀ k, k < n + 1 → a k * x ^ k = x ^ n * c k := coef_eq (m := n + 1) (c := fun k => a k * x ^ k) (d := fun k => x ^ n * c k) (fun s _ => by
    have h2 : (det n fun a b => x * ee b a + x * s * - M a b) = _ := h1 (x * s)
    rw [det_congr (n := n) (M' := fun a b => x * ut M s a b) (fun a b _ _ => by unfold ut; grind), det_hom, h.hD s, ← sm_mul] at h2
    rw [sm_congr (g := fun k => a k * (x * s) ^ k) (fun i _ => by rw [Int.mul_pow]; grind), ← h2]
    exact sm_congr fun i _ => by rw [Int.mul_assoc])
  refine (h1 t).trans ?_
  refine sm_congr fun k hk => ?_
  congr 1
  have h2 := e k hk
  have h3 : x ^ n = x ^ (n - k) * x ^ k := by rw [← Int.pow_add]; congr 1; omega
  rw [h3] at h2
  have hp : x ^ k ≠ 0 := by
    have : 0 < x ^ k := Int.pow_pos (by omega)
    omega
  refine Int.eq_of_mul_eq_mul_right hp ?_
  rw [h2]; grind
theorem Cp.traces {n : Nat} {M : Nat → Nat → Int} {c : Nat → Int} {N : Nat → Nat → Nat → Int} (h : Cp n M c N) (k : Nat) (hk : k < n + 1) : (sm n fun j => N k j j) = ((n - k : Nat) : Int) * c k := by
  refine coef_eq (m := n + 1) (c := fun k => sm n fun j => N k j j) (d := fun k => ((n - k : Nat) : Int) * c k) (fun t _ => ?_) k hk
  have hS : (sm (n + 1) fun k => (sm n fun j => N k j j) * t ^ k) = sm n fun j => adj n (ut M t) j j := by
    show (sm n fun k => (sm n fun j => N k j j) * t ^ k) + (sm n fun j => N n j j) * t ^ n = _
    rw [sm_zero' (f := fun j => N n j j) (fun j _ => h.h0 n j j (Nat.le_refl _)), Int.zero_mul, Int.add_zero]
    rw [sm_congr (g := fun k => sm n fun j => N k j j * t ^ k) (fun k _ => by rw [sm_mulr]), sm_comm]
    exact sm_congr fun j hj => (h.hN j j hj t).symm
  rw [hS]
  have z : (sm (n + 1) fun k => ((n - k : Nat) : Int) * c k * t ^ k) - (sm n fun j => adj n (ut M t) j j) = 0 := by
    refine div_all fun g hg => ?_
    obtain ⟨q, hq⟩ := perturb n M t g n (Nat.le_refl _)
    rw [det_congr (n := n) (M' := fun a b => (1 + g) * ee b a + t * (- M a b)) (fun a b _ hb => by rw [if_pos hb]; unfold ut; grind), h.scaled (1 + g) (by omega) t, h.hD t] at hq
    have hr : ∀ k, ∃ r, (1 + g) ^ (n - k) = 1 + ((n - k : Nat) : Int) * g + g * (g * r) := fun k => pow1 g (n - k)
    have e : (sm (n + 1) fun k => (1 + g) ^ (n - k) * c k * t ^ k) = (sm (n + 1) fun k => c k * t ^ k) + g * (sm (n + 1) fun k => ((n - k : Nat) : Int) * c k * t ^ k) + g * (g * sm (n + 1) fun k => Classical.choose (hr k) * c k * t ^ k) := by
      rw [← sm_mul, ← sm_mul, ← sm_mul, ← sm_add, ← sm_add]
      refine sm_congr fun k _ => ?_
      have := Classical.choose_spec (hr k)
      generalize Classical.choose (hr k) = r at this ⊢
      rw [this]; grind
    rw [e] at hq
    generalize (sm (n + 1) fun k => c k * t ^ k) = a1 at hq
    generalize (sm (n + 1) fun k => Classical.choose (hr k) * c k * t ^ k) = a2 at hq
    generalize (sm (n + 1) fun k => ((n - k : Nat) : Int) * c k * t ^ k) = a3 at hq ⊢
    generalize (sm n fun j => adj n (ut M t) j j) = a4 at hq ⊢
    refine ⟨q - a2, ?_⟩
    refine Int.eq_of_mul_eq_mul_left (a := g) (by omega) ?_
    grind
  omega
theorem newton {n : Nat} {M : Nat → Nat → Int} {c : Nat → Int} {N : Nat → Nat → Nat → Int} (h : Cp n M c N) (k : Nat) (hk : k ≤ n) : (sm k fun p => c p * sm n fun j => pw n M (k - p) j j) = - ((k : Int) * c k) := by
  have h1 := h.traces k (by omega)
  rw [sm_congr (g := fun j => sm (k + 1) fun p => c p * pw n M (k - p) j j) (fun j hj => h.adj_pw j hj k j hj hk), sm_comm] at h1
  have h2 : (sm (k + 1) fun p => sm n fun j => c p * pw n M (k - p) j j) = (sm k fun p => c p * sm n fun j => pw n M (k - p) j j) + (n : Int) * c k := by
    show (sm k fun p => sm n fun j => c p * pw n M (k - p) j j) + (sm n fun j => c k * pw n M (k - k) j j) = _
    rw [Nat.sub_self, sm_mul]
    have e : (sm n fun j => pw n M 0 j j) = (n : Int) := by
      show (sm n fun j => ee j j) = _
      have : ∀ m : Nat, (sm m fun j => ee j j) = (m : Int) := by
        intro m
        induction m with
        | zero => rfl
        | succ m ih => show (sm m fun j => ee j j) + ee m m = _; rw [ih]; unfold ee; simp
      exact this n
    rw [e, Int.mul_comm]
    congr 1
    exact sm_congr fun p _ => by rw [sm_mul]
  rw [h2] at h1
  have h3 : ((n - k : Nat) : Int) = (n : Int) - (k : Int) := by omega
  rw [h3, Int.sub_mul] at h1
  omega
theorem pw_left (n : Nat) (M : Nat → Nat → Int) (s : Nat) : ∀ j k, j < n → k < n → (sm n fun i => M j i * pw n M s i k) = pw n M (s + 1) j k := by
  induction s with
  | zero =>
    intro j k hj hk
    show (sm n fun i => M j i * ee k i) = sm n fun i => ee i j * M i k
    rw [sm_one hk (fun i _ hn => by unfold ee; rw [if_neg hn, Int.mul_zero]), sm_one hj (fun i _ hn => by unfold ee; rw [if_neg (fun q => hn q.symm), Int.zero_mul])]
    unfold ee; simp
  | succ s ih =>
    intro j k hj hk
    show (sm n fun i => M j i * sm n fun l => pw n M s i l * M l k) = sm n fun l => pw n M (s + 1) j l * M l k
    rw [sm_congr (g := fun i => sm n fun l => M j i * pw n M s i l * M l k) (fun i _ => by rw [← sm_mul]; exact sm_congr fun l _ => by rw [Int.mul_assoc]), sm_comm]
    exact sm_congr fun l hl => by rw [sm_mulr, ih j l hj hl]
def nw (n : Nat) (M : Nat → Nat → Int) (c : Nat → Int) : Nat → Nat → Nat → Int
  | 0 => fun _ _ => 0
  | k + 1 => fun j i => (sm n fun l => M j l * nw n M c k l i) + c k * ee i j
theorem nw_eq (n : Nat) (M : Nat → Nat → Int) (c : Nat → Int) (k : Nat) : ∀ j i, j < n → i < n → nw n M c k j i = sm k fun p => c p * pw n M (k - 1 - p) j i := by
  induction k with
  | zero => intro j i _ _; rfl
  | succ k ih =>
    intro j i hj hi
    show (sm n fun l => M j l * nw n M c k l i) + c k * ee i j = (sm k fun p => c p * pw n M (k + 1 - 1 - p) j i) + c k * pw n M (k + 1 - 1 - k) j i
    rw [Nat.add_sub_cancel, Nat.sub_self]
    congr 1
    rw [sm_congr (g := fun l => sm k fun p => c p * (M j l * pw n M (k - 1 - p) l i)) (fun l hl => by rw [ih l i hl hi, ← sm_mul]; exact sm_congr fun p _ => by grind), sm_comm]
    refine sm_congr fun p hp => ?_
    rw [sm_mul, pw_left n M _ j i hj hi, show k - 1 - p + 1 = k - p by omega]
theorem leverrier {n : Nat} {M : Nat → Nat → Int} {c : Nat → Int} {N : Nat → Nat → Nat → Int} (h : Cp n M c N) (k : Nat) (hk : k ≤ n) : (sm n fun j => sm n fun l => M j l * nw n M c k l j) = - ((k : Int) * c k) := by
  rw [← newton h k hk]
  rw [sm_congr (g := fun j => sm k fun p => c p * pw n M (k - p) j j) (fun j hj => by
    rw [sm_congr (g := fun l => sm k fun p => c p * (M j l * pw n M (k - 1 - p) l j)) (fun l hl => by rw [nw_eq n M c k l j hl hj, ← sm_mul]; exact sm_congr fun p _ => by grind), sm_comm]
    refine sm_congr fun p hp => ?_
    rw [sm_mul, pw_left n M _ j j hj hj, show k - 1 - p + 1 = k - p by omega]), sm_comm]
  exact sm_congr fun p _ => by rw [sm_mul]
end Go.Proofs.Ytimdklhkhjpmbaa.Dt
end
section
namespace Go.Proofs.Ytimdklhkhjpmbaa.Q
open Go.RowKit Go.Proofs.Ytimdklhkhjpmbaa.X Go.Proofs.YtimdklhkhjpmbaaW.PrintWords Go.Proofs.YtimdklhkhjpmbaaW.PrintLast Go.Proofs.YtimdklhkhjpmbaaW.PrintMore
set_option linter.unusedVariables false
set_option linter.unusedSimpArgs false
theorem own_ (l : List Int) (h : l.length ≤ 1048576) : spec_l01Own.f l = some l := by
  unfold spec_l01Own.f; simp; try omega
theorem clone_ (l : List Int) (h : l.length ≤ 1048576) : slices_Clone_int64_int64.f l = some l := by
  unfold slices_Clone_int64_int64.f; simp; try omega
end Go.Proofs.Ytimdklhkhjpmbaa.Q
end
section
namespace Go.Proofs.Ytimdklhkhjpmbaa.Q
open Go.RowKit Go.Proofs.Ytimdklhkhjpmbaa.X Go.Proofs.Ytimdklhkhjpmbaa.Dt Go.Proofs.YtimdklhkhjpmbaaW.PrintWords Go.Proofs.YtimdklhkhjpmbaaW.PrintLast Go.Proofs.YtimdklhkhjpmbaaW.PrintMore
set_option linter.unusedVariables false
theorem wrow_succ (m : Nat) (R : Nat → Int) : wrow m R ++ [wrap64 (R m)] = wrow (m + 1) R := by unfold wrow; rw [List.range_succ]; simp
theorem wrow_zero (m : Nat) : List.replicate m (0 : Int) = wrow m (fun _ => 0) := by
  apply List.ext_getElem
  · simp [wrow]
  · intro i _ _; simp [wrow]; exact w0.symm
theorem w1 : wrap64 1 = 1 := by unfold wrap64; omega
def Sml (n : Nat) (M : Nat → Nat → Int) : Prop := ∀ a, a < n → (sm n fun b => ((ee b a).natAbs : Int) + ((M a b).natAbs : Int)) ≤ 21
theorem sm_more {f : Nat → Int} (h : ∀ i, 0 ≤ f i) (r d : Nat) : sm r f ≤ sm (r + d) f := by
  induction d with
  | zero => exact Int.le_refl _
  | succ d ih => show sm r f ≤ sm (r + d) f + f (r + d); have := h (r + d); omega
theorem coefs (n : Nat) (M : Nat → Nat → Int) (h : Sml n M) : ∃ C : Nat → Nat → Int, ∀ r, r ≤ n → ∃ N, Cp r M (C r) N ∧ (sm (r + 1) fun k => ((C r k).natAbs : Int)) ≤ 21 ^ r := by
  have ex : ∀ r, ∃ c : Nat → Int, r ≤ n → ∃ N, Cp r M c N ∧ (sm (r + 1) fun k => ((c k).natAbs : Int)) ≤ 21 ^ r := by
    intro r
    by_cases hr : r ≤ n
    · obtain ⟨c, N, h1, h2⟩ := cp_exists r M 21 (by omega) (fun a ha => by
        have h3 := h a (by omega)
        have h4 := sm_more (f := fun b => ((ee b a).natAbs : Int) + ((M a b).natAbs : Int)) (fun i => by omega) r (n - r)
        rw [show r + (n - r) = n by omega] at h4
        omega)
      exact ⟨c, fun _ => ⟨N, h1, h2⟩⟩
    · exact ⟨fun _ => 0, fun q => absurd q hr⟩
  exact ⟨fun r => Classical.choose (ex r), fun r hr => Classical.choose_spec (ex r) hr⟩
theorem small_coef {n : Nat} (hn : n ≤ 8) {c : Nat → Int} (h : (sm (n + 1) fun k => ((c k).natAbs : Int)) ≤ 21 ^ n) (k : Nat) (hk : k ≤ n) : (c k).natAbs ≤ 37822859361 := by
  have h2 : (21 : Int) ^ n ≤ 21 ^ 8 := by
    have : (21 : Nat) ^ n ≤ 21 ^ 8 := Nat.pow_le_pow_right (by omega) hn
    exact_mod_cast this
  have h3 := sm_le (n := n + 1) (f := fun i => if i = k then ((c k).natAbs : Int) else 0) (g := fun i => ((c i).natAbs : Int)) (fun i _ => by
    by_cases q : i = k
    · subst q; rw [if_pos rfl]; exact Int.le_refl _
    · rw [if_neg q]; omega)
  rw [sm_one (j := k) (by omega) (fun i _ hn => by rw [if_neg hn]), if_pos rfl] at h3
  have e : (21 : Int) ^ 8 = 37822859361 := by decide
  omega
section
variable (n : Nat) (M : Nat → Nat → Int)
theorem bk_l4 (hn : n ≤ 8) (r : Nat) (hr : r < n) (now tl : List Int) (s i : Nat) (hi : i < r) (col : Nat → Int) (x9 : Int) (nx : Nat → Int) (hnx : nx i = sm r fun j => M i j * col j) (Z : List Int)
    (hZ : Ev (fun k => spec_l01Berkowitz.l3 k (wmat n M) now (r : Int) tl (wrow r col) (s : Int) x9 (wrow (i + 1) nx) ((i + 1 : Nat) : Int)) Z) (d : Nat) : ∀ j : Nat, j + d = r →
    Ev (fun k => spec_l01Berkowitz.l4 k (wmat n M) now (r : Int) tl (wrow r col) (s : Int) x9 (wrow i nx) (i : Int) (wrap64 (sm j fun j => M i j * col j)) (j : Int)) Z := by
  induction d with
  | zero =>
    intro j hj; obtain rfl : j = r := by omega
    refine Ev.step (fun _ => rfl) (evF (by omega) (evT (by rw [wrow_length]; omega) ?_))
    rw [← hnx, wrow_succ, wnat (n := n) (by omega) (by omega)]; exact hZ
  | succ d ih =>
    intro j hj
    refine Ev.step (fun _ => rfl) (evT (by omega) (evT (by omega) (evT (by rw [wmat_length]; omega) (evT (by omega) (evT (by rw [wmat_at n M i (by omega), wrow_length]; omega) (evT (by rw [wrow_length]; omega) ?_))))))
    rw [wmat_at n M i (by omega), wrow_at n _ j (by omega), wrow_at r _ j (by omega), wr_mul, wr_add, wnat (n := n) (by omega) (by omega)]
    exact ih (j + 1) (by omega)
theorem bk_l3 (hn : n ≤ 8) (r : Nat) (hr : r < n) (now tl : List Int) (s : Nat) (hs : s < 8) (htl : tl.length ≤ 100) (col nx : Nat → Int) (hnx : ∀ i, i < r → nx i = sm r fun j => M i j * col j) (Z : List Int)
    (hZ : Ev (fun k => spec_l01Berkowitz.l2 k (wmat n M) now (r : Int) (tl ++ [wrap64 (- sm r fun i => M r i * col i)]) (wrow r nx) ((s + 1 : Nat) : Int)) Z) (d : Nat) : ∀ i : Nat, i + d = r →
    Ev (fun k => spec_l01Berkowitz.l3 k (wmat n M) now (r : Int) tl (wrow r col) (s : Int) (wrap64 (sm i fun i => M r i * col i)) (wrow i nx) (i : Int)) Z := by
  induction d with
  | zero =>
    intro i hi; obtain rfl : i = r := by omega
    refine Ev.step (fun _ => rfl) (evF (by omega) (evT (by omega) ?_))
    rw [wr_neg, wnat (i := s) (n := 8) (by omega) (by omega)]; exact hZ
  | succ d ih =>
    intro i hi
    refine Ev.step (fun _ => rfl) (evT (by omega) (evT (by omega) (evT (by rw [wmat_length]; omega) (evT (by omega) (evT (by rw [wmat_at n M r hr, wrow_length]; omega) (evT (by rw [wrow_length]; omega) ?_))))))
    rw [wmat_at n M r hr, wrow_at n _ i (by omega), wrow_at r _ i (by omega), wr_mul, wr_add]
    have h := bk_l4 n M hn r hr now tl s i (by omega) col (wrap64 (sm (i + 1) fun i => M r i * col i)) nx (hnx i (by omega)) Z (ih (i + 1) (by omega)) r 0 (by omega)
    rw [show sm 0 (fun j => M i j * col j) = 0 from rfl, w0] at h
    exact h
theorem bk_l2 (hn : n ≤ 8) (r : Nat) (hr : r < n) (now : List Int) (Z : List Int)
    (hZ : Ev (fun k => spec_l01Berkowitz.l5 k (wmat n M) now (r : Int) (wrow (r + 2) (turn r M)) (wrow (r + 2) (fun _ => 0)) 0) Z) (d : Nat) : ∀ s : Nat, s + d = r →
    Ev (fun k => spec_l01Berkowitz.l2 k (wmat n M) now (r : Int) (wrow (s + 2) (turn r M)) (wrow r (colI r M (fun a => M a r) s)) (s : Int)) Z := by
  induction d with
  | zero =>
    intro s hs; obtain rfl : s = r := by omega
    have hw : wrap64 ((s : Int) + 2) = ((s + 2 : Nat) : Int) := by rw [wid (by omega) (by omega)]; omega
    refine Ev.step (fun _ => rfl) (evF (by omega) ?_)
    rw [hw, Int.toNat_natCast, wrow_zero]
    exact evT (by omega) (evT (by omega) hZ)
  | succ d ih =>
    intro s hs
    have h := ih (s + 1) (by omega)
    refine Ev.step (fun _ => rfl) (evT (by omega) ?_)
    have h3 := bk_l3 n M hn r hr now (wrow (s + 2) (turn r M)) s (by omega) (by rw [wrow_length]; omega) (colI r M (fun a => M a r) s) (colI r M (fun a => M a r) (s + 1)) (fun i _ => rfl) Z (by
      have e : wrow (s + 2) (turn r M) ++ [wrap64 (- sm r fun i => M r i * colI r M (fun a => M a r) s i)] = wrow (s + 1 + 2) (turn r M) := wrow_succ (s + 2) (turn r M)
      rw [e]; exact h) r 0 (by omega)
    rw [show sm 0 (fun i => M r i * colI r M (fun a => M a r) s i) = 0 from rfl, w0] at h3
    exact h3
theorem bk_l1 (hn : n ≤ 8) (r : Nat) (hr : r < n) (now tl : List Int) (Z : List Int)
    (hZ : Ev (fun k => spec_l01Berkowitz.l2 k (wmat n M) now (r : Int) tl (wrow r (fun a => M a r)) 0) Z) (d : Nat) : ∀ i : Nat, i + d = r →
    Ev (fun k => spec_l01Berkowitz.l1 k (wmat n M) now (r : Int) tl (wrow i (fun a => M a r)) (i : Int)) Z := by
  induction d with
  | zero =>
    intro i hi; obtain rfl : i = r := by omega
    exact Ev.step (fun _ => rfl) (evF (by omega) hZ)
  | succ d ih =>
    intro i hi
    refine Ev.step (fun _ => rfl) (evT (by omega) (evT (by omega) (evT (by rw [wmat_length]; omega) (evT (by omega) (evT (by rw [wmat_at n M i (by omega), wrow_length]; omega) (evT (by rw [wrow_length]; omega) ?_))))))
    have e : wrow i (fun a => M a r) ++ [rd (rd_L1 (wmat n M) (i : Int)) (r : Int)] = wrow (i + 1) (fun a => M a r) := by
      rw [wmat_at n M i (by omega), wrow_at n _ r hr]; exact wrow_succ i (fun a => M a r)
    rw [e, wnat (n := n) (by omega) (by omega)]
    exact ih (i + 1) (by omega)
theorem bk_l6 (hn : n ≤ 8) (r : Nat) (hr : r < n) (c D : Nat → Int) (i : Nat) (hi : i < r + 2) (hD : D i = sm (r + 1) fun p => if p ≤ i then turn r M (i - p) * c p else 0) (Z : List Int)
    (hZ : Ev (fun k => spec_l01Berkowitz.l5 k (wmat n M) (wrow (r + 1) c) (r : Int) (wrow (r + 2) (turn r M)) (wrow (r + 2) (fun q => if q < i + 1 then D q else 0)) ((i + 1 : Nat) : Int)) Z) (d : Nat) : ∀ j : Nat, j + d = r + 1 →
    (sm j fun p => if p ≤ i then turn r M (i - p) * c p else 0) = (sm j fun p => if p ≤ i then turn r M (i - p) * c p else 0) →
    Ev (fun k => spec_l01Berkowitz.l6 k (wmat n M) (wrow (r + 1) c) (r : Int) (wrow (r + 2) (turn r M)) (wrow (r + 2) (fun q => if q < i then D q else if q = i then (sm j fun p => if p ≤ i then turn r M (i - p) * c p else 0) else 0)) (i : Int) (j : Int)) Z := by
  have fin : ∀ v, v = D i → wrow (r + 2) (fun q => if q < i then D q else if q = i then v else 0) = wrow (r + 2) (fun q => if q < i + 1 then D q else 0) := by
    intro v hv
    refine wrow_congr fun q _ => ?_
    by_cases q1 : q < i
    · rw [if_pos q1, if_pos (by omega)]
    · rw [if_neg q1]
      by_cases q2 : q = i
      · rw [if_pos q2, if_pos (by omega), hv, q2]
      · rw [if_neg q2, if_neg (by omega)]
  induction d with
  | zero =>
    intro j hj _; obtain rfl : j = r + 1 := by omega
    refine Ev.step (fun _ => rfl) (evF (by rw [wrow_length]; omega) ?_)
    rw [fin _ hD.symm, wnat (n := r + 2) (by omega) (by omega)]; exact hZ
  | succ d ih =>
    intro j hj _
    refine Ev.step (fun _ => rfl) (evT (by rw [wrow_length]; omega) ?_)
    by_cases c1 : j ≤ i
    · have h := ih (j + 1) (by omega) rfl
      have hij : wrap64 ((i : Int) - (j : Int)) = ((i - j : Nat) : Int) := by rw [wid (by omega) (by omega)]; omega
      refine evT (by omega) (evT (by omega) (evT (by rw [wrow_length]; omega) ?_))
      rw [hij]
      refine evT (by omega) (evT (by rw [wrow_length]; omega) (evT (by omega) ?_))
      rw [wrow_at (r + 2) _ i hi, wrow_at (r + 2) _ (i - j) (by omega), wrow_at (r + 1) _ j (by omega), wr_mul, wr_add, Int.toNat_natCast, wrow_set, wnat (n := r + 2) (by omega) (by omega)]
      have e : wrow (r + 2) (fun q => if q = i then (if i < i then D i else if i = i then (sm j fun p => if p ≤ i then turn r M (i - p) * c p else 0) else 0) + turn r M (i - j) * c j else if q < i then D q else if q = i then (sm j fun p => if p ≤ i then turn r M (i - p) * c p else 0) else 0) = wrow (r + 2) (fun q => if q < i then D q else if q = i then (sm (j + 1) fun p => if p ≤ i then turn r M (i - p) * c p else 0) else 0) := by
        refine wrow_congr fun q _ => ?_
        by_cases q2 : q = i
        · subst q2
          rw [if_pos rfl, if_neg (by omega), if_pos rfl, if_neg (by omega), if_pos rfl]
          show _ = wrap64 ((sm j fun p => if p ≤ q then turn r M (q - p) * c p else 0) + if j ≤ q then turn r M (q - j) * c j else 0)
          rw [if_pos c1]
        · rw [if_neg q2]
          by_cases q3 : q < i
          · rw [if_pos q3, if_pos q3]
          · rw [if_neg q3, if_neg q2, if_neg q3, if_neg q2]
      rw [e]; exact h
    · refine evF (by omega) ?_
      have tail : ∀ m, (sm (j + m) fun p => if p ≤ i then turn r M (i - p) * c p else 0) = sm j fun p => if p ≤ i then turn r M (i - p) * c p else 0 := by
        intro m
        induction m with
        | zero => rfl
        | succ m im =>
          show (sm (j + m) fun p => if p ≤ i then turn r M (i - p) * c p else 0) + (if j + m ≤ i then turn r M (i - (j + m)) * c (j + m) else 0) = _
          rw [im, if_neg (by omega), Int.add_zero]
      have := tail (d + 1)
      rw [hj] at this
      rw [fin _ (by rw [hD, this]), wnat (n := r + 2) (by omega) (by omega)]; exact hZ
theorem bk_l5 (hn : n ≤ 8) (r : Nat) (hr : r < n) (c D : Nat → Int) (hD : ∀ i, i < r + 2 → D i = sm (r + 1) fun p => if p ≤ i then turn r M (i - p) * c p else 0) (Z : List Int)
    (hZ : Ev (fun k => spec_l01Berkowitz.l0 k (wmat n M) (wrow (r + 2) D) ((r + 1 : Nat) : Int)) Z) (d : Nat) : ∀ i : Nat, i + d = r + 2 →
    Ev (fun k => spec_l01Berkowitz.l5 k (wmat n M) (wrow (r + 1) c) (r : Int) (wrow (r + 2) (turn r M)) (wrow (r + 2) (fun q => if q < i then D q else 0)) (i : Int)) Z := by
  induction d with
  | zero =>
    intro i hi; obtain rfl : i = r + 2 := by omega
    refine Ev.step (fun _ => rfl) (evF (by rw [wrow_length]; omega) ?_)
    rw [wnat (n := n) (by omega) (by omega), wrow_congr (R' := D) (fun q hq => by rw [if_pos hq])]; exact hZ
  | succ d ih =>
    intro i hi
    refine Ev.step (fun _ => rfl) (evT (by rw [wrow_length]; omega) ?_)
    have h := bk_l6 n M hn r hr c D i (by omega) (hD i (by omega)) Z (ih (i + 1) (by omega)) (r + 1) 0 (by omega) rfl
    have e : wrow (r + 2) (fun q => if q < i then D q else if q = i then (sm 0 fun p => if p ≤ i then turn r M (i - p) * c p else 0) else 0) = wrow (r + 2) (fun q => if q < i then D q else 0) := by
      refine wrow_congr fun q _ => ?_
      by_cases q1 : q < i
      · rw [if_pos q1, if_pos q1]
      · rw [if_neg q1, if_neg q1]
        by_cases q2 : q = i
        · rw [if_pos q2]; rfl
        · rw [if_neg q2]
    rw [e] at h; exact h
theorem bk_l0 (hn : n ≤ 8) (C : Nat → Nat → Int) (hC : ∀ r, r ≤ n → ∃ N, Cp r M (C r) N ∧ (sm (r + 1) fun k => ((C r k).natAbs : Int)) ≤ 21 ^ r) (Z : List Int) (hZ : Ev (fun k => spec_l01Trim.f k (wrow (n + 1) (C n))) Z) (d : Nat) : ∀ r : Nat, r + d = n →
    Ev (fun k => spec_l01Berkowitz.l0 k (wmat n M) (wrow (r + 1) (C r)) (r : Int)) Z := by
  induction d with
  | zero =>
    intro r hr; obtain rfl : r = n := by omega
    exact Ev.step (fun _ => rfl) (evF (by rw [wmat_length]; omega) (Ev.bind hZ (evN rfl)))
  | succ d ih =>
    intro r hr
    have h := ih (r + 1) (by omega)
    obtain ⟨N1, c1, _⟩ := hC r (by omega)
    obtain ⟨N2, c2, _⟩ := hC (r + 1) (by omega)
    refine Ev.step (fun _ => rfl) (evT (by rw [wmat_length]; omega) (evT (by omega) (evT (by rw [wmat_at n M r (by omega), wrow_length]; omega) ?_)))
    have e : ([1, wrap64 (-(rd (rd_L1 (wmat n M) (r : Int)) (r : Int)))] : List Int) = wrow 2 (turn r M) := by
      rw [wmat_at n M r (by omega), wrow_at n _ r (by omega), wr_neg]
      show _ = [wrap64 1, wrap64 (- M r r)]
      rw [w1]
    rw [e]
    have s5 := bk_l5 n M hn r (by omega) (C r) (C (r + 1)) (fun i hi => berkowitz c1 c2 i (by omega)) Z h (r + 2) 0 (by omega)
    have e0 : wrow (r + 2) (fun q => if q < 0 then C (r + 1) q else 0) = wrow (r + 2) (fun _ => 0) := wrow_congr fun q _ => by rw [if_neg (by omega)]
    rw [e0] at s5
    have s2 := bk_l2 n M hn r (by omega) (wrow (r + 1) (C r)) Z s5 r 0 (by omega)
    exact bk_l1 n M hn r (by omega) (wrow (r + 1) (C r)) (wrow 2 (turn r M)) Z s2 r 0 (by omega)
theorem fl_l1 (hn : n ≤ 8) (c : Nat → Int) (k : Nat) (hk : 1 ≤ k) (hkn : k ≤ n) (H : Nat → Nat → Int) (Z : List Int)
    (hZ : Ev (fun q => (impl_rowsTimes.f q (wmat n M) (wmat n (fun a b => H a b + c (k - 1) * ee b a))).bind fun t119 => ((impl_trace.f q t119).bind fun t122 => (if (k : Int) = 0 then (none) else (if (wrow k c).length < 17592186044416 then (impl_determinant.l0 q (wmat n M) (wrow k c ++ [wrap64 (Int.tdiv (wrap64 (-t122)) (k : Int))]) (wmat n (fun a b => H a b + c (k - 1) * ee b a)) (wrap64 ((k : Int) + 1))) else (none))))) Z) (d : Nat) : ∀ i : Nat, i + d = n →
    Ev (fun q => impl_determinant.l1 q (wmat n M) (wrow k c) (wmat n (fun a b => if a < i ∧ b = a then H a b + c (k - 1) else H a b)) (k : Int) (n : Int) (i : Int)) Z := by
  induction d with
  | zero =>
    intro i hi; obtain rfl : i = n := by omega
    have e : wmat i (fun a b => if a < i ∧ b = a then H a b + c (k - 1) else H a b) = wmat i (fun a b => H a b + c (k - 1) * ee b a) := by
      refine wmat_congr fun a b ha _ => ?_
      unfold ee
      by_cases q : b = a
      · rw [if_pos ⟨ha, q⟩, if_pos q.symm, Int.mul_one]
      · rw [if_neg (fun z => q z.2), if_neg (fun z => q z.symm), Int.mul_zero, Int.add_zero]
    rw [e]
    exact Ev.step (fun _ => rfl) (evF (by omega) hZ)
  | succ d ih =>
    intro i hi
    have hw : wrap64 ((k : Int) - 1) = ((k - 1 : Nat) : Int) := by rw [wid (by omega) (by omega)]; omega
    refine Ev.step (fun _ => rfl) (evT (by omega) (evT (by omega) (evT (by rw [wmat_length]; omega) (evT (by rw [wmat_at n _ i (by omega), wrow_length]; omega) ?_))))
    rw [hw]
    refine evT (by omega) (evT (by rw [wrow_length]; omega) ?_)
    have e1 : wrap64 (rd (rd_L1 (wmat n (fun a b => if a < i ∧ b = a then H a b + c (k - 1) else H a b)) (i : Int)) (i : Int) + rd (wrow k c) ((k - 1 : Nat) : Int)) = wrap64 (H i i + c (k - 1)) := by
      rw [wmat_at n _ i (by omega), wrow_at n _ i (by omega), wrow_at k _ (k - 1) (by omega), wr_add, if_neg (by omega)]
    rw [e1, Int.toNat_natCast, wmat_put n _ i i _ (by omega), wnat (n := n) (by omega) (by omega)]
    have e2 : wmat n (fun a b => if a = i ∧ b = i then H i i + c (k - 1) else if a < i ∧ b = a then H a b + c (k - 1) else H a b) = wmat n (fun a b => if a < i + 1 ∧ b = a then H a b + c (k - 1) else H a b) := by
      refine wmat_congr fun a b _ _ => ?_
      by_cases q : a = i ∧ b = i
      · rw [if_pos q, if_pos ⟨by omega, by rw [q.1, q.2]⟩, q.1, q.2]
      · rw [if_neg q]
        by_cases q2 : a < i ∧ b = a
        · rw [if_pos q2, if_pos ⟨by omega, q2.2⟩]
        · rw [if_neg q2, if_neg (fun z => by
            by_cases q3 : a = i
            · exact q ⟨q3, by rw [z.2, q3]⟩
            · exact q2 ⟨by omega, z.2⟩)]
    rw [e2]; exact ih (i + 1) (by omega)
theorem fl_l0 (hn : n ≤ 8) (c : Nat → Int) (N : Nat → Nat → Nat → Int) (hc : Cp n M c N) (hs : (sm (n + 1) fun k => ((c k).natAbs : Int)) ≤ 21 ^ n) (Z : List Int) (hZ : Ev (fun k => impl_trimmed.f k (wrow (n + 1) c)) Z) (d : Nat) : ∀ k : Nat, k + d = n + 1 → 1 ≤ k →
    Ev (fun q => impl_determinant.l0 q (wmat n M) (wrow k c) (wmat n (nw n M c (k - 1))) (k : Int)) Z := by
  induction d with
  | zero =>
    intro k hk _; obtain rfl : k = n + 1 := by omega
    exact Ev.step (fun _ => rfl) (evF (by rw [wmat_length]; omega) (Ev.bind hZ (evN rfl)))
  | succ d ih =>
    intro k hk h1
    have h := ih (k + 1) (by omega) (by omega)
    rw [Nat.add_sub_cancel] at h
    have hb := small_coef hn hs k (by omega)
    have hlv := leverrier hc k (by omega)
    refine Ev.step (fun _ => rfl) (evT (by rw [wmat_length]; omega) (Ev.bind (rowsTimes_ n (by omega) M (nw n M c (k - 1))) ?_))
    rw [wmat_length]
    have enw : (fun a b => mul n M (nw n M c (k - 1)) a b + c (k - 1) * ee b a) = nw n M c k := by
      obtain ⟨m, rfl⟩ : ∃ m, k = m + 1 := ⟨k - 1, by omega⟩
      funext a b; rw [Nat.add_sub_cancel]; rfl
    have l1 := fl_l1 n M hn c k h1 (by omega) (mul n M (nw n M c (k - 1))) Z ?_ n 0 (by omega)
    · have e : wmat n (fun a b => if a < 0 ∧ b = a then mul n M (nw n M c (k - 1)) a b + c (k - 1) else mul n M (nw n M c (k - 1)) a b) = wmat n (mul n M (nw n M c (k - 1))) := wmat_congr fun a b _ _ => by rw [if_neg (fun z => by omega)]
      rw [e] at l1; exact l1
    · rw [enw]
      refine Ev.bind (rowsTimes_ n (by omega) M (nw n M c k)) (Ev.bind (trace_ n (by omega) _) (evF (by omega) (evT (by rw [wrow_length]; omega) ?_)))
      have et : (sm n fun l => mul n M (nw n M c k) l l) = - ((k : Int) * c k) := hlv
      have ev1 : wrap64 (Int.tdiv (wrap64 (- wrap64 (sm n fun l => mul n M (nw n M c k) l l))) (k : Int)) = wrap64 (c k) := by
        have hk8 : (k : Int) ≤ 8 := by omega
        have b1 : (k : Int) * c k ≤ 8 * 37822859361 ∧ -(8 * 37822859361) ≤ (k : Int) * c k := by
          have : ((k : Int) * c k).natAbs ≤ 8 * 37822859361 := by
            rw [Int.natAbs_mul]
            exact Nat.mul_le_mul (by omega) hb
          omega
        rw [wr_neg, et, Int.neg_neg, wid (x := (k : Int) * c k) (by omega) (by omega), Int.mul_tdiv_cancel_left _ (by omega)]
      rw [ev1, wrow_succ, wnat (i := k) (n := n + 1) (by omega) (by omega)]
      exact h
end
end Go.Proofs.Ytimdklhkhjpmbaa.Q
end
section
namespace Go.Proofs.Ytimdklhkhjpmbaa.Q
open Go.RowKit Go.Proofs.Ytimdklhkhjpmbaa.X Go.Proofs.YtimdklhkhjpmbaaW.PrintWords Go.Proofs.YtimdklhkhjpmbaaW.PrintLast Go.Proofs.YtimdklhkhjpmbaaW.PrintMore
set_option linter.unusedVariables false
theorem tmod2 (m : Nat) : Int.tmod (m : Int) 2 = ((m % 2 : Nat) : Int) := (Int.ofNat_tmod m 2).symm
theorem tdiv2 (m : Nat) (hm : m ≤ 1048576) : wrap64 (Int.tdiv (m : Int) 2) = ((m / 2 : Nat) : Int) := by
  have : Int.tdiv (m : Int) 2 = ((m / 2 : Nat) : Int) := (Int.ofNat_tdiv m 2).symm
  rw [this]; exact wid (by omega) (by omega)
theorem ends0 (n : Int) (P : List (Nat × Nat)) (hP : P.length ≤ 1000) (i : Nat) (h : i < P.length) : spec_l01Ends.f n (edg P) ((2 * i : Nat) : Int) = some ((P[i].1 : Int), (P[i].2 : Int)) := by
  unfold spec_l01Ends.f
  rw [tdiv2 _ (by omega), tmod2, show 2 * i / 2 = i by omega, show 2 * i % 2 = 0 by omega, if_pos (by omega), if_pos (by rw [edg_length]; omega), if_neg (by omega), edg_at P i h, if_pos (by simp), if_pos (by simp)]
  rfl
theorem ends1 (n : Int) (P : List (Nat × Nat)) (hP : P.length ≤ 1000) (i : Nat) (h : i < P.length) : spec_l01Ends.f n (edg P) ((2 * i + 1 : Nat) : Int) = some ((P[i].2 : Int), (P[i].1 : Int)) := by
  unfold spec_l01Ends.f
  rw [tdiv2 _ (by omega), tmod2, show (2 * i + 1) / 2 = i by omega, show (2 * i + 1) % 2 = 1 by omega, if_pos (by omega), if_pos (by rw [edg_length]; omega), if_pos (by omega), edg_at P i h, if_pos (by simp), if_pos (by simp)]
  rfl
end Go.Proofs.Ytimdklhkhjpmbaa.Q
end
section
namespace Go.Proofs.Ytimdklhkhjpmbaa.Q
open Go.RowKit Go.Proofs.Ytimdklhkhjpmbaa.X Go.Proofs.YtimdklhkhjpmbaaW.PrintWords Go.Proofs.YtimdklhkhjpmbaaW.PrintLast Go.Proofs.YtimdklhkhjpmbaaW.PrintMore
set_option linter.unusedVariables false
set_option linter.unusedSimpArgs false
def row (N : Nat) (g : Nat → Nat) : List Int := (List.range N).map fun j => (g j : Int)
def mat (N : Nat) (f : Nat → Nat → Nat) : List (List Int) := (List.range N).map fun i => row N (f i)
theorem row_length (N : Nat) (g : Nat → Nat) : (row N g).length = N := by simp [row]
theorem mat_length (N : Nat) (f : Nat → Nat → Nat) : (mat N f).length = N := by simp [mat]
theorem row_at (N : Nat) (g : Nat → Nat) (j : Nat) (h : j < N) : rd (row N g) (j : Int) = (g j : Int) := by rw [rd_at _ _ (by rw [row_length]; exact h)]; simp [row]
theorem mat_at (N : Nat) (f : Nat → Nat → Nat) (i : Nat) (h : i < N) : rd_L1 (mat N f) (i : Int) = row N (f i) := by rw [rdL _ _ (by rw [mat_length]; exact h)]; simp [mat]
theorem row_set (N : Nat) (g : Nat → Nat) (b x : Nat) : (row N g).set b (x : Int) = row N (fun j => if j = b then x else g j) := by
  apply List.ext_getElem
  · simp [row]
  · intro j h1 h2
    simp only [row, List.getElem_set, List.getElem_map, List.getElem_range]
    split <;> (split <;> first | rfl | omega)
theorem mat_set (N : Nat) (f : Nat → Nat → Nat) (a : Nat) (g : Nat → Nat) : (mat N f).set a (row N g) = mat N (fun i => if i = a then g else f i) := by
  apply List.ext_getElem
  · simp [mat]
  · intro j h1 h2
    simp only [mat, List.getElem_set, List.getElem_map, List.getElem_range]
    split <;> (split <;> first | rfl | omega)
theorem mat_zero (N : Nat) : List.replicate N (List.replicate N (0 : Int)) = mat N (fun _ _ => 0) := by
  apply List.ext_getElem
  · simp [mat]
  · intro j h1 h2
    simp only [mat, row, List.getElem_replicate, List.getElem_map, List.getElem_range]
    apply List.ext_getElem
    · simp
    · intro i h3 h4; simp
def bmp (f : Nat → Nat → Nat) (a b : Nat) : Nat → Nat → Nat := fun i j => f i j + (if i = a ∧ j = b then 1 else 0)
def dbl (f : Nat → Nat → Nat) (p : Nat × Nat) : Nat → Nat → Nat := bmp (bmp f p.1 p.2) p.2 p.1
def adj (P : List (Nat × Nat)) : Nat → Nat → Nat := P.foldl dbl (fun _ _ => 0)
theorem bmp_mat (N : Nat) (f : Nat → Nat → Nat) (a b : Nat) (ha : a < N) (hb : b < N) (hf : f a b ≤ 1048576) :
    (mat N f).set ((a : Int)).toNat ((rd_L1 (mat N f) (a : Int)).set ((b : Int)).toNat (wrap64 (rd (rd_L1 (mat N f) (a : Int)) (b : Int) + 1))) = mat N (bmp f a b) := by
  rw [mat_at N f a ha, row_at N _ b hb, wid (by omega) (by omega), Int.toNat_natCast, Int.toNat_natCast, show ((f a b : Int) + 1) = ((f a b + 1 : Nat) : Int) by omega, row_set, mat_set]
  congr 1
  funext i
  split
  · rename_i h; subst h
    funext j; unfold bmp
    split
    · rename_i h; subst h; simp
    · rename_i h; simp [h]
  · rename_i h; funext j; unfold bmp; simp [h]
theorem bmp_le (f : Nat → Nat → Nat) (a b i j : Nat) : bmp f a b i j ≤ f i j + 1 := by unfold bmp; split <;> omega
theorem dbl_le (f : Nat → Nat → Nat) (p : Nat × Nat) (i j : Nat) : dbl f p i j ≤ f i j + 2 := by
  unfold dbl; have := bmp_le (bmp f p.1 p.2) p.2 p.1 i j; have := bmp_le f p.1 p.2 i j; omega
theorem adjImpl_l (N : Nat) (P : List (Nat × Nat)) (g : G8 N P) (d : Nat) : ∀ (i : Nat) (f : Nat → Nat → Nat), i + d = P.length → (∀ a b, f a b ≤ 2 * i) → Ev (fun k => impl_Graph_adjacency.l0 k (mat N f) (edg P) (P.length : Int) (i : Int)) (mat N ((P.drop i).foldl dbl f)) := by
  have h8 := g.hi; have h10 := g.len
  induction d with
  | zero =>
    intro i f hi hf
    refine Ev.step (fun _ => rfl) (evF (by omega) (evN ?_))
    rw [List.drop_of_length_le (by omega)]; rfl
  | succ d ih =>
    intro i f hi hf
    have hi2 : i < P.length := by omega
    rw [List.drop_eq_getElem_cons hi2]
    have hb2 := g.ends _ (List.getElem_mem hi2)
    generalize hp : P[i] = p at hb2 ⊢
    have hr : rd_L1 (edg P) (i : Int) = [(p.1 : Int), (p.2 : Int)] := by rw [edg_at P i hi2, hp]
    refine Ev.step (fun _ => rfl) (evT (by omega) (evT (by omega) (evT (by rw [edg_length]; omega) ?_)))
    rw [hr, show ∀ a b : Int, rd [a, b] 0 = a from fun _ _ => rfl, show ∀ a b : Int, rd [a, b] 1 = b from fun _ _ => rfl]
    refine evT (by simp) (evT (by omega) (evT (by rw [mat_length]; omega) (evT (by simp) (evT (by omega) (evT (by rw [mat_at _ _ _ hb2.1, row_length]; omega) ?_)))))
    rw [bmp_mat N f p.1 p.2 hb2.1 hb2.2 (by have := hf p.1 p.2; omega)]
    refine evB rfl (evT (by rw [mat_length]; omega) (evT (by rw [mat_at _ _ _ hb2.2, row_length]; omega) ?_))
    rw [bmp_mat N (bmp f p.1 p.2) p.2 p.1 hb2.2 hb2.1 (by have := hf p.2 p.1; have := bmp_le f p.1 p.2 p.2 p.1; omega), wnat (n := P.length) hi2 (by omega)]
    exact ih (i + 1) (dbl f p) (by omega) (fun a b => by have := dbl_le f p a b; have := hf a b; omega)
theorem sqImpl_l (N : Nat) (hN : N ≤ 8) (d : Nat) : ∀ i : Nat, i + d = N → Ev (fun k => impl_square.l0 k (N : Int) (List.replicate i (List.replicate N 0)) (N : Int) (i : Int)) (List.replicate N (List.replicate N 0)) := by
  induction d with
  | zero => intro i hi; obtain rfl : i = N := by omega
            exact Ev.step (fun _ => rfl) (evF (by omega) (evN rfl))
  | succ d ih =>
    intro i hi
    refine Ev.step (fun _ => rfl) (evT (by omega) (evT (by omega) (evT (by omega) (evT (by simp; omega) ?_))))
    rw [wnat (n := N) (by omega) (by omega), Int.toNat_natCast, ← List.replicate_succ']
    exact ih (i + 1) (by omega)
theorem adjImpl (N : Nat) (P : List (Nat × Nat)) (g : G8 N P) : Ev (fun k => impl_Graph_adjacency.f k (N : Int) (edg P)) (mat N (adj P)) := by
  have h8 := g.hi
  unfold impl_Graph_adjacency.f impl_square.f
  refine Ev.bind (sqImpl_l N h8 N 0 (by omega)) ?_
  rw [mat_zero, edg_length]
  exact adjImpl_l N P g P.length 0 _ (by omega) (fun _ _ => by omega)
theorem adjSpec_l (N : Nat) (P : List (Nat × Nat)) (g : G8 N P) (d : Nat) : ∀ (i : Nat) (f : Nat → Nat → Nat), i + d = P.length → (∀ a b, f a b ≤ 2 * i) → Ev (fun k => spec_l01Adjacency.l1 k (mat N f) ((2 * i : Nat) : Int) (N : Int) (edg P)) (mat N ((P.drop i).foldl dbl f)) := by
  have h8 := g.hi; have h10 := g.len
  have hw : wrap64 (2 * ((edg P).length : Int)) = ((2 * P.length : Nat) : Int) := by rw [edg_length, wid (by omega) (by omega)]; omega
  induction d with
  | zero =>
    intro i f hi hf
    refine Ev.step (fun _ => rfl) (evF (by rw [hw]; omega) (evN ?_))
    rw [List.drop_of_length_le (by omega)]; rfl
  | succ d ih =>
    intro i f hi hf
    have hi2 : i < P.length := by omega
    rw [List.drop_eq_getElem_cons hi2]
    have hb2 := g.ends _ (List.getElem_mem hi2)
    have e0 := ends0 (N : Int) P (by omega) i hi2
    have e1 := ends1 (N : Int) P (by omega) i hi2
    generalize hp : P[i] = p at hb2 e0 e1 ⊢
    refine Ev.step (fun _ => rfl) (evT (by rw [hw]; omega) (evB e0 ?_))
    refine evT (by show (0 : Int) ≤ (p.1 : Int); omega) (evT (by show (p.1 : Int) < _; rw [mat_length]; omega) (evT (by show (0 : Int) ≤ (p.2 : Int); omega) (evT (by show (p.2 : Int) < _; rw [mat_at _ _ _ hb2.1, row_length]; omega) ?_)))
    rw [bmp_mat N f p.1 p.2 hb2.1 hb2.2 (by have := hf p.1 p.2; omega), wnat (n := 2 * P.length) (by omega) (by omega)]
    refine Ev.step (fun _ => rfl) (evT (by rw [hw]; omega) (evB e1 ?_))
    refine evT (by show (0 : Int) ≤ (p.2 : Int); omega) (evT (by show (p.2 : Int) < _; rw [mat_length]; omega) (evT (by show (0 : Int) ≤ (p.1 : Int); omega) (evT (by show (p.1 : Int) < _; rw [mat_at _ _ _ hb2.2, row_length]; omega) ?_)))
    rw [bmp_mat N (bmp f p.1 p.2) p.2 p.1 hb2.2 hb2.1 (by have := hf p.2 p.1; have := bmp_le f p.1 p.2 p.2 p.1; omega), wnat (n := 2 * P.length) (by omega) (by omega)]
    exact ih (i + 1) (dbl f p) (by omega) (fun a b => by have := dbl_le f p a b; have := hf a b; omega)
theorem sqSpec_l (N : Nat) (hN : N ≤ 8) (E : List (List Int)) (R : List (List Int)) (hR : Ev (fun k => spec_l01Adjacency.l1 k (List.replicate N (List.replicate N 0)) 0 (N : Int) E) R) (d : Nat) : ∀ i : Nat, i + d = N → Ev (fun k => spec_l01Adjacency.l0 k (List.replicate i (List.replicate N 0)) (i : Int) (N : Int) E) R := by
  induction d with
  | zero => intro i hi; obtain rfl : i = N := by omega
            exact Ev.step (fun _ => rfl) (evF (by omega) hR)
  | succ d ih =>
    intro i hi
    refine Ev.step (fun _ => rfl) (evT (by omega) (evT (by omega) (evT (by omega) (evT (by simp; omega) ?_))))
    rw [wnat (n := N) (by omega) (by omega), Int.toNat_natCast, ← List.replicate_succ']
    exact ih (i + 1) (by omega)
theorem adjSpec (N : Nat) (P : List (Nat × Nat)) (g : G8 N P) : Ev (fun k => spec_l01Adjacency.f k (N : Int) (edg P)) (mat N (adj P)) := by
  have h8 := g.hi
  unfold spec_l01Adjacency.f
  refine sqSpec_l N h8 _ _ ?_ N 0 (by omega)
  rw [mat_zero]
  exact adjSpec_l N P g P.length 0 _ (by omega) (fun _ _ => by omega)
end Go.Proofs.Ytimdklhkhjpmbaa.Q
end
section
namespace Go.Proofs.Ytimdklhkhjpmbaa.X
open Go.RowKit Go.Proofs.YtimdklhkhjpmbaaW.PrintWords Go.Proofs.YtimdklhkhjpmbaaW.PrintLast Go.Proofs.YtimdklhkhjpmbaaW.PrintMore
attribute [local go_sem] max2_int min2_int max_two min_two max_three min_three max_four min_four
set_option linter.unusedVariables false
set_option linter.unusedSimpArgs false
def put (x : List (List Int)) (i j : Int) (v : Int) : List (List Int) := x.set i.toNat ((rd_L1 x i).set j.toNat v)
section
variable {T e base g n cap : Nat} {W : World} {ok : Nat → Prop} {xs : List (List Int)} {i : Int} {va : Value}
end
def lapStep (x : List (List Int)) (a b : Int) : Option (List (List Int)) :=
  if 0 ≤ a ∧ a < (x.length : Int) ∧ 0 ≤ b ∧ b < (x.length : Int) ∧ a < ((rd_L1 x a).length : Int) ∧ b < ((rd_L1 x a).length : Int) ∧ b < ((rd_L1 x b).length : Int) ∧ a < ((rd_L1 x b).length : Int) then
    some (let x1 := put x a a (wrap64 (rd (rd_L1 x a) a + 1)); let x2 := put x1 a b (wrap64 (rd (rd_L1 x1 a) b - 1)); let x3 := put x2 b b (wrap64 (rd (rd_L1 x2 b) b + 1)); put x3 b a (wrap64 (rd (rd_L1 x3 b) a - 1)))
  else none
end Go.Proofs.Ytimdklhkhjpmbaa.X
end
section
namespace Go.Proofs.Ytimdklhkhjpmbaa.X
open Go.RowKit Go.Proofs.YtimdklhkhjpmbaaW.PrintWords Go.Proofs.YtimdklhkhjpmbaaW.PrintLast Go.Proofs.YtimdklhkhjpmbaaW.PrintMore
attribute [local go_sem] max2_int min2_int max_two min_two max_three min_three max_four min_four
set_option linter.unusedVariables false
set_option linter.unusedSimpArgs false
end Go.Proofs.Ytimdklhkhjpmbaa.X
end
section
namespace Go.Proofs.Ytimdklhkhjpmbaa.Q
open Go.RowKit Go.Proofs.Ytimdklhkhjpmbaa.X Go.Proofs.Ytimdklhkhjpmbaa.Dt Go.Proofs.YtimdklhkhjpmbaaW.PrintWords Go.Proofs.YtimdklhkhjpmbaaW.PrintLast Go.Proofs.YtimdklhkhjpmbaaW.PrintMore
set_option linter.unusedVariables false
def ad1 (H : Nat → Nat → Int) (i j : Nat) (v : Int) : Nat → Nat → Int := fun x y => if x = i ∧ y = j then H i j + v else H x y
def lap1 (H : Nat → Nat → Int) (p : Nat × Nat) : Nat → Nat → Int := if p.1 = p.2 then H else ad1 (ad1 (ad1 (ad1 H p.1 p.1 1) p.1 p.2 (-1)) p.2 p.2 1) p.2 p.1 (-1)
def lapM (P : List (Nat × Nat)) : Nat → Nat → Int := P.foldl lap1 (fun _ _ => 0)
end Go.Proofs.Ytimdklhkhjpmbaa.Q
end
section
namespace Go.Proofs.Ytimdklhkhjpmbaa.Q
open Go.RowKit Go.Proofs.Ytimdklhkhjpmbaa.X Go.Proofs.Ytimdklhkhjpmbaa.Dt Go.Proofs.YtimdklhkhjpmbaaW.PrintWords Go.Proofs.YtimdklhkhjpmbaaW.PrintLast Go.Proofs.YtimdklhkhjpmbaaW.PrintMore
set_option linter.unusedVariables false
theorem sm_ee (n a : Nat) : (sm n fun b => ((ee b a).natAbs : Int)) ≤ 1 := by
  by_cases h : a < n
  · rw [sm_one h (fun i _ hn => by unfold ee; rw [if_neg (fun q => hn q.symm)]; rfl)]; unfold ee; simp
  · rw [sm_zero' (fun i hi => by unfold ee; rw [if_neg (fun q => h (by omega))]; rfl)]; omega
theorem sm_bump (n : Nat) (f g : Nat → Int) (j : Nat) (v : Int) (hv : 0 ≤ v) (h : ∀ b, g b ≤ f b + if b = j then v else 0) : sm n g ≤ sm n f + v := by
  have h1 := sm_le (n := n) (f := g) (g := fun b => f b + if b = j then v else 0) (fun b _ => h b)
  rw [sm_add] at h1
  have h2 : (sm n fun b => if b = j then v else 0) ≤ v := by
    by_cases q : j < n
    · rw [sm_one q (fun i _ hn => by rw [if_neg hn]), if_pos rfl]; exact Int.le_refl _
    · rw [sm_zero' (fun i hi => by rw [if_neg (fun z => q (by omega))])]; exact hv
  omega
theorem adj_row (n : Nat) (Q : List (Nat × Nat)) : ∀ (f : Nat → Nat → Nat) (B : Int), (∀ a, (sm n fun b => ((f a b : Nat) : Int)) ≤ B) → ∀ a, (sm n fun b => ((Q.foldl dbl f a b : Nat) : Int)) ≤ B + 2 * (Q.length : Int) := by
  induction Q with
  | nil => intro f B h a; have := h a; show (sm n fun b => ((f a b : Nat) : Int)) ≤ B + 2 * ((0 : Nat) : Int); omega
  | cons p Q ih =>
    intro f B h a
    have step : ∀ a, (sm n fun b => ((dbl f p a b : Nat) : Int)) ≤ B + 2 := by
      intro a
      have h1 := sm_bump n (fun b => ((f a b : Nat) : Int)) (fun b => ((bmp f p.1 p.2 a b : Nat) : Int)) p.2 1 (by omega) (fun b => by
        unfold bmp
        by_cases q : b = p.2
        · rw [if_pos q]; split <;> omega
        · rw [if_neg q, if_neg (fun z => q z.2)]; omega)
      have h2 := sm_bump n (fun b => ((bmp f p.1 p.2 a b : Nat) : Int)) (fun b => ((dbl f p a b : Nat) : Int)) p.1 1 (by omega) (fun b => by
        unfold dbl
        show ((bmp (bmp f p.1 p.2) p.2 p.1 a b : Nat) : Int) ≤ _
        generalize hg : bmp f p.1 p.2 = f2
        unfold bmp
        by_cases q : b = p.1
        · rw [if_pos q]; split <;> omega
        · rw [if_neg q, if_neg (fun z => q z.2)]; omega)
      have := h a
      omega
    have := ih (dbl f p) (B + 2) step a
    show (sm n fun b => ((Q.foldl dbl (dbl f p) a b : Nat) : Int)) ≤ B + 2 * (((Q.length + 1 : Nat)) : Int)
    omega
theorem adj_sml (n : Nat) (P : List (Nat × Nat)) (hP : P.length ≤ 10) : Sml n (fun i j => (Q.adj P i j : Int)) := by
  intro a _
  rw [sm_add]
  have h1 := sm_ee n a
  have h2 := adj_row n P (fun _ _ => 0) 0 (fun a => Int.le_of_eq (sm_zero n)) a
  have e : (sm n fun b => (((Q.adj P a b : Int)).natAbs : Int)) = sm n fun b => ((P.foldl dbl (fun _ _ => 0) a b : Nat) : Int) := sm_congr fun b _ => by show (((Q.adj P a b : Int)).natAbs : Int) = ((Q.adj P a b : Nat) : Int); omega
  rw [e]; omega
theorem mat_w (N : Nat) (f : Nat → Nat → Nat) (h : ∀ i j, f i j ≤ 1000000) : mat N f = wmat N (fun i j => (f i j : Int)) := by
  unfold mat wmat row wrow
  refine List.map_congr_left fun i _ => List.map_congr_left fun j _ => ?_
  have := h i j
  exact (wid (x := (f i j : Int)) (by omega) (by omega)).symm
theorem adj_small (P : List (Nat × Nat)) (hP : P.length ≤ 10) (i j : Nat) : Q.adj P i j ≤ 20 := by
  have gen : ∀ (Q : List (Nat × Nat)) (f : Nat → Nat → Nat) (b : Nat), (∀ i j, f i j ≤ b) → ∀ i j, Q.foldl dbl f i j ≤ b + 2 * Q.length := by
    intro Q
    induction Q with
    | nil => intro f b h i j; exact h i j
    | cons q Q ih =>
      intro f b h i j
      have := ih (dbl f q) (b + 2) (fun i j => by have := dbl_le f q i j; have := h i j; omega) i j
      show Q.foldl dbl (dbl f q) i j ≤ b + 2 * (Q.length + 1)
      omega
  have := gen P (fun _ _ => 0) 0 (fun _ _ => by omega) i j
  show P.foldl dbl (fun _ _ => 0) i j ≤ 20
  omega
theorem adj_w (N : Nat) (P : List (Nat × Nat)) (hP : P.length ≤ 10) : mat N (Q.adj P) = wmat N (fun i j => (Q.adj P i j : Int)) := mat_w N _ (fun i j => by have := adj_small P hP i j; omega)
end Go.Proofs.Ytimdklhkhjpmbaa.Q
end
section
namespace Go.Proofs.Ytimdklhkhjpmbaa.Q
open Go.RowKit Go.Proofs.Ytimdklhkhjpmbaa.X Go.Proofs.Ytimdklhkhjpmbaa.Dt Go.Proofs.YtimdklhkhjpmbaaW.PrintWords Go.Proofs.YtimdklhkhjpmbaaW.PrintLast Go.Proofs.YtimdklhkhjpmbaaW.PrintMore
set_option linter.unusedVariables false
end Go.Proofs.Ytimdklhkhjpmbaa.Q
end
section
namespace Go.Proofs.Ytimdklhkhjpmbaa.X
open Go.RowKit Go.Proofs.YtimdklhkhjpmbaaW.PrintWords Go.Proofs.YtimdklhkhjpmbaaW.PrintLast Go.Proofs.YtimdklhkhjpmbaaW.PrintMore
attribute [local go_sem] max2_int min2_int max_two min_two max_three min_three max_four min_four
set_option linter.unusedVariables false
set_option linter.unusedSimpArgs false
end Go.Proofs.Ytimdklhkhjpmbaa.X
end
section
namespace Go.Proofs.Ytimdklhkhjpmbaa.X
open Go.RowKit Go.Proofs.YtimdklhkhjpmbaaW.PrintWords Go.Proofs.YtimdklhkhjpmbaaW.PrintLast Go.Proofs.YtimdklhkhjpmbaaW.PrintMore
attribute [local go_sem] max2_int min2_int max_two min_two max_three min_three max_four min_four
set_option linter.unusedVariables false
set_option linter.unusedSimpArgs false
end Go.Proofs.Ytimdklhkhjpmbaa.X
end
section
namespace Go.Proofs.Ytimdklhkhjpmbaa.Q
open Go.RowKit Go.Proofs.Ytimdklhkhjpmbaa.X Go.Proofs.Ytimdklhkhjpmbaa.Dt Go.Proofs.YtimdklhkhjpmbaaW.PrintWords Go.Proofs.YtimdklhkhjpmbaaW.PrintLast Go.Proofs.YtimdklhkhjpmbaaW.PrintMore
set_option linter.unusedVariables false
theorem wr_mulr (x y : Int) : wrap64 (x * wrap64 y) = wrap64 (x * y) := by
  obtain ⟨q, h⟩ := wr_form y
  rw [h, Int.mul_add, show x * (18446744073709551616 * q) = 18446744073709551616 * (x * q) by ac_rfl, wr_far]
theorem wr_mull (x y : Int) : wrap64 (wrap64 x * y) = wrap64 (x * y) := by rw [Int.mul_comm, wr_mulr, Int.mul_comm]
theorem wrow_mem {m : Nat} {R : Nat → Int} {x : Int} (h : x ∈ wrow m R) : wrap64 x = x := by
  unfold wrow at h
  obtain ⟨j, _, rfl⟩ := List.mem_map.1 h
  exact wr_wr _
theorem trim_head (l : List Int) (hl : l.length ≤ 1048576) (h0 : 0 < l.length) (h1 : l[0] = 1) (i : Nat) (hi : i ≤ l.length) (hp : 0 < i) : ∃ r : List Int, r.length ≤ i ∧ 0 < r.length ∧ rd r 0 = 1 ∧ (∀ x ∈ r, x ∈ l) ∧ Ev (fun k => spec_l01Trim.l0 k l (i : Int)) r ∧ Ev (fun k => impl_trimmed.l0 k (l.take i)) r := by
  have hd : ∀ i : Nat, i ≤ l.length → ((l.take i).length : Int) = i := fun i hi => by rw [List.length_take]; omega
  induction i with
  | zero => omega
  | succ i ih =>
    have hw : wrap64 (((i + 1 : Nat) : Int) - 1) = (i : Int) := by rw [wid (by omega) (by omega)]; omega
    have hr : rd (l.take (i + 1)) (i : Int) = l[i] := by rw [rd_at _ _ (by simp; omega)]; simp
    by_cases h : l[i] = 0
    · have hi0 : 0 < i := by
        by_cases q : i = 0
        · subst q; rw [h1] at h; omega
        · omega
      obtain ⟨r, a0, a1, a2, a5, a3, a4⟩ := ih (by omega) hi0
      refine ⟨r, by omega, a1, a2, a5, Ev.step (fun _ => rfl) (evT (by omega) ?_), Ev.step (fun _ => rfl) (evT (by rw [hd _ hi]; omega) ?_)⟩
      · rw [hw]; exact evT (by omega) (evT (by omega) (evT (by rw [rd_at _ _ (by omega)]; exact h) a3))
      · rw [hd (i + 1) hi, hw]
        refine evT (by omega) (evT (by omega) (evT (by rw [hr]; exact h) (evT (by omega) ?_)))
        rw [Int.toNat_natCast, List.take_take, Nat.min_eq_left (by omega)]; exact a4
    · refine ⟨l.take (i + 1), by simp; omega, by simp; omega, ?_, fun x hx => List.mem_of_mem_take hx, Ev.step (fun _ => rfl) (evT (by omega) ?_), Ev.step (fun _ => rfl) (evT (by rw [hd _ hi]; omega) ?_)⟩
      · have := rd_at (l.take (i + 1)) 0 (by simp; omega)
        rw [show ((0 : Nat) : Int) = 0 from rfl] at this
        rw [this]; simpa using h1
      · rw [hw, Int.toNat_natCast, own_ _ (by simp; omega)]; exact evT (by omega) (evT (by omega) (evF (by rw [rd_at _ _ (by omega)]; exact h) (evT (by omega) (evT (by omega) (evN rfl)))))
      · rw [hd (i + 1) hi, hw, clone_ _ (by simp; omega)]
        exact evT (by omega) (evT (by omega) (evF (by rw [hr]; exact h) (evN rfl)))
theorem det_one (n : Nat) (M : Nat → Nat → Int) (hn : n ≤ 8) (hM : Sml n M) : ∃ r : List Int, r.length ≤ n + 1 ∧ 0 < r.length ∧ rd r 0 = 1 ∧ (∀ x ∈ r, wrap64 x = x) ∧ Ev (fun k => spec_l01Berkowitz.f k (wmat n M)) r ∧ Ev (fun k => impl_determinant.f k (wmat n M)) r := by
  obtain ⟨C, hC⟩ := coefs n M hM
  obtain ⟨N0, c0, _⟩ := hC 0 (by omega)
  obtain ⟨N, cn, hs⟩ := hC n (Nat.le_refl _)
  have o0 := c0.one
  have on := cn.one
  have hl := wrow_length (n + 1) (C n)
  obtain ⟨r, hr, hp, h1, hm, t1, t2⟩ := trim_head (wrow (n + 1) (C n)) (by rw [hl]; omega) (by rw [hl]; omega) (by simp [wrow]; rw [on, w1]) (wrow (n + 1) (C n)).length (Nat.le_refl _) (by rw [hl]; omega)
  rw [List.take_of_length_le (Nat.le_refl _)] at t2
  rw [hl] at hr
  have e0 : ([1] : List Int) = wrow (0 + 1) (C 0) := by show [1] = [wrap64 (C 0 0)]; rw [o0, w1]
  have e1 : ([1] : List Int) = wrow 1 (C n) := by show [1] = [wrap64 (C n 0)]; rw [on, w1]
  refine ⟨r, hr, hp, h1, fun x hx => wrow_mem (hm x hx), ?_, ?_⟩
  · unfold spec_l01Berkowitz.f
    rw [e0]
    exact bk_l0 n M hn C hC r t1 n 0 (by omega)
  · unfold impl_determinant.f
    rw [wmat_length, e1]
    refine Ev.bind (square_ n (by omega)) ?_
    exact fl_l0 n M hn (C n) N cn hs r t2 n 1 (by omega) (Nat.le_refl _)
def tl (f : List Int) : Nat → List Int
  | 0 => []
  | d + 1 => (if (d : Int) < (f.length : Int) then rd f (d : Int) else 0) :: tl f d
theorem tl_length (f : List Int) (d : Nat) : (tl f d).length = d := by
  induction d with
  | zero => rfl
  | succ d ih => simp [tl, ih]
theorem rd_more (a : Int) (l : List Int) (d : Nat) (h : d < l.length) : rd (a :: l) ((d + 1 : Nat) : Int) = rd l (d : Int) := by
  rw [rd_at _ _ (by simp; omega), rd_at _ _ h]; rfl
theorem tl_last (f : List Int) (d : Nat) (hf : 0 < f.length) : rd (tl f (d + 1)) (d : Int) = rd f 0 := by
  induction d with
  | zero =>
    rw [show tl f (0 + 1) = [rd f 0] by rw [tl, if_pos (by omega)]; rfl]; rfl
  | succ d ih =>
    rw [← ih]; exact rd_more _ (tl f (d + 1)) d (by rw [tl_length]; omega)
theorem rd_mem (l : List Int) (d : Nat) (h : d < l.length) : rd l (d : Int) ∈ l := by rw [rd_at _ _ h]; exact List.getElem_mem h
theorem tl_mem (f : List Int) (hf : ∀ x ∈ f, wrap64 x = x) (d : Nat) : ∀ x ∈ tl f d, wrap64 x = x := by
  induction d with
  | zero => intro x hx; simp [tl] at hx
  | succ d ih =>
    intro x hx
    rw [tl] at hx
    rcases List.mem_cons.1 hx with h | h
    · rw [h]
      by_cases c : (d : Int) < (f.length : Int)
      · rw [if_pos c]; exact hf _ (rd_mem f d (by omega))
      · rw [if_neg c]; exact w0
    · exact ih x h
theorem row_self (l : List Int) (h : ∀ x ∈ l, wrap64 x = x) : l = wrow l.length fun j => rd l (j : Int) := by
  apply List.ext_getElem
  · rw [wrow_length]
  · intro i h1 h2
    simp only [wrow, List.getElem_map, List.getElem_range]
    rw [rd_at _ _ h1, h _ (List.getElem_mem h1)]
theorem turn_t (f : List Int) (hf : f.length ≤ 100) (d : Nat) : ∀ (x : List Int), x.length + d ≤ 100 → Ev (fun k => spec_l07Of.l0 k f x ((d : Int) - 1)) (x ++ tl f d) ∧ Ev (fun k => impl_characteristic.l0 k x f ((d : Int) - 1)) (x ++ tl f d) := by
  induction d with
  | zero => intro x _; rw [show tl f 0 = [] from rfl, List.append_nil]; exact ⟨Ev.step (fun _ => rfl) (evF (by omega) (evN rfl)), Ev.step (fun _ => rfl) (evF (by omega) (evN rfl))⟩
  | succ d ih =>
    intro x hx
    have e : ((d + 1 : Nat) : Int) - 1 = (d : Int) := by omega
    rw [e]
    by_cases c : (d : Int) < (f.length : Int)
    · obtain ⟨a, b⟩ := ih (x ++ [rd f (d : Int)]) (by simp; omega)
      rw [← wid (x := (d : Int) - 1) (by omega) (by omega)] at a b
      have e2 : x ++ tl f (d + 1) = x ++ [rd f (d : Int)] ++ tl f d := by rw [tl, if_pos c]; simp
      rw [e2]
      refine ⟨Ev.step (fun _ => rfl) (evT (by omega) (evT c (evT (by omega) (evT (by omega) a)))), Ev.step (fun _ => rfl) (evT (by omega) (evB (a := rd f (d : Int)) ?_ (evT (by omega) b)))⟩
      unfold impl_at.f; rw [if_pos c, if_pos (by omega)]
    · obtain ⟨a, b⟩ := ih (x ++ [0]) (by simp; omega)
      rw [← wid (x := (d : Int) - 1) (by omega) (by omega)] at a b
      have e2 : x ++ tl f (d + 1) = x ++ [0] ++ tl f d := by rw [tl, if_neg c]; simp
      rw [e2]
      refine ⟨Ev.step (fun _ => rfl) (evT (by omega) (evF c (evT (by omega) a))), Ev.step (fun _ => rfl) (evT (by omega) (evB (a := 0) ?_ (evT (by omega) b)))⟩
      unfold impl_at.f; rw [if_neg c]
theorem char_one (n : Nat) (M : Nat → Nat → Int) (hn : n ≤ 8) (hM : Sml n M) : ∃ r : List Int, r.length = n + 1 ∧ rd r (n : Int) = 1 ∧ (∀ x ∈ r, wrap64 x = x) ∧ Ev (fun k => spec_l07Of.f k (wmat n M)) r ∧ Ev (fun k => impl_characteristic.f k (wmat n M)) r := by
  obtain ⟨f, hf, hp, h1, hw, s, i⟩ := det_one n M hn hM
  obtain ⟨a, b⟩ := turn_t f (by omega) (n + 1) [] (by simp; omega)
  have e : ((n + 1 : Nat) : Int) - 1 = (n : Int) := by omega
  rw [e, List.nil_append] at a b
  refine ⟨tl f (n + 1), tl_length _ _, by rw [tl_last f n hp, h1], tl_mem f hw _, ?_, ?_⟩
  · unfold spec_l07Of.f; rw [wmat_length]; exact Ev.bind s a
  · unfold impl_characteristic.f; rw [wmat_length]; exact Ev.bind i b
def sg (m j : Nat) : Int := if (m - 1 + j) % 2 = 0 then 1 else -1
def TT (f : List Int) (m : Nat) (S : Nat → Int) (i q : Nat) : Int := sm i fun p => if p ≤ q ∧ q < p + m then rd f (p : Int) * S (q - p) else 0
section
variable (f : List Int) (m : Nat) (hf : f.length = m) (h1 : 1 ≤ m) (hm : m ≤ 20) (S : Nat → Int)
include hf h1 hm
omit hf h1 hm in
theorem trim_whole (l : List Int) (hl : l.length ≤ 1048576) (h0 : 0 < l.length) (h : rd l ((l.length - 1 : Nat) : Int) ≠ 0) : Ev (fun k => spec_l01Trim.f k l) l := by
  unfold spec_l01Trim.f
  have hw : wrap64 ((l.length : Int) - 1) = ((l.length - 1 : Nat) : Int) := by rw [wid (by omega) (by omega)]; omega
  refine Ev.step (fun _ => rfl) (evT (by omega) ?_)
  rw [hw]
  refine evT (by omega) (evT (by omega) (evF h (evT (by omega) (evT (by omega) (evN ?_)))))
  rw [Int.toNat_natCast, List.take_of_length_le (Nat.le_refl _), own_ _ hl]; rfl
end
end Go.Proofs.Ytimdklhkhjpmbaa.Q
end
section
namespace Go.Proofs.Ytimdklhkhjpmbaa.Q
open Go.RowKit Go.Proofs.Ytimdklhkhjpmbaa.X Go.Proofs.Ytimdklhkhjpmbaa.Dt Go.Proofs.YtimdklhkhjpmbaaW.PrintWords Go.Proofs.YtimdklhkhjpmbaaW.PrintLast Go.Proofs.YtimdklhkhjpmbaaW.PrintMore
set_option linter.unusedVariables false
set_option linter.unusedSectionVars false
theorem hor_last (F : Nat → Int) (c : Int) (m : Nat) (h : F (m - 1) = 1) (d : Nat) : hor F c m (d + 1) d = 1 := by
  induction d with
  | zero =>
    show (if 0 = 0 then 0 else _) + c * 0 + (if 0 = 0 then F (m - (0 + 1)) else 0) = 1
    rw [if_pos rfl, if_pos rfl, Int.mul_zero, Nat.zero_add, h]; rfl
  | succ d ih =>
    show (if d + 1 = 0 then 0 else hor F c m (d + 1) (d + 1 - 1)) + c * hor F c m (d + 1) (d + 1) + (if d + 1 = 0 then F (m - (d + 1 + 1)) else 0) = 1
    rw [if_neg (by omega), if_neg (by omega), Nat.add_sub_cancel, ih, hor_zero F c m (d + 1) (d + 1) (Nat.le_refl _), Int.mul_zero]; rfl
def lin (O : Nat → Int) (c : Int) (i q : Nat) : Int := (if q = 0 ∨ i < q then 0 else O (q - 1)) + (if q < i then c * O q else 0)
theorem lin_l0 (d : Nat) (hd : 1 ≤ d) (hd2 : d ≤ 20) (O : Nat → Int) (c : Int) (Z : List Int) (hZ : Ev (fun k => spec_l01Trim.f k (wrow (d + 1) (lin O c d))) Z) (e : Nat) : ∀ i : Nat, i + e = d →
    Ev (fun k => spec_l01Times.l0 k (wrow d O) [c, 1] (wrow (d + 1) (lin O c i)) (i : Int)) Z := by
  induction e with
  | zero =>
    intro i hi; obtain rfl : i = d := by omega
    exact Ev.step (fun _ => rfl) (evF (by rw [wrow_length]; omega) (Ev.bind hZ (evN rfl)))
  | succ e ih =>
    intro i hi
    have h := ih (i + 1) (by omega)
    have hw0 : wrap64 ((i : Int) + 0) = (i : Int) := by rw [wid (by omega) (by omega)]; omega
    have hw1 : wrap64 ((i : Int) + wrap64 (0 + 1)) = ((i + 1 : Nat) : Int) := by rw [show wrap64 (0 + 1) = 1 from w1, wid (by omega) (by omega)]; omega
    refine Ev.step (fun _ => rfl) (evT (by rw [wrow_length]; omega) ?_)
    refine Ev.step (fun _ => rfl) (evT (by simp) ?_)
    rw [hw0]
    refine evT (by omega) (evT (by rw [wrow_length]; omega) (evT (by omega) (evT (by rw [wrow_length]; omega) (evT (by omega) ?_))))
    refine Ev.step (fun _ => rfl) (evT (by rw [show wrap64 (0 + 1) = 1 from w1]; simp) ?_)
    rw [hw1]
    refine evT (by omega) (evT (by simp [wrow_length]; omega) (evT (by omega) (evT (by rw [wrow_length]; omega) (evT (by rw [show wrap64 (0 + 1) = 1 from w1]; omega) ?_))))
    refine Ev.step (fun _ => rfl) (evF (by rw [show wrap64 (0 + 1) = 1 from w1]; simp [wrap64]) ?_)
    have s1 : (wrow (d + 1) (lin O c i)).set ((i : Int)).toNat (wrap64 (rd (wrow (d + 1) (lin O c i)) (i : Int) + wrap64 (rd (wrow d O) (i : Int) * rd [c, 1] 0))) = wrow (d + 1) (fun q => if q = i then lin O c i i + O i * c else lin O c i q) := by
      rw [Int.toNat_natCast, wrow_at _ _ i (by omega), wrow_at _ _ i (by omega), show rd [c, 1] 0 = c from rfl, wr_mull, wr_add, wrow_set]
    rw [s1]
    have s2 : (wrow (d + 1) (fun q => if q = i then lin O c i i + O i * c else lin O c i q)).set (((i + 1 : Nat) : Int)).toNat (wrap64 (rd (wrow (d + 1) (fun q => if q = i then lin O c i i + O i * c else lin O c i q)) ((i + 1 : Nat) : Int) + wrap64 (rd (wrow d O) (i : Int) * rd [c, 1] (wrap64 (0 + 1))))) = wrow (d + 1) (lin O c (i + 1)) := by
      rw [Int.toNat_natCast, wrow_at _ _ (i + 1) (by omega), wrow_at _ _ i (by omega), show rd [c, 1] (wrap64 (0 + 1)) = 1 from by rw [show wrap64 (0 + 1) = 1 from w1]; rfl, wr_mull, wr_add, wrow_set]
      congr 1; funext q
      by_cases q1 : q = i + 1
      · subst q1
        rw [if_pos rfl, if_neg (by omega)]
        unfold lin
        rw [if_pos (by omega), if_neg (by omega), if_neg (by omega), if_neg (by omega), Nat.add_sub_cancel]; omega
      · rw [if_neg q1]
        by_cases q2 : q = i
        · subst q2
          rw [if_pos rfl]
          unfold lin
          rw [if_neg (by omega : ¬ q < q), if_pos (by omega : q < q + 1), Int.add_zero, Int.mul_comm]
          by_cases q3 : q = 0
          · rw [if_pos (by omega), if_pos (by omega)]
          · rw [if_neg (by omega), if_neg (by omega)]
        · rw [if_neg q2]
          unfold lin
          have c1 : (q = 0 ∨ i < q) ↔ (q = 0 ∨ i + 1 < q) := by omega
          have c2 : q < i ↔ q < i + 1 := by omega
          simp only [c1, c2]
    rw [s2, wnat (n := 40) (by omega) (by omega)]
    exact h
def nxt (O : Nat → Int) (c : Int) (q : Nat) : Int := (if q = 0 then 0 else O (q - 1)) + c * O q
theorem lin_times (d : Nat) (hd2 : d ≤ 20) (O : Nat → Int) (hO : ∀ q, d ≤ q → O q = 0) (c : Int) (h1 : 1 ≤ d → O (d - 1) = 1) : ∃ M, M ≤ d + 1 ∧ (d = 0 ∨ M = d + 1) ∧ Ev (fun k => spec_l01Times.f k (wrow d O) [c, 1]) (wrow M (nxt O c)) := by
  by_cases z : d = 0
  · subst z
    refine ⟨0, by omega, by omega, ?_⟩
    have st : ∀ b : Bool, b = true → Ev (fun k => spec_l01Times.j0 k ([] : List Int) [c, 1] b) (wrow 0 (nxt O c)) := fun b hb => Ev.step (fun _ => rfl) (evT hb (evN rfl))
    unfold spec_l01Times.f
    exact evT rfl (st true rfl)
  · refine ⟨d + 1, by omega, by omega, ?_⟩
    have e : wrow (d + 1) (lin O c d) = wrow (d + 1) (nxt O c) := by
      refine wrow_congr fun q hq => ?_
      congr 1
      unfold lin nxt
      by_cases q1 : q = 0
      · rw [if_pos (by omega), if_pos q1, if_pos (by omega)]
      · rw [if_neg (by omega), if_neg q1]
        by_cases q2 : q < d
        · rw [if_pos q2]
        · rw [if_neg q2, hO q (by omega), Int.mul_zero]
    have hl : rd (wrow (d + 1) (lin O c d)) (((wrow (d + 1) (lin O c d)).length - 1 : Nat) : Int) ≠ 0 := by
      rw [wrow_length, Nat.add_sub_cancel, wrow_at _ _ d (by omega)]
      unfold lin
      rw [if_neg (by omega), if_neg (by omega), h1 (by omega), Int.add_zero, w1]; omega
    have h := lin_l0 d (by omega) hd2 O c _ (trim_whole _ (by rw [wrow_length]; omega) (by rw [wrow_length]; omega) hl) d 0 (by omega)
    have e0 : wrow (d + 1) (lin O c 0) = List.replicate (d + 1) 0 := by
      rw [wrow_zero]
      refine wrow_congr fun q hq => ?_
      unfold lin
      rw [if_pos (by omega), if_neg (by omega)]; rfl
    rw [e0, e] at h
    unfold spec_l01Times.f
    refine evF (by rw [wrow_length]; omega) ?_
    have hw : wrap64 ((wrap64 (((wrow d O).length : Int) + (([c, 1] : List Int).length : Int))) - 1) = ((d + 1 : Nat) : Int) := by
      rw [wrow_length, show (([c, 1] : List Int).length : Int) = 2 from rfl, wid (x := (d : Int) + 2) (by omega) (by omega), wid (by omega) (by omega)]; omega
    have st : ∀ b : Bool, b = false → Ev (fun k => spec_l01Times.j0 k (wrow d O) [c, 1] b) (wrow (d + 1) (nxt O c)) := fun b hb => Ev.step (fun _ => rfl) (evF (by simp [hb]) (by
      rw [hw, Int.toNat_natCast]
      exact evT (by omega) (evT (by omega) h)))
    exact st _ (by simp)
theorem cop_l0 (M M1 : Nat) (hM : M ≤ M1) (h1 : M1 ≤ 30) (T : Nat → Int) (v : List Int) (c : Int) (Z : List Int) (hZ : Ev (fun k => spec_l01Add.l1 k v c (wrow M1 (fun q => if q < M then T q else 0)) 0) Z) (e : Nat) : ∀ i : Nat, i + e = M →
    Ev (fun k => spec_l01Add.l0 k (wrow M T) v c (wrow M1 (fun q => if q < i then T q else 0)) (i : Int)) Z := by
  induction e with
  | zero =>
    intro i hi; obtain rfl : i = M := by omega
    exact Ev.step (fun _ => rfl) (evF (by rw [wrow_length]; omega) hZ)
  | succ e ih =>
    intro i hi
    have h := ih (i + 1) (by omega)
    refine Ev.step (fun _ => rfl) (evT (by rw [wrow_length]; omega) (evT (by omega) (evT (by rw [wrow_length]; omega) ?_)))
    have s : (wrow M1 (fun q => if q < i then T q else 0)).set ((i : Int)).toNat (rd (wrow M T) (i : Int)) = wrow M1 (fun q => if q < i + 1 then T q else 0) := by
      rw [Int.toNat_natCast, wrow_at _ _ i (by omega), wrow_set]
      congr 1; funext q
      by_cases q1 : q = i
      · subst q1; rw [if_pos rfl, if_pos (by omega)]
      · rw [if_neg q1]
        by_cases q2 : q < i
        · rw [if_pos q2, if_pos (by omega)]
        · rw [if_neg q2, if_neg (by omega)]
    rw [s, wnat (n := 40) (by omega) (by omega)]
    exact h
theorem add_ (M M1 : Nat) (hM : M ≤ M1) (h0 : 1 ≤ M1) (h1 : M1 ≤ 30) (hM1 : M1 = 1 ∨ M = M1) (T : Nat → Int) (hT : ∀ q, M ≤ q → q < M1 → T q = 0) (v : Int) (hl : T (M1 - 1) + (if M1 - 1 = 0 then v else 0) = 1) : Ev (fun k => spec_l01Add.f k (wrow M T) [v] 1) (wrow M1 (fun q => T q + if q = 0 then v else 0)) := by
  have hmx : mx ((wrow M T).length : Int) (([v] : List Int).length : Int) = (M1 : Int) := by
    rw [wrow_length, show (([v] : List Int).length : Int) = 1 from rfl]
    unfold mx; split <;> omega
  unfold spec_l01Add.f
  rw [hmx, Int.toNat_natCast]
  refine evT (by omega) (evT (by omega) ?_)
  have e0 : List.replicate M1 (0 : Int) = wrow M1 (fun q => if q < 0 then T q else 0) := by
    rw [wrow_zero]; exact wrow_congr fun q _ => by rw [if_neg (by omega)]
  rw [e0]
  refine cop_l0 M M1 hM h1 T [v] 1 _ ?_ M 0 (by omega)
  refine Ev.step (fun _ => rfl) (evT (by simp) (evT (by omega) (evT (by rw [wrow_length]; omega) ?_)))
  have s : (wrow M1 (fun q => if q < M then T q else 0)).set ((0 : Int)).toNat (wrap64 (rd (wrow M1 (fun q => if q < M then T q else 0)) 0 + wrap64 (1 * rd [v] 0))) = wrow M1 (fun q => T q + if q = 0 then v else 0) := by
    have := wrow_at M1 (fun q => if q < M then T q else 0) 0 (by omega)
    rw [show ((0 : Nat) : Int) = 0 from rfl] at this
    rw [this, show rd [v] 0 = v from rfl, Int.one_mul, wr_add, show ((0 : Int)).toNat = 0 from rfl, wrow_set]
    refine wrow_congr fun q hq => ?_
    congr 1
    by_cases q1 : q = 0
    · subst q1
      rw [if_pos rfl, if_pos rfl]
      by_cases q2 : 0 < M
      · rw [if_pos q2]
      · rw [if_neg q2, hT 0 (by omega) hq]
    · rw [if_neg q1, if_neg q1, Int.add_zero]
      by_cases q2 : q < M
      · rw [if_pos q2]
      · rw [if_neg q2, hT q (by omega) hq]
  rw [s, show wrap64 (0 + 1) = 1 from w1]
  refine Ev.step (fun _ => rfl) (evF (by simp) (Ev.bind (trim_whole _ (by rw [wrow_length]; omega) (by rw [wrow_length]; omega) ?_) (evN rfl)))
  rw [wrow_length, wrow_at _ _ (M1 - 1) (by omega), hl, w1]; omega
section
variable (f : List Int) (m : Nat) (hf : f.length = m) (hm : 2 ≤ m) (hm2 : m ≤ 20) (hl : rd f ((m - 1 : Nat) : Int) = 1) (c : Int)
include hf hm hm2
theorem shift_l (hl : rd f ((m - 1 : Nat) : Int) = 1) (e : Nat) : ∀ d : Nat, d + e = m → Ev (fun k => spec_l07Shift.l0 k f c (wrow d (hor (fun k => rd f (k : Int)) c m d)) ((m : Int) - 1 - d)) (wrow m (hor (fun k => rd f (k : Int)) c m m)) := by
  induction e with
  | zero =>
    intro d hd; obtain rfl : d = m := by omega
    exact Ev.step (fun _ => rfl) (evF (by omega) (evN rfl))
  | succ e ih =>
    intro d hd
    have h := ih (d + 1) (by omega)
    have hi : (m : Int) - 1 - d = ((m - (d + 1) : Nat) : Int) := by omega
    obtain ⟨M, hM, hM2, ht⟩ := lin_times d (by omega) (hor (fun k => rd f (k : Int)) c m d) (hor_zero _ c m d) c (fun q => by
      obtain ⟨d', rfl⟩ : ∃ d', d = d' + 1 := ⟨d - 1, by omega⟩
      exact hor_last _ c m hl d')
    refine Ev.step (fun _ => rfl) (evT (by omega) (Ev.bind ht (evT (by omega) (evT (by omega) (Ev.bind (add_ M (d + 1) (by omega) (by omega) (by omega) (by omega) (nxt (hor (fun k => rd f (k : Int)) c m d) c) (fun q q1 q2 => ?_) (rd f ((m : Int) - 1 - d)) ?_) ?_)))))
    · rcases hM2 with z | z
      · subst z; obtain rfl : q = 0 := by omega
        unfold nxt; rw [if_pos rfl, hor_zero _ c m 0 0 (Nat.le_refl _), Int.mul_zero]; rfl
      · omega
    · rw [hi, Nat.add_sub_cancel]; exact hor_last (fun k => rd f (k : Int)) c m hl d
    · have e1 : (fun q => nxt (hor (fun k => rd f (k : Int)) c m d) c q + if q = 0 then rd f ((m : Int) - 1 - d) else 0) = hor (fun k => rd f (k : Int)) c m (d + 1) := by
        funext q; rw [hi]; rfl
      rw [e1, show wrap64 ((m : Int) - 1 - d - 1) = (m : Int) - 1 - ((d + 1 : Nat) : Int) by rw [wid (by omega) (by omega)]; omega]
      exact h
theorem shift_ (hl : rd f ((m - 1 : Nat) : Int) = 1) : Ev (fun k => spec_l07Shift.f k f c) (wrow m (hor (fun k => rd f (k : Int)) c m m)) := by
  have h := shift_l f m hf hm hm2 c hl m 0 (by omega)
  unfold spec_l07Shift.f
  rw [hf, wid (by omega) (by omega)]
  rw [show (m : Int) - 1 - ((0 : Nat) : Int) = (m : Int) - 1 by omega] at h
  exact h
theorem pass_l1 (i : Nat) (hi : i < m) (a : Nat → Int) (Z : Int × Int) (hZ : Ev (fun k => impl_roots.l0 k c (wrow m (dv c m i a (m - 1 - i))) (m : Int) ((i + 1 : Nat) : Int)) Z) (e : Nat) : ∀ D : Nat, D + e = m - 1 - i →
    Ev (fun k => impl_roots.l1 k c (wrow m (dv c m i a D)) (i : Int) ((m : Int) - 2 - D) (m : Int) (i : Int)) Z := by
  induction e with
  | zero =>
    intro D hD; obtain rfl : D = m - 1 - i := by omega
    refine Ev.step (fun _ => rfl) (evF (by omega) ?_)
    rw [wnat (n := 40) (by omega) (by omega)]; exact hZ
  | succ e ih =>
    intro D hD
    have h := ih (D + 1) (by omega)
    have hj : (m : Int) - 2 - D = ((m - 2 - D : Nat) : Int) := by omega
    rw [hj]
    have hw : wrap64 (((m - 2 - D : Nat) : Int) + 1) = ((m - 1 - D : Nat) : Int) := by rw [wid (by omega) (by omega)]; omega
    refine Ev.step (fun _ => rfl) (evT (by omega) (evT (by omega) (evT (by rw [wrow_length]; omega) ?_)))
    rw [hw]
    refine evT (by omega) (evT (by rw [wrow_length]; omega) ?_)
    have s : (wrow m (dv c m i a D)).set (((m - 2 - D : Nat) : Int)).toNat (wrap64 (rd (wrow m (dv c m i a D)) ((m - 2 - D : Nat) : Int) + wrap64 (c * rd (wrow m (dv c m i a D)) ((m - 1 - D : Nat) : Int)))) = wrow m (dv c m i a (D + 1)) := by
      rw [Int.toNat_natCast, wrow_at _ _ (m - 2 - D) (by omega), wrow_at _ _ (m - 1 - D) (by omega), wr_mulr, wr_add, wrow_set]
      rfl
    rw [s, show wrap64 (((m - 2 - D : Nat) : Int) - 1) = (m : Int) - 2 - ((D + 1 : Nat) : Int) by rw [wid (by omega) (by omega)]; omega]
    exact h
theorem pass_l0 (F : Nat → Int) (Z : Int × Int) (hZ : Ev (fun k => impl_roots.l2 k (wrow m (pas c m F m)) 0 0 0 (m : Int) 0) Z) (e : Nat) : ∀ i : Nat, i + e = m →
    Ev (fun k => impl_roots.l0 k c (wrow m (pas c m F i)) (m : Int) (i : Int)) Z := by
  induction e with
  | zero =>
    intro i hi; obtain rfl : i = m := by omega
    refine Ev.step (fun _ => rfl) (evF (by omega) ?_)
    rw [wrow_length]; exact hZ
  | succ e ih =>
    intro i hi
    have h := pass_l1 f m hf hm hm2 c i (by omega) (pas c m F i) Z (ih (i + 1) (by omega)) (m - 1 - i) 0 (by omega)
    refine Ev.step (fun _ => rfl) (evT (by omega) ?_)
    rw [wrow_length, wid (by omega) (by omega)]
    rw [show (m : Int) - 2 - ((0 : Nat) : Int) = (m : Int) - 2 by omega] at h
    exact h
end
theorem cnt_A (L : List Int) (hL : L.length ≤ 100) (e : Nat) : ∀ (i : Nat) (a last : Int), i + e = L.length → last ≠ 0 →
    ∃ a', Ev (fun k => spec_l07Changes.l0 k L a last (i : Int)) a' ∧ ∀ z, Ev (fun k => impl_roots.l2 k L a z last (L.length : Int) (i : Int)) (a', z) := by
  induction e with
  | zero => intro i a last hi hl; exact ⟨a, Ev.step (fun _ => rfl) (evF (by omega) (evN rfl)), fun z => Ev.step (fun _ => rfl) (evF (by omega) (evN rfl))⟩
  | succ e ih =>
    intro i a last hi hl
    have hw : wrap64 ((i : Int) + 1) = ((i + 1 : Nat) : Int) := wnat (n := 200) (by omega) (by omega)
    have j3 : ∀ (b : Bool) (a z x : Int) r, b = false → Ev (fun k => if x = 0 then (impl_roots.l2 k L a z last (L.length : Int) (wrap64 ((i : Int) + 1))) else (if last = 0 then (impl_roots.l2 k L a z x (L.length : Int) (wrap64 ((i : Int) + 1))) else (if ((decide (last < 0)) != (decide (x < 0))) = true then (impl_roots.l2 k L (wrap64 (a + 1)) z x (L.length : Int) (wrap64 ((i : Int) + 1))) else (impl_roots.l2 k L a z x (L.length : Int) (wrap64 ((i : Int) + 1)))))) r → Ev (fun k => impl_roots.j3 k L a z last x (L.length : Int) (i : Int) b) r :=
      fun b a z x r hb h => Ev.step (fun _ => rfl) (evF (by simp [hb]) h)
    by_cases x0 : rd L (i : Int) = 0
    · obtain ⟨a', s, t⟩ := ih (i + 1) a last (by omega) hl
      rw [← hw] at s t
      exact ⟨a', Ev.step (fun _ => rfl) (evT (by omega) (evT (by omega) (evT x0 s))), fun z => Ev.step (fun _ => rfl) (evT (by omega) (evT (by omega) (evT (by omega) (evT x0 (j3 _ a z _ _ (by simpa using hl) (evT x0 (t z)))))))⟩
    · by_cases sg : ((decide ((rd L (i : Int)) > 0)) != (decide (last > 0))) = true
      · have sg2 : ((decide (last < 0)) != (decide (rd L (i : Int) < 0))) = true := by
          by_cases p : rd L (i : Int) > 0 <;> by_cases q : last > 0 <;> simp [p, q] at sg ⊢ <;> omega
        obtain ⟨a', s, t⟩ := ih (i + 1) (wrap64 (a + 1)) (rd L (i : Int)) (by omega) x0
        rw [← hw] at s t
        exact ⟨a', Ev.step (fun _ => rfl) (evT (by omega) (evT (by omega) (evF x0 (evF hl (evT sg s))))), fun z => Ev.step (fun _ => rfl) (evT (by omega) (evT (by omega) (evT (by omega) (evF x0 (j3 false a z _ _ rfl (evF x0 (evF hl (evT sg2 (t z)))))))))⟩
      · have sg2 : ¬ ((decide (last < 0)) != (decide (rd L (i : Int) < 0))) = true := by
          by_cases p : rd L (i : Int) > 0 <;> by_cases q : last > 0 <;> simp [p, q] at sg ⊢ <;> omega
        obtain ⟨a', s, t⟩ := ih (i + 1) a (rd L (i : Int)) (by omega) x0
        rw [← hw] at s t
        exact ⟨a', Ev.step (fun _ => rfl) (evT (by omega) (evT (by omega) (evF x0 (evF hl (evF sg s))))), fun z => Ev.step (fun _ => rfl) (evT (by omega) (evT (by omega) (evT (by omega) (evF x0 (j3 false a z _ _ rfl (evF x0 (evF hl (evF sg2 (t z)))))))))⟩
theorem cnt_B (L : List Int) (hL : L.length ≤ 100) (e : Nat) : ∀ (i : Nat), i + e = L.length →
    ∃ a' z', Ev (fun k => spec_l07Changes.l0 k L 0 0 (i : Int)) a' ∧ Ev (fun k => spec_l07At.l0 k L (i : Int)) z' ∧ Ev (fun k => impl_roots.l2 k L 0 (i : Int) 0 (L.length : Int) (i : Int)) (a', z') := by
  induction e with
  | zero => intro i hi; exact ⟨0, i, Ev.step (fun _ => rfl) (evF (by omega) (evN rfl)), Ev.step (fun _ => rfl) (evF (by omega) (evN rfl)), Ev.step (fun _ => rfl) (evF (by omega) (evN rfl))⟩
  | succ e ih =>
    intro i hi
    have hw : wrap64 ((i : Int) + 1) = ((i + 1 : Nat) : Int) := wnat (n := 200) (by omega) (by omega)
    by_cases x0 : rd L (i : Int) = 0
    · obtain ⟨a', z', s, u, t⟩ := ih (i + 1) (by omega)
      rw [← hw] at s t u
      have j3 : ∀ (b : Bool), b = true → Ev (fun k => impl_roots.j3 k L 0 (i : Int) 0 (rd L (i : Int)) (L.length : Int) (i : Int) b) (a', z') := fun b hb => Ev.step (fun _ => rfl) (evT hb t)
      exact ⟨a', z', Ev.step (fun _ => rfl) (evT (by omega) (evT (by omega) (evT x0 s))), Ev.step (fun _ => rfl) (evT (by omega) (evT (by omega) (evT x0 u))), Ev.step (fun _ => rfl) (evT (by omega) (evT (by omega) (evT (by omega) (evT x0 (j3 _ rfl)))))⟩
    · obtain ⟨a', s, t⟩ := cnt_A L hL e (i + 1) 0 (rd L (i : Int)) (by omega) x0
      rw [← hw] at s t
      have j3 : ∀ (b : Bool), b = false → Ev (fun k => impl_roots.j3 k L 0 (i : Int) 0 (rd L (i : Int)) (L.length : Int) (i : Int) b) (a', (i : Int)) := fun b hb => Ev.step (fun _ => rfl) (evF (by simp [hb]) (evF x0 (evT rfl (t _))))
      exact ⟨a', i, Ev.step (fun _ => rfl) (evT (by omega) (evT (by omega) (evF x0 (evT rfl s)))), Ev.step (fun _ => rfl) (evT (by omega) (evT (by omega) (evF x0 (evN rfl)))), Ev.step (fun _ => rfl) (evT (by omega) (evT (by omega) (evT (by omega) (evF x0 (j3 false rfl)))))⟩
theorem roots_both (f : List Int) (m : Nat) (hf : f.length = m) (hm : 2 ≤ m) (hm2 : m ≤ 20) (hl : rd f ((m - 1 : Nat) : Int) = 1) (hw : ∀ x ∈ f, wrap64 x = x) (c : Int) :
    ∃ a z, Ev (fun k => spec_l07Above.f k f c) a ∧ Ev (fun k => spec_l07At.f k f c) z ∧ Ev (fun k => impl_roots.f k f c) (a, z) := by
  have sh := shift_ f m hf hm hm2 c hl
  have e1 : wrow m (hor (fun k => rd f (k : Int)) c m m) = wrow m (pas c m (fun k => rd f (k : Int)) m) := wrow_congr fun q hq => by rw [shift_same c m _ hm q hq]
  rw [e1] at sh
  have hlen := wrow_length m (pas c m (fun k => rd f (k : Int)) m)
  obtain ⟨a, z, s, u, t⟩ := cnt_B (wrow m (pas c m (fun k => rd f (k : Int)) m)) (by rw [hlen]; omega) m 0 (by rw [hlen]; omega)
  refine ⟨a, z, ?_, ?_, ?_⟩
  · unfold spec_l07Above.f; exact Ev.bind sh (Ev.bind s (evN rfl))
  · unfold spec_l07At.f; exact Ev.bind sh u
  · unfold impl_roots.f
    refine Ev.bind (evN (clone_ f (by omega))) ?_
    rw [hf]
    have e2 : f = wrow m (pas c m (fun k => rd f (k : Int)) 0) := by
      have := row_self f hw
      rw [hf] at this; exact this
    rw [hlen] at t
    have h := pass_l0 f m hf hm hm2 c (fun k => rd f (k : Int)) (a, z) t m 0 (by omega)
    rw [← e2] at h; exact h
end Go.Proofs.Ytimdklhkhjpmbaa.Q
end
section
namespace Go.Proofs.Ytimdklhkhjpmbaa.X
open Go.RowKit Go.Proofs.YtimdklhkhjpmbaaW.PrintWords Go.Proofs.YtimdklhkhjpmbaaW.PrintLast Go.Proofs.YtimdklhkhjpmbaaW.PrintMore
attribute [local go_sem] max2_int min2_int max_two min_two max_three min_three max_four min_four
set_option linter.unusedVariables false
set_option linter.unusedSimpArgs false
end Go.Proofs.Ytimdklhkhjpmbaa.X
end
section
namespace Go.Proofs.Ytimdklhkhjpmbaa.Q
open Go.RowKit Go.Proofs.Ytimdklhkhjpmbaa.X Go.Proofs.Ytimdklhkhjpmbaa.Dt Go.Proofs.YtimdklhkhjpmbaaW.PrintWords Go.Proofs.YtimdklhkhjpmbaaW.PrintLast Go.Proofs.YtimdklhkhjpmbaaW.PrintMore
set_option linter.unusedVariables false
theorem eig_both (N : Nat) (P : List (Nat × Nat)) (g : G8 N P) (c : Int) : ∃ A r a z, Ev (fun k => spec_l01Adjacency.f k (N : Int) (edg P)) A ∧ Ev (fun k => spec_l07Of.f k A) r ∧ Ev (fun k => impl_Graph_characteristic.f k (N : Int) (edg P)) r ∧ Ev (fun k => spec_l07Above.f k r c) a ∧ Ev (fun k => spec_l07At.f k r c) z ∧ Ev (fun k => impl_roots.f k r c) (a, z) := by
  have h8 := g.hi; have h1 := g.lo
  have sA := adjSpec N P g
  have iA := adjImpl N P g
  rw [adj_w N P g.len] at sA iA
  obtain ⟨r, hr, r1, hw, s, i⟩ := char_one N _ h8 (adj_sml N P g.len)
  obtain ⟨a, z, u, v, w⟩ := roots_both r (N + 1) hr (by omega) (by omega) (by rw [Nat.add_sub_cancel]; exact r1) hw c
  exact ⟨_, r, a, z, sA, s, by unfold impl_Graph_characteristic.f; exact Ev.bind iA (Ev.bind i (evN rfl)), u, v, w⟩
end Go.Proofs.Ytimdklhkhjpmbaa.Q
end
section
namespace Go.Proofs.Ytimdklhkhjpmbaa.Q
open Go.RowKit Go.Proofs.Ytimdklhkhjpmbaa.X Go.Proofs.Ytimdklhkhjpmbaa.Dt Go.Proofs.YtimdklhkhjpmbaaW.PrintWords Go.Proofs.YtimdklhkhjpmbaaW.PrintLast Go.Proofs.YtimdklhkhjpmbaaW.PrintMore
set_option linter.unusedVariables false
theorem both (n : Int) (E : List (List Int)) (hE : E.length ≤ 1048576) : ∃ L cd, L.length ≤ 1048576 ∧ Ev (fun k => spec_SignsOfSpectrum.f k n E) (L, cd) ∧ Ev (fun k => impl_SignsOfSpectrum.f k n E) (L, cd) := by
  have h1 := isSpec n E hE; have h2 := isImpl n E hE
  unfold spec_SignsOfSpectrum.f impl_SignsOfSpectrum.f
  by_cases h : VG n E = true
  · rw [h] at h1 h2
    obtain ⟨N, P, rfl, rfl, g⟩ := VG_true h
    obtain ⟨A, r, a, z, s1, s2, i1, u, v, w⟩ := eig_both N P g 0
    exact ⟨[a, z, wrap64 ((wrap64 ((N : Int) - a)) - z)], 0, by simp, Ev.bind h1 (evT rfl (Ev.bind s1 (Ev.bind s2 (Ev.bind u (Ev.bind v (evN rfl)))))), Ev.bind h2 (evT rfl (Ev.bind i1 (Ev.bind w (evN rfl))))⟩
  · rw [Bool.eq_false_iff.2 h] at h1 h2
    exact ⟨[], 1, by simp, Ev.bind h1 (evF (by simp) (evN rfl)), Ev.bind h2 (evF (by simp) (evN rfl))⟩
theorem FnExactSignsOfSpectrum (n : Int) (E : List (List Int)) (hn : (Lit.int .i64 n).wf = true) (hE : E.length ≤ 9223372036854775807) (ha : ∀ l ∈ E, l.length ≤ 9223372036854775807 ∧ ∀ x ∈ l, (Lit.int .i64 x).wf = true) : ∃ k, laws_FnExactSignsOfSpectrum.P k n E true := by
  obtain ⟨t, ht, hp⟩ := szGraph n E hE (fun l hl => (ha l hl).1)
  rcases hp with hp | ⟨h0, _, h1, h2⟩
  · obtain ⟨K, hk⟩ := ht
    exact ⟨K, rfl, .inl ⟨t, hk K (Nat.le_refl _), hp⟩⟩
  · obtain ⟨L, cd, hL, hs, hi⟩ := both n E h1
    obtain ⟨K1, a⟩ := helpG n E h1 h2 t ht
    obtain ⟨K2, b⟩ := helpR L hL
    obtain ⟨K3, c⟩ := ev2 hs hi
    obtain ⟨a1, a2, a3, a4⟩ := a (K1 + K2 + K3) (by omega)
    obtain ⟨b1, b2, b3⟩ := b (K1 + K2 + K3) (by omega)
    obtain ⟨c1, c2⟩ := c (K1 + K2 + K3) (by omega)
    exact ⟨K1 + K2 + K3, rfl, .inr ⟨t, a1, by omega, L, cd, _, _, _, _, a2, c1, c2, b1, a3, a4, by omega, b2, by omega, b3⟩⟩
end Go.Proofs.Ytimdklhkhjpmbaa.Q
end
section
namespace Go.Proofs.Ytimdklhkhjpmbaa.Gr
open Go.ChangeShapes Go.WideShapes Go.ChangeAt Go.RowKit Go.Deep Go.Proofs.YtimdklhkhjpmbaaW.PrintWords
set_option linter.unusedVariables false
theorem rows_C {w : World} {a : Addr} {len cap : Nat} {A : Nat → Option Addr} {L C : Nat → Nat} {Z : Nat → List Int} (hl : len ≤ cap) (hm : cap ≤ maxLen)
    (h : ∀ r, r < cap → w.cell? (a.add r) = some (.slice (A r) (L r) (C r)) ∧ L r ≤ C r ∧ C r ≤ maxLen ∧ (Z r).length = C r ∧ (∀ n ∈ Z r, (Lit.int .i64 n).wf = true) ∧ (A r = none → C r = 0) ∧
        ∀ a', A r = some a' → 0 ≤ a'.block ∧ ∀ c, c < C r → w.cell? (a'.add c) = some (.int .i64 ((Z r).getD c 0))) :
    ∃ ls : List (List Int), ls.length = len ∧ Kd.C (Kd.slice 2 (Kd.int .i64)) w (some a) ls.length ls ∧ ∀ l ∈ ls, l.length ≤ maxLen ∧ ∀ n ∈ l, (Lit.int .i64 n).wf = true := by
  refine ⟨(List.range len).map fun r => (Z r).take (L r), by simp, ?_, ?_⟩
  · simp only [maxLen] at hm
    refine ⟨by simp, by simp; omega, fun _ => ⟨a, rfl, fun j p hj => ?_⟩⟩
    have hj1 : j < len := by
      have := (List.getElem?_eq_some_iff.1 hj).1
      simpa using this
    have hp : p = (Z j).take (L j) := by
      have : ((List.range len).map fun r => (Z r).take (L r))[j]? = some ((Z j).take (L j)) := by simp [hj1]
      rw [this] at hj
      exact (Option.some.inj hj).symm
    subst hp
    obtain ⟨h1, h2, h3, h4, h5, h6, h7⟩ := h j (by omega)
    have hl1 : ((Z j).take (L j)).length = L j := by rw [List.length_take]; omega
    refine ⟨[.slice (A j) (L j) (C j)], rfl, ?_, ?_⟩
    · refine ⟨A j, C j, by rw [hl1], by rw [hl1]; exact h2, ?_⟩
      simp only [maxLen] at h3
      refine ⟨rfl, by rw [hl1]; omega, fun hpos => ?_⟩
      rcases ha : A j with _ | a'
      · have := h6 ha; omega
      · refine ⟨a', rfl, fun i x hi => ⟨[.int .i64 x], rfl, rfl, fun q u hu => ?_⟩⟩
        have hi1 : i < L j := by have := (List.getElem?_eq_some_iff.1 hi).1; omega
        have hx : (Z j).getD i 0 = x := by
          rw [List.getElem?_take] at hi
          rw [if_pos hi1] at hi
          rw [List.getD_eq_getElem?_getD, hi]; rfl
        cases q with
        | zero =>
          simp only [List.getElem?_cons_zero, Option.some.injEq] at hu
          subst hu
          have := (h7 a' ha).2 i (by omega)
          rw [hx] at this
          simpa [show (Kd.int .i64).sz = 1 from rfl] using this
        | succ q => simp at hu
    · intro i u hu
      cases i with
      | zero =>
        simp only [List.getElem?_cons_zero, Option.some.injEq] at hu
        subst hu
        simpa [show (Kd.slice 2 (Kd.int .i64)).sz = 1 from rfl] using h1
      | succ i => simp at hu
  · intro l hl1
    simp only [List.mem_map, List.mem_range] at hl1
    obtain ⟨r, hr, rfl⟩ := hl1
    obtain ⟨h1, h2, h3, h4, h5, h6, h7⟩ := h r (by omega)
    exact ⟨by rw [List.length_take]; omega, fun n hn => h5 n (List.mem_of_mem_take hn)⟩
theorem open_rows {H : Type} {enc : TypeId × Value → H} {P : Program} {w : World} {held : Bool} {t e : TypeId} {fuel : Nat} {v : Value} {x : DataW H × List MemPlace} (ht : P.underlying t = some (.slice e)) (he : P.underlying e = some (.slice 2)) (hq : P.underlying 2 = some (.int .i64))
    (ce : P.cellsOf e = 1) (cq : P.cellsOf 2 = 1) (h : DataW.trod enc P w 0 (fun _ => true) held fuel t [v] = some x) :
    ∃ (A : Option Addr) (cap : Nat) (ls : List (List Int)), v = .slice A ls.length cap ∧ ls.length ≤ cap ∧ cap ≤ maxLen ∧ Kd.C (Kd.slice 2 (Kd.int .i64)) w A ls.length ls ∧ ∀ l ∈ ls, l.length ≤ maxLen ∧ ∀ n ∈ l, (Lit.int .i64 n).wf = true := by
  rcases open_int_rows ht he hq ce cq h with ⟨hcs, _⟩ | ⟨a, len, cap, A, L, C, Z, hcs, _, hl, hm, _, hr⟩
  · obtain rfl : v = .slice none 0 0 := by simpa using hcs
    exact ⟨none, 0, [], rfl, by simp, by simp, Kd.C_nil _ _, by simp⟩
  · obtain rfl : v = .slice (some a) len cap := by simpa using hcs
    obtain ⟨ls, rfl, hC, hall⟩ := rows_C hl hm hr
    exact ⟨some a, cap, ls, rfl, hl, hm, hC, hall⟩
theorem open_graph {H : Type} {enc : TypeId × Value → H} {P : Program} {w : World} {held : Bool} {r : Reach} {b0 : Nat} {t e q : TypeId} {f0 f1 : Field} {v : Value} {d : DataW H} {p : List MemPlace} (hs : P.underlying t = some (.struct #[f0, f1])) (h0 : f0.type = 2) (h1 : f1.type = e)
    (he : P.underlying e = some (.slice q)) (hq : P.underlying q = some (.slice 2)) (hi : P.underlying 2 = some (.int .i64)) (hone : oneCellFields P #[f0, f1] = true) (hC : P.cellsOf t = 2) (cq : P.cellsOf q = 1) (ci : P.cellsOf 2 = 1)
    (hv : Value.okWide P w r b0 t v) (h : DataW.Trod enc P w 0 (fun _ => true) held t v d p) :
    ∃ (n : Int) (A : Option Addr) (cap : Nat) (ls : List (List Int)), v = .agg #[.int .i64 n, .slice A ls.length cap] ∧ (Lit.int .i64 n).wf = true ∧ ls.length ≤ cap ∧ ls.length ≤ 9223372036854775807 ∧ Kd.C (Kd.slice 2 (Kd.int .i64)) w A ls.length ls ∧ ∀ l ∈ ls, l.length ≤ 9223372036854775807 ∧ ∀ n ∈ l, (Lit.int .i64 n).wf = true := by
  obtain ⟨v0, v1, y0, y1, n, rfl, rfl, rfl, t0, t1⟩ := Joins.open_agg2 hs hone hC hv h
  subst h1
  rw [h0] at t0
  obtain ⟨z, hz, _, hw⟩ := DataW.trod_int hi t0
  obtain rfl : v0 = .int .i64 z := by simpa using hz
  obtain ⟨A, cap, ls, rfl, hl, hm, hC1, hall⟩ := open_rows he hq hi cq ci t1
  simp only [maxLen] at hm hall
  exact ⟨z, A, cap, ls, rfl, hw, hl, by omega, hC1, hall⟩
end Go.Proofs.Ytimdklhkhjpmbaa.Gr
end
