/- Words, what the functions that FnSubsets reaches compute, and the plain laws on it; part 16. -/
import Derived.RowKit
import Derived.Laws.BitsLemmas
import Derived.Test.YtaahcjjhmejljaaJFnSubsets15
section
namespace Go.Proofs.Ytaahcjjhmejljaa.Q
open Go.RowKit Go.Proofs.Ytaahcjjhmejljaa.X Go.Proofs.YtaahcjjhmejljaaW.PrintWords Go.Proofs.YtaahcjjhmejljaaW.PrintLast Go.Proofs.YtaahcjjhmejljaaW.PrintMore
set_option linter.unusedVariables false
def sg (f : Nat → Int) : Nat → Int
  | 0 => 0
  | n + 1 => sg f n + f n
theorem sg_congr {f g : Nat → Int} (n : Nat) (h : ∀ i, i < n → f i = g i) : sg f n = sg g n := by
  induction n with
  | zero => rfl
  | succ n ih => show sg f n + f n = sg g n + g n; rw [ih (fun i hi => h i (by omega)), h n (by omega)]
theorem sg_add (f g : Nat → Int) (n : Nat) : sg (fun i => f i + g i) n = sg f n + sg g n := by
  induction n with
  | zero => rfl
  | succ n ih => show sg _ n + (f n + g n) = sg f n + f n + (sg g n + g n); rw [ih]; omega
theorem sg_mul (c : Int) (f : Nat → Int) (n : Nat) : sg (fun i => c * f i) n = c * sg f n := by
  induction n with
  | zero => exact (Int.mul_zero c).symm
  | succ n ih => show sg _ n + c * f n = c * (sg f n + f n); rw [ih, Int.mul_add]
theorem sg_no {f : Nat → Int} (n : Nat) (h : ∀ i, i < n → f i = 0) : sg f n = 0 := by
  induction n with
  | zero => rfl
  | succ n ih => show sg f n + f n = 0; rw [ih (fun i hi => h i (by omega)), h n (by omega)]; rfl
theorem sg_split (f : Nat → Int) (a b : Nat) : sg f (a + b) = sg f a + sg (fun i => f (a + i)) b := by
  induction b with
  | zero => exact (Int.add_zero _).symm
  | succ b ih => show sg f (a + b) + f (a + b) = sg f a + (sg _ b + f (a + b)); rw [ih]; omega
theorem sg_two (f : Nat → Int) (M : Nat) : sg f (2 * M) = sg (fun q => f (2 * q) + f (2 * q + 1)) M := by
  induction M with
  | zero => rfl
  | succ M ih => show sg f (2 * M) + f (2 * M) + f (2 * M + 1) = sg _ M + (f (2 * M) + f (2 * M + 1)); rw [ih]; omega
theorem sg_swap (F : Nat → Nat → Int) (m n : Nat) : sg (fun i => sg (F i) m) n = sg (fun j => sg (fun i => F i j) n) m := by
  induction n with
  | zero => exact (sg_no m (fun _ _ => rfl)).symm
  | succ n ih => show sg _ n + sg (F n) m = sg (fun j => sg (fun i => F i j) n + F n j) m; rw [ih, sg_add]
theorem sg_01 (p : Nat → Bool) (n : Nat) : 0 ≤ sg (fun i => if p i = true then 1 else 0) n ∧ sg (fun i => if p i = true then 1 else 0) n ≤ n ∧ (0 < sg (fun i => if p i = true then 1 else 0) n ↔ ∃ i, i < n ∧ p i = true) := by
  induction n with
  | zero => exact ⟨Int.le_refl _, Int.le_refl _, fun h => absurd h (by simp [sg]), fun ⟨i, h, _⟩ => absurd h (by omega)⟩
  | succ n ih =>
    obtain ⟨h1, h2, h3⟩ := ih
    have e : sg (fun i => if p i = true then 1 else 0) (n + 1) = sg (fun i => if p i = true then 1 else 0) n + if p n = true then 1 else 0 := rfl
    rw [e]
    by_cases c : p n = true
    · rw [if_pos c]; exact ⟨by omega, by omega, fun _ => ⟨n, by omega, c⟩, fun _ => by omega⟩
    · rw [if_neg c]
      refine ⟨by omega, by omega, fun h => ?_, fun ⟨i, hi, hp⟩ => ?_⟩
      · obtain ⟨i, hi, hp⟩ := h3.1 (by omega); exact ⟨i, by omega, hp⟩
      · have : i ≠ n := fun q => c (q ▸ hp)
        have := h3.2 ⟨i, by omega, hp⟩; omega
theorem hbit : ∀ c : Fin 1024, ∀ k : Fin 10, hasB c.val k.val ↔ (c.val / 2 ^ k.val) % 2 = 1 := by decide +kernel
theorem sel_shift (q b : Nat) (hb : b < 2) (P : List (Nat × Nat)) : ∀ i, 2 * q + b < 1024 → i + P.length ≤ 9 → selF (2 * q + b) (i + 1) P = selF q i P := by
  induction P with
  | nil => intro i _ _; rfl
  | cons p P ih =>
    intro i h hi
    have hi2 : i + (P.length + 1) ≤ 9 := hi
    have e := ih (i + 1) h (by omega)
    have e2 : hasB (2 * q + b) (i + 1) ↔ hasB q i := by
      rw [hbit ⟨2 * q + b, h⟩ ⟨i + 1, by omega⟩, hbit ⟨q, by omega⟩ ⟨i, by omega⟩]
      show (2 * q + b) / 2 ^ (i + 1) % 2 = 1 ↔ q / 2 ^ i % 2 = 1
      rw [Nat.pow_succ, Nat.mul_comm (2 ^ i) 2, ← Nat.div_div_eq_div_mul, show (2 * q + b) / 2 = q by omega]
    unfold selF
    by_cases z : hasB q i
    · rw [if_pos z, if_pos (e2.2 z), e]
    · rw [if_neg z, if_neg (fun w => z (e2.1 w)), e]
theorem sel_low (q b : Nat) (hb : b < 2) (h : 2 * q + b < 1024) (p : Nat × Nat) (P : List (Nat × Nat)) (hP : P.length ≤ 9) : selF (2 * q + b) 0 (p :: P) = if b = 1 then p :: selF q 0 P else selF q 0 P := by
  have e : hasB (2 * q + b) 0 ↔ b = 1 := by
    rw [hbit ⟨2 * q + b, h⟩ ⟨0, by omega⟩]
    show (2 * q + b) / 2 ^ 0 % 2 = 1 ↔ b = 1
    rw [Nat.pow_zero, Nat.div_one]; omega
  have e2 := sel_shift q b hb P 0 h (by omega)
  rw [show selF (2 * q + b) 0 (p :: P) = if hasB (2 * q + b) 0 then p :: selF (2 * q + b) (0 + 1) P else selF (2 * q + b) (0 + 1) P from rfl, e2]
  by_cases z : b = 1
  · rw [if_pos z, if_pos (e.2 z)]
  · rw [if_neg z, if_neg (fun w => z (e.1 w))]
def chi (m : Nat) (S : List (Nat × Nat)) : Int := if S.all (fun p => m.testBit p.1 == m.testBit p.2) = true then 1 else 0
def prp (m : Nat) (S : List (Nat × Nat)) : Bool := S.all (fun p => m.testBit p.1 != m.testBit p.2)
def sgn (s : Nat) : Int := 1 - 2 * ((s % 2 : Nat) : Int)
theorem sgn_succ (s : Nat) : sgn (s + 1) = - sgn s := by unfold sgn; omega
theorem sign_sum (m : Nat) (P : List (Nat × Nat)) : P.length ≤ 10 → sg (fun c => sgn (selF c 0 P).length * chi m (selF c 0 P)) (2 ^ P.length) = if prp m P = true then 1 else 0 := by
  induction P with
  | nil => intro _; rfl
  | cons p P ih =>
    intro h
    have h9 : P.length ≤ 9 := by simpa using h
    have hp : 2 ^ P.length ≤ 512 := by
      have : 2 ^ P.length ≤ 2 ^ 9 := Nat.pow_le_pow_right (by omega) h9
      omega
    rw [List.length_cons, Nat.pow_succ, Nat.mul_comm, sg_two]
    by_cases e : (m.testBit p.1 == m.testBit p.2) = true
    · have e2 : prp m (p :: P) = false := by simp [prp] at e ⊢; intro q; exact absurd e q
      rw [e2, if_neg (by simp)]
      refine sg_no _ fun q hq => ?_
      have a := sel_low q 0 (by omega) (by omega) p P h9
      have b := sel_low q 1 (by omega) (by omega) p P h9
      rw [if_neg (by omega), Nat.add_zero] at a
      rw [if_pos rfl] at b
      rw [a, b, List.length_cons, sgn_succ]
      have c : chi m (p :: selF q 0 P) = chi m (selF q 0 P) := by unfold chi; rw [List.all_cons, e, Bool.true_and]
      rw [c, Int.neg_mul]; omega
    · have e2 : prp m (p :: P) = prp m P := by
        unfold prp; rw [List.all_cons]
        have : (m.testBit p.1 != m.testBit p.2) = true := by simpa using e
        rw [this, Bool.true_and]
      rw [e2, ← ih (by omega)]
      refine sg_congr _ fun q hq => ?_
      have a := sel_low q 0 (by omega) (by omega) p P h9
      have b := sel_low q 1 (by omega) (by omega) p P h9
      rw [if_neg (by omega), Nat.add_zero] at a
      rw [if_pos rfl] at b
      have c : chi m (p :: selF q 0 P) = 0 := by unfold chi; rw [List.all_cons, Bool.eq_false_iff.2 e, Bool.false_and]; rfl
      rw [a, b, c]; omega
def cst (N : Nat) (c : Nat → Nat) (m : Nat) : Prop := ∀ v, v < N → m.testBit (c v) = m.testBit v
instance (N : Nat) (c : Nat → Nat) (m : Nat) : Decidable (cst N c m) := by unfold cst; infer_instance
theorem cst_succ (N : Nat) (c : Nat → Nat) (m : Nat) : cst (N + 1) c m ↔ cst N c m ∧ m.testBit (c N) = m.testBit N :=
  ⟨fun h => ⟨fun v hv => h v (by omega), h N (by omega)⟩, fun h v hv => by
    by_cases e : v = N
    · subst e; exact h.2
    · exact h.1 v (by omega)⟩
theorem cst_count (c : Nat → Nat) (hc : Good c) (N : Nat) : sg (fun m => if cst N c m then 1 else 0) (2 ^ N) = 2 ^ fx N c := by
  induction N with
  | zero =>
    show (0 : Int) + (if cst 0 c 0 then 1 else 0) = 1
    rw [if_pos (show cst 0 c 0 from fun v hv => absurd hv (by omega))]; rfl
  | succ N ih =>
    have low : ∀ m v, v < N → (2 ^ N + m).testBit v = m.testBit v := fun m v hv => Nat.testBit_two_pow_add_gt hv m
    have hi : ∀ m, m < 2 ^ N → (2 ^ N + m).testBit N = true := fun m hm => by rw [Nat.testBit_two_pow_add_eq, Nat.testBit_lt_two_pow hm]; rfl
    have lo : ∀ m, m < 2 ^ N → m.testBit N = false := fun m hm => Nat.testBit_lt_two_pow hm
    have same : ∀ m, m < 2 ^ N → (cst N c (2 ^ N + m) ↔ cst N c m) := fun m hm => by
      have h : ∀ v, v < N → ((2 ^ N + m).testBit (c v) = (2 ^ N + m).testBit v ↔ m.testBit (c v) = m.testBit v) := fun v hv => by
        rw [low m v hv, low m (c v) (by have := (hc v).1; omega)]
      exact ⟨fun a v hv => (h v hv).1 (a v hv), fun a v hv => (h v hv).2 (a v hv)⟩
    rw [Nat.pow_succ, Nat.mul_two, sg_split, ← sg_add]
    have ef : fx (N + 1) c = fx N c + if c N = N then 1 else 0 := rfl
    rw [ef]
    by_cases q : c N = N
    · rw [if_pos q, Int.pow_succ, ← ih, Int.mul_comm, ← sg_mul]
      refine sg_congr _ fun m hm => ?_
      have a : cst (N + 1) c m ↔ cst N c m := by rw [cst_succ, q]; simp
      have b : cst (N + 1) c (2 ^ N + m) ↔ cst N c m := by rw [cst_succ, q, same m hm]; simp
      by_cases z : cst N c m
      · rw [if_pos z, if_pos (a.2 z), if_pos (b.2 z)]; rfl
      · rw [if_neg z, if_neg (fun w => z (a.1 w)), if_neg (fun w => z (b.1 w))]; rfl
    · rw [if_neg q]
      show _ = (2 : Int) ^ fx N c
      rw [← ih]
      have hN : c N < N := by have := (hc N).1; omega
      refine sg_congr _ fun m hm => ?_
      have a : cst (N + 1) c m ↔ cst N c m ∧ m.testBit (c N) = false := by rw [cst_succ, lo m hm]
      have b : cst (N + 1) c (2 ^ N + m) ↔ cst N c m ∧ m.testBit (c N) = true := by rw [cst_succ, same m hm, hi m hm, low m _ hN]
      by_cases z : cst N c m
      · rw [if_pos z]
        cases t : m.testBit (c N)
        · rw [if_pos (a.2 ⟨z, t⟩), if_neg (fun w => by have := (b.1 w).2; rw [t] at this; cases this)]; rfl
        · rw [if_pos (b.2 ⟨z, t⟩), if_neg (fun w => by have := (a.1 w).2; rw [t] at this; cases this)]; rfl
      · rw [if_neg z, if_neg (fun w => z (a.1 w).1), if_neg (fun w => z (b.1 w).1)]; rfl
theorem chi_cst (N m : Nat) (S : List (Nat × Nat)) (hS : ∀ p ∈ S, p.1 < N ∧ p.2 < N) : chi m S = if cst N (cl S) m then 1 else 0 := by
  have key : S.all (fun p => m.testBit p.1 == m.testBit p.2) = true ↔ cst N (cl S) m := by
    rw [List.all_eq_true]
    constructor
    · intro h v _
      have := fold_resp (fun v => (m.testBit v).toNat) S (fun v => v) (fun _ => rfl) (fun p hp => by
        have h1 : (m.testBit p.1 == m.testBit p.2) = true := h p hp
        rw [beq_iff_eq] at h1
        show (m.testBit p.1).toNat = (m.testBit p.2).toNat
        rw [h1]) v
      show m.testBit (S.foldl stp (fun v => v) v) = m.testBit v
      revert this
      show (m.testBit (S.foldl stp (fun v => v) v)).toNat = (m.testBit v).toNat → _
      cases m.testBit (S.foldl stp (fun v => v) v) <;> cases m.testBit v <;> simp
    · intro h p hp
      have j := fold_joins S (fun v => v) p hp
      have a := h p.1 (hS p hp).1; have b := h p.2 (hS p hp).2
      rw [beq_iff_eq, ← a, ← b]
      show m.testBit (S.foldl stp (fun v => v) p.1) = m.testBit (S.foldl stp (fun v => v) p.2)
      rw [j]
  unfold chi
  by_cases z : cst N (cl S) m
  · rw [if_pos z, if_pos (key.2 z)]
  · rw [if_neg z, if_neg (fun w => z (key.1 w))]
theorem whitney (N : Nat) (P : List (Nat × Nat)) (g : G8 N P) : sg (fun c => sgn (selF c 0 P).length * 2 ^ fx N (cl (selF c 0 P))) (2 ^ P.length) = sg (fun m => if prp m P = true then 1 else 0) (2 ^ N) := by
  rw [sg_congr (2 ^ N) (fun m _ => (sign_sum m P g.len).symm), ← sg_swap]
  refine sg_congr _ fun c _ => ?_
  rw [sg_mul, ← cst_count (cl (selF c 0 P)) (fold_good _ _ good_id) N]
  congr 1
  exact sg_congr _ fun m _ => (chi_cst N m _ fun p hp => g.ends p (selF_mem c P 0 p hp)).symm
end Go.Proofs.Ytaahcjjhmejljaa.Q
end
section
namespace Go.Proofs.Ytaahcjjhmejljaa.Q
open Go.RowKit Go.Proofs.Ytaahcjjhmejljaa.X Go.Proofs.YtaahcjjhmejljaaW.PrintWords Go.Proofs.YtaahcjjhmejljaaW.PrintLast Go.Proofs.YtaahcjjhmejljaaW.PrintMore
set_option linter.unusedVariables false
def tot : List (List Int) → Nat
  | [] => 0
  | l :: r => l.length + tot r
def mkE : List (List Int) → Int → List (List Int)
  | [], _ => []
  | l :: r, a => marks l.length a :: mkE r (a + (l.length : Int))
end Go.Proofs.Ytaahcjjhmejljaa.Q
end
section
namespace Go.Proofs.Ytaahcjjhmejljaa.Q
open Go.RowKit Go.Proofs.Ytaahcjjhmejljaa.X Go.Proofs.YtaahcjjhmejljaaW.PrintWords Go.Proofs.YtaahcjjhmejljaaW.PrintLast Go.Proofs.YtaahcjjhmejljaaW.PrintMore
set_option linter.unusedVariables false
end Go.Proofs.Ytaahcjjhmejljaa.Q
end
section
namespace Go.Proofs.Ytaahcjjhmejljaa.Q
open Go.RowKit Go.Proofs.Ytaahcjjhmejljaa.X Go.Proofs.YtaahcjjhmejljaaW.PrintWords Go.Proofs.YtaahcjjhmejljaaW.PrintLast Go.Proofs.YtaahcjjhmejljaaW.PrintMore
set_option linter.unusedVariables false
end Go.Proofs.Ytaahcjjhmejljaa.Q
end
section
namespace Go.Proofs.Ytaahcjjhmejljaa.Q
open Go.RowKit Go.Proofs.Ytaahcjjhmejljaa.X Go.Proofs.YtaahcjjhmejljaaW.PrintWords Go.Proofs.YtaahcjjhmejljaaW.PrintLast Go.Proofs.YtaahcjjhmejljaaW.PrintMore
set_option linter.unusedVariables false
def Shp (a b : Nat) (x : List (List Int)) : Prop := x.length = a ∧ ∀ i : Nat, i < a → (rd_L1 x (i : Int)).length = b
theorem shp_put {a b : Nat} {x : List (List Int)} (h : Shp a b x) (i j v : Int) : Shp a b (x.set i.toNat ((rd_L1 x i).set j.toNat v)) :=
  ⟨by rw [List.length_set]; exact h.1, fun q hq => (put_len x i j v (q : Int)).trans (h.2 q hq)⟩
theorem shp_rep (a b : Nat) : Shp a b (List.replicate a (List.replicate b 0)) :=
  ⟨by simp, fun i hi => by rw [rdL _ _ (by simpa using hi)]; simp⟩
theorem shp_mem {a b : Nat} {x : List (List Int)} (h : Shp a b x) : ∀ l ∈ x, l.length = b := by
  intro l hl
  obtain ⟨i, hi, rfl⟩ := List.getElem_of_mem hl
  have := h.2 i (by rw [← h.1]; exact hi)
  rwa [rdL _ _ hi] at this
theorem tab_l (N : Nat) (P : List (Nat × Nat)) (g : G8 N P) (R : Nat) (hR : (R : Int) = (N : Int) - (fx N (cl P) : Int)) (d : Nat) : ∀ (i : Nat) (x : List (List Int)), i + d = 2 ^ P.length → Shp (R + 1) (P.length - R + 1) x →
    ∃ y : List (List Int), Shp (R + 1) (P.length - R + 1) y ∧ Ev (fun k => spec_SubsetTable.l1 k ((2 ^ P.length : Nat) : Int) (R : Int) x (i : Int) (N : Int) (edg P)) (y, 0) ∧ Ev (fun k => impl_SubsetTable.l1 k (R : Int) x ((2 ^ P.length : Nat) : Int) (i : Int) (N : Int) (edg P)) (y, 0) := by
  have h8 := g.hi; have h10 := g.len; have hlo := g.lo
  have hp : 2 ^ P.length ≤ 1024 := by
    have : 2 ^ P.length ≤ 2 ^ 10 := Nat.pow_le_pow_right (by omega) h10
    omega
  have hps := parts_size N P
  have hpl := fx_le N (cl P)
  induction d with
  | zero =>
    intro i x hi hx
    exact ⟨x, hx, Ev.step (fun _ => rfl) (evF (by omega) (evN rfl)), Ev.step (fun _ => rfl) (evF (by omega) (evN rfl))⟩
  | succ d ih =>
    intro i x hi hx
    obtain ⟨S, I⟩ := parts_exact N P g i
    obtain ⟨s1, s2⟩ := size_exact P h10 i (by omega)
    obtain ⟨b1, b2, b3, b4⟩ := table_bounds N P i
    have hsl := selF_length i P 0
    generalize fx N (cl (selF i 0 P)) = q at S I b1 b2 b3 b4
    generalize (selF i 0 P).length = s at s1 s2 b3 b4 hsl
    have iw : wrap64 ((R : Int) - ((N : Int) - (q : Int))) = ((R - (N - q) : Nat) : Int) := by rw [wid (by omega) (by omega)]; omega
    have jw : wrap64 ((s : Int) - ((N : Int) - (q : Int))) = ((s - (N - q) : Nat) : Int) := by rw [wid (by omega) (by omega)]; omega
    have hw : wrap64 ((N : Int) - (q : Int)) = (N : Int) - (q : Int) := wid (by omega) (by omega)
    have hlen : ((rd_L1 x ((R - (N - q) : Nat) : Int)).length : Int) = ((P.length - R + 1 : Nat) : Int) := by rw [hx.2 _ (by omega)]
    obtain ⟨y, hy, a, b⟩ := ih (i + 1) (x.set (((R - (N - q) : Nat) : Int)).toNat ((rd_L1 x ((R - (N - q) : Nat) : Int)).set (((s - (N - q) : Nat) : Int)).toNat (wrap64 (rd (rd_L1 x ((R - (N - q) : Nat) : Int)) ((s - (N - q) : Nat) : Int) + 1)))) (by omega) (shp_put hx _ _ _)
    rw [← wnat (i := i) (n := 2048) (by omega) (by omega)] at a b
    refine ⟨y, hy, Ev.step (fun _ => rfl) (evT (by omega) (Ev.bind S ?_)), Ev.step (fun _ => rfl) (evT (by omega) (Ev.bind (a := (N : Int) - (q : Int)) ?_ ?_))⟩
    · rw [iw]
      refine evT (by omega) (evT (by rw [hx.1]; omega) (Ev.bind s1 ?_))
      rw [jw]
      exact evT (by omega) (evT (by rw [hlen]; omega) a)
    · unfold impl_Graph_rankWith.f
      refine Ev.bind I (evN ?_)
      rw [hw]
    · rw [iw]
      refine evT (by omega) (evT (by rw [hx.1]; omega) (Ev.bind s2 ?_))
      rw [jw]
      exact evT (by omega) (evT (by rw [hlen]; omega) b)
theorem rowsS_l (N : Nat) (P : List (Nat × Nat)) (h10 : P.length ≤ 10) (R : Nat) (hR : R ≤ P.length) (Z : List (List Int) × Int)
    (hZ : Ev (fun k => spec_SubsetTable.l1 k ((2 ^ P.length : Nat) : Int) (R : Int) (List.replicate (R + 1) (List.replicate (P.length - R + 1) 0)) 0 (N : Int) (edg P)) Z) (d : Nat) : ∀ i : Nat, i + d = R + 1 →
    Ev (fun k => spec_SubsetTable.l0 k ((2 ^ P.length : Nat) : Int) (R : Int) (P.length : Int) (List.replicate i (List.replicate (P.length - R + 1) 0)) (i : Int) (N : Int) (edg P)) Z := by
  have hw : wrap64 (wrap64 ((P.length : Int) - (R : Int)) + 1) = ((P.length - R + 1 : Nat) : Int) := by rw [wid (x := (P.length : Int) - (R : Int)) (by omega) (by omega), wid (by omega) (by omega)]; omega
  induction d with
  | zero => intro i hi; obtain rfl : i = R + 1 := by omega
            exact Ev.step (fun _ => rfl) (evF (by omega) hZ)
  | succ d ih =>
    intro i hi
    refine Ev.step (fun _ => rfl) (evT (by omega) ?_)
    rw [hw]
    refine evT (by omega) (evT (by omega) (evT (by simp; omega) ?_))
    rw [wnat (n := R + 1) (by omega) (by omega), Int.toNat_natCast, ← List.replicate_succ']
    exact ih (i + 1) (by omega)
theorem rowsI_l (N : Nat) (P : List (Nat × Nat)) (h10 : P.length ≤ 10) (R : Nat) (hR : R ≤ P.length) (Z : List (List Int) × Int)
    (hZ : Ev (fun k => impl_SubsetTable.l1 k (R : Int) (List.replicate (R + 1) (List.replicate (P.length - R + 1) 0)) ((2 ^ P.length : Nat) : Int) 0 (N : Int) (edg P)) Z) (d : Nat) : ∀ i : Nat, i + d = R + 1 →
    Ev (fun k => impl_SubsetTable.l0 k (R : Int) (List.replicate i (List.replicate (P.length - R + 1) 0)) ((R + 1 : Nat) : Int) (i : Int) (N : Int) (edg P)) Z := by
  have hw : wrap64 (wrap64 ((P.length : Int) - (R : Int)) + 1) = ((P.length - R + 1 : Nat) : Int) := by rw [wid (x := (P.length : Int) - (R : Int)) (by omega) (by omega), wid (by omega) (by omega)]; omega
  have hz : impl_Graph_size.f (N : Int) (edg P) = some (P.length : Int) := by unfold impl_Graph_size.f; rw [edg_length]
  induction d with
  | zero =>
    intro i hi; obtain rfl : i = R + 1 := by omega
    refine Ev.step (fun _ => rfl) (evF (by omega) (evB hz (evT (by omega) ?_)))
    rw [shlE _ h10]; exact hZ
  | succ d ih =>
    intro i hi
    refine Ev.step (fun _ => rfl) (evT (by omega) (evB hz ?_))
    rw [hw]
    refine evT (by omega) (evT (by omega) (evT (by simp; omega) ?_))
    rw [wnat (n := R + 1) (by omega) (by omega), Int.toNat_natCast, ← List.replicate_succ']
    exact ih (i + 1) (by omega)
theorem full_has (m i : Nat) (hm : m ≤ 10) (hi : i < m) : hasB (2 ^ m - 1) i := by
  have h := fullB ⟨m, by omega⟩ ⟨i, by omega⟩
  exact h hi
theorem sel_all (P : List (Nat × Nat)) (h10 : P.length ≤ 10) : selF (2 ^ P.length - 1) 0 P = P := by
  generalize hc : 2 ^ P.length - 1 = c
  refine sel_full P c (fun i hi => ?_)
  rw [← hc]; exact full_has _ i h10 hi
theorem st_both (n : Int) (E : List (List Int)) (hE : E.length ≤ 1048576) : ∃ L cd, L.length ≤ 1048576 ∧ (∀ l ∈ L, l.length ≤ 1048576) ∧ Ev (fun k => spec_SubsetTable.f k n E) (L, cd) ∧ Ev (fun k => impl_SubsetTable.f k n E) (L, cd) := by
  have h1 := isSpec n E hE; have h2 := isImpl n E hE
  unfold spec_SubsetTable.f impl_SubsetTable.f
  by_cases h : VG n E = true
  · rw [h] at h1 h2
    obtain ⟨N, P, rfl, rfl, g⟩ := VG_true h
    have h8 := g.hi; have h10 := g.len
    have hps := parts_size N P
    have hpl := fx_le N (cl P)
    have hp : 2 ^ P.length ≤ 1024 := by
      have : 2 ^ P.length ≤ 2 ^ 10 := Nat.pow_le_pow_right (by omega) h10
      omega
    have hp1 : 1 ≤ 2 ^ P.length := Nat.one_le_two_pow
    obtain ⟨R, hR⟩ : ∃ R : Nat, R = N - fx N (cl P) := ⟨_, rfl⟩
    obtain ⟨y, hy, a, b⟩ := tab_l N P g R (by omega) (2 ^ P.length) 0 _ (by omega) (shp_rep (R + 1) (P.length - R + 1))
    have s0 := rowsS_l N P h10 R (by omega) (y, 0) a (R + 1) 0 (by omega)
    have i0 := rowsI_l N P h10 R (by omega) (y, 0) b (R + 1) 0 (by omega)
    obtain ⟨SR, _⟩ := parts_exact N P g (2 ^ P.length - 1)
    rw [sel_all P h10] at SR
    have eR : (N : Int) - (fx N (cl P) : Int) = (R : Int) := by omega
    rw [eR] at SR
    have hu : 0 ≤ IntKind.u64.wrap (((edg P).length : Int)) := by rw [edg_length, u64wE _ h10]; omega
    have hs : shl .i64 1 (IntKind.u64.wrap (((edg P).length : Int))) = ((2 ^ P.length : Nat) : Int) := by rw [edg_length, u64wE _ h10, shlE _ h10]
    have hw1 : wrap64 (((2 ^ P.length : Nat) : Int) - 1) = ((2 ^ P.length - 1 : Nat) : Int) := by rw [wid (by omega) (by omega)]; omega
    have hw2 : wrap64 ((N : Int) - ((fx N (cl P) : Nat) : Int)) = (R : Int) := by rw [wid (by omega) (by omega)]; omega
    refine ⟨y, 0, by rw [hy.1]; omega, fun l hl => by rw [shp_mem hy l hl]; omega, Ev.bind h1 (evT rfl (evT hu ?_)), Ev.bind h2 (evT rfl (Ev.bind (partsAll N P g) ?_))⟩
    · rw [hs, hw1]
      refine Ev.bind SR ?_
      rw [edg_length]; exact s0
    · rw [hw2, wnat (i := R) (n := R + 1) (by omega) (by omega)]; exact i0
  · rw [Bool.eq_false_iff.2 h] at h1 h2
    exact ⟨[], 1, by simp, by simp, Ev.bind h1 (evF (by simp) (evN rfl)), Ev.bind h2 (evF (by simp) (evN rfl))⟩
end Go.Proofs.Ytaahcjjhmejljaa.Q
end
section
namespace Go.Proofs.Ytaahcjjhmejljaa.Q
open Go.RowKit Go.Proofs.Ytaahcjjhmejljaa.X Go.Proofs.YtaahcjjhmejljaaW.PrintWords Go.Proofs.YtaahcjjhmejljaaW.PrintLast Go.Proofs.YtaahcjjhmejljaaW.PrintMore
set_option linter.unusedVariables false
theorem cf_l (N : Nat) (P : List (Nat × Nat)) (g : G8 N P) (d : Nat) : ∀ (i a : Nat) (x : List Int), i + d = 2 ^ P.length → x.length = a → a ≤ i → ∃ y : List Int, Ev (fun k => spec_l05Count.l0 k true (a : Int) (i : Int) (N : Int) (edg P)) (y.length : Int) ∧ Ev (fun k => impl_Graph_subsets_of_Graph_isForest.l0 k x ((2 ^ P.length : Nat) : Int) (i : Int) (N : Int) (edg P)) y := by
  have h8 := g.hi; have h10 := g.len; have hlo := g.lo
  have hp : 2 ^ P.length ≤ 1024 := by
    have : 2 ^ P.length ≤ 2 ^ 10 := Nat.pow_le_pow_right (by omega) h10
    omega
  have hs : shl .i64 1 (IntKind.u64.wrap (((edg P).length : Int))) = ((2 ^ P.length : Nat) : Int) := by rw [edg_length, u64wE _ h10, shlE _ h10]
  have hu : 0 ≤ IntKind.u64.wrap (((edg P).length : Int)) := by rw [edg_length, u64wE _ h10]; omega
  induction d with
  | zero =>
    intro i a x hi hx ha
    refine ⟨x, Ev.step (fun _ => rfl) (evT hu (evF (by rw [hs]; omega) (evN (by rw [hx])))), Ev.step (fun _ => rfl) (evF (by omega) (evN rfl))⟩
  | succ d ih =>
    intro i a x hi hx ha
    obtain ⟨q, hq, S, I⟩ := parts_both N P g i
    obtain ⟨s, hs10, s1, s2⟩ := size_both i (by omega)
    have hw : wrap64 ((N : Int) - (q : Int)) = (N : Int) - (q : Int) := wid (by omega) (by omega)
    rw [hw] at S
    have C : Ev (fun k => impl_Graph_isForest.f k (N : Int) (edg P) (i : Int)) (((N : Int) - (q : Int)) == (s : Int)) := by
      unfold impl_Graph_isForest.f impl_Graph_rankWith.f
      refine Ev.bind (Ev.bind I (evN rfl)) ?_
      rw [hw]
      exact Ev.bind s2 (evN rfl)
    have A : ∀ (a' : Nat) r, ((N : Int) - q = s → a' = a + 1) → ((N : Int) - q ≠ s → a' = a) → Ev (fun k => spec_l05Count.l0 k true (a' : Int) ((i + 1 : Nat) : Int) (N : Int) (edg P)) r → Ev (fun k => spec_l05Count.l0 k true (a : Int) (i : Int) (N : Int) (edg P)) r := by
      intro a' r e1 e2 h
      have st : ∀ b : Bool, b = true → Ev (fun k => spec_l05Count.l0 k b (a' : Int) ((i + 1 : Nat) : Int) (N : Int) (edg P)) r → Ev (fun k => spec_l05Count.l0 k b (a : Int) (i : Int) (N : Int) (edg P)) r := by
        intro b hb h
        refine Ev.step (fun _ => rfl) (evT hu (evT (by rw [hs]; omega) (Ev.bind S (evT (by simp [hb]) (Ev.bind s1 ?_)))))
        rw [wnat (i := i) (n := 2048) (by omega) (by omega)]
        by_cases c : (N : Int) - q = s
        · refine evT c ?_
          rw [wnat (i := a) (n := 2048) (by omega) (by omega), ← e1 c]; exact h
        · refine evF c ?_
          rw [← e2 c]; exact h
      exact st true rfl h
    have B : ∀ (x' : List Int) r, ((N : Int) - q = s → x' = x ++ [(i : Int)]) → ((N : Int) - q ≠ s → x' = x) → Ev (fun k => impl_Graph_subsets_of_Graph_isForest.l0 k x' ((2 ^ P.length : Nat) : Int) ((i + 1 : Nat) : Int) (N : Int) (edg P)) r → Ev (fun k => impl_Graph_subsets_of_Graph_isForest.l0 k x ((2 ^ P.length : Nat) : Int) (i : Int) (N : Int) (edg P)) r := by
      intro x' r e1 e2 h
      refine Ev.step (fun _ => rfl) (evT (by omega) (Ev.bind C ?_))
      rw [wnat (n := 2048) (by omega) (by omega)]
      by_cases c : (N : Int) - q = s
      · refine evT (by simpa using c) (evT (by omega) ?_)
        rw [← e1 c]; exact h
      · refine evF (by simpa using c) ?_
        rw [← e2 c]; exact h
    by_cases c : (N : Int) - q = s
    · obtain ⟨y, h1, h2⟩ := ih (i + 1) (a + 1) (x ++ [(i : Int)]) (by omega) (by simp [hx]) (by omega)
      exact ⟨y, A (a + 1) _ (fun _ => rfl) (fun z => absurd c z) h1, B _ y (fun _ => rfl) (fun z => absurd c z) h2⟩
    · obtain ⟨y, h1, h2⟩ := ih (i + 1) a x (by omega) hx (by omega)
      exact ⟨y, A a _ (fun z => absurd z c) (fun _ => rfl) h1, B _ y (fun z => absurd z c) (fun _ => rfl) h2⟩
theorem cf_both (n : Int) (E : List (List Int)) (hE : E.length ≤ 1048576) : ∃ r, Ev (fun k => spec_CountForests.f k n E) r ∧ Ev (fun k => impl_CountForests.f k n E) r := by
  have h1 := isSpec n E hE; have h2 := isImpl n E hE
  unfold spec_CountForests.f impl_CountForests.f impl_counted_of_Graph_isForest.f
  by_cases h : VG n E = true
  · rw [h] at h1 h2
    obtain ⟨N, P, rfl, rfl, g⟩ := VG_true h
    obtain ⟨y, a, b⟩ := cf_l N P g (2 ^ P.length) 0 0 [] (by omega) rfl (by omega)
    have S : Ev (fun k => spec_l05Count.f k (N : Int) (edg P) true) (y.length : Int) := a
    have I : Ev (fun k => impl_Graph_subsets_of_Graph_isForest.f k (N : Int) (edg P) (N : Int) (edg P)) y := by
      unfold impl_Graph_subsets_of_Graph_isForest.f
      refine evB (a := (P.length : Int)) (by unfold impl_Graph_size.f; rw [edg_length]) (evT (by omega) ?_)
      rw [shlE _ g.len]; exact b
    exact ⟨((y.length : Int), 0), Ev.bind h1 (evT rfl (Ev.bind S (evN rfl))), Ev.bind (Ev.bind h2 (evT rfl (Ev.bind I (evN rfl)))) (evN rfl)⟩
  · rw [Bool.eq_false_iff.2 h] at h1 h2
    exact ⟨(0, 1), Ev.bind h1 (evF (by simp) (evN rfl)), Ev.bind (Ev.bind h2 (evF (by simp) (evN rfl))) (evN rfl)⟩
end Go.Proofs.Ytaahcjjhmejljaa.Q
end
section
namespace Go.Proofs.Ytaahcjjhmejljaa.Q
open Go.RowKit Go.Proofs.Ytaahcjjhmejljaa.X Go.Proofs.YtaahcjjhmejljaaW.PrintWords Go.Proofs.YtaahcjjhmejljaaW.PrintLast Go.Proofs.YtaahcjjhmejljaaW.PrintMore
set_option linter.unusedVariables false
theorem cc_l (N : Nat) (P : List (Nat × Nat)) (g : G8 N P) (d : Nat) : ∀ (i a : Nat) (x : List Int), i + d = 2 ^ P.length → x.length = a → a ≤ i → ∃ y : List Int, Ev (fun k => spec_l05Count.l0 k false (a : Int) (i : Int) (N : Int) (edg P)) (y.length : Int) ∧ Ev (fun k => impl_Graph_subsets_of_CountConnected_1.l0 k x ((2 ^ P.length : Nat) : Int) (i : Int) (N : Int) (edg P)) y := by
  have h8 := g.hi; have h10 := g.len; have hlo := g.lo
  have hp : 2 ^ P.length ≤ 1024 := by
    have : 2 ^ P.length ≤ 2 ^ 10 := Nat.pow_le_pow_right (by omega) h10
    omega
  have hs : shl .i64 1 (IntKind.u64.wrap (((edg P).length : Int))) = ((2 ^ P.length : Nat) : Int) := by rw [edg_length, u64wE _ h10, shlE _ h10]
  have hu : 0 ≤ IntKind.u64.wrap (((edg P).length : Int)) := by rw [edg_length, u64wE _ h10]; omega
  have w2 : wrap64 ((N : Int) - 1) = (N : Int) - 1 := wid (by omega) (by omega)
  induction d with
  | zero =>
    intro i a x hi hx ha
    refine ⟨x, Ev.step (fun _ => rfl) (evT hu (evF (by rw [hs]; omega) (evN (by rw [hx])))), Ev.step (fun _ => rfl) (evF (by omega) (evN rfl))⟩
  | succ d ih =>
    intro i a x hi hx ha
    obtain ⟨q, hq, S, I⟩ := parts_both N P g i
    rw [wid (by omega) (by omega)] at S
    have C : Ev (fun k => impl_CountConnected_1_c.f k (i : Int) (N : Int) (edg P)) ((q : Int) == 1) := by
      unfold impl_CountConnected_1_c.f; exact Ev.bind I (evN rfl)
    have A : ∀ (a' : Nat) r, (q = 1 → a' = a + 1) → (q ≠ 1 → a' = a) → Ev (fun k => spec_l05Count.l0 k false (a' : Int) ((i + 1 : Nat) : Int) (N : Int) (edg P)) r → Ev (fun k => spec_l05Count.l0 k false (a : Int) (i : Int) (N : Int) (edg P)) r := by
      intro a' r e1 e2 h
      have st : ∀ b : Bool, b = false → Ev (fun k => spec_l05Count.l0 k b (a' : Int) ((i + 1 : Nat) : Int) (N : Int) (edg P)) r → Ev (fun k => spec_l05Count.l0 k b (a : Int) (i : Int) (N : Int) (edg P)) r := by
        intro b hb h
        refine Ev.step (fun _ => rfl) (evT hu (evT (by rw [hs]; omega) (Ev.bind S (evF (by simp [hb]) ?_))))
        rw [w2, wnat (i := i) (n := 2048) (by omega) (by omega)]
        by_cases c : q = 1
        · refine evT (by omega) ?_
          rw [wnat (i := a) (n := 2048) (by omega) (by omega), ← e1 c]; exact h
        · refine evF (by omega) ?_
          rw [← e2 c]; exact h
      exact st false rfl h
    have B : ∀ (x' : List Int) r, (q = 1 → x' = x ++ [(i : Int)]) → (q ≠ 1 → x' = x) → Ev (fun k => impl_Graph_subsets_of_CountConnected_1.l0 k x' ((2 ^ P.length : Nat) : Int) ((i + 1 : Nat) : Int) (N : Int) (edg P)) r → Ev (fun k => impl_Graph_subsets_of_CountConnected_1.l0 k x ((2 ^ P.length : Nat) : Int) (i : Int) (N : Int) (edg P)) r := by
      intro x' r e1 e2 h
      refine Ev.step (fun _ => rfl) (evT (by omega) (Ev.bind C ?_))
      rw [wnat (n := 2048) (by omega) (by omega)]
      by_cases c : q = 1
      · refine evT (by rw [c]; rfl) (evT (by omega) ?_)
        rw [← e1 c]; exact h
      · refine evF (by simp; omega) ?_
        rw [← e2 c]; exact h
    by_cases c : q = 1
    · obtain ⟨y, h1, h2⟩ := ih (i + 1) (a + 1) (x ++ [(i : Int)]) (by omega) (by simp [hx]) (by omega)
      exact ⟨y, A (a + 1) _ (fun _ => rfl) (fun z => absurd c z) h1, B _ y (fun _ => rfl) (fun z => absurd c z) h2⟩
    · obtain ⟨y, h1, h2⟩ := ih (i + 1) a x (by omega) hx (by omega)
      exact ⟨y, A a _ (fun z => absurd z c) (fun _ => rfl) h1, B _ y (fun z => absurd z c) (fun _ => rfl) h2⟩
theorem cc_both (n : Int) (E : List (List Int)) (hE : E.length ≤ 1048576) : ∃ r, Ev (fun k => spec_CountConnected.f k n E) r ∧ Ev (fun k => impl_CountConnected.f k n E) r := by
  have h1 := isSpec n E hE; have h2 := isImpl n E hE
  unfold spec_CountConnected.f impl_CountConnected.f impl_counted_of_CountConnected_1.f
  by_cases h : VG n E = true
  · rw [h] at h1 h2
    obtain ⟨N, P, rfl, rfl, g⟩ := VG_true h
    obtain ⟨y, a, b⟩ := cc_l N P g (2 ^ P.length) 0 0 [] (by omega) rfl (by omega)
    have S : Ev (fun k => spec_l05Count.f k (N : Int) (edg P) false) (y.length : Int) := a
    have I : Ev (fun k => impl_Graph_subsets_of_CountConnected_1.f k (N : Int) (edg P) (N : Int) (edg P)) y := by
      unfold impl_Graph_subsets_of_CountConnected_1.f
      refine evB (a := (P.length : Int)) (by unfold impl_Graph_size.f; rw [edg_length]) (evT (by omega) ?_)
      rw [shlE _ g.len]; exact b
    exact ⟨((y.length : Int), 0), Ev.bind h1 (evT rfl (Ev.bind S (evN rfl))), Ev.bind (Ev.bind h2 (evT rfl (Ev.bind I (evN rfl)))) (evN rfl)⟩
  · rw [Bool.eq_false_iff.2 h] at h1 h2
    exact ⟨(0, 1), Ev.bind h1 (evF (by simp) (evN rfl)), Ev.bind (Ev.bind h2 (evF (by simp) (evN rfl))) (evN rfl)⟩
end Go.Proofs.Ytaahcjjhmejljaa.Q
end
section
namespace Go.Proofs.Ytaahcjjhmejljaa.Q
open Go.RowKit Go.Proofs.Ytaahcjjhmejljaa.X Go.Proofs.YtaahcjjhmejljaaW.PrintWords Go.Proofs.YtaahcjjhmejljaaW.PrintLast Go.Proofs.YtaahcjjhmejljaaW.PrintMore
set_option linter.unusedVariables false
theorem Ev.uniq {α : Type} {g : Nat → Option α} {a b : α} (h : Ev g a) (k : Ev g b) : a = b := by
  obtain ⟨K, h⟩ := h; obtain ⟨L, k⟩ := k
  have e := (h (K + L) (by omega)).symm.trans (k (K + L) (by omega))
  exact Option.some.inj e
def qF (N : Nat) (P : List (Nat × Nat)) (c : Nat) : Nat := fx N (cl (selF c 0 P))
def sF (P : List (Nat × Nat)) (c : Nat) : Nat := (selF c 0 P).length
def forB (N : Nat) (P : List (Nat × Nat)) (c : Nat) : Bool := decide (N = qF N P c + sF P c)
def conB (N : Nat) (P : List (Nat × Nat)) (c : Nat) : Bool := decide (qF N P c = 1)
def treB (N : Nat) (P : List (Nat × Nat)) (c : Nat) : Bool := forB N P c && conB N P c
def cnB (p : Nat → Bool) (n : Nat) : Int := sg (fun c => if p c = true then 1 else 0) n
theorem subs_l (F : Nat → List Int → Int → Option (List Int)) (C : Nat → Int → Option Bool) (M : Nat) (hM : M ≤ 1024) (p : Nat → Bool)
    (hF : ∀ k x i, F (k + 1) x i = if i < (M : Int) then ((C k i).bind fun t => if t = true then (if x.length < 17592186044416 then F k (x ++ [i]) (wrap64 (i + 1)) else none) else F k x (wrap64 (i + 1))) else some x)
    (hC : ∀ i : Nat, i < M → Ev (fun k => C k (i : Int)) (p i)) (d : Nat) : ∀ (i : Nat) (x : List Int), i + d = M → (x.length : Int) = cnB p i → ∃ y : List Int, Ev (fun k => F k x (i : Int)) y ∧ (y.length : Int) = cnB p M := by
  induction d with
  | zero => intro i x hi hx; obtain rfl : i = M := by omega
            exact ⟨x, Ev.step (fun k => hF k x (i : Int)) (evF (by omega) (evN rfl)), hx⟩
  | succ d ih =>
    intro i x hi hx
    have hl := (sg_01 p i).2.1
    have hx' := hx
    unfold cnB at hx'
    have e : cnB p (i + 1) = cnB p i + if p i = true then 1 else 0 := rfl
    by_cases c : p i = true
    · rw [if_pos c] at e
      obtain ⟨y, h, hy⟩ := ih (i + 1) (x ++ [(i : Int)]) (by omega) (by rw [List.length_append, List.length_singleton, e]; omega)
      refine ⟨y, Ev.step (fun k => hF k x (i : Int)) (evT (by omega) (Ev.bind (hC i (by omega)) (evT c (evT (by omega) ?_)))), hy⟩
      rw [wnat (n := 2048) (by omega) (by omega)]; exact h
    · rw [if_neg c] at e
      obtain ⟨y, h, hy⟩ := ih (i + 1) x (by omega) (by omega)
      refine ⟨y, Ev.step (fun k => hF k x (i : Int)) (evT (by omega) (Ev.bind (hC i (by omega)) (evF c ?_))), hy⟩
      rw [wnat (n := 2048) (by omega) (by omega)]; exact h
theorem p2 {P : List (Nat × Nat)} (h : P.length ≤ 10) : 2 ^ P.length ≤ 1024 := by
  have : 2 ^ P.length ≤ 2 ^ 10 := Nat.pow_le_pow_right (by omega) h
  omega
section
variable {N : Nat} {P : List (Nat × Nat)} (g : G8 N P)
include g
theorem fr_ (i : Nat) (hi : i < 2 ^ P.length) : Ev (fun k => impl_Graph_isForest.f k (N : Int) (edg P) (i : Int)) (forB N P i) := by
  have h8 := g.hi; have hl := fx_le N (cl (selF i 0 P))
  obtain ⟨_, I⟩ := parts_exact N P g i
  obtain ⟨_, s2⟩ := size_exact P g.len i hi
  unfold impl_Graph_isForest.f impl_Graph_rankWith.f
  refine Ev.bind (Ev.bind I (evN rfl)) (Ev.bind s2 (evN ?_))
  rw [wid (by omega) (by omega)]
  unfold forB qF sF
  by_cases c : N = fx N (cl (selF i 0 P)) + (selF i 0 P).length
  · rw [decide_eq_true c]; congr 1; rw [beq_iff_eq]; omega
  · rw [decide_eq_false c]; congr 1; rw [beq_eq_false_iff_ne]; omega
theorem co_ (i : Nat) : Ev (fun k => (impl_Graph_partsWith.f k (N : Int) (edg P) (i : Int)).bind fun t => some (t == 1)) (conB N P i) := by
  obtain ⟨_, I⟩ := parts_exact N P g i
  refine Ev.bind I (evN ?_)
  unfold conB qF
  by_cases c : fx N (cl (selF i 0 P)) = 1
  · rw [decide_eq_true c, c]; rfl
  · rw [decide_eq_false c]; congr 1; rw [beq_eq_false_iff_ne]; omega
theorem tre_ (i : Nat) (hi : i < 2 ^ P.length) : Ev (fun k => impl_Graph_isTree.f k (N : Int) (edg P) (i : Int)) (treB N P i) := by
  have a := fr_ g i hi; have b := co_ g i
  unfold impl_Graph_isTree.f treB
  cases c : forB N P i
  · rw [c] at a; exact Ev.bind a (evF (by simp) (evN rfl))
  · rw [c] at a; exact Ev.bind a (evT rfl b)
omit g in
theorem sz_ : impl_Graph_size.f (N : Int) (edg P) = some (P.length : Int) := by unfold impl_Graph_size.f; rw [edg_length]
theorem isg_ : Ev (fun k => impl_IsGraph.f k (N : Int) (edg P)) true := by
  have h10 := g.len; have h1 := g.lo; have h8 := g.hi
  have := isImpl (N : Int) (edg P) (by rw [edg_length]; omega)
  have e : VG (N : Int) (edg P) = true := by
    unfold VG
    simp only [Bool.and_eq_true, decide_eq_true_eq, List.all_eq_true]
    refine ⟨⟨by omega, by rw [edg_length]; omega⟩, fun e he => ?_⟩
    obtain ⟨p, hp, rfl⟩ := List.mem_map.1 he
    have := g.ends p hp
    simp [okE]; omega
  rwa [e] at this
theorem cfv : Ev (fun k => impl_CountForests.f k (N : Int) (edg P)) (cnB (forB N P) (2 ^ P.length), 0) := by
  obtain ⟨y, h, e⟩ := subs_l (fun k x i => impl_Graph_subsets_of_Graph_isForest.l0 k x ((2 ^ P.length : Nat) : Int) i (N : Int) (edg P)) (fun k i => impl_Graph_isForest.f k (N : Int) (edg P) i) (2 ^ P.length) (p2 g.len) (forB N P) (fun _ _ _ => rfl) (fr_ g) (2 ^ P.length) 0 [] (by omega) rfl
  unfold impl_CountForests.f impl_counted_of_Graph_isForest.f impl_Graph_subsets_of_Graph_isForest.f
  refine Ev.bind (Ev.bind (isg_ g) (evT rfl (Ev.bind (a := y) (evB sz_ (evT (by omega) ?_)) (evN rfl)))) (evN (by rw [e]))
  rw [shlE _ g.len]; exact h
theorem ccv : Ev (fun k => impl_CountConnected.f k (N : Int) (edg P)) (cnB (conB N P) (2 ^ P.length), 0) := by
  obtain ⟨y, h, e⟩ := subs_l (fun k x i => impl_Graph_subsets_of_CountConnected_1.l0 k x ((2 ^ P.length : Nat) : Int) i (N : Int) (edg P)) (fun k i => impl_CountConnected_1_c.f k i (N : Int) (edg P)) (2 ^ P.length) (p2 g.len) (conB N P) (fun _ _ _ => rfl) (fun i _ => co_ g i) (2 ^ P.length) 0 [] (by omega) rfl
  unfold impl_CountConnected.f impl_counted_of_CountConnected_1.f impl_Graph_subsets_of_CountConnected_1.f
  refine Ev.bind (Ev.bind (isg_ g) (evT rfl (Ev.bind (a := y) (evB sz_ (evT (by omega) ?_)) (evN rfl)))) (evN (by rw [e]))
  rw [shlE _ g.len]; exact h
theorem ctv : Ev (fun k => impl_CountTrees.f k (N : Int) (edg P)) (cnB (treB N P) (2 ^ P.length), 0) := by
  obtain ⟨y, h, e⟩ := subs_l (fun k x i => impl_Graph_subsets_of_Graph_isTree.l0 k x ((2 ^ P.length : Nat) : Int) i (N : Int) (edg P)) (fun k i => impl_Graph_isTree.f k (N : Int) (edg P) i) (2 ^ P.length) (p2 g.len) (treB N P) (fun _ _ _ => rfl) (tre_ g) (2 ^ P.length) 0 [] (by omega) rfl
  unfold impl_CountTrees.f impl_counted_of_Graph_isTree.f impl_Graph_subsets_of_Graph_isTree.f
  refine Ev.bind (Ev.bind (isg_ g) (evT rfl (Ev.bind (a := y) (evB sz_ (evT (by omega) ?_)) (evN rfl)))) (evN (by rw [e]))
  rw [shlE _ g.len]; exact h
end
def rs (w : Nat → Int) : List Int → Int
  | [] => 0
  | v :: l => w 0 * v + rs (fun j => w (j + 1)) l
def ts (w : Nat → Nat → Int) : List (List Int) → Int
  | [] => 0
  | r :: x => rs (w 0) r + ts (fun i => w (i + 1)) x
theorem rs_set (l : List Int) : ∀ (w : Nat → Int) (j : Nat) (v : Int), j < l.length → rs w (l.set j v) = rs w l + w j * (v - l.getD j 0) := by
  induction l with
  | nil => intro w j v h; simp at h
  | cons a l ih =>
    intro w j v h
    cases j with
    | zero => show w 0 * v + rs _ l = w 0 * a + rs _ l + w 0 * (v - a); rw [Int.mul_sub]; omega
    | succ j =>
      have := ih (fun j => w (j + 1)) j v (by simpa using h)
      show w 0 * a + rs _ (l.set j v) = w 0 * a + rs _ l + w (j + 1) * (v - l.getD j 0)
      rw [this]; omega
theorem ts_set (x : List (List Int)) : ∀ (w : Nat → Nat → Int) (i : Nat) (r : List Int), i < x.length → ts w (x.set i r) = ts w x - rs (w i) (x.getD i []) + rs (w i) r := by
  induction x with
  | nil => intro w j v h; simp at h
  | cons a l ih =>
    intro w j v h
    cases j with
    | zero => show rs (w 0) v + ts _ l = rs (w 0) a + ts _ l - rs (w 0) a + rs (w 0) v; omega
    | succ j =>
      have := ih (fun j => w (j + 1)) j v (by simpa using h)
      show rs (w 0) a + ts _ (l.set j v) = rs (w 0) a + ts _ l - rs (w (j + 1)) (l.getD j []) + rs (w (j + 1)) v
      rw [this]; omega
theorem rs_rep (b : Nat) : ∀ w, rs w (List.replicate b 0) = 0 := by
  induction b with
  | zero => intro w; rfl
  | succ b ih => intro w; show w 0 * 0 + rs _ (List.replicate b 0) = 0; rw [ih, Int.mul_zero]; rfl
theorem ts_rep (b a : Nat) : ∀ w, ts w (List.replicate a (List.replicate b 0)) = 0 := by
  induction a with
  | zero => intro w; rfl
  | succ a ih => intro w; show rs (w 0) _ + ts _ (List.replicate a _) = 0; rw [ih, rs_rep]; rfl
theorem rs_no (l : List Int) : ∀ w : Nat → Int, (∀ j, w j = 0) → rs w l = 0 := by
  induction l with
  | nil => intro w _; rfl
  | cons a l ih => intro w h; show w 0 * a + rs _ l = 0; rw [ih _ (fun j => h (j + 1)), h 0, Int.zero_mul]; rfl
theorem ts_no (x : List (List Int)) : ∀ w : Nat → Nat → Int, (∀ i j, w i j = 0) → ts w x = 0 := by
  induction x with
  | nil => intro w _; rfl
  | cons a l ih => intro w h; show rs (w 0) a + ts _ l = 0; rw [ih _ (fun j => h (j + 1)), rs_no _ _ (h 0)]; rfl
def Bnd (m : Int) (x : List (List Int)) : Prop := ∀ l ∈ x, ∀ v ∈ l, 0 ≤ v ∧ v ≤ m
theorem bnd_rd {m : Int} {x : List (List Int)} (h : Bnd m x) (hm : 0 ≤ m) (i j : Int) : 0 ≤ rd (rd_L1 x i) j ∧ rd (rd_L1 x i) j ≤ m := by
  unfold rd rd_L1
  rw [List.getD_eq_getElem?_getD, List.getD_eq_getElem?_getD]
  cases a : x[i.toNat]? with
  | none => simpa using hm
  | some l =>
    simp only [Option.getD_some]
    cases b : l[j.toNat]? with
    | none => simpa using hm
    | some v => exact h l (List.mem_of_getElem? a) v (List.mem_of_getElem? b)
theorem bnd_put {m : Int} {x : List (List Int)} (h : Bnd m x) (hm : 0 ≤ m) (i j : Int) (v : Int) (hv : 0 ≤ v ∧ v ≤ m + 1) : Bnd (m + 1) (x.set i.toNat ((rd_L1 x i).set j.toNat v)) := by
  intro l hl u hu
  rcases List.mem_or_eq_of_mem_set hl with q | rfl
  · have := h l q u hu; omega
  · rcases List.mem_or_eq_of_mem_set hu with q | rfl
    · unfold rd_L1 at q
      rw [List.getD_eq_getElem?_getD] at q
      cases a : x[i.toNat]? with
      | none => rw [a] at q; simp at q
      | some l => rw [a] at q; have := h l (List.mem_of_getElem? a) u q; omega
    · exact hv
theorem tab_v (N : Nat) (P : List (Nat × Nat)) (g : G8 N P) (R : Nat) (hR : (R : Int) = (N : Int) - (fx N (cl P) : Int)) (d : Nat) : ∀ (i : Nat) (x : List (List Int)), i + d = 2 ^ P.length → Shp (R + 1) (P.length - R + 1) x → Bnd (i : Int) x →
    (∀ w, ts w x = sg (fun c => w (R - (N - qF N P c)) (sF P c - (N - qF N P c))) i) →
    ∃ y : List (List Int), Shp (R + 1) (P.length - R + 1) y ∧ Bnd ((2 ^ P.length : Nat) : Int) y ∧ (∀ w, ts w y = sg (fun c => w (R - (N - qF N P c)) (sF P c - (N - qF N P c))) (2 ^ P.length)) ∧ Ev (fun k => impl_SubsetTable.l1 k (R : Int) x ((2 ^ P.length : Nat) : Int) (i : Int) (N : Int) (edg P)) (y, 0) := by
  have h8 := g.hi; have h10 := g.len; have hlo := g.lo
  have hp := p2 h10
  have hps := parts_size N P
  have hpl := fx_le N (cl P)
  induction d with
  | zero =>
    intro i x hi hx hb hs
    obtain rfl : i = 2 ^ P.length := by omega
    exact ⟨x, hx, hb, hs, Ev.step (fun _ => rfl) (evF (by omega) (evN rfl))⟩
  | succ d ih =>
    intro i x hi hx hb hs
    obtain ⟨_, I⟩ := parts_exact N P g i
    obtain ⟨_, s2⟩ := size_exact P h10 i (by omega)
    obtain ⟨b1, b2, b3, b4⟩ := table_bounds N P i
    have hsl := selF_length i P 0
    have step : ∀ w : Nat → Nat → Int, sg (fun c => w (R - (N - qF N P c)) (sF P c - (N - qF N P c))) (i + 1) = sg (fun c => w (R - (N - qF N P c)) (sF P c - (N - qF N P c))) i + w (R - (N - fx N (cl (selF i 0 P)))) ((selF i 0 P).length - (N - fx N (cl (selF i 0 P)))) := fun w => rfl
    generalize fx N (cl (selF i 0 P)) = q at I b1 b2 b3 b4 step
    generalize (selF i 0 P).length = s at s2 b3 b4 hsl step
    have iw : wrap64 ((R : Int) - ((N : Int) - (q : Int))) = ((R - (N - q) : Nat) : Int) := by rw [wid (by omega) (by omega)]; omega
    have jw : wrap64 ((s : Int) - ((N : Int) - (q : Int))) = ((s - (N - q) : Nat) : Int) := by rw [wid (by omega) (by omega)]; omega
    have hw : wrap64 ((N : Int) - (q : Int)) = (N : Int) - (q : Int) := wid (by omega) (by omega)
    have hlen : (rd_L1 x ((R - (N - q) : Nat) : Int)).length = P.length - R + 1 := by rw [hx.2 _ (by omega)]
    have hv := bnd_rd hb (by omega) ((R - (N - q) : Nat) : Int) ((s - (N - q) : Nat) : Int)
    obtain ⟨y, hy, yb, ys, b⟩ := ih (i + 1) (x.set (((R - (N - q) : Nat) : Int)).toNat ((rd_L1 x ((R - (N - q) : Nat) : Int)).set (((s - (N - q) : Nat) : Int)).toNat (wrap64 (rd (rd_L1 x ((R - (N - q) : Nat) : Int)) ((s - (N - q) : Nat) : Int) + 1)))) (by omega) (shp_put hx _ _ _)
      (by rw [Int.natCast_succ]; exact bnd_put hb (by omega) _ _ _ (by rw [wid (by omega) (by omega)]; omega))
      (fun w => by
        rw [step w, ← hs w, Int.toNat_natCast, Int.toNat_natCast, ts_set x w _ _ (by rw [hx.1]; omega), rs_set _ _ _ _ (by rw [hlen]; omega), wid (by omega) (by omega)]
        have e1 : rd_L1 x ((R - (N - q) : Nat) : Int) = x.getD (R - (N - q)) [] := rfl
        have e2 : ∀ l : List Int, rd l ((s - (N - q) : Nat) : Int) = l.getD (s - (N - q)) 0 := fun l => rfl
        rw [e1, e2, show ∀ a : Int, a + 1 - a = 1 from fun a => by omega, Int.mul_one]; omega)
    rw [← wnat (i := i) (n := 2048) (by omega) (by omega)] at b
    refine ⟨y, hy, yb, ys, Ev.step (fun _ => rfl) (evT (by omega) (Ev.bind (a := (N : Int) - (q : Int)) ?_ ?_))⟩
    · unfold impl_Graph_rankWith.f
      exact Ev.bind I (evN (by rw [hw]))
    · rw [iw]
      refine evT (by omega) (evT (by rw [hx.1]; omega) (Ev.bind s2 ?_))
      rw [jw]
      exact evT (by omega) (evT (by rw [hlen]; omega) b)
theorem st_val (N : Nat) (P : List (Nat × Nat)) (g : G8 N P) : ∃ (R : Nat) (y : List (List Int)), R = N - fx N (cl P) ∧ Shp (R + 1) (P.length - R + 1) y ∧ Bnd 1024 y ∧ (∀ w, ts w y = sg (fun c => w (R - (N - qF N P c)) (sF P c - (N - qF N P c))) (2 ^ P.length)) ∧ Ev (fun k => impl_SubsetTable.f k (N : Int) (edg P)) (y, 0) := by
  have h8 := g.hi; have h10 := g.len
  have hps := parts_size N P
  have hpl := fx_le N (cl P)
  have hp := p2 h10
  obtain ⟨R, hR⟩ : ∃ R : Nat, R = N - fx N (cl P) := ⟨_, rfl⟩
  obtain ⟨y, hy, yb, ys, b⟩ := tab_v N P g R (by omega) (2 ^ P.length) 0 _ (by omega) (shp_rep (R + 1) (P.length - R + 1)) (fun l hl v hv => by
    rw [(List.mem_replicate.1 hl).2] at hv
    have := (List.mem_replicate.1 hv).2; omega) (fun w => by rw [ts_rep]; rfl)
  have i0 := rowsI_l N P h10 R (by omega) (y, 0) b (R + 1) 0 (by omega)
  have hw2 : wrap64 ((N : Int) - ((fx N (cl P) : Nat) : Int)) = (R : Int) := by rw [wid (by omega) (by omega)]; omega
  refine ⟨R, y, hR, hy, fun l hl v hv => by have := yb l hl v hv; omega, ys, ?_⟩
  unfold impl_SubsetTable.f
  refine Ev.bind (isg_ g) (evT rfl (Ev.bind (partsAll N P g) ?_))
  rw [hw2, wnat (i := R) (n := R + 1) (by omega) (by omega)]; exact i0
theorem sum_l (l : List Int) (hb : ∀ v ∈ l, 0 ≤ v ∧ v ≤ 1024) (hl : l.length ≤ 100) (d : Nat) : ∀ (i : Nat) (a : Int), i + d = l.length → 0 ≤ a → a ≤ 1024 * i → Ev (fun k => laws_sum.l0 k l a (i : Int)) (a + rs (fun _ => 1) (l.drop i)) ∧ 0 ≤ rs (fun _ => 1) (l.drop i) ∧ rs (fun _ => 1) (l.drop i) ≤ 1024 * d := by
  induction d with
  | zero =>
    intro i a hi _ _
    rw [List.drop_of_length_le (by omega)]
    exact ⟨Ev.step (fun _ => rfl) (evF (by omega) (evN (by simp [rs]))), Int.le_refl _, Int.le_refl _⟩
  | succ d ih =>
    intro i a hi h0 h1
    have hv := hb _ (List.getElem_mem (show i < l.length by omega))
    obtain ⟨h, p, q⟩ := ih (i + 1) (a + l[i]) (by omega) (by omega) (by omega)
    have e : rs (fun _ => 1) (l.drop i) = l[i] + rs (fun _ => 1) (l.drop (i + 1)) := by
      rw [List.drop_eq_getElem_cons (by omega)]; show 1 * l[i] + rs _ _ = _; rw [Int.one_mul]
    rw [e]
    refine ⟨Ev.step (fun _ => rfl) (evT (by omega) (evT (by omega) ?_)), by omega, by omega⟩
    rw [rd_at l i (by omega), wid (x := a + l[i]) (by omega) (by omega), wnat (n := l.length) (by omega) (by omega), ← Int.add_assoc]; exact h
theorem sum_ (l : List Int) (hb : ∀ v ∈ l, 0 ≤ v ∧ v ≤ 1024) (hl : l.length ≤ 100) : Ev (fun k => laws_sum.f k l) (rs (fun _ => 1) l) ∧ 0 ≤ rs (fun _ => 1) l ∧ rs (fun _ => 1) l ≤ 102400 := by
  have h := sum_l l hb hl l.length 0 0 (by omega) (by omega) (by omega)
  rw [List.drop_zero, Int.zero_add] at h
  exact ⟨h.1, h.2.1, by omega⟩
def wz0 (j : Nat) : Int := if j = 0 then 1 else 0
theorem rs_wz0 (l : List Int) (h : 0 < l.length) : rs wz0 l = rd l 0 := by
  match l, h with
  | a :: l, _ => show 1 * a + rs (fun j => wz0 (j + 1)) l = a; rw [rs_no l (fun j => wz0 (j + 1)) (fun _ => rfl)]; omega
theorem partS_l (y : List (List Int)) (hb : Bnd 1024 y) (h100 : y.length ≤ 100) (hl : ∀ l ∈ y, 0 < l.length ∧ l.length ≤ 100) (d : Nat) : ∀ (i : Nat) (a b : Int), i + d = y.length → 0 ≤ a → a ≤ 1024 * i → 0 ≤ b → b ≤ 102400 * i →
    Ev (fun k => laws_partS.l0 k y a b (i : Int)) (a + ts (fun _ => wz0) (y.drop i), b + ts (fun _ _ => 1) (y.drop i)) := by
  induction d with
  | zero =>
    intro i a b hi _ _ _ _
    rw [List.drop_of_length_le (by omega)]
    exact Ev.step (fun _ => rfl) (evF (by omega) (evN (by simp [ts])))
  | succ d ih =>
    intro i a b hi h0 h1 h2 h3
    have hm := List.getElem_mem (show i < y.length by omega)
    obtain ⟨s1, s2, s3⟩ := sum_ y[i] (hb _ hm) (hl _ hm).2
    have hv := bnd_rd hb (by omega) (i : Int) 0
    rw [rdL y i (by omega)] at hv
    have h := ih (i + 1) (a + rd y[i] 0) (b + rs (fun _ => 1) y[i]) (by omega) (by omega) (by omega) (by omega) (by omega)
    rw [List.drop_eq_getElem_cons (show i < y.length by omega)]
    show Ev _ (a + (rs wz0 y[i] + ts (fun _ => wz0) (y.drop (i + 1))), b + (rs (fun _ => 1) y[i] + ts (fun _ _ => 1) (y.drop (i + 1))))
    rw [rs_wz0 _ (hl _ hm).1, ← Int.add_assoc, ← Int.add_assoc]
    refine Ev.step (fun _ => rfl) (evT (by omega) (evT (by omega) ?_))
    rw [rdL y i (by omega)]
    refine evT (by have := (hl _ hm).1; omega) (Ev.bind s1 ?_)
    rw [wid (x := a + rd y[i] 0) (by omega) (by omega), wid (x := b + _) (by omega) (by omega), wnat (n := y.length) (by omega) (by omega)]; exact h
theorem partS_ (y : List (List Int)) (hb : Bnd 1024 y) (h100 : y.length ≤ 100) (hl : ∀ l ∈ y, 0 < l.length ∧ l.length ≤ 100) : Ev (fun k => laws_partS.f k y) (ts (fun _ => wz0) y, ts (fun _ _ => 1) y) := by
  have h := partS_l y hb h100 hl y.length 0 0 0 (by omega) (by omega) (by omega) (by omega) (by omega)
  rw [List.drop_zero, Int.zero_add, Int.zero_add] at h; exact h
end Go.Proofs.Ytaahcjjhmejljaa.Q
end
section
namespace Go.Proofs.Ytaahcjjhmejljaa.Q
open Go.RowKit Go.Proofs.Ytaahcjjhmejljaa.X Go.Proofs.YtaahcjjhmejljaaW.PrintWords Go.Proofs.YtaahcjjhmejljaaW.PrintLast Go.Proofs.YtaahcjjhmejljaaW.PrintMore
set_option linter.unusedVariables false
section
variable {N : Nat} {P : List (Nat × Nat)} (g : G8 N P)
include g
omit g in
theorem tb_ (c : Nat) : fx N (cl P) ≤ qF N P c ∧ qF N P c ≤ N ∧ N ≤ qF N P c + sF P c := by
  obtain ⟨a, b, d, _⟩ := table_bounds N P c
  exact ⟨a, b, d⟩
theorem one_part : 1 ≤ fx N (cl P) := by
  have h := g.lo
  have : fx 1 (cl P) ≤ fx N (cl P) := by
    obtain ⟨n, rfl⟩ : ∃ n, N = n + 1 := ⟨N - 1, by omega⟩
    clear g h
    induction n with
    | zero => exact Nat.le_refl _
    | succ n ih => refine Nat.le_trans ih ?_; show _ ≤ fx (n + 1) _ + _; omega
  have e : fx 1 (cl P) = 1 := by
    show 0 + (if cl P 0 = 0 then 1 else 0) = 1
    have := (fold_good P _ good_id 0).1
    rw [if_pos (show cl P 0 = 0 from Nat.le_zero.1 this)]
  omega
theorem sums_ : ∃ y : List (List Int), Ev (fun k => impl_SubsetTable.f k (N : Int) (edg P)) (y, 0) ∧ Ev (fun k => laws_partS.f k y) (cnB (forB N P) (2 ^ P.length), ((2 ^ P.length : Nat) : Int)) ∧
    ∀ z : List (List Int), z.length = fx N (cl P) → Ev (fun k => laws_partX.f k y z (cnB (conB N P) (2 ^ P.length)) (cnB (treB N P) (2 ^ P.length))) false := by
  have h8 := g.hi; have h10 := g.len; have hp := p2 h10
  have hps := parts_size N P
  have hpl := fx_le N (cl P)
  have h1 := one_part g
  obtain ⟨R, y, hR, hy, hb, hs, e⟩ := st_val N P g
  have hm : ∀ l ∈ y, l.length = P.length - R + 1 := shp_mem hy
  have S := partS_ y hb (by rw [hy.1]; omega) (fun l hl => by rw [hm l hl]; omega)
  have e0 : ts (fun _ => wz0) y = cnB (forB N P) (2 ^ P.length) := by
    rw [hs]
    refine sg_congr _ fun c _ => ?_
    have := tb_ (N := N) (P := P) c
    show (if sF P c - (N - qF N P c) = 0 then (1 : Int) else 0) = _
    unfold forB
    by_cases q : N = qF N P c + sF P c
    · rw [if_pos (by omega), if_pos (by simpa using q)]
    · rw [if_neg (by omega), if_neg (by simpa using q)]
  have e1 : ts (fun _ _ => 1) y = ((2 ^ P.length : Nat) : Int) := by
    rw [hs]
    generalize 2 ^ P.length = n
    clear hs e0 S e hb hp
    induction n with
    | zero => rfl
    | succ n ih => show sg _ n + 1 = _; rw [ih]; omega
  rw [e0, e1] at S
  refine ⟨y, e, S, fun z hz => ?_⟩
  obtain ⟨r, t, ht⟩ : ∃ r t, y = r :: t := by
    cases y with
    | nil => have := hy.1; simp at this
    | cons r t => exact ⟨r, t, rfl⟩
  have e2 : rs (fun _ => 1) r = sg (fun c => if R - (N - qF N P c) = 0 then 1 else 0) (2 ^ P.length) := by
    have := hs (fun i _ => if i = 0 then 1 else 0)
    rw [ht] at this
    rw [← this]
    show _ = rs (fun _ => 1) r + ts _ t
    rw [ts_no t (fun i _ => if i + 1 = 0 then 1 else 0) (fun i _ => rfl)]; omega
  have e3 : rs wz0 r = sg (fun c => if R - (N - qF N P c) = 0 then wz0 (sF P c - (N - qF N P c)) else 0) (2 ^ P.length) := by
    have := hs (fun i j => if i = 0 then wz0 j else 0)
    rw [ht] at this
    rw [← this]
    show _ = rs wz0 r + ts _ t
    rw [ts_no t (fun i j => if i + 1 = 0 then wz0 j else 0) (fun i _ => rfl)]; omega
  have hr : r.length = P.length - R + 1 := hm r (by rw [ht]; exact List.mem_cons_self ..)
  rw [rs_wz0 r (by omega)] at e3
  have er : rd_L1 y 0 = r := by rw [ht]; rfl
  unfold laws_partX.f
  rw [er]
  by_cases q : fx N (cl P) = 1
  · obtain ⟨s1, _⟩ := sum_ r (hb r (by rw [ht]; exact List.mem_cons_self ..)) (by omega)
    have f2 : rs (fun _ => 1) r = cnB (conB N P) (2 ^ P.length) := by
      rw [e2]
      refine sg_congr _ fun c _ => ?_
      have := tb_ (N := N) (P := P) c
      unfold conB
      by_cases w : qF N P c = 1
      · rw [if_pos (by omega), if_pos (by simpa using w)]
      · rw [if_neg (by omega), if_neg (by simpa using w)]
    have f3 : rd r 0 = cnB (treB N P) (2 ^ P.length) := by
      rw [e3]
      refine sg_congr _ fun c _ => ?_
      have := tb_ (N := N) (P := P) c
      unfold treB forB conB wz0
      by_cases w : qF N P c = 1
      · rw [if_pos (by omega), decide_eq_true w, Bool.and_true]
        by_cases q : N = qF N P c + sF P c
        · rw [if_pos (by omega), if_pos (by simpa using q)]
        · rw [if_neg (by omega), if_neg (by simpa using q)]
      · rw [if_neg (by omega), decide_eq_false w, Bool.and_false, if_neg (by simp)]
    refine evT (by rw [hz, q]; rfl) (evT (by rw [hy.1]; omega) (Ev.bind s1 (evT f2 (evT (by rw [hr]; omega) (evT f3 (evF (by rw [hz, q]; omega) (evN rfl)))))))
  · have f2 : cnB (conB N P) (2 ^ P.length) = 0 := sg_no _ fun c _ => by
      have := tb_ (N := N) (P := P) c
      unfold conB
      rw [if_neg (by simp; omega)]
    have f3 : cnB (treB N P) (2 ^ P.length) = 0 := sg_no _ fun c _ => by
      have := tb_ (N := N) (P := P) c
      unfold treB conB
      rw [decide_eq_false (show ¬ qF N P c = 1 by omega), Bool.and_false, if_neg (by simp)]
    exact evF (by rw [hz]; omega) (evT (by rw [hz]; omega) (evT f2 (evT f3 (evN rfl))))
end
theorem po_l1 (N : Nat) (hN : N ≤ 8) (c : Nat → Nat) (v : Nat) (Z : List (List Int)) (d : Nat) : ∀ (u : Nat) (x : List Int), u + d = N → x.length ≤ u →
    ∃ x' : List Int, (0 < x'.length ↔ 0 < x.length ∨ ∃ w, u ≤ w ∧ w < N ∧ c w = v) ∧ ∀ r, Ev (fun k => if (x'.length : Int) > 0 then (if Z.length < 5864062014805 then (impl_PartsOf.l0 k (Z ++ [x']) (lst N c) (N : Int) (wrap64 ((v : Int) + 1))) else (none)) else (impl_PartsOf.l0 k Z (lst N c) (N : Int) (wrap64 ((v : Int) + 1)))) r →
    Ev (fun k => impl_PartsOf.l1 k Z (lst N c) (v : Int) x (N : Int) (v : Int) (N : Int) (u : Int)) r := by
  induction d with
  | zero =>
    intro u x hu hx
    exact ⟨x, ⟨.inl, fun z => z.elim id fun ⟨w, a, b, _⟩ => absurd b (by omega)⟩, fun r h => Ev.step (fun _ => rfl) (evF (by omega) h)⟩
  | succ d ih =>
    intro u x hu hx
    have st : ∀ r, Ev (fun k => if (c u : Int) = (v : Int) then (if x.length < 17592186044416 then (impl_PartsOf.l1 k Z (lst N c) (v : Int) (x ++ [(u : Int)]) (N : Int) (v : Int) (N : Int) ((u + 1 : Nat) : Int)) else (none)) else (impl_PartsOf.l1 k Z (lst N c) (v : Int) x (N : Int) (v : Int) (N : Int) ((u + 1 : Nat) : Int))) r → Ev (fun k => impl_PartsOf.l1 k Z (lst N c) (v : Int) x (N : Int) (v : Int) (N : Int) (u : Int)) r := by
      intro r h
      refine Ev.step (fun _ => rfl) (evT (by omega) (evT (by omega) (evT (by rw [lst_length]; omega) ?_)))
      rw [lst_at N c u (by omega), wnat (n := N) (by omega) (by omega)]; exact h
    by_cases q : c u = v
    · obtain ⟨x', hx', h⟩ := ih (u + 1) (x ++ [(u : Int)]) (by omega) (by simp; omega)
      refine ⟨x', ?_, fun r hr => st r (evT (by omega) (evT (by omega) (h r hr)))⟩
      rw [hx']
      exact ⟨fun _ => .inr ⟨u, Nat.le_refl _, by omega, q⟩, fun _ => .inl (by simp)⟩
    · obtain ⟨x', hx', h⟩ := ih (u + 1) x (by omega) (by omega)
      refine ⟨x', ?_, fun r hr => st r (evF (by omega) (h r hr))⟩
      rw [hx']
      refine or_congr Iff.rfl ⟨fun ⟨w, a, b, e⟩ => ⟨w, by omega, b, e⟩, fun ⟨w, a, b, e⟩ => ⟨w, ?_, b, e⟩⟩
      have : w ≠ u := fun z => q (z ▸ e)
      omega
theorem po_l0 (N : Nat) (hN : N ≤ 8) (c : Nat → Nat) (hc : Good c) (d : Nat) : ∀ (v : Nat) (Z : List (List Int)), v + d = N → Z.length = fx v c → ∃ Z', Z'.length = fx N c ∧ Ev (fun k => impl_PartsOf.l0 k Z (lst N c) (N : Int) (v : Int)) (Z', 0) := by
  induction d with
  | zero =>
    intro v Z hv hZ
    obtain rfl : v = N := by omega
    exact ⟨Z, hZ, Ev.step (fun _ => rfl) (evF (by omega) (evN rfl))⟩
  | succ d ih =>
    intro v Z hv hZ
    have hf := fx_le v c
    have ef : fx (v + 1) c = fx v c + if c v = v then 1 else 0 := rfl
    have key : (∃ w, 0 ≤ w ∧ w < N ∧ c w = v) ↔ c v = v := ⟨fun ⟨w, _, _, e⟩ => by rw [← e]; exact (hc w).2, fun e => ⟨v, by omega, by omega, e⟩⟩
    have wv : wrap64 ((v : Int) + 1) = ((v + 1 : Nat) : Int) := wnat (n := N) (by omega) (by omega)
    obtain ⟨x', hx', h⟩ := po_l1 N hN c v Z N 0 [] (by omega) (by simp)
    rw [key] at hx'
    rw [wv] at h
    have go : ∀ r, Ev (fun k => if (x'.length : Int) > 0 then (if Z.length < 5864062014805 then (impl_PartsOf.l0 k (Z ++ [x']) (lst N c) (N : Int) ((v + 1 : Nat) : Int)) else (none)) else (impl_PartsOf.l0 k Z (lst N c) (N : Int) ((v + 1 : Nat) : Int))) r → Ev (fun k => impl_PartsOf.l0 k Z (lst N c) (N : Int) (v : Int)) r := fun r z => Ev.step (fun _ => rfl) (evT (by omega) (by rw [lst_length]; exact h r z))
    by_cases q : c v = v
    · rw [if_pos q] at ef
      obtain ⟨Z', h1, h2⟩ := ih (v + 1) (Z ++ [x']) (by omega) (by simp; omega)
      exact ⟨Z', h1, go _ (evT (by have := hx'.2 (.inr q); omega) (evT (by omega) h2))⟩
    · rw [if_neg q] at ef
      obtain ⟨Z', h1, h2⟩ := ih (v + 1) Z (by omega) (by omega)
      exact ⟨Z', h1, go _ (evF (by have := mt hx'.1 (fun z => z.elim (fun w => absurd w (by simp)) q); omega) h2)⟩
theorem pov {N : Nat} {P : List (Nat × Nat)} (g : G8 N P) : ∃ z : List (List Int), z.length = fx N (cl P) ∧ Ev (fun k => impl_PartsOf.f k (N : Int) (edg P)) (z, 0) := by
  have I := evyImpl N g.hi P (by have := g.len; omega) g.ends
  rw [idn_lst, lst_fold N _ _ g.ends] at I
  obtain ⟨Z, h1, h2⟩ := po_l0 N g.hi (cl P) (fold_good P _ good_id) N 0 [] (by omega) rfl
  unfold impl_PartsOf.f
  exact ⟨Z, h1, Ev.bind (isg_ g) (evT rfl (Ev.bind I h2))⟩
end Go.Proofs.Ytaahcjjhmejljaa.Q
end
section
namespace Go.Proofs.Ytaahcjjhmejljaa.Dt
set_option linter.unusedVariables false
def sm : Nat → (Nat → Int) → Int
  | 0, _ => 0
  | n + 1, f => sm n f + f n
def sw (c b : Nat) : Nat := if b = c then c + 1 else if b = c + 1 then c else b
def sg : Nat → Int
  | 0 => 1
  | k + 1 => - sg k
theorem sg_add (a b : Nat) : sg (a + b) = sg a * sg b := by
  induction b with
  | zero => show sg a = sg a * 1; omega
  | succ b ih => show - sg (a + b) = sg a * (- sg b); rw [ih, Int.mul_neg]
theorem sg_two (a : Nat) : sg (a + a) = 1 := by
  induction a with
  | zero => rfl
  | succ a ih => rw [show a + 1 + (a + 1) = a + a + 1 + 1 by omega]; show - - sg (a + a) = 1; rw [ih]; rfl
def skip (j b : Nat) : Nat := if b < j then b else b + 1
def det : Nat → (Nat → Nat → Int) → Int
  | 0, _ => 1
  | n + 1, M => sm (n + 1) fun j => sg (n + j) * M n j * det n (fun a b => M a (skip j b))
def setc (M : Nat → Nat → Int) (j : Nat) (v : Nat → Int) : Nat → Nat → Int := fun a b => if b = j then v a else M a b
def drop (l j : Nat) : Nat := if j < l then j else j - 1
def ee (i a : Nat) : Int := if a = i then 1 else 0
def adj (n : Nat) (M : Nat → Nat → Int) (j i : Nat) : Int := det n (setc M j (ee i))
end Go.Proofs.Ytaahcjjhmejljaa.Dt
end
section
namespace Go.Proofs.Ytaahcjjhmejljaa.Q
open Go.RowKit Go.Proofs.Ytaahcjjhmejljaa.X Go.Proofs.Ytaahcjjhmejljaa.Dt Go.Proofs.YtaahcjjhmejljaaW.PrintWords Go.Proofs.YtaahcjjhmejljaaW.PrintLast Go.Proofs.YtaahcjjhmejljaaW.PrintMore
set_option linter.unusedVariables false
theorem wr_far (x q : Int) : wrap64 (x + 18446744073709551616 * q) = wrap64 x := by unfold wrap64; omega
theorem wr_form (x : Int) : ∃ q, wrap64 x = x + 18446744073709551616 * q := by
  refine ⟨(wrap64 x - x) / 18446744073709551616, ?_⟩
  unfold wrap64; omega
theorem w0 : wrap64 0 = 0 := by unfold wrap64; omega
theorem wr_wr (x : Int) : wrap64 (wrap64 x) = wrap64 x := by unfold wrap64; omega
theorem wr_addl (x y : Int) : wrap64 (wrap64 x + y) = wrap64 (x + y) := by unfold wrap64; omega
theorem wr_mul (x y : Int) : wrap64 (wrap64 x * wrap64 y) = wrap64 (x * y) := by
  obtain ⟨q, hq⟩ := wr_form x; obtain ⟨p, hp⟩ := wr_form y
  rw [hq, hp, show (x + 18446744073709551616 * q) * (y + 18446744073709551616 * p) = x * y + 18446744073709551616 * (x * p + q * y + 18446744073709551616 * (q * p)) by grind, wr_far]
def wrow (n : Nat) (R : Nat → Int) : List Int := (List.range n).map fun j => wrap64 (R j)
def wmat (n : Nat) (F : Nat → Nat → Int) : List (List Int) := (List.range n).map fun i => wrow n (F i)
theorem wrow_length (n : Nat) (R : Nat → Int) : (wrow n R).length = n := by simp [wrow]
theorem wmat_length (n : Nat) (F : Nat → Nat → Int) : (wmat n F).length = n := by simp [wmat]
theorem wrow_at (n : Nat) (R : Nat → Int) (j : Nat) (h : j < n) : rd (wrow n R) (j : Int) = wrap64 (R j) := by rw [rd_at _ _ (by rw [wrow_length]; exact h)]; simp [wrow]
theorem wmat_at (n : Nat) (F : Nat → Nat → Int) (i : Nat) (h : i < n) : rd_L1 (wmat n F) (i : Int) = wrow n (F i) := by rw [rdL _ _ (by rw [wmat_length]; exact h)]; simp [wmat]
theorem wrow_set (n : Nat) (R : Nat → Int) (b : Nat) (v : Int) : (wrow n R).set b (wrap64 v) = wrow n (fun j => if j = b then v else R j) := by
  apply List.ext_getElem
  · simp [wrow]
  · intro j h1 h2
    simp only [wrow, List.getElem_set, List.getElem_map, List.getElem_range]
    split <;> (split <;> first | rfl | omega)
theorem wmat_set (n : Nat) (F : Nat → Nat → Int) (a : Nat) (R : Nat → Int) : (wmat n F).set a (wrow n R) = wmat n (fun i => if i = a then R else F i) := by
  apply List.ext_getElem
  · simp [wmat]
  · intro j h1 h2
    simp only [wmat, List.getElem_set, List.getElem_map, List.getElem_range]
    split <;> (split <;> first | rfl | omega)
theorem wmat_put (n : Nat) (F : Nat → Nat → Int) (a b : Nat) (v : Int) (ha : a < n) : (wmat n F).set a ((rd_L1 (wmat n F) (a : Int)).set b (wrap64 v)) = wmat n (fun i j => if i = a ∧ j = b then v else F i j) := by
  rw [wmat_at n F a ha, wrow_set, wmat_set]
  congr 1; funext i
  split
  · rename_i h; subst h; funext j; simp
  · rename_i h; funext j; simp [h]
theorem wmat_zero (n : Nat) : List.replicate n (List.replicate n (0 : Int)) = wmat n (fun _ _ => 0) := by
  apply List.ext_getElem
  · simp [wmat]
  · intro j h1 h2
    simp only [wmat, wrow, List.getElem_replicate, List.getElem_map]
    apply List.ext_getElem
    · simp
    · intro i h3 h4; simp; exact w0.symm
def mul (n : Nat) (F G : Nat → Nat → Int) : Nat → Nat → Int := fun i j => sm n fun l => F i l * G l j
theorem sq_l (N : Nat) (hN : N ≤ 20) (d : Nat) : ∀ i : Nat, i + d = N → Ev (fun k => impl_square.l0 k (N : Int) (List.replicate i (List.replicate N 0)) (N : Int) (i : Int)) (List.replicate N (List.replicate N 0)) := by
  induction d with
  | zero => intro i hi; obtain rfl : i = N := by omega
            exact Ev.step (fun _ => rfl) (evF (by omega) (evN rfl))
  | succ d ih =>
    intro i hi
    refine Ev.step (fun _ => rfl) (evT (by omega) (evT (by omega) (evT (by omega) (evT (by simp; omega) ?_))))
    rw [wnat (n := N) (by omega) (by omega), Int.toNat_natCast, ← List.replicate_succ']
    exact ih (i + 1) (by omega)
theorem square_ (N : Nat) (hN : N ≤ 20) : Ev (fun k => impl_square.f k (N : Int)) (wmat N (fun _ _ => 0)) := by
  rw [← wmat_zero]; unfold impl_square.f; exact sq_l N hN N 0 (by omega)
end Go.Proofs.Ytaahcjjhmejljaa.Q
end
section
namespace Go.Proofs.Ytaahcjjhmejljaa.Q
open Go.RowKit Go.Proofs.Ytaahcjjhmejljaa.X Go.Proofs.YtaahcjjhmejljaaW.PrintWords Go.Proofs.YtaahcjjhmejljaaW.PrintLast Go.Proofs.YtaahcjjhmejljaaW.PrintMore
set_option linter.unusedVariables false
set_option linter.unusedSimpArgs false
theorem hor_l (l : List Int) (c : Int) (i : Nat) : ∀ (a : Int), i ≤ l.length → i ≤ 1000 → ∃ r, Ev (fun k => spec_l01At.l0 k l c a ((i : Int) - 1)) r ∧ Ev (fun k => impl_CountColourings.l0 k a l ((i : Int) - 1) c) (r, 0) := by
  induction i with
  | zero => intro a _ _; exact ⟨a, Ev.step (fun _ => rfl) (evF (by omega) (evN rfl)), Ev.step (fun _ => rfl) (evF (by omega) (evN rfl))⟩
  | succ i ih =>
    intro a hi hi2
    have e : ((i + 1 : Nat) : Int) - 1 = (i : Int) := by omega
    rw [e]
    obtain ⟨r, h1, h2⟩ := ih (wrap64 ((wrap64 (a * c)) + (rd l (i : Int)))) (by omega) (by omega)
    rw [← wid (x := (i : Int) - 1) (by omega) (by omega)] at h1 h2
    exact ⟨r, Ev.step (fun _ => rfl) (evT (by omega) (evT (by omega) (evT (by omega) h1))), Ev.step (fun _ => rfl) (evT (by omega) (evT (by omega) (evT (by omega) h2)))⟩
theorem co_both (n : Int) (E : List (List Int)) (hE : E.length ≤ 1048576) (c : Int) : ∃ r, Ev (fun k => spec_CountColourings.f k n E c) r ∧ Ev (fun k => impl_CountColourings.f k n E c) r := by
  have h1 := isSpec n E hE; have h2 := isImpl n E hE
  unfold spec_CountColourings.f impl_CountColourings.f impl_graphCode_of_CountColourings_1.f impl_CountColourings_1_c.f
  by_cases h : VG n E = true
  · rw [h] at h1 h2
    obtain ⟨N, P, rfl, rfl, g⟩ := VG_true h
    have h8 := g.hi
    by_cases hc : (decide (0 ≤ c) && decide (c ≤ 20)) = true
    · obtain ⟨y, hl, a, b⟩ := chr_l N P g (2 ^ P.length) 0 (List.replicate (N + 1) 0) (by omega) (by simp)
      have hw : wrap64 ((N : Int) + 1) = ((N + 1 : Nat) : Int) := wnat (n := N + 1) (by omega) (by omega)
      have S : Ev (fun k => spec_l05Chromatic.f k (N : Int) (edg P)) y := by
        unfold spec_l05Chromatic.f
        rw [hw, Int.toNat_natCast]
        exact evT (by omega) (evT (by omega) a)
      have I : Ev (fun k => impl_Graph_chromatic.f k (N : Int) (edg P)) y := by
        unfold impl_Graph_chromatic.f
        rw [hw, Int.toNat_natCast]
        refine evT (by omega) (evT (by omega) (evB (a := (P.length : Int)) (by unfold impl_Graph_size.f; rw [edg_length]) (evT (by omega) ?_)))
        rw [shlE _ g.len]; exact b
      obtain ⟨r, r1, r2⟩ := hor_l y c y.length 0 (Nat.le_refl _) hl
      have hwl : wrap64 ((y.length : Int) - 1) = (y.length : Int) - 1 := wid (by omega) (by omega)
      have A : Ev (fun k => spec_l01At.f k y c) r := by unfold spec_l01At.f; rw [hwl]; exact r1
      refine ⟨(r, 0), Ev.bind h1 (evT rfl (evB (inSpec _ _ _) (evT hc (Ev.bind S (Ev.bind A (evN rfl)))))), Ev.bind (Ev.bind h2 (evT rfl (Ev.bind (evB (inImpl _ _ _) (evN rfl)) (evT hc (evN rfl))))) (evT rfl (Ev.bind I ?_))⟩
      rw [hwl]; exact r2
    · exact ⟨(0, 2), Ev.bind h1 (evT rfl (evB (inSpec _ _ _) (evF hc (evN rfl)))), Ev.bind (Ev.bind h2 (evT rfl (Ev.bind (evB (inImpl _ _ _) (evN rfl)) (evF hc (evN rfl))))) (evF (by omega) (evN rfl))⟩
  · rw [Bool.eq_false_iff.2 h] at h1 h2
    exact ⟨(0, 1), Ev.bind h1 (evF (by simp) (evN rfl)), Ev.bind (Ev.bind h2 (evF (by simp) (evN rfl))) (evF (by omega) (evN rfl))⟩
end Go.Proofs.Ytaahcjjhmejljaa.Q
end
section
namespace Go.Proofs.Ytaahcjjhmejljaa.Q
open Go.RowKit Go.Proofs.Ytaahcjjhmejljaa.X Go.Proofs.YtaahcjjhmejljaaW.PrintWords Go.Proofs.YtaahcjjhmejljaaW.PrintLast Go.Proofs.YtaahcjjhmejljaaW.PrintMore
set_option linter.unusedVariables false
theorem rs_mul (a : Int) (l : List Int) : ∀ w : Nat → Int, rs (fun j => a * w j) l = a * rs w l := by
  induction l with
  | nil => intro w; exact (Int.mul_zero a).symm
  | cons v l ih => intro w; show a * w 0 * v + rs (fun j => a * w (j + 1)) l = a * (w 0 * v + rs _ l); rw [ih (fun j => w (j + 1)), Int.mul_add, Int.mul_assoc]
def hv (z : Int) (l : List Int) : Int := rs (fun j => z ^ j) l
theorem hv_cons (z v : Int) (l : List Int) : hv z (v :: l) = v + z * hv z l := by
  have e : (fun j => z ^ (j + 1)) = fun j => z * z ^ j := funext fun j => by rw [Int.pow_succ, Int.mul_comm]
  show z ^ 0 * v + rs (fun j => z ^ (j + 1)) l = v + z * rs (fun j => z ^ j) l
  rw [e, rs_mul, Int.pow_zero, Int.one_mul]
theorem rs_snoc (l : List Int) : ∀ w : Nat → Int, rs w (l ++ [0]) = rs w l := by
  induction l with
  | nil => intro w; show w 0 * 0 + 0 = 0; omega
  | cons v l ih => intro w; show w 0 * v + rs _ (l ++ [0]) = w 0 * v + rs _ l; rw [ih]
theorem hor_v (l : List Int) (hl : l.length ≤ 1000) (z : Int) (i : Nat) (hi : i ≤ l.length) : Ev (fun k => laws_partH.l0 k z l (wrap64 (hv z (l.drop i))) ((i : Int) - 1)) (wrap64 (hv z l)) ∧ Ev (fun k => impl_CountColourings.l0 k (wrap64 (hv z (l.drop i))) l ((i : Int) - 1) z) (wrap64 (hv z l), 0) := by
  induction i with
  | zero => rw [List.drop_zero]; exact ⟨Ev.step (fun _ => rfl) (evF (by omega) (evN rfl)), Ev.step (fun _ => rfl) (evF (by omega) (evN rfl))⟩
  | succ i ih =>
    obtain ⟨a, b⟩ := ih (by omega)
    have e : ((i + 1 : Nat) : Int) - 1 = (i : Int) := by omega
    have st : wrap64 (wrap64 (wrap64 (hv z (l.drop (i + 1))) * z) + rd l (i : Int)) = wrap64 (hv z (l.drop i)) := by
      rw [List.drop_eq_getElem_cons (show i < l.length by omega), hv_cons, rd_at l i (by omega), wr_addl, ← wr_addl (wrap64 (hv z (l.drop (i + 1))) * z), ← wr_mul (wrap64 _) z, wr_wr, wr_mul, wr_addl, Int.add_comm, Int.mul_comm]
    rw [e]
    rw [← wid (x := (i : Int) - 1) (by omega) (by omega), ← st] at a b
    exact ⟨Ev.step (fun _ => rfl) (evT (by omega) (evT (by omega) (evT (by omega) a))), Ev.step (fun _ => rfl) (evT (by omega) (evT (by omega) (evT (by omega) b)))⟩
theorem hor_ (l : List Int) (hl : l.length ≤ 1000) (z : Int) : Ev (fun k => laws_partH.f k l z) (wrap64 (hv z l)) ∧ Ev (fun k => impl_CountColourings.l0 k 0 l (wrap64 ((l.length : Int) - 1)) z) (wrap64 (hv z l), 0) := by
  obtain ⟨a, b⟩ := hor_v l hl z l.length (Nat.le_refl _)
  rw [List.drop_length] at a b
  have e : wrap64 (hv z []) = 0 := by show wrap64 0 = 0; unfold wrap64; omega
  rw [e, ← wid (x := (l.length : Int) - 1) (by omega) (by omega)] at a b
  exact ⟨a, b⟩
theorem trim_v (l : List Int) (hl : l.length ≤ 1048576) (i : Nat) (hi : i ≤ l.length) : ∃ r : List Int, r.length ≤ i ∧ (∀ w, rs w r = rs w (l.take i)) ∧ Ev (fun k => impl_trimmed.l0 k (l.take i)) r := by
  have hd : ∀ i : Nat, i ≤ l.length → ((l.take i).length : Int) = i := fun i hi => by rw [List.length_take]; omega
  induction i with
  | zero => exact ⟨[], by simp, fun w => rfl, Ev.step (fun _ => rfl) (evF (by simp) (by rw [show l.take 0 = [] from rfl, clone_ _ (by simp)]; exact evN rfl))⟩
  | succ i ih =>
    have hw : wrap64 (((i + 1 : Nat) : Int) - 1) = (i : Int) := by rw [wid (by omega) (by omega)]; omega
    have hr : rd (l.take (i + 1)) (i : Int) = l[i] := by rw [rd_at _ _ (by simp; omega)]; simp
    by_cases h : l[i] = 0
    · obtain ⟨r, h0, hs, h2⟩ := ih (by omega)
      refine ⟨r, by omega, fun w => ?_, Ev.step (fun _ => rfl) (evT (by rw [hd _ hi]; omega) ?_)⟩
      · rw [hs, List.take_succ_eq_append_getElem (show i < l.length by omega), h, rs_snoc]
      · rw [hd (i + 1) hi, hw]
        refine evT (by omega) (evT (by omega) (evT (by rw [hr]; exact h) (evT (by omega) ?_)))
        rw [Int.toNat_natCast, List.take_take, Nat.min_eq_left (by omega)]; exact h2
    · refine ⟨l.take (i + 1), by simp; omega, fun w => rfl, Ev.step (fun _ => rfl) (evT (by rw [hd _ hi]; omega) ?_)⟩
      rw [hd (i + 1) hi, hw, clone_ _ (by simp; omega)]
      exact evT (by omega) (evT (by omega) (evF (by rw [hr]; exact h) (evN rfl)))
section
variable {N : Nat} {P : List (Nat × Nat)} (g : G8 N P)
include g
theorem chv_l (d : Nat) : ∀ (i : Nat) (x : List Int), i + d = 2 ^ P.length → x.length = N + 1 → (∀ v ∈ x, -(i : Int) ≤ v ∧ v ≤ i) → hv 2 x = sg (fun c => sgn (sF P c) * 2 ^ qF N P c) i →
    ∃ y : List Int, y.length ≤ 1000 ∧ hv 2 y = sg (fun c => sgn (sF P c) * 2 ^ qF N P c) (2 ^ P.length) ∧ Ev (fun k => impl_Graph_chromatic.l0 k x ((2 ^ P.length : Nat) : Int) (i : Int) (N : Int) (edg P)) y := by
  have h8 := g.hi; have h10 := g.len; have hlo := g.lo
  have hp := p2 h10
  induction d with
  | zero =>
    intro i x hi hx hb hs
    obtain rfl : i = 2 ^ P.length := by omega
    obtain ⟨r, hr, e, b⟩ := trim_v x (by omega) x.length (Nat.le_refl _)
    rw [List.take_length] at b
    refine ⟨r, by omega, ?_, Ev.step (fun _ => rfl) (evF (by omega) (Ev.bind (a := r) b (evN rfl)))⟩
    rw [← hs]; unfold hv; rw [e, List.take_length]
  | succ d ih =>
    intro i x hi hx hb hs
    obtain ⟨_, I⟩ := parts_exact N P g i
    obtain ⟨_, s2⟩ := size_exact P h10 i (by omega)
    have hq := fx_le N (cl (selF i 0 P))
    have hsl := selF_length i P 0
    have step : sg (fun c => sgn (sF P c) * 2 ^ qF N P c) (i + 1) = sg (fun c => sgn (sF P c) * 2 ^ qF N P c) i + sgn (selF i 0 P).length * 2 ^ fx N (cl (selF i 0 P)) := rfl
    generalize fx N (cl (selF i 0 P)) = q at I hq step
    generalize (selF i 0 P).length = s at s2 hsl step
    have ht : Int.tmod (s : Int) 2 = ((s % 2 : Nat) : Int) := (Int.ofNat_tmod s 2).symm
    have hr := hb _ (List.getElem_mem (show q < x.length by omega))
    have hg : -1 ≤ sgn s ∧ sgn s ≤ 1 := by unfold sgn; omega
    have ew : wrap64 (rd x (q : Int) + wrap64 (1 - wrap64 (2 * ((s % 2 : Nat) : Int)))) = x[q] + sgn s := by
      rw [rd_at x q (by omega), wid (x := 2 * ((s % 2 : Nat) : Int)) (by omega) (by omega), show 1 - 2 * ((s % 2 : Nat) : Int) = sgn s from rfl, wid (x := sgn s) (by omega) (by omega), wid (by omega) (by omega)]
    obtain ⟨y, hl, e, h⟩ := ih (i + 1) (x.set q (x[q] + sgn s)) (by omega) (by simpa using hx)
      (fun v hv => by
        rcases List.mem_or_eq_of_mem_set hv with z | rfl
        · have := hb v z; omega
        · omega)
      (by
        unfold hv at hs ⊢
        rw [rs_set _ _ _ _ (by omega), hs, step, List.getD_eq_getElem?_getD, List.getElem?_eq_getElem (show q < x.length by omega), Option.getD_some, show x[q] + sgn s - x[q] = sgn s by omega, Int.mul_comm])
    rw [← wnat (i := i) (n := 2048) (by omega) (by omega)] at h
    refine ⟨y, hl, e, Ev.step (fun _ => rfl) (evT (by omega) (Ev.bind I (evT (by omega) (evT (by omega) (Ev.bind s2 ?_)))))⟩
    rw [ht, ew, Int.toNat_natCast]; exact h
theorem chv : ∃ y : List Int, y.length ≤ 1000 ∧ hv 2 y = cnB (fun m => prp m P) (2 ^ N) ∧ Ev (fun k => impl_Graph_chromatic.f k (N : Int) (edg P)) y := by
  have h8 := g.hi
  obtain ⟨y, hl, e, b⟩ := chv_l g (2 ^ P.length) 0 (List.replicate (N + 1) 0) (by omega) (by simp) (fun v hv => by have := (List.mem_replicate.1 hv).2; omega) (by unfold hv; rw [rs_rep]; rfl)
  have hw : wrap64 ((N : Int) + 1) = ((N + 1 : Nat) : Int) := wnat (n := N + 1) (by omega) (by omega)
  refine ⟨y, hl, e.trans (whitney N P g), ?_⟩
  unfold impl_Graph_chromatic.f
  rw [hw, Int.toNat_natCast]
  refine evT (by omega) (evT (by omega) (evB sz_ (evT (by omega) ?_)))
  rw [shlE _ g.len]; exact b
theorem cov (y : List Int) (hl : y.length ≤ 1000) (h : Ev (fun k => impl_Graph_chromatic.f k (N : Int) (edg P)) y) (z : Int) (hz : (decide (0 ≤ z) && decide (z ≤ 20)) = true) : Ev (fun k => impl_CountColourings.f k (N : Int) (edg P) z) (wrap64 (hv z y), 0) := by
  unfold impl_CountColourings.f impl_graphCode_of_CountColourings_1.f impl_CountColourings_1_c.f
  exact Ev.bind (Ev.bind (isg_ g) (evT rfl (Ev.bind (evB (inImpl _ _ _) (evN rfl)) (evT hz (evN rfl))))) (evT rfl (Ev.bind h (hor_ y hl z).2))
omit g in
theorem bitv : ∀ m : Fin 256, ∀ v : Fin 8, Go.bits .and .i64 (shr .i64 (m.val : Int) (v.val : Int)) 1 = ((m.val.testBit v.val).toNat : Int) := by decide +kernel
theorem bi_l1 (m : Nat) (hm : m < 2 ^ N) (r : Bool × Int) (d : Nat) : ∀ (i : Nat) (b : Bool), i + d = P.length →
    Ev (fun k => if (b && prp m (P.drop i)) = true then (some (true, 0)) else (impl_IsBipartite.l0 k ((2 ^ N : Nat) : Int) (wrap64 ((m : Int) + 1)) (N : Int) (edg P))) r →
    Ev (fun k => impl_IsBipartite.l1 k (m : Int) b ((2 ^ N : Nat) : Int) (m : Int) (edg P) (P.length : Int) (i : Int) (N : Int) (edg P)) r := by
  have h8 := g.hi; have h10 := g.len
  have hm2 : m < 256 := by
    have : 2 ^ N ≤ 2 ^ 8 := Nat.pow_le_pow_right (by omega) h8
    omega
  induction d with
  | zero =>
    intro i b hi h
    rw [List.drop_of_length_le (by omega), show prp m [] = true from rfl, Bool.and_true] at h
    exact Ev.step (fun _ => rfl) (evF (by omega) h)
  | succ d ih =>
    intro i b hi h
    have hi2 : i < P.length := by omega
    have hb2 := g.ends _ (List.getElem_mem hi2)
    have hr : rd_L1 (edg P) (i : Int) = [((P[i]).1 : Int), ((P[i]).2 : Int)] := edg_at P i hi2
    rw [List.drop_eq_getElem_cons hi2, show prp m (P[i] :: P.drop (i + 1)) = ((m.testBit P[i].1 != m.testBit P[i].2) && prp m (P.drop (i + 1))) from rfl] at h
    refine Ev.step (fun _ => rfl) (evT (by omega) (evT (by omega) (evT (by rw [edg_length]; omega) ?_)))
    by_cases q : b = true
    · refine evT q ?_
      rw [hr, show ∀ a b : Int, rd [a, b] 0 = a from fun _ _ => rfl, show ∀ a b : Int, rd [a, b] 1 = b from fun _ _ => rfl]
      refine evT (by simp) (evT (by omega) (evT (by simp) (evT (by omega) ?_)))
      rw [wnat (n := P.length) hi2 (by omega)]
      refine ih (i + 1) _ (by omega) ?_
      have e1 := bitv ⟨m, hm2⟩ ⟨P[i].1, by omega⟩
      have e2 := bitv ⟨m, hm2⟩ ⟨P[i].2, by omega⟩
      have e : (Go.bits .and .i64 (shr .i64 (m : Int) (P[i].1 : Int)) 1 != Go.bits .and .i64 (shr .i64 (m : Int) (P[i].2 : Int)) 1) = (m.testBit P[i].1 != m.testBit P[i].2) := by
        show _ = _
        rw [show Go.bits .and .i64 (shr .i64 (m : Int) (P[i].1 : Int)) 1 = _ from e1, show Go.bits .and .i64 (shr .i64 (m : Int) (P[i].2 : Int)) 1 = _ from e2]
        cases m.testBit P[i].1 <;> cases m.testBit P[i].2 <;> rfl
      rw [e]
      rw [q, Bool.true_and] at h
      exact h
    · refine evF q ?_
      rw [wnat (n := P.length) hi2 (by omega)]
      refine ih (i + 1) false (by omega) ?_
      rw [Bool.eq_false_iff.2 q, Bool.false_and] at h
      rw [Bool.false_and]; exact h
theorem bi_l0 (d : Nat) : ∀ m : Nat, m + d = 2 ^ N → ∃ b : Bool, (b = true ↔ ∃ i, m ≤ i ∧ i < 2 ^ N ∧ prp i P = true) ∧ Ev (fun k => impl_IsBipartite.l0 k ((2 ^ N : Nat) : Int) (m : Int) (N : Int) (edg P)) (b, 0) := by
  have h8 := g.hi
  have hN : 2 ^ N ≤ 256 := Nat.pow_le_pow_right (n := 2) (by omega) h8
  induction d with
  | zero => intro m hm; exact ⟨false, ⟨fun h => (by cases h), fun ⟨i, a, b, _⟩ => by omega⟩, Ev.step (fun _ => rfl) (evF (by omega) (evN rfl))⟩
  | succ d ih =>
    intro m hm
    have st : ∀ (t : Bool) r, t = true → Ev (fun k => if (t && prp m P) = true then (some (true, 0)) else (impl_IsBipartite.l0 k ((2 ^ N : Nat) : Int) ((m + 1 : Nat) : Int) (N : Int) (edg P))) r → Ev (fun k => impl_IsBipartite.l0 k ((2 ^ N : Nat) : Int) (m : Int) (N : Int) (edg P)) r := by
      intro t r ht h
      have h2 := bi_l1 g m (by omega) r P.length 0 t (by omega) (by rw [List.drop_zero, wnat (n := 2048) (by omega) (by omega)]; exact h)
      rw [ht] at h2
      exact Ev.step (fun _ => rfl) (evT (by omega) (by rw [edg_length]; exact h2))
    by_cases c : prp m P = true
    · exact ⟨true, ⟨fun _ => ⟨m, Nat.le_refl _, by omega, c⟩, fun _ => rfl⟩, st true _ rfl (evT (by rw [c]; rfl) (evN rfl))⟩
    · obtain ⟨b, hb, h⟩ := ih (m + 1) (by omega)
      refine ⟨b, ?_, st true _ rfl (evF (by simpa using c) h)⟩
      rw [hb]
      refine ⟨fun ⟨i, x, y, z⟩ => ⟨i, by omega, y, z⟩, fun ⟨i, x, y, z⟩ => ⟨i, ?_, y, z⟩⟩
      have : i ≠ m := fun q => c (q ▸ z)
      omega
theorem biv : Ev (fun k => impl_IsBipartite.f k (N : Int) (edg P)) (decide (cnB (fun m => prp m P) (2 ^ N) > 0), 0) := by
  have h8 := g.hi
  obtain ⟨b, hb, h⟩ := bi_l0 g (2 ^ N) 0 (by omega)
  have e : b = decide (cnB (fun m => prp m P) (2 ^ N) > 0) := by
    have k := (sg_01 (fun m => prp m P) (2 ^ N)).2.2
    rw [Bool.eq_iff_iff, hb, decide_eq_true_iff]
    exact ⟨fun ⟨i, _, x, y⟩ => k.2 ⟨i, x, y⟩, fun z => let ⟨i, x, y⟩ := k.1 z; ⟨i, Nat.zero_le _, x, y⟩⟩
  rw [← e]
  unfold impl_IsBipartite.f
  refine Ev.bind (isg_ g) (evT rfl (evT (by omega) ?_))
  rw [shlE _ (by omega)]; exact h
end
end Go.Proofs.Ytaahcjjhmejljaa.Q
end
section
namespace Go.Proofs.Ytaahcjjhmejljaa.Q
open Go.RowKit Go.Proofs.Ytaahcjjhmejljaa.X Go.Proofs.YtaahcjjhmejljaaW.PrintWords Go.Proofs.YtaahcjjhmejljaaW.PrintLast Go.Proofs.YtaahcjjhmejljaaW.PrintMore
set_option linter.unusedVariables false
def Src (l : List Int) (a : Int) : Prop := l.length ≤ 140737488351232 ∧ (∀ x ∈ l, 0 ≤ x ∧ x ≤ 255) ∧ 0 ≤ a ∧ a ≤ 140737488351232
theorem rd_byte {l : List Int} (h : ∀ x ∈ l, 0 ≤ x ∧ x ≤ 255) (i : Int) : 0 ≤ rd l i ∧ rd l i ≤ 255 := by
  unfold rd
  rw [List.getD_eq_getElem?_getD]
  cases e : l[i.toNat]? with
  | none => simp
  | some x => exact h x (List.mem_of_getElem? e)
theorem and_30 (x : Int) (h0 : 0 ≤ x) (h1 : x < 18446744073709551616) : Go.bits .and .u64 x 1073741823 = x % 1073741824 :=
  bits_mask .u64 64 (by decide) (fun n h0 h1 => by rw [show IntKind.u64.wrap n = n % 18446744073709551616 from by simp [IntKind.wrap, IntKind.bits, IntKind.signed]]; omega) 30 (by decide) x h0 h1
theorem u64_lt (n : Int) : 0 ≤ IntKind.u64.wrap n ∧ IntKind.u64.wrap n < 18446744073709551616 := by
  rw [show IntKind.u64.wrap n = n % 18446744073709551616 from by simp [IntKind.wrap, IntKind.bits, IntKind.signed]]; omega
theorem next_ {l : List Int} {a : Int} (hs : Src l a) (h n : Int) (h1 : 1 ≤ n) (h2 : n ≤ 1152921504606846976) : ∃ x a' h', spec_l01Next.f l a h n = some (x, a', h') ∧ 0 ≤ x ∧ x < n ∧ Src l a' := by
  obtain ⟨s1, s2, s3, s4⟩ := hs
  unfold spec_l01Next.f
  rw [if_neg (by omega)]
  generalize hw : IntKind.u64.wrap (IntKind.u64.wrap (h * 6364136223846793005) + 1442695040888963407) = w
  have hw2 := u64_lt (IntKind.u64.wrap (h * 6364136223846793005) + 1442695040888963407)
  rw [hw] at hw2
  have hq : 0 ≤ w / 2147483648 ∧ w / 2147483648 < 18446744073709551616 := by omega
  have hb := and_30 (w / 2147483648) hq.1 hq.2
  have hb2 : 0 ≤ Go.bits .and .u64 (w / 2147483648) 1073741823 ∧ Go.bits .and .u64 (w / 2147483648) 1073741823 < 1073741824 := by rw [hb]; omega
  generalize Go.bits .and .u64 (w / 2147483648) 1073741823 = b at hb2
  by_cases c : a < (l.length : Int)
  · have hr := rd_byte s2 a
    rw [if_pos c, if_pos s3, if_neg (by omega), wid (x := b) (by omega) (by omega), wid (x := rd l a) (by omega) (by omega), wid (x := b + rd l a) (by omega) (by omega), wid (x := a + 1) (by omega) (by omega)]
    exact ⟨_, _, _, rfl, Int.tmod_nonneg _ (by omega), Int.tmod_lt_of_pos _ (by omega), s1, s2, by omega, by omega⟩
  · rw [if_neg c, if_neg (by omega), wid (x := b) (by omega) (by omega)]
    exact ⟨_, _, _, rfl, Int.tmod_nonneg _ (by omega), Int.tmod_lt_of_pos _ (by omega), s1, s2, s3, s4⟩
theorem pick_ {l : List Int} {a : Int} (hs : Src l a) (h : Int) (xs : List Int) (h1 : 1 ≤ xs.length) (h2 : xs.length ≤ 1000) : ∃ x a' h', spec_l01Pick.f l a h xs = some (x, a', h') ∧ x ∈ xs ∧ Src l a' := by
  obtain ⟨x, a', h', e, p, q, s⟩ := next_ hs h (xs.length : Int) (by omega) (by omega)
  unfold spec_l01Pick.f
  rw [e]
  show ∃ x_ a_ h_, (if 0 ≤ x then (if x < (xs.length : Int) then some (rd xs x, a', h') else none) else none) = some (x_, a_, h_) ∧ _
  rw [if_pos p, if_pos q]
  refine ⟨_, _, _, rfl, ?_, s⟩
  obtain ⟨i, rfl⟩ := Int.eq_ofNat_of_zero_le p
  rw [rd_at xs i (by omega)]
  exact List.getElem_mem _
theorem near_ {l : List Int} {a : Int} (hs : Src l a) (h n : Int) (h1 : 0 ≤ n) (h2 : n ≤ 1000000) : ∃ x a' h', spec_l01Near.f l a h n = some (x, a', h') ∧ Src l a' := by
  obtain ⟨x, a1, h3, e, p, q, s⟩ := next_ hs h 14 (by omega) (by omega)
  unfold spec_l01Near.f
  rw [e]
  show ∃ x_ a_ h_, (if x = 0 then _ else _) = some (x_, a_, h_) ∧ _
  by_cases c : x = 0
  · rw [if_pos c]
    obtain ⟨x2, a2, h4, e2, _, s2⟩ := pick_ s h3 [(-1), wrap64 (n + 1), 1099511627776, (-4611686018427387904)] (by simp) (by simp)
    exact ⟨x2, a2, h4, by show (spec_l01Pick.f l a1 h3 _).bind _ = _; rw [e2]; rfl, s2⟩
  · rw [if_neg c]
    obtain ⟨x2, a2, h4, e2, _, _, s2⟩ := next_ s h3 (wrap64 (n + 1)) (by rw [wid (by omega) (by omega)]; omega) (by rw [wid (by omega) (by omega)]; omega)
    exact ⟨x2, a2, h4, by show (spec_l01Next.f l a1 h3 _).bind _ = _; rw [e2]; rfl, s2⟩
theorem from_l (l : List Int) (hl : l.length ≤ 140737488351232) (d : Nat) : ∀ (i : Nat) (h : Int), l.length ≤ i + d → ∃ h', Ev (fun k => spec_l01From.l0 k l (i : Int) l 0 h) (l, 0, h') := by
  induction d with
  | zero => intro i h hd; exact ⟨h, Ev.step (fun _ => rfl) (evF (by omega) (evN rfl))⟩
  | succ d ih =>
    intro i h hd
    by_cases c : (i : Int) < (l.length : Int)
    · by_cases c2 : (i : Int) < 4096
      · obtain ⟨h', e⟩ := ih (i + 1) (IntKind.u64.wrap ((IntKind.u64.wrap ((IntKind.u64.wrap (h * 1099511628211)) + (IntKind.u64.wrap (rd l i)))) + 109)) (by omega)
        refine ⟨h', Ev.step (fun _ => rfl) (evT c (evT c2 (evT (by omega) ?_)))⟩
        rw [show wrap64 ((i : Int) + 1) = ((i + 1 : Nat) : Int) from wnat (n := i + 1) (by omega) (by omega)]
        exact e
      · exact ⟨h, Ev.step (fun _ => rfl) (evT c (evF c2 (evN rfl)))⟩
    · exact ⟨h, Ev.step (fun _ => rfl) (evF c (evN rfl))⟩
theorem from_ (l : List Int) (hl : l.length ≤ 140737488351232) (hb : ∀ x ∈ l, 0 ≤ x ∧ x ≤ 255) : ∃ h', Ev (fun k => spec_l01From.f k l) (l, 0, h') ∧ Src l 0 := by
  obtain ⟨h', e⟩ := from_l l hl l.length 0 (IntKind.u64.wrap (12981 + (IntKind.u64.wrap ((l.length : Int))))) (by omega)
  exact ⟨h', e, hl, hb, by omega, by omega⟩
end Go.Proofs.Ytaahcjjhmejljaa.Q
end
