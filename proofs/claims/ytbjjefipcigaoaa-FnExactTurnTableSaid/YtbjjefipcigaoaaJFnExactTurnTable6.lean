/- Words, what the functions that FnExactTurnTable reaches compute, and the plain laws on it; part 6. -/
import Derived.Deep.Matrix
import Derived.Lib.SmallJoins
import Derived.WalkKit
import Derived.ProofKit
import Derived.OpenShut
import Derived.ChangeOld
import Derived.Below
import Derived.SizedLaws
import Derived.Test.YtbjjefipcigaoaaJFnExactTurnTable5
section
namespace Go.Proofs.Ytbjjefipcigaoaa.Q
open Go.RowKit Go.Proofs.Ytbjjefipcigaoaa.X Go.Proofs.Ytbjjefipcigaoaa.Dt Go.Proofs.YtbjjefipcigaoaaW.PrintWords Go.Proofs.YtbjjefipcigaoaaW.PrintLast Go.Proofs.YtbjjefipcigaoaaW.PrintMore
set_option linter.unusedVariables false
def zf (m c i : Nat) : List (List Int) := (List.range m).map fun e => if e < i then List.replicate c 0 else []
theorem zf_length (m c i : Nat) : (zf m c i).length = m := by simp [zf]
theorem zf_none (m c : Nat) : List.replicate m ([] : List Int) = zf m c 0 := by
  apply List.ext_getElem
  · simp [zf]
  · intro j h1 h2; simp [zf]
theorem zf_set (m c i : Nat) : (zf m c i).set i (List.replicate c 0) = zf m c (i + 1) := by
  apply List.ext_getElem
  · simp [zf]
  · intro j h1 h2
    simp only [zf, List.getElem_set, List.getElem_map, List.getElem_range]
    by_cases h : i = j
    · subst h; rw [if_pos rfl, if_pos (by omega)]
    · rw [if_neg h]
      by_cases h3 : j < i
      · rw [if_pos h3, if_pos (by omega)]
      · rw [if_neg h3, if_neg (by omega)]
theorem zf_all (m c : Nat) (F : Nat → Nat → Int) (hF : ∀ i j, i < m → j < c → F i j = 0) : zf m c m = rmat m c F := by
  apply List.ext_getElem
  · simp [zf, rmat]
  · intro j h1 h2
    have hj : j < m := by rw [zf_length] at h1; exact h1
    simp only [zf, rmat, List.getElem_map, List.getElem_range]
    rw [if_pos hj]
    apply List.ext_getElem
    · simp [wrow]
    · intro x h3 h4
      have hx : x < c := by rw [List.length_replicate] at h3; exact h3
      simp only [wrow, List.getElem_replicate, List.getElem_map, List.getElem_range]
      rw [hF j x hj hx, w0]
theorem sfirst_l (m K a : Nat) (hm : m ≤ 20) (hK : K ≤ 8) (ha : a < m) (E : Nat → Nat → Int) (d : Nat) : ∀ i : Nat, i + d = m →
    Ev (fun k => spec_turnFirst.l0 k (K : Int) (wmat m E) (a : Int) (zf m (K + 1) i) (i : Int)) (rmat m (K + 1) (fun e t => tw m E 0 t a e)) := by
  induction d with
  | zero =>
    intro i hi
    obtain rfl : i = m := by omega
    have h := rmat_put i (K + 1) (fun _ _ => 0) a 0 1 ha
    rw [show wrap64 1 = 1 from by unfold wrap64; omega] at h
    refine Ev.step (fun _ => rfl) (evF (by rw [wmat_length]; omega) ?_)
    rw [zf_all i (K + 1) (fun _ _ => 0) (fun _ _ _ _ => rfl)]
    refine evT (by omega) (evT (by rw [rmat_length]; omega) (evT (by rw [rmat_at _ _ _ a ha, wrow_length]; omega) (evN (congrArg some ?_))))
    rw [rmat_at _ _ _ a ha, Int.toNat_natCast]
    refine h.trans (rmat_congr fun e t he ht => ?_)
    unfold tw
    by_cases hx : e = a ∧ t = 0
    · rw [if_pos hx, if_pos ⟨hx.2, hx.1.symm⟩]
    · rw [if_neg hx, if_neg (fun hh_ => hx ⟨hh_.2.symm, hh_.1⟩)]
  | succ d ih =>
    intro i hi
    have w1 : wrap64 ((K : Int) + 1) = ((K + 1 : Nat) : Int) := by unfold wrap64; omega
    have h := ih (i + 1) (by omega)
    refine Ev.step (fun _ => rfl) (evT (by rw [wmat_length]; omega) ?_)
    rw [w1, Int.toNat_natCast, Int.toNat_natCast, zf_set, wnat (n := m) (by omega) (by omega)]
    exact evT (by omega) (evT (by omega) (evT (by omega) (evT (by rw [zf_length]; omega) h)))
theorem sfirst_ (m K a : Nat) (hm : m ≤ 20) (hK : K ≤ 8) (ha : a < m) (E : Nat → Nat → Int) : Ev (fun k => spec_turnFirst.f k (wmat m E) (a : Int) (K : Int)) (rmat m (K + 1) (fun e t => tw m E 0 t a e)) := by
  unfold spec_turnFirst.f
  refine evT (by omega) (evT (by rw [wmat_length]; omega) ?_)
  rw [wmat_length, Int.toNat_natCast, zf_none m (K + 1)]
  exact sfirst_l m K a hm hK ha E m 0 (by omega)
def cc (E V : Nat → Nat → Int) (e f t : Nat) : Int := if f = xr e ∧ 0 < t then V e (t - 1) else if E e f = 1 then V e t else 0
def ss (C : Nat → Nat → Nat → Int) (e f t : Nat) : Nat → Nat → Int := fun f' t' => sm e (fun e' => C e' f' t') + (if f' < f ∨ (f' = f ∧ t' < t) then C e f' t' else 0)
theorem ss_next (C : Nat → Nat → Nat → Int) (e f t f' t' : Nat) : (if f' = f ∧ t' = t then ss C e f t f t + C e f t else ss C e f t f' t') = ss C e f (t + 1) f' t' := by
  by_cases h : f' = f ∧ t' = t
  · rw [if_pos h]
    obtain ⟨rfl, rfl⟩ := h
    unfold ss
    rw [if_neg (show ¬ (f' < f' ∨ (f' = f' ∧ t' < t')) from by omega), if_pos (show f' < f' ∨ (f' = f' ∧ t' < t' + 1) from by omega), Int.add_zero]
  · rw [if_neg h]
    unfold ss
    have a : (f' < f ∨ (f' = f ∧ t' < t)) ↔ (f' < f ∨ (f' = f ∧ t' < t + 1)) := by omega
    simp only [a]
theorem ss_same (C : Nat → Nat → Nat → Int) (e f t f' t' : Nat) (h : C e f t = 0) : ss C e f t f' t' = ss C e f (t + 1) f' t' := by
  rw [← ss_next, h, Int.add_zero]
  by_cases h2 : f' = f ∧ t' = t
  · rw [if_pos h2, h2.1, h2.2]
  · rw [if_neg h2]
theorem wr1 : wrap64 1 = 1 := by unfold wrap64; omega
theorem snext_l3 (p K e f : Nat) (hp : 2 * p ≤ 20) (hK : K ≤ 8) (E V : Nat → Nat → Int) (hE1 : ∀ a b, E a b = 0 ∨ E a b = 1) (hE2 : ∀ a, a < 2 * p → E a (xr a) = 0) (he : e < 2 * p) (hf : f < 2 * p) (r : List (List Int))
    (hr : Ev (fun k => spec_turnNext.l2 k (K : Int) (wmat (2 * p) E) (rmat (2 * p) (K + 1) V) (rmat (2 * p) (K + 1) (ss (cc E V) e (f + 1) 0)) (e : Int) ((f + 1 : Nat) : Int)) r) (d : Nat) :
    ∀ t : Nat, t + d = K + 1 → Ev (fun k => spec_turnNext.l3 k (K : Int) (wmat (2 * p) E) (rmat (2 * p) (K + 1) V) (rmat (2 * p) (K + 1) (ss (cc E V) e f t)) (e : Int) (f : Int) (t : Int)) r := by
  have w1 : wrap64 ((K : Int) + 1) = ((K + 1 : Nat) : Int) := by unfold wrap64; omega
  have hf1 : wrap64 ((f : Int) + 1) = ((f + 1 : Nat) : Int) := wnat (n := 2 * p) hf (by omega)
  have he20 : e < 20 := by omega
  have cE : 0 ≤ (e : Int) ∧ (e : Int) < ((2 * p : Nat) : Int) := by omega
  have cF : 0 ≤ (f : Int) ∧ (f : Int) < ((2 * p : Nat) : Int) := by omega
  have hxe : Go.bits .xor .i64 (e : Int) 1 = ((xr e : Nat) : Int) := xor_ e he20
  induction d with
  | zero =>
    intro t ht
    obtain rfl : t = K + 1 := by omega
    refine Ev.step (fun _ => rfl) (evF (by rw [w1]; omega) ?_)
    rw [hf1, show rmat (2 * p) (K + 1) (ss (cc E V) e f (K + 1)) = rmat (2 * p) (K + 1) (ss (cc E V) e (f + 1) 0) from rmat_congr fun a b ha hb => by
      have i : (a < f ∨ (a = f ∧ b < K + 1)) ↔ (a < f + 1 ∨ (a = f + 1 ∧ b < 0)) := by omega
      unfold ss; simp only [i]]
    exact hr
  | succ d ih =>
    intro t ht
    have h := ih (t + 1) (by omega)
    have htK : t < K + 1 := by omega
    have ct : (t : Int) < ((K + 1 : Nat) : Int) := by omega
    have cT : 0 ≤ (t : Int) ∧ (t : Int) < ((K + 1 : Nat) : Int) := by omega
    have t1 : 0 < t → wrap64 ((t : Int) - 1) = ((t - 1 : Nat) : Int) ∧ t - 1 < K + 1 ∧ 0 ≤ ((t - 1 : Nat) : Int) ∧ ((t - 1 : Nat) : Int) < ((K + 1 : Nat) : Int) ∧ (t : Int) > 0 := fun h0 => ⟨by rw [wid (by omega) (by omega)]; omega, by omega, by omega, by omega, by omega⟩
    have t2 : ¬ 0 < t → ¬ (t : Int) > 0 := fun h0 => by omega
    have wt : wrap64 ((t : Int) + 1) = ((t + 1 : Nat) : Int) := wnat (n := K + 1) htK (by omega)
    have lE : (rd_L1 (wmat (2 * p) E) (e : Int)) = wrow (2 * p) (E e) := wmat_at _ _ _ he
    have rE : rd (wrow (2 * p) (E e)) (f : Int) = wrap64 (E e f) := wrow_at _ _ _ hf
    have lV : (rd_L1 (rmat (2 * p) (K + 1) V) (e : Int)) = wrow (K + 1) (V e) := rmat_at _ _ _ _ he
    have lX : (rd_L1 (rmat (2 * p) (K + 1) (ss (cc E V) e f t)) (f : Int)) = wrow (K + 1) (ss (cc E V) e f t f) := rmat_at _ _ _ _ hf
    have rX : rd (wrow (K + 1) (ss (cc E V) e f t f)) (t : Int) = wrap64 (ss (cc E V) e f t f t) := wrow_at _ _ _ htK
    have put : ∀ v, cc E V e f t = v → (rmat (2 * p) (K + 1) (ss (cc E V) e f t)).set f ((wrow (K + 1) (ss (cc E V) e f t f)).set t (wrap64 (ss (cc E V) e f t f t + v))) = rmat (2 * p) (K + 1) (ss (cc E V) e f (t + 1)) := fun v hv => by
      subst hv
      exact (rmat_put _ _ _ f t _ hf).trans (rmat_congr fun a b _ _ => ss_next (cc E V) e f t a b)
    have same : cc E V e f t = 0 → rmat (2 * p) (K + 1) (ss (cc E V) e f t) = rmat (2 * p) (K + 1) (ss (cc E V) e f (t + 1)) := fun hc => rmat_congr fun a b _ _ => ss_same (cc E V) e f t a b hc
    have flat : ∀ b : Bool, b = false → ¬ (f = xr e ∧ 0 < t) → Ev (fun k => spec_turnNext.j4 k (K : Int) (wmat (2 * p) E) (rmat (2 * p) (K + 1) V) (rmat (2 * p) (K + 1) (ss (cc E V) e f t)) (e : Int) (f : Int) (t : Int) b) r := fun b hb hn => by
      refine Ev.step (fun _ => rfl) (evF (fun hh_ => Bool.noConfusion (hb.symm.trans hh_)) (evT cE.1 (evT (by rw [wmat_length]; exact cE.2) (evT cF.1 (evT (by rw [lE, wrow_length]; exact cF.2) ?_)))))
      rw [lE, rE]
      rcases hE1 e f with h0 | h1
      · rw [h0, w0]
        refine evF (show ¬ ((0 : Int) = 1) from by decide) ?_
        rw [wt, same (by unfold cc; rw [if_neg hn, h0]; exact if_neg (by decide))]
        exact h
      · rw [h1, wr1]
        refine evT rfl (evT (by rw [rmat_length]; exact cF.2) (evT cT.1 (evT (by rw [lX, wrow_length]; exact cT.2) (evT (by rw [rmat_length]; exact cE.2) (evT (by rw [lV, wrow_length]; exact cT.2) ?_)))))
        rw [lX, rX, lV, wrow_at _ _ _ htK, wr_add, Int.toNat_natCast, Int.toNat_natCast, wt, put (V e t) (by unfold cc; rw [if_neg hn, if_pos h1])]
        exact h
    refine Ev.step (fun _ => rfl) (evT (by rw [w1]; exact ct) ?_)
    rw [hxe]
    by_cases hx : f = xr e
    · refine evT (by rw [hx]) ?_
      by_cases h0 : 0 < t
      · obtain ⟨wt1, ht1, cTa, cTb, tp⟩ := t1 h0
        obtain ⟨b, hb⟩ : ∃ b : Bool, decide ((t : Int) > 0) = b := ⟨_, rfl⟩
        have hb1 : b = true := hb.symm.trans (decide_eq_true tp)
        rw [hb]
        refine Ev.step (fun _ => rfl) (evT hb1 (evT cF.1 (evT (by rw [rmat_length]; exact cF.2) (evT cT.1 (evT (by rw [lX, wrow_length]; exact cT.2) (evT cE.1 (evT (by rw [rmat_length]; exact cE.2) ?_)))))))
        rw [wt1]
        refine evT cTa (evT (by rw [lV, wrow_length]; exact cTb) ?_)
        rw [lX, rX, lV, wrow_at _ _ _ ht1, wr_add, Int.toNat_natCast, Int.toNat_natCast, wt, put (V e (t - 1)) (by unfold cc; rw [if_pos ⟨hx, h0⟩])]
        exact h
      · exact flat _ (decide_eq_false (t2 h0)) (fun hh_ => h0 hh_.2)
    · exact evF (fun hh_ => hx (Int.ofNat_inj.1 hh_)) (flat _ rfl (fun hh_ => hx hh_.1))
theorem snext_l2 (p K e : Nat) (hp : 2 * p ≤ 20) (hK : K ≤ 8) (E V : Nat → Nat → Int) (hE1 : ∀ a b, E a b = 0 ∨ E a b = 1) (hE2 : ∀ a, a < 2 * p → E a (xr a) = 0) (he : e < 2 * p) (r : List (List Int))
    (hr : Ev (fun k => spec_turnNext.l1 k (K : Int) (wmat (2 * p) E) (rmat (2 * p) (K + 1) V) (rmat (2 * p) (K + 1) (ss (cc E V) (e + 1) 0 0)) ((e + 1 : Nat) : Int)) r) (d : Nat) :
    ∀ f : Nat, f + d = 2 * p → Ev (fun k => spec_turnNext.l2 k (K : Int) (wmat (2 * p) E) (rmat (2 * p) (K + 1) V) (rmat (2 * p) (K + 1) (ss (cc E V) e f 0)) (e : Int) (f : Int)) r := by
  induction d with
  | zero =>
    intro f hf
    obtain rfl : f = 2 * p := by omega
    refine Ev.step (fun _ => rfl) (evF (by rw [wmat_length]; omega) ?_)
    rw [wnat (n := 2 * p) he (by omega), show rmat (2 * p) (K + 1) (ss (cc E V) e (2 * p) 0) = rmat (2 * p) (K + 1) (ss (cc E V) (e + 1) 0 0) from rmat_congr fun a b ha hb => by
      have i : (a < 2 * p ∨ (a = 2 * p ∧ b < 0)) := by omega
      have j : ¬ (a < 0 ∨ (a = 0 ∧ b < 0)) := by omega
      unfold ss
      rw [if_pos i, if_neg j, Int.add_zero]; rfl]
    exact hr
  | succ d ih =>
    intro f hf
    have h := ih (f + 1) (by omega)
    refine Ev.step (fun _ => rfl) (evT (by rw [wmat_length]; omega) (evT (by omega) (evT (by rw [rmat_length]; omega) ?_)))
    exact snext_l3 p K e f hp hK E V hE1 hE2 he (by omega) r h (K + 1) 0 (by omega)
theorem snext_l1 (p K : Nat) (hp : 2 * p ≤ 20) (hK : K ≤ 8) (E V : Nat → Nat → Int) (hE1 : ∀ a b, E a b = 0 ∨ E a b = 1) (hE2 : ∀ a, a < 2 * p → E a (xr a) = 0) (d : Nat) :
    ∀ e : Nat, e + d = 2 * p → Ev (fun k => spec_turnNext.l1 k (K : Int) (wmat (2 * p) E) (rmat (2 * p) (K + 1) V) (rmat (2 * p) (K + 1) (ss (cc E V) e 0 0)) (e : Int)) (rmat (2 * p) (K + 1) (ss (cc E V) (2 * p) 0 0)) := by
  induction d with
  | zero =>
    intro e he
    obtain rfl : e = 2 * p := by omega
    exact Ev.step (fun _ => rfl) (evF (by rw [wmat_length]; omega) (evN rfl))
  | succ d ih =>
    intro e he
    have h := ih (e + 1) (by omega)
    refine Ev.step (fun _ => rfl) (evT (by rw [wmat_length]; omega) ?_)
    exact snext_l2 p K e hp hK E V hE1 hE2 (by omega) _ h (2 * p) 0 (by omega)
theorem snext_l0 (p K : Nat) (hp : 2 * p ≤ 20) (hK : K ≤ 8) (E V : Nat → Nat → Int) (hE1 : ∀ a b, E a b = 0 ∨ E a b = 1) (hE2 : ∀ a, a < 2 * p → E a (xr a) = 0) (d : Nat) :
    ∀ i : Nat, i + d = 2 * p → Ev (fun k => spec_turnNext.l0 k (K : Int) (wmat (2 * p) E) (rmat (2 * p) (K + 1) V) (zf (2 * p) (K + 1) i) (i : Int)) (rmat (2 * p) (K + 1) (ss (cc E V) (2 * p) 0 0)) := by
  induction d with
  | zero =>
    intro i hi
    obtain rfl : i = 2 * p := by omega
    have h := snext_l1 p K hp hK E V hE1 hE2 (2 * p) 0 (by omega)
    refine Ev.step (fun _ => rfl) (evF (by rw [wmat_length]; omega) ?_)
    rw [zf_all (2 * p) (K + 1) (ss (cc E V) 0 0 0) (fun a b _ _ => by unfold ss; rw [if_neg (by omega)]; rfl)]
    exact h
  | succ d ih =>
    intro i hi
    have w1 : wrap64 ((K : Int) + 1) = ((K + 1 : Nat) : Int) := by unfold wrap64; omega
    have h := ih (i + 1) (by omega)
    refine Ev.step (fun _ => rfl) (evT (by rw [wmat_length]; omega) ?_)
    rw [w1, Int.toNat_natCast, Int.toNat_natCast, zf_set, wnat (n := 2 * p) (by omega) (by omega)]
    exact evT (by omega) (evT (by omega) (evT (by omega) (evT (by rw [zf_length]; omega) h)))
theorem cc_sum (p : Nat) (E V : Nat → Nat → Int) (hE1 : ∀ a b, E a b = 0 ∨ E a b = 1) (hE2 : ∀ a, a < 2 * p → E a (xr a) = 0) (f t : Nat) (hf : f < 2 * p) :
    (sm (2 * p) fun e => cc E V e f t) = (sm (2 * p) fun e => V e t * E e f) + (if 1 ≤ t then V (xr f) (t - 1) else 0) := by
  have hx := xr_lt hf
  have e1 : (sm (2 * p) fun e => cc E V e f t) = sm (2 * p) fun e => V e t * E e f + (if e = xr f ∧ 1 ≤ t then V e (t - 1) else 0) := sm_congr fun e he => by
    unfold cc
    by_cases h : f = xr e
    · have h2 : e = xr f := by rw [h, xr_xr]
      have h3 : E e f = 0 := by rw [h]; exact hE2 e he
      rw [h3, Int.mul_zero, Int.zero_add]
      by_cases h4 : 0 < t
      · rw [if_pos (show f = xr e ∧ 0 < t from ⟨h, h4⟩), if_pos (show e = xr f ∧ 1 ≤ t from ⟨h2, h4⟩)]
      · rw [if_neg (show ¬ (f = xr e ∧ 0 < t) from fun hh_ => h4 hh_.2), if_neg (show ¬ (e = xr f ∧ 1 ≤ t) from fun hh_ => h4 hh_.2), if_neg (show ¬ ((0 : Int) = 1) from by decide)]
    · have h2 : ¬ e = xr f := fun hh_ => h (by rw [hh_, xr_xr])
      rw [if_neg (show ¬ (f = xr e ∧ 0 < t) from fun hh_ => h hh_.1), if_neg (show ¬ (e = xr f ∧ 1 ≤ t) from fun hh_ => h2 hh_.1), Int.add_zero]
      rcases hE1 e f with h3 | h3
      · rw [h3, if_neg (show ¬ ((0 : Int) = 1) from by decide), Int.mul_zero]
      · rw [h3, if_pos rfl, Int.mul_one]
  rw [e1, sm_add, sm_one (j := xr f) hx (fun i _ hi => if_neg (fun hh_ => hi hh_.1))]
  congr 1
  by_cases h4 : 1 ≤ t
  · rw [if_pos ⟨rfl, h4⟩, if_pos h4]
  · rw [if_neg (fun hh_ => h4 hh_.2), if_neg h4]
theorem snext_ (p K a j : Nat) (hp : 2 * p ≤ 20) (hK : K ≤ 8) (E : Nat → Nat → Int) (hE1 : ∀ a b, E a b = 0 ∨ E a b = 1) (hE2 : ∀ a, a < 2 * p → E a (xr a) = 0) :
    Ev (fun k => spec_turnNext.f k (wmat (2 * p) E) (rmat (2 * p) (K + 1) (fun e t => tw (2 * p) E j t a e)) (K : Int)) (rmat (2 * p) (K + 1) (fun e t => tw (2 * p) E (j + 1) t a e)) := by
  have h := snext_l0 p K hp hK E (fun e t => tw (2 * p) E j t a e) hE1 hE2 (2 * p) 0 (by omega)
  have e : rmat (2 * p) (K + 1) (ss (cc E (fun e t => tw (2 * p) E j t a e)) (2 * p) 0 0) = rmat (2 * p) (K + 1) (fun e t => tw (2 * p) E (j + 1) t a e) := rmat_congr fun f t hf ht => by
    unfold ss
    rw [if_neg (show ¬ (f < 0 ∨ (f = 0 ∧ t < 0)) from by omega), Int.add_zero, cc_sum p E _ hE1 hE2 f t hf]
    rfl
  rw [e] at h
  unfold spec_turnNext.f
  refine evT (by omega) (evT (by rw [wmat_length]; omega) ?_)
  rw [wmat_length, Int.toNat_natCast, zf_none (2 * p) (K + 1)]
  exact h
def omat (K : Nat) (F : Nat → Nat → Int) : List (List Int) := (List.range K).map fun j => wrow (j + 2) (F j)
theorem omat_length (K : Nat) (F : Nat → Nat → Int) : (omat K F).length = K := by simp [omat]
theorem omat_at (K : Nat) (F : Nat → Nat → Int) (i : Nat) (h : i < K) : rd_L1 (omat K F) (i : Int) = wrow (i + 2) (F i) := by rw [rdL _ _ (by rw [omat_length]; exact h)]; simp [omat]
theorem omat_congr {K : Nat} {F F' : Nat → Nat → Int} (h : ∀ i j, i < K → j < i + 2 → F i j = F' i j) : omat K F = omat K F' := by
  unfold omat; exact List.map_congr_left fun i hi => wrow_congr fun j hj => by rw [h i j (List.mem_range.1 hi) hj]
theorem omat_put (K : Nat) (F : Nat → Nat → Int) (a b : Nat) (v : Int) (ha : a < K) : (omat K F).set a ((wrow (a + 2) (F a)).set b (wrap64 v)) = omat K (fun i j => if i = a ∧ j = b then v else F i j) := by
  rw [wrow_set]
  apply List.ext_getElem
  · simp [omat]
  · intro j h1 h2
    simp only [omat, List.getElem_set, List.getElem_map, List.getElem_range]
    split
    · rename_i h; subst h; congr 1; funext x; simp
    · rename_i h; congr 1; funext x; rw [if_neg (fun hh_ => h hh_.1.symm)]
def os (D : Nat → Nat → Nat → Int) (a j t : Nat) : Nat → Nat → Int := fun j' t' => sm a (fun a' => D j' t' a') + (if j' < j ∨ (j' = j ∧ t' < t) then D j' t' a else 0)
theorem os_next (D : Nat → Nat → Nat → Int) (a j t j' t' : Nat) : (if j' = j ∧ t' = t then os D a j t j t + D j t a else os D a j t j' t') = os D a j (t + 1) j' t' := by
  by_cases h : j' = j ∧ t' = t
  · rw [if_pos h]
    obtain ⟨rfl, rfl⟩ := h
    unfold os
    rw [if_neg (show ¬ (j' < j' ∨ (j' = j' ∧ t' < t')) from by omega), if_pos (show j' < j' ∨ (j' = j' ∧ t' < t' + 1) from by omega), Int.add_zero]
  · rw [if_neg h]
    unfold os
    have i : (j' < j ∨ (j' = j ∧ t' < t)) ↔ (j' < j ∨ (j' = j ∧ t' < t + 1)) := by omega
    simp only [i]
def bk (m : Nat) (E : Nat → Nat → Int) (j t a : Nat) : Int := tw m E (j + 1) t a a
theorem rest_l3 (p K a j : Nat) (hp : 2 * p ≤ 20) (hK : K ≤ 8) (E : Nat → Nat → Int) (ha : a < 2 * p) (hj : j < K) (X6 : List (List Int)) (r : List (List Int))
    (hr : Ev (fun k => spec_turnRest.l2 k (K : Int) X6 (omat K (os (bk (2 * p) E) a (j + 1) 0)) (a : Int) (rmat (2 * p) (K + 1) (fun e t => tw (2 * p) E (j + 1) t a e)) ((j + 1 + 1 : Nat) : Int)) r) (d : Nat) :
    ∀ t : Nat, t + d = j + 2 → Ev (fun k => spec_turnRest.l3 k (K : Int) X6 (omat K (os (bk (2 * p) E) a j t)) (a : Int) ((j + 1 : Nat) : Int) (rmat (2 * p) (K + 1) (fun e t => tw (2 * p) E (j + 1) t a e)) (t : Int)) r := by
  have wj : wrap64 (((j + 1 : Nat) : Int) - 1) = (j : Int) := by rw [wid (by omega) (by omega)]; omega
  have wj2 : wrap64 (((j + 1 : Nat) : Int) + 1) = ((j + 1 + 1 : Nat) : Int) := by unfold wrap64; omega
  have cJ : 0 ≤ (j : Int) ∧ (j : Int) < (K : Int) := by omega
  have cA : 0 ≤ (a : Int) ∧ (a : Int) < ((2 * p : Nat) : Int) := by omega
  have lN : (rd_L1 (rmat (2 * p) (K + 1) (fun e t => tw (2 * p) E (j + 1) t a e)) (a : Int)) = wrow (K + 1) (fun t => tw (2 * p) E (j + 1) t a a) := rmat_at _ _ _ _ ha
  induction d with
  | zero =>
    intro t ht
    obtain rfl : t = j + 2 := by omega
    refine Ev.step (fun _ => rfl) (evF (by omega) ?_)
    rw [wj2, show omat K (os (bk (2 * p) E) a j (j + 2)) = omat K (os (bk (2 * p) E) a (j + 1) 0) from omat_congr fun x y hx hy => by
      have i : (x < j ∨ (x = j ∧ y < j + 2)) ↔ (x < j + 1 ∨ (x = j + 1 ∧ y < 0)) := by omega
      unfold os; simp only [i]]
    exact hr
  | succ d ih =>
    intro t ht
    have h := ih (t + 1) (by omega)
    have ht1 : t < j + 2 := by omega
    have ht2 : t < K + 1 := by omega
    have wt : wrap64 ((t : Int) + 1) = ((t + 1 : Nat) : Int) := wnat (n := K + 1) ht2 (by omega)
    have cT : 0 ≤ (t : Int) ∧ (t : Int) < ((j + 2 : Nat) : Int) ∧ (t : Int) < ((K + 1 : Nat) : Int) := by omega
    have c0 : (t : Int) ≤ ((j + 1 : Nat) : Int) := by omega
    have lX : (rd_L1 (omat K (os (bk (2 * p) E) a j t)) (j : Int)) = wrow (j + 2) (os (bk (2 * p) E) a j t j) := omat_at _ _ _ hj
    have rX : rd (wrow (j + 2) (os (bk (2 * p) E) a j t j)) (t : Int) = wrap64 (os (bk (2 * p) E) a j t j t) := wrow_at _ _ _ ht1
    have rN : rd (wrow (K + 1) (fun t => tw (2 * p) E (j + 1) t a a)) (t : Int) = wrap64 (bk (2 * p) E j t a) := wrow_at _ _ _ ht2
    have put : (omat K (os (bk (2 * p) E) a j t)).set j ((wrow (j + 2) (os (bk (2 * p) E) a j t j)).set t (wrap64 (os (bk (2 * p) E) a j t j t + bk (2 * p) E j t a))) = omat K (os (bk (2 * p) E) a j (t + 1)) :=
      (omat_put _ _ j t _ hj).trans (omat_congr fun x y _ _ => os_next (bk (2 * p) E) a j t x y)
    refine Ev.step (fun _ => rfl) (evT c0 ?_)
    rw [wj]
    refine evT cJ.1 (evT (by rw [omat_length]; exact cJ.2) (evT cT.1 (evT (by rw [lX, wrow_length]; exact cT.2.1) (evT cA.1 (evT (by rw [rmat_length]; exact cA.2) (evT (by rw [lN, wrow_length]; exact cT.2.2) ?_))))))
    rw [lX, rX, lN, rN, wr_add, Int.toNat_natCast, Int.toNat_natCast, wt, put]
    exact h
theorem rest_l2 (p K a : Nat) (hp : 2 * p ≤ 20) (hK : K ≤ 8) (E : Nat → Nat → Int) (hE1 : ∀ a b, E a b = 0 ∨ E a b = 1) (hE2 : ∀ a, a < 2 * p → E a (xr a) = 0) (ha : a < 2 * p) (r : List (List Int))
    (hr : Ev (fun k => spec_turnRest.l1 k (K : Int) (wmat (2 * p) E) (omat K (os (bk (2 * p) E) (a + 1) 0 0)) ((a + 1 : Nat) : Int)) r) (d : Nat) :
    ∀ j : Nat, j + d = K → Ev (fun k => spec_turnRest.l2 k (K : Int) (wmat (2 * p) E) (omat K (os (bk (2 * p) E) a j 0)) (a : Int) (rmat (2 * p) (K + 1) (fun e t => tw (2 * p) E j t a e)) ((j + 1 : Nat) : Int)) r := by
  induction d with
  | zero =>
    intro j hj
    obtain rfl : j = K := by omega
    refine Ev.step (fun _ => rfl) (evF (by omega) ?_)
    rw [wnat (n := 2 * p) ha (by omega), show omat j (os (bk (2 * p) E) a j 0) = omat j (os (bk (2 * p) E) (a + 1) 0 0) from omat_congr fun x y hx hy => by
      have i : (x < j ∨ (x = j ∧ y < 0)) := by omega
      have i2 : ¬ (x < 0 ∨ (x = 0 ∧ y < 0)) := by omega
      unfold os
      rw [if_pos i, if_neg i2, Int.add_zero]; rfl]
    exact hr
  | succ d ih =>
    intro j hj
    have h := ih (j + 1) (by omega)
    have wj : wrap64 (((j + 1 : Nat) : Int) - 1) = (j : Int) := by rw [wid (by omega) (by omega)]; omega
    refine Ev.step (fun _ => rfl) (evT (by omega) (Ev.bind (snext_ p K a j hp hK E hE1 hE2) ?_))
    rw [wj]
    refine evT (by omega) (evT (by rw [omat_length]; omega) ?_)
    exact rest_l3 p K a j hp hK E ha (by omega) (wmat (2 * p) E) r h (j + 2) 0 (by omega)
theorem rest_l1 (p K : Nat) (hp : 2 * p ≤ 20) (hK : K ≤ 8) (E : Nat → Nat → Int) (hE1 : ∀ a b, E a b = 0 ∨ E a b = 1) (hE2 : ∀ a, a < 2 * p → E a (xr a) = 0) (d : Nat) :
    ∀ a : Nat, a + d = 2 * p → Ev (fun k => spec_turnRest.l1 k (K : Int) (wmat (2 * p) E) (omat K (os (bk (2 * p) E) a 0 0)) (a : Int)) (ttab (2 * p) E K) := by
  induction d with
  | zero =>
    intro a ha
    obtain rfl : a = 2 * p := by omega
    refine Ev.step (fun _ => rfl) (evF (by rw [wmat_length]; omega) (evN (congrArg some ?_)))
    have e : omat K (os (bk (2 * p) E) (2 * p) 0 0) = omat K (fun j => tdiag (2 * p) E (j + 1)) := omat_congr fun x y _ _ => by
      unfold os
      rw [if_neg (show ¬ (x < 0 ∨ (x = 0 ∧ y < 0)) from by omega), Int.add_zero]; rfl
    exact e
  | succ d ih =>
    intro a ha
    have h := ih (a + 1) (by omega)
    refine Ev.step (fun _ => rfl) (evT (by rw [wmat_length]; omega) (Ev.bind (sfirst_ (2 * p) K a hp hK (by omega) E) ?_))
    exact rest_l2 p K a hp hK E hE1 hE2 (by omega) _ h K 0 (by omega)
theorem rest_l0 (p K : Nat) (hp : 2 * p ≤ 20) (hK : K ≤ 8) (E : Nat → Nat → Int) (hE1 : ∀ a b, E a b = 0 ∨ E a b = 1) (hE2 : ∀ a, a < 2 * p → E a (xr a) = 0) (d : Nat) :
    ∀ j : Nat, j + d = K → Ev (fun k => spec_turnRest.l0 k (K : Int) (wmat (2 * p) E) ((List.range j).map fun i => List.replicate (i + 2) 0) ((j + 1 : Nat) : Int)) (ttab (2 * p) E K) := by
  induction d with
  | zero =>
    intro j hj
    obtain rfl : j = K := by omega
    have h := rest_l1 p j hp hK E hE1 hE2 (2 * p) 0 (by omega)
    refine Ev.step (fun _ => rfl) (evF (by omega) ?_)
    rw [show ((List.range j).map fun i => List.replicate (i + 2) (0 : Int)) = omat j (os (bk (2 * p) E) 0 0 0) from by
      unfold omat
      refine List.map_congr_left fun i _ => ?_
      apply List.ext_getElem
      · simp [wrow]
      · intro x h1 h2
        simp only [wrow, List.getElem_replicate, List.getElem_map, List.getElem_range]
        unfold os
        rw [if_neg (show ¬ (i < 0 ∨ (i = 0 ∧ x < 0)) from by omega)]
        exact w0.symm]
    exact h
  | succ d ih =>
    intro j hj
    have h := ih (j + 1) (by omega)
    have wj2 : wrap64 (((j + 1 : Nat) : Int) + 1) = ((j + 1 + 1 : Nat) : Int) := by unfold wrap64; omega
    rw [List.range_succ, List.map_append] at h
    refine Ev.step (fun _ => rfl) (evT (by omega) ?_)
    rw [wj2, Int.toNat_natCast]
    exact evT (by omega) (evT (by omega) (evT (by simp; omega) h))
theorem tt_spec (p K : Nat) (hp : 2 * p ≤ 20) (hK : K ≤ 8) (E : Nat → Nat → Int) (hE1 : ∀ a b, E a b = 0 ∨ E a b = 1) (hE2 : ∀ a, a < 2 * p → E a (xr a) = 0) : Ev (fun k => spec_turnRest.f k (wmat (2 * p) E) (K : Int)) (ttab (2 * p) E K) := by
  unfold spec_turnRest.f
  exact rest_l0 p K hp hK E hE1 hE2 K 0 (by omega)
end Go.Proofs.Ytbjjefipcigaoaa.Q
end
section
namespace Go.Proofs.Ytbjjefipcigaoaa.Q
open Go.RowKit Go.Proofs.Ytbjjefipcigaoaa.X Go.Proofs.Ytbjjefipcigaoaa.Dt Go.Proofs.YtbjjefipcigaoaaW.PrintWords Go.Proofs.YtbjjefipcigaoaaW.PrintLast Go.Proofs.YtbjjefipcigaoaaW.PrintMore
set_option linter.unusedVariables false
theorem tt_both (n : Int) (E : List (List Int)) (hE : E.length ≤ 1048576) (c : Int) : ∃ L cd, L.length ≤ 1048576 ∧ (∀ l ∈ L, l.length ≤ 1048576) ∧ Ev (fun k => spec_TurnTable.f k n E c) (L, cd) ∧ Ev (fun k => impl_TurnTable.f k n E c) (L, cd) := by
  have h1 := isSpec n E hE; have h2 := isImpl n E hE
  unfold spec_TurnTable.f impl_TurnTable.f impl_graphCode_of_TurnTable_1.f impl_TurnTable_1_c.f
  by_cases h : VG n E = true
  · rw [h] at h1 h2
    obtain ⟨N, P, rfl, rfl, g⟩ := VG_true h
    have h8 := g.hi; have h10 := g.len
    by_cases hc : (decide (1 ≤ c) && decide (c ≤ 8)) = true
    · have hc2 : 1 ≤ c ∧ c ≤ 8 := by simpa using hc
      obtain ⟨m, rfl⟩ : ∃ m : Nat, c = (m : Int) := ⟨c.toNat, by omega⟩
      have hm : m ≤ 8 := by omega
      have hp : 2 * P.length ≤ 20 := by omega
      have hE1 : ∀ a b, em P a b = 0 ∨ em P a b = 1 := fun a b => by unfold em; split; exact .inr rfl; exact .inl rfl
      have hE2 : ∀ a, a < 2 * P.length → em P a (xr a) = 0 := fun a _ => by unfold em; exact if_neg (fun h => h.2 rfl)
      have w : wrap64 (2 * (P.length : Int)) = ((2 * P.length : Nat) : Int) := by rw [wid (by omega) (by omega)]; omega
      have s := tt_spec P.length m hp hm (em P) hE1 hE2
      have i := tt_impl P.length m hp hm (em P)
      have sz : impl_Graph_size.f (N : Int) (edg P) = some (P.length : Int) := by unfold impl_Graph_size.f; rw [edg_length]
      refine ⟨ttab (2 * P.length) (em P) m, 0, by simp [ttab]; omega, fun l hl => ?_, Ev.bind h1 (evT rfl (evB (inSpec _ _ _) (evT hc (Ev.bind (matrix_ _ P h10) (Ev.bind s (evN rfl)))))), Ev.bind (Ev.bind h2 (evT rfl (Ev.bind (evB (inImpl _ _ _) (evN rfl)) (evT hc (evN rfl))))) (evT rfl (Ev.bind (edge_ _ P h10) (evB sz ?_)))⟩
      · unfold ttab at hl
        obtain ⟨x, hx, rfl⟩ := List.mem_map.1 hl
        have := List.mem_range.1 hx
        rw [wrow_length]; omega
      · rw [w]
        exact Ev.bind (first_ (2 * P.length) hp (em P)) i
    · exact ⟨[], 2, by simp, by simp, Ev.bind h1 (evT rfl (evB (inSpec _ _ _) (evF hc (evN rfl)))), Ev.bind (Ev.bind h2 (evT rfl (Ev.bind (evB (inImpl _ _ _) (evN rfl)) (evF hc (evN rfl))))) (evF (by omega) (evN rfl))⟩
  · rw [Bool.eq_false_iff.2 h] at h1 h2
    exact ⟨[], 1, by simp, by simp, Ev.bind h1 (evF (by simp) (evN rfl)), Ev.bind (Ev.bind h2 (evF (by simp) (evN rfl))) (evF (by omega) (evN rfl))⟩
theorem FnExactTurnTable (n : Int) (E : List (List Int)) (c : Int) (hn : (Lit.int .i64 n).wf = true) (hE : E.length ≤ 9223372036854775807) (ha : ∀ l ∈ E, l.length ≤ 9223372036854775807 ∧ ∀ x ∈ l, (Lit.int .i64 x).wf = true) (hcw : (Lit.int .i64 c).wf = true) : ∃ k, laws_FnExactTurnTable.P k n E c true := by
  obtain ⟨t, ht, hp⟩ := szGraph n E hE (fun l hl => (ha l hl).1)
  rcases hp with hp | ⟨h0, _, h1, h2⟩
  · obtain ⟨K, hk⟩ := ht
    exact ⟨K, rfl, .inl ⟨t, hk K (Nat.le_refl _), hp⟩⟩
  · obtain ⟨L, cd, hL, hL2, hs, hi⟩ := tt_both n E h1 c
    obtain ⟨K1, a⟩ := helpG n E h1 h2 t ht
    obtain ⟨K2, b⟩ := helpS L hL hL2
    obtain ⟨K3, c⟩ := ev2 hs hi
    obtain ⟨a1, a2, a3, a4⟩ := a (K1 + K2 + K3) (by omega)
    obtain ⟨b1, b2, b3⟩ := b (K1 + K2 + K3) (by omega)
    obtain ⟨c1, c2⟩ := c (K1 + K2 + K3) (by omega)
    exact ⟨K1 + K2 + K3, rfl, .inr ⟨t, a1, by omega, L, cd, _, _, _, _, a2, c1, c2, b1, a3, a4, by omega, b2, by omega, b3⟩⟩
end Go.Proofs.Ytbjjefipcigaoaa.Q
end
section
namespace Go.Proofs.Ytbjjefipcigaoaa.Gr
open Go.ChangeShapes Go.WideShapes Go.ChangeAt Go.RowKit Go.Deep Go.Proofs.YtbjjefipcigaoaaW.PrintWords
set_option linter.unusedVariables false
theorem rows_C {w : World} {a : Addr} {len cap : Nat} {A : Nat → Option Addr} {L C : Nat → Nat} {Z : Nat → List Int} (hl : len ≤ cap) (hm : cap ≤ maxLen)
    (h : ∀ r, r < cap → w.cell? (a.add r) = some (.slice (A r) (L r) (C r)) ∧ L r ≤ C r ∧ C r ≤ maxLen ∧ (Z r).length = C r ∧ (∀ n ∈ Z r, (Lit.int .i64 n).wf = true) ∧ (A r = none → C r = 0) ∧
        ∀ a', A r = some a' → 0 ≤ a'.block ∧ ∀ c, c < C r → w.cell? (a'.add c) = some (.int .i64 ((Z r).getD c 0))) :
    ∃ ls : List (List Int), ls.length = len ∧ Kd.C (Kd.slice 2 (Kd.int .i64)) w (some a) ls.length ls ∧ ∀ l ∈ ls, l.length ≤ maxLen ∧ ∀ n ∈ l, (Lit.int .i64 n).wf = true := by
  refine ⟨(List.range len).map fun r => (Z r).take (L r), by simp, ?_, ?_⟩
  · simp only [maxLen] at hm
    refine ⟨by simp, by simp; omega, fun _ => ⟨a, rfl, fun j p hj => ?_⟩⟩
    have hj1 : j < len := by
      have := (List.getElem?_eq_some_iff.1 hj).1
      simpa using this
    have hp : p = (Z j).take (L j) := by
      have : ((List.range len).map fun r => (Z r).take (L r))[j]? = some ((Z j).take (L j)) := by simp [hj1]
      rw [this] at hj
      exact (Option.some.inj hj).symm
    subst hp
    obtain ⟨h1, h2, h3, h4, h5, h6, h7⟩ := h j (by omega)
    have hl1 : ((Z j).take (L j)).length = L j := by rw [List.length_take]; omega
    refine ⟨[.slice (A j) (L j) (C j)], rfl, ?_, ?_⟩
    · refine ⟨A j, C j, by rw [hl1], by rw [hl1]; exact h2, ?_⟩
      simp only [maxLen] at h3
      refine ⟨rfl, by rw [hl1]; omega, fun hpos => ?_⟩
      rcases ha : A j with _ | a'
      · have := h6 ha; omega
      · refine ⟨a', rfl, fun i x hi => ⟨[.int .i64 x], rfl, rfl, fun q u hu => ?_⟩⟩
        have hi1 : i < L j := by have := (List.getElem?_eq_some_iff.1 hi).1; omega
        have hx : (Z j).getD i 0 = x := by
          rw [List.getElem?_take] at hi
          rw [if_pos hi1] at hi
          rw [List.getD_eq_getElem?_getD, hi]; rfl
        cases q with
        | zero =>
          simp only [List.getElem?_cons_zero, Option.some.injEq] at hu
          subst hu
          have := (h7 a' ha).2 i (by omega)
          rw [hx] at this
          simpa [show (Kd.int .i64).sz = 1 from rfl] using this
        | succ q => simp at hu
    · intro i u hu
      cases i with
      | zero =>
        simp only [List.getElem?_cons_zero, Option.some.injEq] at hu
        subst hu
        simpa [show (Kd.slice 2 (Kd.int .i64)).sz = 1 from rfl] using h1
      | succ i => simp at hu
  · intro l hl1
    simp only [List.mem_map, List.mem_range] at hl1
    obtain ⟨r, hr, rfl⟩ := hl1
    obtain ⟨h1, h2, h3, h4, h5, h6, h7⟩ := h r (by omega)
    exact ⟨by rw [List.length_take]; omega, fun n hn => h5 n (List.mem_of_mem_take hn)⟩
theorem open_rows {H : Type} {enc : TypeId × Value → H} {P : Program} {w : World} {held : Bool} {t e : TypeId} {fuel : Nat} {v : Value} {x : DataW H × List MemPlace} (ht : P.underlying t = some (.slice e)) (he : P.underlying e = some (.slice 2)) (hq : P.underlying 2 = some (.int .i64))
    (ce : P.cellsOf e = 1) (cq : P.cellsOf 2 = 1) (h : DataW.trod enc P w 0 (fun _ => true) held fuel t [v] = some x) :
    ∃ (A : Option Addr) (cap : Nat) (ls : List (List Int)), v = .slice A ls.length cap ∧ ls.length ≤ cap ∧ cap ≤ maxLen ∧ Kd.C (Kd.slice 2 (Kd.int .i64)) w A ls.length ls ∧ ∀ l ∈ ls, l.length ≤ maxLen ∧ ∀ n ∈ l, (Lit.int .i64 n).wf = true := by
  rcases open_int_rows ht he hq ce cq h with ⟨hcs, _⟩ | ⟨a, len, cap, A, L, C, Z, hcs, _, hl, hm, _, hr⟩
  · obtain rfl : v = .slice none 0 0 := by simpa using hcs
    exact ⟨none, 0, [], rfl, by simp, by simp, Kd.C_nil _ _, by simp⟩
  · obtain rfl : v = .slice (some a) len cap := by simpa using hcs
    obtain ⟨ls, rfl, hC, hall⟩ := rows_C hl hm hr
    exact ⟨some a, cap, ls, rfl, hl, hm, hC, hall⟩
theorem open_graph {H : Type} {enc : TypeId × Value → H} {P : Program} {w : World} {held : Bool} {r : Reach} {b0 : Nat} {t e q : TypeId} {f0 f1 : Field} {v : Value} {d : DataW H} {p : List MemPlace} (hs : P.underlying t = some (.struct #[f0, f1])) (h0 : f0.type = 2) (h1 : f1.type = e)
    (he : P.underlying e = some (.slice q)) (hq : P.underlying q = some (.slice 2)) (hi : P.underlying 2 = some (.int .i64)) (hone : oneCellFields P #[f0, f1] = true) (hC : P.cellsOf t = 2) (cq : P.cellsOf q = 1) (ci : P.cellsOf 2 = 1)
    (hv : Value.okWide P w r b0 t v) (h : DataW.Trod enc P w 0 (fun _ => true) held t v d p) :
    ∃ (n : Int) (A : Option Addr) (cap : Nat) (ls : List (List Int)), v = .agg #[.int .i64 n, .slice A ls.length cap] ∧ (Lit.int .i64 n).wf = true ∧ ls.length ≤ cap ∧ ls.length ≤ 9223372036854775807 ∧ Kd.C (Kd.slice 2 (Kd.int .i64)) w A ls.length ls ∧ ∀ l ∈ ls, l.length ≤ 9223372036854775807 ∧ ∀ n ∈ l, (Lit.int .i64 n).wf = true := by
  obtain ⟨v0, v1, y0, y1, n, rfl, rfl, rfl, t0, t1⟩ := Joins.open_agg2 hs hone hC hv h
  subst h1
  rw [h0] at t0
  obtain ⟨z, hz, _, hw⟩ := DataW.trod_int hi t0
  obtain rfl : v0 = .int .i64 z := by simpa using hz
  obtain ⟨A, cap, ls, rfl, hl, hm, hC1, hall⟩ := open_rows he hq hi cq ci t1
  simp only [maxLen] at hm hall
  exact ⟨z, A, cap, ls, rfl, hw, hl, by omega, hC1, hall⟩
end Go.Proofs.Ytbjjefipcigaoaa.Gr
end
