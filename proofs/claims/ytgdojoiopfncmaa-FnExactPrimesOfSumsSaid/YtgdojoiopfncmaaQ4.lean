import Derived.Test.YtgdojoiopfncmaaQ3
import Derived.KernelRfl
import Derived.Test.YtgdojoiopfncmaaXspecl01Trim
import Derived.Test.YtgdojoiopfncmaaXimpltrimmed
import Derived.Test.YtgdojoiopfncmaaXspecl03Moebius
import Derived.Test.YtgdojoiopfncmaaXimplmoebius
/- Trimming and Moebius numbers: both sides come to the same. -/
namespace Go.Proofs.Ytgdojoiopfncmaa.Q
open Go.RowKit Go.Proofs.Ytgdojoiopfncmaa.X Go.Proofs.YtgdojoiopfncmaaW.PrintWords Go.Proofs.YtgdojoiopfncmaaW.PrintLast Go.Proofs.YtgdojoiopfncmaaW.PrintMore
set_option linter.unusedVariables false
set_option linter.unusedSimpArgs false
theorem own_ (l : List Int) (h : l.length ≤ 1048576) : spec_l01Own.f l = some l := by
  unfold spec_l01Own.f; simp; try omega
theorem clone_ (l : List Int) (h : l.length ≤ 1048576) : slices_Clone_int64_int64.f l = some l := by
  unfold slices_Clone_int64_int64.f; simp; try omega
theorem trim_both (l : List Int) (hl : l.length ≤ 1048576) (i : Nat) (hi : i ≤ l.length) : ∃ r : List Int, r.length ≤ i ∧ Ev (fun k => spec_l01Trim.l0 k l (i : Int)) r ∧ Ev (fun k => impl_trimmed.l0 k (l.take i)) r := by
  have hd : ∀ i : Nat, i ≤ l.length → ((l.take i).length : Int) = i := fun i hi => by rw [List.length_take]; omega
  induction i with
  | zero =>
    refine ⟨[], by simp, Ev.step (fun _ => rfl) (evF (by omega) (evT (by omega) (evT (by omega) (evN ?_)))), Ev.step (fun _ => rfl) (evF (by simp) (evN ?_))⟩
    · rw [show l.take ((0 : Nat) : Int).toNat = [] from rfl, own_ _ (by simp)]; rfl
    · rw [show l.take 0 = [] from rfl, clone_ _ (by simp)]; rfl
  | succ i ih =>
    have hw : wrap64 (((i + 1 : Nat) : Int) - 1) = (i : Int) := by rw [wid (by omega) (by omega)]; omega
    have hr : rd (l.take (i + 1)) (i : Int) = l[i] := by rw [rd_at _ _ (by simp; omega)]; simp
    by_cases h : l[i] = 0
    · obtain ⟨r, h0, h1, h2⟩ := ih (by omega)
      refine ⟨r, by omega, Ev.step (fun _ => rfl) (evT (by omega) ?_), Ev.step (fun _ => rfl) (evT (by rw [hd _ hi]; omega) ?_)⟩
      · rw [hw]; exact evT (by omega) (evT (by omega) (evT (by rw [rd_at _ _ (by omega)]; exact h) h1))
      · rw [hd (i + 1) hi, hw]
        refine evT (by omega) (evT (by omega) (evT (by rw [hr]; exact h) (evT (by omega) ?_)))
        rw [Int.toNat_natCast, List.take_take, Nat.min_eq_left (by omega)]; exact h2
    · refine ⟨l.take (i + 1), by simp; omega, Ev.step (fun _ => rfl) (evT (by omega) ?_), Ev.step (fun _ => rfl) (evT (by rw [hd _ hi]; omega) ?_)⟩
      · rw [hw, Int.toNat_natCast, own_ _ (by simp; omega)]; exact evT (by omega) (evT (by omega) (evF (by rw [rd_at _ _ (by omega)]; exact h) (evT (by omega) (evT (by omega) (evN rfl)))))
      · rw [hd (i + 1) hi, hw, clone_ _ (by simp; omega)]
        exact evT (by omega) (evT (by omega) (evF (by rw [hr]; exact h) (evN rfl)))
theorem trimmed_both (l : List Int) (hl : l.length ≤ 1048576) : ∃ r : List Int, r.length ≤ l.length ∧ Ev (fun k => spec_l01Trim.f k l) r ∧ Ev (fun k => impl_trimmed.f k l) r := by
  obtain ⟨r, h0, h1, h2⟩ := trim_both l hl l.length (Nat.le_refl _)
  rw [List.take_of_length_le (by omega)] at h2
  exact ⟨r, h0, h1, h2⟩
def moeb : Nat → Int := fun n => [0, 1, -1, -1, 0, -1, 1, -1, 0, 0, 1, -1, 0, -1, 1, 1, 0, -1, 0, -1, 0, 1, 1, -1, 0].getD n 0
theorem moeb_all (n : Nat) (h1 : 1 ≤ n) (h2 : n ≤ 24) : small (moeb n) ∧ Ev (fun k => spec_l03Moebius.f k (n : Int)) (moeb n) ∧ Ev (fun k => impl_moebius.f k (n : Int)) (moeb n) := by
  have : n = 1 ∨ n = 2 ∨ n = 3 ∨ n = 4 ∨ n = 5 ∨ n = 6 ∨ n = 7 ∨ n = 8 ∨ n = 9 ∨ n = 10 ∨ n = 11 ∨ n = 12 ∨ n = 13 ∨ n = 14 ∨ n = 15 ∨ n = 16 ∨ n = 17 ∨ n = 18 ∨ n = 19 ∨ n = 20 ∨ n = 21 ∨ n = 22 ∨ n = 23 ∨ n = 24 := by omega
  have g : ∀ (v : Int) , (∀ j, spec_l03Moebius.f (j + 30) (n : Int) = some v) → (∀ j, impl_moebius.f (j + 30) (n : Int) = some v) → Ev (fun k => spec_l03Moebius.f k (n : Int)) v ∧ Ev (fun k => impl_moebius.f k (n : Int)) v := by
    intro v h1 h2
    exact ⟨⟨30, fun k hk => by obtain ⟨j, rfl⟩ := Nat.exists_eq_add_of_le' hk; exact h1 j⟩, ⟨30, fun k hk => by obtain ⟨j, rfl⟩ := Nat.exists_eq_add_of_le' hk; exact h2 j⟩⟩
  rcases this with rfl | rfl | rfl | rfl | rfl | rfl | rfl | rfl | rfl | rfl | rfl | rfl | rfl | rfl | rfl | rfl | rfl | rfl | rfl | rfl | rfl | rfl | rfl | rfl
  all_goals exact ⟨of_decide_eq_true rfl, g _ (fun j => by kernel_rfl) (fun j => by kernel_rfl)⟩
theorem idx (m i : Nat) (h : i < m) (hm : m ≤ 1048576) : wrap64 ((wrap64 ((m : Int) - (i : Int))) - 1) = ((m - i - 1 : Nat) : Int) := by
  rw [wid (x := (m : Int) - i) (by omega) (by omega), wid (by omega) (by omega)]; omega
theorem getD_small {l : List Int} (h : ∀ (i : Nat) (hi : i < l.length), small l[i]) (i : Nat) : small (l.getD i 0) := by
  by_cases hi : i < l.length
  · simpa [List.getD_eq_getElem?_getD, hi] using h i hi
  · have : l.getD i 0 = 0 := by simp [List.getD_eq_getElem?_getD, hi]
    rw [this]; unfold small; omega
theorem divSmall {s : Int} (m : Nat) (hm : 0 < m) (h : small s) : small (wrap64 (Int.tdiv (wrap64 (-s)) (m : Int))) := by
  unfold small at *
  rw [wid (x := -s) (by omega) (by omega)]
  have : (Int.tdiv (-s) (m : Int)).natAbs ≤ s.natAbs := by
    rw [Int.natAbs_tdiv]; simp only [Int.natAbs_neg, Int.natAbs_natCast]; exact Nat.div_le_self _ _
  rw [wid (by omega) (by omega)]; omega
theorem getD_app_small {l : List Int} {x : Int} (h : ∀ i, small (l.getD i 0)) (hx : small x) (i : Nat) : small ((l ++ [x]).getD i 0) := by
  by_cases hi : i < l.length
  · have := h i; simpa [List.getD_eq_getElem?_getD, List.getElem?_append_left hi] using this
  · by_cases hj : i = l.length
    · subst hj; simpa [List.getD_eq_getElem?_getD] using hx
    · have : (l ++ [x]).getD i 0 = 0 := by simp [List.getD_eq_getElem?_getD]; rw [List.getElem?_eq_none (by simp; omega)]; rfl
      rw [this]; unfold small; omega
theorem one_small (i : Nat) : small (([1] : List Int).getD i 0) := by
  cases i with
  | zero => exact of_decide_eq_true rfl
  | succ i => exact of_decide_eq_true rfl
theorem nil_small (i : Nat) : small (([] : List Int).getD i 0) := of_decide_eq_true rfl
end Go.Proofs.Ytgdojoiopfncmaa.Q
