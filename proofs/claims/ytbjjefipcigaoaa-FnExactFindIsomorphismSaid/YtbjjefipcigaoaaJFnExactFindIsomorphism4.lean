/- Words, what the functions that FnExactFindIsomorphism reaches compute, and the plain laws on it; part 4. -/
import Derived.Test.YtbjjefipcigaoaaJFnExactFindIsomorphism3
section
namespace Go.Proofs.Ytbjjefipcigaoaa.X
open Go.RowKit Go.Proofs.YtbjjefipcigaoaaW.PrintWords Go.Proofs.YtbjjefipcigaoaaW.PrintLast Go.Proofs.YtbjjefipcigaoaaW.PrintMore
attribute [local go_sem] max2_int min2_int max_two min_two max_three min_three max_four min_four
set_option linter.unusedVariables false
set_option linter.unusedSimpArgs false
def spec_l08Fits.l0 : Nat → List (List Int) → List (List Int) → List Int → Int → Int → Int → Option (Bool)
 | 0, _, _, _, _, _, _ => none
 | k + 1, x0, x1, x2, x3, x9, x10 => if x10 < x9 then (if 0 ≤ x10 then (if x10 < (x2.length : Int) then (if (rd x2 x10) = x3 then (some false) else (if 0 ≤ x9 then (if x9 < (x0.length : Int) then (if x10 < ((rd_L1 x0 x9).length : Int) then (if 0 ≤ x3 then (if x3 < (x1.length : Int) then (if 0 ≤ (rd x2 x10) then (if (rd x2 x10) < ((rd_L1 x1 x3).length : Int) then (if (rd (rd_L1 x0 x9) x10) = (rd (rd_L1 x1 x3) (rd x2 x10)) then (spec_l08Fits.l0 k x0 x1 x2 x3 x9 (wrap64 (x10 + 1))) else (some false)) else (none)) else (none)) else (none)) else (none)) else (none)) else (none)) else (none))) else (none)) else (none)) else (some true)
def spec_l08Fits.f (k : Nat) (l0 : List (List Int)) (l1 : List (List Int)) (l2 : List Int) (a3 : Int) : Option (Bool) := if 0 ≤ (l2.length : Int) then (if (l2.length : Int) < (l0.length : Int) then (if (l2.length : Int) < ((rd_L1 l0 (l2.length : Int)).length : Int) then (if 0 ≤ a3 then (if a3 < (l1.length : Int) then (if a3 < ((rd_L1 l1 a3).length : Int) then (if (rd (rd_L1 l0 (l2.length : Int)) (l2.length : Int)) = (rd (rd_L1 l1 a3) a3) then (spec_l08Fits.l0 k l0 l1 l2 a3 (l2.length : Int) 0) else (some false)) else (none)) else (none)) else (none)) else (none)) else (none)) else (none)
set_option maxHeartbeats 8000000 in
set_option maxRecDepth 100000 in
theorem spec_l08Fits.calls (k : Nat) (A0 : Option Addr) (c0 : Nat) (l0 : List (List Int)) (A1 : Option Addr) (c1 : Nat) (l1 : List (List Int)) (A2 : Option Addr) (c2 : Nat) (l2 : List Int) (a3 : Int) (r : Bool) (w : World) (hr0 : Kd.C (Kd.slice 2 (Kd.int .i64)) w A0 l0.length l0) (hc0 : l0.length ≤ c0) (hr1 : Kd.C (Kd.slice 2 (Kd.int .i64)) w A1 l1.length l1) (hc1 : l1.length ≤ c1) (hr2 : Kd.C (Kd.int .i64) w A2 l2.length l2) (hc2 : l2.length ≤ c2) (h : spec_l08Fits.f k l0 l1 l2 a3 = some r) :
  Calls Try.prog 80 #[.slice A0 l0.length c0, .slice A1 l1.length c1, .slice A2 l2.length c2, .int .i64 a3] w fun e w' => e = .returned (.bool r) ∧ Drawn0 w w' := by
 have HR0 := Aside0.mk hr0
 have HC0 := Aside0.mk hc0
 clear hr0 hc0
 have HR1 := Aside0.mk hr1
 have HC1 := Aside0.mk hc1
 clear hr1 hc1
 have HR2 := Aside0.mk hr2
 have HC2 := Aside0.mk hc2
 clear hr2 hc2
 have H : (if 0 ≤ (l2.length : Int) then (if (l2.length : Int) < (l0.length : Int) then (if (l2.length : Int) < ((rd_L1 l0 (l2.length : Int)).length : Int) then (if 0 ≤ a3 then (if a3 < (l1.length : Int) then (if a3 < ((rd_L1 l1 a3).length : Int) then (if (rd (rd_L1 l0 (l2.length : Int)) (l2.length : Int)) = (rd (rd_L1 l1 a3) a3) then (spec_l08Fits.l0 k l0 l1 l2 a3 (l2.length : Int) 0) else (some false)) else (none)) else (none)) else (none)) else (none)) else (none)) else (none)) = some r := h
 clear h
 by_cases c5 : 0 ≤ (l2.length : Int)
 rotate_left
 ·rw [if_neg c5] at H
  exact absurd H (by simp)
 rw [if_pos c5] at H
 have c5b0 : decide (0 ≤ (l2.length : Int)) = true := decide_eq_true c5
 have c5b1 : decide (0 ≤ l2.length) = true := decide_eq_true (by omega)
 clear c5
 by_cases c6 : (l2.length : Int) < (l0.length : Int)
 rotate_left
 ·rw [if_neg c6] at H
  exact absurd H (by simp)
 rw [if_pos c6] at H
 have c6b0 : decide ((l2.length : Int) < (l0.length : Int)) = true := decide_eq_true c6
 have c6b1 : decide (l2.length < l0.length) = true := decide_eq_true (Int.ofNat_lt.mp c6)
 clear c6
 by_cases c7 : (l2.length : Int) < ((rd_L1 l0 (l2.length : Int)).length : Int)
 rotate_left
 ·rw [if_neg c7] at H
  exact absurd H (by simp)
 rw [if_pos c7] at H
 have c7b0 : decide ((l2.length : Int) < ((rd_L1 l0 (l2.length : Int)).length : Int)) = true := decide_eq_true c7
 have c7b1 : decide (l2.length < (rd_L1 l0 (l2.length : Int)).length) = true := decide_eq_true (Int.ofNat_lt.mp c7)
 clear c7
 by_cases c8 : 0 ≤ a3
 rotate_left
 ·rw [if_neg c8] at H
  exact absurd H (by simp)
 rw [if_pos c8] at H
 have c8b0 : decide (0 ≤ a3) = true := decide_eq_true c8
 clear c8
 by_cases c9 : a3 < (l1.length : Int)
 rotate_left
 ·rw [if_neg c9] at H
  exact absurd H (by simp)
 rw [if_pos c9] at H
 have c9b0 : decide (a3 < (l1.length : Int)) = true := decide_eq_true c9
 clear c9
 by_cases c10 : a3 < ((rd_L1 l1 a3).length : Int)
 rotate_left
 ·rw [if_neg c10] at H
  exact absurd H (by simp)
 rw [if_pos c10] at H
 have c10b0 : decide (a3 < ((rd_L1 l1 a3).length : Int)) = true := decide_eq_true c10
 clear c10
 by_cases c11 : (rd (rd_L1 l0 (l2.length : Int)) (l2.length : Int)) = (rd (rd_L1 l1 a3) a3)
 rotate_left
 ·rw [if_neg c11] at H
  have c11b0 : ((rd (rd_L1 l0 (l2.length : Int)) (l2.length : Int)) == (rd (rd_L1 l1 a3) a3)) = false := beq_eq_false_iff_ne.mpr c11
  have c11b1 : ((rd (rd_L1 l0 (l2.length : Int)) (l2.length : Int)) != (rd (rd_L1 l1 a3) a3)) = true := bne_iff_ne.mpr c11
  obtain rfl := Option.some.inj H
  have p101 : 0 ≤ ((l2.length : Int) : Int) := of_decide_eq_true (z0_)
  have q101 : (l2.length : Int) < (l0.length : Int) := of_decide_eq_true (z0_)
  obtain ⟨ad101, A101_0, c101_0, e101, hx101_0, hl101_0, hi101_0⟩ := at_L1 HR0.out (l2.length : Int) p101 q101
  cases e101
  have HR101_0 := Aside0.mk hi101_0
  have HC101_0 := Aside0.mk hl101_0
  clear hi101_0 hl101_0
  (try simp only [Go.IntWalk.toNatUp] at hx101_0)
  replace p101 := eq_true p101
  replace q101 := eq_true q101
  have p102 : 0 ≤ ((l2.length : Int) : Int) := of_decide_eq_true (z0_)
  have q102 : (l2.length : Int) < ((rd_L1 l0 (l2.length : Int)).length : Int) := of_decide_eq_true (z0_)
  obtain ⟨ad102, e102, hx102_0⟩ := Kd.at_int HR101_0.out (l2.length : Int) p102 q102
  cases e102
  (try simp only [Go.IntWalk.toNatUp] at hx102_0)
  replace p102 := eq_true p102
  replace q102 := eq_true q102
  have p103 : 0 ≤ (a3 : Int) := of_decide_eq_true (z0_)
  have q103 : a3 < (l1.length : Int) := of_decide_eq_true (z0_)
  obtain ⟨ad103, A103_0, c103_0, e103, hx103_0, hl103_0, hi103_0⟩ := at_L1 HR1.out a3 p103 q103
  cases e103
  have HR103_0 := Aside0.mk hi103_0
  have HC103_0 := Aside0.mk hl103_0
  clear hi103_0 hl103_0
  replace p103 := eq_true p103
  replace q103 := eq_true q103
  have p104 : 0 ≤ (a3 : Int) := of_decide_eq_true (z0_)
  have q104 : a3 < ((rd_L1 l1 a3).length : Int) := of_decide_eq_true (z0_)
  obtain ⟨ad104, e104, hx104_0⟩ := Kd.at_int HR103_0.out a3 p104 q104
  cases e104
  replace p104 := eq_true p104
  replace q104 := eq_true q104
  go_enter Try.func80, Try.ntmps80
  go_wp2
  repeat (go_quiet (fail); try go_wp2)
  go_ret
  exact ⟨by first | rfl | (simp; done) | (simp [*]; done), by repeat (first | exact Drawn0.refl _ | apply Drawn0.step)⟩
 rw [if_pos c11] at H
 have c11b0 : ((rd (rd_L1 l0 (l2.length : Int)) (l2.length : Int)) == (rd (rd_L1 l1 a3) a3)) = true := beq_iff_eq.mpr c11
 have c11b1 : ((rd (rd_L1 l0 (l2.length : Int)) (l2.length : Int)) != (rd (rd_L1 l1 a3) a3)) = false := bne_eq_false_iff_eq.mpr c11
 clear c11
 have H' := Aside0.mk H
 clear H
 have p101 : 0 ≤ ((l2.length : Int) : Int) := of_decide_eq_true (z0_)
 have q101 : (l2.length : Int) < (l0.length : Int) := of_decide_eq_true (z0_)
 obtain ⟨ad101, A101_0, c101_0, e101, hx101_0, hl101_0, hi101_0⟩ := at_L1 HR0.out (l2.length : Int) p101 q101
 cases e101
 have HR101_0 := Aside0.mk hi101_0
 have HC101_0 := Aside0.mk hl101_0
 clear hi101_0 hl101_0
 (try simp only [Go.IntWalk.toNatUp] at hx101_0)
 replace p101 := eq_true p101
 replace q101 := eq_true q101
 have p102 : 0 ≤ ((l2.length : Int) : Int) := of_decide_eq_true (z0_)
 have q102 : (l2.length : Int) < ((rd_L1 l0 (l2.length : Int)).length : Int) := of_decide_eq_true (z0_)
 obtain ⟨ad102, e102, hx102_0⟩ := Kd.at_int HR101_0.out (l2.length : Int) p102 q102
 cases e102
 (try simp only [Go.IntWalk.toNatUp] at hx102_0)
 replace p102 := eq_true p102
 replace q102 := eq_true q102
 have p103 : 0 ≤ (a3 : Int) := of_decide_eq_true (z0_)
 have q103 : a3 < (l1.length : Int) := of_decide_eq_true (z0_)
 obtain ⟨ad103, A103_0, c103_0, e103, hx103_0, hl103_0, hi103_0⟩ := at_L1 HR1.out a3 p103 q103
 cases e103
 have HR103_0 := Aside0.mk hi103_0
 have HC103_0 := Aside0.mk hl103_0
 clear hi103_0 hl103_0
 replace p103 := eq_true p103
 replace q103 := eq_true q103
 have p104 : 0 ≤ (a3 : Int) := of_decide_eq_true (z0_)
 have q104 : a3 < ((rd_L1 l1 a3).length : Int) := of_decide_eq_true (z0_)
 obtain ⟨ad104, e104, hx104_0⟩ := Kd.at_int HR103_0.out a3 p104 q104
 cases e104
 replace p104 := eq_true p104
 replace q104 := eq_true q104
 go_enter Try.func80, Try.ntmps80
 go_wp2
 repeat (go_quiet (fail); try go_wp2)
 go_loopg [10] k (fun kq v10 w' => ∃ (x10_1 : Int), v10 = .int .i64 x10_1 ∧ Aside0 (spec_l08Fits.l0 kq l0 l1 l2 a3 (l2.length : Int) x10_1 = some r) ∧ Aside0 (kq ≤ k) ∧ Drawn0 w w')
 case atStart => exact ⟨(0), (by first | rfl | (simp; done) | (simp [*]; done)), H', ⟨Nat.le_refl _⟩, by repeat (first | exact Drawn0.refl _ | apply Drawn0.step)⟩
 case round =>
  clear H'
  try clear c1
  try clear c2
  try clear c5
  try clear c5b0
  try clear c5b1
  try clear c6
  try clear c6b0
  try clear c6b1
  try clear c7
  try clear c7b0
  try clear c7b1
  try clear c8
  try clear c8b0
  try clear c9
  try clear c9b0
  try clear c10
  try clear c10b0
  try clear c11
  try clear c11b0
  try clear c11b1
  try clear hx101_0
  try clear hx102_0
  try clear hx103_0
  try clear hx104_0
  try clear p101
  try clear p102
  try clear p103
  try clear p104
  try clear q101
  try clear q102
  try clear q103
  try clear q104
  obtain ⟨x10_1, rfl, HA, HK1, ⟨m1, rfl⟩⟩ := hrel
  cases gk with
  | zero => exact absurd HA.out (by simp [spec_l08Fits.l0])
  | succ k1 =>
   have H := HA.out
   clear HA
   simp only [spec_l08Fits.l0] at H
   by_cases c12 : x10_1 < (l2.length : Int)
   rotate_left
   ·rw [if_neg c12] at H
    have c12b0 : decide (x10_1 < (l2.length : Int)) = false := decide_eq_false c12
    clear c12
    obtain rfl := Option.some.inj H
    go_wp2
    repeat (go_quiet (fail); try go_wp2)
    go_ret
    exact ⟨by first | rfl | (simp; done) | (simp [*]; done), by repeat (first | exact Drawn0.refl _ | apply Drawn0.step)⟩
   rw [if_pos c12] at H
   have c12b0 : decide (x10_1 < (l2.length : Int)) = true := decide_eq_true c12
   clear c12
   by_cases c13 : 0 ≤ x10_1
   rotate_left
   ·rw [if_neg c13] at H
    exact absurd H (by simp)
   rw [if_pos c13] at H
   have c13b0 : decide (0 ≤ x10_1) = true := decide_eq_true c13
   clear c13
   by_cases c14 : x10_1 < (l2.length : Int)
   rotate_left
   ·rw [if_neg c14] at H
    exact absurd H (by simp)
   rw [if_pos c14] at H
   have c14b0 : decide (x10_1 < (l2.length : Int)) = true := decide_eq_true c14
   clear c14
   by_cases c15 : (rd l2 x10_1) = a3
   ·rw [if_pos c15] at H
    have c15b0 : ((rd l2 x10_1) == a3) = true := beq_iff_eq.mpr c15
    have c15b1 : ((rd l2 x10_1) != a3) = false := bne_eq_false_iff_eq.mpr c15
    clear c15
    obtain rfl := Option.some.inj H
    have p105 : 0 ≤ (x10_1 : Int) := of_decide_eq_true (z0_)
    have q105 : x10_1 < (l2.length : Int) := of_decide_eq_true (z0_)
    obtain ⟨ad105, e105, hx105_0⟩ := Kd.at_int HR2.out x10_1 p105 q105
    cases e105
    replace p105 := eq_true p105
    replace q105 := eq_true q105
    go_wp2
    repeat (go_quiet (fail); try go_wp2)
    go_ret
    exact ⟨by first | rfl | (simp; done) | (simp [*]; done), by repeat (first | exact Drawn0.refl _ | apply Drawn0.step)⟩
   rw [if_neg c15] at H
   have c15b0 : ((rd l2 x10_1) == a3) = false := beq_eq_false_iff_ne.mpr c15
   have c15b1 : ((rd l2 x10_1) != a3) = true := bne_iff_ne.mpr c15
   by_cases c16 : 0 ≤ (l2.length : Int)
   rotate_left
   ·rw [if_neg c16] at H
    exact absurd H (by simp)
   rw [if_pos c16] at H
   have c16b0 : decide (0 ≤ (l2.length : Int)) = true := decide_eq_true c16
   have c16b1 : decide (0 ≤ l2.length) = true := decide_eq_true (by omega)
   clear c16
   by_cases c17 : (l2.length : Int) < (l0.length : Int)
   rotate_left
   ·rw [if_neg c17] at H
    exact absurd H (by simp)
   rw [if_pos c17] at H
   have c17b0 : decide ((l2.length : Int) < (l0.length : Int)) = true := decide_eq_true c17
   have c17b1 : decide (l2.length < l0.length) = true := decide_eq_true (Int.ofNat_lt.mp c17)
   clear c17
   by_cases c18 : x10_1 < ((rd_L1 l0 (l2.length : Int)).length : Int)
   rotate_left
   ·rw [if_neg c18] at H
    exact absurd H (by simp)
   rw [if_pos c18] at H
   have c18b0 : decide (x10_1 < ((rd_L1 l0 (l2.length : Int)).length : Int)) = true := decide_eq_true c18
   clear c18
   by_cases c19 : 0 ≤ a3
   rotate_left
   ·rw [if_neg c19] at H
    exact absurd H (by simp)
   rw [if_pos c19] at H
   have c19b0 : decide (0 ≤ a3) = true := decide_eq_true c19
   clear c19
   by_cases c20 : a3 < (l1.length : Int)
   rotate_left
   ·rw [if_neg c20] at H
    exact absurd H (by simp)
   rw [if_pos c20] at H
   have c20b0 : decide (a3 < (l1.length : Int)) = true := decide_eq_true c20
   clear c20
   by_cases c21 : 0 ≤ (rd l2 x10_1)
   rotate_left
   ·rw [if_neg c21] at H
    exact absurd H (by simp)
   rw [if_pos c21] at H
   have c21b0 : decide (0 ≤ (rd l2 x10_1)) = true := decide_eq_true c21
   clear c21
   by_cases c22 : (rd l2 x10_1) < ((rd_L1 l1 a3).length : Int)
   rotate_left
   ·rw [if_neg c22] at H
    exact absurd H (by simp)
   rw [if_pos c22] at H
   have c22b0 : decide ((rd l2 x10_1) < ((rd_L1 l1 a3).length : Int)) = true := decide_eq_true c22
   clear c22
   by_cases c23 : (rd (rd_L1 l0 (l2.length : Int)) x10_1) = (rd (rd_L1 l1 a3) (rd l2 x10_1))
   rotate_left
   ·rw [if_neg c23] at H
    have c23b0 : ((rd (rd_L1 l0 (l2.length : Int)) x10_1) == (rd (rd_L1 l1 a3) (rd l2 x10_1))) = false := beq_eq_false_iff_ne.mpr c23
    have c23b1 : ((rd (rd_L1 l0 (l2.length : Int)) x10_1) != (rd (rd_L1 l1 a3) (rd l2 x10_1))) = true := bne_iff_ne.mpr c23
    obtain rfl := Option.some.inj H
    have p105 : 0 ≤ (x10_1 : Int) := of_decide_eq_true (z0_)
    have q105 : x10_1 < (l2.length : Int) := of_decide_eq_true (z0_)
    obtain ⟨ad105, e105, hx105_0⟩ := Kd.at_int HR2.out x10_1 p105 q105
    cases e105
    replace p105 := eq_true p105
    replace q105 := eq_true q105
    have p106 : 0 ≤ ((l2.length : Int) : Int) := of_decide_eq_true (z0_)
    have q106 : (l2.length : Int) < (l0.length : Int) := of_decide_eq_true (z0_)
    obtain ⟨ad106, A106_0, c106_0, e106, hx106_0, hl106_0, hi106_0⟩ := at_L1 HR0.out (l2.length : Int) p106 q106
    obtain rfl : ad101 = ad106 := (by injection e106)
    have HR106_0 := Aside0.mk hi106_0
    have HC106_0 := Aside0.mk hl106_0
    clear hi106_0 hl106_0
    (try simp only [Go.IntWalk.toNatUp] at hx106_0)
    replace p106 := eq_true p106
    replace q106 := eq_true q106
    have p107 : 0 ≤ (x10_1 : Int) := of_decide_eq_true (z0_)
    have q107 : x10_1 < ((rd_L1 l0 (l2.length : Int)).length : Int) := of_decide_eq_true (z0_)
    obtain ⟨ad107, e107, hx107_0⟩ := Kd.at_int HR106_0.out x10_1 p107 q107
    cases e107
    replace p107 := eq_true p107
    replace q107 := eq_true q107
    have p108 : 0 ≤ (a3 : Int) := of_decide_eq_true (z0_)
    have q108 : a3 < (l1.length : Int) := of_decide_eq_true (z0_)
    obtain ⟨ad108, A108_0, c108_0, e108, hx108_0, hl108_0, hi108_0⟩ := at_L1 HR1.out a3 p108 q108
    obtain rfl : ad103 = ad108 := (by injection e108)
    have HR108_0 := Aside0.mk hi108_0
    have HC108_0 := Aside0.mk hl108_0
    clear hi108_0 hl108_0
    replace p108 := eq_true p108
    replace q108 := eq_true q108
    have p109 : 0 ≤ (x10_1 : Int) := of_decide_eq_true (z0_)
    have q109 : x10_1 < (l2.length : Int) := of_decide_eq_true (z0_)
    obtain ⟨ad109, e109, hx109_0⟩ := Kd.at_int HR2.out x10_1 p109 q109
    obtain rfl : ad105 = ad109 := (by injection e109)
    replace p109 := eq_true p109
    replace q109 := eq_true q109
    have p110 : 0 ≤ ((rd l2 x10_1) : Int) := of_decide_eq_true (z0_)
    have q110 : (rd l2 x10_1) < ((rd_L1 l1 a3).length : Int) := of_decide_eq_true (z0_)
    obtain ⟨ad110, e110, hx110_0⟩ := Kd.at_int HR108_0.out (rd l2 x10_1) p110 q110
    cases e110
    replace p110 := eq_true p110
    replace q110 := eq_true q110
    go_wp2
    repeat (go_quiet (fail); try go_wp2)
    go_ret
    exact ⟨by first | rfl | (simp; done) | (simp [*]; done), by repeat (first | exact Drawn0.refl _ | apply Drawn0.step)⟩
   rw [if_pos c23] at H
   have c23b0 : ((rd (rd_L1 l0 (l2.length : Int)) x10_1) == (rd (rd_L1 l1 a3) (rd l2 x10_1))) = true := beq_iff_eq.mpr c23
   have c23b1 : ((rd (rd_L1 l0 (l2.length : Int)) x10_1) != (rd (rd_L1 l1 a3) (rd l2 x10_1))) = false := bne_eq_false_iff_eq.mpr c23
   clear c23
   have H' := Aside0.mk H
   clear H
   have p105 : 0 ≤ (x10_1 : Int) := of_decide_eq_true (z0_)
   have q105 : x10_1 < (l2.length : Int) := of_decide_eq_true (z0_)
   obtain ⟨ad105, e105, hx105_0⟩ := Kd.at_int HR2.out x10_1 p105 q105
   cases e105
   replace p105 := eq_true p105
   replace q105 := eq_true q105
   have p106 : 0 ≤ ((l2.length : Int) : Int) := of_decide_eq_true (z0_)
   have q106 : (l2.length : Int) < (l0.length : Int) := of_decide_eq_true (z0_)
   obtain ⟨ad106, A106_0, c106_0, e106, hx106_0, hl106_0, hi106_0⟩ := at_L1 HR0.out (l2.length : Int) p106 q106
   obtain rfl : ad101 = ad106 := (by injection e106)
   have HR106_0 := Aside0.mk hi106_0
   have HC106_0 := Aside0.mk hl106_0
   clear hi106_0 hl106_0
   (try simp only [Go.IntWalk.toNatUp] at hx106_0)
   replace p106 := eq_true p106
   replace q106 := eq_true q106
   have p107 : 0 ≤ (x10_1 : Int) := of_decide_eq_true (z0_)
   have q107 : x10_1 < ((rd_L1 l0 (l2.length : Int)).length : Int) := of_decide_eq_true (z0_)
   obtain ⟨ad107, e107, hx107_0⟩ := Kd.at_int HR106_0.out x10_1 p107 q107
   cases e107
   replace p107 := eq_true p107
   replace q107 := eq_true q107
   have p108 : 0 ≤ (a3 : Int) := of_decide_eq_true (z0_)
   have q108 : a3 < (l1.length : Int) := of_decide_eq_true (z0_)
   obtain ⟨ad108, A108_0, c108_0, e108, hx108_0, hl108_0, hi108_0⟩ := at_L1 HR1.out a3 p108 q108
   obtain rfl : ad103 = ad108 := (by injection e108)
   have HR108_0 := Aside0.mk hi108_0
   have HC108_0 := Aside0.mk hl108_0
   clear hi108_0 hl108_0
   replace p108 := eq_true p108
   replace q108 := eq_true q108
   have p109 : 0 ≤ (x10_1 : Int) := of_decide_eq_true (z0_)
   have q109 : x10_1 < (l2.length : Int) := of_decide_eq_true (z0_)
   obtain ⟨ad109, e109, hx109_0⟩ := Kd.at_int HR2.out x10_1 p109 q109
   obtain rfl : ad105 = ad109 := (by injection e109)
   replace p109 := eq_true p109
   replace q109 := eq_true q109
   have p110 : 0 ≤ ((rd l2 x10_1) : Int) := of_decide_eq_true (z0_)
   have q110 : (rd l2 x10_1) < ((rd_L1 l1 a3).length : Int) := of_decide_eq_true (z0_)
   obtain ⟨ad110, e110, hx110_0⟩ := Kd.at_int HR108_0.out (rd l2 x10_1) p110 q110
   cases e110
   replace p110 := eq_true p110
   replace q110 := eq_true q110
   go_wp2
   repeat (go_quiet (fail); try go_wp2)
   go_roundg k1
   case measure => have := HK1.out; omega
   case rel => exact ⟨(wrap64 (x10_1 + 1)), (by first | rfl | (simp; done) | (simp [*]; done)), H', ⟨by have := HK1.out; omega⟩, by repeat (first | exact Drawn0.refl _ | apply Drawn0.step)⟩
end Go.Proofs.Ytbjjefipcigaoaa.X
end
section
namespace Go.Proofs.Ytbjjefipcigaoaa.X
open Go.RowKit Go.Proofs.YtbjjefipcigaoaaW.PrintWords Go.Proofs.YtbjjefipcigaoaaW.PrintLast Go.Proofs.YtbjjefipcigaoaaW.PrintMore
attribute [local go_sem] max2_int min2_int max_two min_two max_three min_three max_four min_four
set_option linter.unusedVariables false
set_option linter.unusedSimpArgs false
mutual
def spec_l08Count.l0 : Nat → List (List Int) → List (List Int) → List Int → Bool → Int → List Int → Int → Option (Int × List Int)
 | 0, _, _, _, _, _, _, _ => none
 | k + 1, x0, x1, x2, x3, x10, x11, x12 => if x12 < (x0.length : Int) then ((spec_l08Fits.f k x0 x1 x2 x12).bind fun t104 => (if t104 = true then ((spec_l01Own.f x2).bind fun t105 => (if t105.length < 17592186044416 then ((spec_l08Count.f k x0 x1 (t105 ++ [x12]) x3).bind fun bt111 => (if x10 = 0 then (spec_l08Count.j1 k x0 x1 x2 x3 x10 x11 x12 bt111.1 bt111.2 (decide (bt111.1 > 0))) else (spec_l08Count.j1 k x0 x1 x2 x3 x10 x11 x12 bt111.1 bt111.2 false))) else (none))) else (spec_l08Count.l0 k x0 x1 x2 x3 x10 x11 (wrap64 (x12 + 1))))) else (some (x10, x11))
def spec_l08Count.j1 : Nat → List (List Int) → List (List Int) → List Int → Bool → Int → List Int → Int → Int → List Int → Bool → Option (Int × List Int)
 | 0, _, _, _, _, _, _, _, _, _, _ => none
 | k + 1, x0, x1, x2, x3, x10, x11, x12, x13, x14, x51 => if x51 = true then (if (wrap64 (x10 + x13)) > 0 then (if x3 = true then (spec_l08Count.l0 k x0 x1 x2 x3 (wrap64 (x10 + x13)) x14 (wrap64 (x12 + 1))) else (some (wrap64 (x10 + x13), x14))) else (spec_l08Count.l0 k x0 x1 x2 x3 (wrap64 (x10 + x13)) x14 (wrap64 (x12 + 1)))) else (if (wrap64 (x10 + x13)) > 0 then (if x3 = true then (spec_l08Count.l0 k x0 x1 x2 x3 (wrap64 (x10 + x13)) x11 (wrap64 (x12 + 1))) else (some (wrap64 (x10 + x13), x11))) else (spec_l08Count.l0 k x0 x1 x2 x3 (wrap64 (x10 + x13)) x11 (wrap64 (x12 + 1))))
def spec_l08Count.f : Nat → List (List Int) → List (List Int) → List Int → Bool → Option (Int × List Int)
 | 0, _, _, _, _ => none
 | k + 1, l0, l1, l2, a3 => if (l2.length : Int) = (l0.length : Int) then (some (1, l2)) else (spec_l08Count.l0 k l0 l1 l2 a3 0 (([] : List Int)) 0)
end
set_option maxHeartbeats 8000000 in
set_option maxRecDepth 100000 in
theorem spec_l08Count.calls (k : Nat) : ∀ (A0 : Option Addr) (c0 : Nat) (l0 : List (List Int)) (A1 : Option Addr) (c1 : Nat) (l1 : List (List Int)) (P2_ : Nat → Prop) (u9000_ : Value) (l2 : List Int) (a3 : Bool) (r1 : Int) (r2 : List Int) (w0 w : World) (hB : Below w0.heap.size w0 w) (hr0 : ∀ W_, Kept w W_ (fun k_ => P2_ k_) → Kd.C (Kd.slice 2 (Kd.int .i64)) W_ A0 l0.length l0) (hc0 : l0.length ≤ c0) (hr1 : ∀ W_, Kept w W_ (fun k_ => P2_ k_) → Kd.C (Kd.slice 2 (Kd.int .i64)) W_ A1 l1.length l1) (hc1 : l1.length ≤ c1) (ho2 : Kd.R (Kd.int .i64) 2 w w0.heap.size P2_ u9000_ l2) (h : spec_l08Count.f k l0 l1 l2 a3 = some (r1, r2)),
  Calls Try.prog 70 #[.slice A0 l0.length c0, .slice A1 l1.length c1, u9000_, .bool a3] w fun e w' => ∃ v1_ : Value, e = .returned (.tuple #[.int .i64 r1, v1_]) ∧ Kd.R (Kd.int .i64) 2 w' w0.heap.size (fun k_ => (P2_ k_ ∨ w.heap.size ≤ k_)) v1_ r2 ∧ Below w0.heap.size w0 w' ∧ Kept w w' (fun k_ => P2_ k_) := by
 induction k using Nat.strongRecOn with
 | _ k ih =>
 intro A0 c0 l0 A1 c1 l1 P2_ u9000_ l2 a3 r1 r2 w0 w hB hr0 hc0 hr1 hc1 ho2 h
 cases k with
 | zero => exact absurd h (by simp [spec_l08Count.f])
 | succ k =>
 simp only [spec_l08Count.f] at h
 have HR0 := Aside0.mk hr0
 have HC0 := Aside0.mk hc0
 clear hr0 hc0
 have HR1 := Aside0.mk hr1
 have HC1 := Aside0.mk hc1
 clear hr1 hc1
 have HO2 := Aside0.mk (show Kd.R (Kd.int .i64) 2 w w0.heap.size (fun k_ => (P2_ k_ ∨ w.heap.size ≤ k_)) u9000_ l2 from Kd.R_mono ho2 (fun k_ hk => (.inl hk)))
 have HK := Aside0.mk (Kept.refl w (fun k_ => P2_ k_))
 have HW0 := Aside0.mk hB.size
 have HB := Aside0.mk hB
 clear hB
 have H : (if (l2.length : Int) = (l0.length : Int) then (some (1, l2)) else (spec_l08Count.l0 k l0 l1 l2 a3 0 (([] : List Int)) 0)) = some (r1, r2) := h
 clear h
 by_cases c5 : (l2.length : Int) = (l0.length : Int)
 ·rw [if_pos c5] at H
  have c5b0 : ((l2.length : Int) == (l0.length : Int)) = true := beq_iff_eq.mpr c5
  have c5b1 : ((l2.length : Int) != (l0.length : Int)) = false := bne_eq_false_iff_eq.mpr c5
  have c5b2 : (l2.length == l0.length) = true := by first | simpa using c5 | (simp at c5 ⊢; omega)
  clear c5
  simp only [Option.some.injEq, Prod.mk.injEq] at H
  obtain ⟨rfl, rfl⟩ := H
  obtain ⟨Ao6, co6, eo6⟩ := Kd.R_slice HO2.out
  subst eo6
  go_enter Try.func70, Try.ntmps70
  go_wp2
  go_ret2
  exact ⟨_, by first | rfl | (simp [errW_none, errW_some] <;> rfl) | (simp [*, errW_none, errW_some] <;> rfl), z19_, z2_, by repeat (first | (with_reducible first | exact HK.out | apply Kept.alloc | apply Kept.drewN | apply Kept.drew) | exact HK.out)⟩
 rw [if_neg c5] at H
 have c5b0 : ((l2.length : Int) == (l0.length : Int)) = false := beq_eq_false_iff_ne.mpr c5
 have c5b1 : ((l2.length : Int) != (l0.length : Int)) = true := bne_iff_ne.mpr c5
 have c5b2 : (l2.length == l0.length) = false := by first | simpa using c5 | (simp at c5 ⊢; omega)
 obtain ⟨y101, hy101⟩ : ∃ y_ : List Int, y_ = (([] : List Int)) := ⟨_, rfl⟩
 replace H : (spec_l08Count.l0 k l0 l1 l2 a3 0 y101 0) = some (r1, r2) := by first | (rw [hy101]; with_reducible exact H) | (have H2_ := (Option.bind_some _ _).symm.trans H; rw [hy101]; with_reducible exact H2_) | (have H2_ := (Option.bind_some _ _).symm.trans H; with_reducible exact H2_) | with_reducible exact H | (rw [hy101]; exact H) | exact H
 have Ny101 := Aside0.mk hy101
 clear hy101
 have H' := Aside0.mk H
 clear H
 obtain ⟨Ao7, co7, eo7⟩ := Kd.R_slice HO2.out
 subst eo7
 go_enter Try.func70, Try.ntmps70
 go_wp2_with (first | ((with_reducible refine w5z (N := 21) rfl ?_); refine Kd.R_lit (Kd.int .i64) _ 2 ?hg (N := 21) ?hd (xs := ([] : List Int)) (inner := []) (ok := fun _ => True) (okp := fun _ => True) ?hr ?hp (fun _ hk => hk) trivial (Below.refl _ _) (Nat.le_refl _) (by simp) ?_; (case hd => rfl); (case hg => rfl); (case hr => first | (go_simp; done) | (go_simp; rfl)); (case hp => exact (Reps.none _ _)); intro v102 w8 ho9 hb hg_ hnew_; clear hg_ hnew_; (first | rw [← Ny101.out] at ho9 | (simp only [Int.reduceToNat] at ho9; rw [← Ny101.out] at ho9)); have n0_ := Aside0.mk (Kd.R_elder' (z19_) (Kd.R_base ho9) hb); have n1_ := Aside0.mk (Kd.R_lower (Kd.R_new' (Kd.R_newM (M := fun k_ => (P2_ k_ ∨ w.heap.size ≤ k_)) ho9 (by first | exact HK.out.1 | exact (show Kept w _ (fun k_ => P2_ k_) from by repeat (first | (with_reducible first | exact HK.out | apply Kept.alloc | apply Kept.drewN | apply Kept.drew) | exact HK.out)).1) (fun k_ h_ => .inr h_)) (Kd.R_lt (z19_))) (w2z (z2_))); have n2_ := Aside0.mk (Kept.below (S := (fun k_ => P2_ k_)) (by repeat (first | (with_reducible first | exact HK.out | apply Kept.alloc | apply Kept.drewN | apply Kept.drew) | exact HK.out)) hb); have n3_ := Aside0.mk (w3z (z2_) hb); clear HO2; clear HK; clear HB; have HO2 := n0_; have HO103 := n1_; have HK := n2_; have HB := n3_; clear n0_ n1_ n2_ n3_; clear hb ho9))
 go_loopg [10, 11, 12] k (fun kq v10 v11 v12 w' => ∃ (x10_1 : Int) (x11_1 : List Int) (x12_1 : Int), v10 = .int .i64 x10_1 ∧ v12 = .int .i64 x12_1 ∧ Aside0 (spec_l08Count.l0 kq l0 l1 l2 a3 x10_1 x11_1 x12_1 = some (r1, r2)) ∧ Aside0 (kq ≤ k) ∧ Aside0 (Kd.R (Kd.int .i64) 2 w' w0.heap.size (fun k_ => (P2_ k_ ∨ w.heap.size ≤ k_) ∧ some k_ ≠ (v11 : Value).ownBlock) (.slice Ao7 l2.length co7) l2) ∧ Aside0 (Kd.R (Kd.int .i64) 2 w' w0.heap.size (fun k_ => (P2_ k_ ∨ w.heap.size ≤ k_) ∧ some k_ ≠ ((.slice Ao7 l2.length co7) : Value).ownBlock) v11 x11_1) ∧ Aside0 (Kept w w' (fun k_ => P2_ k_)) ∧ Aside0 (Below w0.heap.size w0 w'))
 case atStart => exact ⟨(0), (y101), (0), (by first | rfl | (simp; done) | (simp [*]; done)), (by first | rfl | (simp; done) | (simp [*]; done)), H', ⟨Nat.le_refl _⟩, ⟨z19_⟩, ⟨by (with_reducible repeat (first | apply Kd.R_alloc | apply Kd.R_drewN | apply Kd.R_drew)); exact Kd.R_mono HO103.out (fun _ hk => ⟨hk.1.1, hk.2⟩)⟩, ⟨by repeat (first | (with_reducible first | exact HK.out | apply Kept.alloc | apply Kept.drewN | apply Kept.drew) | exact HK.out)⟩, ⟨z2_⟩⟩
 case round =>
  clear H'
  try clear c1
  try clear c5
  try clear c5b0
  try clear c5b1
  try clear c5b2
  obtain ⟨x10_1, x11_1, x12_1, rfl, rfl, HA, HK1, HO_2, HO_11, HK, HB⟩ := hrel
  cases gk with
  | zero => exact absurd HA.out (by simp [spec_l08Count.l0])
  | succ k1 =>
   have H := HA.out
   clear HA
   simp only [spec_l08Count.l0] at H
   by_cases c10 : x12_1 < (l0.length : Int)
   rotate_left
   ·rw [if_neg c10] at H
    have c10b0 : decide (x12_1 < (l0.length : Int)) = false := decide_eq_false c10
    clear c10
    simp only [Option.some.injEq, Prod.mk.injEq] at H
    obtain ⟨rfl, rfl⟩ := H
    go_wp2
    go_ret2
    exact ⟨_, by first | rfl | (simp [errW_none, errW_some] <;> rfl) | (simp [*, errW_none, errW_some] <;> rfl), by (with_reducible repeat (first | apply Kd.R_alloc | apply Kd.R_drewN | apply Kd.R_drew)); exact Kd.R_mono HO_11.out (fun _ hk => hk.1), z2_, by repeat (first | (with_reducible first | exact HK.out | apply Kept.alloc | apply Kept.drewN | apply Kept.drew) | exact HK.out)⟩
   rw [if_pos c10] at H
   have c10b0 : decide (x12_1 < (l0.length : Int)) = true := decide_eq_true c10
   clear c10
   replace H := Option.bind_eq_some_iff.mp H
   obtain ⟨t104, A110, H⟩ := H
   replace H : (if t104 = true then ((spec_l01Own.f l2).bind fun t105 => (if t105.length < 17592186044416 then ((spec_l08Count.f k1 l0 l1 (t105 ++ [x12_1]) a3).bind fun bt111 => (if x10_1 = 0 then (spec_l08Count.j1 k1 l0 l1 l2 a3 x10_1 x11_1 x12_1 bt111.1 bt111.2 (decide (bt111.1 > 0))) else (spec_l08Count.j1 k1 l0 l1 l2 a3 x10_1 x11_1 x12_1 bt111.1 bt111.2 false))) else (none))) else (spec_l08Count.l0 k1 l0 l1 l2 a3 x10_1 x11_1 (wrap64 (x12_1 + 1)))) = some (r1, r2) := H
   have A11 := Aside0.mk A110
   clear A110
   by_cases c12 : t104 = true
   rotate_left
   ·replace c12 := Bool.eq_false_iff.mpr c12
    subst c12
    have H1 : (spec_l08Count.l0 k1 l0 l1 l2 a3 x10_1 x11_1 (wrap64 (x12_1 + 1))) = some (r1, r2) := by rw [if_neg (show ¬ (false = true) by decide)] at H; exact H
    clear H
    have H := H1
    clear H1
    have H' := Aside0.mk H
    clear H
    go_wp2_with (first | ((with_reducible refine w6z (f := 80) rfl ?_); refine goesL_ (some 32) rfl rfl Try.func80 (by kernel_rfl) rfl #[.slice A0 l0.length c0, .slice A1 l1.length c1, .slice Ao7 l2.length co7, .int .i64 x12_1] rfl (z6_) ?_; (with_reducible refine (spec_l08Fits.calls k1 _ _ l0 _ _ l1 _ _ l2 x12_1 false _ ?side1 ?side2 ?side3 ?side4 ?side5 ?side6 A11.out).mono ?_); (case side1 => exact Kd.C_kept_now HR0.out (by repeat (first | (with_reducible first | exact HK.out | apply Kept.alloc | apply Kept.drewN | apply Kept.drew) | exact HK.out))); (case side2 => exact HC0.out); (case side3 => exact Kd.C_kept_now HR1.out (by repeat (first | (with_reducible first | exact HK.out | apply Kept.alloc | apply Kept.drewN | apply Kept.drew) | exact HK.out))); (case side4 => exact HC1.out); (case side5 => repeat (first | exact (Kd.R_reads' HO_2.out).2.2 | (with_reducible refine Kd.C_alloc ?_ _) | (with_reducible refine Kd.C_drewN ?_ _) | (with_reducible refine Kd.C_drew ?_))); (case side6 => exact (Kd.R_reads' HO_2.out).2.1); rintro e w' ⟨rfl, ⟨nd, rfl⟩⟩; refine ⟨_, rfl, ?_⟩))
    go_roundg k1
    case measure => have := HK1.out; omega
    case rel => exact ⟨(x10_1), (x11_1), (wrap64 (x12_1 + 1)), (by first | rfl | (simp; done) | (simp [*]; done)), (by first | rfl | (simp; done) | (simp [*]; done)), H', ⟨by have := HK1.out; omega⟩, ⟨z16_⟩, ⟨z17_⟩, ⟨by repeat (first | (with_reducible first | exact HK.out | apply Kept.alloc | apply Kept.drewN | apply Kept.drew) | exact HK.out)⟩, ⟨z2_⟩⟩
   subst c12
   have H1 : ((spec_l01Own.f l2).bind fun t105 => (if t105.length < 17592186044416 then ((spec_l08Count.f k1 l0 l1 (t105 ++ [x12_1]) a3).bind fun bt111 => (if x10_1 = 0 then (spec_l08Count.j1 k1 l0 l1 l2 a3 x10_1 x11_1 x12_1 bt111.1 bt111.2 (decide (bt111.1 > 0))) else (spec_l08Count.j1 k1 l0 l1 l2 a3 x10_1 x11_1 x12_1 bt111.1 bt111.2 false))) else (none))) = some (r1, r2) := by rw [if_pos rfl] at H; exact H
   clear H
   have H := H1
   clear H1
   replace H := Option.bind_eq_some_iff.mp H
   obtain ⟨t105, A130, H⟩ := H
   replace H : (if t105.length < 17592186044416 then ((spec_l08Count.f k1 l0 l1 (t105 ++ [x12_1]) a3).bind fun bt111 => (if x10_1 = 0 then (spec_l08Count.j1 k1 l0 l1 l2 a3 x10_1 x11_1 x12_1 bt111.1 bt111.2 (decide (bt111.1 > 0))) else (spec_l08Count.j1 k1 l0 l1 l2 a3 x10_1 x11_1 x12_1 bt111.1 bt111.2 false))) else (none)) = some (r1, r2) := H
   have A13 := Aside0.mk A130
   clear A130
   by_cases c14 : t105.length < 17592186044416
   rotate_left
   ·rw [if_neg c14] at H
    exact absurd H (by simp)
   rw [if_pos c14] at H
   have LMc14 := Aside0.mk c14
   clear c14
   obtain ⟨y108, hy108⟩ : ∃ y_ : List Int, y_ = (t105 ++ [x12_1]) := ⟨_, rfl⟩
   replace H : ((spec_l08Count.f k1 l0 l1 y108 a3).bind fun bt111 => (if x10_1 = 0 then (spec_l08Count.j1 k1 l0 l1 l2 a3 x10_1 x11_1 x12_1 bt111.1 bt111.2 (decide (bt111.1 > 0))) else (spec_l08Count.j1 k1 l0 l1 l2 a3 x10_1 x11_1 x12_1 bt111.1 bt111.2 false))) = some (r1, r2) := by first | (rw [hy108]; with_reducible exact H) | (have H2_ := (Option.bind_some _ _).symm.trans H; rw [hy108]; with_reducible exact H2_) | (have H2_ := (Option.bind_some _ _).symm.trans H; with_reducible exact H2_) | with_reducible exact H | (rw [hy108]; exact H) | exact H
   have Ny108 := Aside0.mk hy108
   clear hy108
   replace H := Option.bind_eq_some_iff.mp H
   obtain ⟨⟨t111, t112⟩, A150, H⟩ := H
   replace H : (if x10_1 = 0 then (spec_l08Count.j1 k1 l0 l1 l2 a3 x10_1 x11_1 x12_1 t111 t112 (decide (t111 > 0))) else (spec_l08Count.j1 k1 l0 l1 l2 a3 x10_1 x11_1 x12_1 t111 t112 false)) = some (r1, r2) := H
   have A15 := Aside0.mk A150
   clear A150
   have HC16 := Aside0.mk H
   clear H
   go_upto_region 9 with (first | ((with_reducible refine w6z (f := 80) rfl ?_); refine goesL_ (some 32) rfl rfl Try.func80 (by kernel_rfl) rfl #[.slice A0 l0.length c0, .slice A1 l1.length c1, .slice Ao7 l2.length co7, .int .i64 x12_1] rfl (z6_) ?_; (with_reducible refine (spec_l08Fits.calls k1 _ _ l0 _ _ l1 _ _ l2 x12_1 true _ ?side1 ?side2 ?side3 ?side4 ?side5 ?side6 A11.out).mono ?_); (case side1 => exact Kd.C_kept_now HR0.out (by repeat (first | (with_reducible first | exact HK.out | apply Kept.alloc | apply Kept.drewN | apply Kept.drew) | exact HK.out))); (case side2 => exact HC0.out); (case side3 => exact Kd.C_kept_now HR1.out (by repeat (first | (with_reducible first | exact HK.out | apply Kept.alloc | apply Kept.drewN | apply Kept.drew) | exact HK.out))); (case side4 => exact HC1.out); (case side5 => repeat (first | exact (Kd.R_reads' HO_2.out).2.2 | (with_reducible refine Kd.C_alloc ?_ _) | (with_reducible refine Kd.C_drewN ?_ _) | (with_reducible refine Kd.C_drew ?_))); (case side6 => exact (Kd.R_reads' HO_2.out).2.1); rintro e w' ⟨rfl, ⟨nd, rfl⟩⟩; refine ⟨_, rfl, ?_⟩) | ((with_reducible refine w6z (f := 72) rfl ?_); refine goesL_ (some 38) rfl rfl Try.func72 (by kernel_rfl) rfl #[.slice Ao7 l2.length co7] rfl (z6_) ?_; (with_reducible refine (spec_l01Own.calls _ _ l2 t105 _ ?side1 ?side2 A13.out).mono ?_); (case side1 => repeat (first | exact (Kd.R_reads' HO_2.out).2.2 | (with_reducible refine Kd.C_alloc ?_ _) | (with_reducible refine Kd.C_drewN ?_ _) | (with_reducible refine Kd.C_drew ?_))); (case side2 => exact (Kd.R_reads' HO_2.out).2.1); rintro e w17 ⟨v106, rfl, ho0, hb⟩; refine ⟨_, rfl, ?_⟩; have n0_ := Aside0.mk (Kd.R_elder' (z16_) (Kd.R_base ho0) hb); have n1_ := Aside0.mk (Kd.R_elder' (z17_) (Kd.R_base ho0) hb); have n2_ := Aside0.mk (Kd.R_lower (Kd.R_new' (Kd.R_new' (Kd.R_newM (M := fun k_ => (P2_ k_ ∨ w.heap.size ≤ k_)) ho0 (by first | exact HK.out.1 | exact (show Kept w _ (fun k_ => P2_ k_) from by repeat (first | (with_reducible first | exact HK.out | apply Kept.alloc | apply Kept.drewN | apply Kept.drew) | exact HK.out)).1) (fun k_ h_ => .inr h_)) (Kd.R_lt (z16_))) (Kd.R_lt (z17_))) (w2z (z2_))); have n3_ := Aside0.mk (Kept.below (S := (fun k_ => P2_ k_)) (by repeat (first | (with_reducible first | exact HK.out | apply Kept.alloc | apply Kept.drewN | apply Kept.drew) | exact HK.out)) hb); have n4_ := Aside0.mk (w3z (z2_) hb); clear HO_2; clear HO_11; clear HK; clear HB; have HO_2 := n0_; have HO_11 := n1_; have HO107 := n2_; have HK := n3_; have HB := n4_; clear n0_ n1_ n2_ n3_ n4_; (try clear hb); (try clear hb2); (try clear hk); (try clear hi); (try clear ho0)) | ((with_reducible refine gate_builtin (b := .append) (xs := #[.tmp 38, .tmp 40]) rfl ?_); at_builtin; refine Kd.R_append (Kd.int .i64) (w0 := w0) w0.heap.size rfl (.tmp 38) (.tmp 40) 32 2 (.int .i64 0) 8 rfl Try.underlying32 info2 rfl (by decide) (by omega) v106 t105 x12_1 [.int .i64 x12_1] (fun k_ => (P2_ k_ ∨ w.heap.size ≤ k_) ∧ some k_ ≠ (.slice Ao7 l2.length co7 : Value).ownBlock ∧ some k_ ≠ (u11 : Value).ownBlock) (fun _ => False) rfl rfl ?aP (fun _ hk => hk.elim) ?aF ?aO ?aB ?aS ?aL ?_; (case aP => exact rfl); (case aB => exact (z2_)); (case aF => exact (fun k_ hk => ⟨(.inr (Nat.le_trans (by first | exact HK.out.1 | exact (show Kept w _ (fun k_ => P2_ k_) from by repeat (first | (with_reducible first | exact HK.out | apply Kept.alloc | apply Kept.drewN | apply Kept.drew) | exact HK.out)).1) hk)), Kd.fresh' (Kd.R_lt (z16_)) k_ hk, Kd.fresh' (Kd.R_lt (z17_)) k_ hk⟩)); (case aO => exact (by (with_reducible repeat (first | apply Kd.R_alloc | apply Kd.R_drewN | apply Kd.R_drew)); exact Kd.R_mono HO107.out (fun _ hk => ⟨hk.1.1.1, ⟨hk.1.2, hk.2⟩⟩))); (case aS => exact (w2z (z2_))); (case aL => have := LMc14.out; omega); intro v109 w18 ho hb hg hat; rw [← Ny108.out] at ho; have n0_ := Aside0.mk (Kd.R_after (ok := (fun k_ => (P2_ k_ ∨ w.heap.size ≤ k_) ∧ some k_ ≠ (u11 : Value).ownBlock)) (z16_) hg hat); have n1_ := Aside0.mk (Kd.R_after (ok := (fun k_ => (P2_ k_ ∨ w.heap.size ≤ k_) ∧ some k_ ≠ (.slice Ao7 l2.length co7 : Value).ownBlock)) (z17_) hg hat); have n2_ := Aside0.mk (hb); have n3_ := Aside0.mk (Kept.of_grown (S := (fun k_ => P2_ k_)) hg (by repeat (first | (with_reducible first | exact HK.out | apply Kept.alloc | apply Kept.drewN | apply Kept.drew) | exact HK.out)) (fun k_ e_ => (HO107.out.1 k_ e_).1.1.1)); have n4_ := Aside0.mk (ho); clear HO_2; clear HO_11; clear HB; clear HK; clear HO107; have HO_2 := n0_; have HO_11 := n1_; have HB := n2_; have HK := n3_; have HO110 := n4_; clear n0_ n1_ n2_ n3_ n4_; clear ho hb hg hat; obtain ⟨Ao19, co19, eo19⟩ := Kd.R_slice HO110.out; subst eo19) | ((with_reducible refine w6z (f := 70) rfl ?_); refine goesL_ (some 43) rfl rfl Try.func70 (by kernel_rfl) rfl #[.slice A0 l0.length c0, .slice A1 l1.length c1, .slice Ao19 y108.length co19, .bool a3] rfl (z6_) ?_; (with_reducible refine (ih k1 (by have := HK1.out; omega) _ _ l0 _ _ l1 (fun k_ => some k_ = (.slice Ao19 y108.length co19 : Value).ownBlock) (.slice Ao19 y108.length co19) y108 a3 t111 t112 w0 _ ?side1 ?side2 ?side3 ?side4 ?side5 ?side6 A15.out).mono ?_); (case side1 => repeat (first | (with_reducible first | exact HB.out | apply below_alloc | apply pw_below_drewN | apply below_drew1) | exact HB.out)); (case side2 => exact Kd.C_kept_call HR0.out (by repeat (first | (with_reducible first | exact HK.out | apply Kept.alloc | apply Kept.drewN | apply Kept.drew) | exact HK.out)) (fun k_ hs_ => (fun e_ => (HO110.out.1 k_ e_.symm).1) hs_)); (case side3 => exact HC0.out); (case side4 => exact Kd.C_kept_call HR1.out (by repeat (first | (with_reducible first | exact HK.out | apply Kept.alloc | apply Kept.drewN | apply Kept.drew) | exact HK.out)) (fun k_ hs_ => (fun e_ => (HO110.out.1 k_ e_.symm).1) hs_)); (case side5 => exact HC1.out); (case side6 => exact Kd.R_tight rfl HO110.out); rintro e w20 ⟨v113, rfl, ho0, hb, hkp⟩; refine ⟨_, rfl, ?_⟩; have n0_ := Aside0.mk (Kd.R_mono (ok' := fun k_ => (P2_ k_ ∨ w.heap.size ≤ k_) ∧ some k_ ≠ (u11 : Value).ownBlock ∧ some k_ ≠ (v113 : Value).ownBlock) (Kd.R_keptB (HO_2.out) hkp (fun k_ hk_ hs_ => (hk_.2) hs_)) (fun k_ hk_ => ⟨hk_.1.1.1, hk_.1.1.2, fun e_ => Or.elim (ho0.1 k_ e_.symm) (fun hs_ => hk_.2.1 hs_) (fun hn_ => Nat.not_le.2 hk_.2.2 hn_)⟩)); have n1_ := Aside0.mk (Kd.R_mono (ok' := fun k_ => (P2_ k_ ∨ w.heap.size ≤ k_) ∧ some k_ ≠ (.slice Ao7 l2.length co7 : Value).ownBlock ∧ some k_ ≠ (v113 : Value).ownBlock) (Kd.R_keptB (HO_11.out) hkp (fun k_ hk_ hs_ => (hk_.2) hs_)) (fun k_ hk_ => ⟨hk_.1.1.1, hk_.1.1.2, fun e_ => Or.elim (ho0.1 k_ e_.symm) (fun hs_ => hk_.2.1 hs_) (fun hn_ => Nat.not_le.2 hk_.2.2 hn_)⟩)); have n2_ := Aside0.mk (Kd.R_mono (ok' := fun k_ => (P2_ k_ ∨ w.heap.size ≤ k_) ∧ some k_ ≠ (.slice Ao7 l2.length co7 : Value).ownBlock ∧ some k_ ≠ (u11 : Value).ownBlock) ho0 (fun k_ hk_ => ⟨Or.elim hk_ (fun hs_ => (HO110.out.1 k_ (hs_).symm).1) (fun hn_ => (.inr (Nat.le_trans (by first | exact HK.out.1 | exact (show Kept w _ (fun k_ => P2_ k_) from by repeat (first | (with_reducible first | exact HK.out | apply Kept.alloc | apply Kept.drewN | apply Kept.drew) | exact HK.out)).1) hn_))), Or.elim hk_ (fun hs_ => fun e_ => (((HO_2.out).1 k_ e_.symm).2) hs_) (fun hn_ => (Kd.fresh' (Kd.R_lt (z16_)) k_ hn_)), Or.elim hk_ (fun hs_ => fun e_ => (((HO_11.out).1 k_ e_.symm).2) hs_) (fun hn_ => (Kd.fresh' (Kd.R_lt (z17_)) k_ hn_))⟩)); have n3_ := Aside0.mk (Kept.then_ (S := (fun k_ => P2_ k_)) (by repeat (first | (with_reducible first | exact HK.out | apply Kept.alloc | apply Kept.drewN | apply Kept.drew) | exact HK.out)) hkp (fun k_ hs_ => (fun e_ => (HO110.out.1 k_ e_.symm).1) hs_)); have n4_ := Aside0.mk (hb); clear HO_2; clear HO_11; clear HK; clear HB; clear HO110; have HO_2 := n0_; have HO_11 := n1_; have HO114 := n2_; have HK := n3_; have HB := n4_; clear n0_ n1_ n2_ n3_ n4_; (try clear hb); (try clear hkp); (try clear ho0)))
   (try simp only [Act.put, List.setIfInBounds_toArray, List.set_cons_zero, List.set_cons_succ])
   go_cut [51] (fun v51 wc => ∃ (kq : Nat) (x51_15 : Bool), v51 = .bool x51_15 ∧ Aside0 (spec_l08Count.j1 kq l0 l1 l2 a3 x10_1 x11_1 x12_1 t111 t112 x51_15 = some (r1, r2)) ∧ Aside0 (kq ≤ k1) ∧ Aside0 (Kd.R (Kd.int .i64) 2 wc w0.heap.size (fun k_ => (P2_ k_ ∨ w.heap.size ≤ k_) ∧ some k_ ≠ (u11 : Value).ownBlock ∧ some k_ ≠ (v113 : Value).ownBlock) (.slice Ao7 l2.length co7) l2) ∧ Aside0 (Kd.R (Kd.int .i64) 2 wc w0.heap.size (fun k_ => (P2_ k_ ∨ w.heap.size ≤ k_) ∧ some k_ ≠ ((.slice Ao7 l2.length co7) : Value).ownBlock ∧ some k_ ≠ (v113 : Value).ownBlock) u11 x11_1) ∧ Aside0 (Kd.R (Kd.int .i64) 2 wc w0.heap.size (fun k_ => (P2_ k_ ∨ w.heap.size ≤ k_) ∧ some k_ ≠ ((.slice Ao7 l2.length co7) : Value).ownBlock ∧ some k_ ≠ (u11 : Value).ownBlock) v113 t112) ∧ Aside0 (Kept w wc (fun k_ => P2_ k_)) ∧ Aside0 (Below w0.heap.size w0 wc))
   case first =>
    have H := HC16.out
    clear HC16
    by_cases c21 : x10_1 = 0
    rotate_left
    ·rw [if_neg c21] at H
     have c21b0 : (x10_1 == 0) = false := beq_eq_false_iff_ne.mpr c21
     have c21b1 : (x10_1 != 0) = true := bne_iff_ne.mpr c21
     (first | rw [c21b0] | (simp only [i64_w, i32_w]; rw [c21b0]) | skip)
     have H' := Aside0.mk H
     clear H
     go_wp2
     go_meet
     case rel => exact ⟨_, (false), (by first | rfl | (simp; done) | (simp [*]; done)), H', ⟨by have := HK1.out; first | omega | exact Nat.le_refl _⟩, ⟨z16_⟩, ⟨z17_⟩, ⟨z27_⟩, ⟨by repeat (first | (with_reducible first | exact HK.out | apply Kept.alloc | apply Kept.drewN | apply Kept.drew) | exact HK.out)⟩, ⟨z2_⟩⟩
    rw [if_pos c21] at H
    have c21b0 : (x10_1 == 0) = true := beq_iff_eq.mpr c21
    have c21b1 : (x10_1 != 0) = false := bne_eq_false_iff_eq.mpr c21
    clear c21
    (first | rw [c21b0] | (simp only [i64_w, i32_w]; rw [c21b0]) | skip)
    have H' := Aside0.mk H
    clear H
    go_wp2
    go_meet
    case rel => exact ⟨_, (decide (t111 > 0)), (by first | rfl | (simp; done) | (simp [*]; done)), H', ⟨by have := HK1.out; first | omega | exact Nat.le_refl _⟩, ⟨z16_⟩, ⟨z17_⟩, ⟨z27_⟩, ⟨by repeat (first | (with_reducible first | exact HK.out | apply Kept.alloc | apply Kept.drewN | apply Kept.drew) | exact HK.out)⟩, ⟨z2_⟩⟩
   case rest =>
    clear HC16
    try clear c1
    try clear c5
    try clear c5b0
    try clear c5b1
    try clear c5b2
    try clear c10
    try clear c10b0
    try clear c12
    try clear c14
    try clear c21
    try clear c21b0
    try clear c21b1
    obtain ⟨kq, x51_15, rfl, HA, HJ15, HO_2, HO_11, HO_14, HK, HB⟩ := hcut
    cases kq with
    | zero => exact absurd HA.out (by simp [spec_l08Count.j1])
    | succ kj15 =>
     have H := HA.out
     clear HA
     simp only [spec_l08Count.j1] at H
     by_cases c22 : x51_15 = true
     ·subst c22
      have H1 : (if (wrap64 (x10_1 + t111)) > 0 then (if a3 = true then (spec_l08Count.l0 kj15 l0 l1 l2 a3 (wrap64 (x10_1 + t111)) t112 (wrap64 (x12_1 + 1))) else (some (wrap64 (x10_1 + t111), t112))) else (spec_l08Count.l0 kj15 l0 l1 l2 a3 (wrap64 (x10_1 + t111)) t112 (wrap64 (x12_1 + 1)))) = some (r1, r2) := by rw [if_pos rfl] at H; exact H
      clear H
      have H := H1
      clear H1
      by_cases c23 : (wrap64 (x10_1 + t111)) > 0
      rotate_left
      ·rw [if_neg c23] at H
       have c23b0 : decide (0 < (wrap64 (x10_1 + t111))) = false := decide_eq_false c23
       clear c23
       have H' := Aside0.mk H
       clear H
       go_wp2
       go_roundg kj15
       case measure => have := HK1.out; have := HJ15.out; omega
       case rel => exact ⟨(wrap64 (x10_1 + t111)), (t112), (wrap64 (x12_1 + 1)), (by first | rfl | (simp; done) | (simp [*]; done)), (by first | rfl | (simp; done) | (simp [*]; done)), H', ⟨by have := HK1.out; have := HJ15.out; omega⟩, ⟨by (with_reducible repeat (first | apply Kd.R_alloc | apply Kd.R_drewN | apply Kd.R_drew)); exact Kd.R_mono HO_2.out (fun _ hk => ⟨hk.1, hk.2.2⟩)⟩, ⟨by (with_reducible repeat (first | apply Kd.R_alloc | apply Kd.R_drewN | apply Kd.R_drew)); exact Kd.R_mono HO_14.out (fun _ hk => ⟨hk.1, hk.2.1⟩)⟩, ⟨by repeat (first | (with_reducible first | exact HK.out | apply Kept.alloc | apply Kept.drewN | apply Kept.drew) | exact HK.out)⟩, ⟨z2_⟩⟩
      rw [if_pos c23] at H
      have c23b0 : decide (0 < (wrap64 (x10_1 + t111))) = true := decide_eq_true c23
      clear c23
      by_cases c24 : a3 = true
      rotate_left
      ·replace c24 := Bool.eq_false_iff.mpr c24
       subst c24
       have H1 : (some (wrap64 (x10_1 + t111), t112)) = some (r1, r2) := by rw [if_neg (show ¬ (false = true) by decide)] at H; exact H
       clear H
       have H := H1
       clear H1
       simp only [Option.some.injEq, Prod.mk.injEq] at H
       obtain ⟨rfl, rfl⟩ := H
       go_wp2
       go_ret2
       exact ⟨_, by first | rfl | (simp [errW_none, errW_some] <;> rfl) | (simp [*, errW_none, errW_some] <;> rfl), by (with_reducible repeat (first | apply Kd.R_alloc | apply Kd.R_drewN | apply Kd.R_drew)); exact Kd.R_mono HO_14.out (fun _ hk => hk.1), z2_, by repeat (first | (with_reducible first | exact HK.out | apply Kept.alloc | apply Kept.drewN | apply Kept.drew) | exact HK.out)⟩
      subst c24
      have H1 : (spec_l08Count.l0 kj15 l0 l1 l2 true (wrap64 (x10_1 + t111)) t112 (wrap64 (x12_1 + 1))) = some (r1, r2) := by rw [if_pos rfl] at H; exact H
      clear H
      have H := H1
      clear H1
      have H' := Aside0.mk H
      clear H
      go_wp2
      go_roundg kj15
      case measure => have := HK1.out; have := HJ15.out; omega
      case rel => exact ⟨(wrap64 (x10_1 + t111)), (t112), (wrap64 (x12_1 + 1)), (by first | rfl | (simp; done) | (simp [*]; done)), (by first | rfl | (simp; done) | (simp [*]; done)), H', ⟨by have := HK1.out; have := HJ15.out; omega⟩, ⟨by (with_reducible repeat (first | apply Kd.R_alloc | apply Kd.R_drewN | apply Kd.R_drew)); exact Kd.R_mono HO_2.out (fun _ hk => ⟨hk.1, hk.2.2⟩)⟩, ⟨by (with_reducible repeat (first | apply Kd.R_alloc | apply Kd.R_drewN | apply Kd.R_drew)); exact Kd.R_mono HO_14.out (fun _ hk => ⟨hk.1, hk.2.1⟩)⟩, ⟨by repeat (first | (with_reducible first | exact HK.out | apply Kept.alloc | apply Kept.drewN | apply Kept.drew) | exact HK.out)⟩, ⟨z2_⟩⟩
     replace c22 := Bool.eq_false_iff.mpr c22
     subst c22
     have H1 : (if (wrap64 (x10_1 + t111)) > 0 then (if a3 = true then (spec_l08Count.l0 kj15 l0 l1 l2 a3 (wrap64 (x10_1 + t111)) x11_1 (wrap64 (x12_1 + 1))) else (some (wrap64 (x10_1 + t111), x11_1))) else (spec_l08Count.l0 kj15 l0 l1 l2 a3 (wrap64 (x10_1 + t111)) x11_1 (wrap64 (x12_1 + 1)))) = some (r1, r2) := by rw [if_neg (show ¬ (false = true) by decide)] at H; exact H
     clear H
     have H := H1
     clear H1
     by_cases c25 : (wrap64 (x10_1 + t111)) > 0
     rotate_left
     ·rw [if_neg c25] at H
      have c25b0 : decide (0 < (wrap64 (x10_1 + t111))) = false := decide_eq_false c25
      clear c25
      have H' := Aside0.mk H
      clear H
      go_wp2
      go_roundg kj15
      case measure => have := HK1.out; have := HJ15.out; omega
      case rel => exact ⟨(wrap64 (x10_1 + t111)), (x11_1), (wrap64 (x12_1 + 1)), (by first | rfl | (simp; done) | (simp [*]; done)), (by first | rfl | (simp; done) | (simp [*]; done)), H', ⟨by have := HK1.out; have := HJ15.out; omega⟩, ⟨by (with_reducible repeat (first | apply Kd.R_alloc | apply Kd.R_drewN | apply Kd.R_drew)); exact Kd.R_mono HO_2.out (fun _ hk => ⟨hk.1, hk.2.1⟩)⟩, ⟨by (with_reducible repeat (first | apply Kd.R_alloc | apply Kd.R_drewN | apply Kd.R_drew)); exact Kd.R_mono HO_11.out (fun _ hk => ⟨hk.1, hk.2.1⟩)⟩, ⟨by repeat (first | (with_reducible first | exact HK.out | apply Kept.alloc | apply Kept.drewN | apply Kept.drew) | exact HK.out)⟩, ⟨z2_⟩⟩
     rw [if_pos c25] at H
     have c25b0 : decide (0 < (wrap64 (x10_1 + t111))) = true := decide_eq_true c25
     clear c25
     by_cases c26 : a3 = true
     rotate_left
     ·replace c26 := Bool.eq_false_iff.mpr c26
      subst c26
      have H1 : (some (wrap64 (x10_1 + t111), x11_1)) = some (r1, r2) := by rw [if_neg (show ¬ (false = true) by decide)] at H; exact H
      clear H
      have H := H1
      clear H1
      simp only [Option.some.injEq, Prod.mk.injEq] at H
      obtain ⟨rfl, rfl⟩ := H
      go_wp2
      go_ret2
      exact ⟨_, by first | rfl | (simp [errW_none, errW_some] <;> rfl) | (simp [*, errW_none, errW_some] <;> rfl), by (with_reducible repeat (first | apply Kd.R_alloc | apply Kd.R_drewN | apply Kd.R_drew)); exact Kd.R_mono HO_11.out (fun _ hk => hk.1), z2_, by repeat (first | (with_reducible first | exact HK.out | apply Kept.alloc | apply Kept.drewN | apply Kept.drew) | exact HK.out)⟩
     subst c26
     have H1 : (spec_l08Count.l0 kj15 l0 l1 l2 true (wrap64 (x10_1 + t111)) x11_1 (wrap64 (x12_1 + 1))) = some (r1, r2) := by rw [if_pos rfl] at H; exact H
     clear H
     have H := H1
     clear H1
     have H' := Aside0.mk H
     clear H
     go_wp2
     go_roundg kj15
     case measure => have := HK1.out; have := HJ15.out; omega
     case rel => exact ⟨(wrap64 (x10_1 + t111)), (x11_1), (wrap64 (x12_1 + 1)), (by first | rfl | (simp; done) | (simp [*]; done)), (by first | rfl | (simp; done) | (simp [*]; done)), H', ⟨by have := HK1.out; have := HJ15.out; omega⟩, ⟨by (with_reducible repeat (first | apply Kd.R_alloc | apply Kd.R_drewN | apply Kd.R_drew)); exact Kd.R_mono HO_2.out (fun _ hk => ⟨hk.1, hk.2.1⟩)⟩, ⟨by (with_reducible repeat (first | apply Kd.R_alloc | apply Kd.R_drewN | apply Kd.R_drew)); exact Kd.R_mono HO_11.out (fun _ hk => ⟨hk.1, hk.2.1⟩)⟩, ⟨by repeat (first | (with_reducible first | exact HK.out | apply Kept.alloc | apply Kept.drewN | apply Kept.drew) | exact HK.out)⟩, ⟨z2_⟩⟩
end Go.Proofs.Ytbjjefipcigaoaa.X
end
section
namespace Go.Proofs.Ytbjjefipcigaoaa.X
open Go.RowKit Go.Proofs.YtbjjefipcigaoaaW.PrintWords Go.Proofs.YtbjjefipcigaoaaW.PrintLast Go.Proofs.YtbjjefipcigaoaaW.PrintMore
attribute [local go_sem] max2_int min2_int max_two min_two max_three min_three max_four min_four
set_option linter.unusedVariables false
set_option linter.unusedSimpArgs false
def spec_l08Find.f (k : Nat) (a0_0 : Int) (l0_1 : List (List Int)) (a1_0 : Int) (l1_1 : List (List Int)) : Option (List Int × Bool) := if a0_0 = a1_0 then ((spec_l01Adjacency.f k a0_0 l0_1).bind fun t103 => ((spec_l01Adjacency.f k a1_0 l1_1).bind fun t106 => ((spec_l08Count.f k t103 t106 (([] : List Int)) false).bind fun bt112 => (some (bt112.2, decide (bt112.1 > 0)))))) else (some (([] : List Int), false))
def spec_l08Find.T3 : Bool × List (List Nat × List Nat) := (true, [([], []), ([0], [0]), ([], []), ([2, 1], [2]), ([], []), ([1, 3, 4, 3], [1, 3, 4]), ([5], [5]), ([6], [6]), ([6], [6]), ([7, 5, 0, 1, 2, 3, 4, 5, 6, 7], [7]), ([8, 9, 0, 1, 2, 3, 4, 5, 6, 7, 8, 9], [8])])
def spec_l08Find.B3 : List Nat := [0, 1, 0, 7, 0, 31, 63, 127, 127, 255, 1023]
theorem spec_l08Find.tab3 : rtab .any (opsOf Try.f32 3) = spec_l08Find.T3 := by kernel_rfl
theorem spec_l08Find.bits3 : waitsOk spec_l08Find.T3.2 spec_l08Find.B3 = true := by kernel_rfl
set_option maxHeartbeats 8000000 in
set_option maxRecDepth 100000 in
theorem spec_l08Find.calls (k : Nat) (a0_0 : Int) (A0_1 : Option Addr) (c0_1 : Nat) (l0_1 : List (List Int)) (a1_0 : Int) (A1_1 : Option Addr) (c1_1 : Nat) (l1_1 : List (List Int)) (r1 : List Int) (r2 : Bool) (w : World) (hr0_1 : Kd.C (Kd.slice 2 (Kd.int .i64)) w A0_1 l0_1.length l0_1) (hc0_1 : l0_1.length ≤ c0_1) (hr1_1 : Kd.C (Kd.slice 2 (Kd.int .i64)) w A1_1 l1_1.length l1_1) (hc1_1 : l1_1.length ≤ c1_1) (h : spec_l08Find.f k a0_0 l0_1 a1_0 l1_1 = some (r1, r2)) :
  Calls Try.prog 32 #[.agg #[.int .i64 a0_0, .slice A0_1 l0_1.length c0_1], .agg #[.int .i64 a1_0, .slice A1_1 l1_1.length c1_1]] w fun e w' => ∃ v0_ : Value, e = .returned (.tuple #[v0_, .bool r2]) ∧ Kd.R (Kd.int .i64) 2 w' w.heap.size (fun _ => True) v0_ r1 ∧ Below w.heap.size w w' := by
 have hu28 := Try.underlying28
 have HR0_1 := Aside0.mk hr0_1
 have HC0_1 := Aside0.mk hc0_1
 clear hr0_1 hc0_1
 have HR1_1 := Aside0.mk hr1_1
 have HC1_1 := Aside0.mk hc1_1
 clear hr1_1 hc1_1
 have HB := Aside0.mk (Below.refl w.heap.size w)
 have H : (if a0_0 = a1_0 then ((spec_l01Adjacency.f k a0_0 l0_1).bind fun t103 => ((spec_l01Adjacency.f k a1_0 l1_1).bind fun t106 => ((spec_l08Count.f k t103 t106 (([] : List Int)) false).bind fun bt112 => (some (bt112.2, decide (bt112.1 > 0)))))) else (some (([] : List Int), false))) = some (r1, r2) := h
 clear h
 by_cases c3 : a0_0 = a1_0
 rotate_left
 ·rw [if_neg c3] at H
  have c3b0 : (a0_0 == a1_0) = false := beq_eq_false_iff_ne.mpr c3
  have c3b1 : (a0_0 != a1_0) = true := bne_iff_ne.mpr c3
  simp only [Option.some.injEq, Prod.mk.injEq] at H
  obtain ⟨rfl, rfl⟩ := H
  go_enter Try.func32, Try.ntmps32
  go_wp2_with (first | ((with_reducible refine w5z (N := 2) rfl ?_); refine w7z ?hg (N := 2) ?hd (cs := #[.int .i64 a0_0, .slice A0_1 l0_1.length c0_1]) (t := 28) ?hr ?_; (case hd => rfl); (case hg => rfl); (case hr => first | (go_simp; done) | (go_simp; rfl)); intro gb101 hg w22 hbox hb; have n0_ := Aside0.mk (w3z (z2_) hb); have n1_ := Aside0.mk (hbox); have n2_ := Aside0.mk ((by rw [hg]; exact (w2z (z2_)) : w.heap.size ≤ gb101)); have n3_ := Aside0.mk ((by rw [hg]; exact (w2z (z2_)) : w.heap.size ≤ gb101)); clear HB; have HB := n0_; have BK101 := n1_; have GW101 := n2_; have GE101 := n3_; clear n0_ n1_ n2_ n3_; clear hb hbox hg) | ((with_reducible refine w5z (N := 3) rfl ?_); refine w7z ?hg (N := 3) ?hd (cs := #[.int .i64 a1_0, .slice A1_1 l1_1.length c1_1]) (t := 28) ?hr ?_; (case hd => rfl); (case hg => rfl); (case hr => first | (go_simp; done) | (go_simp; rfl)); intro gb102 hg w23 hbox hb; have n0_ := Aside0.mk (w4z (g := gb101) (o := .cells #[.int .i64 a0_0, .slice A0_1 l0_1.length c0_1] 28 (0, 0)) (z1_) hb); have n1_ := Aside0.mk (w3z (z5_) hb); have n2_ := Aside0.mk (hbox); have n3_ := Aside0.mk ((by rw [hg]; exact (w2z (z5_)) : w.heap.size ≤ gb102)); have n4_ := Aside0.mk ((by rw [hg]; exact (w2z (z5_)) : w.heap.size ≤ gb102)); have n5_ := Aside0.mk ((by rw [hg]; exact Nat.ne_of_lt (blk_lt (g := gb101) (o := .cells #[.int .i64 a0_0, .slice A0_1 l0_1.length c0_1] 28 (0, 0)) (z1_)) : gb101 ≠ gb102)); have n6_ := Aside0.mk ((by rw [hg]; exact Nat.ne_of_gt (blk_lt (g := gb101) (o := .cells #[.int .i64 a0_0, .slice A0_1 l0_1.length c0_1] 28 (0, 0)) (z1_)) : gb102 ≠ gb101)); clear BK101; clear HB; have BK101 := n0_; have HB := n1_; have BK102 := n2_; have GW102 := n3_; have GE102 := n4_; have NB101_102 := n5_; have NB102_101 := n6_; clear n0_ n1_ n2_ n3_ n4_ n5_ n6_; clear hb hbox hg; have hnb24 := NB101_102.out; have hnc24 := NB102_101.out; have hcz25_0 : w23.cell? ⟨gb101, 0, none⟩ = some (.int .i64 a0_0) := (w0z BK101.out 0).trans rfl; have hcz25_1 : w23.cell? ⟨gb101, 1, none⟩ = some (.slice A0_1 l0_1.length c0_1) := (w0z BK101.out 1).trans rfl; have hfz25_0 := w1z BK101.out 0; have hfz25_1 := w1z BK101.out 1; have hcz26_0 : w23.cell? ⟨gb102, 0, none⟩ = some (.int .i64 a1_0) := (w0z BK102.out 0).trans rfl; have hcz26_1 : w23.cell? ⟨gb102, 1, none⟩ = some (.slice A1_1 l1_1.length c1_1) := (w0z BK102.out 1).trans rfl; have hfz26_0 := w1z BK102.out 0; have hfz26_1 := w1z BK102.out 1))
  go_ret2
  exact ⟨_, by first | rfl | (simp [errW_none, errW_some] <;> rfl) | (simp [*, errW_none, errW_some] <;> rfl), by first | exact Kd.R_nil _ _ _ _ _ | exact Kd.N_nil _ _ _ _ _ | exact Kd.V_nil _ _ _ _ _ | exact Kd.Q_nil _ _ _ _ _ | exact Kd.S_nil _ _ _ _ _, z4_⟩
 rw [if_pos c3] at H
 have c3b0 : (a0_0 == a1_0) = true := beq_iff_eq.mpr c3
 have c3b1 : (a0_0 != a1_0) = false := bne_eq_false_iff_eq.mpr c3
 clear c3
 replace H := Option.bind_eq_some_iff.mp H
 obtain ⟨t103, A40, H⟩ := H
 replace H : ((spec_l01Adjacency.f k a1_0 l1_1).bind fun t106 => ((spec_l08Count.f k t103 t106 (([] : List Int)) false).bind fun bt112 => (some (bt112.2, decide (bt112.1 > 0))))) = some (r1, r2) := H
 have A4 := Aside0.mk A40
 clear A40
 replace H := Option.bind_eq_some_iff.mp H
 obtain ⟨t106, A50, H⟩ := H
 replace H : ((spec_l08Count.f k t103 t106 (([] : List Int)) false).bind fun bt112 => (some (bt112.2, decide (bt112.1 > 0)))) = some (r1, r2) := H
 have A5 := Aside0.mk A50
 clear A50
 obtain ⟨y109, hy109⟩ : ∃ y_ : List Int, y_ = (([] : List Int)) := ⟨_, rfl⟩
 replace H : ((spec_l08Count.f k t103 t106 y109 false).bind fun bt112 => (some (bt112.2, decide (bt112.1 > 0)))) = some (r1, r2) := by first | (rw [hy109]; with_reducible exact H) | (have H2_ := (Option.bind_some _ _).symm.trans H; rw [hy109]; with_reducible exact H2_) | (have H2_ := (Option.bind_some _ _).symm.trans H; with_reducible exact H2_) | with_reducible exact H | (rw [hy109]; exact H) | exact H
 have Ny109 := Aside0.mk hy109
 clear hy109
 replace H := Option.bind_eq_some_iff.mp H
 obtain ⟨⟨t112, t113⟩, A60, H⟩ := H
 replace H : (some (t113, decide (t112 > 0))) = some (r1, r2) := H
 have A6 := Aside0.mk A60
 clear A60
 simp only [Option.some.injEq, Prod.mk.injEq] at H
 obtain ⟨rfl, rfl⟩ := H
 go_enter Try.func32, Try.ntmps32
 try go_wp2_with (first | ((with_reducible refine w5z (N := 2) rfl ?_); refine w7z ?hg (N := 2) ?hd (cs := #[.int .i64 a0_0, .slice A0_1 l0_1.length c0_1]) (t := 28) ?hr ?_; (case hd => rfl); (case hg => rfl); (case hr => first | (go_simp; done) | (go_simp; rfl)); intro gb101 hg w7 hbox hb; have n0_ := Aside0.mk (w3z (z2_) hb); have n1_ := Aside0.mk (hbox); have n2_ := Aside0.mk ((by rw [hg]; exact (w2z (z2_)) : w.heap.size ≤ gb101)); have n3_ := Aside0.mk ((by rw [hg]; exact (w2z (z2_)) : w.heap.size ≤ gb101)); clear HB; have HB := n0_; have BK101 := n1_; have GW101 := n2_; have GE101 := n3_; clear n0_ n1_ n2_ n3_; clear hb hbox hg) | ((with_reducible refine w5z (N := 3) rfl ?_); refine w7z ?hg (N := 3) ?hd (cs := #[.int .i64 a1_0, .slice A1_1 l1_1.length c1_1]) (t := 28) ?hr ?_; (case hd => rfl); (case hg => rfl); (case hr => first | (go_simp; done) | (go_simp; rfl)); intro gb102 hg w8 hbox hb; have n0_ := Aside0.mk (w4z (g := gb101) (o := .cells #[.int .i64 a0_0, .slice A0_1 l0_1.length c0_1] 28 (0, 0)) (z1_) hb); have n1_ := Aside0.mk (w3z (z5_) hb); have n2_ := Aside0.mk (hbox); have n3_ := Aside0.mk ((by rw [hg]; exact (w2z (z5_)) : w.heap.size ≤ gb102)); have n4_ := Aside0.mk ((by rw [hg]; exact (w2z (z5_)) : w.heap.size ≤ gb102)); have n5_ := Aside0.mk ((by rw [hg]; exact Nat.ne_of_lt (blk_lt (g := gb101) (o := .cells #[.int .i64 a0_0, .slice A0_1 l0_1.length c0_1] 28 (0, 0)) (z1_)) : gb101 ≠ gb102)); have n6_ := Aside0.mk ((by rw [hg]; exact Nat.ne_of_gt (blk_lt (g := gb101) (o := .cells #[.int .i64 a0_0, .slice A0_1 l0_1.length c0_1] 28 (0, 0)) (z1_)) : gb102 ≠ gb101)); clear BK101; clear HB; have BK101 := n0_; have HB := n1_; have BK102 := n2_; have GW102 := n3_; have GE102 := n4_; have NB101_102 := n5_; have NB102_101 := n6_; clear n0_ n1_ n2_ n3_ n4_ n5_ n6_; clear hb hbox hg; have hnb9 := NB101_102.out; have hnc9 := NB102_101.out; have hcz10_0 : w8.cell? ⟨gb101, 0, none⟩ = some (.int .i64 a0_0) := (w0z BK101.out 0).trans rfl; have hcz10_1 : w8.cell? ⟨gb101, 1, none⟩ = some (.slice A0_1 l0_1.length c0_1) := (w0z BK101.out 1).trans rfl; have hfz10_0 := w1z BK101.out 0; have hfz10_1 := w1z BK101.out 1; have hcz11_0 : w8.cell? ⟨gb102, 0, none⟩ = some (.int .i64 a1_0) := (w0z BK102.out 0).trans rfl; have hcz11_1 : w8.cell? ⟨gb102, 1, none⟩ = some (.slice A1_1 l1_1.length c1_1) := (w0z BK102.out 1).trans rfl; have hfz11_0 := w1z BK102.out 0; have hfz11_1 := w1z BK102.out 1))
 have n0_ := Aside0.mk (blk_drew BK101.out)
 have n1_ := Aside0.mk (blk_drew BK102.out)
 have n2_ := Aside0.mk (below_drew1 HB.out)
 clear BK101
 clear BK102
 clear HB
 have BK101 := n0_
 have BK102 := n1_
 have HB := n2_
 clear n0_ n1_ n2_
 refine start_ (n := 11) (S := fun w' => w'.cell? ⟨gb101, 0, none⟩ = some (.int .i64 a0_0) ∧ w'.cell? ⟨gb101, 1, none⟩ = some (.slice A0_1 l0_1.length c0_1) ∧ w'.cell? ⟨gb102, 0, none⟩ = some (.int .i64 a1_0) ∧ w'.cell? ⟨gb102, 1, none⟩ = some (.slice A1_1 l1_1.length c1_1)) (ds := []) #[false, false, false, false, false, false, false, false, false, false, false] (by kernel_rfl) rfl rfl ⟨(w0z BK101.out 0).trans rfl, (w0z BK101.out 1).trans rfl, (w0z BK102.out 0).trans rfl, (w0z BK102.out 1).trans rfl⟩ (fun hHeld => ?_); refine with_tabW spec_l08Find.tab3 spec_l08Find.bits3 (fun HT_ HW_ => ?_)
 generalize w8.drew = w12 at BK101 BK102 HB hHeld ⊢
 refine take_ (i := 0) (N := some 14) (v := ?_) (a' := ?_) #[true, false, false, false, false, false, false, false, false, false, false] rfl rfl (take_ofW HT_.out HW_.out (by kernel_rfl)) (fun _ _ _ h => h) (Or.inl ⟨by rfl, ?_⟩) hHeld ?_ ?_
 rotate_left
 ·rintro w' ⟨s0, s1, s2, s3⟩
  go_simp
  with_reducible rfl
 rotate_left
 ·simp only [Act.put, List.setIfInBounds_toArray, List.set_cons_zero, List.set_cons_succ, i64_w, i32_w]
  rfl
 refine take_ (i := 2) (N := some 16) (v := ?_) (a' := ?_) #[true, false, true, false, false, false, false, false, false, false, false] rfl rfl (take_ofW HT_.out HW_.out (by kernel_rfl)) (fun _ _ _ h => h) (Or.inl ⟨by rfl, ?_⟩) hHeld ?_ ?_
 rotate_left
 ·rintro w' ⟨s0, s1, s2, s3⟩
  go_simp
  with_reducible rfl
 rotate_left
 ·simp only [Act.put, List.setIfInBounds_toArray, List.set_cons_zero, List.set_cons_succ, i64_w, i32_w]
  rfl
 refine join_ (σ := Value × Value × Value) 6 #[true, true, true, true, true, false, false, false, false, false, false] (fun s_ => [(15, s_.1), (17, s_.2.1), (18, s_.2.2)]) (fun s_ w' => (w'.cell? ⟨gb101, 0, none⟩ = some (.int .i64 a0_0) ∧ w'.cell? ⟨gb101, 1, none⟩ = some (.slice A0_1 l0_1.length c0_1) ∧ w'.cell? ⟨gb102, 0, none⟩ = some (.int .i64 a1_0) ∧ w'.cell? ⟨gb102, 1, none⟩ = some (.slice A1_1 l1_1.length c1_1)) ∧ (Kd.S (Kd.slice 2 (Kd.int .i64)) 32 w' w.heap.size (fun k_ => some k_ ≠ (s_.2.1 : Value).ownBlock ∧ some k_ ≠ (s_.2.2 : Value).ownBlock) s_.1 t103) ∧ (Kd.S (Kd.slice 2 (Kd.int .i64)) 32 w' w.heap.size (fun k_ => some k_ ≠ (s_.1 : Value).ownBlock ∧ some k_ ≠ (s_.2.2 : Value).ownBlock) s_.2.1 t106) ∧ (Kd.R (Kd.int .i64) 2 w' w.heap.size (fun _ => True) s_.2.2 y109) ∧ (w'.heap[gb101]? = some (.cells #[.int .i64 a0_0, .slice A0_1 l0_1.length c0_1] 28 (0, 0))) ∧ (w'.heap[gb102]? = some (.cells #[.int .i64 a1_0, .slice A1_1 l1_1.length c1_1] 28 (0, 0))) ∧ (Below w.heap.size w w')) ?_ ?_
 rotate_left
 ·intro hCont
  refine two_ (i := 1) (j := 4) (Ni := some 15) (Nj := some 18) #[true, true, true, false, false, false, false, false, false, false, false] #[true, false, true, false, true, false, false, false, false, false, false] rfl rfl rfl rfl (two_of HT_.out (by kernel_rfl)) (by decide) (by decide) (fun K hK => ?_) (fun K hK => ?_)
  ·skip
   refine goes_ Try.func39 (by kernel_rfl) rfl #[.agg #[.int .i64 a0_0, .slice A0_1 l0_1.length c0_1]] (by rfl) rfl rfl (z6_) ?_
   with_reducible refine (spec_l01Adjacency.calls k a0_0 _ _ l0_1 t103 _ ?side1 ?side2 A4.out).mono ?_
   (case side1 => repeat (first | exact (Kd.C_below HR0_1.out HB.out) | (with_reducible refine Kd.C_alloc ?_ _) | (with_reducible refine Kd.C_drewN ?_ _) | (with_reducible refine Kd.C_drew ?_)))
   (case side2 => exact HC0_1.out)
   rintro e w13 ⟨v104, rfl, ho0, hb⟩
   refine ⟨_, rfl, ?_⟩
   have n0_ := Aside0.mk (Kd.S_lower ho0 (w2z (z4_)))
   have n1_ := Aside0.mk (w4z (g := gb101) (o := .cells #[.int .i64 a0_0, .slice A0_1 l0_1.length c0_1] 28 (0, 0)) (z1_) hb)
   have n2_ := Aside0.mk (w4z (g := gb102) (o := .cells #[.int .i64 a1_0, .slice A1_1 l1_1.length c1_1] 28 (0, 0)) (z3_) hb)
   have n3_ := Aside0.mk (w3z (z4_) hb)
   clear BK101
   clear BK102
   clear HB
   have HO105 := n0_
   have BK101 := n1_
   have BK102 := n2_
   have HB := n3_
   clear n0_ n1_ n2_ n3_
   (try clear hb)
   (try clear hb2)
   (try clear hk)
   (try clear hi)
   (try clear ho0)
   refine hK.out _ _ ⟨(w0z BK101.out 0).trans rfl, (w0z BK101.out 1).trans rfl, (w0z BK102.out 0).trans rfl, (w0z BK102.out 1).trans rfl⟩ (fun hHeld => ?_)
   clear hK K
   refine norm_ (a' := ?_) ?_ ?_
   rotate_left
   ·show Act.put _ (some 15) _ = _
    simp only [Act.put, List.setIfInBounds_toArray, List.set_cons_zero, List.set_cons_succ, i64_w, i32_w]
    rfl
   refine two_ (i := 3) (j := 4) (Ni := some 17) (Nj := some 18) #[true, true, true, true, false, false, false, false, false, false, false] #[true, true, true, false, true, false, false, false, false, false, false] rfl rfl rfl rfl (two_of HT_.out (by kernel_rfl)) (by decide) (by decide) (fun K hK => ?_) (fun K hK => ?_)
   ·skip
    refine goes_ Try.func39 (by kernel_rfl) rfl #[.agg #[.int .i64 a1_0, .slice A1_1 l1_1.length c1_1]] (by rfl) rfl rfl (z6_) ?_
    with_reducible refine (spec_l01Adjacency.calls k a1_0 _ _ l1_1 t106 _ ?side1 ?side2 A5.out).mono ?_
    (case side1 => repeat (first | exact (Kd.C_below HR1_1.out HB.out) | (with_reducible refine Kd.C_alloc ?_ _) | (with_reducible refine Kd.C_drewN ?_ _) | (with_reducible refine Kd.C_drew ?_)))
    (case side2 => exact HC1_1.out)
    rintro e w14 ⟨v107, rfl, ho0, hb⟩
    refine ⟨_, rfl, ?_⟩
    have n0_ := Aside0.mk (Kd.S_elder' (z7_) (Kd.S_base ho0) hb)
    have n1_ := Aside0.mk (Kd.S_lower (Kd.S_new' ho0 (Kd.S_lt (z7_))) (w2z (z4_)))
    have n2_ := Aside0.mk (w4z (g := gb101) (o := .cells #[.int .i64 a0_0, .slice A0_1 l0_1.length c0_1] 28 (0, 0)) (z1_) hb)
    have n3_ := Aside0.mk (w4z (g := gb102) (o := .cells #[.int .i64 a1_0, .slice A1_1 l1_1.length c1_1] 28 (0, 0)) (z3_) hb)
    have n4_ := Aside0.mk (w3z (z4_) hb)
    clear HO105
    clear BK101
    clear BK102
    clear HB
    have HO105 := n0_
    have HO108 := n1_
    have BK101 := n2_
    have BK102 := n3_
    have HB := n4_
    clear n0_ n1_ n2_ n3_ n4_
    (try clear hb)
    (try clear hb2)
    (try clear hk)
    (try clear hi)
    (try clear ho0)
    refine hK.out _ _ ⟨(w0z BK101.out 0).trans rfl, (w0z BK101.out 1).trans rfl, (w0z BK102.out 0).trans rfl, (w0z BK102.out 1).trans rfl⟩ (fun hHeld => ?_)
    clear hK K
    refine norm_ (a' := ?_) ?_ ?_
    rotate_left
    ·show Act.put _ (some 17) _ = _
     simp only [Act.put, List.setIfInBounds_toArray, List.set_cons_zero, List.set_cons_succ, i64_w, i32_w]
     rfl
    refine one_ (i := 4) (N := some 18) #[true, true, true, true, true, false, false, false, false, false, false] rfl rfl (one_of HT_.out (by kernel_rfl)) (by decide) (fun K hK => ?_)
    refine Kd.R_lit_step (Kd.int .i64) _ 2 ?hg (N := 18) ?hd (xs := ([] : List Int)) (inner := []) (ok := fun _ => True) (okp := fun _ => True) ?hr ?hp (fun _ hk => hk) trivial (Below.refl _ _) (Nat.le_refl _) (by simp) ?_; (case hd => rfl); (case hg => rfl); (case hr => first | (go_simp; done) | (go_simp; rfl)); (case hp => exact (Reps.none _ _))
    intro v110 w15 ho16 hb hg_ hnew_
    clear hg_ hnew_
    (first | rw [← Ny109.out] at ho16 | (simp only [Int.reduceToNat] at ho16; rw [← Ny109.out] at ho16))
    have n0_ := Aside0.mk (Kd.S_elder' (z7_) (Kd.R_base ho16) hb)
    have n1_ := Aside0.mk (Kd.S_elder' (z13_) (Kd.R_base ho16) hb)
    have n2_ := Aside0.mk (Kd.R_lower ho16 (w2z (z4_)))
    have n3_ := Aside0.mk (w4z (g := gb101) (o := .cells #[.int .i64 a0_0, .slice A0_1 l0_1.length c0_1] 28 (0, 0)) (z1_) hb)
    have n4_ := Aside0.mk (w4z (g := gb102) (o := .cells #[.int .i64 a1_0, .slice A1_1 l1_1.length c1_1] 28 (0, 0)) (z3_) hb)
    have n5_ := Aside0.mk (w3z (z4_) hb)
    clear HO105
    clear HO108
    clear BK101
    clear BK102
    clear HB
    have HO105 := n0_
    have HO108 := n1_
    have HO111 := n2_
    have BK101 := n3_
    have BK102 := n4_
    have HB := n5_
    clear n0_ n1_ n2_ n3_ n4_ n5_
    clear hb ho16
    refine hK.out _ _ ⟨(w0z BK101.out 0).trans rfl, (w0z BK101.out 1).trans rfl, (w0z BK102.out 0).trans rfl, (w0z BK102.out 1).trans rfl⟩ (fun hHeld => ?_)
    clear hK K
    refine norm_ (a' := ?_) ?_ ?_
    rotate_left
    ·show Act.put _ (some 18) _ = _
     simp only [Act.put, List.setIfInBounds_toArray, List.set_cons_zero, List.set_cons_succ, i64_w, i32_w]
     rfl
    exact norm_ (by simp only [putAll, Act.put, List.setIfInBounds_toArray, List.set_cons_zero, List.set_cons_succ]) (hCont (v104, v107, v110) _ ⟨hHeld, (by (with_reducible repeat (first | apply Kd.S_alloc | apply Kd.S_drewN | apply Kd.S_drew)); exact Kd.S_mono HO105.out (fun _ hk => ⟨hk.1.2, hk.2⟩)), (by (with_reducible repeat (first | apply Kd.S_alloc | apply Kd.S_drewN | apply Kd.S_drew)); exact Kd.S_mono HO108.out (fun _ hk => ⟨hk.1.2, hk.2⟩)), (z14_), (z1_), (z3_), (z4_)⟩)
   ·skip
    refine Kd.R_lit_step (Kd.int .i64) _ 2 ?hg (N := 18) ?hd (xs := ([] : List Int)) (inner := []) (ok := fun _ => True) (okp := fun _ => True) ?hr ?hp (fun _ hk => hk) trivial (Below.refl _ _) (Nat.le_refl _) (by simp) ?_; (case hd => rfl); (case hg => rfl); (case hr => first | (go_simp; done) | (go_simp; rfl)); (case hp => exact (Reps.none _ _))
    intro v110 w14 ho15 hb hg_ hnew_
    clear hg_ hnew_
    (first | rw [← Ny109.out] at ho15 | (simp only [Int.reduceToNat] at ho15; rw [← Ny109.out] at ho15))
    have n0_ := Aside0.mk (Kd.S_elder' (z7_) (Kd.R_base ho15) hb)
    have n1_ := Aside0.mk (Kd.R_lower ho15 (w2z (z4_)))
    have n2_ := Aside0.mk (w4z (g := gb101) (o := .cells #[.int .i64 a0_0, .slice A0_1 l0_1.length c0_1] 28 (0, 0)) (z1_) hb)
    have n3_ := Aside0.mk (w4z (g := gb102) (o := .cells #[.int .i64 a1_0, .slice A1_1 l1_1.length c1_1] 28 (0, 0)) (z3_) hb)
    have n4_ := Aside0.mk (w3z (z4_) hb)
    clear HO105
    clear BK101
    clear BK102
    clear HB
    have HO105 := n0_
    have HO111 := n1_
    have BK101 := n2_
    have BK102 := n3_
    have HB := n4_
    clear n0_ n1_ n2_ n3_ n4_
    clear hb ho15
    refine hK.out _ _ ⟨(w0z BK101.out 0).trans rfl, (w0z BK101.out 1).trans rfl, (w0z BK102.out 0).trans rfl, (w0z BK102.out 1).trans rfl⟩ (fun hHeld => ?_)
    clear hK K
    refine norm_ (a' := ?_) ?_ ?_
    rotate_left
    ·show Act.put _ (some 18) _ = _
     simp only [Act.put, List.setIfInBounds_toArray, List.set_cons_zero, List.set_cons_succ, i64_w, i32_w]
     rfl
    refine one_ (i := 3) (N := some 17) #[true, true, true, true, true, false, false, false, false, false, false] rfl rfl (one_of HT_.out (by kernel_rfl)) (by decide) (fun K hK => ?_)
    refine goes_ Try.func39 (by kernel_rfl) rfl #[.agg #[.int .i64 a1_0, .slice A1_1 l1_1.length c1_1]] (by rfl) rfl rfl (z6_) ?_
    with_reducible refine (spec_l01Adjacency.calls k a1_0 _ _ l1_1 t106 _ ?side1 ?side2 A5.out).mono ?_
    (case side1 => repeat (first | exact (Kd.C_below HR1_1.out HB.out) | (with_reducible refine Kd.C_alloc ?_ _) | (with_reducible refine Kd.C_drewN ?_ _) | (with_reducible refine Kd.C_drew ?_)))
    (case side2 => exact HC1_1.out)
    rintro e w16 ⟨v107, rfl, ho0, hb⟩
    refine ⟨_, rfl, ?_⟩
    have n0_ := Aside0.mk (Kd.S_elder' (z7_) (Kd.S_base ho0) hb)
    have n1_ := Aside0.mk (Kd.R_below (z14_) hb)
    have n2_ := Aside0.mk (Kd.S_lower (Kd.S_new' (Kd.S_new' ho0 (Kd.S_lt (z7_))) (Kd.R_lt (z14_))) (w2z (z4_)))
    have n3_ := Aside0.mk (w4z (g := gb101) (o := .cells #[.int .i64 a0_0, .slice A0_1 l0_1.length c0_1] 28 (0, 0)) (z1_) hb)
    have n4_ := Aside0.mk (w4z (g := gb102) (o := .cells #[.int .i64 a1_0, .slice A1_1 l1_1.length c1_1] 28 (0, 0)) (z3_) hb)
    have n5_ := Aside0.mk (w3z (z4_) hb)
    clear HO105
    clear HO111
    clear BK101
    clear BK102
    clear HB
    have HO105 := n0_
    have HO111 := n1_
    have HO108 := n2_
    have BK101 := n3_
    have BK102 := n4_
    have HB := n5_
    clear n0_ n1_ n2_ n3_ n4_ n5_
    (try clear hb)
    (try clear hb2)
    (try clear hk)
    (try clear hi)
    (try clear ho0)
    refine hK.out _ _ ⟨(w0z BK101.out 0).trans rfl, (w0z BK101.out 1).trans rfl, (w0z BK102.out 0).trans rfl, (w0z BK102.out 1).trans rfl⟩ (fun hHeld => ?_)
    clear hK K
    refine norm_ (a' := ?_) ?_ ?_
    rotate_left
    ·show Act.put _ (some 17) _ = _
     simp only [Act.put, List.setIfInBounds_toArray, List.set_cons_zero, List.set_cons_succ, i64_w, i32_w]
     rfl
    exact norm_ (by simp only [putAll, Act.put, List.setIfInBounds_toArray, List.set_cons_zero, List.set_cons_succ]) (hCont (v104, v107, v110) _ ⟨hHeld, (by (with_reducible repeat (first | apply Kd.S_alloc | apply Kd.S_drewN | apply Kd.S_drew)); exact Kd.S_mono HO105.out (fun _ hk => ⟨hk.2, hk.1.2⟩)), (by (with_reducible repeat (first | apply Kd.S_alloc | apply Kd.S_drewN | apply Kd.S_drew)); exact Kd.S_mono HO108.out (fun _ hk => ⟨hk.1.2, hk.2⟩)), (z14_), (z1_), (z3_), (z4_)⟩)
  ·skip
   refine Kd.R_lit_step (Kd.int .i64) _ 2 ?hg (N := 18) ?hd (xs := ([] : List Int)) (inner := []) (ok := fun _ => True) (okp := fun _ => True) ?hr ?hp (fun _ hk => hk) trivial (Below.refl _ _) (Nat.le_refl _) (by simp) ?_; (case hd => rfl); (case hg => rfl); (case hr => first | (go_simp; done) | (go_simp; rfl)); (case hp => exact (Reps.none _ _))
   intro v110 w13 ho14 hb hg_ hnew_
   clear hg_ hnew_
   (first | rw [← Ny109.out] at ho14 | (simp only [Int.reduceToNat] at ho14; rw [← Ny109.out] at ho14))
   have n0_ := Aside0.mk (Kd.R_lower ho14 (w2z (z4_)))
   have n1_ := Aside0.mk (w4z (g := gb101) (o := .cells #[.int .i64 a0_0, .slice A0_1 l0_1.length c0_1] 28 (0, 0)) (z1_) hb)
   have n2_ := Aside0.mk (w4z (g := gb102) (o := .cells #[.int .i64 a1_0, .slice A1_1 l1_1.length c1_1] 28 (0, 0)) (z3_) hb)
   have n3_ := Aside0.mk (w3z (z4_) hb)
   clear BK101
   clear BK102
   clear HB
   have HO111 := n0_
   have BK101 := n1_
   have BK102 := n2_
   have HB := n3_
   clear n0_ n1_ n2_ n3_
   clear hb ho14
   refine hK.out _ _ ⟨(w0z BK101.out 0).trans rfl, (w0z BK101.out 1).trans rfl, (w0z BK102.out 0).trans rfl, (w0z BK102.out 1).trans rfl⟩ (fun hHeld => ?_)
   clear hK K
   refine norm_ (a' := ?_) ?_ ?_
   rotate_left
   ·show Act.put _ (some 18) _ = _
    simp only [Act.put, List.setIfInBounds_toArray, List.set_cons_zero, List.set_cons_succ, i64_w, i32_w]
    rfl
   refine one_ (i := 1) (N := some 15) #[true, true, true, false, true, false, false, false, false, false, false] rfl rfl (one_of HT_.out (by kernel_rfl)) (by decide) (fun K hK => ?_)
   refine goes_ Try.func39 (by kernel_rfl) rfl #[.agg #[.int .i64 a0_0, .slice A0_1 l0_1.length c0_1]] (by rfl) rfl rfl (z6_) ?_
   with_reducible refine (spec_l01Adjacency.calls k a0_0 _ _ l0_1 t103 _ ?side1 ?side2 A4.out).mono ?_
   (case side1 => repeat (first | exact (Kd.C_below HR0_1.out HB.out) | (with_reducible refine Kd.C_alloc ?_ _) | (with_reducible refine Kd.C_drewN ?_ _) | (with_reducible refine Kd.C_drew ?_)))
   (case side2 => exact HC0_1.out)
   rintro e w15 ⟨v104, rfl, ho0, hb⟩
   refine ⟨_, rfl, ?_⟩
   have n0_ := Aside0.mk (Kd.R_below (z14_) hb)
   have n1_ := Aside0.mk (Kd.S_lower (Kd.S_new' ho0 (Kd.R_lt (z14_))) (w2z (z4_)))
   have n2_ := Aside0.mk (w4z (g := gb101) (o := .cells #[.int .i64 a0_0, .slice A0_1 l0_1.length c0_1] 28 (0, 0)) (z1_) hb)
   have n3_ := Aside0.mk (w4z (g := gb102) (o := .cells #[.int .i64 a1_0, .slice A1_1 l1_1.length c1_1] 28 (0, 0)) (z3_) hb)
   have n4_ := Aside0.mk (w3z (z4_) hb)
   clear HO111
   clear BK101
   clear BK102
   clear HB
   have HO111 := n0_
   have HO105 := n1_
   have BK101 := n2_
   have BK102 := n3_
   have HB := n4_
   clear n0_ n1_ n2_ n3_ n4_
   (try clear hb)
   (try clear hb2)
   (try clear hk)
   (try clear hi)
   (try clear ho0)
   refine hK.out _ _ ⟨(w0z BK101.out 0).trans rfl, (w0z BK101.out 1).trans rfl, (w0z BK102.out 0).trans rfl, (w0z BK102.out 1).trans rfl⟩ (fun hHeld => ?_)
   clear hK K
   refine norm_ (a' := ?_) ?_ ?_
   rotate_left
   ·show Act.put _ (some 15) _ = _
    simp only [Act.put, List.setIfInBounds_toArray, List.set_cons_zero, List.set_cons_succ, i64_w, i32_w]
    rfl
   refine one_ (i := 3) (N := some 17) #[true, true, true, true, true, false, false, false, false, false, false] rfl rfl (one_of HT_.out (by kernel_rfl)) (by decide) (fun K hK => ?_)
   refine goes_ Try.func39 (by kernel_rfl) rfl #[.agg #[.int .i64 a1_0, .slice A1_1 l1_1.length c1_1]] (by rfl) rfl rfl (z6_) ?_
   with_reducible refine (spec_l01Adjacency.calls k a1_0 _ _ l1_1 t106 _ ?side1 ?side2 A5.out).mono ?_
   (case side1 => repeat (first | exact (Kd.C_below HR1_1.out HB.out) | (with_reducible refine Kd.C_alloc ?_ _) | (with_reducible refine Kd.C_drewN ?_ _) | (with_reducible refine Kd.C_drew ?_)))
   (case side2 => exact HC1_1.out)
   rintro e w16 ⟨v107, rfl, ho0, hb⟩
   refine ⟨_, rfl, ?_⟩
   have n0_ := Aside0.mk (Kd.R_below (z14_) hb)
   have n1_ := Aside0.mk (Kd.S_elder' (z7_) (Kd.S_base ho0) hb)
   have n2_ := Aside0.mk (Kd.S_lower (Kd.S_new' (Kd.S_new' ho0 (Kd.R_lt (z14_))) (Kd.S_lt (z7_))) (w2z (z4_)))
   have n3_ := Aside0.mk (w4z (g := gb101) (o := .cells #[.int .i64 a0_0, .slice A0_1 l0_1.length c0_1] 28 (0, 0)) (z1_) hb)
   have n4_ := Aside0.mk (w4z (g := gb102) (o := .cells #[.int .i64 a1_0, .slice A1_1 l1_1.length c1_1] 28 (0, 0)) (z3_) hb)
   have n5_ := Aside0.mk (w3z (z4_) hb)
   clear HO111
   clear HO105
   clear BK101
   clear BK102
   clear HB
   have HO111 := n0_
   have HO105 := n1_
   have HO108 := n2_
   have BK101 := n3_
   have BK102 := n4_
   have HB := n5_
   clear n0_ n1_ n2_ n3_ n4_ n5_
   (try clear hb)
   (try clear hb2)
   (try clear hk)
   (try clear hi)
   (try clear ho0)
   refine hK.out _ _ ⟨(w0z BK101.out 0).trans rfl, (w0z BK101.out 1).trans rfl, (w0z BK102.out 0).trans rfl, (w0z BK102.out 1).trans rfl⟩ (fun hHeld => ?_)
   clear hK K
   refine norm_ (a' := ?_) ?_ ?_
   rotate_left
   ·show Act.put _ (some 17) _ = _
    simp only [Act.put, List.setIfInBounds_toArray, List.set_cons_zero, List.set_cons_succ, i64_w, i32_w]
    rfl
   exact norm_ (by simp only [putAll, Act.put, List.setIfInBounds_toArray, List.set_cons_zero, List.set_cons_succ]) (hCont (v104, v107, v110) _ ⟨hHeld, (by (with_reducible repeat (first | apply Kd.S_alloc | apply Kd.S_drewN | apply Kd.S_drew)); exact Kd.S_mono HO105.out (fun _ hk => ⟨hk.2, hk.1.2⟩)), (by (with_reducible repeat (first | apply Kd.S_alloc | apply Kd.S_drewN | apply Kd.S_drew)); exact Kd.S_mono HO108.out (fun _ hk => ⟨hk.2, hk.1.2⟩)), (z14_), (z1_), (z3_), (z4_)⟩)
 rintro ⟨v104, v107, v110⟩ w17 ⟨hS_, h0_, h1_, h2_, h3_, h4_, h5_⟩
 have n0_ : Aside0 (Kd.S (Kd.slice 2 (Kd.int .i64)) 32 w17 w.heap.size (fun k_ => some k_ ≠ (v107 : Value).ownBlock ∧ some k_ ≠ (v110 : Value).ownBlock) v104 t103) := ⟨h0_⟩
 have n1_ : Aside0 (Kd.S (Kd.slice 2 (Kd.int .i64)) 32 w17 w.heap.size (fun k_ => some k_ ≠ (v104 : Value).ownBlock ∧ some k_ ≠ (v110 : Value).ownBlock) v107 t106) := ⟨h1_⟩
 have n2_ : Aside0 (Kd.R (Kd.int .i64) 2 w17 w.heap.size (fun _ => True) v110 y109) := ⟨h2_⟩
 have n3_ : Aside0 (w17.heap[gb101]? = some (.cells #[.int .i64 a0_0, .slice A0_1 l0_1.length c0_1] 28 (0, 0))) := ⟨h3_⟩
 have n4_ : Aside0 (w17.heap[gb102]? = some (.cells #[.int .i64 a1_0, .slice A1_1 l1_1.length c1_1] 28 (0, 0))) := ⟨h4_⟩
 have n5_ : Aside0 (Below w.heap.size w w17) := ⟨h5_⟩
 clear BK101
 clear BK102
 clear HB
 clear h0_ h1_ h2_ h3_ h4_ h5_
 have HO105 := n0_
 have HO108 := n1_
 have HO111 := n2_
 have BK101 := n3_
 have BK102 := n4_
 have HB := n5_
 clear n0_ n1_ n2_ n3_ n4_ n5_
 have hHeld : w17.cell? ⟨gb101, 0, none⟩ = some (.int .i64 a0_0) ∧ w17.cell? ⟨gb101, 1, none⟩ = some (.slice A0_1 l0_1.length c0_1) ∧ w17.cell? ⟨gb102, 0, none⟩ = some (.int .i64 a1_0) ∧ w17.cell? ⟨gb102, 1, none⟩ = some (.slice A1_1 l1_1.length c1_1) := hS_
 obtain ⟨Ao18, co18, eo18⟩ := Kd.S_slice HO105.out
 (first | subst eo18 | (injection eo18 with f1_ f2_ f3_; have f4_ := f1_.symm; have f5_ := f3_.symm; clear f1_ f2_ f3_; subst f4_; subst f5_))
 obtain ⟨Ao19, co19, eo19⟩ := Kd.S_slice HO108.out
 (first | subst eo19 | (injection eo19 with f1_ f2_ f3_; have f4_ := f1_.symm; have f5_ := f3_.symm; clear f1_ f2_ f3_; subst f4_; subst f5_))
 obtain ⟨Ao20, co20, eo20⟩ := Kd.R_slice HO111.out
 (first | subst eo20 | (injection eo20 with f1_ f2_ f3_; have f4_ := f1_.symm; have f5_ := f3_.symm; clear f1_ f2_ f3_; subst f4_; subst f5_))
 refine norm_ (a' := ?_) ?_ ?_
 rotate_left
 ·simp only [putAll, Act.put, List.setIfInBounds_toArray, List.set_cons_zero, List.set_cons_succ]
  rfl
 refine one_ (i := 5) (N := some 19) #[true, true, true, true, true, true, false, false, false, false, false] rfl rfl (one_of HT_.out (by kernel_rfl)) (by decide) (fun K hK => ?_)
 refine goes_ Try.func70 (by kernel_rfl) rfl #[.slice Ao18 t103.length co18, .slice Ao19 t106.length co19, .slice Ao20 y109.length co20, .bool false] (by rfl) rfl rfl (z6_) ?_
 with_reducible refine (spec_l08Count.calls k _ _ t103 _ _ t106 (fun k_ => some k_ = (.slice Ao20 y109.length co20 : Value).ownBlock) (.slice Ao20 y109.length co20) y109 false t112 t113 w _ ?side1 ?side2 ?side3 ?side4 ?side5 ?side6 A6.out).mono ?_
 (case side1 => repeat (first | (with_reducible first | exact HB.out | apply below_alloc | apply pw_below_drewN | apply below_drew1 | refine below_set ?_ GE101.out | refine below_set ?_ GE102.out) | exact HB.out))
 (case side2 => exact Kd.C_kept_own ((Kd.S_R HO105.out)) (fun k_ hk_ hs_ => (hk_.2) hs_))
 (case side3 => exact (Kd.S_reads' HO105.out).2.1)
 (case side4 => exact Kd.C_kept_own ((Kd.S_R HO108.out)) (fun k_ hk_ hs_ => (hk_.2) hs_))
 (case side5 => exact (Kd.S_reads' HO108.out).2.1)
 (case side6 => exact Kd.R_tight rfl HO111.out)
 rintro e w21 ⟨v114, rfl, ho0, hb, hkp⟩
 refine ⟨_, rfl, ?_⟩
 have n0_ := Aside0.mk (blk_kept (z1_) hkp (fun hs_ => (fun e_ => (Kd.R_ne HO111.out BK101.out (by decide)) e_) hs_))
 have n1_ := Aside0.mk (blk_kept (z3_) hkp (fun hs_ => (fun e_ => (Kd.R_ne HO111.out BK102.out (by decide)) e_) hs_))
 have n2_ := Aside0.mk (Kd.S_mono (ok' := fun k_ => some k_ ≠ (.slice Ao19 t106.length co19 : Value).ownBlock ∧ some k_ ≠ (v114 : Value).ownBlock) (Kd.S_keptB (HO105.out) hkp (fun k_ hk_ hs_ => (hk_.2) hs_)) (fun k_ hk_ => ⟨hk_.1.1, fun e_ => Or.elim (ho0.1 k_ e_.symm) (fun hs_ => hk_.2.1 hs_) (fun hn_ => Nat.not_le.2 hk_.2.2 hn_)⟩))
 have n3_ := Aside0.mk (Kd.S_mono (ok' := fun k_ => some k_ ≠ (.slice Ao18 t103.length co18 : Value).ownBlock ∧ some k_ ≠ (v114 : Value).ownBlock) (Kd.S_keptB (HO108.out) hkp (fun k_ hk_ hs_ => (hk_.2) hs_)) (fun k_ hk_ => ⟨hk_.1.1, fun e_ => Or.elim (ho0.1 k_ e_.symm) (fun hs_ => hk_.2.1 hs_) (fun hn_ => Nat.not_le.2 hk_.2.2 hn_)⟩))
 have n4_ := Aside0.mk (Kd.R_mono (ok' := fun k_ => True) ho0 (fun k_ hk_ => trivial))
 have n5_ := Aside0.mk (hb)
 clear BK101
 clear BK102
 clear HO105
 clear HO108
 clear HB
 clear HO111
 have BK101 := n0_
 have BK102 := n1_
 have HO105 := n2_
 have HO108 := n3_
 have HO115 := n4_
 have HB := n5_
 clear n0_ n1_ n2_ n3_ n4_ n5_
 (try clear hb)
 (try clear hkp)
 (try clear ho0)
 refine hK.out _ _ ⟨(w0z BK101.out 0).trans rfl, (w0z BK101.out 1).trans rfl, (w0z BK102.out 0).trans rfl, (w0z BK102.out 1).trans rfl⟩ (fun hHeld => ?_)
 clear hK K
 refine norm_ (a' := ?_) ?_ ?_
 rotate_left
 ·show Act.put _ (some 19) _ = _
  simp only [Act.put, List.setIfInBounds_toArray, List.set_cons_zero, List.set_cons_succ, i64_w, i32_w]
  rfl
 refine pure_ (i := 6) (N := some 13) (v := ?_) (a' := ?_) #[true, true, true, true, true, true, true, false, false, false, false] rfl rfl (any_of HT_.out (by kernel_rfl)) (fun _ _ _ h => h) (Or.inl ⟨by rfl, ?_⟩) ?_ ?_
 rotate_left
 ·intro w'
  go_simp
  with_reducible rfl
 rotate_left
 ·simp only [Act.put, List.setIfInBounds_toArray, List.set_cons_zero, List.set_cons_succ, i64_w, i32_w]
  rfl
 refine pure_ (i := 7) (N := some 20) (v := ?_) (a' := ?_) #[true, true, true, true, true, true, true, true, false, false, false] rfl rfl (any_of HT_.out (by kernel_rfl)) (fun _ _ _ h => h) (Or.inl ⟨by rfl, ?_⟩) ?_ ?_
 rotate_left
 ·intro w'
  go_simp
  with_reducible rfl
 rotate_left
 ·simp only [Act.put, List.setIfInBounds_toArray, List.set_cons_zero, List.set_cons_succ, i64_w, i32_w]
  rfl
 refine pure_ (i := 8) (N := some 21) (v := ?_) (a' := ?_) #[true, true, true, true, true, true, true, true, true, false, false] rfl rfl (any_of HT_.out (by kernel_rfl)) (fun _ _ _ h => h) (Or.inl ⟨by rfl, ?_⟩) ?_ ?_
 rotate_left
 ·intro w'
  go_simp
  with_reducible rfl
 rotate_left
 ·simp only [Act.put, List.setIfInBounds_toArray, List.set_cons_zero, List.set_cons_succ, i64_w, i32_w]
  rfl
 refine pure_ (i := 9) (N := some 6) (v := ?_) (a' := ?_) #[true, true, true, true, true, true, true, true, true, true, false] rfl rfl (any_of HT_.out (by kernel_rfl)) (fun _ _ _ h => h) (Or.inl ⟨by rfl, ?_⟩) ?_ ?_
 rotate_left
 ·intro w'
  go_simp
  with_reducible rfl
 rotate_left
 ·simp only [Act.put, List.setIfInBounds_toArray, List.set_cons_zero, List.set_cons_succ, i64_w, i32_w]
  rfl
 refine pure_ (i := 10) (N := some 7) (v := ?_) (a' := ?_) #[true, true, true, true, true, true, true, true, true, true, true] rfl rfl (any_of HT_.out (by kernel_rfl)) (fun _ _ _ h => h) (Or.inl ⟨by rfl, ?_⟩) ?_ ?_
 rotate_left
 ·intro w'
  go_simp
  with_reducible rfl
 rotate_left
 ·simp only [Act.put, List.setIfInBounds_toArray, List.set_cons_zero, List.set_cons_succ, i64_w, i32_w]
  rfl
 refine done_ (done_of HT_.out (by kernel_rfl)) ?_
 try go_wp2
 go_ret2
 exact ⟨_, by first | rfl | (simp [errW_none, errW_some] <;> rfl) | (simp [*, errW_none, errW_some] <;> rfl), by (with_reducible repeat (first | apply Kd.R_alloc | apply Kd.R_drewN | apply Kd.R_drew)); exact HO115.out, z4_⟩
end Go.Proofs.Ytbjjefipcigaoaa.X
end
section
namespace Go.Proofs.Ytbjjefipcigaoaa.X
open Go.RowKit Go.Proofs.YtbjjefipcigaoaaW.PrintWords Go.Proofs.YtbjjefipcigaoaaW.PrintLast Go.Proofs.YtbjjefipcigaoaaW.PrintMore
attribute [local go_sem] max2_int min2_int max_two min_two max_three min_three max_four min_four
set_option linter.unusedVariables false
set_option linter.unusedSimpArgs false
def spec_FindIsomorphism.j0 : Nat → Bool → Int → List (List Int) → Int → List (List Int) → Option (List Int × Int)
 | 0, _, _, _, _, _ => none
 | k + 1, x15, x102000, x102001, x103000, x103001 => if x15 = true then (some (([] : List Int), 1)) else ((spec_l08Find.f k x102000 x102001 x103000 x103001).bind fun bt105 => (if bt105.2 = true then (some (bt105.1, 0)) else (some (([] : List Int), 4))))
def spec_FindIsomorphism.f (k : Nat) (a0_0 : Int) (l0_1 : List (List Int)) (a1_0 : Int) (l1_1 : List (List Int)) : Option (List Int × Int) := (spec_l01Is.f k a0_0 l0_1).bind fun t103 => (if t103 = true then ((spec_l01Is.f k a1_0 l1_1).bind fun t104 => (spec_FindIsomorphism.j0 k (!t104) a0_0 l0_1 a1_0 l1_1)) else (spec_FindIsomorphism.j0 k true a0_0 l0_1 a1_0 l1_1))
set_option maxHeartbeats 8000000 in
set_option maxRecDepth 100000 in
theorem spec_FindIsomorphism.calls (k : Nat) (a0_0 : Int) (A0_1 : Option Addr) (c0_1 : Nat) (l0_1 : List (List Int)) (a1_0 : Int) (A1_1 : Option Addr) (c1_1 : Nat) (l1_1 : List (List Int)) (r1 : List Int) (r2 : Int) (w : World) (hr0_1 : Kd.C (Kd.slice 2 (Kd.int .i64)) w A0_1 l0_1.length l0_1) (hc0_1 : l0_1.length ≤ c0_1) (hr1_1 : Kd.C (Kd.slice 2 (Kd.int .i64)) w A1_1 l1_1.length l1_1) (hc1_1 : l1_1.length ≤ c1_1) (h : spec_FindIsomorphism.f k a0_0 l0_1 a1_0 l1_1 = some (r1, r2)) :
  Calls Try.prog 13 #[.agg #[.int .i64 a0_0, .slice A0_1 l0_1.length c0_1], .agg #[.int .i64 a1_0, .slice A1_1 l1_1.length c1_1]] w fun e w' => ∃ v0_ : Value, e = .returned (.tuple #[v0_, .int .i64 r2]) ∧ Kd.R (Kd.int .i64) 2 w' w.heap.size (fun _ => True) v0_ r1 ∧ Below w.heap.size w w' := by
 have hu28 := Try.underlying28
 have HR0_1 := Aside0.mk hr0_1
 have HC0_1 := Aside0.mk hc0_1
 clear hr0_1 hc0_1
 have HR1_1 := Aside0.mk hr1_1
 have HC1_1 := Aside0.mk hc1_1
 clear hr1_1 hc1_1
 have HB := Aside0.mk (Below.refl w.heap.size w)
 have H : ((spec_l01Is.f k a0_0 l0_1).bind fun t103 => (if t103 = true then ((spec_l01Is.f k a1_0 l1_1).bind fun t104 => (spec_FindIsomorphism.j0 k (!t104) a0_0 l0_1 a1_0 l1_1)) else (spec_FindIsomorphism.j0 k true a0_0 l0_1 a1_0 l1_1))) = some (r1, r2) := h
 clear h
 have HC3 := Aside0.mk H
 clear H
 go_enter Try.func13, Try.ntmps13
 go_upto_region 1 with (first | ((with_reducible refine w5z (N := 2) rfl ?_); refine w7z ?hg (N := 2) ?hd (cs := #[.int .i64 a0_0, .slice A0_1 l0_1.length c0_1]) (t := 28) ?hr ?_; (case hd => rfl); (case hg => rfl); (case hr => first | (go_simp; done) | (go_simp; rfl)); intro gb101 hg w4 hbox hb; have n0_ := Aside0.mk (w3z (z2_) hb); have n1_ := Aside0.mk (hbox); have n2_ := Aside0.mk ((by rw [hg]; exact (w2z (z2_)) : w.heap.size ≤ gb101)); have n3_ := Aside0.mk ((by rw [hg]; exact (w2z (z2_)) : w.heap.size ≤ gb101)); clear HB; have HB := n0_; have BK101 := n1_; have GW101 := n2_; have GE101 := n3_; clear n0_ n1_ n2_ n3_; clear hb hbox hg) | ((with_reducible refine w5z (N := 3) rfl ?_); refine w7z ?hg (N := 3) ?hd (cs := #[.int .i64 a1_0, .slice A1_1 l1_1.length c1_1]) (t := 28) ?hr ?_; (case hd => rfl); (case hg => rfl); (case hr => first | (go_simp; done) | (go_simp; rfl)); intro gb102 hg w5 hbox hb; have n0_ := Aside0.mk (w4z (g := gb101) (o := .cells #[.int .i64 a0_0, .slice A0_1 l0_1.length c0_1] 28 (0, 0)) (z1_) hb); have n1_ := Aside0.mk (w3z (z5_) hb); have n2_ := Aside0.mk (hbox); have n3_ := Aside0.mk ((by rw [hg]; exact (w2z (z5_)) : w.heap.size ≤ gb102)); have n4_ := Aside0.mk ((by rw [hg]; exact (w2z (z5_)) : w.heap.size ≤ gb102)); have n5_ := Aside0.mk ((by rw [hg]; exact Nat.ne_of_lt (blk_lt (g := gb101) (o := .cells #[.int .i64 a0_0, .slice A0_1 l0_1.length c0_1] 28 (0, 0)) (z1_)) : gb101 ≠ gb102)); have n6_ := Aside0.mk ((by rw [hg]; exact Nat.ne_of_gt (blk_lt (g := gb101) (o := .cells #[.int .i64 a0_0, .slice A0_1 l0_1.length c0_1] 28 (0, 0)) (z1_)) : gb102 ≠ gb101)); clear BK101; clear HB; have BK101 := n0_; have HB := n1_; have BK102 := n2_; have GW102 := n3_; have GE102 := n4_; have NB101_102 := n5_; have NB102_101 := n6_; clear n0_ n1_ n2_ n3_ n4_ n5_ n6_; clear hb hbox hg))
 (try simp only [Act.put, List.setIfInBounds_toArray, List.set_cons_zero, List.set_cons_succ])
 go_cut [15] (fun v15 wc => ∃ (kq : Nat) (x15_2 : Bool), v15 = .bool x15_2 ∧ Aside0 (spec_FindIsomorphism.j0 kq x15_2 a0_0 l0_1 a1_0 l1_1 = some (r1, r2)) ∧ Aside0 (kq ≤ k) ∧ Aside0 (wc.heap[gb101]? = some (.cells #[.int .i64 a0_0, (.slice A0_1 l0_1.length c0_1)] 28 (0, 0))) ∧ Aside0 (wc.heap[gb102]? = some (.cells #[.int .i64 a1_0, (.slice A1_1 l1_1.length c1_1)] 28 (0, 0))) ∧ Aside0 (Below w.heap.size w wc))
 case first =>
  have H := HC3.out
  clear HC3
  replace H := Option.bind_eq_some_iff.mp H
  obtain ⟨t103, A60, H⟩ := H
  replace H : (if t103 = true then ((spec_l01Is.f k a1_0 l1_1).bind fun t104 => (spec_FindIsomorphism.j0 k (!t104) a0_0 l0_1 a1_0 l1_1)) else (spec_FindIsomorphism.j0 k true a0_0 l0_1 a1_0 l1_1)) = some (r1, r2) := H
  have A6 := Aside0.mk A60
  clear A60
  by_cases c7 : t103 = true
  rotate_left
  ·replace c7 := Bool.eq_false_iff.mpr c7
   subst c7
   have H1 : (spec_FindIsomorphism.j0 k true a0_0 l0_1 a1_0 l1_1) = some (r1, r2) := by rw [if_neg (show ¬ (false = true) by decide)] at H; exact H
   clear H
   have H := H1
   clear H1
   have H' := Aside0.mk H
   clear H
   have hnb14 := NB101_102.out
   have hnc14 := NB102_101.out
   have hcz15_0 : w5.cell? ⟨gb101, 0, none⟩ = some (.int .i64 a0_0) := (w0z BK101.out 0).trans rfl
   have hcz15_1 : w5.cell? ⟨gb101, 1, none⟩ = some (.slice A0_1 l0_1.length c0_1) := (w0z BK101.out 1).trans rfl
   have hfz15_0 := w1z BK101.out 0
   have hfz15_1 := w1z BK101.out 1
   go_wp2_with (first | ((with_reducible refine w6z (f := 31) rfl ?_); refine goesL_ (some 9) rfl rfl Try.func31 (by kernel_rfl) rfl #[.agg #[.int .i64 a0_0, .slice A0_1 l0_1.length c0_1]] rfl (z6_) ?_; (with_reducible refine (spec_l01Is.calls k a0_0 _ _ l0_1 false _ ?side1 ?side2 A6.out).mono ?_); (case side1 => repeat (first | exact (Kd.C_below HR0_1.out HB.out) | (with_reducible refine Kd.C_alloc ?_ _) | (with_reducible refine Kd.C_drewN ?_ _) | (with_reducible refine Kd.C_drew ?_))); (case side2 => exact HC0_1.out); rintro e w16 ⟨rfl, hb⟩; refine ⟨_, rfl, ?_⟩; have n0_ := Aside0.mk (w4z (g := gb101) (o := .cells #[.int .i64 a0_0, .slice A0_1 l0_1.length c0_1] 28 (0, 0)) (z1_) hb); have n1_ := Aside0.mk (w4z (g := gb102) (o := .cells #[.int .i64 a1_0, .slice A1_1 l1_1.length c1_1] 28 (0, 0)) (z3_) hb); have n2_ := Aside0.mk (w3z (z4_) hb); clear BK101; clear BK102; clear HB; have BK101 := n0_; have BK102 := n1_; have HB := n2_; clear n0_ n1_ n2_; (try clear hb); (try clear hb2); (try clear hk); (try clear hi)))
   go_meet
   case rel => exact ⟨_, (true), (by first | rfl | (simp; done) | (simp [*]; done)), H', ⟨by first | omega | exact Nat.le_refl _⟩, ⟨z1_⟩, ⟨z3_⟩, ⟨z4_⟩⟩
  subst c7
  have H1 : ((spec_l01Is.f k a1_0 l1_1).bind fun t104 => (spec_FindIsomorphism.j0 k (!t104) a0_0 l0_1 a1_0 l1_1)) = some (r1, r2) := by rw [if_pos rfl] at H; exact H
  clear H
  have H := H1
  clear H1
  replace H := Option.bind_eq_some_iff.mp H
  obtain ⟨t104, A80, H⟩ := H
  replace H : (spec_FindIsomorphism.j0 k (!t104) a0_0 l0_1 a1_0 l1_1) = some (r1, r2) := H
  have A8 := Aside0.mk A80
  clear A80
  have H' := Aside0.mk H
  clear H
  have hnb9 := NB101_102.out
  have hnc9 := NB102_101.out
  have hcz10_0 : w5.cell? ⟨gb101, 0, none⟩ = some (.int .i64 a0_0) := (w0z BK101.out 0).trans rfl
  have hcz10_1 : w5.cell? ⟨gb101, 1, none⟩ = some (.slice A0_1 l0_1.length c0_1) := (w0z BK101.out 1).trans rfl
  have hfz10_0 := w1z BK101.out 0
  have hfz10_1 := w1z BK101.out 1
  go_wp2_with (first | ((with_reducible refine w6z (f := 31) rfl ?_); refine goesL_ (some 9) rfl rfl Try.func31 (by kernel_rfl) rfl #[.agg #[.int .i64 a0_0, .slice A0_1 l0_1.length c0_1]] rfl (z6_) ?_; (with_reducible refine (spec_l01Is.calls k a0_0 _ _ l0_1 true _ ?side1 ?side2 A6.out).mono ?_); (case side1 => repeat (first | exact (Kd.C_below HR0_1.out HB.out) | (with_reducible refine Kd.C_alloc ?_ _) | (with_reducible refine Kd.C_drewN ?_ _) | (with_reducible refine Kd.C_drew ?_))); (case side2 => exact HC0_1.out); rintro e w11 ⟨rfl, hb⟩; refine ⟨_, rfl, ?_⟩; have n0_ := Aside0.mk (w4z (g := gb101) (o := .cells #[.int .i64 a0_0, .slice A0_1 l0_1.length c0_1] 28 (0, 0)) (z1_) hb); have n1_ := Aside0.mk (w4z (g := gb102) (o := .cells #[.int .i64 a1_0, .slice A1_1 l1_1.length c1_1] 28 (0, 0)) (z3_) hb); have n2_ := Aside0.mk (w3z (z4_) hb); clear BK101; clear BK102; clear HB; have BK101 := n0_; have BK102 := n1_; have HB := n2_; clear n0_ n1_ n2_; (try clear hb); (try clear hb2); (try clear hk); (try clear hi); have hcz12_0 : w11.cell? ⟨gb102, 0, none⟩ = some (.int .i64 a1_0) := (w0z BK102.out 0).trans rfl; have hcz12_1 : w11.cell? ⟨gb102, 1, none⟩ = some (.slice A1_1 l1_1.length c1_1) := (w0z BK102.out 1).trans rfl; have hfz12_0 := w1z BK102.out 0; have hfz12_1 := w1z BK102.out 1) | (go_at_call 31; (with_reducible refine (spec_l01Is.calls k a1_0 _ _ l1_1 t104 _ ?side1 ?side2 A8.out).mono ?_); (case side1 => repeat (first | exact (Kd.C_below HR1_1.out HB.out) | (with_reducible refine Kd.C_alloc ?_ _) | (with_reducible refine Kd.C_drewN ?_ _) | (with_reducible refine Kd.C_drew ?_))); (case side2 => exact HC1_1.out); rintro e w13 ⟨rfl, hb⟩; have n0_ := Aside0.mk (w4z (g := gb101) (o := .cells #[.int .i64 a0_0, .slice A0_1 l0_1.length c0_1] 28 (0, 0)) (z1_) hb); have n1_ := Aside0.mk (w4z (g := gb102) (o := .cells #[.int .i64 a1_0, .slice A1_1 l1_1.length c1_1] 28 (0, 0)) (z3_) hb); have n2_ := Aside0.mk (w3z (z4_) hb); clear BK101; clear BK102; clear HB; have BK101 := n0_; have BK102 := n1_; have HB := n2_; clear n0_ n1_ n2_; (try clear hb); (try clear hb2); (try clear hk); (try clear hi)))
  go_meet
  case rel => exact ⟨_, (!t104), (by first | rfl | (simp; done) | (simp [*]; done)), H', ⟨by first | omega | exact Nat.le_refl _⟩, ⟨z1_⟩, ⟨z3_⟩, ⟨z4_⟩⟩
 case rest =>
  clear HC3
  try clear c7
  try clear hcz10_0
  try clear hcz10_1
  try clear hcz12_0
  try clear hcz12_1
  try clear hcz15_0
  try clear hcz15_1
  try clear hfz10_0
  try clear hfz10_1
  try clear hfz12_0
  try clear hfz12_1
  try clear hfz15_0
  try clear hfz15_1
  obtain ⟨kq, x15_2, rfl, HA, HJ2, BK101, BK102, HB⟩ := hcut
  cases kq with
  | zero => exact absurd HA.out (by simp [spec_FindIsomorphism.j0])
  | succ kj2 =>
   have H := HA.out
   clear HA
   simp only [spec_FindIsomorphism.j0] at H
   by_cases c17 : x15_2 = true
   ·subst c17
    have H1 : (some (([] : List Int), 1)) = some (r1, r2) := by rw [if_pos rfl] at H; exact H
    clear H
    have H := H1
    clear H1
    simp only [Option.some.injEq, Prod.mk.injEq] at H
    obtain ⟨rfl, rfl⟩ := H
    go_wp2
    go_ret2
    exact ⟨_, by first | rfl | (simp [errW_none, errW_some] <;> rfl) | (simp [*, errW_none, errW_some] <;> rfl), by first | exact Kd.R_nil _ _ _ _ _ | exact Kd.N_nil _ _ _ _ _ | exact Kd.V_nil _ _ _ _ _ | exact Kd.Q_nil _ _ _ _ _ | exact Kd.S_nil _ _ _ _ _, z4_⟩
   replace c17 := Bool.eq_false_iff.mpr c17
   subst c17
   have H1 : ((spec_l08Find.f kj2 a0_0 l0_1 a1_0 l1_1).bind fun bt105 => (if bt105.2 = true then (some (bt105.1, 0)) else (some (([] : List Int), 4)))) = some (r1, r2) := by rw [if_neg (show ¬ (false = true) by decide)] at H; exact H
   clear H
   have H := H1
   clear H1
   replace H := Option.bind_eq_some_iff.mp H
   obtain ⟨⟨t105, t108⟩, A180, H⟩ := H
   replace H : (if t108 = true then (some (t105, 0)) else (some (([] : List Int), 4))) = some (r1, r2) := H
   have A18 := Aside0.mk A180
   clear A180
   by_cases c19 : t108 = true
   ·subst c19
    have H1 : (some (t105, 0)) = some (r1, r2) := by rw [if_pos rfl] at H; exact H
    clear H
    have H := H1
    clear H1
    simp only [Option.some.injEq, Prod.mk.injEq] at H
    obtain ⟨rfl, rfl⟩ := H
    have hnb20 := NB101_102.out
    have hnc20 := NB102_101.out
    have hcz21_0 : wc.cell? ⟨gb101, 0, none⟩ = some (.int .i64 a0_0) := (w0z BK101.out 0).trans rfl
    have hcz21_1 : wc.cell? ⟨gb101, 1, none⟩ = some (.slice A0_1 l0_1.length c0_1) := (w0z BK101.out 1).trans rfl
    have hfz21_0 := w1z BK101.out 0
    have hfz21_1 := w1z BK101.out 1
    have hcz22_0 : wc.cell? ⟨gb102, 0, none⟩ = some (.int .i64 a1_0) := (w0z BK102.out 0).trans rfl
    have hcz22_1 : wc.cell? ⟨gb102, 1, none⟩ = some (.slice A1_1 l1_1.length c1_1) := (w0z BK102.out 1).trans rfl
    have hfz22_0 := w1z BK102.out 0
    have hfz22_1 := w1z BK102.out 1
    go_wp2_with (first | ((with_reducible refine w6z (f := 32) rfl ?_); refine goesL_ (some 19) rfl rfl Try.func32 (by kernel_rfl) rfl #[.agg #[.int .i64 a0_0, .slice A0_1 l0_1.length c0_1], .agg #[.int .i64 a1_0, .slice A1_1 l1_1.length c1_1]] rfl (z6_) ?_; (with_reducible refine (spec_l08Find.calls kj2 a0_0 _ _ l0_1 a1_0 _ _ l1_1 t105 true _ ?side1 ?side2 ?side3 ?side4 A18.out).mono ?_); (case side1 => repeat (first | exact (Kd.C_below HR0_1.out HB.out) | (with_reducible refine Kd.C_alloc ?_ _) | (with_reducible refine Kd.C_drewN ?_ _) | (with_reducible refine Kd.C_drew ?_))); (case side2 => exact HC0_1.out); (case side3 => repeat (first | exact (Kd.C_below HR1_1.out HB.out) | (with_reducible refine Kd.C_alloc ?_ _) | (with_reducible refine Kd.C_drewN ?_ _) | (with_reducible refine Kd.C_drew ?_))); (case side4 => exact HC1_1.out); rintro e w23 ⟨v106, rfl, ho0, hb⟩; refine ⟨_, rfl, ?_⟩; have n0_ := Aside0.mk (Kd.R_lower ho0 (w2z (z4_))); have n1_ := Aside0.mk (w4z (g := gb101) (o := .cells #[.int .i64 a0_0, .slice A0_1 l0_1.length c0_1] 28 (0, 0)) (z1_) hb); have n2_ := Aside0.mk (w4z (g := gb102) (o := .cells #[.int .i64 a1_0, .slice A1_1 l1_1.length c1_1] 28 (0, 0)) (z3_) hb); have n3_ := Aside0.mk (w3z (z4_) hb); clear BK101; clear BK102; clear HB; have HO107 := n0_; have BK101 := n1_; have BK102 := n2_; have HB := n3_; clear n0_ n1_ n2_ n3_; (try clear hb); (try clear hb2); (try clear hk); (try clear hi); (try clear ho0)))
    go_ret2
    exact ⟨_, by first | rfl | (simp [errW_none, errW_some] <;> rfl) | (simp [*, errW_none, errW_some] <;> rfl), by (with_reducible repeat (first | apply Kd.R_alloc | apply Kd.R_drewN | apply Kd.R_drew)); exact HO107.out, z4_⟩
   replace c19 := Bool.eq_false_iff.mpr c19
   subst c19
   have H1 : (some (([] : List Int), 4)) = some (r1, r2) := by rw [if_neg (show ¬ (false = true) by decide)] at H; exact H
   clear H
   have H := H1
   clear H1
   simp only [Option.some.injEq, Prod.mk.injEq] at H
   obtain ⟨rfl, rfl⟩ := H
   have hnb24 := NB101_102.out
   have hnc24 := NB102_101.out
   have hcz25_0 : wc.cell? ⟨gb101, 0, none⟩ = some (.int .i64 a0_0) := (w0z BK101.out 0).trans rfl
   have hcz25_1 : wc.cell? ⟨gb101, 1, none⟩ = some (.slice A0_1 l0_1.length c0_1) := (w0z BK101.out 1).trans rfl
   have hfz25_0 := w1z BK101.out 0
   have hfz25_1 := w1z BK101.out 1
   have hcz26_0 : wc.cell? ⟨gb102, 0, none⟩ = some (.int .i64 a1_0) := (w0z BK102.out 0).trans rfl
   have hcz26_1 : wc.cell? ⟨gb102, 1, none⟩ = some (.slice A1_1 l1_1.length c1_1) := (w0z BK102.out 1).trans rfl
   have hfz26_0 := w1z BK102.out 0
   have hfz26_1 := w1z BK102.out 1
   go_wp2_with (first | ((with_reducible refine w6z (f := 32) rfl ?_); refine goesL_ (some 19) rfl rfl Try.func32 (by kernel_rfl) rfl #[.agg #[.int .i64 a0_0, .slice A0_1 l0_1.length c0_1], .agg #[.int .i64 a1_0, .slice A1_1 l1_1.length c1_1]] rfl (z6_) ?_; (with_reducible refine (spec_l08Find.calls kj2 a0_0 _ _ l0_1 a1_0 _ _ l1_1 t105 false _ ?side1 ?side2 ?side3 ?side4 A18.out).mono ?_); (case side1 => repeat (first | exact (Kd.C_below HR0_1.out HB.out) | (with_reducible refine Kd.C_alloc ?_ _) | (with_reducible refine Kd.C_drewN ?_ _) | (with_reducible refine Kd.C_drew ?_))); (case side2 => exact HC0_1.out); (case side3 => repeat (first | exact (Kd.C_below HR1_1.out HB.out) | (with_reducible refine Kd.C_alloc ?_ _) | (with_reducible refine Kd.C_drewN ?_ _) | (with_reducible refine Kd.C_drew ?_))); (case side4 => exact HC1_1.out); rintro e w27 ⟨v106, rfl, ho0, hb⟩; refine ⟨_, rfl, ?_⟩; have n0_ := Aside0.mk (Kd.R_lower ho0 (w2z (z4_))); have n1_ := Aside0.mk (w4z (g := gb101) (o := .cells #[.int .i64 a0_0, .slice A0_1 l0_1.length c0_1] 28 (0, 0)) (z1_) hb); have n2_ := Aside0.mk (w4z (g := gb102) (o := .cells #[.int .i64 a1_0, .slice A1_1 l1_1.length c1_1] 28 (0, 0)) (z3_) hb); have n3_ := Aside0.mk (w3z (z4_) hb); clear BK101; clear BK102; clear HB; have HO107 := n0_; have BK101 := n1_; have BK102 := n2_; have HB := n3_; clear n0_ n1_ n2_ n3_; (try clear hb); (try clear hb2); (try clear hk); (try clear hi); (try clear ho0)))
   go_ret2
   exact ⟨_, by first | rfl | (simp [errW_none, errW_some] <;> rfl) | (simp [*, errW_none, errW_some] <;> rfl), by first | exact Kd.R_nil _ _ _ _ _ | exact Kd.N_nil _ _ _ _ _ | exact Kd.V_nil _ _ _ _ _ | exact Kd.Q_nil _ _ _ _ _ | exact Kd.S_nil _ _ _ _ _, z4_⟩
end Go.Proofs.Ytbjjefipcigaoaa.X
end
section
namespace Go.Proofs.Ytbjjefipcigaoaa.X
open Go.RowKit Go.Proofs.YtbjjefipcigaoaaW.PrintWords Go.Proofs.YtbjjefipcigaoaaW.PrintLast Go.Proofs.YtbjjefipcigaoaaW.PrintMore
set_option linter.unusedVariables false
set_option linter.unusedSimpArgs false
theorem maps_run {P : Program} (w : World) (base : Nat) (t ty : TypeId) (i : TypeInfo) (ht : P.underlying t = some (.slice 2)) (hi : P.info? 2 = some i) (hz : i.zero = some (.int .i64 0)) (hsize : i.size = 1) (hby : i.bytes = 8)
  (v : Value) (n : Nat) (xs : List Value) (p : Int) (hown : w.ownsRow base 2 1 v n xs) (a : Addr) (hnews : ∀ j u, [Value.int .i64 p][j]? = some u → w.cell? (a.add j) = some u) (hn : n < 1000) (hbase : base ≤ w.heap.size) :
  ∃ v' w', (Builtin.append_ #[t, t] ty #[v, .slice (some a) 1 1]).run P w = .ok v' w' ∧ w'.ownsRow base 2 1 v' (n + 1) (xs ++ [.int .i64 p]) ∧ w.grownBy w' v.ownBlock ∧
   ((∃ g cap, v = .slice (some ⟨g, 0, none⟩) n cap ∧ v' = .slice (some ⟨g, 0, none⟩) (n + 1) cap) ∨ (v'.ownBlock = some w.heap.size ∧ ∀ k, k < w.heap.size → w'.heap[k]? = w.heap[k]?)) := by
 obtain ⟨v', w', hr, ho, hg, hnil, hat⟩ := run_append_own_at (P := P) w base t ty 2 i (.int .i64 0) 1 8 ht hi hz hsize hby rfl (by decide) v n xs hown a 1 1 [.int .i64 p] rfl hnews (by simp [Value.oneCell']) (by simp only [maxLen]; omega) (by omega) hbase
 refine ⟨v', w', hr, ho, hg, ?_⟩
 rcases hown.2 with ⟨rfl, rfl⟩ | ⟨g, cap, cur, rfl, hbg, hgg, hnc, hcm, hcs, htake⟩
 ·rcases hat with hat | hat
  ·exfalso
   rcases ho.2 with ⟨_, h2⟩ | ⟨g', cap', cur', rfl, _⟩
   ·omega
   ·simp [Value.ownBlock] at hat
  ·exact .inr ⟨hat, fun k hk => hg.block k hk (by simp [Value.ownBlock])⟩
 ·by_cases hroom : n + 1 ≤ cap
  ·have hr2 := run_append_room (P := P) w t ty 2 i ht hi g n cap cur hgg a 1 1 [.int .i64 p] (by rw [hsize]; rfl) hnews (by simp [Value.oneCell']) hroom (by rw [hsize]; simp; omega)
   rw [hr2] at hr
   injection hr with h1 h2
   exact .inl ⟨g, cap, rfl, h1.symm⟩
  ·have holds : ∀ j u, xs[j]? = some u → w.cell? ((⟨g, 0, none⟩ : Addr).add j) = some u := hown.cells (g := g) rfl
   have hr2 := run_append_grow (P := P) w t ty 2 i (.int .i64 0) ht hi hz ⟨g, 0, none⟩ n cap xs (by rw [hsize]; exact hown.1) holds a 1 1 [.int .i64 p] (by rw [hsize]; rfl) hnews (by omega) (by omega) (growslice_fits (by omega) (by rw [hby]; omega))
   rw [hr2] at hr
   injection hr with h1 h2
   exact .inr ⟨by rw [← h1]; rfl, fun k hk => by rw [← h2]; exact heap_alloc_old w.drew _ hk⟩
theorem maps_step {P : Program} {ops : Array Oper} {o : Oper} {a : Act} {Q : Exit → Act → World → Prop} {K : Act → World → Prop} {w0 W : World} (base c : Nat) (hw : Region.wanted o (yielded ops a.tmps) = true) (s x : Operand) (t : TypeId)
  (ho : o.op = .call { callee := .builtin .append, args := #[s, x], argTypes := #[t, t] })
  (ht : P.underlying t = some (.slice 2)) (hinfo : (P.info? 2).map (fun i => (i.zero, i.size, i.bytes)) = some (some (.int .i64 0), 1, 8))
  (v : Value) (xs : List Int) (p : Int) (hs : a.eval s = v) (hx : a.eval x = .slice (some ⟨W.heap.size, 0, none⟩) 1 1)
  (HO : Kd.R (Kd.int .i64) 2 W base (fun k => k ≠ c) v xs) (HB : Below base w0 W) (hbase : base ≤ W.heap.size) (hc : c < W.heap.size) (hl : xs.length < 1000)
  (h : ∀ v1 w1, Kd.R (Kd.int .i64) 2 w1 base (fun k => k ≠ c) v1 (xs ++ [p]) → Below base w0 w1 → Kept W w1 (fun k => some k = v.ownBlock) → (∀ k, some k = v1.ownBlock → some k = v.ownBlock ∨ W.heap.size ≤ k) →
   (∀ W2, Kept w1 W2 (fun k => k = c ∨ some k = v1.ownBlock) → Kd.R (Kd.int .i64) 2 W2 base (fun k => k ≠ c) v1 (xs ++ [p]) → Kd.R (Kd.int .i64) 2 W2 base (fun k => k ≠ c) v xs) → K (a.put o.dst v1) w1) :
  if Region.wanted o (yielded ops a.tmps) = true then Oper.wp P o a (W.alloc (.cells [Value.int .i64 p].toArray 2)) K Q else K (a.put o.dst undef) (W.alloc (.cells [Value.int .i64 p].toArray 2)) := by
 obtain ⟨i0, hi, hzz⟩ := Option.map_eq_some_iff.1 hinfo
 simp only [Prod.mk.injEq] at hzz
 obtain ⟨hz0, hz1, hz2⟩ := hzz
 rw [if_pos hw]
 have hok := HO.1
 have HO' := Kd.own_of_R HO
 obtain ⟨v1, w1, hr, hown, hg, hat⟩ := maps_run (P := P) (W.alloc (.cells [Value.int .i64 p].toArray 2)) base t o.type i0 ht hi hz0 hz1 hz2 v xs.length _ p (HO'.alloc _) ⟨W.heap.size, 0, none⟩
  (by simpa using World.news_of_block (cs := [Value.int .i64 p].toArray) (t := 2) (fr := (0, 0)) (heap_alloc_new W (.cells [Value.int .i64 p].toArray 2))) hl (by simp; omega)
 unfold Oper.wp execOp
 simp only [ho, resolve, invoke, builtin, Sem.run_bind, Sem.run_pure, Result.andThen_ok, List.map_toArray, List.map_cons, List.map_nil, hs, hx, hr]
 have hgw := World.grownBy.trans (World.grownBy_alloc W (.cells [Value.int .i64 p].toArray 2) v.ownBlock) hg
 have hle : W.heap.size ≤ w1.heap.size := hgw.size
 have hblk : ∀ k, some k = v1.ownBlock → some k = v.ownBlock ∨ W.heap.size ≤ k := by
  intro k hk
  rcases hat with ⟨g, cap, rfl, rfl⟩ | hat
  ·exact .inl hk
  ·rw [hat.1] at hk
   injection hk with hk
   exact .inr (by subst hk; simp)
 have hR1 : Kd.R (Kd.int .i64) 2 w1 base (fun k => k ≠ c) v1 (xs ++ [p]) := by
  refine Kd.R_of_own (by simpa [encs] using hown) (fun k hk => ?_)
  rcases hblk k hk.symm with h1 | h1
  ·exact hok k h1.symm
  ·omega
 refine h v1 w1 hR1 ((HB.alloc hbase _).grown hg (by simp; omega) (own_base HO')) ⟨hle, fun k hk hn => hgw.block k hk hn⟩ hblk ?_
 intro W2 hk hR2
 rcases hat with ⟨g, cap, rfl, rfl⟩ | hat
 ·have h2 := Kd.own_of_R hR2
  refine Kd.R_of_own ?_ (fun k hk => hok k hk)
  rcases h2.2 with ⟨h3, _⟩ | ⟨g', cap', cur, h3, hb3, hh3, hn3, hm3, hs3, ht3⟩
  ·simp at h3
  ·injection h3 with e1 e2 e3
   injection e1 with e1
   injection e1 with e1
   subst e1
   subst e3
   refine ⟨by simp [encs], .inr ⟨g, cap, cur, rfl, hb3, hh3, by simp at hn3; omega, hm3, hs3, ?_⟩⟩
   have h4 := congrArg (List.take xs.length) ht3
   rw [List.take_take] at h4
   simp [encs] at h4 ⊢
   exact h4
 ·have hR := Kd.R_bound HO
  have hk1 : Kept W w1 (fun _ => False) := ⟨hle, fun k hk0 _ => (hat.2 k (by simp; omega)).trans (heap_alloc_old W _ hk0)⟩
  have hk2 : Kept W W2 (fun k => k = c ∨ W.heap.size ≤ k) := (hk1.mono (fun _ h => h.elim)).then_ hk (fun k e => by
   rcases e with e | e
   ·exact .inl (.inl e)
   ·rcases hblk k e with h3 | h3
    ·rw [hat.1] at e
     injection e with e
     exact .inr (by subst e; simp)
    ·exact .inr h3)
  exact Kd.R_mono (Kd.R_kept hR hk2 (fun k ho he => by
   rcases he with he | he
   ·exact ho.1 he
   ·have := ho.2.2.1
    omega)) (fun k ho => ho.1)
end Go.Proofs.Ytbjjefipcigaoaa.X
end
section
namespace Go.Proofs.Ytbjjefipcigaoaa.X
open Go.RowKit Go.Proofs.YtbjjefipcigaoaaW.PrintWords Go.Proofs.YtbjjefipcigaoaaW.PrintLast Go.Proofs.YtbjjefipcigaoaaW.PrintMore
attribute [local go_sem] max2_int min2_int max_two min_two max_three min_three max_four min_four
set_option linter.unusedVariables false
set_option linter.unusedSimpArgs false
def slices_Index_int64_int64.l0 : Nat → List Int → Int → Int → Int → Option (Int)
 | 0, _, _, _, _ => none
 | k + 1, x0, x1, x7, x8 => if x8 < x7 then (if 0 ≤ x8 then (if x8 < (x0.length : Int) then (if x1 = (rd x0 x8) then (some x8) else (slices_Index_int64_int64.l0 k x0 x1 x7 (wrap64 (x8 + 1)))) else (none)) else (none)) else (some (-1))
def slices_Index_int64_int64.f (k : Nat) (l0 : List Int) (a1 : Int) : Option (Int) := slices_Index_int64_int64.l0 k l0 a1 (l0.length : Int) 0
set_option maxHeartbeats 8000000 in
set_option maxRecDepth 100000 in
theorem slices_Index_int64_int64.calls (k : Nat) (A0 : Option Addr) (c0 : Nat) (l0 : List Int) (a1 : Int) (r : Int) (w : World) (hr0 : Kd.C (Kd.int .i64) w A0 l0.length l0) (hc0 : l0.length ≤ c0) (h : slices_Index_int64_int64.f k l0 a1 = some r) :
  Calls Try.prog 75 #[.slice A0 l0.length c0, .int .i64 a1] w fun e w' => e = .returned (.int .i64 r) ∧ Drawn0 w w' := by
 have HR0 := Aside0.mk hr0
 have HC0 := Aside0.mk hc0
 clear hr0 hc0
 have H : (slices_Index_int64_int64.l0 k l0 a1 (l0.length : Int) 0) = some r := h
 clear h
 have H' := Aside0.mk H
 clear H
 go_enter Try.func75, Try.ntmps75
 go_wp2
 go_loopg [8] k (fun kq v8 w' => ∃ (x8_1 : Int), v8 = .int .i64 x8_1 ∧ Aside0 (slices_Index_int64_int64.l0 kq l0 a1 (l0.length : Int) x8_1 = some r) ∧ Aside0 (kq ≤ k) ∧ Drawn0 w w')
 case atStart => exact ⟨(0), (by first | rfl | (simp; done) | (simp [*]; done)), H', ⟨Nat.le_refl _⟩, by repeat (first | exact Drawn0.refl _ | apply Drawn0.step)⟩
 case round =>
  clear H'
  obtain ⟨x8_1, rfl, HA, HK1, ⟨m1, rfl⟩⟩ := hrel
  cases gk with
  | zero => exact absurd HA.out (by simp [slices_Index_int64_int64.l0])
  | succ k1 =>
   have H := HA.out
   clear HA
   simp only [slices_Index_int64_int64.l0] at H
   by_cases c3 : x8_1 < (l0.length : Int)
   rotate_left
   ·rw [if_neg c3] at H
    have c3b0 : decide (x8_1 < (l0.length : Int)) = false := decide_eq_false c3
    clear c3
    obtain rfl := Option.some.inj H
    go_wp2
    go_ret
    exact ⟨by first | rfl | (simp; done) | (simp [*]; done), by repeat (first | exact Drawn0.refl _ | apply Drawn0.step)⟩
   rw [if_pos c3] at H
   have c3b0 : decide (x8_1 < (l0.length : Int)) = true := decide_eq_true c3
   clear c3
   by_cases c4 : 0 ≤ x8_1
   rotate_left
   ·rw [if_neg c4] at H
    exact absurd H (by simp)
   rw [if_pos c4] at H
   have c4b0 : decide (0 ≤ x8_1) = true := decide_eq_true c4
   clear c4
   by_cases c5 : x8_1 < (l0.length : Int)
   rotate_left
   ·rw [if_neg c5] at H
    exact absurd H (by simp)
   rw [if_pos c5] at H
   have c5b0 : decide (x8_1 < (l0.length : Int)) = true := decide_eq_true c5
   clear c5
   by_cases c6 : a1 = (rd l0 x8_1)
   ·rw [if_pos c6] at H
    have c6b0 : (a1 == (rd l0 x8_1)) = true := beq_iff_eq.mpr c6
    have c6b1 : (a1 != (rd l0 x8_1)) = false := bne_eq_false_iff_eq.mpr c6
    clear c6
    obtain rfl := Option.some.inj H
    have p101 : 0 ≤ (x8_1 : Int) := of_decide_eq_true (z0_)
    have q101 : x8_1 < (l0.length : Int) := of_decide_eq_true (z0_)
    obtain ⟨ad101, e101, hx101_0⟩ := Kd.at_int HR0.out x8_1 p101 q101
    cases e101
    replace p101 := eq_true p101
    replace q101 := eq_true q101
    go_wp2
    go_ret
    exact ⟨by first | rfl | (simp; done) | (simp [*]; done), by repeat (first | exact Drawn0.refl _ | apply Drawn0.step)⟩
   rw [if_neg c6] at H
   have c6b0 : (a1 == (rd l0 x8_1)) = false := beq_eq_false_iff_ne.mpr c6
   have c6b1 : (a1 != (rd l0 x8_1)) = true := bne_iff_ne.mpr c6
   have H' := Aside0.mk H
   clear H
   have p101 : 0 ≤ (x8_1 : Int) := of_decide_eq_true (z0_)
   have q101 : x8_1 < (l0.length : Int) := of_decide_eq_true (z0_)
   obtain ⟨ad101, e101, hx101_0⟩ := Kd.at_int HR0.out x8_1 p101 q101
   cases e101
   replace p101 := eq_true p101
   replace q101 := eq_true q101
   go_wp2
   go_roundg k1
   case measure => have := HK1.out; omega
   case rel => exact ⟨(wrap64 (x8_1 + 1)), (by first | rfl | (simp; done) | (simp [*]; done)), H', ⟨by have := HK1.out; omega⟩, by repeat (first | exact Drawn0.refl _ | apply Drawn0.step)⟩
end Go.Proofs.Ytbjjefipcigaoaa.X
end
section
namespace Go.Proofs.Ytbjjefipcigaoaa.X
open Go.RowKit Go.Proofs.YtbjjefipcigaoaaW.PrintWords Go.Proofs.YtbjjefipcigaoaaW.PrintLast Go.Proofs.YtbjjefipcigaoaaW.PrintMore
attribute [local go_sem] max2_int min2_int max_two min_two max_three min_three max_four min_four
set_option linter.unusedVariables false
set_option linter.unusedSimpArgs false
def slices_Contains_int64_int64.f (k : Nat) (l0 : List Int) (a1 : Int) : Option (Bool) := (slices_Index_int64_int64.f k l0 a1).bind fun t101 => (some (decide (t101 ≥ 0)))
set_option maxHeartbeats 8000000 in
set_option maxRecDepth 100000 in
theorem slices_Contains_int64_int64.calls (k : Nat) (A0 : Option Addr) (c0 : Nat) (l0 : List Int) (a1 : Int) (r : Bool) (w : World) (hr0 : Kd.C (Kd.int .i64) w A0 l0.length l0) (hc0 : l0.length ≤ c0) (h : slices_Contains_int64_int64.f k l0 a1 = some r) :
  Calls Try.prog 46 #[.slice A0 l0.length c0, .int .i64 a1] w fun e w' => e = .returned (.bool r) ∧ Drawn0 w w' := by
 have HR0 := Aside0.mk hr0
 have HC0 := Aside0.mk hc0
 clear hr0 hc0
 have H : ((slices_Index_int64_int64.f k l0 a1).bind fun t101 => (some (decide (t101 ≥ 0)))) = some r := h
 clear h
 replace H := Option.bind_eq_some_iff.mp H
 obtain ⟨t101, A30, H⟩ := H
 replace H : (some (decide (t101 ≥ 0))) = some r := H
 have A3 := Aside0.mk A30
 clear A30
 obtain rfl := Option.some.inj H
 go_enter Try.func46, Try.ntmps46
 go_wp2_with (first | ((with_reducible refine w6z (f := 75) rfl ?_); refine goesL_ (some 7) rfl rfl Try.func75 (by kernel_rfl) rfl #[.slice A0 l0.length c0, .int .i64 a1] rfl (z6_) ?_; (with_reducible refine (slices_Index_int64_int64.calls k _ _ l0 a1 t101 _ ?side1 ?side2 A3.out).mono ?_); (case side1 => repeat (first | exact HR0.out | (with_reducible refine Kd.C_alloc ?_ _) | (with_reducible refine Kd.C_drewN ?_ _) | (with_reducible refine Kd.C_drew ?_))); (case side2 => exact HC0.out); rintro e w' ⟨rfl, ⟨nd, rfl⟩⟩; refine ⟨_, rfl, ?_⟩))
 go_ret
 exact ⟨by first | rfl | (simp; done) | (simp [*]; done), by repeat (first | exact Drawn0.refl _ | apply Drawn0.step)⟩
end Go.Proofs.Ytbjjefipcigaoaa.X
end
section
namespace Go.Proofs.Ytbjjefipcigaoaa.Q
open Go.RowKit Go.Proofs.Ytbjjefipcigaoaa.X Go.Proofs.YtbjjefipcigaoaaW.PrintWords Go.Proofs.YtbjjefipcigaoaaW.PrintLast Go.Proofs.YtbjjefipcigaoaaW.PrintMore
set_option linter.unusedVariables false
theorem wid {x : Int} (h1 : -9223372036854775808 ≤ x) (h2 : x ≤ 9223372036854775807) : wrap64 x = x := by unfold wrap64; omega
theorem wnat {i n : Nat} (h : i < n) (hn : n ≤ 1152921504606846976) : wrap64 ((i : Int) + 1) = ((i + 1 : Nat) : Int) := by unfold wrap64; omega
theorem evT {α : Type} {c : Prop} [Decidable c] {f g : Nat → Option α} {r : α} (h : c) (k : Ev f r) : Ev (fun n => if c then f n else g n) r := by
  obtain ⟨K, k⟩ := k; exact ⟨K, fun n hn => (if_pos h).trans (k n hn)⟩
theorem evF {α : Type} {c : Prop} [Decidable c] {f g : Nat → Option α} {r : α} (h : ¬ c) (k : Ev g r) : Ev (fun n => if c then f n else g n) r := by
  obtain ⟨K, k⟩ := k; exact ⟨K, fun n hn => (if_neg h).trans (k n hn)⟩
theorem evB {α β : Type} {x : Option α} {f : Nat → α → Option β} {a : α} {r : β} (h : x = some a) (k : Ev (fun n => f n a) r) : Ev (fun n => x.bind (f n)) r := by
  obtain ⟨K, k⟩ := k; exact ⟨K, fun n hn => by subst h; exact k n hn⟩
theorem evN {α : Type} {x : Option α} {r : α} (h : x = some r) : Ev (fun _ => x) r := ⟨0, fun _ _ => h⟩
theorem rdn (xs : List Int) (i : Nat) : rd xs (i : Int) = xs.getD i 0 := by unfold rd; simp
theorem rd_at (xs : List Int) (i : Nat) (h : i < xs.length) : rd xs (i : Int) = xs[i] := by rw [rdn]; simp [List.getD_eq_getElem?_getD, h]
theorem toInt64S_l (l : List Int) (hl : l.length ≤ 1152921504606846976) (d : Nat) : ∀ i : Nat, i + d = l.length → Ev (fun k => laws_toInt64S.l0 k l (l.take i ++ List.replicate d 0) (i : Int)) l := by
  induction d with
  | zero =>
    intro i hi
    refine Ev.step (fun _ => rfl) ?_
    refine evF (by omega) (evN ?_)
    simp [List.take_of_length_le (by omega : l.length ≤ i)]
  | succ d ih =>
    intro i hi
    refine Ev.step (fun _ => rfl) ?_
    refine evT (by omega) (evT (by omega) (evT (by simp; omega) ?_))
    rw [wnat (by omega) hl, Int.toNat_natCast, rd_at _ _ (by omega)]
    have e : (l.take i ++ List.replicate (d + 1) 0).set i (l[i]'(by omega)) = l.take (i + 1) ++ List.replicate d 0 := by
      rw [List.set_append_right _ _ (by simp [List.length_take]; omega)]
      have : i - (l.take i).length = 0 := by simp [List.length_take]; omega
      rw [this, List.replicate_succ, List.set_cons_zero, List.take_succ_eq_append_getElem (by omega), List.append_assoc]
      rfl
    rw [e]
    exact ih (i + 1) (by omega)
theorem toInt64S (l : List Int) (hl : l.length ≤ 35184372088832) : Ev (fun k => laws_toInt64S.f k l) l := by
  have h := toInt64S_l l (by omega) l.length 0 (by omega)
  refine Ev.congr (fun k => ?_) h
  unfold laws_toInt64S.f
  rw [if_pos (by omega), if_pos (by omega)]; simp
theorem eqInt64S_l (a b : List Int) (hl : a.length ≤ 1152921504606846976) (e : a.length = b.length) (d : Nat) : ∀ i : Nat, i + d = a.length → Ev (fun k => laws_eqInt64S.l0 k a b (i : Int)) (decide (a.drop i = b.drop i)) := by
  induction d with
  | zero =>
    intro i hi
    refine Ev.step (fun _ => rfl) ?_
    refine evF (by omega) (evN ?_)
    rw [List.drop_of_length_le (by omega), List.drop_of_length_le (by omega)]; simp
  | succ d ih =>
    intro i hi
    refine Ev.step (fun _ => rfl) ?_
    refine evT (by omega) (evT (by omega) (evT (by omega) ?_))
    rw [rd_at a i (by omega), rd_at b i (by omega), wnat (by omega) hl]
    have e2 : a.drop i = b.drop i ↔ a[i]'(by omega) = b[i]'(by omega) ∧ a.drop (i + 1) = b.drop (i + 1) := by
      rw [List.drop_eq_getElem_cons (by omega : i < a.length), List.drop_eq_getElem_cons (by omega : i < b.length), List.cons.injEq]
    by_cases h : a[i]'(by omega) = b[i]'(by omega)
    · refine evT h ?_
      rw [decide_eq_decide.2 (e2.trans (and_iff_right h))]
      exact ih (i + 1) (by omega)
    · refine evF h (evN ?_)
      rw [decide_eq_false (fun h2 => h (e2.1 h2).1)]
theorem eqInt64S (a b : List Int) (hl : a.length ≤ 1152921504606846976) : Ev (fun k => laws_eqInt64S.f k a b) (decide (a = b)) := by
  unfold laws_eqInt64S.f
  by_cases h : a.length = b.length
  · refine evT (by omega) ?_
    have := eqInt64S_l a b hl h a.length 0 (by omega)
    simpa using this
  · refine evF (by omega) (evN ?_)
    simp; intro e; exact h (by rw [e])
def marks (n : Nat) (a : Int) : List Int := (List.range n).map fun (i : Nat) => a + (i : Int)
theorem marks_length (n : Nat) (a : Int) : (marks n a).length = n := by simp [marks]
theorem markInt64S_l (n : Nat) (a : Int) (h0 : 0 ≤ a) (ha : a + n ≤ 1152921504606846976) (d : Nat) : ∀ (i : Nat) (xs : List Int), xs.length = n → xs.take i = (marks n a).take i → i + d = n →
    Ev (fun k => laws_markInt64S.l0 k xs (a + i) (i : Int)) (a + n, marks n a) := by
  induction d with
  | zero =>
    intro i xs hx ht hi
    refine Ev.step (fun _ => rfl) ?_
    refine evF (by omega) (evN ?_)
    rw [List.take_of_length_le (by omega), List.take_of_length_le (by rw [marks_length]; omega)] at ht
    rw [ht, show i = n by omega]
  | succ d ih =>
    intro i xs hx ht hi
    refine Ev.step (fun _ => rfl) ?_
    refine evT (by omega) (evT (by omega) ?_)
    rw [wnat (n := n) (by omega) (by omega), wid (by omega) (by omega), Int.toNat_natCast, show a + (i : Int) + 1 = a + ((i + 1 : Nat) : Int) by omega]
    refine ih (i + 1) _ (by simpa using hx) ?_ (by omega)
    rw [List.take_set, List.take_succ_eq_append_getElem (by omega : i < xs.length), List.take_succ_eq_append_getElem (by rw [marks_length]; omega : i < (marks n a).length), ht, List.set_append_right _ _ (by rw [List.length_take]; omega)]
    have : i - ((marks n a).take i).length = 0 := by simp [List.length_take, marks_length]; omega
    rw [this]; simp [marks]
theorem markInt64S (xs : List Int) (a : Int) (h0 : 0 ≤ a) (ha : a + xs.length ≤ 1152921504606846976) : Ev (fun k => laws_markInt64S.f k xs a) (a + xs.length, marks xs.length a) := by
  have h := markInt64S_l xs.length a h0 ha xs.length 0 xs rfl rfl (by omega)
  simpa [laws_markInt64S.f] using h
theorem heldInt64S_l (n : Nat) (a : Int) (h0 : 0 ≤ a) (ha : a + n ≤ 1152921504606846976) (d : Nat) : ∀ (i : Nat), i + d = n → Ev (fun k => laws_heldInt64S.l0 k (marks n a) (a + i) (i : Int)) (a + n) := by
  induction d with
  | zero =>
    intro i hi
    refine Ev.step (fun _ => rfl) ?_
    refine evF (by rw [marks_length]; omega) (evN ?_)
    rw [show i = n by omega]
  | succ d ih =>
    intro i hi
    refine Ev.step (fun _ => rfl) ?_
    refine evT (by rw [marks_length]; omega) (evT (by omega) (evT (by rw [rd_at _ _ (by rw [marks_length]; omega)]; simp [marks]) ?_))
    rw [wnat (n := n) (by omega) (by omega), wid (by omega) (by omega), show a + (i : Int) + 1 = a + ((i + 1 : Nat) : Int) by omega]
    exact ih (i + 1) (by omega)
theorem heldInt64S (n : Nat) (a : Int) (h0 : 0 ≤ a) (ha : a + n ≤ 1152921504606846976) : Ev (fun k => laws_heldInt64S.f k (marks n a) a) (a + n) := by
  have h := heldInt64S_l n a h0 ha n 0 (by omega)
  simpa [laws_heldInt64S.f] using h
end Go.Proofs.Ytbjjefipcigaoaa.Q
end
section
namespace Go.Proofs.Ytbjjefipcigaoaa.X
open Go.RowKit Go.Proofs.YtbjjefipcigaoaaW.PrintWords Go.Proofs.YtbjjefipcigaoaaW.PrintLast Go.Proofs.YtbjjefipcigaoaaW.PrintMore
attribute [local go_sem] max2_int min2_int max_two min_two max_three min_three max_four min_four
set_option linter.unusedVariables false
set_option linter.unusedSimpArgs false
def impl_within.f (a0 : Int) (a1 : Int) (a2 : Int) : Option (Bool) := if a0 ≥ a1 then (some (decide (a0 ≤ a2))) else (some false)
set_option maxHeartbeats 8000000 in
set_option maxRecDepth 100000 in
theorem impl_within.calls (a0 : Int) (a1 : Int) (a2 : Int) (r : Bool) (w : World) (h : impl_within.f a0 a1 a2 = some r) :
  Calls Try.prog 63 #[.int .i64 a0, .int .i64 a1, .int .i64 a2] w fun e w' => e = .returned (.bool r) ∧ Drawn0 w w' := by
 have H : (if a0 ≥ a1 then (some (decide (a0 ≤ a2))) else (some false)) = some r := h
 clear h
 by_cases c4 : a0 ≥ a1
 ·rw [if_pos c4] at H
  have c4b0 : decide (a1 ≤ a0) = true := decide_eq_true c4
  clear c4
  obtain rfl := Option.some.inj H
  go_enter Try.func63, Try.ntmps63
  go_wp2
  go_ret
  exact ⟨by first | rfl | (simp; done) | (simp [*]; done), by repeat (first | exact Drawn0.refl _ | apply Drawn0.step)⟩
 rw [if_neg c4] at H
 have c4b0 : decide (a1 ≤ a0) = false := decide_eq_false c4
 clear c4
 obtain rfl := Option.some.inj H
 go_enter Try.func63, Try.ntmps63
 go_wp2
 go_ret
 exact ⟨by first | rfl | (simp; done) | (simp [*]; done), by repeat (first | exact Drawn0.refl _ | apply Drawn0.step)⟩
end Go.Proofs.Ytbjjefipcigaoaa.X
end
section
namespace Go.Proofs.Ytbjjefipcigaoaa.X
open Go.RowKit Go.Proofs.YtbjjefipcigaoaaW.PrintWords Go.Proofs.YtbjjefipcigaoaaW.PrintLast Go.Proofs.YtbjjefipcigaoaaW.PrintMore
attribute [local go_sem] max2_int min2_int max_two min_two max_three min_three max_four min_four
set_option linter.unusedVariables false
set_option linter.unusedSimpArgs false
def impl_IsGraph.l0 : Nat → List (List Int) → Int → Int → Int → List (List Int) → Option (Bool)
 | 0, _, _, _, _, _ => none
 | k + 1, x6, x7, x8, x102000, x102001 => if x8 < x7 then (if 0 ≤ x8 then (if x8 < (x6.length : Int) then (if ((rd_L1 x6 x8).length : Int) = 2 then (if 0 < ((rd_L1 x6 x8).length : Int) then ((impl_within.f (rd (rd_L1 x6 x8) 0) 0 (wrap64 (x102000 - 1))).bind fun t105 => (if t105 = true then (if 1 < ((rd_L1 x6 x8).length : Int) then ((impl_within.f (rd (rd_L1 x6 x8) 1) 0 (wrap64 (x102000 - 1))).bind fun t107 => (if t107 = true then (impl_IsGraph.l0 k x6 x7 (wrap64 (x8 + 1)) x102000 x102001) else (some false))) else (none)) else (some false))) else (none)) else (some false)) else (none)) else (none)) else ((impl_within.f x102000 1 8).bind fun t102 => (if t102 = true then (some (decide ((x102001.length : Int) ≤ 10))) else (some false)))
def impl_IsGraph.f (k : Nat) (a0_0 : Int) (l0_1 : List (List Int)) : Option (Bool) := impl_IsGraph.l0 k l0_1 (l0_1.length : Int) 0 a0_0 l0_1
set_option maxHeartbeats 8000000 in
set_option maxRecDepth 100000 in
theorem impl_IsGraph.calls (k : Nat) (a0_0 : Int) (A0_1 : Option Addr) (c0_1 : Nat) (l0_1 : List (List Int)) (r : Bool) (w : World) (hr0_1 : Kd.C (Kd.slice 2 (Kd.int .i64)) w A0_1 l0_1.length l0_1) (hc0_1 : l0_1.length ≤ c0_1) (h : impl_IsGraph.f k a0_0 l0_1 = some r) :
  Calls Try.prog 34 #[.agg #[.int .i64 a0_0, .slice A0_1 l0_1.length c0_1]] w fun e w' => e = .returned (.bool r) ∧ Below w.heap.size w w' := by
 have hu28 := Try.underlying28
 have HR0_1 := Aside0.mk hr0_1
 have HC0_1 := Aside0.mk hc0_1
 clear hr0_1 hc0_1
 have HB := Aside0.mk (Below.refl w.heap.size w)
 have H : (impl_IsGraph.l0 k l0_1 (l0_1.length : Int) 0 a0_0 l0_1) = some r := h
 clear h
 have H' := Aside0.mk H
 clear H
 go_enter Try.func34, Try.ntmps34
 go_wp2_with (first | ((with_reducible refine w5z (N := 1) rfl ?_); (try (refine gate_guard (by rfl) ?_; dsimp only)); refine w7z ?hg (N := 1) ?hd (cs := #[.int .i64 a0_0, .slice A0_1 l0_1.length c0_1]) (t := 28) ?hr ?_; (case hd => rfl); (case hg => rfl); (case hr => first | (go_simp; done) | (go_simp; rfl)); intro gb101 hg w2 hbox hb; have n0_ := Aside0.mk (w3z (z2_) hb); have n1_ := Aside0.mk (hbox); have n2_ := Aside0.mk ((by rw [hg]; exact (w2z (z2_)) : w.heap.size ≤ gb101)); have n3_ := Aside0.mk ((by rw [hg]; exact (w2z (z2_)) : w.heap.size ≤ gb101)); clear HB; have HB := n0_; have BK101 := n1_; have GW101 := n2_; have GE101 := n3_; clear n0_ n1_ n2_ n3_; clear hb hbox hg; have hcz3_0 : w2.cell? ⟨gb101, 0, none⟩ = some (.int .i64 a0_0) := (w0z BK101.out 0).trans rfl; have hcz3_1 : w2.cell? ⟨gb101, 1, none⟩ = some (.slice A0_1 l0_1.length c0_1) := (w0z BK101.out 1).trans rfl; have hfz3_0 := w1z BK101.out 0; have hfz3_1 := w1z BK101.out 1))
 repeat (go_quiet (first | ((with_reducible refine w5z (N := 1) rfl ?_); (try (refine gate_guard (by rfl) ?_; dsimp only)); refine w7z ?hg (N := 1) ?hd (cs := #[.int .i64 a0_0, .slice A0_1 l0_1.length c0_1]) (t := 28) ?hr ?_; (case hd => rfl); (case hg => rfl); (case hr => first | (go_simp; done) | (go_simp; rfl)); intro gb101 hg w2 hbox hb; have n0_ := Aside0.mk (w3z (z2_) hb); have n1_ := Aside0.mk (hbox); have n2_ := Aside0.mk ((by rw [hg]; exact (w2z (z2_)) : w.heap.size ≤ gb101)); have n3_ := Aside0.mk ((by rw [hg]; exact (w2z (z2_)) : w.heap.size ≤ gb101)); clear HB; have HB := n0_; have BK101 := n1_; have GW101 := n2_; have GE101 := n3_; clear n0_ n1_ n2_ n3_; clear hb hbox hg; have hcz3_0 : w2.cell? ⟨gb101, 0, none⟩ = some (.int .i64 a0_0) := (w0z BK101.out 0).trans rfl; have hcz3_1 : w2.cell? ⟨gb101, 1, none⟩ = some (.slice A0_1 l0_1.length c0_1) := (w0z BK101.out 1).trans rfl; have hfz3_0 := w1z BK101.out 0; have hfz3_1 := w1z BK101.out 1)); try go_wp2_with (first | ((with_reducible refine w5z (N := 1) rfl ?_); (try (refine gate_guard (by rfl) ?_; dsimp only)); refine w7z ?hg (N := 1) ?hd (cs := #[.int .i64 a0_0, .slice A0_1 l0_1.length c0_1]) (t := 28) ?hr ?_; (case hd => rfl); (case hg => rfl); (case hr => first | (go_simp; done) | (go_simp; rfl)); intro gb101 hg w2 hbox hb; have n0_ := Aside0.mk (w3z (z2_) hb); have n1_ := Aside0.mk (hbox); have n2_ := Aside0.mk ((by rw [hg]; exact (w2z (z2_)) : w.heap.size ≤ gb101)); have n3_ := Aside0.mk ((by rw [hg]; exact (w2z (z2_)) : w.heap.size ≤ gb101)); clear HB; have HB := n0_; have BK101 := n1_; have GW101 := n2_; have GE101 := n3_; clear n0_ n1_ n2_ n3_; clear hb hbox hg; have hcz3_0 : w2.cell? ⟨gb101, 0, none⟩ = some (.int .i64 a0_0) := (w0z BK101.out 0).trans rfl; have hcz3_1 : w2.cell? ⟨gb101, 1, none⟩ = some (.slice A0_1 l0_1.length c0_1) := (w0z BK101.out 1).trans rfl; have hfz3_0 := w1z BK101.out 0; have hfz3_1 := w1z BK101.out 1)))
 go_loopg [8] k (fun kq v8 w' => ∃ (x8_1 : Int), v8 = .int .i64 x8_1 ∧ Aside0 (impl_IsGraph.l0 kq l0_1 (l0_1.length : Int) x8_1 a0_0 l0_1 = some r) ∧ Aside0 (kq ≤ k) ∧ Aside0 (w'.heap[gb101]? = some (.cells #[.int .i64 a0_0, (.slice A0_1 l0_1.length c0_1)] 28 (0, 0))) ∧ Aside0 (Below w.heap.size w w'))
 case atStart => exact ⟨(0), (by first | rfl | (simp; done) | (simp [*]; done)), H', ⟨Nat.le_refl _⟩, ⟨z1_⟩, ⟨z5_⟩⟩
 case round =>
  clear H'
  try clear hcz3_0
  try clear hcz3_1
  try clear hfz3_0
  try clear hfz3_1
  obtain ⟨x8_1, rfl, HA, HK1, BK101, HB⟩ := hrel
  cases gk with
  | zero => exact absurd HA.out (by simp [impl_IsGraph.l0])
  | succ k1 =>
   have H := HA.out
   clear HA
   simp only [impl_IsGraph.l0] at H
   by_cases c4 : x8_1 < (l0_1.length : Int)
   rotate_left
   ·rw [if_neg c4] at H
    have c4b0 : decide (x8_1 < (l0_1.length : Int)) = false := decide_eq_false c4
    clear c4
    replace H := Option.bind_eq_some_iff.mp H
    obtain ⟨t102, A170, H⟩ := H
    replace H : (if t102 = true then (some (decide ((l0_1.length : Int) ≤ 10))) else (some false)) = some r := H
    have A17 := Aside0.mk A170
    clear A170
    by_cases c18 : t102 = true
    ·subst c18
     have H1 : (some (decide ((l0_1.length : Int) ≤ 10))) = some r := by rw [if_pos rfl] at H; exact H
     clear H
     have H := H1
     clear H1
     obtain rfl := Option.some.inj H
     have hcz19_0 : wr.cell? ⟨gb101, 0, none⟩ = some (.int .i64 a0_0) := (w0z BK101.out 0).trans rfl
     have hcz19_1 : wr.cell? ⟨gb101, 1, none⟩ = some (.slice A0_1 l0_1.length c0_1) := (w0z BK101.out 1).trans rfl
     have hfz19_0 := w1z BK101.out 0
     have hfz19_1 := w1z BK101.out 1
     go_wp2_with (first | (go_at_call 63; (with_reducible refine (impl_within.calls a0_0 1 8 true _ A17.out).mono ?_); rintro e w' ⟨rfl, ⟨nd, rfl⟩⟩; (try first | exact ⟨rfl, _, World.drewN_drewN _ _ _⟩ | exact ⟨rfl, _, Eq.trans (World.drewN_drewN _ _ _) (congrArg (World.drewN _) (Nat.add_assoc _ _ _))⟩)))
     repeat (go_quiet (first | (go_at_call 63; (with_reducible refine (impl_within.calls a0_0 1 8 true _ A17.out).mono ?_); rintro e w' ⟨rfl, ⟨nd, rfl⟩⟩; (try first | exact ⟨rfl, _, World.drewN_drewN _ _ _⟩ | exact ⟨rfl, _, Eq.trans (World.drewN_drewN _ _ _) (congrArg (World.drewN _) (Nat.add_assoc _ _ _))⟩))); try go_wp2_with (first | (go_at_call 63; (with_reducible refine (impl_within.calls a0_0 1 8 true _ A17.out).mono ?_); rintro e w' ⟨rfl, ⟨nd, rfl⟩⟩; (try first | exact ⟨rfl, _, World.drewN_drewN _ _ _⟩ | exact ⟨rfl, _, Eq.trans (World.drewN_drewN _ _ _) (congrArg (World.drewN _) (Nat.add_assoc _ _ _))⟩))))
     go_ret
     exact ⟨by first | rfl | (simp [errW_none, errW_some] <;> rfl) | (simp [*, errW_none, errW_some] <;> rfl), z5_⟩
    replace c18 := Bool.eq_false_iff.mpr c18
    subst c18
    have H1 : (some false) = some r := by rw [if_neg (show ¬ (false = true) by decide)] at H; exact H
    clear H
    have H := H1
    clear H1
    obtain rfl := Option.some.inj H
    have hcz20_0 : wr.cell? ⟨gb101, 0, none⟩ = some (.int .i64 a0_0) := (w0z BK101.out 0).trans rfl
    have hcz20_1 : wr.cell? ⟨gb101, 1, none⟩ = some (.slice A0_1 l0_1.length c0_1) := (w0z BK101.out 1).trans rfl
    have hfz20_0 := w1z BK101.out 0
    have hfz20_1 := w1z BK101.out 1
    go_wp2_with (first | (go_at_call 63; (with_reducible refine (impl_within.calls a0_0 1 8 false _ A17.out).mono ?_); rintro e w' ⟨rfl, ⟨nd, rfl⟩⟩; (try first | exact ⟨rfl, _, World.drewN_drewN _ _ _⟩ | exact ⟨rfl, _, Eq.trans (World.drewN_drewN _ _ _) (congrArg (World.drewN _) (Nat.add_assoc _ _ _))⟩)))
    repeat (go_quiet (first | (go_at_call 63; (with_reducible refine (impl_within.calls a0_0 1 8 false _ A17.out).mono ?_); rintro e w' ⟨rfl, ⟨nd, rfl⟩⟩; (try first | exact ⟨rfl, _, World.drewN_drewN _ _ _⟩ | exact ⟨rfl, _, Eq.trans (World.drewN_drewN _ _ _) (congrArg (World.drewN _) (Nat.add_assoc _ _ _))⟩))); try go_wp2_with (first | (go_at_call 63; (with_reducible refine (impl_within.calls a0_0 1 8 false _ A17.out).mono ?_); rintro e w' ⟨rfl, ⟨nd, rfl⟩⟩; (try first | exact ⟨rfl, _, World.drewN_drewN _ _ _⟩ | exact ⟨rfl, _, Eq.trans (World.drewN_drewN _ _ _) (congrArg (World.drewN _) (Nat.add_assoc _ _ _))⟩))))
    go_ret
    exact ⟨by first | rfl | (simp [errW_none, errW_some] <;> rfl) | (simp [*, errW_none, errW_some] <;> rfl), z5_⟩
   rw [if_pos c4] at H
   have c4b0 : decide (x8_1 < (l0_1.length : Int)) = true := decide_eq_true c4
   clear c4
   by_cases c5 : 0 ≤ x8_1
   rotate_left
   ·rw [if_neg c5] at H
    exact absurd H (by simp)
   rw [if_pos c5] at H
   have c5b0 : decide (0 ≤ x8_1) = true := decide_eq_true c5
   clear c5
   by_cases c6 : x8_1 < (l0_1.length : Int)
   rotate_left
   ·rw [if_neg c6] at H
    exact absurd H (by simp)
   rw [if_pos c6] at H
   have c6b0 : decide (x8_1 < (l0_1.length : Int)) = true := decide_eq_true c6
   clear c6
   by_cases c7 : ((rd_L1 l0_1 x8_1).length : Int) = 2
   rotate_left
   ·rw [if_neg c7] at H
    have c7b0 : (((rd_L1 l0_1 x8_1).length : Int) == 2) = false := beq_eq_false_iff_ne.mpr c7
    have c7b1 : (((rd_L1 l0_1 x8_1).length : Int) != 2) = true := bne_iff_ne.mpr c7
    obtain rfl := Option.some.inj H
    have p103 : 0 ≤ (x8_1 : Int) := of_decide_eq_true (z0_)
    have q103 : x8_1 < (l0_1.length : Int) := of_decide_eq_true (z0_)
    obtain ⟨ad103, A103_0, c103_0, e103, hx103_0, hl103_0, hi103_0⟩ := at_L1 HR0_1.out x8_1 p103 q103
    cases e103
    replace hx103_0 := (HB.out.cell (World.block_lt_of_cell? w _ hx103_0)).trans hx103_0
    have HR103_0 := Aside0.mk hi103_0
    have HC103_0 := Aside0.mk hl103_0
    clear hi103_0 hl103_0
    replace p103 := eq_true p103
    replace q103 := eq_true q103
    go_wp2
    repeat (go_quiet (fail); try go_wp2)
    go_ret
    exact ⟨by first | rfl | (simp [errW_none, errW_some] <;> rfl) | (simp [*, errW_none, errW_some] <;> rfl), z5_⟩
   rw [if_pos c7] at H
   have c7b0 : (((rd_L1 l0_1 x8_1).length : Int) == 2) = true := beq_iff_eq.mpr c7
   have c7b1 : (((rd_L1 l0_1 x8_1).length : Int) != 2) = false := bne_eq_false_iff_eq.mpr c7
   clear c7
   by_cases c8 : 0 < ((rd_L1 l0_1 x8_1).length : Int)
   rotate_left
   ·rw [if_neg c8] at H
    exact absurd H (by simp)
   rw [if_pos c8] at H
   have c8b0 : decide (0 < ((rd_L1 l0_1 x8_1).length : Int)) = true := decide_eq_true c8
   have c8b1 : decide (0 < (rd_L1 l0_1 x8_1).length) = true := decide_eq_true (by omega)
   clear c8
   replace H := Option.bind_eq_some_iff.mp H
   obtain ⟨t105, A90, H⟩ := H
   replace H : (if t105 = true then (if 1 < ((rd_L1 l0_1 x8_1).length : Int) then ((impl_within.f (rd (rd_L1 l0_1 x8_1) 1) 0 (wrap64 (a0_0 - 1))).bind fun t107 => (if t107 = true then (impl_IsGraph.l0 k1 l0_1 (l0_1.length : Int) (wrap64 (x8_1 + 1)) a0_0 l0_1) else (some false))) else (none)) else (some false)) = some r := H
   have A9 := Aside0.mk A90
   clear A90
   by_cases c10 : t105 = true
   rotate_left
   ·replace c10 := Bool.eq_false_iff.mpr c10
    subst c10
    have H1 : (some false) = some r := by rw [if_neg (show ¬ (false = true) by decide)] at H; exact H
    clear H
    have H := H1
    clear H1
    obtain rfl := Option.some.inj H
    have p103 : 0 ≤ (x8_1 : Int) := of_decide_eq_true (z0_)
    have q103 : x8_1 < (l0_1.length : Int) := of_decide_eq_true (z0_)
    obtain ⟨ad103, A103_0, c103_0, e103, hx103_0, hl103_0, hi103_0⟩ := at_L1 HR0_1.out x8_1 p103 q103
    cases e103
    replace hx103_0 := (HB.out.cell (World.block_lt_of_cell? w _ hx103_0)).trans hx103_0
    have HR103_0 := Aside0.mk hi103_0
    have HC103_0 := Aside0.mk hl103_0
    clear hi103_0 hl103_0
    replace p103 := eq_true p103
    replace q103 := eq_true q103
    have p104 : 0 ≤ (0 : Int) := (by omega)
    have q104 : 0 < ((rd_L1 l0_1 x8_1).length : Int) := of_decide_eq_true (z0_)
    obtain ⟨ad104, e104, hx104_0⟩ := Kd.at_int HR103_0.out 0 p104 q104
    cases e104
    have qi104 : (0 < (rd_L1 l0_1 x8_1).length) = True := eq_true (by omega)
    (try rw [show ((0 : Int)).toNat = 0 from rfl] at hx104_0)
    (try rw [Addr.add_zero'] at hx104_0)
    replace hx104_0 := (HB.out.cell (World.block_lt_of_cell? w _ hx104_0)).trans hx104_0
    replace p104 := eq_true p104
    replace q104 := eq_true q104
    have hcz16_0 : wr.cell? ⟨gb101, 0, none⟩ = some (.int .i64 a0_0) := (w0z BK101.out 0).trans rfl
    have hcz16_1 : wr.cell? ⟨gb101, 1, none⟩ = some (.slice (some ad103) l0_1.length c0_1) := (w0z BK101.out 1).trans rfl
    have hfz16_0 := w1z BK101.out 0
    have hfz16_1 := w1z BK101.out 1
    go_wp2_with (first | (go_at_call 63; (with_reducible refine (impl_within.calls (rd (rd_L1 l0_1 x8_1) 0) 0 (wrap64 (a0_0 - 1)) false _ A9.out).mono ?_); rintro e w' ⟨rfl, ⟨nd, rfl⟩⟩; (try first | exact ⟨rfl, _, World.drewN_drewN _ _ _⟩ | exact ⟨rfl, _, Eq.trans (World.drewN_drewN _ _ _) (congrArg (World.drewN _) (Nat.add_assoc _ _ _))⟩)))
    repeat (go_quiet (first | (go_at_call 63; (with_reducible refine (impl_within.calls (rd (rd_L1 l0_1 x8_1) 0) 0 (wrap64 (a0_0 - 1)) false _ A9.out).mono ?_); rintro e w' ⟨rfl, ⟨nd, rfl⟩⟩; (try first | exact ⟨rfl, _, World.drewN_drewN _ _ _⟩ | exact ⟨rfl, _, Eq.trans (World.drewN_drewN _ _ _) (congrArg (World.drewN _) (Nat.add_assoc _ _ _))⟩))); try go_wp2_with (first | (go_at_call 63; (with_reducible refine (impl_within.calls (rd (rd_L1 l0_1 x8_1) 0) 0 (wrap64 (a0_0 - 1)) false _ A9.out).mono ?_); rintro e w' ⟨rfl, ⟨nd, rfl⟩⟩; (try first | exact ⟨rfl, _, World.drewN_drewN _ _ _⟩ | exact ⟨rfl, _, Eq.trans (World.drewN_drewN _ _ _) (congrArg (World.drewN _) (Nat.add_assoc _ _ _))⟩))))
    go_ret
    exact ⟨by first | rfl | (simp [errW_none, errW_some] <;> rfl) | (simp [*, errW_none, errW_some] <;> rfl), z5_⟩
   subst c10
   have H1 : (if 1 < ((rd_L1 l0_1 x8_1).length : Int) then ((impl_within.f (rd (rd_L1 l0_1 x8_1) 1) 0 (wrap64 (a0_0 - 1))).bind fun t107 => (if t107 = true then (impl_IsGraph.l0 k1 l0_1 (l0_1.length : Int) (wrap64 (x8_1 + 1)) a0_0 l0_1) else (some false))) else (none)) = some r := by rw [if_pos rfl] at H; exact H
   clear H
   have H := H1
   clear H1
   by_cases c11 : 1 < ((rd_L1 l0_1 x8_1).length : Int)
   rotate_left
   ·rw [if_neg c11] at H
    exact absurd H (by simp)
   rw [if_pos c11] at H
   have c11b0 : decide (1 < ((rd_L1 l0_1 x8_1).length : Int)) = true := decide_eq_true c11
   have c11b1 : decide (1 < (rd_L1 l0_1 x8_1).length) = true := decide_eq_true (by omega)
   clear c11
   replace H := Option.bind_eq_some_iff.mp H
   obtain ⟨t107, A120, H⟩ := H
   replace H : (if t107 = true then (impl_IsGraph.l0 k1 l0_1 (l0_1.length : Int) (wrap64 (x8_1 + 1)) a0_0 l0_1) else (some false)) = some r := H
   have A12 := Aside0.mk A120
   clear A120
   by_cases c13 : t107 = true
   rotate_left
   ·replace c13 := Bool.eq_false_iff.mpr c13
    subst c13
    have H1 : (some false) = some r := by rw [if_neg (show ¬ (false = true) by decide)] at H; exact H
    clear H
    have H := H1
    clear H1
    obtain rfl := Option.some.inj H
    have p103 : 0 ≤ (x8_1 : Int) := of_decide_eq_true (z0_)
    have q103 : x8_1 < (l0_1.length : Int) := of_decide_eq_true (z0_)
    obtain ⟨ad103, A103_0, c103_0, e103, hx103_0, hl103_0, hi103_0⟩ := at_L1 HR0_1.out x8_1 p103 q103
    cases e103
    replace hx103_0 := (HB.out.cell (World.block_lt_of_cell? w _ hx103_0)).trans hx103_0
    have HR103_0 := Aside0.mk hi103_0
    have HC103_0 := Aside0.mk hl103_0
    clear hi103_0 hl103_0
    replace p103 := eq_true p103
    replace q103 := eq_true q103
    have p104 : 0 ≤ (0 : Int) := (by omega)
    have q104 : 0 < ((rd_L1 l0_1 x8_1).length : Int) := of_decide_eq_true (z0_)
    obtain ⟨ad104, e104, hx104_0⟩ := Kd.at_int HR103_0.out 0 p104 q104
    cases e104
    have qi104 : (0 < (rd_L1 l0_1 x8_1).length) = True := eq_true (by omega)
    (try rw [show ((0 : Int)).toNat = 0 from rfl] at hx104_0)
    (try rw [Addr.add_zero'] at hx104_0)
    replace hx104_0 := (HB.out.cell (World.block_lt_of_cell? w _ hx104_0)).trans hx104_0
    replace p104 := eq_true p104
    replace q104 := eq_true q104
    have hcz15_0 : wr.cell? ⟨gb101, 0, none⟩ = some (.int .i64 a0_0) := (w0z BK101.out 0).trans rfl
    have hcz15_1 : wr.cell? ⟨gb101, 1, none⟩ = some (.slice (some ad103) l0_1.length c0_1) := (w0z BK101.out 1).trans rfl
    have hfz15_0 := w1z BK101.out 0
    have hfz15_1 := w1z BK101.out 1
    have p106 : 0 ≤ (1 : Int) := (by omega)
    have q106 : 1 < ((rd_L1 l0_1 x8_1).length : Int) := of_decide_eq_true (z0_)
    obtain ⟨ad106, e106, hx106_0⟩ := Kd.at_int HR103_0.out 1 p106 q106
    obtain rfl : ad104 = ad106 := (by injection e106)
    (try simp only [show (1 : Int).toNat = 1 from rfl, Nat.reduceMul, Nat.reduceEqDiff, Go.Addr.add, ↓reduceIte] at hx106_0)
    have qi106 : (1 < (rd_L1 l0_1 x8_1).length) = True := eq_true (by omega)
    (try rw [show ((1 : Int)).toNat = 1 from rfl] at hx106_0)
    replace hx106_0 := (HB.out.cell (World.block_lt_of_cell? w _ hx106_0)).trans hx106_0
    replace p106 := eq_true p106
    replace q106 := eq_true q106
    go_wp2_with (first | (go_at_call 63; (with_reducible refine (impl_within.calls (rd (rd_L1 l0_1 x8_1) 0) 0 (wrap64 (a0_0 - 1)) true _ A9.out).mono ?_); rintro e w' ⟨rfl, ⟨nd, rfl⟩⟩; (try first | exact ⟨rfl, _, World.drewN_drewN _ _ _⟩ | exact ⟨rfl, _, Eq.trans (World.drewN_drewN _ _ _) (congrArg (World.drewN _) (Nat.add_assoc _ _ _))⟩)) | (go_at_call 63; (with_reducible refine (impl_within.calls (rd (rd_L1 l0_1 x8_1) 1) 0 (wrap64 (a0_0 - 1)) false _ A12.out).mono ?_); rintro e w' ⟨rfl, ⟨nd, rfl⟩⟩; (try first | exact ⟨rfl, _, World.drewN_drewN _ _ _⟩ | exact ⟨rfl, _, Eq.trans (World.drewN_drewN _ _ _) (congrArg (World.drewN _) (Nat.add_assoc _ _ _))⟩)))
    repeat (go_quiet (first | (go_at_call 63; (with_reducible refine (impl_within.calls (rd (rd_L1 l0_1 x8_1) 0) 0 (wrap64 (a0_0 - 1)) true _ A9.out).mono ?_); rintro e w' ⟨rfl, ⟨nd, rfl⟩⟩; (try first | exact ⟨rfl, _, World.drewN_drewN _ _ _⟩ | exact ⟨rfl, _, Eq.trans (World.drewN_drewN _ _ _) (congrArg (World.drewN _) (Nat.add_assoc _ _ _))⟩)) | (go_at_call 63; (with_reducible refine (impl_within.calls (rd (rd_L1 l0_1 x8_1) 1) 0 (wrap64 (a0_0 - 1)) false _ A12.out).mono ?_); rintro e w' ⟨rfl, ⟨nd, rfl⟩⟩; (try first | exact ⟨rfl, _, World.drewN_drewN _ _ _⟩ | exact ⟨rfl, _, Eq.trans (World.drewN_drewN _ _ _) (congrArg (World.drewN _) (Nat.add_assoc _ _ _))⟩))); try go_wp2_with (first | (go_at_call 63; (with_reducible refine (impl_within.calls (rd (rd_L1 l0_1 x8_1) 0) 0 (wrap64 (a0_0 - 1)) true _ A9.out).mono ?_); rintro e w' ⟨rfl, ⟨nd, rfl⟩⟩; (try first | exact ⟨rfl, _, World.drewN_drewN _ _ _⟩ | exact ⟨rfl, _, Eq.trans (World.drewN_drewN _ _ _) (congrArg (World.drewN _) (Nat.add_assoc _ _ _))⟩)) | (go_at_call 63; (with_reducible refine (impl_within.calls (rd (rd_L1 l0_1 x8_1) 1) 0 (wrap64 (a0_0 - 1)) false _ A12.out).mono ?_); rintro e w' ⟨rfl, ⟨nd, rfl⟩⟩; (try first | exact ⟨rfl, _, World.drewN_drewN _ _ _⟩ | exact ⟨rfl, _, Eq.trans (World.drewN_drewN _ _ _) (congrArg (World.drewN _) (Nat.add_assoc _ _ _))⟩))))
    go_ret
    exact ⟨by first | rfl | (simp [errW_none, errW_some] <;> rfl) | (simp [*, errW_none, errW_some] <;> rfl), z5_⟩
   subst c13
   have H1 : (impl_IsGraph.l0 k1 l0_1 (l0_1.length : Int) (wrap64 (x8_1 + 1)) a0_0 l0_1) = some r := by rw [if_pos rfl] at H; exact H
   clear H
   have H := H1
   clear H1
   have H' := Aside0.mk H
   clear H
   have p103 : 0 ≤ (x8_1 : Int) := of_decide_eq_true (z0_)
   have q103 : x8_1 < (l0_1.length : Int) := of_decide_eq_true (z0_)
   obtain ⟨ad103, A103_0, c103_0, e103, hx103_0, hl103_0, hi103_0⟩ := at_L1 HR0_1.out x8_1 p103 q103
   cases e103
   replace hx103_0 := (HB.out.cell (World.block_lt_of_cell? w _ hx103_0)).trans hx103_0
   have HR103_0 := Aside0.mk hi103_0
   have HC103_0 := Aside0.mk hl103_0
   clear hi103_0 hl103_0
   replace p103 := eq_true p103
   replace q103 := eq_true q103
   have p104 : 0 ≤ (0 : Int) := (by omega)
   have q104 : 0 < ((rd_L1 l0_1 x8_1).length : Int) := of_decide_eq_true (z0_)
   obtain ⟨ad104, e104, hx104_0⟩ := Kd.at_int HR103_0.out 0 p104 q104
   cases e104
   have qi104 : (0 < (rd_L1 l0_1 x8_1).length) = True := eq_true (by omega)
   (try rw [show ((0 : Int)).toNat = 0 from rfl] at hx104_0)
   (try rw [Addr.add_zero'] at hx104_0)
   replace hx104_0 := (HB.out.cell (World.block_lt_of_cell? w _ hx104_0)).trans hx104_0
   replace p104 := eq_true p104
   replace q104 := eq_true q104
   have hcz14_0 : wr.cell? ⟨gb101, 0, none⟩ = some (.int .i64 a0_0) := (w0z BK101.out 0).trans rfl
   have hcz14_1 : wr.cell? ⟨gb101, 1, none⟩ = some (.slice (some ad103) l0_1.length c0_1) := (w0z BK101.out 1).trans rfl
   have hfz14_0 := w1z BK101.out 0
   have hfz14_1 := w1z BK101.out 1
   have p106 : 0 ≤ (1 : Int) := (by omega)
   have q106 : 1 < ((rd_L1 l0_1 x8_1).length : Int) := of_decide_eq_true (z0_)
   obtain ⟨ad106, e106, hx106_0⟩ := Kd.at_int HR103_0.out 1 p106 q106
   obtain rfl : ad104 = ad106 := (by injection e106)
   (try simp only [show (1 : Int).toNat = 1 from rfl, Nat.reduceMul, Nat.reduceEqDiff, Go.Addr.add, ↓reduceIte] at hx106_0)
   have qi106 : (1 < (rd_L1 l0_1 x8_1).length) = True := eq_true (by omega)
   (try rw [show ((1 : Int)).toNat = 1 from rfl] at hx106_0)
   replace hx106_0 := (HB.out.cell (World.block_lt_of_cell? w _ hx106_0)).trans hx106_0
   replace p106 := eq_true p106
   replace q106 := eq_true q106
   go_wp2_with (first | (go_at_call 63; (with_reducible refine (impl_within.calls (rd (rd_L1 l0_1 x8_1) 0) 0 (wrap64 (a0_0 - 1)) true _ A9.out).mono ?_); rintro e w' ⟨rfl, ⟨nd, rfl⟩⟩; (try first | exact ⟨rfl, _, World.drewN_drewN _ _ _⟩ | exact ⟨rfl, _, Eq.trans (World.drewN_drewN _ _ _) (congrArg (World.drewN _) (Nat.add_assoc _ _ _))⟩)) | (go_at_call 63; (with_reducible refine (impl_within.calls (rd (rd_L1 l0_1 x8_1) 1) 0 (wrap64 (a0_0 - 1)) true _ A12.out).mono ?_); rintro e w' ⟨rfl, ⟨nd, rfl⟩⟩; (try first | exact ⟨rfl, _, World.drewN_drewN _ _ _⟩ | exact ⟨rfl, _, Eq.trans (World.drewN_drewN _ _ _) (congrArg (World.drewN _) (Nat.add_assoc _ _ _))⟩)))
   repeat (go_quiet (first | (go_at_call 63; (with_reducible refine (impl_within.calls (rd (rd_L1 l0_1 x8_1) 0) 0 (wrap64 (a0_0 - 1)) true _ A9.out).mono ?_); rintro e w' ⟨rfl, ⟨nd, rfl⟩⟩; (try first | exact ⟨rfl, _, World.drewN_drewN _ _ _⟩ | exact ⟨rfl, _, Eq.trans (World.drewN_drewN _ _ _) (congrArg (World.drewN _) (Nat.add_assoc _ _ _))⟩)) | (go_at_call 63; (with_reducible refine (impl_within.calls (rd (rd_L1 l0_1 x8_1) 1) 0 (wrap64 (a0_0 - 1)) true _ A12.out).mono ?_); rintro e w' ⟨rfl, ⟨nd, rfl⟩⟩; (try first | exact ⟨rfl, _, World.drewN_drewN _ _ _⟩ | exact ⟨rfl, _, Eq.trans (World.drewN_drewN _ _ _) (congrArg (World.drewN _) (Nat.add_assoc _ _ _))⟩))); try go_wp2_with (first | (go_at_call 63; (with_reducible refine (impl_within.calls (rd (rd_L1 l0_1 x8_1) 0) 0 (wrap64 (a0_0 - 1)) true _ A9.out).mono ?_); rintro e w' ⟨rfl, ⟨nd, rfl⟩⟩; (try first | exact ⟨rfl, _, World.drewN_drewN _ _ _⟩ | exact ⟨rfl, _, Eq.trans (World.drewN_drewN _ _ _) (congrArg (World.drewN _) (Nat.add_assoc _ _ _))⟩)) | (go_at_call 63; (with_reducible refine (impl_within.calls (rd (rd_L1 l0_1 x8_1) 1) 0 (wrap64 (a0_0 - 1)) true _ A12.out).mono ?_); rintro e w' ⟨rfl, ⟨nd, rfl⟩⟩; (try first | exact ⟨rfl, _, World.drewN_drewN _ _ _⟩ | exact ⟨rfl, _, Eq.trans (World.drewN_drewN _ _ _) (congrArg (World.drewN _) (Nat.add_assoc _ _ _))⟩))))
   go_roundg k1
   case measure => have := HK1.out; omega
   case rel => exact ⟨(wrap64 (x8_1 + 1)), (by first | rfl | (simp; done) | (simp [*]; done)), H', ⟨by have := HK1.out; omega⟩, ⟨z1_⟩, ⟨z5_⟩⟩
end Go.Proofs.Ytbjjefipcigaoaa.X
end
section
namespace Go.Proofs.Ytbjjefipcigaoaa.Q
open Go.RowKit Go.Proofs.Ytbjjefipcigaoaa.X Go.Proofs.YtbjjefipcigaoaaW.PrintWords Go.Proofs.YtbjjefipcigaoaaW.PrintLast Go.Proofs.YtbjjefipcigaoaaW.PrintMore
set_option linter.unusedVariables false
theorem rdL (xs : List (List Int)) (i : Nat) (h : i < xs.length) : rd_L1 xs (i : Int) = xs[i] := by
  unfold rd_L1; simp [List.getD_eq_getElem?_getD, h]
theorem szInt64S (l : List Int) (a : Int) (h0 : 0 ≤ a) (h1 : a ≤ 1048576) (hl : l.length ≤ 9223372036854775807) :
    laws_szInt64S.f l a = some (if a - l.length < 0 then -1 else a - l.length) := by
  unfold laws_szInt64S.f
  rw [wid (by omega) (by omega)]
  split <;> rfl
theorem szInt64SS_l (E : List (List Int)) (hE : E.length ≤ 1048576) (hl : ∀ l ∈ E, l.length ≤ 9223372036854775807) (d : Nat) : ∀ (i : Nat) (a : Int), i + d = E.length → 0 ≤ a → a ≤ 1048576 →
    ∃ t, Ev (fun k => laws_szInt64SS.l0 k E a (i : Int)) t ∧ (t < 0 ∨ 0 ≤ t ∧ t ≤ 1048576 ∧ ∀ l ∈ E.drop i, l.length ≤ 1048576) := by
  induction d with
  | zero =>
    intro i a hi h0 h1
    exact ⟨a, Ev.step (fun _ => rfl) (evF (by omega) (evN rfl)), .inr ⟨h0, h1, by rw [List.drop_of_length_le (by omega)]; simp⟩⟩
  | succ d ih =>
    intro i a hi h0 h1
    have hm : E[i]'(by omega) ∈ E := List.getElem_mem _
    have hs := szInt64S (E[i]'(by omega)) a h0 h1 (hl _ hm)
    by_cases hc : a - ((E[i]'(by omega)).length : Int) < 0
    · refine ⟨-1, Ev.step (fun _ => rfl) (evT (by omega) (evT (by omega) ?_)), .inl (by omega)⟩
      rw [rdL _ _ (by omega)]
      refine evB hs ?_
      rw [if_pos hc]
      exact evT (by omega) (evN rfl)
    · obtain ⟨t, ht, hp⟩ := ih (i + 1) (a - ((E[i]'(by omega)).length : Int)) (by omega) (by omega) (by omega)
      refine ⟨t, Ev.step (fun _ => rfl) (evT (by omega) (evT (by omega) ?_)), ?_⟩
      · rw [rdL _ _ (by omega)]
        refine evB hs ?_
        rw [if_neg hc]
        refine evF (by omega) ?_
        rw [wnat (n := E.length) (by omega) (by omega)]
        exact ht
      · rcases hp with hp | ⟨p1, p2, p3⟩
        · exact .inl hp
        · refine .inr ⟨p1, p2, fun l hl2 => ?_⟩
          rw [List.drop_eq_getElem_cons (by omega)] at hl2
          rcases List.mem_cons.1 hl2 with rfl | h
          · omega
          · exact p3 l h
theorem szGraph (n : Int) (E : List (List Int)) (hE : E.length ≤ 9223372036854775807) (hl : ∀ l ∈ E, l.length ≤ 9223372036854775807) :
    ∃ t, Ev (fun k => laws_szGraph.f k n E 1048576) t ∧ (t < 0 ∨ 0 ≤ t ∧ t ≤ 1048576 ∧ E.length ≤ 1048576 ∧ ∀ l ∈ E, l.length ≤ 1048576) := by
  unfold laws_szGraph.f laws_szInt64SS.f
  by_cases hc : (1048576 : Int) - E.length < 0
  · exact ⟨-1, Ev.bind (g := fun k => _) (a := -1) (by rw [wid (by omega) (by omega)]; exact evT hc (evN rfl)) (evT (by omega) (evN rfl)), .inl (by omega)⟩
  · obtain ⟨t, ht, hp⟩ := szInt64SS_l E (by omega) hl E.length 0 (1048576 - E.length) (by omega) (by omega) (by omega)
    rcases hp with hp | ⟨p1, p2, p3⟩
    · exact ⟨-1, Ev.bind (a := t) (by rw [wid (by omega) (by omega)]; exact evF hc ht) (evT (by omega) (evN rfl)), .inl (by omega)⟩
    · exact ⟨t, Ev.bind (a := t) (by rw [wid (by omega) (by omega)]; exact evF hc ht) (evF (by omega) (evN rfl)), .inr ⟨p1, p2, by omega, by simpa using p3⟩⟩
theorem toInt64SS_l (E : List (List Int)) (hE : E.length ≤ 1048576) (hl : ∀ l ∈ E, l.length ≤ 1048576) (d : Nat) : ∀ i : Nat, i + d = E.length → Ev (fun k => laws_toInt64SS.l0 k E (E.take i ++ List.replicate d []) (i : Int)) E := by
  induction d with
  | zero =>
    intro i hi
    refine Ev.step (fun _ => rfl) (evF (by omega) (evN ?_))
    simp [List.take_of_length_le (by omega : E.length ≤ i)]
  | succ d ih =>
    intro i hi
    have hm : E[i]'(by omega) ∈ E := List.getElem_mem _
    have hs := toInt64S (E[i]'(by omega)) (by have := hl _ hm; omega)
    refine Ev.step (fun _ => rfl) (evT (by omega) (evT (by omega) ?_))
    rw [rdL _ _ (by omega)]
    refine Ev.bind hs (evT (by simp; omega) ?_)
    rw [wnat (n := E.length) (by omega) (by omega), Int.toNat_natCast]
    have e : (E.take i ++ List.replicate (d + 1) []).set i (E[i]'(by omega)) = E.take (i + 1) ++ List.replicate d [] := by
      rw [List.set_append_right _ _ (by simp [List.length_take]; omega)]
      have : i - (E.take i).length = 0 := by simp [List.length_take]; omega
      rw [this, List.replicate_succ, List.set_cons_zero, List.take_succ_eq_append_getElem (by omega), List.append_assoc]
      rfl
    rw [e]
    exact ih (i + 1) (by omega)
theorem toInt64SS (E : List (List Int)) (hE : E.length ≤ 1048576) (hl : ∀ l ∈ E, l.length ≤ 1048576) : Ev (fun k => laws_toInt64SS.f k E) E := by
  have h := toInt64SS_l E hE hl E.length 0 (by omega)
  unfold laws_toInt64SS.f
  refine evT (by omega) (evT (by omega) ?_)
  simpa using h
theorem toGraph (n : Int) (E : List (List Int)) (hE : E.length ≤ 1048576) (hl : ∀ l ∈ E, l.length ≤ 1048576) : Ev (fun k => laws_toGraph.f k n E) (n, E) :=
  Ev.bind (toInt64SS E hE hl) (evN rfl)
theorem eqInt64SS_l (a b : List (List Int)) (ha : a.length ≤ 1048576) (hl : ∀ l ∈ a, l.length ≤ 1048576) (e : a.length = b.length) (d : Nat) : ∀ i : Nat, i + d = a.length → Ev (fun k => laws_eqInt64SS.l0 k a b (i : Int)) (decide (a.drop i = b.drop i)) := by
  induction d with
  | zero =>
    intro i hi
    refine Ev.step (fun _ => rfl) (evF (by omega) (evN ?_))
    rw [List.drop_of_length_le (by omega), List.drop_of_length_le (by omega)]; simp
  | succ d ih =>
    intro i hi
    have hm : a[i]'(by omega) ∈ a := List.getElem_mem _
    refine Ev.step (fun _ => rfl) (evT (by omega) (evT (by omega) (evT (by omega) ?_)))
    rw [rdL a i (by omega), rdL b i (by omega), wnat (n := a.length) (by omega) (by omega)]
    refine Ev.bind (eqInt64S _ _ (by have := hl _ hm; omega)) ?_
    have e2 : a.drop i = b.drop i ↔ a[i]'(by omega) = b[i]'(by omega) ∧ a.drop (i + 1) = b.drop (i + 1) := by
      rw [List.drop_eq_getElem_cons (by omega : i < a.length), List.drop_eq_getElem_cons (by omega : i < b.length), List.cons.injEq]
    by_cases h : a[i]'(by omega) = b[i]'(by omega)
    · refine evT (by simpa using h) ?_
      rw [decide_eq_decide.2 (e2.trans (and_iff_right h))]
      exact ih (i + 1) (by omega)
    · refine evF (by simpa using h) (evN ?_)
      rw [decide_eq_false (fun h2 => h (e2.1 h2).1)]
theorem eqInt64SS (a b : List (List Int)) (ha : a.length ≤ 1048576) (hl : ∀ l ∈ a, l.length ≤ 1048576) : Ev (fun k => laws_eqInt64SS.f k a b) (decide (a = b)) := by
  unfold laws_eqInt64SS.f
  by_cases h : a.length = b.length
  · refine evT (by omega) ?_
    have := eqInt64SS_l a b ha hl h a.length 0 (by omega)
    simpa using this
  · refine evF (by omega) (evN ?_)
    simp; intro e; exact h (by rw [e])
theorem eqGraph_self (n : Int) (E : List (List Int)) (hE : E.length ≤ 1048576) (hl : ∀ l ∈ E, l.length ≤ 1048576) : Ev (fun k => laws_eqGraph.f k n E n E) true := by
  unfold laws_eqGraph.f
  refine evT rfl (Ev.bind (eqInt64SS E E hE hl) (evT (by simp) (evN rfl)))
def okE (m : Int) (e : List Int) : Bool := decide (e.length = 2) && (decide (0 ≤ e.getD 0 0) && decide (e.getD 0 0 ≤ m)) && (decide (0 ≤ e.getD 1 0) && decide (e.getD 1 0 ≤ m))
def VG (n : Int) (E : List (List Int)) : Bool := (decide (1 ≤ n) && decide (n ≤ 8)) && decide (E.length ≤ 10) && E.all (okE (n - 1))
theorem inSpec (a b c : Int) : spec_l01In.f a b c = some (decide (b ≤ a) && decide (a ≤ c)) := by
  unfold spec_l01In.f
  by_cases h : b ≤ a
  · rw [if_pos h]; simp [h]
  · rw [if_neg h]; simp [h]
theorem inImpl (a b c : Int) : impl_within.f a b c = some (decide (b ≤ a) && decide (a ≤ c)) := by
  unfold impl_within.f
  by_cases h : b ≤ a
  · rw [if_pos h]; simp [h]
  · rw [if_neg h]; simp [h]
theorem rd0 (l : List Int) : rd l 0 = l.getD 0 0 := rfl
theorem rd1 (l : List Int) : rd l 1 = l.getD 1 0 := rfl
theorem isSpec_l (n : Int) (E : List (List Int)) (hE : E.length ≤ 1048576) (hn : 1 ≤ n) (hn2 : n ≤ 8) (d : Nat) : ∀ i : Nat, i + d = E.length → Ev (fun k => spec_l01Is.l0 k (i : Int) n E) ((E.drop i).all (okE (n - 1))) := by
  induction d with
  | zero =>
    intro i hi
    refine Ev.step (fun _ => rfl) (evF (by omega) (evN ?_))
    rw [List.drop_of_length_le (by omega)]; rfl
  | succ d ih =>
    intro i hi
    refine Ev.step (fun _ => rfl) (evT (by omega) (evT (by omega) ?_))
    rw [List.drop_eq_getElem_cons (by omega), List.all_cons, rdL _ _ (by omega), wid (x := n - 1) (by omega) (by omega)]
    generalize hg : E[i]'(by omega) = e
    by_cases h2 : e.length = 2
    · refine evT (by omega) (evT (by omega) (evB (inSpec _ _ _) ?_))
      rw [rd0, rd1]
      by_cases h3 : (decide (0 ≤ e.getD 0 0) && decide (e.getD 0 0 ≤ n - 1)) = true
      · refine evT h3 (evT (by omega) (evB (inSpec _ _ _) ?_))
        by_cases h4 : (decide (0 ≤ e.getD 1 0) && decide (e.getD 1 0 ≤ n - 1)) = true
        · refine evT h4 ?_
          rw [wnat (n := E.length) (by omega) (by omega)]
          have : okE (n - 1) e = true := by unfold okE; rw [h3, h4]; simp [h2]
          rw [this, Bool.true_and]
          exact ih (i + 1) (by omega)
        · refine evF h4 (evN ?_)
          have : okE (n - 1) e = false := by unfold okE; rw [Bool.eq_false_iff.2 h4]; simp
          rw [this, Bool.false_and]
      · refine evF h3 (evN ?_)
        have : okE (n - 1) e = false := by unfold okE; rw [Bool.eq_false_iff.2 h3]; simp
        rw [this, Bool.false_and]
    · refine evF (by omega) (evN ?_)
      have : okE (n - 1) e = false := by unfold okE; simp [h2]
      rw [this, Bool.false_and]
theorem isSpec (n : Int) (E : List (List Int)) (hE : E.length ≤ 1048576) : Ev (fun k => spec_l01Is.f k n E) (VG n E) := by
  unfold spec_l01Is.f
  refine evB (inSpec _ _ _) ?_
  unfold VG
  by_cases h : (decide (1 ≤ n) && decide (n ≤ 8)) = true
  · refine evT h (Ev.step (fun _ => rfl) ?_)
    rw [h, Bool.true_and]
    have hn : 1 ≤ n ∧ n ≤ 8 := by simpa using h
    by_cases h2 : E.length ≤ 10
    · refine evF (by simp; omega) ?_
      have := isSpec_l n E hE hn.1 hn.2 E.length 0 (by omega)
      simpa [h2] using this
    · refine evT (by simp; omega) (evN ?_)
      simp [h2]
  · refine evF h (Ev.step (f := fun _ => some false) (fun _ => rfl) (evN ?_))
    rw [Bool.eq_false_iff.2 h]; simp
theorem isImpl_l (n : Int) (E : List (List Int)) (hE : E.length ≤ 1048576) (d : Nat) : ∀ i : Nat, i + d = E.length →
    Ev (fun k => impl_IsGraph.l0 k E (E.length : Int) (i : Int) n E) ((E.drop i).all (okE (wrap64 (n - 1))) && ((decide (1 ≤ n) && decide (n ≤ 8)) && decide (E.length ≤ 10))) := by
  induction d with
  | zero =>
    intro i hi
    refine Ev.step (fun _ => rfl) (evF (by omega) (evB (inImpl _ _ _) ?_))
    rw [List.drop_of_length_le (by omega)]
    by_cases h : (decide (1 ≤ n) && decide (n ≤ 8)) = true
    · refine evT h (evN ?_)
      rw [h]; simp; omega
    · refine evF h (evN ?_)
      rw [Bool.eq_false_iff.2 h]; simp
  | succ d ih =>
    intro i hi
    refine Ev.step (fun _ => rfl) (evT (by omega) (evT (by omega) (evT (by omega) ?_)))
    rw [List.drop_eq_getElem_cons (by omega), List.all_cons, rdL _ _ (by omega)]
    generalize hg : E[i]'(by omega) = e
    generalize wrap64 (n - 1) = m at ih ⊢
    by_cases h2 : e.length = 2
    · refine evT (by omega) (evT (by omega) (evB (inImpl _ _ _) ?_))
      rw [rd0, rd1]
      by_cases h3 : (decide (0 ≤ e.getD 0 0) && decide (e.getD 0 0 ≤ m)) = true
      · refine evT h3 (evT (by omega) (evB (inImpl _ _ _) ?_))
        by_cases h4 : (decide (0 ≤ e.getD 1 0) && decide (e.getD 1 0 ≤ m)) = true
        · refine evT h4 ?_
          rw [wnat (n := E.length) (by omega) (by omega)]
          have : okE m e = true := by unfold okE; rw [h3, h4]; simp [h2]
          rw [this, Bool.true_and]
          exact ih (i + 1) (by omega)
        · refine evF h4 (evN ?_)
          have : okE m e = false := by unfold okE; rw [Bool.eq_false_iff.2 h4]; simp
          rw [this]; simp
      · refine evF h3 (evN ?_)
        have : okE m e = false := by unfold okE; rw [Bool.eq_false_iff.2 h3]; simp
        rw [this]; simp
    · refine evF (by omega) (evN ?_)
      have : okE m e = false := by unfold okE; simp [h2]
      rw [this]; simp
theorem isImpl (n : Int) (E : List (List Int)) (hE : E.length ≤ 1048576) : Ev (fun k => impl_IsGraph.f k n E) (VG n E) := by
  have h := isImpl_l n E hE E.length 0 (by omega)
  have e : ((E.drop 0).all (okE (wrap64 (n - 1))) && ((decide (1 ≤ n) && decide (n ≤ 8)) && decide (E.length ≤ 10))) = VG n E := by
    unfold VG
    by_cases h : (decide (1 ≤ n) && decide (n ≤ 8)) = true
    · have hn : 1 ≤ n ∧ n ≤ 8 := by simpa using h
      rw [wid (x := n - 1) (by omega) (by omega), h, List.drop_zero, Bool.true_and, Bool.and_comm]
    · rw [Bool.eq_false_iff.2 h]; simp
  rw [e] at h
  exact h
def edg (P : List (Nat × Nat)) : List (List Int) := P.map fun p => [(p.1 : Int), (p.2 : Int)]
structure G8 (N : Nat) (P : List (Nat × Nat)) : Prop where
  lo : 1 ≤ N
  hi : N ≤ 8
  len : P.length ≤ 10
  ends : ∀ p ∈ P, p.1 < N ∧ p.2 < N
theorem edg_length (P : List (Nat × Nat)) : (edg P).length = P.length := by simp [edg]
theorem edg_cons (p : Nat × Nat) (P : List (Nat × Nat)) : edg (p :: P) = [(p.1 : Int), (p.2 : Int)] :: edg P := rfl
theorem edg_at (P : List (Nat × Nat)) (i : Nat) (h : i < P.length) : rd_L1 (edg P) (i : Int) = [((P[i]).1 : Int), ((P[i]).2 : Int)] := by
  rw [rdL _ _ (by rw [edg_length]; exact h)]; simp [edg]
theorem VG_true {n : Int} {E : List (List Int)} (h : VG n E = true) : ∃ N P, n = ((N : Nat) : Int) ∧ E = edg P ∧ G8 N P := by
  unfold VG at h
  simp only [Bool.and_eq_true, decide_eq_true_eq, List.all_eq_true] at h
  obtain ⟨⟨⟨h1, h2⟩, h3⟩, h4⟩ := h
  have key : ∀ F : List (List Int), (∀ x ∈ F, okE (n - 1) x = true) → ∃ P : List (Nat × Nat), F = edg P ∧ ∀ p ∈ P, p.1 < n.toNat ∧ p.2 < n.toNat := by
    intro F
    induction F with
    | nil => intro _; exact ⟨[], rfl, by simp⟩
    | cons e F ih =>
      intro hF
      obtain ⟨P, rfl, hP⟩ := ih (fun x hx => hF x (List.mem_cons_of_mem _ hx))
      have he := hF e (List.mem_cons_self ..)
      unfold okE at he
      simp only [Bool.and_eq_true, decide_eq_true_eq] at he
      obtain ⟨⟨e1, e2⟩, e3⟩ := he
      match e, e1 with
      | [a, b], _ =>
        simp at e2 e3
        refine ⟨(a.toNat, b.toNat) :: P, ?_, ?_⟩
        · rw [edg_cons]; simp; omega
        · intro p hp
          rcases List.mem_cons.1 hp with rfl | hp
          · simp; omega
          · exact hP p hp
  obtain ⟨P, rfl, hP⟩ := key E h4
  exact ⟨n.toNat, P, by omega, rfl, ⟨by omega, by omega, by rw [edg_length] at h3; exact h3, hP⟩⟩
end Go.Proofs.Ytbjjefipcigaoaa.Q
end
section
namespace Go.Proofs.Ytbjjefipcigaoaa.Q
open Go.RowKit Go.Proofs.Ytbjjefipcigaoaa.X Go.Proofs.YtbjjefipcigaoaaW.PrintWords Go.Proofs.YtbjjefipcigaoaaW.PrintLast Go.Proofs.YtbjjefipcigaoaaW.PrintMore
set_option linter.unusedVariables false
theorem take_one (l : List Int) (i : Nat) (h : i < l.length) : l.take (i + 1) = l.take i ++ [l[i]] := (List.take_append_getElem h).symm
theorem contains_l (l : List Int) (hl : l.length ≤ 1048576) (v : Int) (d : Nat) : ∀ i : Nat, i + d = l.length → v ∉ l.take i → ∃ r : Int, Ev (fun k => slices_Index_int64_int64.l0 k l v (l.length : Int) (i : Int)) r ∧ decide (r ≥ 0) = decide (v ∈ l) := by
  induction d with
  | zero =>
    intro i hi hv
    rw [List.take_of_length_le (by omega)] at hv
    exact ⟨-1, Ev.step (fun _ => rfl) (evF (by omega) (evN rfl)), by rw [decide_eq_false hv]; rfl⟩
  | succ d ih =>
    intro i hi hv
    have h : i < l.length := by omega
    by_cases e : v = rd l (i : Int)
    · refine ⟨i, Ev.step (fun _ => rfl) (evT (by omega) (evT (by omega) (evT (by omega) (evT e (evN rfl))))), ?_⟩
      rw [rd_at l i h] at e
      rw [decide_eq_true (show ((i : Nat) : Int) ≥ 0 by omega), decide_eq_true (e ▸ List.getElem_mem h)]
    · obtain ⟨r, h1, h2⟩ := ih (i + 1) (by omega) (by
        rw [take_one l i h, List.mem_append]
        rintro (q | q)
        · exact hv q
        · rw [List.mem_singleton] at q; exact e (by rw [rd_at l i h]; exact q))
      rw [← wnat (i := i) (n := l.length) (by omega) (by omega)] at h1
      exact ⟨r, Ev.step (fun _ => rfl) (evT (by omega) (evT (by omega) (evT (by omega) (evF e h1)))), h2⟩
theorem contains_ (l : List Int) (hl : l.length ≤ 1048576) (v : Int) : Ev (fun k => slices_Contains_int64_int64.f k l v) (decide (v ∈ l)) := by
  obtain ⟨r, h1, h2⟩ := contains_l l hl v l.length 0 (by omega) (by simp)
  unfold slices_Contains_int64_int64.f slices_Index_int64_int64.f
  exact Ev.bind h1 (evN (by rw [h2]))
def rng (N : Nat) : List Int := (List.range N).map fun (i : Nat) => (i : Int)
end Go.Proofs.Ytbjjefipcigaoaa.Q
end
section
namespace Go.Proofs.Ytbjjefipcigaoaa.X
open Go.RowKit Go.Proofs.Ytbjjefipcigaoaa.Q Go.Proofs.YtbjjefipcigaoaaW.PrintWords Go.Proofs.YtbjjefipcigaoaaW.PrintLast Go.Proofs.YtbjjefipcigaoaaW.PrintMore
attribute [local go_sem] max2_int min2_int max_two min_two max_three min_three max_four min_four
set_option linter.unusedVariables false
set_option linter.unusedSimpArgs false
def maps1.fit (A B : List (List Int)) (xs : List Int) (i : Int) : Nat → Bool
 | 0 => !(decide (i ∈ xs)) && (rd (rd_L1 A xs.length) xs.length == rd (rd_L1 B i) i)
 | u + 1 => maps1.fit A B xs i u && (rd (rd_L1 A xs.length) u == rd (rd_L1 B i) (rd xs u))
def maps1.img {σ : Type} (A B : List (List Int)) (F : List Int → σ → Bool × σ) (xs : List Int) : Nat → Int → σ → Bool × σ
 | 0, _, s => (true, s)
 | r + 1, i, s => if maps1.fit A B xs i xs.length = true then (if (F (xs ++ [i]) s).1 = true then maps1.img A B F xs r (i + 1) (F (xs ++ [i]) s).2 else (false, (F (xs ++ [i]) s).2)) else maps1.img A B F xs r (i + 1) s
def maps1.ext {σ : Type} (ct : Bool) (step : σ → List Int → σ) (A B : List (List Int)) (n : Nat) : Nat → List Int → σ → Bool × σ
 | 0, xs, s => (ct, step s xs)
 | m + 1, xs, s => maps1.img A B (maps1.ext ct step A B n m) xs n 0 s
structure MCtx (n : Nat) (A B : List (List Int)) (gG gV gH gF gT gX c : Nat) (vE vH : Value) (AF : Option Addr) (cF : Nat) (AT : Option Addr) (cT : Nat) (W : World) : Prop where
 bG : W.heap[gG]? = some (.cells #[.int .i64 n, vE] 28 (0, 0))
 bV : W.heap[gV]? = some (.cells #[.func (.func 36) #[] #[.pointer (some ⟨c, 0, none⟩)]] 54 (0, 0))
 bH : W.heap[gH]? = some (.cells #[.int .i64 n, vH] 28 (0, 0))
 bF : W.heap[gF]? = some (.cells #[.slice AF A.length cF] 22 (0, 0))
 bT : W.heap[gT]? = some (.cells #[.slice AT B.length cT] 22 (0, 0))
 bX : W.heap[gX]? = some (.cells #[.func (.func 71) #[] #[.pointer (some ⟨gG, 0, none⟩), .pointer (some ⟨gV, 0, none⟩), .pointer (some ⟨gH, 0, none⟩), .pointer (some ⟨gF, 0, none⟩), .pointer (some ⟨gT, 0, none⟩), .pointer (some ⟨gX, 0, none⟩)]] 54 (0, 0))
 rF : Kd.C (Kd.slice 2 (Kd.int .i64)) W AF A.length A
 rT : Kd.C (Kd.slice 2 (Kd.int .i64)) W AT B.length B
def maps1.Fin {σ : Type} (VS VF : σ → World → Prop) (r : Bool × σ) (w : World) : Prop := if r.1 = true then VS r.2 w else VF r.2 w
theorem maps_lt {a b : Nat} (h : a < b) : decide ((a : Int) < (b : Int)) = true := decide_eq_true (by omega)
theorem goesV_ {P : Program} {ops : Array Oper} {Q : Exit → Act → World → Prop} {oi : Oper} {N : Option Tmp} {a : Act} {w : World} {K : Act → World → Prop} {f : FuncId} {fn : Func} {ar : Array Operand} {ts : Array TypeId} (x : Operand) (caps : Array Value) (hf : P.funcs[f]? = some fn) (hname : (fn.name == "runtime.NumGoroutine") = false) (hb : fn.body.isSome = true) (args : Array Value)
  (hw : Region.wanted oi (yielded ops a.tmps) = true) (hN : oi.dst = N) (hop : oi.op = .call { callee := .value x, args := ar, argTypes := ts }) (hx : a.eval x = .func (.func f) #[] caps) (hargs : ar.map a.eval ++ caps = args)
  (h : Calls P f args w fun e w' => ∃ v, e = .returned v ∧ K (a.put N v) w') : if Region.wanted oi (yielded ops a.tmps) = true then Oper.wp P oi a w K Q else K (a.put N undef) w := by
 refine call_ f args hw hN ?_ h
 have he := enters_ hf hname hb args w
 unfold execOp
 simp [hop, resolve, Deferred.ofValue, invoke, hx, hargs, he]
def maps1.T13 : Bool × List (List Nat × List Nat) := (true, [([], []), ([0], [0]), ([1], [1]), ([1], [1]), ([1], [1]), ([4, 1], [1, 4]), ([3, 5, 1, 1], [1, 3, 5]), ([2, 6, 6, 1], [1, 2, 6]), ([7, 1], [1, 7]), ([1, 8], [1, 8])])
def maps1.B13 : List Nat := [0, 1, 3, 3, 3, 19, 59, 127, 255, 511]
theorem maps1.tab13 : rtab .any (opsOf Try.f71 13) = maps1.T13 := by kernel_rfl
theorem maps1.bits13 : waitsOk maps1.T13.2 maps1.B13 = true := by kernel_rfl
set_option maxHeartbeats 8000000 in
set_option maxRecDepth 100000 in
theorem maps1.calls {σ : Type} (ct : Bool) (step : σ → List Int → σ) (VS VF : σ → World → Prop) (n : Nat) (A B : List (List Int)) (gG gV gH gF gT gX c : Nat) (vE vH : Value) (AF : Option Addr) (cF : Nat) (AT : Option Addr) (cT : Nat) (w0 : World) (base : Nat)
  (hvs : ∀ s W W', W'.heap[c]? = W.heap[c]? → VS s W → VS s W') (hn : n < 1000)
  (hA : A.length = n) (hA2 : ∀ i : Nat, i < n → (rd_L1 A i).length = n) (hB : B.length = n) (hB2 : ∀ i : Nat, i < n → (rd_L1 B i).length = n) (hcF : A.length ≤ cF) (hcT : B.length ≤ cT)
  (hv : ∀ (W : World) (v : Value) (xs : List Int) (s : σ), Below base w0 W → base ≤ W.heap.size → c < W.heap.size → Kd.R (Kd.int .i64) 2 W base (fun k => k ≠ c) v xs → xs.length = n → VS s W →
   Calls Try.prog 36 #[v, .pointer (some ⟨c, 0, none⟩)] W fun e w' => e = .returned (.bool ct) ∧ Below base w0 w' ∧ Kept W w' (fun k => k = c) ∧ maps1.Fin VS VF (ct, step s xs) w') :
  ∀ (m : Nat) (xs : List Int) (v : Value) (s : σ) (w : World) (r : Bool × σ), maps1.ext ct step A B n m xs s = r → xs.length + m = n → (∀ x ∈ xs, 0 ≤ x ∧ x < n) → base ≤ w.heap.size → c < w.heap.size → Below base w0 w → Kd.R (Kd.int .i64) 2 w base (fun k => k ≠ c) v xs → VS s w →
   (∀ W, Kept w W (fun k => k = c ∨ some k = v.ownBlock) → MCtx n A B gG gV gH gF gT gX c vE vH AF cF AT cT W) →
   Calls Try.prog 71 #[v, .pointer (some ⟨gG, 0, none⟩), .pointer (some ⟨gV, 0, none⟩), .pointer (some ⟨gH, 0, none⟩), .pointer (some ⟨gF, 0, none⟩), .pointer (some ⟨gT, 0, none⟩), .pointer (some ⟨gX, 0, none⟩)] w fun e w' =>
    e = .returned (.bool r.1) ∧ Below base w0 w' ∧ Kept w w' (fun k => k = c ∨ some k = v.ownBlock) ∧ Kd.R (Kd.int .i64) 2 w' base (fun k => k ≠ c) v xs ∧
     maps1.Fin VS VF r w' := by
 intro m
 induction m with
 | zero =>
  intro xs v s w r hr hm hxs hbw hcw hB0 ho hs hctx
  have hX := Aside0.mk (hctx w (Kept.refl _ _))
  obtain ⟨Ao, co, eo⟩ := Kd.R_slice ho
  subst eo
  have HO := Aside0.mk ho
  have HS := Aside0.mk hs
  have HB := Aside0.mk hB0
  have HV := Aside0.mk hv
  have HVS := Aside0.mk hvs
  clear ho hs hB0 hctx hv hvs
  subst hr
  have hm0 := Aside0.mk (show xs.length = n by omega)
  have e0 : ((xs.length : Int) == (n : Int)) = true := beq_iff_eq.mpr (by omega)
  have hc0 : w.cell? ⟨gG, 0, none⟩ = some (.int .i64 n) := (w0z hX.out.bG 0).trans rfl
  have hc1 : w.cell? ⟨gV, 0, none⟩ = some (.func (.func 36) #[] #[.pointer (some ⟨c, 0, none⟩)]) := (w0z hX.out.bV 0).trans rfl
  have hf0 := w1z hX.out.bG 0
  have hf1 := w1z hX.out.bV 0
  go_enter Try.func71, Try.ntmps71
  go_wp2_with (go_at_call 36; (with_reducible refine (HV.out _ _ xs s HB.out hbw hcw HO.out hm0.out HS.out).mono ?_); rintro e w5 ⟨rfl, hb, hk, hs⟩)
  go_ret
  exact ⟨rfl, hb, hk.mono (fun _ e => .inl e), Kd.R_kept HO.out hk (fun _ e => e), hs⟩
 | succ m ih =>
  intro xs v s w r hr hm hxs hbw hcw hB0 ho hs hctx
  have hX := Aside0.mk (hctx w (Kept.refl _ _))
  obtain ⟨Ao, co, eo⟩ := Kd.R_slice ho
  subst eo
  have HO := Aside0.mk ho
  have HS := Aside0.mk hs
  have HB := Aside0.mk hB0
  have HV := Aside0.mk hv
  have HVS := Aside0.mk hvs
  have HR := Aside0.mk hr
  clear hr
  have HX := Aside0.mk hctx
  have IH := Aside0.mk ih
  have HXS := Aside0.mk hxs
  have HA2 := Aside0.mk hA2
  have HB2 := Aside0.mk hB2
  have HLA := Aside0.mk hA
  have HLB := Aside0.mk hB
  clear hA hB
  clear ho hs hB0 hctx hv hvs ih hxs hA2 hB2
  have e0 : ((xs.length : Int) == (n : Int)) = false := beq_eq_false_iff_ne.mpr (by omega)
  have hc0 : w.cell? ⟨gG, 0, none⟩ = some (.int .i64 n) := (w0z hX.out.bG 0).trans rfl
  have hc2 : w.cell? ⟨gH, 0, none⟩ = some (.int .i64 n) := (w0z hX.out.bH 0).trans rfl
  have hf0 := w1z hX.out.bG 0
  have hf2 := w1z hX.out.bH 0
  go_enter Try.func71, Try.ntmps71
  go_wp2
  go_loopg [25] n (fun kq v25 w' => ∃ (i : Nat) (s1 : σ), v25 = .int .i64 (i : Int) ∧ Aside0 (kq + i = n) ∧ Aside0 (maps1.img A B (maps1.ext ct step A B n m) xs kq i s1 = r) ∧ Aside0 (Kd.R (Kd.int .i64) 2 w' base (fun k => k ≠ c) (.slice Ao xs.length co) xs) ∧ Aside0 (VS s1 w') ∧ Aside0 (Kept w w' (fun k => k = c ∨ some k = (Value.slice Ao xs.length co).ownBlock)) ∧ Aside0 (Below base w0 w'))
  case atStart => exact ⟨0, s, rfl, ⟨rfl⟩, ⟨HR.out⟩, ⟨HO.out⟩, ⟨HS.out⟩, ⟨Kept.refl _ _⟩, ⟨HB.out⟩⟩
  case round =>
   clear hc0 hc2 hf0 hf2 e0
   obtain ⟨i, s1, rfl, hi, HE, HO1, HS1, HK1, HB1⟩ := hrel
   have hX1 := Aside0.mk (HX.out wr HK1.out)
   cases gk with
   | zero =>
    have hi0 : i = n := by have := hi.out; omega
    have c3 : decide ((i : Int) < (n : Int)) = false := decide_eq_false (by omega)
    go_wp2
    go_ret
    have h2 : (true, s1) = r := HE.out
    subst h2
    exact ⟨rfl, HB1.out, HK1.out, HO1.out, HS1.out⟩
   | succ k1 =>
    have hin : i < n := by have := hi.out; omega
    have c3 : decide ((i : Int) < (n : Int)) = true := maps_lt hin
    have q0 : (xs.length : Int) < (A.length : Int) := by have := HLA.out; omega
    have q1 : (i : Int) < (B.length : Int) := by have := HLB.out; omega
    obtain ⟨adA, rA, crA, eA, hxA, hlA, hiA⟩ := at_L1 hX1.out.rF (xs.length : Int) (by omega) q0
    cases eA
    obtain ⟨adB, rB, crB, eB, hxB, hlB, hiB⟩ := at_L1 hX1.out.rT (i : Int) (by omega) q1
    cases eB
    have lA : (rd_L1 A (xs.length : Int)).length = n := HA2.out xs.length (by omega)
    have lB : (rd_L1 B (i : Int)).length = n := HB2.out i hin
    have HIA := Aside0.mk hiA
    have HIB := Aside0.mk hiB
    have LA := Aside0.mk lA
    have LB := Aside0.mk lB
    clear hiA hiB
    have hcz0 : wr.cell? ⟨gF, 0, none⟩ = some (.slice (some adA) A.length cF) := (w0z hX1.out.bF 0).trans rfl
    have hcz1 : wr.cell? ⟨gT, 0, none⟩ = some (.slice (some adB) B.length cT) := (w0z hX1.out.bT 0).trans rfl
    have hfz0 := w1z hX1.out.bF 0
    have hfz1 := w1z hX1.out.bT 0
    have p0 : (0 ≤ (xs.length : Int)) = True := eq_true (by omega)
    have p1 : (0 ≤ (i : Int)) = True := eq_true (by omega)
    have p2 : ((xs.length : Int) < (A.length : Int)) = True := eq_true q0
    have p3 : ((i : Int) < (B.length : Int)) = True := eq_true q1
    have p4 : ((xs.length : Int) < ((rd_L1 A (xs.length : Int)).length : Int)) = True := eq_true (by omega)
    have p5 : ((i : Int) < ((rd_L1 B (i : Int)).length : Int)) = True := eq_true (by omega)
    have n2 : (xs.length < A.length) = True := eq_true (by omega)
    have n3 : (i < B.length) = True := eq_true (by omega)
    have n4 : (xs.length < (rd_L1 A (xs.length : Int)).length) = True := eq_true (by omega)
    have n5 : (i < (rd_L1 B (i : Int)).length) = True := eq_true (by omega)
    rw [Int.toNat_natCast] at hxA hxB
    have RD := Aside0.mk (Kd.R_reads' HO1.out)
    go_upto_region 7 with (fail)
    go_cut [11] (fun v11 wc => v11 = .bool (maps1.fit A B xs i 0) ∧ Aside0 (Kd.R (Kd.int .i64) 2 wc base (fun k => k ≠ c) (.slice Ao xs.length co) xs) ∧ Aside0 (VS s1 wc) ∧ Aside0 (Kept w wc (fun k => k = c ∨ some k = (Value.slice Ao xs.length co).ownBlock)) ∧ Aside0 (Below base w0 wc))
    case first =>
     obtain ⟨KC, hKC⟩ := contains_ xs (by omega) (i : Int)
     have HKC := Aside0.mk (hKC KC (Nat.le_refl _))
     clear hKC
     obtain ⟨ad1, e1, hx1⟩ := Kd.at_int HIA.out (xs.length : Int) (by omega) (by omega)
     cases e1
     obtain ⟨ad2, e2, hx2⟩ := Kd.at_int HIB.out (i : Int) (by omega) (by omega)
     cases e2
     clear q0 q1 lA lB
     rw [Int.toNat_natCast] at hx1 hx2
     rcases Bool.eq_false_or_eq_true (decide ((i : Int) ∈ xs)) with hb0 | hb0
     ·have HF := Aside0.mk (show maps1.fit A B xs i 0 = false by simp [maps1.fit, of_decide_eq_true hb0])
      rw [hb0] at HKC
      clear hb0
      go_wp2_with (first | (go_at_call 46; (with_reducible refine (slices_Contains_int64_int64.calls KC _ _ xs (i : Int) true _ ?side1 ?side2 HKC.out).mono ?_); (case side1 => repeat (first | exact RD.out.2.2 | (with_reducible refine Kd.C_drewN ?_ _) | (with_reducible refine Kd.C_drew ?_))); (case side2 => exact RD.out.2.1); rintro e w' ⟨rfl, ⟨nd, rfl⟩⟩; (try first | exact ⟨rfl, _, World.drewN_drewN _ _ _⟩ | exact ⟨rfl, _, Eq.trans (World.drewN_drewN _ _ _) (congrArg (World.drewN _) (Nat.add_assoc _ _ _))⟩)))
      (go_quiet (first | (go_at_call 46; (with_reducible refine (slices_Contains_int64_int64.calls KC _ _ xs (i : Int) true _ ?side1 ?side2 HKC.out).mono ?_); (case side1 => repeat (first | exact RD.out.2.2 | (with_reducible refine Kd.C_drewN ?_ _) | (with_reducible refine Kd.C_drew ?_))); (case side2 => exact RD.out.2.1); rintro e w' ⟨rfl, ⟨nd, rfl⟩⟩; (try first | exact ⟨rfl, _, World.drewN_drewN _ _ _⟩ | exact ⟨rfl, _, Eq.trans (World.drewN_drewN _ _ _) (congrArg (World.drewN _) (Nat.add_assoc _ _ _))⟩))); try go_wp2_with (first | (go_at_call 46; (with_reducible refine (slices_Contains_int64_int64.calls KC _ _ xs (i : Int) true _ ?side1 ?side2 HKC.out).mono ?_); (case side1 => repeat (first | exact RD.out.2.2 | (with_reducible refine Kd.C_drewN ?_ _) | (with_reducible refine Kd.C_drew ?_))); (case side2 => exact RD.out.2.1); rintro e w' ⟨rfl, ⟨nd, rfl⟩⟩; (try first | exact ⟨rfl, _, World.drewN_drewN _ _ _⟩ | exact ⟨rfl, _, Eq.trans (World.drewN_drewN _ _ _) (congrArg (World.drewN _) (Nat.add_assoc _ _ _))⟩))))
      go_meet
      case rel => exact ⟨by rw [HF.out], ⟨Kd.R_drewN HO1.out _⟩, ⟨HVS.out _ wr _ rfl HS1.out⟩, ⟨Kept.drewN HK1.out _⟩, ⟨pw_below_drewN HB1.out _⟩⟩
     ·have HF := Aside0.mk (show maps1.fit A B xs i 0 = (rd (rd_L1 A xs.length) xs.length == rd (rd_L1 B i) i) by simp [maps1.fit, of_decide_eq_false hb0])
      rw [hb0] at HKC
      clear hb0
      go_wp2_with (first | (go_at_call 46; (with_reducible refine (slices_Contains_int64_int64.calls KC _ _ xs (i : Int) false _ ?side1 ?side2 HKC.out).mono ?_); (case side1 => repeat (first | exact RD.out.2.2 | (with_reducible refine Kd.C_drewN ?_ _) | (with_reducible refine Kd.C_drew ?_))); (case side2 => exact RD.out.2.1); rintro e w' ⟨rfl, ⟨nd, rfl⟩⟩; (try first | exact ⟨rfl, _, World.drewN_drewN _ _ _⟩ | exact ⟨rfl, _, Eq.trans (World.drewN_drewN _ _ _) (congrArg (World.drewN _) (Nat.add_assoc _ _ _))⟩)))
      (go_quiet (first | (go_at_call 46; (with_reducible refine (slices_Contains_int64_int64.calls KC _ _ xs (i : Int) false _ ?side1 ?side2 HKC.out).mono ?_); (case side1 => repeat (first | exact RD.out.2.2 | (with_reducible refine Kd.C_drewN ?_ _) | (with_reducible refine Kd.C_drew ?_))); (case side2 => exact RD.out.2.1); rintro e w' ⟨rfl, ⟨nd, rfl⟩⟩; (try first | exact ⟨rfl, _, World.drewN_drewN _ _ _⟩ | exact ⟨rfl, _, Eq.trans (World.drewN_drewN _ _ _) (congrArg (World.drewN _) (Nat.add_assoc _ _ _))⟩))); try go_wp2_with (first | (go_at_call 46; (with_reducible refine (slices_Contains_int64_int64.calls KC _ _ xs (i : Int) false _ ?side1 ?side2 HKC.out).mono ?_); (case side1 => repeat (first | exact RD.out.2.2 | (with_reducible refine Kd.C_drewN ?_ _) | (with_reducible refine Kd.C_drew ?_))); (case side2 => exact RD.out.2.1); rintro e w' ⟨rfl, ⟨nd, rfl⟩⟩; (try first | exact ⟨rfl, _, World.drewN_drewN _ _ _⟩ | exact ⟨rfl, _, Eq.trans (World.drewN_drewN _ _ _) (congrArg (World.drewN _) (Nat.add_assoc _ _ _))⟩))))
      go_meet
      case rel => exact ⟨by rw [HF.out], ⟨Kd.R_drewN HO1.out _⟩, ⟨HVS.out _ wr _ rfl HS1.out⟩, ⟨Kept.drewN HK1.out _⟩, ⟨pw_below_drewN HB1.out _⟩⟩
    case rest =>
     clear hcz0 hcz1 hfz0 hfz1 hxA hxB hX1 HIA HIB p0 p1 p2 p3 p4 p5 n2 n3 n4 n5 q0 q1 lA lB hlA hlB
     obtain ⟨rfl, HO2, HS2, HK2, HBe2⟩ := hcut
     go_wp2
     go_loopg [11, 51] xs.length (fun kq v11 v51 w' => ∃ u : Nat, v11 = .bool (maps1.fit A B xs i u) ∧ v51 = .int .i64 (u : Int) ∧ Aside0 (kq + u = xs.length) ∧ Aside0 (Kd.R (Kd.int .i64) 2 w' base (fun k => k ≠ c) (.slice Ao xs.length co) xs) ∧ Aside0 (VS s1 w') ∧ Aside0 (Kept w w' (fun k => k = c ∨ some k = (Value.slice Ao xs.length co).ownBlock)) ∧ Aside0 (Below base w0 w'))
     case atStart => exact ⟨0, rfl, rfl, ⟨rfl⟩, HO2, HS2, HK2, HBe2⟩
     case round =>
      clear HO2 HS2 HK2 HBe2 HO1 HS1 HK1 HB1 RD c3
      obtain ⟨u, rfl, rfl, hu, HO3, HS3, HK3, HB3⟩ := hrel
      have hX3 := Aside0.mk (HX.out wr HK3.out)
      cases gk with
      | zero =>
       have hu0 := hu.out
       obtain rfl : u = xs.length := by omega
       clear hu hu0
       have c4 : decide ((xs.length : Int) < (xs.length : Int)) = false := decide_eq_false (by omega)
       rcases Bool.eq_false_or_eq_true (maps1.fit A B xs i xs.length) with hft | hft
       ·have HE2 := Aside0.mk (show (if (maps1.ext ct step A B n m (xs ++ [(i : Int)]) s1).1 = true then maps1.img A B (maps1.ext ct step A B n m) xs k1 ((i : Int) + 1) (maps1.ext ct step A B n m (xs ++ [(i : Int)]) s1).2 else (false, (maps1.ext ct step A B n m (xs ++ [(i : Int)]) s1).2)) = r from by have h2 := HE.out; simp only [maps1.img] at h2; rw [if_pos hft] at h2; exact h2)
        rw [hft]
        clear hft HE
        go_upto_region 13 with (fail)
        have hcx : wr.cell? ⟨gX, 0, none⟩ = some (.func (.func 71) #[] #[.pointer (some ⟨gG, 0, none⟩), .pointer (some ⟨gV, 0, none⟩), .pointer (some ⟨gH, 0, none⟩), .pointer (some ⟨gF, 0, none⟩), .pointer (some ⟨gT, 0, none⟩), .pointer (some ⟨gX, 0, none⟩)]) := (w0z hX3.out.bX 0).trans rfl
        have hwb : base ≤ wr.heap.size := Nat.le_trans hbw HK3.out.1
        have hwc : c < wr.heap.size := Nat.lt_of_lt_of_le hcw HK3.out.1
        have HWB := Aside0.mk hwb
        have HWC := Aside0.mk hwc
        clear hwb hwc
        refine start_ (n := 10) (S := fun w' => w'.cell? ⟨gX, 0, none⟩ = some (.func (.func 71) #[] #[.pointer (some ⟨gG, 0, none⟩), .pointer (some ⟨gV, 0, none⟩), .pointer (some ⟨gH, 0, none⟩), .pointer (some ⟨gF, 0, none⟩), .pointer (some ⟨gT, 0, none⟩), .pointer (some ⟨gX, 0, none⟩)])) (ds := []) #[false, false, false, false, false, false, false, false, false, false] (by kernel_rfl) rfl rfl hcx (fun hHeld => ?_); refine with_tabW maps1.tab13 maps1.bits13 (fun HT_ HW_ => ?_)
        have HX4 := Aside0.mk (show ∀ W, Kept wr.drew W (fun k => k = c ∨ some k = (Value.slice Ao xs.length co).ownBlock) → MCtx n A B gG gV gH gF gT gX c vE vH _ cF _ cT W from fun W hk => HX.out W ((Kept.drew HK3.out).then_ hk (fun _ e => .inl e)))
        have HO4 := Aside0.mk (Kd.R_drew HO3.out)
        have HS4 := Aside0.mk (HVS.out _ wr wr.drew rfl HS3.out)
        have HK4 := Aside0.mk (Kept.drew HK3.out)
        have HB4 := Aside0.mk (below_drew1 HB3.out)
        have HWB4 := Aside0.mk (show base ≤ wr.drew.heap.size from HWB.out)
        have HWC4 := Aside0.mk (show c < wr.drew.heap.size from HWC.out)
        clear HO3 HS3 HK3 HB3 hX3 hcx HWB HWC
        generalize wr.drew = w4 at HX4 HO4 HS4 HK4 HB4 HWB4 HWC4 hHeld ⊢
        refine pure_ (i := 0) (N := some 75) (v := ?_) (a' := ?_) #[true, false, false, false, false, false, false, false, false, false] rfl rfl (any_of HT_.out (by kernel_rfl)) (fun _ _ _ h => h) (Or.inl ⟨by rfl, ?_⟩) ?_ ?_
        rotate_left
        ·intro w'
         go_simp
         with_reducible rfl
        rotate_left
        ·simp only [Act.put, List.setIfInBounds_toArray, List.set_cons_zero, List.set_cons_succ, i64_w, i32_w]
         rfl
        refine pure_ (i := 1) (N := some 76) (v := ?_) (a' := ?_) #[true, true, false, false, false, false, false, false, false, false] rfl rfl (any_of HT_.out (by kernel_rfl)) (fun _ _ _ h => h) (Or.inl ⟨by rfl, ?_⟩) ?_ ?_
        rotate_left
        ·intro w'
         go_simp
         with_reducible rfl
        rotate_left
        ·simp only [Act.put, List.setIfInBounds_toArray, List.set_cons_zero, List.set_cons_succ, i64_w, i32_w]
         rfl
        refine pure_ (i := 3) (N := some 78) (v := ?_) (a' := ?_) #[true, true, false, true, false, false, false, false, false, false] rfl rfl (any_of HT_.out (by kernel_rfl)) (fun _ _ _ h => h) (Or.inl ⟨by rfl, ?_⟩) ?_ ?_
        rotate_left
        ·intro w'
         go_simp
         with_reducible rfl
        rotate_left
        ·simp only [Act.put, List.setIfInBounds_toArray, List.set_cons_zero, List.set_cons_succ, i64_w, i32_w]
         rfl
        refine pure_ (i := 4) (N := some 79) (v := ?_) (a' := ?_) #[true, true, false, true, true, false, false, false, false, false] rfl rfl (any_of HT_.out (by kernel_rfl)) (fun _ _ _ h => h) (Or.inl ⟨by rfl, ?_⟩) ?_ ?_
        rotate_left
        ·intro w'
         go_simp
         with_reducible rfl
        rotate_left
        ·simp only [Act.put, List.setIfInBounds_toArray, List.set_cons_zero, List.set_cons_succ, i64_w, i32_w]
         rfl
        refine take_ (i := 2) (N := some 77) (v := ?_) (a' := ?_) #[true, true, true, true, true, false, false, false, false, false] rfl rfl (take_ofW HT_.out HW_.out (by kernel_rfl)) (fun _ _ _ h => h) (Or.inl ⟨by rfl, ?_⟩) hHeld ?_ ?_
        rotate_left
        ·rintro w' s0
         go_simp
         with_reducible rfl
        rotate_left
        ·simp only [Act.put, List.setIfInBounds_toArray, List.set_cons_zero, List.set_cons_succ, i64_w, i32_w]
         rfl
        refine one_ (i := 5) (N := some 80) #[true, true, true, true, true, true, false, false, false, false] rfl rfl (one_of HT_.out (by kernel_rfl)) (by decide) (fun K hK => ?_)
        refine value_ (w1 := ?_) (v := ?_) (by rfl) rfl ?_ ?_
        rotate_left 2
        ·go_simp
         constructor
         ·rfl
         ·rfl
        refine hK.out _ _ ((World.cell?_alloc_lt _ _ _ (World.block_lt_of_cell? _ _ hHeld)).trans hHeld) (fun hHeld => ?_)
        clear hK K
        refine norm_ (a' := ?_) ?_ ?_
        rotate_left
        ·show Act.put _ (some 80) _ = _
         simp only [Act.put, List.setIfInBounds_toArray, List.set_cons_zero, List.set_cons_succ, i64_w, i32_w]
         rfl
        refine one_ (i := 6) (N := some 81) #[true, true, true, true, true, true, true, false, false, false] rfl rfl (one_of HT_.out (by kernel_rfl)) (by decide) (fun K hK => ?_)
        refine maps_step base c (by rfl) (.tmp 78) (.tmp 80) 32 rfl Try.underlying32 info2 (.slice Ao xs.length co) xs (i : Int) rfl rfl HO4.out HB4.out HWB4.out HWC4.out (by omega) ?_
        intro v1 w5 hr5 hb5 hk5 hblk5 hback5
        have HR5 := Aside0.mk hr5
        have HB5 := Aside0.mk hb5
        have HK5 := Aside0.mk hk5
        have HBL5 := Aside0.mk hblk5
        have HBK5 := Aside0.mk hback5
        clear hr5 hb5 hk5 hblk5 hback5
        have HX5 := Aside0.mk (show ∀ W, Kept w5 W (fun k => k = c ∨ some k = v1.ownBlock) → MCtx n A B gG gV gH gF gT gX c vE vH _ cF _ cT W from fun W hk => HX4.out W ((HK5.out.mono (fun _ e => .inr e)).then_ hk (fun k e => by
         rcases e with e | e
         ·exact .inl (.inl e)
         ·rcases HBL5.out k e with e | e
          ·exact .inl (.inr e)
          ·exact .inr e)))
        have hne : ¬ (some c = (Value.slice Ao xs.length co).ownBlock) := fun e => HO4.out.1 c e.symm rfl
        have HS5 := Aside0.mk (HVS.out _ w4 w5 (HK5.out.2 c HWC4.out hne) HS4.out)
        clear hne
        have hX5 := Aside0.mk (HX5.out w5 (Kept.refl _ _))
        have HWB5 := Aside0.mk (Nat.le_trans HWB4.out HK5.out.1)
        have HWC5 := Aside0.mk (Nat.lt_of_lt_of_le HWC4.out HK5.out.1)
        refine hK.out _ _ ((w0z hX5.out.bX 0).trans rfl) (fun hHeld => ?_)
        clear hK K
        refine norm_ (a' := ?_) ?_ ?_
        rotate_left
        ·show Act.put _ (some 81) _ = _
         simp only [Act.put, List.setIfInBounds_toArray, List.set_cons_zero, List.set_cons_succ, i64_w, i32_w]
         rfl
        have hx6 : ∀ x ∈ xs ++ [(i : Int)], 0 ≤ x ∧ x < n := fun x hx => by
         rcases List.mem_append.mp hx with hx | hx
         ·exact HXS.out x hx
         ·rw [List.mem_singleton.mp hx]
          omega
        have hl6 : (xs ++ [(i : Int)]).length + m = n := by rw [List.length_append, List.length_singleton]; omega
        have HC6 := Aside0.mk (IH.out (xs ++ [(i : Int)]) v1 s1 w5 _ rfl hl6 hx6 HWB5.out HWC5.out HB5.out HR5.out HS5.out HX5.out)
        clear hx6 hl6
        have HE3 := Aside0.mk (show (if (maps1.ext ct step A B n m (xs ++ [(i : Int)]) s1).1 = true then maps1.img A B (maps1.ext ct step A B n m) xs k1 ((i : Int) + 1) (maps1.ext ct step A B n m (xs ++ [(i : Int)]) s1).2 else (false, (maps1.ext ct step A B n m (xs ++ [(i : Int)]) s1).2)) = r from HE2.out)
        generalize maps1.ext ct step A B n m (xs ++ [(i : Int)]) s1 = r6 at HC6 HE3
        obtain ⟨b6, s6⟩ := r6
        refine one_ (i := 7) (N := some 82) #[true, true, true, true, true, true, true, true, false, false] rfl rfl (one_of HT_.out (by kernel_rfl)) (by decide) (fun K hK => ?_)
        refine goesV_ (.tmp 77) #[.pointer (some ⟨gG, 0, none⟩), .pointer (some ⟨gV, 0, none⟩), .pointer (some ⟨gH, 0, none⟩), .pointer (some ⟨gF, 0, none⟩), .pointer (some ⟨gT, 0, none⟩), .pointer (some ⟨gX, 0, none⟩)] Try.func71 (by kernel_rfl) rfl #[v1, .pointer (some ⟨gG, 0, none⟩), .pointer (some ⟨gV, 0, none⟩), .pointer (some ⟨gH, 0, none⟩), .pointer (some ⟨gF, 0, none⟩), .pointer (some ⟨gT, 0, none⟩), .pointer (some ⟨gX, 0, none⟩)] (by rfl) rfl rfl (by rfl) (by simp only [List.map_toArray, List.map_cons, List.map_nil, List.append_toArray, List.cons_append, List.nil_append]; rfl) ?_
        refine HC6.out.mono ?_
        rintro e w6 ⟨rfl, hb6, hk6, hr6, hf6⟩
        refine ⟨_, rfl, ?_⟩
        have HB6 := Aside0.mk hb6
        have HF6 := Aside0.mk hf6
        have HR6 := Aside0.mk (HBK5.out w6 hk6 hr6)
        have HK6 := Aside0.mk (show Kept w w6 (fun k => k = c ∨ some k = (Value.slice Ao xs.length co).ownBlock) from (HK4.out.then_ (HK5.out.mono (fun _ e => Or.inr e)) (fun _ e => .inl e)).then_ hk6 (fun k e => by
         rcases e with e | e
         ·exact .inl (.inl e)
         ·rcases HBL5.out k e with e | e
          ·exact .inl (.inr e)
          ·exact .inr (Nat.le_trans HK4.out.1 e)))
        have hX6 := Aside0.mk (HX.out w6 HK6.out)
        clear hb6 hf6 hr6 hk6
        refine hK.out _ _ ((w0z hX6.out.bX 0).trans rfl) (fun hHeld => ?_)
        clear hK K
        refine norm_ (a' := ?_) ?_ ?_
        rotate_left
        ·show Act.put _ (some 82) _ = _
         simp only [Act.put, List.setIfInBounds_toArray, List.set_cons_zero, List.set_cons_succ, i64_w, i32_w]
         rfl
        cases b6 with
        | false =>
         have hr7 : (false, s6) = r := HE3.out
         subst hr7
         refine pure_ (i := 8) (N := some 83) (v := ?_) (a' := ?_) #[true, true, true, true, true, true, true, true, true, false] rfl rfl (any_of HT_.out (by kernel_rfl)) (fun _ _ _ h => h) (Or.inl ⟨by rfl, ?_⟩) ?_ ?_
         rotate_left
         ·intro w'
          go_simp
          with_reducible rfl
         rotate_left
         ·simp only [Act.put, List.setIfInBounds_toArray, List.set_cons_zero, List.set_cons_succ, i64_w, i32_w]
          rfl
         refine pure_ (i := 9) (N := some 84) (v := ?_) (a' := ?_) #[true, true, true, true, true, true, true, true, true, true] rfl rfl (any_of HT_.out (by kernel_rfl)) (fun _ _ _ h => h) (Or.inl ⟨by rfl, ?_⟩) ?_ ?_
         rotate_left
         ·intro w'
          go_simp
          with_reducible rfl
         rotate_left
         ·simp only [Act.put, List.setIfInBounds_toArray, List.set_cons_zero, List.set_cons_succ, i64_w, i32_w]
          rfl
         refine done_ (done_of HT_.out (by kernel_rfl)) ?_
         go_wp2
         go_ret
         exact ⟨rfl, HB6.out, HK6.out, HR6.out, HF6.out⟩
        | true =>
         have HE7 := Aside0.mk (show maps1.img A B (maps1.ext ct step A B n m) xs k1 ((i : Int) + 1) s6 = r from HE3.out)
         refine pure_ (i := 8) (N := some 83) (v := ?_) (a' := ?_) #[true, true, true, true, true, true, true, true, true, false] rfl rfl (any_of HT_.out (by kernel_rfl)) (fun _ _ _ h => h) (Or.inl ⟨by rfl, ?_⟩) ?_ ?_
         rotate_left
         ·intro w'
          go_simp
          with_reducible rfl
         rotate_left
         ·simp only [Act.put, List.setIfInBounds_toArray, List.set_cons_zero, List.set_cons_succ, i64_w, i32_w]
          rfl
         refine pure_ (i := 9) (N := some 84) (v := ?_) (a' := ?_) #[true, true, true, true, true, true, true, true, true, true] rfl rfl (any_of HT_.out (by kernel_rfl)) (fun _ _ _ h => h) (Or.inl ⟨by rfl, ?_⟩) ?_ ?_
         rotate_left
         ·intro w'
          go_simp
          with_reducible rfl
         rotate_left
         ·simp only [Act.put, List.setIfInBounds_toArray, List.set_cons_zero, List.set_cons_succ, i64_w, i32_w]
          rfl
         refine done_ (done_of HT_.out (by kernel_rfl)) ?_
         go_wp2
         go_roundg k1
         case measure => omega
         case rel => exact ⟨i + 1, s6, rfl, ⟨by have := hi.out; omega⟩, ⟨HE7.out⟩, HR6, HF6, HK6, HB6⟩
       ·have HE2 := Aside0.mk (show maps1.img A B (maps1.ext ct step A B n m) xs k1 ((i : Int) + 1) s1 = r from by have h2 := HE.out; simp only [maps1.img] at h2; rw [if_neg (by rw [hft]; decide)] at h2; exact h2)
        rw [hft]
        clear hft HE
        go_wp2
        (go_quiet (fail))
        go_wp2
        go_roundg k1
        case measure => omega
        case rel => exact ⟨i + 1, s1, rfl, ⟨by have := hi.out; omega⟩, ⟨HE2.out⟩, ⟨Kd.R_drewN HO3.out _⟩, ⟨HVS.out _ wr _ rfl HS3.out⟩, ⟨Kept.drewN HK3.out _⟩, ⟨pw_below_drewN HB3.out _⟩⟩
      | succ k2 =>
       have hul : u < xs.length := by have := hu.out; omega
       have c4 : decide ((u : Int) < (xs.length : Int)) = true := maps_lt hul
       obtain ⟨hRn, hRl, hRd⟩ := Kd.R_reads' HO3.out
       clear hRn
       obtain ⟨ad0, e0, hx0⟩ := Kd.at_int hRd (u : Int) (by omega) (by omega)
       cases e0
       rw [Int.toNat_natCast] at hx0
       clear hRd
       have HHU := Aside0.mk (HXS.out (rd xs (u : Int)) (by rw [rd_at xs u hul]; exact List.getElem_mem hul))
       have g1 : ((u : Int) < (xs.length : Int)) = True := eq_true (by omega)
       have g2 : (u < xs.length) = True := eq_true hul
       rcases Bool.eq_false_or_eq_true (maps1.fit A B xs i u) with hft | hft
       ·have HF := Aside0.mk (show maps1.fit A B xs i (u + 1) = (rd (rd_L1 A xs.length) u == rd (rd_L1 B i) (rd xs u)) by simp only [maps1.fit]; rw [hft, Bool.true_and])
        rw [hft]
        clear hft
        have q0 : (xs.length : Int) < (A.length : Int) := by have := HLA.out; omega
        have q1 : (i : Int) < (B.length : Int) := by have := HLB.out; omega
        obtain ⟨adA, rA, crA, eA, hxA, hlA, hiA⟩ := at_L1 hX3.out.rF (xs.length : Int) (by omega) q0
        cases eA
        obtain ⟨adB, rB, crB, eB, hxB, hlB, hiB⟩ := at_L1 hX3.out.rT (i : Int) (by omega) q1
        cases eB
        have lA := LA.out
        have lB := LB.out
        have hh := HHU.out
        obtain ⟨ad1, e1, hx1⟩ := Kd.at_int hiA (u : Int) (by omega) (by omega)
        cases e1
        obtain ⟨ad2, e2, hx2⟩ := Kd.at_int hiB (rd xs (u : Int)) (by omega) (by omega)
        cases e2
        clear hiA hiB
        have hcz0 : wr.cell? ⟨gF, 0, none⟩ = some (.slice (some adA) A.length cF) := (w0z hX3.out.bF 0).trans rfl
        have hcz1 : wr.cell? ⟨gT, 0, none⟩ = some (.slice (some adB) B.length cT) := (w0z hX3.out.bT 0).trans rfl
        have hfz0 := w1z hX3.out.bF 0
        have hfz1 := w1z hX3.out.bT 0
        have p1 : (0 ≤ (i : Int)) = True := eq_true (by omega)
        have p2 : ((xs.length : Int) < (A.length : Int)) = True := eq_true q0
        have p3 : ((i : Int) < (B.length : Int)) = True := eq_true q1
        have p4 : ((u : Int) < ((rd_L1 A (xs.length : Int)).length : Int)) = True := eq_true (by omega)
        have p5 : (rd xs (u : Int) < ((rd_L1 B (i : Int)).length : Int)) = True := eq_true (by omega)
        have p6 : (0 ≤ rd xs (u : Int)) = True := eq_true (by omega)
        have n2 : (xs.length < A.length) = True := eq_true (by omega)
        have n3 : (i < B.length) = True := eq_true (by omega)
        have n4 : (u < (rd_L1 A (xs.length : Int)).length) = True := eq_true (by omega)
        rw [Int.toNat_natCast] at hxA hxB hx1
        clear q0 q1 lA lB hh
        go_wp2
        (go_quiet (fail))
        go_wp2
        go_roundg k2
        case measure => omega
        case rel => exact ⟨u + 1, by rw [HF.out], rfl, ⟨by have := hu.out; omega⟩, ⟨Kd.R_drewN HO3.out _⟩, ⟨HVS.out _ wr _ rfl HS3.out⟩, ⟨Kept.drewN HK3.out _⟩, ⟨pw_below_drewN HB3.out _⟩⟩
       ·have HF := Aside0.mk (show maps1.fit A B xs i (u + 1) = false by simp only [maps1.fit]; rw [hft, Bool.false_and])
        rw [hft]
        clear hft
        go_wp2
        (go_quiet (fail))
        go_wp2
        go_roundg k2
        case measure => omega
        case rel => exact ⟨u + 1, by rw [HF.out], rfl, ⟨by have := hu.out; omega⟩, ⟨Kd.R_drewN HO3.out _⟩, ⟨HVS.out _ wr _ rfl HS3.out⟩, ⟨Kept.drewN HK3.out _⟩, ⟨pw_below_drewN HB3.out _⟩⟩
end Go.Proofs.Ytbjjefipcigaoaa.X
end
section
namespace Go.Proofs.Ytbjjefipcigaoaa.X
open Go.RowKit Go.Proofs.YtbjjefipcigaoaaW.PrintWords Go.Proofs.YtbjjefipcigaoaaW.PrintLast Go.Proofs.YtbjjefipcigaoaaW.PrintMore
attribute [local go_sem] max2_int min2_int max_two min_two max_three min_three max_four min_four
set_option linter.unusedVariables false
set_option linter.unusedSimpArgs false
def impl_square.l0 : Nat → Int → List (List Int) → Int → Int → Option ((List (List Int)))
 | 0, _, _, _, _ => none
 | k + 1, x0, x3, x5, x6 => if x6 < x5 then (if 0 ≤ x0 then (if (x0 : Int).toNat ≤ 35184372088832 then (if x3.length < 5864062014805 then (impl_square.l0 k x0 (x3 ++ [(List.replicate (x0 : Int).toNat 0)]) x5 (wrap64 (x6 + 1))) else (none)) else (none)) else (none)) else (some x3)
def impl_square.f (k : Nat) (a0 : Int) : Option ((List (List Int))) := impl_square.l0 k a0 (([] : List (List Int))) a0 0
set_option maxHeartbeats 8000000 in
set_option maxRecDepth 100000 in
theorem impl_square.calls (k : Nat) (a0 : Int) (r : List (List Int)) (w : World) (h : impl_square.f k a0 = some r) :
  Calls Try.prog 66 #[.int .i64 a0] w fun e w' => ∃ v0_ : Value, e = .returned (v0_) ∧ Kd.S (Kd.slice 2 (Kd.int .i64)) 32 w' w.heap.size (fun _ => True) v0_ r ∧ Below w.heap.size w w' := by
 have HB := Aside0.mk (Below.refl w.heap.size w)
 have H : (impl_square.l0 k a0 (([] : List (List Int))) a0 0) = some r := h
 clear h
 obtain ⟨y101, hy101⟩ : ∃ y_ : List (List Int), y_ = (([] : List (List Int))) := ⟨_, rfl⟩
 replace H : (impl_square.l0 k a0 y101 a0 0) = some r := by first | (rw [hy101]; with_reducible exact H) | (have H2_ := (Option.bind_some _ _).symm.trans H; rw [hy101]; with_reducible exact H2_) | (have H2_ := (Option.bind_some _ _).symm.trans H; with_reducible exact H2_) | with_reducible exact H | (rw [hy101]; exact H) | exact H
 have Ny101 := Aside0.mk hy101
 clear hy101
 have H' := Aside0.mk H
 clear H
 go_enter Try.func66, Try.ntmps66
 go_wp2_with (first | ((with_reducible refine w5z (N := 4) rfl ?_); refine Kd.S_lit (Kd.slice 2 (Kd.int .i64)) _ 32 ?hg (N := 4) ?hd (xs := ([] : List (List Int))) (inner := []) (ok := fun _ => True) (okp := fun _ => True) ?hr ?hp (fun _ hk => hk) trivial (Below.refl _ _) (Nat.le_refl _) (by simp) ?_; (case hd => rfl); (case hg => rfl); (case hr => first | (go_simp; done) | (go_simp; rfl)); (case hp => exact (Reps.none _ _)); intro v102 w2 ho3 hb hg_ hnew_; clear hg_ hnew_; (first | rw [← Ny101.out] at ho3 | (simp only [Int.reduceToNat] at ho3; rw [← Ny101.out] at ho3)); have n0_ := Aside0.mk (Kd.S_lower ho3 (w2z (z2_))); have n1_ := Aside0.mk (w3z (z2_) hb); clear HB; have HO103 := n0_; have HB := n1_; clear n0_ n1_; clear hb ho3))
 go_loopg [3, 6] k (fun kq v3 v6 w' => ∃ (x3_1 : List (List Int)) (x6_1 : Int), v6 = .int .i64 x6_1 ∧ Aside0 (impl_square.l0 kq a0 x3_1 a0 x6_1 = some r) ∧ Aside0 (kq ≤ k) ∧ Aside0 (Kd.S (Kd.slice 2 (Kd.int .i64)) 32 w' w.heap.size (fun _ => True) v3 x3_1) ∧ Aside0 (Below w.heap.size w w'))
 case atStart => exact ⟨(y101), (0), (by first | rfl | (simp; done) | (simp [*]; done)), H', ⟨Nat.le_refl _⟩, ⟨z23_⟩, ⟨z2_⟩⟩
 case round =>
  clear H'
  obtain ⟨x3_1, x6_1, rfl, HA, HK1, HO_3, HB⟩ := hrel
  cases gk with
  | zero => exact absurd HA.out (by simp [impl_square.l0])
  | succ k1 =>
   have H := HA.out
   clear HA
   simp only [impl_square.l0] at H
   by_cases c4 : x6_1 < a0
   rotate_left
   ·rw [if_neg c4] at H
    have c4b0 : decide (x6_1 < a0) = false := decide_eq_false c4
    clear c4
    obtain rfl := Option.some.inj H
    go_wp2
    go_ret
    exact ⟨_, by first | rfl | (simp [errW_none, errW_some] <;> rfl) | (simp [*, errW_none, errW_some] <;> rfl), z12_, z2_⟩
   rw [if_pos c4] at H
   have c4b0 : decide (x6_1 < a0) = true := decide_eq_true c4
   clear c4
   by_cases c5 : 0 ≤ a0
   rotate_left
   ·rw [if_neg c5] at H
    exact absurd H (by simp)
   rw [if_pos c5] at H
   have c5b0 := eq_true c5
   have c5b1 : decide (0 ≤ a0) = true := decide_eq_true c5
   clear c5
   by_cases c6 : (a0 : Int).toNat ≤ 35184372088832
   rotate_left
   ·rw [if_neg c6] at H
    exact absurd H (by simp)
   rw [if_pos c6] at H
   have c6b0 := eq_true c6
   have c6b1 : decide ((a0 : Int).toNat ≤ 35184372088832) = true := decide_eq_true c6
   clear c6
   obtain ⟨y104, hy104⟩ : ∃ y_ : List Int, y_ = (List.replicate (a0 : Int).toNat 0) := ⟨_, rfl⟩
   replace H : (if x3_1.length < 5864062014805 then (impl_square.l0 k1 a0 (x3_1 ++ [y104]) a0 (wrap64 (x6_1 + 1))) else (none)) = some r := by first | (rw [hy104]; with_reducible exact H) | (have H2_ := (Option.bind_some _ _).symm.trans H; rw [hy104]; with_reducible exact H2_) | (have H2_ := (Option.bind_some _ _).symm.trans H; with_reducible exact H2_) | with_reducible exact H | (rw [hy104]; exact H) | exact H
   have Ny104 := Aside0.mk hy104
   clear hy104
   by_cases c7 : x3_1.length < 5864062014805
   rotate_left
   ·rw [if_neg c7] at H
    exact absurd H (by simp)
   rw [if_pos c7] at H
   have LMc7 := Aside0.mk c7
   clear c7
   obtain ⟨y107, hy107⟩ : ∃ y_ : List (List Int), y_ = (x3_1 ++ [y104]) := ⟨_, rfl⟩
   replace H : (impl_square.l0 k1 a0 y107 a0 (wrap64 (x6_1 + 1))) = some r := by first | (rw [hy107]; with_reducible exact H) | (have H2_ := (Option.bind_some _ _).symm.trans H; rw [hy107]; with_reducible exact H2_) | (have H2_ := (Option.bind_some _ _).symm.trans H; with_reducible exact H2_) | with_reducible exact H | (rw [hy107]; exact H) | exact H
   have Ny107 := Aside0.mk hy107
   clear hy107
   have H' := Aside0.mk H
   clear H
   go_wp2_with (first | ((with_reducible refine w5z (N := 10) rfl ?_); refine Kd.R_make (Kd.int .i64) _ 2 rfl (N := 10) rfl 32 _ _ rfl a0 rfl rfl Try.underlying32 (.int .i64 0) 8 info2 rfl (by decide) (by omega) 0 (ok := fun _ => True) (okp := fun _ => True) rfl (fun _ hk => hk) trivial (of_decide_eq_true (z0_)) (Nat.le_trans (Nat.mul_le_mul_right _ (of_decide_eq_true (z0_) : a0.toNat ≤ 35184372088832)) (by omega)) (Below.refl _ _) (Nat.le_refl _) ?_; intro v105 w8 ho9 hb hg_ hnew_; clear hg_ hnew_; (first | rw [← Ny104.out] at ho9 | (simp only [Int.reduceToNat] at ho9; rw [← Ny104.out] at ho9)); have n0_ := Aside0.mk (Kd.S_elder' (z12_) (Kd.R_base ho9) hb); have n1_ := Aside0.mk (Kd.R_lower ho9 (w2z (z2_))); have n2_ := Aside0.mk (w3z (z2_) hb); clear HO_3; clear HB; have HO_3 := n0_; have HO106 := n1_; have HB := n2_; clear n0_ n1_ n2_; clear hb ho9; obtain ⟨Ao11, co11, eo11⟩ := Kd.R_slice HO106.out; subst eo11) | ((with_reducible refine gate_builtin (b := .append) (xs := #[.tmp 8, .tmp 11]) rfl ?_); at_builtin; refine Kd.S_append (Kd.slice 2 (Kd.int .i64)) (w0 := w) w.heap.size rfl (.tmp 8) (.tmp 11) 22 32 (.slice none 0 0) 24 rfl Try.underlying22 info32 rfl (by decide) (by omega) u3 x3_1 y104 [.slice Ao11 y104.length co11] (fun _ => True) (fun k_ => some k_ = (.slice Ao11 y104.length co11 : Value).ownBlock) rfl rfl ?aP (fun k_ hk_ => ((Kd.R_mono (ok' := fun k_ => ((fun _ => True)) k_ ∧ some k_ ≠ (u3 : Value).ownBlock) (Kd.R_apart' (HO106.out) (Kd.S_typed HO_3.out) (by decide)) (fun k_ hk => ⟨trivial, hk.2⟩))).1 k_ hk_.symm) ?aF ?aO ?aB ?aS ?aL ?_; (case aP => exact Kd.M_row (Kd.R_mono (Kd.R_tight rfl (Kd.R_mono (ok' := fun k_ => ((fun _ => True)) k_ ∧ some k_ ≠ (u3 : Value).ownBlock) (Kd.R_apart' (HO106.out) (Kd.S_typed HO_3.out) (by decide)) (fun k_ hk => ⟨trivial, hk.2⟩))) (fun _ h_ => h_))); (case aB => exact (z2_)); (case aF => exact (fun _ _ => trivial)); (case aO => exact (by (with_reducible repeat (first | apply Kd.S_alloc | apply Kd.S_drewN | apply Kd.S_drew)); exact Kd.S_mono HO_3.out (fun k_ hk => ⟨trivial, fun e_ => hk.2 e_⟩))); (case aS => exact (w2z (z2_))); (case aL => have := LMc7.out; omega); intro v108 w10 ho hb hg hat; rw [← Ny107.out] at ho; have n0_ := Aside0.mk (hb); have n1_ := Aside0.mk (ho); clear HB; clear HO_3; clear HO106; have HB := n0_; have HO109 := n1_; clear n0_ n1_; clear ho hb hg hat))
   go_roundg k1
   case measure => have := HK1.out; omega
   case rel => exact ⟨(y107), (wrap64 (x6_1 + 1)), (by first | rfl | (simp; done) | (simp [*]; done)), H', ⟨by have := HK1.out; omega⟩, ⟨by (with_reducible repeat (first | apply Kd.S_alloc | apply Kd.S_drewN | apply Kd.S_drew)); exact HO109.out⟩, ⟨z2_⟩⟩
end Go.Proofs.Ytbjjefipcigaoaa.X
end
section
namespace Go.Proofs.Ytbjjefipcigaoaa.X
open Go.RowKit Go.Proofs.YtbjjefipcigaoaaW.PrintWords Go.Proofs.YtbjjefipcigaoaaW.PrintLast Go.Proofs.YtbjjefipcigaoaaW.PrintMore
attribute [local go_sem] max2_int min2_int max_two min_two max_three min_three max_four min_four
set_option linter.unusedVariables false
set_option linter.unusedSimpArgs false
def impl_Graph_adjacency.l0 : Nat → List (List Int) → List (List Int) → Int → Int → Option ((List (List Int)))
 | 0, _, _, _, _ => none
 | k + 1, x3, x10, x11, x12 => if x12 < x11 then (if 0 ≤ x12 then (if x12 < (x10.length : Int) then (if 0 < ((rd_L1 x10 x12).length : Int) then (if 0 ≤ (rd (rd_L1 x10 x12) 0) then (if (rd (rd_L1 x10 x12) 0) < (x3.length : Int) then (if 1 < ((rd_L1 x10 x12).length : Int) then (if 0 ≤ (rd (rd_L1 x10 x12) 1) then (if (rd (rd_L1 x10 x12) 1) < ((rd_L1 x3 (rd (rd_L1 x10 x12) 0)).length : Int) then ((some (x3.set ((rd (rd_L1 x10 x12) 0) : Int).toNat ((rd_L1 x3 (rd (rd_L1 x10 x12) 0)).set ((rd (rd_L1 x10 x12) 1) : Int).toNat (wrap64 ((rd (rd_L1 x3 (rd (rd_L1 x10 x12) 0)) (rd (rd_L1 x10 x12) 1)) + 1))) : List (List Int))).bind fun y112 => (if (rd (rd_L1 x10 x12) 1) < (x3.length : Int) then (if (rd (rd_L1 x10 x12) 0) < ((rd_L1 y112 (rd (rd_L1 x10 x12) 1)).length : Int) then (impl_Graph_adjacency.l0 k (y112.set ((rd (rd_L1 x10 x12) 1) : Int).toNat ((rd_L1 y112 (rd (rd_L1 x10 x12) 1)).set ((rd (rd_L1 x10 x12) 0) : Int).toNat (wrap64 ((rd (rd_L1 y112 (rd (rd_L1 x10 x12) 1)) (rd (rd_L1 x10 x12) 0)) + 1)))) x10 x11 (wrap64 (x12 + 1))) else (none)) else (none))) else (none)) else (none)) else (none)) else (none)) else (none)) else (none)) else (none)) else (none)) else (some x3)
def impl_Graph_adjacency.f (k : Nat) (a0_0 : Int) (l0_1 : List (List Int)) : Option ((List (List Int))) := (impl_square.f k a0_0).bind fun t102 => (impl_Graph_adjacency.l0 k t102 l0_1 (l0_1.length : Int) 0)
def impl_Graph_adjacency.T5 : Bool × List (List Nat × List Nat) := (true, [([], []), ([], []), ([1], [1]), ([2], [2]), ([0, 3], [0, 3]), ([4], [4]), ([], []), ([6], [6]), ([7], [7]), ([5, 8], [5, 8]), ([9], [9]), ([10], [10]), ([5, 8, 0, 1, 2, 3, 4, 5, 6, 7, 8, 9, 10, 11], [5, 8]), ([12, 11, 0, 1, 2, 3, 4, 5, 6, 7, 8, 9, 10, 11], [11, 12])])
def impl_Graph_adjacency.B5 : List Nat := [0, 0, 2, 6, 15, 31, 0, 64, 192, 511, 1023, 2047, 4095, 8191]
theorem impl_Graph_adjacency.tab5 : rtab .any (opsOf Try.f54 5) = impl_Graph_adjacency.T5 := by kernel_rfl
theorem impl_Graph_adjacency.bits5 : waitsOk impl_Graph_adjacency.T5.2 impl_Graph_adjacency.B5 = true := by kernel_rfl
def impl_Graph_adjacency.T6 : Bool × List (List Nat × List Nat) := (true, [([], []), ([], []), ([1], [1]), ([2], [2]), ([0, 3], [0, 3]), ([4], [4]), ([], []), ([6], [6]), ([7], [7]), ([5, 8], [5, 8]), ([9], [9]), ([10], [10]), ([5, 8, 0, 1, 2, 3, 4, 5, 6, 7, 8, 9, 10, 11], [5, 8]), ([12, 11, 0, 1, 2, 3, 4, 5, 6, 7, 8, 9, 10, 11], [11, 12])])
def impl_Graph_adjacency.B6 : List Nat := [0, 0, 2, 6, 15, 31, 0, 64, 192, 511, 1023, 2047, 4095, 8191]
theorem impl_Graph_adjacency.tab6 : rtab .any (opsOf Try.f54 6) = impl_Graph_adjacency.T6 := by kernel_rfl
theorem impl_Graph_adjacency.bits6 : waitsOk impl_Graph_adjacency.T6.2 impl_Graph_adjacency.B6 = true := by kernel_rfl
set_option maxHeartbeats 8000000 in
set_option maxRecDepth 100000 in
theorem impl_Graph_adjacency.calls (k : Nat) (a0_0 : Int) (A0_1 : Option Addr) (c0_1 : Nat) (l0_1 : List (List Int)) (r : List (List Int)) (w : World) (hr0_1 : Kd.C (Kd.slice 2 (Kd.int .i64)) w A0_1 l0_1.length l0_1) (hc0_1 : l0_1.length ≤ c0_1) (h : impl_Graph_adjacency.f k a0_0 l0_1 = some r) :
  Calls Try.prog 54 #[.agg #[.int .i64 a0_0, .slice A0_1 l0_1.length c0_1]] w fun e w' => ∃ v0_ : Value, e = .returned (v0_) ∧ Kd.S (Kd.slice 2 (Kd.int .i64)) 32 w' w.heap.size (fun _ => True) v0_ r ∧ Below w.heap.size w w' := by
 have hu28 := Try.underlying28
 have HR0_1 := Aside0.mk hr0_1
 have HC0_1 := Aside0.mk hc0_1
 clear hr0_1 hc0_1
 have HB := Aside0.mk (Below.refl w.heap.size w)
 have H : ((impl_square.f k a0_0).bind fun t102 => (impl_Graph_adjacency.l0 k t102 l0_1 (l0_1.length : Int) 0)) = some r := h
 clear h
 replace H := Option.bind_eq_some_iff.mp H
 obtain ⟨t102, A20, H⟩ := H
 replace H : (impl_Graph_adjacency.l0 k t102 l0_1 (l0_1.length : Int) 0) = some r := H
 have A2 := Aside0.mk A20
 clear A20
 have H' := Aside0.mk H
 clear H
 go_enter Try.func54, Try.ntmps54
 go_wp2_with (first | ((with_reducible refine w5z (N := 1) rfl ?_); refine w7z ?hg (N := 1) ?hd (cs := #[.int .i64 a0_0, .slice A0_1 l0_1.length c0_1]) (t := 28) ?hr ?_; (case hd => rfl); (case hg => rfl); (case hr => first | (go_simp; done) | (go_simp; rfl)); intro gb101 hg w3 hbox hb; have n0_ := Aside0.mk (w3z (z2_) hb); have n1_ := Aside0.mk (hbox); have n2_ := Aside0.mk ((by rw [hg]; exact (w2z (z2_)) : w.heap.size ≤ gb101)); have n3_ := Aside0.mk ((by rw [hg]; exact (w2z (z2_)) : w.heap.size ≤ gb101)); clear HB; have HB := n0_; have BK101 := n1_; have GW101 := n2_; have GE101 := n3_; clear n0_ n1_ n2_ n3_; clear hb hbox hg; have hcz4_0 : w3.cell? ⟨gb101, 0, none⟩ = some (.int .i64 a0_0) := (w0z BK101.out 0).trans rfl; have hcz4_1 : w3.cell? ⟨gb101, 1, none⟩ = some (.slice A0_1 l0_1.length c0_1) := (w0z BK101.out 1).trans rfl; have hfz4_0 := w1z BK101.out 0; have hfz4_1 := w1z BK101.out 1) | ((with_reducible refine w6z (f := 66) rfl ?_); refine goesL_ (some 8) rfl rfl Try.func66 (by kernel_rfl) rfl #[.int .i64 a0_0] rfl (z6_) ?_; (with_reducible refine (impl_square.calls k a0_0 t102 _ A2.out).mono ?_); rintro e w5 ⟨v103, rfl, ho0, hb⟩; refine ⟨_, rfl, ?_⟩; have n0_ := Aside0.mk (Kd.S_lower ho0 (w2z (z5_))); have n1_ := Aside0.mk (w4z (g := gb101) (o := .cells #[.int .i64 a0_0, .slice A0_1 l0_1.length c0_1] 28 (0, 0)) (z1_) hb); have n2_ := Aside0.mk (w3z (z5_) hb); clear BK101; clear HB; have HO104 := n0_; have BK101 := n1_; have HB := n2_; clear n0_ n1_ n2_; (try clear hb); (try clear hb2); (try clear hk); (try clear hi); (try clear ho0); have hcz6_0 : w5.cell? ⟨gb101, 0, none⟩ = some (.int .i64 a0_0) := (w0z BK101.out 0).trans rfl; have hcz6_1 : w5.cell? ⟨gb101, 1, none⟩ = some (.slice A0_1 l0_1.length c0_1) := (w0z BK101.out 1).trans rfl; have hfz6_0 := w1z BK101.out 0; have hfz6_1 := w1z BK101.out 1))
 go_loopg [12] k (fun kq v12 w' => ∃ (x3_1 : List (List Int)) (x12_1 : Int), v12 = .int .i64 x12_1 ∧ Aside0 (impl_Graph_adjacency.l0 kq x3_1 l0_1 (l0_1.length : Int) x12_1 = some r) ∧ Aside0 (kq ≤ k) ∧ Aside0 (Kd.S (Kd.slice 2 (Kd.int .i64)) 32 w' w.heap.size (fun _ => True) v103 x3_1) ∧ Aside0 (w'.heap[gb101]? = some (.cells #[.int .i64 a0_0, (.slice A0_1 l0_1.length c0_1)] 28 (0, 0))) ∧ Aside0 (Below w.heap.size w w'))
 case atStart => exact ⟨(t102), (0), (by first | rfl | (simp; done) | (simp [*]; done)), H', ⟨Nat.le_refl _⟩, ⟨z25_⟩, ⟨z1_⟩, ⟨z5_⟩⟩
 case round =>
  clear H'
  try clear hcz4_0
  try clear hcz4_1
  try clear hcz6_0
  try clear hcz6_1
  try clear hfz4_0
  try clear hfz4_1
  try clear hfz6_0
  try clear hfz6_1
  obtain ⟨x3_1, x12_1, rfl, HA, HK1, HO_3, BK101, HB⟩ := hrel
  cases gk with
  | zero => exact absurd HA.out (by simp [impl_Graph_adjacency.l0])
  | succ k1 =>
   have H := HA.out
   clear HA
   simp only [impl_Graph_adjacency.l0] at H
   by_cases c7 : x12_1 < (l0_1.length : Int)
   rotate_left
   ·rw [if_neg c7] at H
    have c7b0 : decide (x12_1 < (l0_1.length : Int)) = false := decide_eq_false c7
    clear c7
    obtain rfl := Option.some.inj H
    go_wp2
    go_ret
    exact ⟨_, by first | rfl | (simp [errW_none, errW_some] <;> rfl) | (simp [*, errW_none, errW_some] <;> rfl), z12_, z5_⟩
   rw [if_pos c7] at H
   have c7b0 : decide (x12_1 < (l0_1.length : Int)) = true := decide_eq_true c7
   clear c7
   by_cases c8 : 0 ≤ x12_1
   rotate_left
   ·rw [if_neg c8] at H
    exact absurd H (by simp)
   rw [if_pos c8] at H
   have c8b0 : decide (0 ≤ x12_1) = true := decide_eq_true c8
   clear c8
   by_cases c9 : x12_1 < (l0_1.length : Int)
   rotate_left
   ·rw [if_neg c9] at H
    exact absurd H (by simp)
   rw [if_pos c9] at H
   have c9b0 : decide (x12_1 < (l0_1.length : Int)) = true := decide_eq_true c9
   clear c9
   by_cases c10 : 0 < ((rd_L1 l0_1 x12_1).length : Int)
   rotate_left
   ·rw [if_neg c10] at H
    exact absurd H (by simp)
   rw [if_pos c10] at H
   have c10b0 : decide (0 < ((rd_L1 l0_1 x12_1).length : Int)) = true := decide_eq_true c10
   have c10b1 : decide (0 < (rd_L1 l0_1 x12_1).length) = true := decide_eq_true (by omega)
   clear c10
   by_cases c11 : 0 ≤ (rd (rd_L1 l0_1 x12_1) 0)
   rotate_left
   ·rw [if_neg c11] at H
    exact absurd H (by simp)
   rw [if_pos c11] at H
   have c11b0 : decide (0 ≤ (rd (rd_L1 l0_1 x12_1) 0)) = true := decide_eq_true c11
   clear c11
   by_cases c12 : (rd (rd_L1 l0_1 x12_1) 0) < (x3_1.length : Int)
   rotate_left
   ·rw [if_neg c12] at H
    exact absurd H (by simp)
   rw [if_pos c12] at H
   have c12b0 : decide ((rd (rd_L1 l0_1 x12_1) 0) < (x3_1.length : Int)) = true := decide_eq_true c12
   clear c12
   by_cases c13 : 1 < ((rd_L1 l0_1 x12_1).length : Int)
   rotate_left
   ·rw [if_neg c13] at H
    exact absurd H (by simp)
   rw [if_pos c13] at H
   have c13b0 : decide (1 < ((rd_L1 l0_1 x12_1).length : Int)) = true := decide_eq_true c13
   have c13b1 : decide (1 < (rd_L1 l0_1 x12_1).length) = true := decide_eq_true (by omega)
   clear c13
   by_cases c14 : 0 ≤ (rd (rd_L1 l0_1 x12_1) 1)
   rotate_left
   ·rw [if_neg c14] at H
    exact absurd H (by simp)
   rw [if_pos c14] at H
   have c14b0 : decide (0 ≤ (rd (rd_L1 l0_1 x12_1) 1)) = true := decide_eq_true c14
   clear c14
   by_cases c15 : (rd (rd_L1 l0_1 x12_1) 1) < ((rd_L1 x3_1 (rd (rd_L1 l0_1 x12_1) 0)).length : Int)
   rotate_left
   ·rw [if_neg c15] at H
    exact absurd H (by simp)
   rw [if_pos c15] at H
   have c15b0 : decide ((rd (rd_L1 l0_1 x12_1) 1) < ((rd_L1 x3_1 (rd (rd_L1 l0_1 x12_1) 0)).length : Int)) = true := decide_eq_true c15
   clear c15
   obtain ⟨y110, hy110⟩ : ∃ y_ : List Int, y_ = ((rd_L1 x3_1 (rd (rd_L1 l0_1 x12_1) 0)).set ((rd (rd_L1 l0_1 x12_1) 1) : Int).toNat (wrap64 ((rd (rd_L1 x3_1 (rd (rd_L1 l0_1 x12_1) 0)) (rd (rd_L1 l0_1 x12_1) 1)) + 1))) := ⟨_, rfl⟩
   replace H : ((some (x3_1.set ((rd (rd_L1 l0_1 x12_1) 0) : Int).toNat y110 : List (List Int))).bind fun y112 => (if (rd (rd_L1 l0_1 x12_1) 1) < (x3_1.length : Int) then (if (rd (rd_L1 l0_1 x12_1) 0) < ((rd_L1 y112 (rd (rd_L1 l0_1 x12_1) 1)).length : Int) then (impl_Graph_adjacency.l0 k1 (y112.set ((rd (rd_L1 l0_1 x12_1) 1) : Int).toNat ((rd_L1 y112 (rd (rd_L1 l0_1 x12_1) 1)).set ((rd (rd_L1 l0_1 x12_1) 0) : Int).toNat (wrap64 ((rd (rd_L1 y112 (rd (rd_L1 l0_1 x12_1) 1)) (rd (rd_L1 l0_1 x12_1) 0)) + 1)))) l0_1 (l0_1.length : Int) (wrap64 (x12_1 + 1))) else (none)) else (none))) = some r := by first | (rw [hy110]; with_reducible exact H) | (have H2_ := (Option.bind_some _ _).symm.trans H; rw [hy110]; with_reducible exact H2_) | (have H2_ := (Option.bind_some _ _).symm.trans H; with_reducible exact H2_) | with_reducible exact H | (rw [hy110]; exact H) | exact H
   have Ny110 := Aside0.mk hy110
   clear hy110
   obtain ⟨y112, hy112⟩ : ∃ y_ : List (List Int), y_ = (x3_1.set ((rd (rd_L1 l0_1 x12_1) 0) : Int).toNat y110) := ⟨_, rfl⟩
   replace H : (if (rd (rd_L1 l0_1 x12_1) 1) < (x3_1.length : Int) then (if (rd (rd_L1 l0_1 x12_1) 0) < ((rd_L1 y112 (rd (rd_L1 l0_1 x12_1) 1)).length : Int) then (impl_Graph_adjacency.l0 k1 (y112.set ((rd (rd_L1 l0_1 x12_1) 1) : Int).toNat ((rd_L1 y112 (rd (rd_L1 l0_1 x12_1) 1)).set ((rd (rd_L1 l0_1 x12_1) 0) : Int).toNat (wrap64 ((rd (rd_L1 y112 (rd (rd_L1 l0_1 x12_1) 1)) (rd (rd_L1 l0_1 x12_1) 0)) + 1)))) l0_1 (l0_1.length : Int) (wrap64 (x12_1 + 1))) else (none)) else (none)) = some r := by first | (rw [hy112]; with_reducible exact H) | (have H2_ := (Option.bind_some _ _).symm.trans H; rw [hy112]; with_reducible exact H2_) | (have H2_ := (Option.bind_some _ _).symm.trans H; with_reducible exact H2_) | with_reducible exact H | (rw [hy112]; exact H) | exact H
   have Ny112 := Aside0.mk hy112
   clear hy112
   by_cases c17 : (rd (rd_L1 l0_1 x12_1) 1) < (x3_1.length : Int)
   rotate_left
   ·rw [if_neg c17] at H
    exact absurd H (by simp)
   rw [if_pos c17] at H
   have c17b0 : decide ((rd (rd_L1 l0_1 x12_1) 1) < (x3_1.length : Int)) = true := decide_eq_true c17
   clear c17
   by_cases c18 : (rd (rd_L1 l0_1 x12_1) 0) < ((rd_L1 y112 (rd (rd_L1 l0_1 x12_1) 1)).length : Int)
   rotate_left
   ·rw [if_neg c18] at H
    exact absurd H (by simp)
   rw [if_pos c18] at H
   have c18b0 : decide ((rd (rd_L1 l0_1 x12_1) 0) < ((rd_L1 y112 (rd (rd_L1 l0_1 x12_1) 1)).length : Int)) = true := decide_eq_true c18
   clear c18
   obtain ⟨y117, hy117⟩ : ∃ y_ : List Int, y_ = ((rd_L1 y112 (rd (rd_L1 l0_1 x12_1) 1)).set ((rd (rd_L1 l0_1 x12_1) 0) : Int).toNat (wrap64 ((rd (rd_L1 y112 (rd (rd_L1 l0_1 x12_1) 1)) (rd (rd_L1 l0_1 x12_1) 0)) + 1))) := ⟨_, rfl⟩
   replace H : (impl_Graph_adjacency.l0 k1 (y112.set ((rd (rd_L1 l0_1 x12_1) 1) : Int).toNat y117) l0_1 (l0_1.length : Int) (wrap64 (x12_1 + 1))) = some r := by first | (rw [hy117]; with_reducible exact H) | (have H2_ := (Option.bind_some _ _).symm.trans H; rw [hy117]; with_reducible exact H2_) | (have H2_ := (Option.bind_some _ _).symm.trans H; with_reducible exact H2_) | with_reducible exact H | (rw [hy117]; exact H) | exact H
   have Ny117 := Aside0.mk hy117
   clear hy117
   obtain ⟨y119, hy119⟩ : ∃ y_ : List (List Int), y_ = (y112.set ((rd (rd_L1 l0_1 x12_1) 1) : Int).toNat y117) := ⟨_, rfl⟩
   replace H : (impl_Graph_adjacency.l0 k1 y119 l0_1 (l0_1.length : Int) (wrap64 (x12_1 + 1))) = some r := by first | (rw [hy119]; with_reducible exact H) | (have H2_ := (Option.bind_some _ _).symm.trans H; rw [hy119]; with_reducible exact H2_) | (have H2_ := (Option.bind_some _ _).symm.trans H; with_reducible exact H2_) | with_reducible exact H | (rw [hy119]; exact H) | exact H
   have Ny119 := Aside0.mk hy119
   clear hy119
   have H' := Aside0.mk H
   clear H
   have p105 : 0 ≤ (x12_1 : Int) := of_decide_eq_true (z0_)
   have q105 : x12_1 < (l0_1.length : Int) := of_decide_eq_true (z0_)
   obtain ⟨ad105, A105_0, c105_0, e105, hx105_0, hl105_0, hi105_0⟩ := at_L1 HR0_1.out x12_1 p105 q105
   cases e105
   replace hx105_0 := (HB.out.cell (World.block_lt_of_cell? w _ hx105_0)).trans hx105_0
   have HR105_0 := Aside0.mk hi105_0
   have HC105_0 := Aside0.mk hl105_0
   clear hi105_0 hl105_0
   replace p105 := eq_true p105
   replace q105 := eq_true q105
   try go_wp2
   have n0_ := Aside0.mk (Kd.S_drew HO_3.out)
   have n1_ := Aside0.mk (blk_drew BK101.out)
   have n2_ := Aside0.mk (below_drew1 HB.out)
   clear HO_3
   clear BK101
   clear HB
   have HO_3 := n0_
   have BK101 := n1_
   have HB := n2_
   clear n0_ n1_ n2_
   have p106 : 0 ≤ (0 : Int) := (by omega)
   have q106 : 0 < ((rd_L1 l0_1 x12_1).length : Int) := of_decide_eq_true (z0_)
   obtain ⟨ad106, e106, hx106_0⟩ := Kd.at_int HR105_0.out 0 p106 q106
   have hw106_0 := hx106_0
   (try rw [show ((0 : Int)).toNat = 0 from rfl] at hw106_0)
   (try rw [show 0 * 1 = 0 from rfl] at hw106_0)
   (try rw [Addr.add_zero'] at hw106_0)
   cases e106
   have qi106 : (0 < (rd_L1 l0_1 x12_1).length) = True := eq_true (by omega)
   (try rw [show ((0 : Int)).toNat = 0 from rfl] at hx106_0)
   (try rw [Addr.add_zero'] at hx106_0)
   replace hx106_0 := (HB.out.cell (World.block_lt_of_cell? w _ hx106_0)).trans hx106_0
   replace p106 := eq_true p106
   replace q106 := eq_true q106
   obtain ⟨Ao21, co21, eo21⟩ := Kd.S_slice HO_3.out
   (first | subst eo21 | (injection eo21 with f1_ f2_ f3_; have f4_ := f1_.symm; have f5_ := f3_.symm; clear f1_ f2_ f3_; subst f4_; subst f5_))
   have p107 : 0 ≤ ((rd (rd_L1 l0_1 x12_1) 0) : Int) := of_decide_eq_true (z0_)
   have q107 : (rd (rd_L1 l0_1 x12_1) 0) < (x3_1.length : Int) := of_decide_eq_true (z0_)
   obtain ⟨ad107, A107_0, c107_0, e107, hx107_0, hl107_0, hi107_0⟩ := at_L1 (Kd.S_reads' HO_3.out).2.2 (rd (rd_L1 l0_1 x12_1) 0) p107 q107
   cases e107
   obtain ⟨ce107, hce107, hMe107, hcc107⟩ := Kd.S_get HO_3.out [] (rd (rd_L1 l0_1 x12_1) 0) p107 (by first | exact q107 | exact of_decide_eq_true (z0_) | (have e_ := (Kd.S_reads' HO_3.out).1; omega))
   obtain ⟨ve107_0, rfl, ge107_0⟩ := hMe107
   have hv107_0 := hcc107 0 _ rfl
   rw [Nat.add_zero, show ((Kd.slice 2 (Kd.int .i64))).sz = 1 from rfl, Nat.mul_one] at hv107_0
   replace hv107_0 := Option.some.inj (hv107_0.symm.trans hx107_0)
   rw [hv107_0] at ge107_0
   have HL107_0 := Aside0.mk (show Kd.R (Kd.int .i64) 2 _ _ _ _ (rd_L1 x3_1 (rd (rd_L1 l0_1 x12_1) 0)) from ge107_0)
   clear hv107_0 ge107_0
   have HX107_0 := Aside0.mk hx107_0
   clear hcc107 hce107
   have HR107_0 := Aside0.mk hi107_0
   have HC107_0 := Aside0.mk hl107_0
   clear hi107_0 hl107_0
   replace p107 := eq_true p107
   replace q107 := eq_true q107
   have p108 : 0 ≤ (1 : Int) := (by omega)
   have q108 : 1 < ((rd_L1 l0_1 x12_1).length : Int) := of_decide_eq_true (z0_)
   obtain ⟨ad108, e108, hx108_0⟩ := Kd.at_int HR105_0.out 1 p108 q108
   have hw108_0 := hx108_0
   (try rw [show ((1 : Int)).toNat = 1 from rfl] at hw108_0)
   (try rw [show 1 * 1 = 1 from rfl] at hw108_0)
   (try simp only [Nat.reduceMul, Nat.reduceEqDiff, Go.Addr.add, ↓reduceIte] at hw108_0)
   obtain rfl : ad106 = ad108 := (by injection e108)
   (try simp only [show (1 : Int).toNat = 1 from rfl, Nat.reduceMul, Nat.reduceEqDiff, Go.Addr.add, ↓reduceIte] at hx108_0)
   have qi108 : (1 < (rd_L1 l0_1 x12_1).length) = True := eq_true (by omega)
   (try rw [show ((1 : Int)).toNat = 1 from rfl] at hx108_0)
   replace hx108_0 := (HB.out.cell (World.block_lt_of_cell? w _ hx108_0)).trans hx108_0
   replace p108 := eq_true p108
   replace q108 := eq_true q108
   have p109 : 0 ≤ ((rd (rd_L1 l0_1 x12_1) 1) : Int) := of_decide_eq_true (z0_)
   have q109 : (rd (rd_L1 l0_1 x12_1) 1) < ((rd_L1 x3_1 (rd (rd_L1 l0_1 x12_1) 0)).length : Int) := of_decide_eq_true (z0_)
   obtain ⟨ad109, e109, hx109_0⟩ := Kd.at_int (by repeat (first | (with_reducible exact HR107_0.out) | (with_reducible refine Kd.C_alloc ?_ _) | (with_reducible refine Kd.C_drewN ?_ _) | (with_reducible refine Kd.C_drew ?_) | exact HR107_0.out)) (rd (rd_L1 l0_1 x12_1) 1) p109 q109
   cases e109
   replace p109 := eq_true p109
   replace q109 := eq_true q109
   have p16 : 0 ≤ ((rd (rd_L1 l0_1 x12_1) 1) : Int) := of_decide_eq_true (z0_)
   have q16 : ((rd (rd_L1 l0_1 x12_1) 1) : Int) < (((rd_L1 x3_1 (rd (rd_L1 l0_1 x12_1) 0)).length : Int) : Int) := of_decide_eq_true (z0_)
   obtain ⟨go16, co16, eo16, gb16, gl16, cl16, HG16⟩ := Kd.R_form HL107_0.out (by omega)
   (first | cases eo16 | (injection eo16 with ea_ en_ ec_; (first | subst ea_ | (injection ea_ with ea_; subst ea_)); subst ec_; clear en_))
   have GB16 := Aside0.mk gb16
   have GG16 := Aside0.mk HG16
   clear gb16 gl16 HG16
   (first | simp only [add_plain] at hx109_0 | skip)
   obtain ⟨hx16_0, hf16_0⟩ := Kd.R_celln 0 HL107_0.out ((rd (rd_L1 l0_1 x12_1) 1) : Int) p16 q16
   replace p16 := eq_true p16
   replace q16 := eq_true q16
   have hq22 : ((rd (rd_L1 l0_1 x12_1) 0) : Int) < (x3_1.length : Int) := (by have h_ : ((rd (rd_L1 l0_1 x12_1) 0) : Int) < ((x3_1.length : Int) : Int) := of_decide_eq_true (z0_); first | exact h_ | (have e_ := (Kd.S_reads' HO_3.out).1; omega) | simpa only [List.length_set, List.length_set] using h_)
   obtain ⟨oki22, ce22, hcl22, hM22, hcc22, hok22, hbk22⟩ := Kd.S_borrow HO_3.out [] ((rd (rd_L1 l0_1 x12_1) 0) : Int) (of_decide_eq_true (z0_)) (by first | exact hq22 | (have e_ := (Kd.S_reads' HO_3.out).1; omega))
   obtain ⟨ve22_0, rfl, ge22_0⟩ := hM22
   have hv22 := hcc22 0 _ rfl
   rw [Nat.add_zero, show ((Kd.slice 2 (Kd.int .i64))).sz = 1 from rfl, Nat.mul_one] at hv22
   replace hv22 := Option.some.inj (hv22.symm.trans HX107_0.out)
   subst hv22
   clear hcc22 hcl22
   replace ge22_0 := (show Kd.R (Kd.int .i64) 2 _ _ _ _ (rd_L1 x3_1 (rd (rd_L1 l0_1 x12_1) 0)) from ge22_0)
   have HP22 := Kd.R_putg ge22_0 ((rd (rd_L1 l0_1 x12_1) 1) : Int) (wrap64 ((rd (rd_L1 x3_1 (rd (rd_L1 l0_1 x12_1) 0)) (rd (rd_L1 l0_1 x12_1) 1)) + 1))
   rw [← Ny110.out] at HP22
   have HS22 := hbk22 HP22.2 (fun k_ e_ => by injection e_ with e_; subst e_; exact ge22_0.1 _ rfl) (x' := y110) (Kd.M_row HP22.1)
   rw [← Ny112.out] at HS22
   have HQ22 := Aside0.mk HS22
   clear HP22 HS22 hbk22 hok22
   refine start_ (n := 14) (S := fun w' => w'.cell? ad106 = some (.int .i64 (rd (rd_L1 l0_1 x12_1) 0)) ∧ w'.cell? (ad107.add ((rd (rd_L1 l0_1 x12_1) 0)).toNat) = some (.slice (some ⟨go16, 0, none⟩) (rd_L1 x3_1 (rd (rd_L1 l0_1 x12_1) 0)).length c107_0) ∧ w'.cell? ⟨ad106.block, ad106.off + 1, none⟩ = some (.int .i64 (rd (rd_L1 l0_1 x12_1) 1)) ∧ w'.cell? ⟨go16, ((rd (rd_L1 l0_1 x12_1) 1)).toNat, none⟩ = some (.int .i64 (rd (rd_L1 x3_1 (rd (rd_L1 l0_1 x12_1) 0)) (rd (rd_L1 l0_1 x12_1) 1)))) (ds := [13]) #[false, false, false, false, false, false, false, false, false, false, false, false, false, false] (by kernel_rfl) rfl rfl ⟨((HB.out.cell (World.block_lt_of_cell? w _ hw106_0)).trans hw106_0), hx107_0, ((HB.out.cell (World.block_lt_of_cell? w _ hw108_0)).trans hw108_0), hx109_0⟩ (fun hHeld => ?_); refine with_tabW impl_Graph_adjacency.tab5 impl_Graph_adjacency.bits5 (fun HT_ HW_ => ?_)
   generalize wr.drew = w20 at HO_3 BK101 HB GG16 HL107_0 HQ22 HR107_0 HX107_0 hf16_0 hx106_0 hx107_0 hx108_0 hx109_0 hx16_0 hHeld ⊢
   refine pure_ (i := 0) (N := some 16) (v := ?_) (a' := ?_) #[true, false, false, false, false, false, false, false, false, false, false, false, false, false] rfl rfl (any_of HT_.out (by kernel_rfl)) (fun _ _ _ h => h) (Or.inl ⟨by rfl, ?_⟩) ?_ ?_
   rotate_left
   ·intro w'
    go_simp
    with_reducible rfl
   rotate_left
   ·simp only [Act.put, List.setIfInBounds_toArray, List.set_cons_zero, List.set_cons_succ, i64_w, i32_w]
    rfl
   refine pure_ (i := 1) (N := some 17) (v := ?_) (a' := ?_) #[true, true, false, false, false, false, false, false, false, false, false, false, false, false] rfl rfl (any_of HT_.out (by kernel_rfl)) (fun _ _ _ h => h) (Or.inl ⟨by rfl, ?_⟩) ?_ ?_
   rotate_left
   ·intro w'
    go_simp
    with_reducible rfl
   rotate_left
   ·simp only [Act.put, List.setIfInBounds_toArray, List.set_cons_zero, List.set_cons_succ, i64_w, i32_w]
    rfl
   refine pure_ (i := 2) (N := some 18) (v := ?_) (a' := ?_) #[true, true, true, false, false, false, false, false, false, false, false, false, false, false] rfl rfl (any_of HT_.out (by kernel_rfl)) (fun _ _ _ h => h) (Or.inl ⟨by rfl, ?_⟩) ?_ ?_
   rotate_left
   ·intro w'
    go_simp
    with_reducible rfl
   rotate_left
   ·simp only [Act.put, List.setIfInBounds_toArray, List.set_cons_zero, List.set_cons_succ, i64_w, i32_w]
    rfl
   refine pure_ (i := 6) (N := some 22) (v := ?_) (a' := ?_) #[true, true, true, false, false, false, true, false, false, false, false, false, false, false] rfl rfl (any_of HT_.out (by kernel_rfl)) (fun _ _ _ h => h) (Or.inl ⟨by rfl, ?_⟩) ?_ ?_
   rotate_left
   ·intro w'
    go_simp
    with_reducible rfl
   rotate_left
   ·simp only [Act.put, List.setIfInBounds_toArray, List.set_cons_zero, List.set_cons_succ, i64_w, i32_w]
    rfl
   refine pure_ (i := 7) (N := some 23) (v := ?_) (a' := ?_) #[true, true, true, false, false, false, true, true, false, false, false, false, false, false] rfl rfl (any_of HT_.out (by kernel_rfl)) (fun _ _ _ h => h) (Or.inl ⟨by rfl, ?_⟩) ?_ ?_
   rotate_left
   ·intro w'
    go_simp
    with_reducible rfl
   rotate_left
   ·simp only [Act.put, List.setIfInBounds_toArray, List.set_cons_zero, List.set_cons_succ, i64_w, i32_w]
    rfl
   refine take_ (i := 3) (N := some 19) (v := ?_) (a' := ?_) #[true, true, true, true, false, false, true, true, false, false, false, false, false, false] rfl rfl (take_ofW HT_.out HW_.out (by kernel_rfl)) (fun _ _ _ h => h) (Or.inl ⟨by rfl, ?_⟩) hHeld ?_ ?_
   rotate_left
   ·rintro w' ⟨s0, s1, s2, s3⟩
    go_simp
    with_reducible rfl
   rotate_left
   ·simp only [Act.put, List.setIfInBounds_toArray, List.set_cons_zero, List.set_cons_succ, i64_w, i32_w]
    rfl
   refine pure_ (i := 4) (N := some 20) (v := ?_) (a' := ?_) #[true, true, true, true, true, false, true, true, false, false, false, false, false, false] rfl rfl (any_of HT_.out (by kernel_rfl)) (fun _ _ _ h => h) (Or.inl ⟨by rfl, ?_⟩) ?_ ?_
   rotate_left
   ·intro w'
    go_simp
    with_reducible rfl
   rotate_left
   ·simp only [Act.put, List.setIfInBounds_toArray, List.set_cons_zero, List.set_cons_succ, i64_w, i32_w]
    rfl
   refine take_ (i := 5) (N := some 21) (v := ?_) (a' := ?_) #[true, true, true, true, true, true, true, true, false, false, false, false, false, false] rfl rfl (take_ofW HT_.out HW_.out (by kernel_rfl)) (fun _ _ _ h => h) (Or.inl ⟨by rfl, ?_⟩) hHeld ?_ ?_
   rotate_left
   ·rintro w' ⟨s0, s1, s2, s3⟩
    go_simp
    with_reducible rfl
   rotate_left
   ·simp only [Act.put, List.setIfInBounds_toArray, List.set_cons_zero, List.set_cons_succ, i64_w, i32_w]
    rfl
   refine take_ (i := 8) (N := some 24) (v := ?_) (a' := ?_) #[true, true, true, true, true, true, true, true, true, false, false, false, false, false] rfl rfl (take_ofW HT_.out HW_.out (by kernel_rfl)) (fun _ _ _ h => h) (Or.inl ⟨by rfl, ?_⟩) hHeld ?_ ?_
   rotate_left
   ·rintro w' ⟨s0, s1, s2, s3⟩
    go_simp
    with_reducible rfl
   rotate_left
   ·simp only [Act.put, List.setIfInBounds_toArray, List.set_cons_zero, List.set_cons_succ, i64_w, i32_w]
    rfl
   refine pure_ (i := 9) (N := some 25) (v := ?_) (a' := ?_) #[true, true, true, true, true, true, true, true, true, true, false, false, false, false] rfl rfl (any_of HT_.out (by kernel_rfl)) (fun _ _ _ h => h) (Or.inl ⟨by rfl, ?_⟩) ?_ ?_
   rotate_left
   ·intro w'
    go_simp
    with_reducible rfl
   rotate_left
   ·simp only [Act.put, List.setIfInBounds_toArray, List.set_cons_zero, List.set_cons_succ, i64_w, i32_w]
    rfl
   refine take_ (i := 10) (N := some 26) (v := ?_) (a' := ?_) #[true, true, true, true, true, true, true, true, true, true, true, false, false, false] rfl rfl (take_ofW HT_.out HW_.out (by kernel_rfl)) (fun _ _ _ h => h) (Or.inl ⟨by rfl, ?_⟩) hHeld ?_ ?_
   rotate_left
   ·rintro w' ⟨s0, s1, s2, s3⟩
    go_simp
    with_reducible rfl
   rotate_left
   ·simp only [Act.put, List.setIfInBounds_toArray, List.set_cons_zero, List.set_cons_succ, i64_w, i32_w]
    rfl
   refine pure_ (i := 11) (N := some 27) (v := ?_) (a' := ?_) #[true, true, true, true, true, true, true, true, true, true, true, true, false, false] rfl rfl (any_of HT_.out (by kernel_rfl)) (fun _ _ _ h => h) (Or.inl ⟨by rfl, ?_⟩) ?_ ?_
   rotate_left
   ·intro w'
    go_simp
    with_reducible rfl
   rotate_left
   ·simp only [Act.put, List.setIfInBounds_toArray, List.set_cons_zero, List.set_cons_succ, i64_w, i32_w]
    rfl
   refine pure_ (i := 12) (N := some 28) (v := ?_) (a' := ?_) #[true, true, true, true, true, true, true, true, true, true, true, true, true, false] rfl rfl (any_of HT_.out (by kernel_rfl)) (fun _ _ _ h => h) (Or.inl ⟨by rfl, ?_⟩) ?_ ?_
   rotate_left
   ·intro w'
    go_simp
    with_reducible rfl
   rotate_left
   ·simp only [Act.put, List.setIfInBounds_toArray, List.set_cons_zero, List.set_cons_succ, i64_w, i32_w]
    rfl
   refine last_ (i := 13) (N := none) #[true, true, true, true, true, true, true, true, true, true, true, true, true, true] rfl rfl (one_of HT_.out (by kernel_rfl)) (by decide) (fun K hK => ?_)
   refine skip_ (w1 := ?_) (by rfl) rfl ?_ ?_
   rotate_left
   ·go_simp
    rfl
   refine hK.out _ _ ?_
   clear hK K
   refine done_ (done_of HT_.out (by kernel_rfl)) ?_
   try go_wp2
   have n0_ : Aside0 (Kd.S (Kd.slice 2 (Kd.int .i64)) 32 (w20.setCell ⟨go16, ((rd (rd_L1 l0_1 x12_1) 1) : Int).toNat, none⟩ (.int .i64 (wrap64 ((rd (rd_L1 x3_1 (rd (rd_L1 l0_1 x12_1) 0)) (rd (rd_L1 l0_1 x12_1) 1)) + 1)))) w.heap.size (fun _ => True) (.slice (some ad107) x3_1.length co21) y112) := ⟨by (with_reducible repeat (first | apply Kd.S_alloc | apply Kd.S_drewN | apply Kd.S_drew)); exact HQ22.out⟩
   have n1_ : Aside0 ((w20.setCell ⟨go16, ((rd (rd_L1 l0_1 x12_1) 1) : Int).toNat, none⟩ (.int .i64 (wrap64 ((rd (rd_L1 x3_1 (rd (rd_L1 l0_1 x12_1) 0)) (rd (rd_L1 l0_1 x12_1) 1)) + 1)))).heap[gb101]? = some (.cells #[.int .i64 a0_0, .slice (some ad105) l0_1.length c0_1] 28 (0, 0))) := ⟨by (with_reducible repeat (first | refine blk_drewN ?_ _ | refine blk_drew ?_ | refine blk_alloc ?_ _)); refine blk_far ?_ (by have h_ := Kd.R_ne HL107_0.out BK101.out (by decide); intro e_; exact h_ (by rw [e_]; rfl)) _; (with_reducible repeat (first | refine blk_drewN ?_ _ | refine blk_drew ?_ | refine blk_alloc ?_ _)); exact BK101.out⟩
   have n2_ : Aside0 (Below w.heap.size w (w20.setCell ⟨go16, ((rd (rd_L1 l0_1 x12_1) 1) : Int).toNat, none⟩ (.int .i64 (wrap64 ((rd (rd_L1 x3_1 (rd (rd_L1 l0_1 x12_1) 0)) (rd (rd_L1 l0_1 x12_1) 1)) + 1))))) := ⟨by repeat (first | (with_reducible first | exact HB.out | apply below_alloc | apply pw_below_drewN | apply below_drew1 | refine below_set ?_ GB16.out | refine below_set ?_ GE101.out) | exact HB.out)⟩
   (try clear HO_3)
   (try clear BK101)
   (try clear HB)
   generalize (w20.setCell ⟨go16, ((rd (rd_L1 l0_1 x12_1) 1) : Int).toNat, none⟩ (.int .i64 (wrap64 ((rd (rd_L1 x3_1 (rd (rd_L1 l0_1 x12_1) 0)) (rd (rd_L1 l0_1 x12_1) 1)) + 1)))) = w24 at n0_ n1_ n2_ ⊢
   have HO_3 := n0_
   have BK101 := n1_
   have HB := n2_
   clear n0_ n1_ n2_
   have n0_ := Aside0.mk (Kd.S_drew HO_3.out)
   have n1_ := Aside0.mk (blk_drew BK101.out)
   have n2_ := Aside0.mk (below_drew1 HB.out)
   clear HO_3
   clear BK101
   clear HB
   have HO_3 := n0_
   have BK101 := n1_
   have HB := n2_
   clear n0_ n1_ n2_
   have p113 : 0 ≤ (1 : Int) := (by omega)
   have q113 : 1 < ((rd_L1 l0_1 x12_1).length : Int) := of_decide_eq_true (z0_)
   obtain ⟨ad113, e113, hx113_0⟩ := Kd.at_int HR105_0.out 1 p113 q113
   have hw113_0 := hx113_0
   (try rw [show ((1 : Int)).toNat = 1 from rfl] at hw113_0)
   (try rw [show 1 * 1 = 1 from rfl] at hw113_0)
   (try simp only [Nat.reduceMul, Nat.reduceEqDiff, Go.Addr.add, ↓reduceIte] at hw113_0)
   obtain rfl : ad106 = ad113 := (by injection e113)
   (try simp only [show (1 : Int).toNat = 1 from rfl, Nat.reduceMul, Nat.reduceEqDiff, Go.Addr.add, ↓reduceIte] at hx113_0)
   have qi113 : (1 < (rd_L1 l0_1 x12_1).length) = True := eq_true (by omega)
   (try rw [show ((1 : Int)).toNat = 1 from rfl] at hx113_0)
   replace hx113_0 := (HB.out.cell (World.block_lt_of_cell? w _ hx113_0)).trans hx113_0
   replace p113 := eq_true p113
   replace q113 := eq_true q113
   have p114 : 0 ≤ ((rd (rd_L1 l0_1 x12_1) 1) : Int) := of_decide_eq_true (z0_)
   have q114 : (rd (rd_L1 l0_1 x12_1) 1) < (y112.length : Int) := (by have h_ : ((rd (rd_L1 l0_1 x12_1) 1) : Int) < ((x3_1.length : Int) : Int) := of_decide_eq_true (z0_); first | (have e_ := (Kd.S_reads' HO_3.out).1; omega) | simpa only [Ny112.out, List.length_set] using h_)
   have ql114 : (((rd (rd_L1 l0_1 x12_1) 1) : Int) < ((x3_1.length : Int) : Int)) = True := eq_true (of_decide_eq_true (z0_))
   obtain ⟨ad114, A114_0, c114_0, e114, hx114_0, hl114_0, hi114_0⟩ := at_L1 (Kd.S_reads' HO_3.out).2.2 (rd (rd_L1 l0_1 x12_1) 1) p114 q114
   obtain rfl : ad107 = ad114 := (by injection e114)
   obtain ⟨ce114, hce114, hMe114, hcc114⟩ := Kd.S_get HO_3.out [] (rd (rd_L1 l0_1 x12_1) 1) p114 (by first | exact q114 | exact of_decide_eq_true (z0_) | (have e_ := (Kd.S_reads' HO_3.out).1; omega))
   obtain ⟨ve114_0, rfl, ge114_0⟩ := hMe114
   have hv114_0 := hcc114 0 _ rfl
   rw [Nat.add_zero, show ((Kd.slice 2 (Kd.int .i64))).sz = 1 from rfl, Nat.mul_one] at hv114_0
   replace hv114_0 := Option.some.inj (hv114_0.symm.trans hx114_0)
   rw [hv114_0] at ge114_0
   have HL114_0 := Aside0.mk (show Kd.R (Kd.int .i64) 2 _ _ _ _ (rd_L1 y112 (rd (rd_L1 l0_1 x12_1) 1)) from ge114_0)
   clear hv114_0 ge114_0
   have HX114_0 := Aside0.mk hx114_0
   clear hcc114 hce114
   have HR114_0 := Aside0.mk hi114_0
   have HC114_0 := Aside0.mk hl114_0
   clear hi114_0 hl114_0
   replace p114 := eq_true p114
   replace q114 := eq_true q114
   have p115 : 0 ≤ (0 : Int) := (by omega)
   have q115 : 0 < ((rd_L1 l0_1 x12_1).length : Int) := of_decide_eq_true (z0_)
   obtain ⟨ad115, e115, hx115_0⟩ := Kd.at_int HR105_0.out 0 p115 q115
   have hw115_0 := hx115_0
   (try rw [show ((0 : Int)).toNat = 0 from rfl] at hw115_0)
   (try rw [show 0 * 1 = 0 from rfl] at hw115_0)
   (try rw [Addr.add_zero'] at hw115_0)
   obtain rfl : ad106 = ad115 := (by injection e115)
   have qi115 : (0 < (rd_L1 l0_1 x12_1).length) = True := eq_true (by omega)
   (try rw [show ((0 : Int)).toNat = 0 from rfl] at hx115_0)
   (try rw [Addr.add_zero'] at hx115_0)
   replace hx115_0 := (HB.out.cell (World.block_lt_of_cell? w _ hx115_0)).trans hx115_0
   replace p115 := eq_true p115
   replace q115 := eq_true q115
   have p116 : 0 ≤ ((rd (rd_L1 l0_1 x12_1) 0) : Int) := of_decide_eq_true (z0_)
   have q116 : (rd (rd_L1 l0_1 x12_1) 0) < ((rd_L1 y112 (rd (rd_L1 l0_1 x12_1) 1)).length : Int) := of_decide_eq_true (z0_)
   obtain ⟨ad116, e116, hx116_0⟩ := Kd.at_int (by repeat (first | (with_reducible exact HR114_0.out) | (with_reducible refine Kd.C_alloc ?_ _) | (with_reducible refine Kd.C_drewN ?_ _) | (with_reducible refine Kd.C_drew ?_) | exact HR114_0.out)) (rd (rd_L1 l0_1 x12_1) 0) p116 q116
   cases e116
   replace p116 := eq_true p116
   replace q116 := eq_true q116
   have p19 : 0 ≤ ((rd (rd_L1 l0_1 x12_1) 0) : Int) := of_decide_eq_true (z0_)
   have q19 : ((rd (rd_L1 l0_1 x12_1) 0) : Int) < (((rd_L1 y112 (rd (rd_L1 l0_1 x12_1) 1)).length : Int) : Int) := of_decide_eq_true (z0_)
   obtain ⟨go19, co19, eo19, gb19, gl19, cl19, HG19⟩ := Kd.R_form HL114_0.out (by omega)
   (first | cases eo19 | (injection eo19 with ea_ en_ ec_; (first | subst ea_ | (injection ea_ with ea_; subst ea_)); subst ec_; clear en_))
   have GB19 := Aside0.mk gb19
   have GG19 := Aside0.mk HG19
   clear gb19 gl19 HG19
   (first | simp only [add_plain] at hx116_0 | skip)
   obtain ⟨hx19_0, hf19_0⟩ := Kd.R_celln 0 HL114_0.out ((rd (rd_L1 l0_1 x12_1) 0) : Int) p19 q19
   replace p19 := eq_true p19
   replace q19 := eq_true q19
   have hq26 : ((rd (rd_L1 l0_1 x12_1) 1) : Int) < (y112.length : Int) := (by have h_ : ((rd (rd_L1 l0_1 x12_1) 1) : Int) < ((x3_1.length : Int) : Int) := of_decide_eq_true (z0_); first | exact h_ | (have e_ := (Kd.S_reads' HO_3.out).1; omega) | simpa only [Ny112.out, List.length_set] using h_)
   obtain ⟨oki26, ce26, hcl26, hM26, hcc26, hok26, hbk26⟩ := Kd.S_borrow HO_3.out [] ((rd (rd_L1 l0_1 x12_1) 1) : Int) (of_decide_eq_true (z0_)) (by first | exact hq26 | (have e_ := (Kd.S_reads' HO_3.out).1; omega))
   obtain ⟨ve26_0, rfl, ge26_0⟩ := hM26
   have hv26 := hcc26 0 _ rfl
   rw [Nat.add_zero, show ((Kd.slice 2 (Kd.int .i64))).sz = 1 from rfl, Nat.mul_one] at hv26
   replace hv26 := Option.some.inj (hv26.symm.trans HX114_0.out)
   subst hv26
   clear hcc26 hcl26
   replace ge26_0 := (show Kd.R (Kd.int .i64) 2 _ _ _ _ (rd_L1 y112 (rd (rd_L1 l0_1 x12_1) 1)) from ge26_0)
   have HP26 := Kd.R_putg ge26_0 ((rd (rd_L1 l0_1 x12_1) 0) : Int) (wrap64 ((rd (rd_L1 y112 (rd (rd_L1 l0_1 x12_1) 1)) (rd (rd_L1 l0_1 x12_1) 0)) + 1))
   rw [← Ny117.out] at HP26
   have HS26 := hbk26 HP26.2 (fun k_ e_ => by injection e_ with e_; subst e_; exact ge26_0.1 _ rfl) (x' := y117) (Kd.M_row HP26.1)
   rw [← Ny119.out] at HS26
   have HQ26 := Aside0.mk HS26
   clear HP26 HS26 hbk26 hok26
   refine start_ (n := 14) (S := fun w' => w'.cell? ⟨ad106.block, ad106.off + 1, none⟩ = some (.int .i64 (rd (rd_L1 l0_1 x12_1) 1)) ∧ w'.cell? (ad107.add ((rd (rd_L1 l0_1 x12_1) 1)).toNat) = some (.slice (some ⟨go19, 0, none⟩) (rd_L1 y112 (rd (rd_L1 l0_1 x12_1) 1)).length c114_0) ∧ w'.cell? ad106 = some (.int .i64 (rd (rd_L1 l0_1 x12_1) 0)) ∧ w'.cell? ⟨go19, ((rd (rd_L1 l0_1 x12_1) 0)).toNat, none⟩ = some (.int .i64 (rd (rd_L1 y112 (rd (rd_L1 l0_1 x12_1) 1)) (rd (rd_L1 l0_1 x12_1) 0)))) (ds := [13]) #[false, false, false, false, false, false, false, false, false, false, false, false, false, false] (by kernel_rfl) rfl rfl ⟨((HB.out.cell (World.block_lt_of_cell? w _ hw113_0)).trans hw113_0), hx114_0, ((HB.out.cell (World.block_lt_of_cell? w _ hw115_0)).trans hw115_0), hx116_0⟩ (fun hHeld => ?_); refine with_tabW impl_Graph_adjacency.tab6 impl_Graph_adjacency.bits6 (fun HT_ HW_ => ?_)
   generalize w24.drew = w25 at HO_3 BK101 HB GG19 HL114_0 HQ22 HQ26 HR114_0 HX114_0 hf19_0 hx113_0 hx114_0 hx115_0 hx116_0 hx19_0 hHeld ⊢
   refine pure_ (i := 0) (N := some 29) (v := ?_) (a' := ?_) #[true, false, false, false, false, false, false, false, false, false, false, false, false, false] rfl rfl (any_of HT_.out (by kernel_rfl)) (fun _ _ _ h => h) (Or.inl ⟨by rfl, ?_⟩) ?_ ?_
   rotate_left
   ·intro w'
    go_simp
    with_reducible rfl
   rotate_left
   ·simp only [Act.put, List.setIfInBounds_toArray, List.set_cons_zero, List.set_cons_succ, i64_w, i32_w]
    rfl
   refine pure_ (i := 1) (N := some 30) (v := ?_) (a' := ?_) #[true, true, false, false, false, false, false, false, false, false, false, false, false, false] rfl rfl (any_of HT_.out (by kernel_rfl)) (fun _ _ _ h => h) (Or.inl ⟨by rfl, ?_⟩) ?_ ?_
   rotate_left
   ·intro w'
    go_simp
    with_reducible rfl
   rotate_left
   ·simp only [Act.put, List.setIfInBounds_toArray, List.set_cons_zero, List.set_cons_succ, i64_w, i32_w]
    rfl
   refine pure_ (i := 2) (N := some 31) (v := ?_) (a' := ?_) #[true, true, true, false, false, false, false, false, false, false, false, false, false, false] rfl rfl (any_of HT_.out (by kernel_rfl)) (fun _ _ _ h => h) (Or.inl ⟨by rfl, ?_⟩) ?_ ?_
   rotate_left
   ·intro w'
    go_simp
    with_reducible rfl
   rotate_left
   ·simp only [Act.put, List.setIfInBounds_toArray, List.set_cons_zero, List.set_cons_succ, i64_w, i32_w]
    rfl
   refine pure_ (i := 6) (N := some 35) (v := ?_) (a' := ?_) #[true, true, true, false, false, false, true, false, false, false, false, false, false, false] rfl rfl (any_of HT_.out (by kernel_rfl)) (fun _ _ _ h => h) (Or.inl ⟨by rfl, ?_⟩) ?_ ?_
   rotate_left
   ·intro w'
    go_simp
    with_reducible rfl
   rotate_left
   ·simp only [Act.put, List.setIfInBounds_toArray, List.set_cons_zero, List.set_cons_succ, i64_w, i32_w]
    rfl
   refine pure_ (i := 7) (N := some 36) (v := ?_) (a' := ?_) #[true, true, true, false, false, false, true, true, false, false, false, false, false, false] rfl rfl (any_of HT_.out (by kernel_rfl)) (fun _ _ _ h => h) (Or.inl ⟨by rfl, ?_⟩) ?_ ?_
   rotate_left
   ·intro w'
    go_simp
    with_reducible rfl
   rotate_left
   ·simp only [Act.put, List.setIfInBounds_toArray, List.set_cons_zero, List.set_cons_succ, i64_w, i32_w]
    rfl
   refine take_ (i := 3) (N := some 32) (v := ?_) (a' := ?_) #[true, true, true, true, false, false, true, true, false, false, false, false, false, false] rfl rfl (take_ofW HT_.out HW_.out (by kernel_rfl)) (fun _ _ _ h => h) (Or.inl ⟨by rfl, ?_⟩) hHeld ?_ ?_
   rotate_left
   ·rintro w' ⟨s0, s1, s2, s3⟩
    go_simp
    with_reducible rfl
   rotate_left
   ·simp only [Act.put, List.setIfInBounds_toArray, List.set_cons_zero, List.set_cons_succ, i64_w, i32_w]
    rfl
   refine pure_ (i := 4) (N := some 33) (v := ?_) (a' := ?_) #[true, true, true, true, true, false, true, true, false, false, false, false, false, false] rfl rfl (any_of HT_.out (by kernel_rfl)) (fun _ _ _ h => h) (Or.inl ⟨by rfl, ?_⟩) ?_ ?_
   rotate_left
   ·intro w'
    go_simp
    with_reducible rfl
   rotate_left
   ·simp only [Act.put, List.setIfInBounds_toArray, List.set_cons_zero, List.set_cons_succ, i64_w, i32_w]
    rfl
   refine take_ (i := 5) (N := some 34) (v := ?_) (a' := ?_) #[true, true, true, true, true, true, true, true, false, false, false, false, false, false] rfl rfl (take_ofW HT_.out HW_.out (by kernel_rfl)) (fun _ _ _ h => h) (Or.inl ⟨by rfl, ?_⟩) hHeld ?_ ?_
   rotate_left
   ·rintro w' ⟨s0, s1, s2, s3⟩
    go_simp
    with_reducible rfl
   rotate_left
   ·simp only [Act.put, List.setIfInBounds_toArray, List.set_cons_zero, List.set_cons_succ, i64_w, i32_w]
    rfl
   refine take_ (i := 8) (N := some 37) (v := ?_) (a' := ?_) #[true, true, true, true, true, true, true, true, true, false, false, false, false, false] rfl rfl (take_ofW HT_.out HW_.out (by kernel_rfl)) (fun _ _ _ h => h) (Or.inl ⟨by rfl, ?_⟩) hHeld ?_ ?_
   rotate_left
   ·rintro w' ⟨s0, s1, s2, s3⟩
    go_simp
    with_reducible rfl
   rotate_left
   ·simp only [Act.put, List.setIfInBounds_toArray, List.set_cons_zero, List.set_cons_succ, i64_w, i32_w]
    rfl
   refine pure_ (i := 9) (N := some 38) (v := ?_) (a' := ?_) #[true, true, true, true, true, true, true, true, true, true, false, false, false, false] rfl rfl (any_of HT_.out (by kernel_rfl)) (fun _ _ _ h => h) (Or.inl ⟨by rfl, ?_⟩) ?_ ?_
   rotate_left
   ·intro w'
    go_simp
    with_reducible rfl
   rotate_left
   ·simp only [Act.put, List.setIfInBounds_toArray, List.set_cons_zero, List.set_cons_succ, i64_w, i32_w]
    rfl
   refine take_ (i := 10) (N := some 39) (v := ?_) (a' := ?_) #[true, true, true, true, true, true, true, true, true, true, true, false, false, false] rfl rfl (take_ofW HT_.out HW_.out (by kernel_rfl)) (fun _ _ _ h => h) (Or.inl ⟨by rfl, ?_⟩) hHeld ?_ ?_
   rotate_left
   ·rintro w' ⟨s0, s1, s2, s3⟩
    go_simp
    with_reducible rfl
   rotate_left
   ·simp only [Act.put, List.setIfInBounds_toArray, List.set_cons_zero, List.set_cons_succ, i64_w, i32_w]
    rfl
   refine pure_ (i := 11) (N := some 40) (v := ?_) (a' := ?_) #[true, true, true, true, true, true, true, true, true, true, true, true, false, false] rfl rfl (any_of HT_.out (by kernel_rfl)) (fun _ _ _ h => h) (Or.inl ⟨by rfl, ?_⟩) ?_ ?_
   rotate_left
   ·intro w'
    go_simp
    with_reducible rfl
   rotate_left
   ·simp only [Act.put, List.setIfInBounds_toArray, List.set_cons_zero, List.set_cons_succ, i64_w, i32_w]
    rfl
   refine pure_ (i := 12) (N := some 41) (v := ?_) (a' := ?_) #[true, true, true, true, true, true, true, true, true, true, true, true, true, false] rfl rfl (any_of HT_.out (by kernel_rfl)) (fun _ _ _ h => h) (Or.inl ⟨by rfl, ?_⟩) ?_ ?_
   rotate_left
   ·intro w'
    go_simp
    with_reducible rfl
   rotate_left
   ·simp only [Act.put, List.setIfInBounds_toArray, List.set_cons_zero, List.set_cons_succ, i64_w, i32_w]
    rfl
   refine last_ (i := 13) (N := none) #[true, true, true, true, true, true, true, true, true, true, true, true, true, true] rfl rfl (one_of HT_.out (by kernel_rfl)) (by decide) (fun K hK => ?_)
   refine skip_ (w1 := ?_) (by rfl) rfl ?_ ?_
   rotate_left
   ·go_simp
    rfl
   refine hK.out _ _ ?_
   clear hK K
   refine done_ (done_of HT_.out (by kernel_rfl)) ?_
   try go_wp2
   go_roundg k1
   case measure => have := HK1.out; omega
   case rel => exact ⟨(y119), (wrap64 (x12_1 + 1)), (by first | rfl | (simp; done) | (simp [*]; done)), H', ⟨by have := HK1.out; omega⟩, ⟨by (with_reducible repeat (first | apply Kd.S_alloc | apply Kd.S_drewN | apply Kd.S_drew)); exact HQ26.out⟩, ⟨by (with_reducible repeat (first | refine blk_drewN ?_ _ | refine blk_drew ?_ | refine blk_alloc ?_ _)); refine blk_far ?_ (by have h_ := Kd.R_ne HL114_0.out BK101.out (by decide); intro e_; exact h_ (by rw [e_]; rfl)) _; (with_reducible repeat (first | refine blk_drewN ?_ _ | refine blk_drew ?_ | refine blk_alloc ?_ _)); exact BK101.out⟩, ⟨by repeat (first | (with_reducible first | exact HB.out | apply below_alloc | apply pw_below_drewN | apply below_drew1 | refine below_set ?_ GB19.out | refine below_set ?_ GE101.out) | exact HB.out)⟩⟩
end Go.Proofs.Ytbjjefipcigaoaa.X
end
